import Derived.Test.YtfgoojnblomonaaQFnExactWordElements5
import Derived.Test.YtfgoojnblomonaaQFnExactWordElements2
import Derived.Test.YtfgoojnblomonaaProg
import Derived.WalkKit
import Derived.ProofKit
import Derived.Lib.Bytealg
import Derived.Test.YtfgoojnblomonaaQFnExactWordElements4
section
set_option linter.unusedVariables false
set_option linter.unusedSimpArgs false
namespace Go.Proofs.Ytfgoojnblomonaa.V
open Go Go.Proofs.Ytfgoojnblomonaa.R Go.RowKit
def impl_statesOk.l0 : Nat → (List Int) → Int → (List Int) → Int → Int → Option (Bool)
  | 0, _, _, _, _, _ => none
  | k + 1, x0, x1, x7, x8, x9 => (if x9 < x8 then (if 0 ≤ x9 then (if x9 < (x7.length : Int) then (if (rdI x7 x9) < 0 then (some false) else (if (rdI x7 x9) ≥ x1 then (some false) else (if x9 > 0 then (if 0 ≤ (wrap64 (x9 - 1)) then (if (wrap64 (x9 - 1)) < (x0.length : Int) then (if (rdI x0 (wrap64 (x9 - 1))) ≥ (rdI x7 x9) then (some false) else (impl_statesOk.l0 k x0 x1 x7 x8 (wrap64 (x9 + 1)))) else none) else none) else (impl_statesOk.l0 k x0 x1 x7 x8 (wrap64 (x9 + 1)))))) else none) else none) else (some true))
def impl_statesOk.f (k : Nat) (l0 : List Int) (a1 : Int) : Option (Bool) := (impl_statesOk.l0 k l0 a1 l0 (l0.length : Int) 0)
def impl_statesOk.en (r : Bool) : Res := (.lit r, [])
def impl_statesOk.dec : List AV → List R.Obj → Option ((List Int) × Int)
  | [.imm (.I .i64 l0), .int .i64 a1], [] => some (l0, a1)
  | _, _ => none
def impl_statesOk.tw : Tw := ⟨59, (List Int) × Int, Bool, impl_statesOk.dec, fun a => [.imm (.I .i64 a.1), .int .i64 a.2], fun a => [], fun k a => impl_statesOk.f k a.1 a.2, fun a r => impl_statesOk.en r, true⟩
theorem impl_statesOk.dok : impl_statesOk.tw.DecOk := by
  intro args hc a h
  have h : impl_statesOk.dec args hc = some a := h
  unfold impl_statesOk.dec at h
  split at h
  · cases h; exact ⟨rfl, rfl⟩
  · cases h
noncomputable def impl_statesOk.O (k : Nat) : Oracle := noO
def impl_statesOk.fh : FH := ⟨fun i => match i with | 2 => some [(0, 0), (1, 0), (7, 0), (8, 0), (9, 0)] | _ => none, [], false⟩
noncomputable def impl_statesOk.x0 (k : Nat) (x0 : List Int) (x1 : Int) (x7 : List Int) (x8 : Int) (x9 : Int) : Option Res := R.exec Try.prog xhn impl_statesOk.O 0 Try.f59 impl_statesOk.fh k (R.point Try.f59 2) ⟨[(0, .imm (.I .i64 x0)), (1, .int .i64 x1), (7, .imm (.I .i64 x7)), (8, .int .i64 x8), (9, .int .i64 x9)], [], 2⟩
set_option maxRecDepth 100000 in
theorem impl_statesOk.e0 (k : Nat) (x0 : List Int) (x1 : Int) (x7 : List Int) (x8 : Int) (x9 : Int) : impl_statesOk.x0 (k + 1) x0 x1 x7 x8 x9 = (if x9 < x8 then (if 0 ≤ x9 then (if x9 < (x7.length : Int) then (if (rdI x7 x9) < 0 then (some (impl_statesOk.en false)) else (if (rdI x7 x9) ≥ x1 then (some (impl_statesOk.en false)) else (if x9 > 0 then (if 0 ≤ (wr64 (x9 - 1)) then (if (wr64 (x9 - 1)) < (x0.length : Int) then (if (rdI x0 (wr64 (x9 - 1))) ≥ (rdI x7 x9) then (some (impl_statesOk.en false)) else (impl_statesOk.x0 k x0 x1 x7 x8 (wr64 (x9 + 1)))) else none) else none) else (impl_statesOk.x0 k x0 x1 x7 x8 (wr64 (x9 + 1)))))) else none) else none) else (some (impl_statesOk.en true))) := by kernel_rfl
set_option maxRecDepth 100000 in
theorem impl_statesOk.ef (k : Nat) (l0 : List Int) (a1 : Int) : R.start Try.prog xhn impl_statesOk.O 0 Try.f59 impl_statesOk.fh k [.imm (.I .i64 l0), .int .i64 a1] [] = (impl_statesOk.x0 k l0 a1 l0 (l0.length : Int) 0) := by kernel_rfl
theorem impl_statesOk.link : ∀ k, (∀ (x0 : List Int) (x1 : Int) (x7 : List Int) (x8 : Int) (x9 : Int), impl_statesOk.x0 k x0 x1 x7 x8 x9 = (impl_statesOk.l0 k x0 x1 x7 x8 x9).map (impl_statesOk.en))
  | 0 => fun _ _ _ _ _ => by simp only [impl_statesOk.l0, R.map_none]; rfl
  | k + 1 => by
    have ih0 := impl_statesOk.link k
    · intro x0 x1 x7 x8 x9
      rw [impl_statesOk.e0]
      simp only [impl_statesOk.l0, R.map_ite, R.map_bind, R.map_none, R.map_some, R.wr64_eq, ← ih0]
theorem impl_statesOk.sf (k : Nat) (l0 : List Int) (a1 : Int) : R.start Try.prog xhn impl_statesOk.O 0 Try.f59 impl_statesOk.fh k [.imm (.I .i64 l0), .int .i64 a1] [] = (impl_statesOk.f k l0 a1).map (impl_statesOk.en) := by
  have ih0 := impl_statesOk.link k
  rw [impl_statesOk.ef]
  simp only [impl_statesOk.f, R.map_ite, R.map_bind, R.map_none, R.map_some, R.wr64_eq, ← ih0]
theorem impl_statesOk.ok (k : Nat) : impl_statesOk.tw.Ok Try.prog k := by
  intro md hmd a r h
  refine fn_ok (H := xhn) (fh := impl_statesOk.fh) (O := impl_statesOk.O) (k := k) Try.func59 (by kernel_rfl) (by kernel_rfl) (fun j _ => noO_sound) (by kernel_rfl) (m := 0) rfl ?_
  refine (impl_statesOk.sf k a.1 a.2).trans ?_
  exact congrArg (Option.map _) h
def cmp_isNaN_int.f (a0 : Int) : Option (Bool) := (some (!decide (a0 = a0)))
def cmp_isNaN_int.en (r : Bool) : Res := (.lit r, [])
def cmp_isNaN_int.dec : List AV → List R.Obj → Option (Int)
  | [.int .i64 a0], [] => some a0
  | _, _ => none
def cmp_isNaN_int.tw : Tw := ⟨83, Int, Bool, cmp_isNaN_int.dec, fun a => [.int .i64 a], fun a => [], fun k a => cmp_isNaN_int.f a, fun a r => cmp_isNaN_int.en r, true⟩
theorem cmp_isNaN_int.dok : cmp_isNaN_int.tw.DecOk := by
  intro args hc a h
  have h : cmp_isNaN_int.dec args hc = some a := h
  unfold cmp_isNaN_int.dec at h
  split at h
  · cases h; exact ⟨rfl, rfl⟩
  · cases h
noncomputable def cmp_isNaN_int.O (k : Nat) : Oracle := noO
def cmp_isNaN_int.fh : FH := ⟨fun i => match i with | _ => none, [], false⟩
set_option maxRecDepth 100000 in
theorem cmp_isNaN_int.ef (k : Nat) (a0 : Int) : R.start Try.prog xhn cmp_isNaN_int.O 0 Try.f83 cmp_isNaN_int.fh k [.int .i64 a0] [] = (some (cmp_isNaN_int.en (!decide (a0 = a0)))) := by kernel_rfl
theorem cmp_isNaN_int.sf (k : Nat) (a0 : Int) : R.start Try.prog xhn cmp_isNaN_int.O 0 Try.f83 cmp_isNaN_int.fh k [.int .i64 a0] [] = (cmp_isNaN_int.f a0).map (cmp_isNaN_int.en) := by
  rw [cmp_isNaN_int.ef]
  simp only [cmp_isNaN_int.f, R.map_ite, R.map_bind, R.map_none, R.map_some, R.wr64_eq]
theorem cmp_isNaN_int.ok (k : Nat) : cmp_isNaN_int.tw.Ok Try.prog k := by
  intro md hmd a r h
  refine fn_ok (H := xhn) (fh := cmp_isNaN_int.fh) (O := cmp_isNaN_int.O) (k := k) Try.func83 (by kernel_rfl) (by kernel_rfl) (fun j _ => noO_sound) (by kernel_rfl) (m := 0) rfl ?_
  refine (cmp_isNaN_int.sf k a).trans ?_
  exact congrArg (Option.map _) h
def cmp_Compare_int.f (a0 : Int) (a1 : Int) : Option (Int) := ((cmp_isNaN_int.f a0).bind fun t1 => ((cmp_isNaN_int.f a1).bind fun t2 => (if t1 = true then (if t2 = true then (some 0) else (some (-1))) else (if t2 = true then (some 1) else (if a0 < a1 then (some (-1)) else (if a0 > a1 then (some 1) else (some 0)))))))
def cmp_Compare_int.en (r : Int) : Res := (.int .i64 r, [])
def cmp_Compare_int.dec : List AV → List R.Obj → Option (Int × Int)
  | [.int .i64 a0, .int .i64 a1], [] => some (a0, a1)
  | _, _ => none
def cmp_Compare_int.tw : Tw := ⟨73, Int × Int, Int, cmp_Compare_int.dec, fun a => [.int .i64 a.1, .int .i64 a.2], fun a => [], fun k a => cmp_Compare_int.f a.1 a.2, fun a r => cmp_Compare_int.en r, true⟩
theorem cmp_Compare_int.dok : cmp_Compare_int.tw.DecOk := by
  intro args hc a h
  have h : cmp_Compare_int.dec args hc = some a := h
  unfold cmp_Compare_int.dec at h
  split at h
  · cases h; exact ⟨rfl, rfl⟩
  · cases h
noncomputable def cmp_Compare_int.O (k : Nat) : Oracle := (cmp_isNaN_int.tw.orc k noO)
def cmp_Compare_int.fh : FH := ⟨fun i => match i with | _ => none, [], false⟩
set_option maxRecDepth 100000 in
theorem cmp_Compare_int.ef (k : Nat) (a0 : Int) (a1 : Int) : R.start Try.prog xhn cmp_Compare_int.O 0 Try.f73 cmp_Compare_int.fh k [.int .i64 a0, .int .i64 a1] [] = ((cmp_isNaN_int.f a0).bind fun t1 => ((cmp_isNaN_int.f a1).bind fun t2 => (if t1 = true then (if t2 = true then (some (cmp_Compare_int.en 0)) else (some (cmp_Compare_int.en (-1)))) else (if t2 = true then (some (cmp_Compare_int.en 1)) else (if a0 < a1 then (some (cmp_Compare_int.en (-1))) else (if a0 > a1 then (some (cmp_Compare_int.en 1)) else (some (cmp_Compare_int.en 0)))))))) := by kernel_rfl
theorem cmp_Compare_int.sf (k : Nat) (a0 : Int) (a1 : Int) : R.start Try.prog xhn cmp_Compare_int.O 0 Try.f73 cmp_Compare_int.fh k [.int .i64 a0, .int .i64 a1] [] = (cmp_Compare_int.f a0 a1).map (cmp_Compare_int.en) := by
  rw [cmp_Compare_int.ef]
  simp only [cmp_Compare_int.f, R.map_ite, R.map_bind, R.map_none, R.map_some, R.wr64_eq]
theorem cmp_Compare_int.ok (k : Nat) : cmp_Compare_int.tw.Ok Try.prog k := by
  intro md hmd a r h
  refine fn_ok (H := xhn) (fh := cmp_Compare_int.fh) (O := cmp_Compare_int.O) (k := k) Try.func73 (by kernel_rfl) (by kernel_rfl) (fun j _ => (Tw.orc_sound cmp_isNaN_int.dok (cmp_isNaN_int.ok j) (fun _ => rfl) noO_sound)) (by kernel_rfl) (m := 0) rfl ?_
  refine (cmp_Compare_int.sf k a.1 a.2).trans ?_
  exact congrArg (Option.map _) h
def bytealg_CompareString.f (a0 a1 : ByteArray) : Option Int := some (Lib.compareBytes a0.data.toList a1.data.toList)
def bytealg_CompareString.dec : List AV → List R.Obj → Option (ByteArray × ByteArray)
  | [.str a0, .str a1], [] => some (a0, a1)
  | _, _ => none
def bytealg_CompareString.tw : Tw := ⟨84, ByteArray × ByteArray, Int, bytealg_CompareString.dec, fun a => [.str a.1, .str a.2], fun a => [], fun k a => bytealg_CompareString.f a.1 a.2, fun a r => (.int .i64 r, []), true⟩
theorem bytealg_CompareString.dok : bytealg_CompareString.tw.DecOk := by
  intro args hc a h
  have h : bytealg_CompareString.dec args hc = some a := h
  unfold bytealg_CompareString.dec at h
  split at h
  · cases h; exact ⟨rfl, rfl⟩
  · cases h
set_option maxRecDepth 100000 in
set_option maxHeartbeats 8000000 in
theorem bytealg_CompareString.calls (a0 a1 : ByteArray) (w : World) : Calls Try.prog 84 #[.string a0, .string a1] w fun e w' => e = .returned (.int .i64 (Lib.compareBytes a0.data.toList a1.data.toList)) ∧ w' = w := by
  go_enter Try.func84, Try.ntmps84
  go_wp2
  rw [run_callFunc_extern Try.func86 (by kernel_rfl) (by kernel_rfl) (by kernel_rfl) (e := Extern.BytealgCompare.compare) (by kernel_rfl), Lib.run_compareString]
  simp only [Result.andThen]
  rw [Oper.upon_value]
  go_wp2
  go_ret
  exact ⟨rfl, rfl⟩
theorem bytealg_CompareString.ok (k : Nat) : bytealg_CompareString.tw.Ok Try.prog k := by
  intro md hmd a r h
  obtain rfl := Option.some.inj (show some _ = some r from h)
  refine ⟨callable_of Try.func84 (by kernel_rfl) (by kernel_rfl), fun w M I vs E => ?_⟩
  have e : vs = #[.string a.1, .string a.2] := two_of E.len (fun q => (E.args 0 _ _ rfl q).str_inv) (fun q => (E.args 1 _ _ rfl q).str_inv)
  subst e
  refine (bytealg_CompareString.calls a.1 a.2 w).mono fun e w' => ?_
  rintro ⟨rfl, rfl⟩
  exact ⟨_, M, rfl, (E.rel md).weaken (fun κ q => q.elim), .closed (.int _ _)⟩
def strings_Compare.f (a0 : ByteArray) (a1 : ByteArray) : Option (Int) := ((bytealg_CompareString.f a0 a1).bind fun t1 => (some t1))
def strings_Compare.en (r : Int) : Res := (.int .i64 r, [])
def strings_Compare.dec : List AV → List R.Obj → Option (ByteArray × ByteArray)
  | [.str a0, .str a1], [] => some (a0, a1)
  | _, _ => none
def strings_Compare.tw : Tw := ⟨74, ByteArray × ByteArray, Int, strings_Compare.dec, fun a => [.str a.1, .str a.2], fun a => [], fun k a => strings_Compare.f a.1 a.2, fun a r => strings_Compare.en r, true⟩
theorem strings_Compare.dok : strings_Compare.tw.DecOk := by
  intro args hc a h
  have h : strings_Compare.dec args hc = some a := h
  unfold strings_Compare.dec at h
  split at h
  · cases h; exact ⟨rfl, rfl⟩
  · cases h
noncomputable def strings_Compare.O (k : Nat) : Oracle := (bytealg_CompareString.tw.orc k noO)
def strings_Compare.fh : FH := ⟨fun i => match i with | _ => none, [], false⟩
set_option maxRecDepth 100000 in
theorem strings_Compare.ef (k : Nat) (a0 : ByteArray) (a1 : ByteArray) : R.start Try.prog xhn strings_Compare.O 0 Try.f74 strings_Compare.fh k [.str a0, .str a1] [] = ((bytealg_CompareString.f a0 a1).bind fun t1 => (some (strings_Compare.en t1))) := by kernel_rfl
theorem strings_Compare.sf (k : Nat) (a0 : ByteArray) (a1 : ByteArray) : R.start Try.prog xhn strings_Compare.O 0 Try.f74 strings_Compare.fh k [.str a0, .str a1] [] = (strings_Compare.f a0 a1).map (strings_Compare.en) := by
  rw [strings_Compare.ef]
  simp only [strings_Compare.f, R.map_ite, R.map_bind, R.map_none, R.map_some, R.wr64_eq]
theorem strings_Compare.ok (k : Nat) : strings_Compare.tw.Ok Try.prog k := by
  intro md hmd a r h
  refine fn_ok (H := xhn) (fh := strings_Compare.fh) (O := strings_Compare.O) (k := k) Try.func74 (by kernel_rfl) (by kernel_rfl) (fun j _ => (Tw.orc_sound bytealg_CompareString.dok (bytealg_CompareString.ok j) (fun _ => rfl) noO_sound)) (by kernel_rfl) (m := 0) rfl ?_
  refine (strings_Compare.sf k a.1 a.2).trans ?_
  exact congrArg (Option.map _) h
def cmp_Or_int.l0 : Nat → (List Int) → Int → Int → Option (Int)
  | 0, _, _, _ => none
  | k + 1, x6, x7, x8 => (if x8 < x7 then (if 0 ≤ x8 then (if x8 < (x6.length : Int) then (if (rdI x6 x8) = 0 then (cmp_Or_int.l0 k x6 x7 (wrap64 (x8 + 1))) else (some (rdI x6 x8))) else none) else none) else (some 0))
def cmp_Or_int.f (k : Nat) (l0 : List Int) : Option (Int) := (cmp_Or_int.l0 k l0 (l0.length : Int) 0)
def cmp_Or_int.en (r : Int) : Res := (.int .i64 r, [])
def cmp_Or_int.dec : List AV → List R.Obj → Option (List Int)
  | [.imm (.I .i64 l0)], [] => some l0
  | _, _ => none
def cmp_Or_int.tw : Tw := ⟨72, List Int, Int, cmp_Or_int.dec, fun a => [.imm (.I .i64 a)], fun a => [], fun k a => cmp_Or_int.f k a, fun a r => cmp_Or_int.en r, true⟩
theorem cmp_Or_int.dok : cmp_Or_int.tw.DecOk := by
  intro args hc a h
  have h : cmp_Or_int.dec args hc = some a := h
  unfold cmp_Or_int.dec at h
  split at h
  · cases h; exact ⟨rfl, rfl⟩
  · cases h
noncomputable def cmp_Or_int.O (k : Nat) : Oracle := noO
def cmp_Or_int.fh : FH := ⟨fun i => match i with | 3 => some [(3, 0), (6, 0), (7, 0), (8, 0)] | _ => none, [], false⟩
noncomputable def cmp_Or_int.x0 (k : Nat) (x6 : List Int) (x7 : Int) (x8 : Int) : Option Res := R.exec Try.prog xhn cmp_Or_int.O 0 Try.f72 cmp_Or_int.fh k (R.point Try.f72 3) ⟨[(3, .int .i64 0), (6, .imm (.I .i64 x6)), (7, .int .i64 x7), (8, .int .i64 x8)], [], 2⟩
set_option maxRecDepth 100000 in
theorem cmp_Or_int.e0 (k : Nat) (x6 : List Int) (x7 : Int) (x8 : Int) : cmp_Or_int.x0 (k + 1) x6 x7 x8 = (if x8 < x7 then (if 0 ≤ x8 then (if x8 < (x6.length : Int) then (if (rdI x6 x8) = 0 then (cmp_Or_int.x0 k x6 x7 (wr64 (x8 + 1))) else (some (cmp_Or_int.en (rdI x6 x8)))) else none) else none) else (some (cmp_Or_int.en 0))) := by kernel_rfl
set_option maxRecDepth 100000 in
theorem cmp_Or_int.ef (k : Nat) (l0 : List Int) : R.start Try.prog xhn cmp_Or_int.O 0 Try.f72 cmp_Or_int.fh k [.imm (.I .i64 l0)] [] = (cmp_Or_int.x0 k l0 (l0.length : Int) 0) := by kernel_rfl
theorem cmp_Or_int.link : ∀ k, (∀ (x6 : List Int) (x7 : Int) (x8 : Int), cmp_Or_int.x0 k x6 x7 x8 = (cmp_Or_int.l0 k x6 x7 x8).map (cmp_Or_int.en))
  | 0 => fun _ _ _ => by simp only [cmp_Or_int.l0, R.map_none]; rfl
  | k + 1 => by
    have ih0 := cmp_Or_int.link k
    · intro x6 x7 x8
      rw [cmp_Or_int.e0]
      simp only [cmp_Or_int.l0, R.map_ite, R.map_bind, R.map_none, R.map_some, R.wr64_eq, ← ih0]
theorem cmp_Or_int.sf (k : Nat) (l0 : List Int) : R.start Try.prog xhn cmp_Or_int.O 0 Try.f72 cmp_Or_int.fh k [.imm (.I .i64 l0)] [] = (cmp_Or_int.f k l0).map (cmp_Or_int.en) := by
  have ih0 := cmp_Or_int.link k
  rw [cmp_Or_int.ef]
  simp only [cmp_Or_int.f, R.map_ite, R.map_bind, R.map_none, R.map_some, R.wr64_eq, ← ih0]
theorem cmp_Or_int.ok (k : Nat) : cmp_Or_int.tw.Ok Try.prog k := by
  intro md hmd a r h
  refine fn_ok (H := xhn) (fh := cmp_Or_int.fh) (O := cmp_Or_int.O) (k := k) Try.func72 (by kernel_rfl) (by kernel_rfl) (fun j _ => noO_sound) (by kernel_rfl) (m := 0) rfl ?_
  refine (cmp_Or_int.sf k a).trans ?_
  exact congrArg (Option.map _) h
def impl_stepOrder.f (k : Nat) (a0_0 : Int) (a0_1 : ByteArray) (a0_2 : Int) (a0_3 : Int) (a1_0 : Int) (a1_1 : ByteArray) (a1_2 : Int) (a1_3 : Int) : Option (Int) := ((cmp_Compare_int.f a0_0 a1_0).bind fun t1 => ((strings_Compare.f a0_1 a1_1).bind fun t2 => ((cmp_Compare_int.f a0_2 a1_2).bind fun t3 => ((cmp_Or_int.f k ([t1, t2, t3])).bind fun t4 => (some t4)))))
def impl_stepOrder.en (r : Int) : Res := (.int .i64 r, [])
def impl_stepOrder.dec : List AV → List R.Obj → Option (Int × ByteArray × Int × Int × Int × ByteArray × Int × Int)
  | [.agg [.int .i64 a0_0, .str a0_1, .int .i64 a0_2, .int .i64 a0_3], .agg [.int .i64 a1_0, .str a1_1, .int .i64 a1_2, .int .i64 a1_3]], [] => some (a0_0, a0_1, a0_2, a0_3, a1_0, a1_1, a1_2, a1_3)
  | _, _ => none
def impl_stepOrder.tw : Tw := ⟨60, Int × ByteArray × Int × Int × Int × ByteArray × Int × Int, Int, impl_stepOrder.dec, fun a => [.agg [.int .i64 a.1, .str a.2.1, .int .i64 a.2.2.1, .int .i64 a.2.2.2.1], .agg [.int .i64 a.2.2.2.2.1, .str a.2.2.2.2.2.1, .int .i64 a.2.2.2.2.2.2.1, .int .i64 a.2.2.2.2.2.2.2]], fun a => [], fun k a => impl_stepOrder.f k a.1 a.2.1 a.2.2.1 a.2.2.2.1 a.2.2.2.2.1 a.2.2.2.2.2.1 a.2.2.2.2.2.2.1 a.2.2.2.2.2.2.2, fun a r => impl_stepOrder.en r, true⟩
theorem impl_stepOrder.dok : impl_stepOrder.tw.DecOk := by
  intro args hc a h
  have h : impl_stepOrder.dec args hc = some a := h
  unfold impl_stepOrder.dec at h
  split at h
  · cases h; exact ⟨rfl, rfl⟩
  · cases h
noncomputable def impl_stepOrder.O (k : Nat) : Oracle := (cmp_Compare_int.tw.orc k (strings_Compare.tw.orc k (cmp_Or_int.tw.orc k noO)))
def impl_stepOrder.fh : FH := ⟨fun i => match i with | _ => none, [], false⟩
set_option maxRecDepth 100000 in
theorem impl_stepOrder.ef (k : Nat) (a0_0 : Int) (a0_1 : ByteArray) (a0_2 : Int) (a0_3 : Int) (a1_0 : Int) (a1_1 : ByteArray) (a1_2 : Int) (a1_3 : Int) : R.start Try.prog xhn impl_stepOrder.O 0 Try.f60 impl_stepOrder.fh k [.agg [.int .i64 a0_0, .str a0_1, .int .i64 a0_2, .int .i64 a0_3], .agg [.int .i64 a1_0, .str a1_1, .int .i64 a1_2, .int .i64 a1_3]] [] = ((cmp_Compare_int.f a0_0 a1_0).bind fun t1 => ((strings_Compare.f a0_1 a1_1).bind fun t2 => ((cmp_Compare_int.f a0_2 a1_2).bind fun t3 => ((cmp_Or_int.f k ([t1, t2, t3])).bind fun t4 => (some (impl_stepOrder.en t4)))))) := by kernel_rfl
theorem impl_stepOrder.sf (k : Nat) (a0_0 : Int) (a0_1 : ByteArray) (a0_2 : Int) (a0_3 : Int) (a1_0 : Int) (a1_1 : ByteArray) (a1_2 : Int) (a1_3 : Int) : R.start Try.prog xhn impl_stepOrder.O 0 Try.f60 impl_stepOrder.fh k [.agg [.int .i64 a0_0, .str a0_1, .int .i64 a0_2, .int .i64 a0_3], .agg [.int .i64 a1_0, .str a1_1, .int .i64 a1_2, .int .i64 a1_3]] [] = (impl_stepOrder.f k a0_0 a0_1 a0_2 a0_3 a1_0 a1_1 a1_2 a1_3).map (impl_stepOrder.en) := by
  rw [impl_stepOrder.ef]
  simp only [impl_stepOrder.f, R.map_ite, R.map_bind, R.map_none, R.map_some, R.wr64_eq]
theorem impl_stepOrder.ok (k : Nat) : impl_stepOrder.tw.Ok Try.prog k := by
  intro md hmd a r h
  refine fn_ok (H := xhn) (fh := impl_stepOrder.fh) (O := impl_stepOrder.O) (k := k) Try.func60 (by kernel_rfl) (by kernel_rfl) (fun j _ => (Tw.orc_sound cmp_Compare_int.dok (cmp_Compare_int.ok j) (fun _ => rfl) (Tw.orc_sound strings_Compare.dok (strings_Compare.ok j) (fun _ => rfl) (Tw.orc_sound cmp_Or_int.dok (cmp_Or_int.ok j) (fun _ => rfl) noO_sound)))) (by kernel_rfl) (m := 0) rfl ?_
  refine (impl_stepOrder.sf k a.1 a.2.1 a.2.2.1 a.2.2.2.1 a.2.2.2.2.1 a.2.2.2.2.2.1 a.2.2.2.2.2.2.1 a.2.2.2.2.2.2.2).trans ?_
  exact congrArg (Option.map _) h
def impl_AutomatonValid.l0 : Nat → (List Stp) → Int → Int → Int → (List Int) → (List Int) → (List Stp) → Option (Bool)
  | 0, _, _, _, _, _, _, _ => none
  | k + 1, x36, x37, x38, y0_0, y0_1, y0_2, y0_3 => (if x38 < x37 then (if 0 ≤ x38 then (if x38 < (x36.length : Int) then (if (rdT x36 x38).f0 < 0 then (some false) else (if (rdT x36 x38).f0 ≥ y0_0 then (some false) else (if (rdT x36 x38).f2 < 0 then (some false) else (if (rdT x36 x38).f2 ≥ y0_0 then (some false) else (if (rdT x36 x38).f1.toList = ([97] : List UInt8) then (if (rdT x36 x38).f3 < 0 then (some false) else (if (rdT x36 x38).f3 > 3 then (some false) else (if x38 > 0 then (if 0 ≤ (wrap64 (x38 - 1)) then (if (wrap64 (x38 - 1)) < (y0_3.length : Int) then ((impl_stepOrder.f k ((rdT y0_3 (wrap64 (x38 - 1))).f0) ((rdT y0_3 (wrap64 (x38 - 1))).f1) ((rdT y0_3 (wrap64 (x38 - 1))).f2) ((rdT y0_3 (wrap64 (x38 - 1))).f3) ((rdT x36 x38).f0) ((rdT x36 x38).f1) ((rdT x36 x38).f2) ((rdT x36 x38).f3)).bind fun t3 => (if t3 ≥ 0 then (some false) else (impl_AutomatonValid.l0 k x36 x37 (wrap64 (x38 + 1)) y0_0 y0_1 y0_2 y0_3))) else none) else none) else (impl_AutomatonValid.l0 k x36 x37 (wrap64 (x38 + 1)) y0_0 y0_1 y0_2 y0_3)))) else (if (rdT x36 x38).f1.toList = ([98] : List UInt8) then (if (rdT x36 x38).f3 < 0 then (some false) else (if (rdT x36 x38).f3 > 3 then (some false) else (if x38 > 0 then (if 0 ≤ (wrap64 (x38 - 1)) then (if (wrap64 (x38 - 1)) < (y0_3.length : Int) then ((impl_stepOrder.f k ((rdT y0_3 (wrap64 (x38 - 1))).f0) ((rdT y0_3 (wrap64 (x38 - 1))).f1) ((rdT y0_3 (wrap64 (x38 - 1))).f2) ((rdT y0_3 (wrap64 (x38 - 1))).f3) ((rdT x36 x38).f0) ((rdT x36 x38).f1) ((rdT x36 x38).f2) ((rdT x36 x38).f3)).bind fun t4 => (if t4 ≥ 0 then (some false) else (impl_AutomatonValid.l0 k x36 x37 (wrap64 (x38 + 1)) y0_0 y0_1 y0_2 y0_3))) else none) else none) else (impl_AutomatonValid.l0 k x36 x37 (wrap64 (x38 + 1)) y0_0 y0_1 y0_2 y0_3)))) else (some false))))))) else none) else none) else (some true))
def impl_AutomatonValid.f (k : Nat) (a0_0 : Int) (l0_1 : List Int) (l0_2 : List Int) (l0_3 : List Stp) : Option (Bool) := (if a0_0 < 1 then (some false) else (if a0_0 > 4 then (some false) else (if (l0_3.length : Int) > 24 then (some false) else ((impl_statesOk.f k l0_1 a0_0).bind fun t1 => (if t1 = true then ((impl_statesOk.f k l0_2 a0_0).bind fun t2 => (if t2 = true then (impl_AutomatonValid.l0 k l0_3 (l0_3.length : Int) 0 a0_0 l0_1 l0_2 l0_3) else (some false))) else (some false))))))
def impl_AutomatonValid.en (r : Bool) : Res := (.lit r, [])
def impl_AutomatonValid.dec : List AV → List R.Obj → Option (Int × (List Int) × (List Int) × (List Stp))
  | [.agg [.int .i64 a0_0, .imm (.I .i64 l0_1), .imm (.I .i64 l0_2), .imm (.T l0_3)]], [] => some (a0_0, l0_1, l0_2, l0_3)
  | _, _ => none
def impl_AutomatonValid.tw : Tw := ⟨36, Int × (List Int) × (List Int) × (List Stp), Bool, impl_AutomatonValid.dec, fun a => [.agg [.int .i64 a.1, .imm (.I .i64 a.2.1), .imm (.I .i64 a.2.2.1), .imm (.T a.2.2.2)]], fun a => [], fun k a => impl_AutomatonValid.f k a.1 a.2.1 a.2.2.1 a.2.2.2, fun a r => impl_AutomatonValid.en r, true⟩
theorem impl_AutomatonValid.dok : impl_AutomatonValid.tw.DecOk := by
  intro args hc a h
  have h : impl_AutomatonValid.dec args hc = some a := h
  unfold impl_AutomatonValid.dec at h
  split at h
  · cases h; exact ⟨rfl, rfl⟩
  · cases h
noncomputable def impl_AutomatonValid.O (k : Nat) : Oracle := (impl_statesOk.tw.orc k (impl_stepOrder.tw.orc k noO))
def impl_AutomatonValid.fh : FH := ⟨fun i => match i with | 4 => some [(1, 0), (36, 0), (37, 0), (38, 0)] | _ => none, [], false⟩
noncomputable def impl_AutomatonValid.x0 (k : Nat) (x36 : List Stp) (x37 : Int) (x38 : Int) (y0_0 : Int) (y0_1 : List Int) (y0_2 : List Int) (y0_3 : List Stp) : Option Res := R.exec Try.prog xhn impl_AutomatonValid.O 0 Try.f36 impl_AutomatonValid.fh k (R.point Try.f36 4) ⟨[(1, .ptr 0 0), (36, .imm (.T x36)), (37, .int .i64 x37), (38, .int .i64 x38)], [(0, .box false [.int .i64 y0_0, .imm (.I .i64 y0_1), .imm (.I .i64 y0_2), .imm (.T y0_3)])], 3⟩
set_option maxRecDepth 100000 in
theorem impl_AutomatonValid.e0 (k : Nat) (x36 : List Stp) (x37 : Int) (x38 : Int) (y0_0 : Int) (y0_1 : List Int) (y0_2 : List Int) (y0_3 : List Stp) : impl_AutomatonValid.x0 (k + 1) x36 x37 x38 y0_0 y0_1 y0_2 y0_3 = (if x38 < x37 then (if 0 ≤ x38 then (if x38 < (x36.length : Int) then (if (rdT x36 x38).f0 < 0 then (some (impl_AutomatonValid.en false)) else (if (rdT x36 x38).f0 ≥ y0_0 then (some (impl_AutomatonValid.en false)) else (if (rdT x36 x38).f2 < 0 then (some (impl_AutomatonValid.en false)) else (if (rdT x36 x38).f2 ≥ y0_0 then (some (impl_AutomatonValid.en false)) else (if (rdT x36 x38).f1.toList = ([97] : List UInt8) then (if (rdT x36 x38).f3 < 0 then (some (impl_AutomatonValid.en false)) else (if (rdT x36 x38).f3 > 3 then (some (impl_AutomatonValid.en false)) else (if x38 > 0 then (if 0 ≤ (wr64 (x38 - 1)) then (if (wr64 (x38 - 1)) < (y0_3.length : Int) then ((impl_stepOrder.f k ((rdT y0_3 (wr64 (x38 - 1))).f0) ((rdT y0_3 (wr64 (x38 - 1))).f1) ((rdT y0_3 (wr64 (x38 - 1))).f2) ((rdT y0_3 (wr64 (x38 - 1))).f3) ((rdT x36 x38).f0) ((rdT x36 x38).f1) ((rdT x36 x38).f2) ((rdT x36 x38).f3)).bind fun t3 => (if t3 ≥ 0 then (some (impl_AutomatonValid.en false)) else (impl_AutomatonValid.x0 k x36 x37 (wr64 (x38 + 1)) y0_0 y0_1 y0_2 y0_3))) else none) else none) else (impl_AutomatonValid.x0 k x36 x37 (wr64 (x38 + 1)) y0_0 y0_1 y0_2 y0_3)))) else (if (rdT x36 x38).f1.toList = ([98] : List UInt8) then (if (rdT x36 x38).f3 < 0 then (some (impl_AutomatonValid.en false)) else (if (rdT x36 x38).f3 > 3 then (some (impl_AutomatonValid.en false)) else (if x38 > 0 then (if 0 ≤ (wr64 (x38 - 1)) then (if (wr64 (x38 - 1)) < (y0_3.length : Int) then ((impl_stepOrder.f k ((rdT y0_3 (wr64 (x38 - 1))).f0) ((rdT y0_3 (wr64 (x38 - 1))).f1) ((rdT y0_3 (wr64 (x38 - 1))).f2) ((rdT y0_3 (wr64 (x38 - 1))).f3) ((rdT x36 x38).f0) ((rdT x36 x38).f1) ((rdT x36 x38).f2) ((rdT x36 x38).f3)).bind fun t4 => (if t4 ≥ 0 then (some (impl_AutomatonValid.en false)) else (impl_AutomatonValid.x0 k x36 x37 (wr64 (x38 + 1)) y0_0 y0_1 y0_2 y0_3))) else none) else none) else (impl_AutomatonValid.x0 k x36 x37 (wr64 (x38 + 1)) y0_0 y0_1 y0_2 y0_3)))) else (some (impl_AutomatonValid.en false)))))))) else none) else none) else (some (impl_AutomatonValid.en true))) := by kernel_rfl
set_option maxRecDepth 100000 in
theorem impl_AutomatonValid.ef (k : Nat) (a0_0 : Int) (l0_1 : List Int) (l0_2 : List Int) (l0_3 : List Stp) : R.start Try.prog xhn impl_AutomatonValid.O 0 Try.f36 impl_AutomatonValid.fh k [.agg [.int .i64 a0_0, .imm (.I .i64 l0_1), .imm (.I .i64 l0_2), .imm (.T l0_3)]] [] = (if a0_0 < 1 then (some (impl_AutomatonValid.en false)) else (if a0_0 > 4 then (some (impl_AutomatonValid.en false)) else (if (l0_3.length : Int) > 24 then (some (impl_AutomatonValid.en false)) else ((impl_statesOk.f k l0_1 a0_0).bind fun t1 => (if t1 = true then ((impl_statesOk.f k l0_2 a0_0).bind fun t2 => (if t2 = true then (impl_AutomatonValid.x0 k l0_3 (l0_3.length : Int) 0 a0_0 l0_1 l0_2 l0_3) else (some (impl_AutomatonValid.en false)))) else (some (impl_AutomatonValid.en false))))))) := by kernel_rfl
theorem impl_AutomatonValid.link : ∀ k, (∀ (x36 : List Stp) (x37 : Int) (x38 : Int) (y0_0 : Int) (y0_1 : List Int) (y0_2 : List Int) (y0_3 : List Stp), impl_AutomatonValid.x0 k x36 x37 x38 y0_0 y0_1 y0_2 y0_3 = (impl_AutomatonValid.l0 k x36 x37 x38 y0_0 y0_1 y0_2 y0_3).map (impl_AutomatonValid.en))
  | 0 => fun _ _ _ _ _ _ _ => by simp only [impl_AutomatonValid.l0, R.map_none]; rfl
  | k + 1 => by
    have ih0 := impl_AutomatonValid.link k
    · intro x36 x37 x38 y0_0 y0_1 y0_2 y0_3
      rw [impl_AutomatonValid.e0]
      simp only [impl_AutomatonValid.l0, R.map_ite, R.map_bind, R.map_none, R.map_some, R.wr64_eq, ← ih0]
theorem impl_AutomatonValid.sf (k : Nat) (a0_0 : Int) (l0_1 : List Int) (l0_2 : List Int) (l0_3 : List Stp) : R.start Try.prog xhn impl_AutomatonValid.O 0 Try.f36 impl_AutomatonValid.fh k [.agg [.int .i64 a0_0, .imm (.I .i64 l0_1), .imm (.I .i64 l0_2), .imm (.T l0_3)]] [] = (impl_AutomatonValid.f k a0_0 l0_1 l0_2 l0_3).map (impl_AutomatonValid.en) := by
  have ih0 := impl_AutomatonValid.link k
  rw [impl_AutomatonValid.ef]
  simp only [impl_AutomatonValid.f, R.map_ite, R.map_bind, R.map_none, R.map_some, R.wr64_eq, ← ih0]
theorem impl_AutomatonValid.ok (k : Nat) : impl_AutomatonValid.tw.Ok Try.prog k := by
  intro md hmd a r h
  refine fn_ok (H := xhn) (fh := impl_AutomatonValid.fh) (O := impl_AutomatonValid.O) (k := k) Try.func36 (by kernel_rfl) (by kernel_rfl) (fun j _ => (Tw.orc_sound impl_statesOk.dok (impl_statesOk.ok j) (fun _ => rfl) (Tw.orc_sound impl_stepOrder.dok (impl_stepOrder.ok j) (fun _ => rfl) noO_sound))) (by kernel_rfl) (m := 0) rfl ?_
  refine (impl_AutomatonValid.sf k a.1 a.2.1 a.2.2.1 a.2.2.2).trans ?_
  exact congrArg (Option.map _) h
def stringslite_HasPrefix.f (a0 : ByteArray) (a1 : ByteArray) : Option (Bool) := (if (a0.size : Int) ≥ (a1.size : Int) then (if 0 ≤ (a1.size : Int) then (if (a1.size : Int) ≤ (a0.size : Int) then (some (decide ((a0.extract 0 (a1.size : Int).toNat).toList = a1.toList))) else none) else none) else (some false))
def stringslite_HasPrefix.en (r : Bool) : Res := (.lit r, [])
def stringslite_HasPrefix.dec : List AV → List R.Obj → Option (ByteArray × ByteArray)
  | [.str a0, .str a1], [] => some (a0, a1)
  | _, _ => none
def stringslite_HasPrefix.tw : Tw := ⟨85, ByteArray × ByteArray, Bool, stringslite_HasPrefix.dec, fun a => [.str a.1, .str a.2], fun a => [], fun k a => stringslite_HasPrefix.f a.1 a.2, fun a r => stringslite_HasPrefix.en r, true⟩
theorem stringslite_HasPrefix.dok : stringslite_HasPrefix.tw.DecOk := by
  intro args hc a h
  have h : stringslite_HasPrefix.dec args hc = some a := h
  unfold stringslite_HasPrefix.dec at h
  split at h
  · cases h; exact ⟨rfl, rfl⟩
  · cases h
noncomputable def stringslite_HasPrefix.O (k : Nat) : Oracle := noO
def stringslite_HasPrefix.fh : FH := ⟨fun i => match i with | _ => none, [], false⟩
set_option maxRecDepth 100000 in
theorem stringslite_HasPrefix.ef (k : Nat) (a0 : ByteArray) (a1 : ByteArray) : R.start Try.prog xhn stringslite_HasPrefix.O 0 Try.f85 stringslite_HasPrefix.fh k [.str a0, .str a1] [] = (if (a0.size : Int) ≥ (a1.size : Int) then (if 0 ≤ (a1.size : Int) then (if (a1.size : Int) ≤ (a0.size : Int) then (some (stringslite_HasPrefix.en (decide ((a0.extract 0 (a1.size : Int).toNat).toList = a1.toList)))) else none) else none) else (some (stringslite_HasPrefix.en false))) := by kernel_rfl
theorem stringslite_HasPrefix.sf (k : Nat) (a0 : ByteArray) (a1 : ByteArray) : R.start Try.prog xhn stringslite_HasPrefix.O 0 Try.f85 stringslite_HasPrefix.fh k [.str a0, .str a1] [] = (stringslite_HasPrefix.f a0 a1).map (stringslite_HasPrefix.en) := by
  rw [stringslite_HasPrefix.ef]
  simp only [stringslite_HasPrefix.f, R.map_ite, R.map_bind, R.map_none, R.map_some, R.wr64_eq]
theorem stringslite_HasPrefix.ok (k : Nat) : stringslite_HasPrefix.tw.Ok Try.prog k := by
  intro md hmd a r h
  refine fn_ok (H := xhn) (fh := stringslite_HasPrefix.fh) (O := stringslite_HasPrefix.O) (k := k) Try.func85 (by kernel_rfl) (by kernel_rfl) (fun j _ => noO_sound) (by kernel_rfl) (m := 0) rfl ?_
  refine (stringslite_HasPrefix.sf k a.1 a.2).trans ?_
  exact congrArg (Option.map _) h
def strings_HasPrefix.f (a0 : ByteArray) (a1 : ByteArray) : Option (Bool) := ((stringslite_HasPrefix.f a0 a1).bind fun t1 => (some t1))
def strings_HasPrefix.en (r : Bool) : Res := (.lit r, [])
def strings_HasPrefix.dec : List AV → List R.Obj → Option (ByteArray × ByteArray)
  | [.str a0, .str a1], [] => some (a0, a1)
  | _, _ => none
def strings_HasPrefix.tw : Tw := ⟨75, ByteArray × ByteArray, Bool, strings_HasPrefix.dec, fun a => [.str a.1, .str a.2], fun a => [], fun k a => strings_HasPrefix.f a.1 a.2, fun a r => strings_HasPrefix.en r, true⟩
theorem strings_HasPrefix.dok : strings_HasPrefix.tw.DecOk := by
  intro args hc a h
  have h : strings_HasPrefix.dec args hc = some a := h
  unfold strings_HasPrefix.dec at h
  split at h
  · cases h; exact ⟨rfl, rfl⟩
  · cases h
noncomputable def strings_HasPrefix.O (k : Nat) : Oracle := (stringslite_HasPrefix.tw.orc k noO)
def strings_HasPrefix.fh : FH := ⟨fun i => match i with | _ => none, [], false⟩
set_option maxRecDepth 100000 in
theorem strings_HasPrefix.ef (k : Nat) (a0 : ByteArray) (a1 : ByteArray) : R.start Try.prog xhn strings_HasPrefix.O 0 Try.f75 strings_HasPrefix.fh k [.str a0, .str a1] [] = ((stringslite_HasPrefix.f a0 a1).bind fun t1 => (some (strings_HasPrefix.en t1))) := by kernel_rfl
theorem strings_HasPrefix.sf (k : Nat) (a0 : ByteArray) (a1 : ByteArray) : R.start Try.prog xhn strings_HasPrefix.O 0 Try.f75 strings_HasPrefix.fh k [.str a0, .str a1] [] = (strings_HasPrefix.f a0 a1).map (strings_HasPrefix.en) := by
  rw [strings_HasPrefix.ef]
  simp only [strings_HasPrefix.f, R.map_ite, R.map_bind, R.map_none, R.map_some, R.wr64_eq]
theorem strings_HasPrefix.ok (k : Nat) : strings_HasPrefix.tw.Ok Try.prog k := by
  intro md hmd a r h
  refine fn_ok (H := xhn) (fh := strings_HasPrefix.fh) (O := strings_HasPrefix.O) (k := k) Try.func75 (by kernel_rfl) (by kernel_rfl) (fun j _ => (Tw.orc_sound stringslite_HasPrefix.dok (stringslite_HasPrefix.ok j) (fun _ => rfl) noO_sound)) (by kernel_rfl) (m := 0) rfl ?_
  refine (strings_HasPrefix.sf k a.1 a.2).trans ?_
  exact congrArg (Option.map _) h
mutual
def impl_readParts.l0 : Nat → ByteArray → (List Part) → Option ((List Part) × ByteArray)
  | 0, _, _ => none
  | k + 1, x0, y0 => (if x0.toList = ([] : List UInt8) then (some (y0, x0)) else (if 0 < (x0.size : Int) then (if (btI x0 0) = 97 then (if 1 ≤ (x0.size : Int) then (if y0.length < 3518437208883 then (if (x0.size : Int) ≤ (x0.size : Int) then (impl_readParts.l0 k (x0.extract 1 x0.size) (y0 ++ [(⟨(x0.extract 0 1), ([] : List Part)⟩ : Part)])) else none) else none) else none) else (if (btI x0 0) = 98 then (if 1 ≤ (x0.size : Int) then (if y0.length < 3518437208883 then (if (x0.size : Int) ≤ (x0.size : Int) then (impl_readParts.l0 k (x0.extract 1 x0.size) (y0 ++ [(⟨(x0.extract 0 1), ([] : List Part)⟩ : Part)])) else none) else none) else none) else (if (btI x0 0) = 40 then (if 1 ≤ (x0.size : Int) then (if (x0.size : Int) ≤ (x0.size : Int) then ((impl_readParts.f k (x0.extract 1 x0.size)).bind fun t3 => (if (t3.1.length : Int) > 0 then ((strings_HasPrefix.f t3.2 (⟨#[41, 35]⟩ : ByteArray)).bind fun t4 => (if t4 = true then (if y0.length < 3518437208883 then (if 2 ≤ (t3.2.size : Int) then (if (t3.2.size : Int) ≤ (t3.2.size : Int) then (impl_readParts.l0 k (t3.2.extract 2 t3.2.size) (y0 ++ [(⟨(⟨#[]⟩ : ByteArray), t3.1⟩ : Part)])) else none) else none) else none) else (some (y0, x0)))) else (some (y0, x0)))) else none) else none) else (some (y0, x0))))) else none))
def impl_readParts.f : Nat → ByteArray → Option ((List Part) × ByteArray)
  | 0, _ => none
  | k + 1, a0 => (impl_readParts.l0 k a0 ([] : List Part))
end
def impl_readParts.en (r : (List Part) × ByteArray) : Res := (.tup [.sl 0 0, .str r.2], [.arr 97 0 (.P r.1) false])
def impl_readParts.dec : List AV → List R.Obj → Option (ByteArray)
  | [.str a0], [] => some a0
  | _, _ => none
def impl_readParts.tw : Tw := ⟨61, ByteArray, (List Part) × ByteArray, impl_readParts.dec, fun a => [.str a], fun a => [], fun k a => impl_readParts.f k a, fun a r => impl_readParts.en r, true⟩
theorem impl_readParts.dok : impl_readParts.tw.DecOk := by
  intro args hc a h
  have h : impl_readParts.dec args hc = some a := h
  unfold impl_readParts.dec at h
  split at h
  · cases h; exact ⟨rfl, rfl⟩
  · cases h
noncomputable def impl_readParts.O (k : Nat) : Oracle := (strings_HasPrefix.tw.orc k (impl_readParts.tw.orc k noO))
def impl_readParts.fh : FH := ⟨fun i => match i with | 2 => some [(0, 0), (4, 0)] | _ => none, [(true, 97)], false⟩
noncomputable def impl_readParts.x0 (k : Nat) (x0 : ByteArray) (y0 : List Part) : Option Res := R.exec Try.prog xhn impl_readParts.O 0 Try.f61 impl_readParts.fh k (R.point Try.f61 2) ⟨[(0, .str x0), (4, .sl 0 0)], [(0, .arr 97 0 (.P y0) false)], 3⟩
set_option maxRecDepth 100000 in
theorem impl_readParts.e0 (k : Nat) (x0 : ByteArray) (y0 : List Part) : impl_readParts.x0 (k + 1) x0 y0 = (if x0.toList = ([] : List UInt8) then (some (impl_readParts.en (y0, x0))) else (if 0 < (x0.size : Int) then (if (btI x0 0) = 97 then (if 1 ≤ (x0.size : Int) then (if y0.length < 3518437208883 then (if (x0.size : Int) ≤ (x0.size : Int) then (impl_readParts.x0 k (x0.extract 1 x0.size) (y0 ++ [(⟨(x0.extract 0 1), ([] : List Part)⟩ : Part)])) else none) else none) else none) else (if (btI x0 0) = 98 then (if 1 ≤ (x0.size : Int) then (if y0.length < 3518437208883 then (if (x0.size : Int) ≤ (x0.size : Int) then (impl_readParts.x0 k (x0.extract 1 x0.size) (y0 ++ [(⟨(x0.extract 0 1), ([] : List Part)⟩ : Part)])) else none) else none) else none) else (if (btI x0 0) = 40 then (if 1 ≤ (x0.size : Int) then (if (x0.size : Int) ≤ (x0.size : Int) then ((impl_readParts.f k (x0.extract 1 x0.size)).bind fun t3 => (if (t3.1.length : Int) > 0 then ((strings_HasPrefix.f t3.2 (⟨#[41, 35]⟩ : ByteArray)).bind fun t4 => (if t4 = true then (if y0.length < 3518437208883 then (if 2 ≤ (t3.2.size : Int) then (if (t3.2.size : Int) ≤ (t3.2.size : Int) then (impl_readParts.x0 k (t3.2.extract 2 t3.2.size) (y0 ++ [(⟨(⟨#[]⟩ : ByteArray), t3.1⟩ : Part)])) else none) else none) else none) else (some (impl_readParts.en (y0, x0))))) else (some (impl_readParts.en (y0, x0))))) else none) else none) else (some (impl_readParts.en (y0, x0)))))) else none)) := by
  refine Eq.trans ?_ (R.icong (fun h0 => rfl) (fun h0 => (R.icong (fun h1 => (R.icong (fun h2 => (R.idropT (p := (btI x0 0) = 97) (z := (if (btI x0 0) = 40 then (if 1 ≤ (x0.size : Int) then (if (x0.size : Int) ≤ (x0.size : Int) then ((impl_readParts.f k (x0.extract 1 x0.size)).bind fun t1 => (if (t1.1.length : Int) > 0 then ((strings_HasPrefix.f t1.2 (⟨#[41, 35]⟩ : ByteArray)).bind fun t2 => (if t2 = true then (if y0.length < 3518437208883 then (if 2 ≤ (t1.2.size : Int) then (if (t1.2.size : Int) ≤ (t1.2.size : Int) then (impl_readParts.x0 k (t1.2.extract 2 t1.2.size) (y0 ++ [(⟨(⟨#[]⟩ : ByteArray), t1.1⟩ : Part)])) else none) else none) else none) else (some (impl_readParts.en (y0, x0))))) else (some (impl_readParts.en (y0, x0))))) else none) else none) else (some (impl_readParts.en (y0, x0))))) h2 (R.icong (fun h3 => (R.icong (fun h4 => (R.idropT (p := 1 ≤ (x0.size : Int)) (z := none) h3 rfl)) (fun h4 => rfl))) (fun h3 => rfl)))) (fun h2 => (R.icong (fun h3 => (R.icong (fun h4 => (R.icong (fun h5 => (R.idropT (p := 1 ≤ (x0.size : Int)) (z := none) h4 rfl)) (fun h5 => rfl))) (fun h4 => rfl))) (fun h3 => rfl))))) (fun h1 => rfl))))
  kernel_rfl
set_option maxRecDepth 100000 in
theorem impl_readParts.ef (k : Nat) (a0 : ByteArray) : R.start Try.prog xhn impl_readParts.O 0 Try.f61 impl_readParts.fh k [.str a0] [] = (impl_readParts.x0 k a0 ([] : List Part)) := by kernel_rfl
theorem impl_readParts.link : ∀ k, (∀ (x0 : ByteArray) (y0 : List Part), impl_readParts.x0 k x0 y0 = (impl_readParts.l0 k x0 y0).map (impl_readParts.en))
  | 0 => fun _ _ => by simp only [impl_readParts.l0, R.map_none]; rfl
  | k + 1 => by
    have ih0 := impl_readParts.link k
    · intro x0 y0
      rw [impl_readParts.e0]
      simp only [impl_readParts.l0, R.map_ite, R.map_bind, R.map_none, R.map_some, R.wr64_eq, ← ih0]
theorem impl_readParts.sf (k : Nat) (a0 : ByteArray) : R.start Try.prog xhn impl_readParts.O 0 Try.f61 impl_readParts.fh k [.str a0] [] = (impl_readParts.f (k + 1) a0).map (impl_readParts.en) := by
  have ih0 := impl_readParts.link k
  rw [impl_readParts.ef]
  simp only [impl_readParts.f, R.map_ite, R.map_bind, R.map_none, R.map_some, R.wr64_eq, ← ih0]
theorem impl_readParts.ok : ∀ k, impl_readParts.tw.Ok Try.prog k := by
  intro k
  induction k using Nat.strongRecOn with
  | ind k ih =>
    cases k with
    | zero =>
      intro md hmd a r h
      have h : impl_readParts.f 0 a = some r := h
      simp only [impl_readParts.f] at h
      cases h
    | succ k =>
      intro md hmd a r h
      refine fn_ok (H := xhn) (fh := impl_readParts.fh) (O := impl_readParts.O) (k := k) Try.func61 (by kernel_rfl) (by kernel_rfl) (fun j hj => (Tw.orc_sound strings_HasPrefix.dok (strings_HasPrefix.ok j) (fun _ => rfl) (Tw.orc_sound impl_readParts.dok (ih j (by omega)) (fun _ => rfl) noO_sound))) (by kernel_rfl) (m := 0) rfl ?_
      refine (impl_readParts.sf k a).trans ?_
      exact congrArg (Option.map _) h
def impl_parts.f (k : Nat) (a0 : ByteArray) : Option ((List Part) × Bool) := (if (a0.size : Int) > 120 then (some (([] : List Part), false)) else ((impl_readParts.f k a0).bind fun t1 => (if (t1.1.length : Int) > 0 then (some (t1.1, (decide (t1.2.toList = ([] : List UInt8))))) else (some (t1.1, false)))))
def impl_parts.en (r : (List Part) × Bool) : Res := (.tup [.sl 0 0, .lit r.2], [.arr 97 0 (.P r.1) false])
def impl_parts.dec : List AV → List R.Obj → Option (ByteArray)
  | [.str a0], [] => some a0
  | _, _ => none
def impl_parts.tw : Tw := ⟨37, ByteArray, (List Part) × Bool, impl_parts.dec, fun a => [.str a], fun a => [], fun k a => impl_parts.f k a, fun a r => impl_parts.en r, true⟩
theorem impl_parts.dok : impl_parts.tw.DecOk := by
  intro args hc a h
  have h : impl_parts.dec args hc = some a := h
  unfold impl_parts.dec at h
  split at h
  · cases h; exact ⟨rfl, rfl⟩
  · cases h
noncomputable def impl_parts.O (k : Nat) : Oracle := (impl_readParts.tw.orc k noO)
def impl_parts.fh : FH := ⟨fun i => match i with | _ => none, [(true, 97)], false⟩
set_option maxRecDepth 100000 in
theorem impl_parts.ef (k : Nat) (a0 : ByteArray) : R.start Try.prog xhn impl_parts.O 0 Try.f37 impl_parts.fh k [.str a0] [] = (if (a0.size : Int) > 120 then (some (impl_parts.en (([] : List Part), false))) else ((impl_readParts.f k a0).bind fun t1 => (if (t1.1.length : Int) > 0 then (some (impl_parts.en (t1.1, (decide (t1.2.toList = ([] : List UInt8)))))) else (some (impl_parts.en (t1.1, false)))))) := by kernel_rfl
theorem impl_parts.sf (k : Nat) (a0 : ByteArray) : R.start Try.prog xhn impl_parts.O 0 Try.f37 impl_parts.fh k [.str a0] [] = (impl_parts.f k a0).map (impl_parts.en) := by
  rw [impl_parts.ef]
  simp only [impl_parts.f, R.map_ite, R.map_bind, R.map_none, R.map_some, R.wr64_eq]
theorem impl_parts.ok (k : Nat) : impl_parts.tw.Ok Try.prog k := by
  intro md hmd a r h
  refine fn_ok (H := xhn) (fh := impl_parts.fh) (O := impl_parts.O) (k := k) Try.func37 (by kernel_rfl) (by kernel_rfl) (fun j _ => (Tw.orc_sound impl_readParts.dok (impl_readParts.ok j) (fun _ => rfl) noO_sound)) (by kernel_rfl) (m := 0) rfl ?_
  refine (impl_parts.sf k a).trans ?_
  exact congrArg (Option.map _) h
def impl_StepMatrix_1.f (a0 : Int) (a1 : Int) : Option (Int) := (some 1000000)
def impl_StepMatrix_1.en (r : Int) : Res := (.int .i64 r, [])
def impl_StepMatrix_1.dec : List AV → List R.Obj → Option (Int × Int)
  | [.int .i64 a0, .int .i64 a1], [] => some (a0, a1)
  | _, _ => none
def impl_StepMatrix_1.tw : Tw := ⟨76, Int × Int, Int, impl_StepMatrix_1.dec, fun a => [.int .i64 a.1, .int .i64 a.2], fun a => [], fun k a => impl_StepMatrix_1.f a.1 a.2, fun a r => impl_StepMatrix_1.en r, true⟩
theorem impl_StepMatrix_1.dok : impl_StepMatrix_1.tw.DecOk := by
  intro args hc a h
  have h : impl_StepMatrix_1.dec args hc = some a := h
  unfold impl_StepMatrix_1.dec at h
  split at h
  · cases h; exact ⟨rfl, rfl⟩
  · cases h
noncomputable def impl_StepMatrix_1.O (k : Nat) : Oracle := noO
def impl_StepMatrix_1.fh : FH := ⟨fun i => match i with | _ => none, [], false⟩
set_option maxRecDepth 100000 in
theorem impl_StepMatrix_1.ef (k : Nat) (a0 : Int) (a1 : Int) : R.start Try.prog xhn impl_StepMatrix_1.O 0 Try.f76 impl_StepMatrix_1.fh k [.int .i64 a0, .int .i64 a1] [] = (some (impl_StepMatrix_1.en 1000000)) := by kernel_rfl
theorem impl_StepMatrix_1.sf (k : Nat) (a0 : Int) (a1 : Int) : R.start Try.prog xhn impl_StepMatrix_1.O 0 Try.f76 impl_StepMatrix_1.fh k [.int .i64 a0, .int .i64 a1] [] = (impl_StepMatrix_1.f a0 a1).map (impl_StepMatrix_1.en) := by
  rw [impl_StepMatrix_1.ef]
  simp only [impl_StepMatrix_1.f, R.map_ite, R.map_bind, R.map_none, R.map_some, R.wr64_eq]
theorem impl_StepMatrix_1.ok (k : Nat) : impl_StepMatrix_1.tw.Ok Try.prog k := by
  intro md hmd a r h
  refine fn_ok (H := xhn) (fh := impl_StepMatrix_1.fh) (O := impl_StepMatrix_1.O) (k := k) Try.func76 (by kernel_rfl) (by kernel_rfl) (fun j _ => noO_sound) (by kernel_rfl) (m := 0) rfl ?_
  refine (impl_StepMatrix_1.sf k a.1 a.2).trans ?_
  exact congrArg (Option.map _) h
mutual
def impl_filled.l0 : Nat → Int → Int → Int → Int → (List Int) → Option (Int × (List Int))
  | 0, _, _, _, _, _ => none
  | k + 1, x0, x10, x11, y1_0, y3 => (if x11 < x10 then (impl_filled.l1 k x0 x11 x10 x11 x0 0 y1_0 y3) else (some (y1_0, y3)))
def impl_filled.l1 : Nat → Int → Int → Int → Int → Int → Int → Int → (List Int) → Option (Int × (List Int))
  | 0, _, _, _, _, _, _, _, _ => none
  | k + 1, x0, x6, x10, x11, x14, x15, y1_0, y3 => (if x15 < x14 then ((impl_StepMatrix_1.f x6 x15).bind fun t1 => (if y3.length < 17592186044416 then (impl_filled.l1 k x0 x6 x10 x11 x14 (wrap64 (x15 + 1)) y1_0 (y3 ++ [t1])) else none)) else (impl_filled.l0 k x0 x10 (wrap64 (x11 + 1)) y1_0 y3))
end
def impl_filled.f (k : Nat) (a0 : Int) : Option (Int × (List Int)) := (impl_filled.l0 k a0 a0 0 a0 ([] : List Int))
def impl_filled.en (r : Int × (List Int)) : Res := (.agg [.int .i64 r.1, .sl 0 0], [.arr 3 0 (.I .i64 r.2) false])
def impl_filled.dec : List AV → List R.Obj → Option (Int)
  | [.int .i64 a0, .clo 76 []], [] => some a0
  | _, _ => none
def impl_filled.tw : Tw := ⟨40, Int, Int × (List Int), impl_filled.dec, fun a => [.int .i64 a, .clo 76 []], fun a => [], fun k a => impl_filled.f k a, fun a r => impl_filled.en r, true⟩
theorem impl_filled.dok : impl_filled.tw.DecOk := by
  intro args hc a h
  have h : impl_filled.dec args hc = some a := h
  unfold impl_filled.dec at h
  split at h
  · cases h; exact ⟨rfl, rfl⟩
  · cases h
noncomputable def impl_filled.O (k : Nat) : Oracle := (impl_StepMatrix_1.tw.orc k noO)
def impl_filled.fh : FH := ⟨fun i => match i with | 3 => some [(0, 0), (1, 0), (4, 0), (5, 0), (10, 0), (11, 0)] | 6 => some [(0, 0), (1, 0), (4, 0), (5, 0), (6, 0), (10, 0), (11, 0), (14, 0), (15, 0)] | _ => none, [(true, 3)], false⟩
noncomputable def impl_filled.x0 (k : Nat) (x0 : Int) (x10 : Int) (x11 : Int) (y1_0 : Int) (y3 : List Int) : Option Res := R.exec Try.prog xhn impl_filled.O 0 Try.f40 impl_filled.fh k (R.point Try.f40 3) ⟨[(0, .int .i64 x0), (1, .clo 76 []), (4, .ptr 0 0), (5, .ptr 1 0), (10, .int .i64 x10), (11, .int .i64 x11)], [(0, .box false [.int .i64 0, .sl 2 0]), (1, .box false [.int .i64 y1_0, .sl 3 0]), (2, .arr 3 0 (.I .i64 ([] : List Int)) false), (3, .arr 3 0 (.I .i64 y3) false)], 6⟩
noncomputable def impl_filled.x1 (k : Nat) (x0 : Int) (x6 : Int) (x10 : Int) (x11 : Int) (x14 : Int) (x15 : Int) (y1_0 : Int) (y3 : List Int) : Option Res := R.exec Try.prog xhn impl_filled.O 0 Try.f40 impl_filled.fh k (R.point Try.f40 6) ⟨[(0, .int .i64 x0), (1, .clo 76 []), (4, .ptr 0 0), (5, .ptr 1 0), (6, .int .i64 x6), (10, .int .i64 x10), (11, .int .i64 x11), (14, .int .i64 x14), (15, .int .i64 x15)], [(0, .box false [.int .i64 0, .sl 2 0]), (1, .box false [.int .i64 y1_0, .sl 3 0]), (2, .arr 3 0 (.I .i64 ([] : List Int)) false), (3, .arr 3 0 (.I .i64 y3) false)], 6⟩
set_option maxRecDepth 100000 in
theorem impl_filled.e0 (k : Nat) (x0 : Int) (x10 : Int) (x11 : Int) (y1_0 : Int) (y3 : List Int) : impl_filled.x0 (k + 1) x0 x10 x11 y1_0 y3 = (if x11 < x10 then (impl_filled.x1 k x0 x11 x10 x11 x0 0 y1_0 y3) else (some (impl_filled.en (y1_0, y3)))) := by kernel_rfl
set_option maxRecDepth 100000 in
theorem impl_filled.e1 (k : Nat) (x0 : Int) (x6 : Int) (x10 : Int) (x11 : Int) (x14 : Int) (x15 : Int) (y1_0 : Int) (y3 : List Int) : impl_filled.x1 (k + 1) x0 x6 x10 x11 x14 x15 y1_0 y3 = (if x15 < x14 then ((impl_StepMatrix_1.f x6 x15).bind fun t1 => (if y3.length < 17592186044416 then (impl_filled.x1 k x0 x6 x10 x11 x14 (wr64 (x15 + 1)) y1_0 (y3 ++ [t1])) else none)) else (impl_filled.x0 k x0 x10 (wr64 (x11 + 1)) y1_0 y3)) := by kernel_rfl
set_option maxRecDepth 100000 in
theorem impl_filled.ef (k : Nat) (a0 : Int) : R.start Try.prog xhn impl_filled.O 0 Try.f40 impl_filled.fh k [.int .i64 a0, .clo 76 []] [] = (impl_filled.x0 k a0 a0 0 a0 ([] : List Int)) := by kernel_rfl
theorem impl_filled.link : ∀ k, (∀ (x0 : Int) (x10 : Int) (x11 : Int) (y1_0 : Int) (y3 : List Int), impl_filled.x0 k x0 x10 x11 y1_0 y3 = (impl_filled.l0 k x0 x10 x11 y1_0 y3).map (impl_filled.en)) ∧ (∀ (x0 : Int) (x6 : Int) (x10 : Int) (x11 : Int) (x14 : Int) (x15 : Int) (y1_0 : Int) (y3 : List Int), impl_filled.x1 k x0 x6 x10 x11 x14 x15 y1_0 y3 = (impl_filled.l1 k x0 x6 x10 x11 x14 x15 y1_0 y3).map (impl_filled.en))
  | 0 => ⟨fun _ _ _ _ _ => by simp only [impl_filled.l0, R.map_none]; rfl, fun _ _ _ _ _ _ _ _ => by simp only [impl_filled.l1, R.map_none]; rfl⟩
  | k + 1 => by
    obtain ⟨ih0, ih1⟩ := impl_filled.link k
    refine ⟨?_, ?_⟩
    · intro x0 x10 x11 y1_0 y3
      rw [impl_filled.e0]
      simp only [impl_filled.l0, R.map_ite, R.map_bind, R.map_none, R.map_some, R.wr64_eq, ← ih0, ← ih1]
    · intro x0 x6 x10 x11 x14 x15 y1_0 y3
      rw [impl_filled.e1]
      simp only [impl_filled.l1, R.map_ite, R.map_bind, R.map_none, R.map_some, R.wr64_eq, ← ih0, ← ih1]
theorem impl_filled.sf (k : Nat) (a0 : Int) : R.start Try.prog xhn impl_filled.O 0 Try.f40 impl_filled.fh k [.int .i64 a0, .clo 76 []] [] = (impl_filled.f k a0).map (impl_filled.en) := by
  obtain ⟨ih0, ih1⟩ := impl_filled.link k
  rw [impl_filled.ef]
  simp only [impl_filled.f, R.map_ite, R.map_bind, R.map_none, R.map_some, R.wr64_eq, ← ih0, ← ih1]
theorem impl_filled.ok (k : Nat) : impl_filled.tw.Ok Try.prog k := by
  intro md hmd a r h
  refine fn_ok (H := xhn) (fh := impl_filled.fh) (O := impl_filled.O) (k := k) Try.func40 (by kernel_rfl) (by kernel_rfl) (fun j _ => (Tw.orc_sound impl_StepMatrix_1.dok (impl_StepMatrix_1.ok j) (fun _ => rfl) noO_sound)) (by kernel_rfl) (m := 0) rfl ?_
  refine (impl_filled.sf k a).trans ?_
  exact congrArg (Option.map _) h
def impl_StepMatrix.l0 : Nat → ByteArray → (List Stp) → Int → Int → Int → (List Int) → Option (Int × (List Int) × Bool)
  | 0, _, _, _, _, _, _ => none
  | k + 1, x1, x25, x26, x27, y1_0, y3 => (if x27 < x26 then (if 0 ≤ x27 then (if x27 < (x25.length : Int) then (if (rdT x25 x27).f1.toList = x1.toList then (if 0 ≤ (wrap64 ((wrap64 ((rdT x25 x27).f0 * y1_0)) + (rdT x25 x27).f2)) then (if (wrap64 ((wrap64 ((rdT x25 x27).f0 * y1_0)) + (rdT x25 x27).f2)) < (y3.length : Int) then (impl_StepMatrix.l0 k x1 x25 x26 (wrap64 (x27 + 1)) y1_0 (y3.set (wrap64 ((wrap64 ((rdT x25 x27).f0 * y1_0)) + (rdT x25 x27).f2)).toNat (rdT x25 x27).f3)) else none) else none) else (impl_StepMatrix.l0 k x1 x25 x26 (wrap64 (x27 + 1)) y1_0 y3)) else none) else none) else (some (y1_0, y3, true)))
def impl_StepMatrix.f (k : Nat) (a0_0 : Int) (l0_1 : List Int) (l0_2 : List Int) (l0_3 : List Stp) (a1 : ByteArray) : Option (Int × (List Int) × Bool) := ((impl_AutomatonValid.f k a0_0 l0_1 l0_2 l0_3).bind fun t1 => (if t1 = true then (if a1.toList = ([97] : List UInt8) then ((impl_filled.f k a0_0).bind fun t2 => (impl_StepMatrix.l0 k a1 l0_3 (l0_3.length : Int) 0 t2.1 t2.2)) else (if a1.toList = ([98] : List UInt8) then ((impl_filled.f k a0_0).bind fun t3 => (impl_StepMatrix.l0 k a1 l0_3 (l0_3.length : Int) 0 t3.1 t3.2)) else (some (0, ([] : List Int), false)))) else (some (0, ([] : List Int), false))))
def impl_StepMatrix.en (r : Int × (List Int) × Bool) : Res := (.tup [.agg [.int .i64 r.1, .sl 0 0], .lit r.2.2], [.arr 3 0 (.I .i64 r.2.1) false])
def impl_StepMatrix.dec : List AV → List R.Obj → Option (Int × (List Int) × (List Int) × (List Stp) × ByteArray)
  | [.agg [.int .i64 a0_0, .imm (.I .i64 l0_1), .imm (.I .i64 l0_2), .imm (.T l0_3)], .str a1], [] => some (a0_0, l0_1, l0_2, l0_3, a1)
  | _, _ => none
def impl_StepMatrix.tw : Tw := ⟨62, Int × (List Int) × (List Int) × (List Stp) × ByteArray, Int × (List Int) × Bool, impl_StepMatrix.dec, fun a => [.agg [.int .i64 a.1, .imm (.I .i64 a.2.1), .imm (.I .i64 a.2.2.1), .imm (.T a.2.2.2.1)], .str a.2.2.2.2], fun a => [], fun k a => impl_StepMatrix.f k a.1 a.2.1 a.2.2.1 a.2.2.2.1 a.2.2.2.2, fun a r => impl_StepMatrix.en r, true⟩
theorem impl_StepMatrix.dok : impl_StepMatrix.tw.DecOk := by
  intro args hc a h
  have h : impl_StepMatrix.dec args hc = some a := h
  unfold impl_StepMatrix.dec at h
  split at h
  · cases h; exact ⟨rfl, rfl⟩
  · cases h
noncomputable def impl_StepMatrix.O (k : Nat) : Oracle := (impl_AutomatonValid.tw.orc k (impl_filled.tw.orc k noO))
def impl_StepMatrix.fh : FH := ⟨fun i => match i with | 5 => some [(1, 0), (4, 0), (6, 0), (25, 0), (26, 0), (27, 0)] | _ => none, [(true, 3)], false⟩
noncomputable def impl_StepMatrix.x0 (k : Nat) (x1 : ByteArray) (x25 : List Stp) (x26 : Int) (x27 : Int) (y1_0 : Int) (y3 : List Int) : Option Res := R.exec Try.prog xhn impl_StepMatrix.O 0 Try.f62 impl_StepMatrix.fh k (R.point Try.f62 5) ⟨[(1, .str x1), (4, .ptr 0 0), (6, .ptr 1 0), (25, .imm (.T x25)), (26, .int .i64 x26), (27, .int .i64 x27)], [(0, .box false [.int .i64 0, .sl 2 0]), (1, .box false [.int .i64 y1_0, .sl 3 0]), (2, .arr 3 0 (.I .i64 ([] : List Int)) false), (3, .arr 3 0 (.I .i64 y3) false)], 6⟩
set_option maxRecDepth 100000 in
theorem impl_StepMatrix.e0 (k : Nat) (x1 : ByteArray) (x25 : List Stp) (x26 : Int) (x27 : Int) (y1_0 : Int) (y3 : List Int) : impl_StepMatrix.x0 (k + 1) x1 x25 x26 x27 y1_0 y3 = (if x27 < x26 then (if 0 ≤ x27 then (if x27 < (x25.length : Int) then (if (rdT x25 x27).f1.toList = x1.toList then (if 0 ≤ (wr64 ((wr64 ((rdT x25 x27).f0 * y1_0)) + (rdT x25 x27).f2)) then (if (wr64 ((wr64 ((rdT x25 x27).f0 * y1_0)) + (rdT x25 x27).f2)) < (y3.length : Int) then (impl_StepMatrix.x0 k x1 x25 x26 (wr64 (x27 + 1)) y1_0 (y3.set (wr64 ((wr64 ((rdT x25 x27).f0 * y1_0)) + (rdT x25 x27).f2)).toNat (rdT x25 x27).f3)) else none) else none) else (impl_StepMatrix.x0 k x1 x25 x26 (wr64 (x27 + 1)) y1_0 y3)) else none) else none) else (some (impl_StepMatrix.en (y1_0, y3, true)))) := by kernel_rfl
set_option maxRecDepth 100000 in
theorem impl_StepMatrix.ef (k : Nat) (a0_0 : Int) (l0_1 : List Int) (l0_2 : List Int) (l0_3 : List Stp) (a1 : ByteArray) : R.start Try.prog xhn impl_StepMatrix.O 0 Try.f62 impl_StepMatrix.fh k [.agg [.int .i64 a0_0, .imm (.I .i64 l0_1), .imm (.I .i64 l0_2), .imm (.T l0_3)], .str a1] [] = ((impl_AutomatonValid.f k a0_0 l0_1 l0_2 l0_3).bind fun t1 => (if t1 = true then (if a1.toList = ([97] : List UInt8) then ((impl_filled.f k a0_0).bind fun t2 => (impl_StepMatrix.x0 k a1 l0_3 (l0_3.length : Int) 0 t2.1 t2.2)) else (if a1.toList = ([98] : List UInt8) then ((impl_filled.f k a0_0).bind fun t3 => (impl_StepMatrix.x0 k a1 l0_3 (l0_3.length : Int) 0 t3.1 t3.2)) else (some (impl_StepMatrix.en (0, ([] : List Int), false))))) else (some (impl_StepMatrix.en (0, ([] : List Int), false))))) := by kernel_rfl
theorem impl_StepMatrix.link : ∀ k, (∀ (x1 : ByteArray) (x25 : List Stp) (x26 : Int) (x27 : Int) (y1_0 : Int) (y3 : List Int), impl_StepMatrix.x0 k x1 x25 x26 x27 y1_0 y3 = (impl_StepMatrix.l0 k x1 x25 x26 x27 y1_0 y3).map (impl_StepMatrix.en))
  | 0 => fun _ _ _ _ _ _ => by simp only [impl_StepMatrix.l0, R.map_none]; rfl
  | k + 1 => by
    have ih0 := impl_StepMatrix.link k
    · intro x1 x25 x26 x27 y1_0 y3
      rw [impl_StepMatrix.e0]
      simp only [impl_StepMatrix.l0, R.map_ite, R.map_bind, R.map_none, R.map_some, R.wr64_eq, ← ih0]
theorem impl_StepMatrix.sf (k : Nat) (a0_0 : Int) (l0_1 : List Int) (l0_2 : List Int) (l0_3 : List Stp) (a1 : ByteArray) : R.start Try.prog xhn impl_StepMatrix.O 0 Try.f62 impl_StepMatrix.fh k [.agg [.int .i64 a0_0, .imm (.I .i64 l0_1), .imm (.I .i64 l0_2), .imm (.T l0_3)], .str a1] [] = (impl_StepMatrix.f k a0_0 l0_1 l0_2 l0_3 a1).map (impl_StepMatrix.en) := by
  have ih0 := impl_StepMatrix.link k
  rw [impl_StepMatrix.ef]
  simp only [impl_StepMatrix.f, R.map_ite, R.map_bind, R.map_none, R.map_some, R.wr64_eq, ← ih0]
theorem impl_StepMatrix.ok (k : Nat) : impl_StepMatrix.tw.Ok Try.prog k := by
  intro md hmd a r h
  refine fn_ok (H := xhn) (fh := impl_StepMatrix.fh) (O := impl_StepMatrix.O) (k := k) Try.func62 (by kernel_rfl) (by kernel_rfl) (fun j _ => (Tw.orc_sound impl_AutomatonValid.dok (impl_AutomatonValid.ok j) (fun _ => rfl) (Tw.orc_sound impl_filled.dok (impl_filled.ok j) (fun _ => rfl) noO_sound))) (by kernel_rfl) (m := 0) rfl ?_
  refine (impl_StepMatrix.sf k a.1 a.2.1 a.2.2.1 a.2.2.2.1 a.2.2.2.2).trans ?_
  exact congrArg (Option.map _) h
def impl_CostValid.f (a0 : Int) : Option (Bool) := (if a0 ≥ 0 then (some (decide (a0 ≤ 1000000))) else (some false))
def impl_CostValid.en (r : Bool) : Res := (.lit r, [])
def impl_CostValid.dec : List AV → List R.Obj → Option (Int)
  | [.int .i64 a0], [] => some a0
  | _, _ => none
def impl_CostValid.tw : Tw := ⟨81, Int, Bool, impl_CostValid.dec, fun a => [.int .i64 a], fun a => [], fun k a => impl_CostValid.f a, fun a r => impl_CostValid.en r, true⟩
theorem impl_CostValid.dok : impl_CostValid.tw.DecOk := by
  intro args hc a h
  have h : impl_CostValid.dec args hc = some a := h
  unfold impl_CostValid.dec at h
  split at h
  · cases h; exact ⟨rfl, rfl⟩
  · cases h
noncomputable def impl_CostValid.O (k : Nat) : Oracle := noO
def impl_CostValid.fh : FH := ⟨fun i => match i with | _ => none, [], false⟩
set_option maxRecDepth 100000 in
theorem impl_CostValid.ef (k : Nat) (a0 : Int) : R.start Try.prog xhn impl_CostValid.O 0 Try.f81 impl_CostValid.fh k [.int .i64 a0] [] = (if a0 ≥ 0 then (some (impl_CostValid.en (decide (a0 ≤ 1000000)))) else (some (impl_CostValid.en false))) := by kernel_rfl
theorem impl_CostValid.sf (k : Nat) (a0 : Int) : R.start Try.prog xhn impl_CostValid.O 0 Try.f81 impl_CostValid.fh k [.int .i64 a0] [] = (impl_CostValid.f a0).map (impl_CostValid.en) := by
  rw [impl_CostValid.ef]
  simp only [impl_CostValid.f, R.map_ite, R.map_bind, R.map_none, R.map_some, R.wr64_eq]
theorem impl_CostValid.ok (k : Nat) : impl_CostValid.tw.Ok Try.prog k := by
  intro md hmd a r h
  refine fn_ok (H := xhn) (fh := impl_CostValid.fh) (O := impl_CostValid.O) (k := k) Try.func81 (by kernel_rfl) (by kernel_rfl) (fun j _ => noO_sound) (by kernel_rfl) (m := 0) rfl ?_
  refine (impl_CostValid.sf k a).trans ?_
  exact congrArg (Option.map _) h
def impl_MatrixValid_1.f (a0 : Int) : Option (Bool) := ((impl_CostValid.f a0).bind fun t1 => (some (!decide (t1 = true))))
def impl_MatrixValid_1.en (r : Bool) : Res := (.lit r, [])
def impl_MatrixValid_1.dec : List AV → List R.Obj → Option (Int)
  | [.int .i64 a0], [] => some a0
  | _, _ => none
def impl_MatrixValid_1.tw : Tw := ⟨80, Int, Bool, impl_MatrixValid_1.dec, fun a => [.int .i64 a], fun a => [], fun k a => impl_MatrixValid_1.f a, fun a r => impl_MatrixValid_1.en r, true⟩
theorem impl_MatrixValid_1.dok : impl_MatrixValid_1.tw.DecOk := by
  intro args hc a h
  have h : impl_MatrixValid_1.dec args hc = some a := h
  unfold impl_MatrixValid_1.dec at h
  split at h
  · cases h; exact ⟨rfl, rfl⟩
  · cases h
noncomputable def impl_MatrixValid_1.O (k : Nat) : Oracle := (impl_CostValid.tw.orc k noO)
def impl_MatrixValid_1.fh : FH := ⟨fun i => match i with | _ => none, [], false⟩
set_option maxRecDepth 100000 in
theorem impl_MatrixValid_1.ef (k : Nat) (a0 : Int) : R.start Try.prog xhn impl_MatrixValid_1.O 0 Try.f80 impl_MatrixValid_1.fh k [.int .i64 a0] [] = ((impl_CostValid.f a0).bind fun t1 => (some (impl_MatrixValid_1.en (!decide (t1 = true))))) := by kernel_rfl
theorem impl_MatrixValid_1.sf (k : Nat) (a0 : Int) : R.start Try.prog xhn impl_MatrixValid_1.O 0 Try.f80 impl_MatrixValid_1.fh k [.int .i64 a0] [] = (impl_MatrixValid_1.f a0).map (impl_MatrixValid_1.en) := by
  rw [impl_MatrixValid_1.ef]
  simp only [impl_MatrixValid_1.f, R.map_ite, R.map_bind, R.map_none, R.map_some, R.wr64_eq]
theorem impl_MatrixValid_1.ok (k : Nat) : impl_MatrixValid_1.tw.Ok Try.prog k := by
  intro md hmd a r h
  refine fn_ok (H := xhn) (fh := impl_MatrixValid_1.fh) (O := impl_MatrixValid_1.O) (k := k) Try.func80 (by kernel_rfl) (by kernel_rfl) (fun j _ => (Tw.orc_sound impl_CostValid.dok (impl_CostValid.ok j) (fun _ => rfl) noO_sound)) (by kernel_rfl) (m := 0) rfl ?_
  refine (impl_MatrixValid_1.sf k a).trans ?_
  exact congrArg (Option.map _) h
def slices_IndexFunc_int_int.l0 : Nat → (List Int) → Int → Int → Option (Int)
  | 0, _, _, _ => none
  | k + 1, x0, x7, x8 => (if x8 < x7 then (if 0 ≤ x8 then (if x8 < (x0.length : Int) then ((impl_MatrixValid_1.f (rdI x0 x8)).bind fun t1 => (if t1 = true then (some x8) else (slices_IndexFunc_int_int.l0 k x0 x7 (wrap64 (x8 + 1))))) else none) else none) else (some (-1)))
def slices_IndexFunc_int_int.f (k : Nat) (l0 : List Int) : Option (Int) := (slices_IndexFunc_int_int.l0 k l0 (l0.length : Int) 0)
def slices_IndexFunc_int_int.en (r : Int) : Res := (.int .i64 r, [])
def slices_IndexFunc_int_int.dec : List AV → List R.Obj → Option (List Int)
  | [.imm (.I .i64 l0), .clo 80 []], [] => some l0
  | _, _ => none
def slices_IndexFunc_int_int.tw : Tw := ⟨82, List Int, Int, slices_IndexFunc_int_int.dec, fun a => [.imm (.I .i64 a), .clo 80 []], fun a => [], fun k a => slices_IndexFunc_int_int.f k a, fun a r => slices_IndexFunc_int_int.en r, true⟩
theorem slices_IndexFunc_int_int.dok : slices_IndexFunc_int_int.tw.DecOk := by
  intro args hc a h
  have h : slices_IndexFunc_int_int.dec args hc = some a := h
  unfold slices_IndexFunc_int_int.dec at h
  split at h
  · cases h; exact ⟨rfl, rfl⟩
  · cases h
noncomputable def slices_IndexFunc_int_int.O (k : Nat) : Oracle := (impl_MatrixValid_1.tw.orc k noO)
def slices_IndexFunc_int_int.fh : FH := ⟨fun i => match i with | 2 => some [(0, 0), (1, 0), (7, 0), (8, 0)] | _ => none, [], false⟩
noncomputable def slices_IndexFunc_int_int.x0 (k : Nat) (x0 : List Int) (x7 : Int) (x8 : Int) : Option Res := R.exec Try.prog xhn slices_IndexFunc_int_int.O 0 Try.f82 slices_IndexFunc_int_int.fh k (R.point Try.f82 2) ⟨[(0, .imm (.I .i64 x0)), (1, .clo 80 []), (7, .int .i64 x7), (8, .int .i64 x8)], [], 2⟩
set_option maxRecDepth 100000 in
theorem slices_IndexFunc_int_int.e0 (k : Nat) (x0 : List Int) (x7 : Int) (x8 : Int) : slices_IndexFunc_int_int.x0 (k + 1) x0 x7 x8 = (if x8 < x7 then (if 0 ≤ x8 then (if x8 < (x0.length : Int) then ((impl_MatrixValid_1.f (rdI x0 x8)).bind fun t1 => (if t1 = true then (some (slices_IndexFunc_int_int.en x8)) else (slices_IndexFunc_int_int.x0 k x0 x7 (wr64 (x8 + 1))))) else none) else none) else (some (slices_IndexFunc_int_int.en (-1)))) := by kernel_rfl
set_option maxRecDepth 100000 in
theorem slices_IndexFunc_int_int.ef (k : Nat) (l0 : List Int) : R.start Try.prog xhn slices_IndexFunc_int_int.O 0 Try.f82 slices_IndexFunc_int_int.fh k [.imm (.I .i64 l0), .clo 80 []] [] = (slices_IndexFunc_int_int.x0 k l0 (l0.length : Int) 0) := by kernel_rfl
theorem slices_IndexFunc_int_int.link : ∀ k, (∀ (x0 : List Int) (x7 : Int) (x8 : Int), slices_IndexFunc_int_int.x0 k x0 x7 x8 = (slices_IndexFunc_int_int.l0 k x0 x7 x8).map (slices_IndexFunc_int_int.en))
  | 0 => fun _ _ _ => by simp only [slices_IndexFunc_int_int.l0, R.map_none]; rfl
  | k + 1 => by
    have ih0 := slices_IndexFunc_int_int.link k
    · intro x0 x7 x8
      rw [slices_IndexFunc_int_int.e0]
      simp only [slices_IndexFunc_int_int.l0, R.map_ite, R.map_bind, R.map_none, R.map_some, R.wr64_eq, ← ih0]
theorem slices_IndexFunc_int_int.sf (k : Nat) (l0 : List Int) : R.start Try.prog xhn slices_IndexFunc_int_int.O 0 Try.f82 slices_IndexFunc_int_int.fh k [.imm (.I .i64 l0), .clo 80 []] [] = (slices_IndexFunc_int_int.f k l0).map (slices_IndexFunc_int_int.en) := by
  have ih0 := slices_IndexFunc_int_int.link k
  rw [slices_IndexFunc_int_int.ef]
  simp only [slices_IndexFunc_int_int.f, R.map_ite, R.map_bind, R.map_none, R.map_some, R.wr64_eq, ← ih0]
theorem slices_IndexFunc_int_int.ok (k : Nat) : slices_IndexFunc_int_int.tw.Ok Try.prog k := by
  intro md hmd a r h
  refine fn_ok (H := xhn) (fh := slices_IndexFunc_int_int.fh) (O := slices_IndexFunc_int_int.O) (k := k) Try.func82 (by kernel_rfl) (by kernel_rfl) (fun j _ => (Tw.orc_sound impl_MatrixValid_1.dok (impl_MatrixValid_1.ok j) (fun _ => rfl) noO_sound)) (by kernel_rfl) (m := 0) rfl ?_
  refine (slices_IndexFunc_int_int.sf k a).trans ?_
  exact congrArg (Option.map _) h
def slices_ContainsFunc_int_int.f (k : Nat) (l0 : List Int) : Option (Bool) := ((slices_IndexFunc_int_int.f k l0).bind fun t1 => (some (decide (t1 ≥ 0))))
def slices_ContainsFunc_int_int.en (r : Bool) : Res := (.lit r, [])
def slices_ContainsFunc_int_int.dec : List AV → List R.Obj → Option (List Int)
  | [.imm (.I .i64 l0), .clo 80 []], [] => some l0
  | _, _ => none
def slices_ContainsFunc_int_int.tw : Tw := ⟨66, List Int, Bool, slices_ContainsFunc_int_int.dec, fun a => [.imm (.I .i64 a), .clo 80 []], fun a => [], fun k a => slices_ContainsFunc_int_int.f k a, fun a r => slices_ContainsFunc_int_int.en r, true⟩
theorem slices_ContainsFunc_int_int.dok : slices_ContainsFunc_int_int.tw.DecOk := by
  intro args hc a h
  have h : slices_ContainsFunc_int_int.dec args hc = some a := h
  unfold slices_ContainsFunc_int_int.dec at h
  split at h
  · cases h; exact ⟨rfl, rfl⟩
  · cases h
noncomputable def slices_ContainsFunc_int_int.O (k : Nat) : Oracle := (slices_IndexFunc_int_int.tw.orc k noO)
def slices_ContainsFunc_int_int.fh : FH := ⟨fun i => match i with | _ => none, [], false⟩
set_option maxRecDepth 100000 in
theorem slices_ContainsFunc_int_int.ef (k : Nat) (l0 : List Int) : R.start Try.prog xhn slices_ContainsFunc_int_int.O 0 Try.f66 slices_ContainsFunc_int_int.fh k [.imm (.I .i64 l0), .clo 80 []] [] = ((slices_IndexFunc_int_int.f k l0).bind fun t1 => (some (slices_ContainsFunc_int_int.en (decide (t1 ≥ 0))))) := by kernel_rfl
theorem slices_ContainsFunc_int_int.sf (k : Nat) (l0 : List Int) : R.start Try.prog xhn slices_ContainsFunc_int_int.O 0 Try.f66 slices_ContainsFunc_int_int.fh k [.imm (.I .i64 l0), .clo 80 []] [] = (slices_ContainsFunc_int_int.f k l0).map (slices_ContainsFunc_int_int.en) := by
  rw [slices_ContainsFunc_int_int.ef]
  simp only [slices_ContainsFunc_int_int.f, R.map_ite, R.map_bind, R.map_none, R.map_some, R.wr64_eq]
theorem slices_ContainsFunc_int_int.ok (k : Nat) : slices_ContainsFunc_int_int.tw.Ok Try.prog k := by
  intro md hmd a r h
  refine fn_ok (H := xhn) (fh := slices_ContainsFunc_int_int.fh) (O := slices_ContainsFunc_int_int.O) (k := k) Try.func66 (by kernel_rfl) (by kernel_rfl) (fun j _ => (Tw.orc_sound slices_IndexFunc_int_int.dok (slices_IndexFunc_int_int.ok j) (fun _ => rfl) noO_sound)) (by kernel_rfl) (m := 0) rfl ?_
  refine (slices_ContainsFunc_int_int.sf k a).trans ?_
  exact congrArg (Option.map _) h
def impl_MatrixValid.f (k : Nat) (a0_0 : Int) (l0_1 : List Int) : Option (Bool) := (if a0_0 < 1 then (some false) else (if a0_0 > 4 then (some false) else (if (l0_1.length : Int) = (wrap64 (a0_0 * a0_0)) then ((slices_ContainsFunc_int_int.f k l0_1).bind fun t1 => (some (!decide (t1 = true)))) else (some false))))
def impl_MatrixValid.en (r : Bool) : Res := (.lit r, [])
def impl_MatrixValid.dec : List AV → List R.Obj → Option (Int × (List Int))
  | [.agg [.int .i64 a0_0, .imm (.I .i64 l0_1)]], [] => some (a0_0, l0_1)
  | _, _ => none
def impl_MatrixValid.tw : Tw := ⟨65, Int × (List Int), Bool, impl_MatrixValid.dec, fun a => [.agg [.int .i64 a.1, .imm (.I .i64 a.2)]], fun a => [], fun k a => impl_MatrixValid.f k a.1 a.2, fun a r => impl_MatrixValid.en r, true⟩
theorem impl_MatrixValid.dok : impl_MatrixValid.tw.DecOk := by
  intro args hc a h
  have h : impl_MatrixValid.dec args hc = some a := h
  unfold impl_MatrixValid.dec at h
  split at h
  · cases h; exact ⟨rfl, rfl⟩
  · cases h
noncomputable def impl_MatrixValid.O (k : Nat) : Oracle := (slices_ContainsFunc_int_int.tw.orc k noO)
def impl_MatrixValid.fh : FH := ⟨fun i => match i with | _ => none, [], false⟩
set_option maxRecDepth 100000 in
theorem impl_MatrixValid.ef (k : Nat) (a0_0 : Int) (l0_1 : List Int) : R.start Try.prog xhn impl_MatrixValid.O 0 Try.f65 impl_MatrixValid.fh k [.agg [.int .i64 a0_0, .imm (.I .i64 l0_1)]] [] = (if a0_0 < 1 then (some (impl_MatrixValid.en false)) else (if a0_0 > 4 then (some (impl_MatrixValid.en false)) else (if (l0_1.length : Int) = (wr64 (a0_0 * a0_0)) then ((slices_ContainsFunc_int_int.f k l0_1).bind fun t1 => (some (impl_MatrixValid.en (!decide (t1 = true))))) else (some (impl_MatrixValid.en false))))) := by kernel_rfl
theorem impl_MatrixValid.sf (k : Nat) (a0_0 : Int) (l0_1 : List Int) : R.start Try.prog xhn impl_MatrixValid.O 0 Try.f65 impl_MatrixValid.fh k [.agg [.int .i64 a0_0, .imm (.I .i64 l0_1)]] [] = (impl_MatrixValid.f k a0_0 l0_1).map (impl_MatrixValid.en) := by
  rw [impl_MatrixValid.ef]
  simp only [impl_MatrixValid.f, R.map_ite, R.map_bind, R.map_none, R.map_some, R.wr64_eq]
theorem impl_MatrixValid.ok (k : Nat) : impl_MatrixValid.tw.Ok Try.prog k := by
  intro md hmd a r h
  refine fn_ok (H := xhn) (fh := impl_MatrixValid.fh) (O := impl_MatrixValid.O) (k := k) Try.func65 (by kernel_rfl) (by kernel_rfl) (fun j _ => (Tw.orc_sound slices_ContainsFunc_int_int.dok (slices_ContainsFunc_int_int.ok j) (fun _ => rfl) noO_sound)) (by kernel_rfl) (m := 0) rfl ?_
  refine (impl_MatrixValid.sf k a.1 a.2).trans ?_
  exact congrArg (Option.map _) h
def impl_Matrix_at.f (a0_0 : Int) (l0_1 : List Int) (a1 : Int) (a2 : Int) : Option (Int) := (if 0 ≤ (wrap64 ((wrap64 (a1 * a0_0)) + a2)) then (if (wrap64 ((wrap64 (a1 * a0_0)) + a2)) < (l0_1.length : Int) then (some (rdI l0_1 (wrap64 ((wrap64 (a1 * a0_0)) + a2)))) else none) else none)
def impl_Matrix_at.en (r : Int) : Res := (.int .i64 r, [])
def impl_Matrix_at.dec : List AV → List R.Obj → Option (Int × (List Int) × Int × Int)
  | [.agg [.int .i64 a0_0, .imm (.I .i64 l0_1)], .int .i64 a1, .int .i64 a2], [] => some (a0_0, l0_1, a1, a2)
  | _, _ => none
def impl_Matrix_at.tw : Tw := ⟨42, Int × (List Int) × Int × Int, Int, impl_Matrix_at.dec, fun a => [.agg [.int .i64 a.1, .imm (.I .i64 a.2.1)], .int .i64 a.2.2.1, .int .i64 a.2.2.2], fun a => [], fun k a => impl_Matrix_at.f a.1 a.2.1 a.2.2.1 a.2.2.2, fun a r => impl_Matrix_at.en r, true⟩
theorem impl_Matrix_at.dok : impl_Matrix_at.tw.DecOk := by
  intro args hc a h
  have h : impl_Matrix_at.dec args hc = some a := h
  unfold impl_Matrix_at.dec at h
  split at h
  · cases h; exact ⟨rfl, rfl⟩
  · cases h
noncomputable def impl_Matrix_at.O (k : Nat) : Oracle := noO
def impl_Matrix_at.fh : FH := ⟨fun i => match i with | _ => none, [], false⟩
set_option maxRecDepth 100000 in
theorem impl_Matrix_at.ef (k : Nat) (a0_0 : Int) (l0_1 : List Int) (a1 : Int) (a2 : Int) : R.start Try.prog xhn impl_Matrix_at.O 0 Try.f42 impl_Matrix_at.fh k [.agg [.int .i64 a0_0, .imm (.I .i64 l0_1)], .int .i64 a1, .int .i64 a2] [] = (if 0 ≤ (wr64 ((wr64 (a1 * a0_0)) + a2)) then (if (wr64 ((wr64 (a1 * a0_0)) + a2)) < (l0_1.length : Int) then (some (impl_Matrix_at.en (rdI l0_1 (wr64 ((wr64 (a1 * a0_0)) + a2))))) else none) else none) := by kernel_rfl
theorem impl_Matrix_at.sf (k : Nat) (a0_0 : Int) (l0_1 : List Int) (a1 : Int) (a2 : Int) : R.start Try.prog xhn impl_Matrix_at.O 0 Try.f42 impl_Matrix_at.fh k [.agg [.int .i64 a0_0, .imm (.I .i64 l0_1)], .int .i64 a1, .int .i64 a2] [] = (impl_Matrix_at.f a0_0 l0_1 a1 a2).map (impl_Matrix_at.en) := by
  rw [impl_Matrix_at.ef]
  simp only [impl_Matrix_at.f, R.map_ite, R.map_bind, R.map_none, R.map_some, R.wr64_eq]
theorem impl_Matrix_at.ok (k : Nat) : impl_Matrix_at.tw.Ok Try.prog k := by
  intro md hmd a r h
  refine fn_ok (H := xhn) (fh := impl_Matrix_at.fh) (O := impl_Matrix_at.O) (k := k) Try.func42 (by kernel_rfl) (by kernel_rfl) (fun j _ => noO_sound) (by kernel_rfl) (m := 0) rfl ?_
  refine (impl_Matrix_at.sf k a.1 a.2.1 a.2.2.1 a.2.2.2).trans ?_
  exact congrArg (Option.map _) h
def impl_GradesOf_1.f (a0 : Int) (a1 : Int) (a3_0 : Int) (l3_1 : List Int) : Option (Int) := ((impl_Matrix_at.f a3_0 l3_1 a0 a1).bind fun t1 => (if t1 = 0 then (some 0) else (if t1 = 1000000 then (some 3) else (some 1))))
def impl_GradesOf_1.en (a3_0 : Int) (l3_1 : List Int) (r : Int) : Res := (.int .i64 r, [.box true [.int .i64 a3_0, .imm (.I .i64 l3_1)]])
def impl_GradesOf_1.dec : List AV → List R.Obj → Option (Int × Int × Int × (List Int))
  | [.int .i64 a0, .int .i64 a1, .ptr 0 0], [.box true [.int .i64 a3_0, .imm (.I .i64 l3_1)]] => some (a0, a1, a3_0, l3_1)
  | _, _ => none
def impl_GradesOf_1.tw : Tw := ⟨77, Int × Int × Int × (List Int), Int, impl_GradesOf_1.dec, fun a => [.int .i64 a.1, .int .i64 a.2.1, .ptr 0 0], fun a => [.box true [.int .i64 a.2.2.1, .imm (.I .i64 a.2.2.2)]], fun k a => impl_GradesOf_1.f a.1 a.2.1 a.2.2.1 a.2.2.2, fun a r => impl_GradesOf_1.en a.2.2.1 a.2.2.2 r, true⟩
theorem impl_GradesOf_1.dok : impl_GradesOf_1.tw.DecOk := by
  intro args hc a h
  have h : impl_GradesOf_1.dec args hc = some a := h
  unfold impl_GradesOf_1.dec at h
  split at h
  · cases h; exact ⟨rfl, rfl⟩
  · cases h
noncomputable def impl_GradesOf_1.O (k : Nat) : Oracle := (impl_Matrix_at.tw.orc k noO)
def impl_GradesOf_1.fh : FH := ⟨fun i => match i with | _ => none, [], false⟩
set_option maxRecDepth 100000 in
theorem impl_GradesOf_1.ef (k : Nat) (a0 : Int) (a1 : Int) (a3_0 : Int) (l3_1 : List Int) : R.start Try.prog xhn impl_GradesOf_1.O 1 Try.f77 impl_GradesOf_1.fh k [.int .i64 a0, .int .i64 a1, .ptr 0 0] [.box true [.int .i64 a3_0, .imm (.I .i64 l3_1)]] = ((impl_Matrix_at.f a3_0 l3_1 a0 a1).bind fun t1 => (if t1 = 0 then (some (impl_GradesOf_1.en a3_0 l3_1 0)) else (if t1 = 1000000 then (some (impl_GradesOf_1.en a3_0 l3_1 3)) else (some (impl_GradesOf_1.en a3_0 l3_1 1))))) := by kernel_rfl
theorem impl_GradesOf_1.sf (k : Nat) (a0 : Int) (a1 : Int) (a3_0 : Int) (l3_1 : List Int) : R.start Try.prog xhn impl_GradesOf_1.O 1 Try.f77 impl_GradesOf_1.fh k [.int .i64 a0, .int .i64 a1, .ptr 0 0] [.box true [.int .i64 a3_0, .imm (.I .i64 l3_1)]] = (impl_GradesOf_1.f a0 a1 a3_0 l3_1).map (impl_GradesOf_1.en a3_0 l3_1) := by
  rw [impl_GradesOf_1.ef]
  simp only [impl_GradesOf_1.f, R.map_ite, R.map_bind, R.map_none, R.map_some, R.wr64_eq]
theorem impl_GradesOf_1.ok (k : Nat) : impl_GradesOf_1.tw.Ok Try.prog k := by
  intro md hmd a r h
  refine fn_ok (H := xhn) (fh := impl_GradesOf_1.fh) (O := impl_GradesOf_1.O) (k := k) Try.func77 (by kernel_rfl) (by kernel_rfl) (fun j _ => (Tw.orc_sound impl_Matrix_at.dok (impl_Matrix_at.ok j) (fun _ => rfl) noO_sound)) (by kernel_rfl) (m := 1) rfl ?_
  refine (impl_GradesOf_1.sf k a.1 a.2.1 a.2.2.1 a.2.2.2).trans ?_
  exact congrArg (Option.map _) h
mutual
def impl_filled_b.l0 : Nat → Int → Int → Int → Int → (List Int) → Int → (List Int) → Option (Int × (List Int))
  | 0, _, _, _, _, _, _, _ => none
  | k + 1, x0, x10, x11, y0_0, y0_1, y2_0, y4 => (if x11 < x10 then (impl_filled_b.l1 k x0 x11 x10 x11 x0 0 y0_0 y0_1 y2_0 y4) else (some (y2_0, y4)))
def impl_filled_b.l1 : Nat → Int → Int → Int → Int → Int → Int → Int → (List Int) → Int → (List Int) → Option (Int × (List Int))
  | 0, _, _, _, _, _, _, _, _, _, _ => none
  | k + 1, x0, x6, x10, x11, x14, x15, y0_0, y0_1, y2_0, y4 => (if x15 < x14 then ((impl_GradesOf_1.f x6 x15 y0_0 y0_1).bind fun t1 => (if y4.length < 17592186044416 then (impl_filled_b.l1 k x0 x6 x10 x11 x14 (wrap64 (x15 + 1)) y0_0 y0_1 y2_0 (y4 ++ [t1])) else none)) else (impl_filled_b.l0 k x0 x10 (wrap64 (x11 + 1)) y0_0 y0_1 y2_0 y4))
end
def impl_filled_b.f (k : Nat) (a0 : Int) (a2_0 : Int) (l2_1 : List Int) : Option (Int × (List Int)) := (impl_filled_b.l0 k a0 a0 0 a2_0 l2_1 a0 ([] : List Int))
def impl_filled_b.en (a2_0 : Int) (l2_1 : List Int) (r : Int × (List Int)) : Res := (.agg [.int .i64 r.1, .sl 1 0], [.box true [.int .i64 a2_0, .imm (.I .i64 l2_1)], .arr 3 0 (.I .i64 r.2) false])
def impl_filled_b.dec : List AV → List R.Obj → Option (Int × Int × (List Int))
  | [.int .i64 a0, .clo 77 [.ptr 0 0]], [.box true [.int .i64 a2_0, .imm (.I .i64 l2_1)]] => some (a0, a2_0, l2_1)
  | _, _ => none
def impl_filled_b.tw : Tw := ⟨40, Int × Int × (List Int), Int × (List Int), impl_filled_b.dec, fun a => [.int .i64 a.1, .clo 77 [.ptr 0 0]], fun a => [.box true [.int .i64 a.2.1, .imm (.I .i64 a.2.2)]], fun k a => impl_filled_b.f k a.1 a.2.1 a.2.2, fun a r => impl_filled_b.en a.2.1 a.2.2 r, true⟩
theorem impl_filled_b.dok : impl_filled_b.tw.DecOk := by
  intro args hc a h
  have h : impl_filled_b.dec args hc = some a := h
  unfold impl_filled_b.dec at h
  split at h
  · cases h; exact ⟨rfl, rfl⟩
  · cases h
noncomputable def impl_filled_b.O (k : Nat) : Oracle := (impl_GradesOf_1.tw.orc k noO)
def impl_filled_b.fh : FH := ⟨fun i => match i with | 3 => some [(0, 0), (1, 0), (4, 0), (5, 0), (10, 0), (11, 0)] | 6 => some [(0, 0), (1, 0), (4, 0), (5, 0), (6, 0), (10, 0), (11, 0), (14, 0), (15, 0)] | _ => none, [(true, 3)], false⟩
noncomputable def impl_filled_b.x0 (k : Nat) (x0 : Int) (x10 : Int) (x11 : Int) (y0_0 : Int) (y0_1 : List Int) (y2_0 : Int) (y4 : List Int) : Option Res := R.exec Try.prog xhn impl_filled_b.O 1 Try.f40 impl_filled_b.fh k (R.point Try.f40 3) ⟨[(0, .int .i64 x0), (1, .clo 77 [.ptr 0 0]), (4, .ptr 1 0), (5, .ptr 2 0), (10, .int .i64 x10), (11, .int .i64 x11)], [(0, .box true [.int .i64 y0_0, .imm (.I .i64 y0_1)]), (1, .box false [.int .i64 0, .sl 3 0]), (2, .box false [.int .i64 y2_0, .sl 4 0]), (3, .arr 3 0 (.I .i64 ([] : List Int)) false), (4, .arr 3 0 (.I .i64 y4) false)], 7⟩
noncomputable def impl_filled_b.x1 (k : Nat) (x0 : Int) (x6 : Int) (x10 : Int) (x11 : Int) (x14 : Int) (x15 : Int) (y0_0 : Int) (y0_1 : List Int) (y2_0 : Int) (y4 : List Int) : Option Res := R.exec Try.prog xhn impl_filled_b.O 1 Try.f40 impl_filled_b.fh k (R.point Try.f40 6) ⟨[(0, .int .i64 x0), (1, .clo 77 [.ptr 0 0]), (4, .ptr 1 0), (5, .ptr 2 0), (6, .int .i64 x6), (10, .int .i64 x10), (11, .int .i64 x11), (14, .int .i64 x14), (15, .int .i64 x15)], [(0, .box true [.int .i64 y0_0, .imm (.I .i64 y0_1)]), (1, .box false [.int .i64 0, .sl 3 0]), (2, .box false [.int .i64 y2_0, .sl 4 0]), (3, .arr 3 0 (.I .i64 ([] : List Int)) false), (4, .arr 3 0 (.I .i64 y4) false)], 7⟩
set_option maxRecDepth 100000 in
theorem impl_filled_b.e0 (k : Nat) (x0 : Int) (x10 : Int) (x11 : Int) (y0_0 : Int) (y0_1 : List Int) (y2_0 : Int) (y4 : List Int) : impl_filled_b.x0 (k + 1) x0 x10 x11 y0_0 y0_1 y2_0 y4 = (if x11 < x10 then (impl_filled_b.x1 k x0 x11 x10 x11 x0 0 y0_0 y0_1 y2_0 y4) else (some (impl_filled_b.en y0_0 y0_1 (y2_0, y4)))) := by kernel_rfl
set_option maxRecDepth 100000 in
theorem impl_filled_b.e1 (k : Nat) (x0 : Int) (x6 : Int) (x10 : Int) (x11 : Int) (x14 : Int) (x15 : Int) (y0_0 : Int) (y0_1 : List Int) (y2_0 : Int) (y4 : List Int) : impl_filled_b.x1 (k + 1) x0 x6 x10 x11 x14 x15 y0_0 y0_1 y2_0 y4 = (if x15 < x14 then ((impl_GradesOf_1.f x6 x15 y0_0 y0_1).bind fun t1 => (if y4.length < 17592186044416 then (impl_filled_b.x1 k x0 x6 x10 x11 x14 (wr64 (x15 + 1)) y0_0 y0_1 y2_0 (y4 ++ [t1])) else none)) else (impl_filled_b.x0 k x0 x10 (wr64 (x11 + 1)) y0_0 y0_1 y2_0 y4)) := by kernel_rfl
set_option maxRecDepth 100000 in
theorem impl_filled_b.ef (k : Nat) (a0 : Int) (a2_0 : Int) (l2_1 : List Int) : R.start Try.prog xhn impl_filled_b.O 1 Try.f40 impl_filled_b.fh k [.int .i64 a0, .clo 77 [.ptr 0 0]] [.box true [.int .i64 a2_0, .imm (.I .i64 l2_1)]] = (impl_filled_b.x0 k a0 a0 0 a2_0 l2_1 a0 ([] : List Int)) := by kernel_rfl
theorem impl_filled_b.link : ∀ k, (∀ (x0 : Int) (x10 : Int) (x11 : Int) (y0_0 : Int) (y0_1 : List Int) (y2_0 : Int) (y4 : List Int), impl_filled_b.x0 k x0 x10 x11 y0_0 y0_1 y2_0 y4 = (impl_filled_b.l0 k x0 x10 x11 y0_0 y0_1 y2_0 y4).map (impl_filled_b.en y0_0 y0_1)) ∧ (∀ (x0 : Int) (x6 : Int) (x10 : Int) (x11 : Int) (x14 : Int) (x15 : Int) (y0_0 : Int) (y0_1 : List Int) (y2_0 : Int) (y4 : List Int), impl_filled_b.x1 k x0 x6 x10 x11 x14 x15 y0_0 y0_1 y2_0 y4 = (impl_filled_b.l1 k x0 x6 x10 x11 x14 x15 y0_0 y0_1 y2_0 y4).map (impl_filled_b.en y0_0 y0_1))
  | 0 => ⟨fun _ _ _ _ _ _ _ => by simp only [impl_filled_b.l0, R.map_none]; rfl, fun _ _ _ _ _ _ _ _ _ _ => by simp only [impl_filled_b.l1, R.map_none]; rfl⟩
  | k + 1 => by
    obtain ⟨ih0, ih1⟩ := impl_filled_b.link k
    refine ⟨?_, ?_⟩
    · intro x0 x10 x11 y0_0 y0_1 y2_0 y4
      rw [impl_filled_b.e0]
      simp only [impl_filled_b.l0, R.map_ite, R.map_bind, R.map_none, R.map_some, R.wr64_eq, ← ih0, ← ih1]
    · intro x0 x6 x10 x11 x14 x15 y0_0 y0_1 y2_0 y4
      rw [impl_filled_b.e1]
      simp only [impl_filled_b.l1, R.map_ite, R.map_bind, R.map_none, R.map_some, R.wr64_eq, ← ih0, ← ih1]
theorem impl_filled_b.sf (k : Nat) (a0 : Int) (a2_0 : Int) (l2_1 : List Int) : R.start Try.prog xhn impl_filled_b.O 1 Try.f40 impl_filled_b.fh k [.int .i64 a0, .clo 77 [.ptr 0 0]] [.box true [.int .i64 a2_0, .imm (.I .i64 l2_1)]] = (impl_filled_b.f k a0 a2_0 l2_1).map (impl_filled_b.en a2_0 l2_1) := by
  obtain ⟨ih0, ih1⟩ := impl_filled_b.link k
  rw [impl_filled_b.ef]
  simp only [impl_filled_b.f, R.map_ite, R.map_bind, R.map_none, R.map_some, R.wr64_eq, ← ih0, ← ih1]
theorem impl_filled_b.ok (k : Nat) : impl_filled_b.tw.Ok Try.prog k := by
  intro md hmd a r h
  refine fn_ok (H := xhn) (fh := impl_filled_b.fh) (O := impl_filled_b.O) (k := k) Try.func40 (by kernel_rfl) (by kernel_rfl) (fun j _ => (Tw.orc_sound impl_GradesOf_1.dok (impl_GradesOf_1.ok j) (fun _ => rfl) noO_sound)) (by kernel_rfl) (m := 1) rfl ?_
  refine (impl_filled_b.sf k a.1 a.2.1 a.2.2).trans ?_
  exact congrArg (Option.map _) h
def impl_GradesOf.f (k : Nat) (a0_0 : Int) (l0_1 : List Int) : Option (Int × (List Int) × Bool) := ((impl_MatrixValid.f k a0_0 l0_1).bind fun t1 => (if t1 = true then ((impl_filled_b.f k a0_0 a0_0 l0_1).bind fun t2 => (some (t2.1, t2.2, true))) else (some (0, ([] : List Int), false))))
def impl_GradesOf.en (r : Int × (List Int) × Bool) : Res := (.tup [.agg [.int .i64 r.1, .sl 0 0], .lit r.2.2], [.arr 3 0 (.I .i64 r.2.1) false])
def impl_GradesOf.dec : List AV → List R.Obj → Option (Int × (List Int))
  | [.agg [.int .i64 a0_0, .imm (.I .i64 l0_1)]], [] => some (a0_0, l0_1)
  | _, _ => none
def impl_GradesOf.tw : Tw := ⟨63, Int × (List Int), Int × (List Int) × Bool, impl_GradesOf.dec, fun a => [.agg [.int .i64 a.1, .imm (.I .i64 a.2)]], fun a => [], fun k a => impl_GradesOf.f k a.1 a.2, fun a r => impl_GradesOf.en r, true⟩
theorem impl_GradesOf.dok : impl_GradesOf.tw.DecOk := by
  intro args hc a h
  have h : impl_GradesOf.dec args hc = some a := h
  unfold impl_GradesOf.dec at h
  split at h
  · cases h; exact ⟨rfl, rfl⟩
  · cases h
noncomputable def impl_GradesOf.O (k : Nat) : Oracle := (impl_MatrixValid.tw.orc k (impl_filled_b.tw.orc k noO))
def impl_GradesOf.fh : FH := ⟨fun i => match i with | _ => none, [(true, 3)], false⟩
set_option maxRecDepth 100000 in
theorem impl_GradesOf.ef (k : Nat) (a0_0 : Int) (l0_1 : List Int) : R.start Try.prog xhn impl_GradesOf.O 0 Try.f63 impl_GradesOf.fh k [.agg [.int .i64 a0_0, .imm (.I .i64 l0_1)]] [] = ((impl_MatrixValid.f k a0_0 l0_1).bind fun t1 => (if t1 = true then ((impl_filled_b.f k a0_0 a0_0 l0_1).bind fun t2 => (some (impl_GradesOf.en (t2.1, t2.2, true)))) else (some (impl_GradesOf.en (0, ([] : List Int), false))))) := by kernel_rfl
theorem impl_GradesOf.sf (k : Nat) (a0_0 : Int) (l0_1 : List Int) : R.start Try.prog xhn impl_GradesOf.O 0 Try.f63 impl_GradesOf.fh k [.agg [.int .i64 a0_0, .imm (.I .i64 l0_1)]] [] = (impl_GradesOf.f k a0_0 l0_1).map (impl_GradesOf.en) := by
  rw [impl_GradesOf.ef]
  simp only [impl_GradesOf.f, R.map_ite, R.map_bind, R.map_none, R.map_some, R.wr64_eq]
theorem impl_GradesOf.ok (k : Nat) : impl_GradesOf.tw.Ok Try.prog k := by
  intro md hmd a r h
  refine fn_ok (H := xhn) (fh := impl_GradesOf.fh) (O := impl_GradesOf.O) (k := k) Try.func63 (by kernel_rfl) (by kernel_rfl) (fun j _ => (Tw.orc_sound impl_MatrixValid.dok (impl_MatrixValid.ok j) (fun _ => rfl) (Tw.orc_sound impl_filled_b.dok (impl_filled_b.ok j) (fun _ => rfl) noO_sound))) (by kernel_rfl) (m := 0) rfl ?_
  refine (impl_GradesOf.sf k a.1 a.2).trans ?_
  exact congrArg (Option.map _) h
def impl_GradesValid_1.f (a0 : Int) : Option (Bool) := (some (decide (a0 > 3)))
def impl_GradesValid_1.en (r : Bool) : Res := (.lit r, [])
def impl_GradesValid_1.dec : List AV → List R.Obj → Option (Int)
  | [.int .i64 a0], [] => some a0
  | _, _ => none
def impl_GradesValid_1.tw : Tw := ⟨67, Int, Bool, impl_GradesValid_1.dec, fun a => [.int .i64 a], fun a => [], fun k a => impl_GradesValid_1.f a, fun a r => impl_GradesValid_1.en r, true⟩
theorem impl_GradesValid_1.dok : impl_GradesValid_1.tw.DecOk := by
  intro args hc a h
  have h : impl_GradesValid_1.dec args hc = some a := h
  unfold impl_GradesValid_1.dec at h
  split at h
  · cases h; exact ⟨rfl, rfl⟩
  · cases h
noncomputable def impl_GradesValid_1.O (k : Nat) : Oracle := noO
def impl_GradesValid_1.fh : FH := ⟨fun i => match i with | _ => none, [], false⟩
set_option maxRecDepth 100000 in
theorem impl_GradesValid_1.ef (k : Nat) (a0 : Int) : R.start Try.prog xhn impl_GradesValid_1.O 0 Try.f67 impl_GradesValid_1.fh k [.int .i64 a0] [] = (some (impl_GradesValid_1.en (decide (a0 > 3)))) := by kernel_rfl
theorem impl_GradesValid_1.sf (k : Nat) (a0 : Int) : R.start Try.prog xhn impl_GradesValid_1.O 0 Try.f67 impl_GradesValid_1.fh k [.int .i64 a0] [] = (impl_GradesValid_1.f a0).map (impl_GradesValid_1.en) := by
  rw [impl_GradesValid_1.ef]
  simp only [impl_GradesValid_1.f, R.map_ite, R.map_bind, R.map_none, R.map_some, R.wr64_eq]
theorem impl_GradesValid_1.ok (k : Nat) : impl_GradesValid_1.tw.Ok Try.prog k := by
  intro md hmd a r h
  refine fn_ok (H := xhn) (fh := impl_GradesValid_1.fh) (O := impl_GradesValid_1.O) (k := k) Try.func67 (by kernel_rfl) (by kernel_rfl) (fun j _ => noO_sound) (by kernel_rfl) (m := 0) rfl ?_
  refine (impl_GradesValid_1.sf k a).trans ?_
  exact congrArg (Option.map _) h
def slices_IndexFunc_int_int_b.l0 : Nat → (List Int) → Int → Int → Option (Int)
  | 0, _, _, _ => none
  | k + 1, x0, x7, x8 => (if x8 < x7 then (if 0 ≤ x8 then (if x8 < (x0.length : Int) then ((impl_GradesValid_1.f (rdI x0 x8)).bind fun t1 => (if t1 = true then (some x8) else (slices_IndexFunc_int_int_b.l0 k x0 x7 (wrap64 (x8 + 1))))) else none) else none) else (some (-1)))
def slices_IndexFunc_int_int_b.f (k : Nat) (l0 : List Int) : Option (Int) := (slices_IndexFunc_int_int_b.l0 k l0 (l0.length : Int) 0)
def slices_IndexFunc_int_int_b.en (r : Int) : Res := (.int .i64 r, [])
def slices_IndexFunc_int_int_b.dec : List AV → List R.Obj → Option (List Int)
  | [.imm (.I .i64 l0), .clo 67 []], [] => some l0
  | _, _ => none
def slices_IndexFunc_int_int_b.tw : Tw := ⟨82, List Int, Int, slices_IndexFunc_int_int_b.dec, fun a => [.imm (.I .i64 a), .clo 67 []], fun a => [], fun k a => slices_IndexFunc_int_int_b.f k a, fun a r => slices_IndexFunc_int_int_b.en r, true⟩
theorem slices_IndexFunc_int_int_b.dok : slices_IndexFunc_int_int_b.tw.DecOk := by
  intro args hc a h
  have h : slices_IndexFunc_int_int_b.dec args hc = some a := h
  unfold slices_IndexFunc_int_int_b.dec at h
  split at h
  · cases h; exact ⟨rfl, rfl⟩
  · cases h
noncomputable def slices_IndexFunc_int_int_b.O (k : Nat) : Oracle := (impl_GradesValid_1.tw.orc k noO)
def slices_IndexFunc_int_int_b.fh : FH := ⟨fun i => match i with | 2 => some [(0, 0), (1, 0), (7, 0), (8, 0)] | _ => none, [], false⟩
noncomputable def slices_IndexFunc_int_int_b.x0 (k : Nat) (x0 : List Int) (x7 : Int) (x8 : Int) : Option Res := R.exec Try.prog xhn slices_IndexFunc_int_int_b.O 0 Try.f82 slices_IndexFunc_int_int_b.fh k (R.point Try.f82 2) ⟨[(0, .imm (.I .i64 x0)), (1, .clo 67 []), (7, .int .i64 x7), (8, .int .i64 x8)], [], 2⟩
set_option maxRecDepth 100000 in
theorem slices_IndexFunc_int_int_b.e0 (k : Nat) (x0 : List Int) (x7 : Int) (x8 : Int) : slices_IndexFunc_int_int_b.x0 (k + 1) x0 x7 x8 = (if x8 < x7 then (if 0 ≤ x8 then (if x8 < (x0.length : Int) then ((impl_GradesValid_1.f (rdI x0 x8)).bind fun t1 => (if t1 = true then (some (slices_IndexFunc_int_int_b.en x8)) else (slices_IndexFunc_int_int_b.x0 k x0 x7 (wr64 (x8 + 1))))) else none) else none) else (some (slices_IndexFunc_int_int_b.en (-1)))) := by kernel_rfl
set_option maxRecDepth 100000 in
theorem slices_IndexFunc_int_int_b.ef (k : Nat) (l0 : List Int) : R.start Try.prog xhn slices_IndexFunc_int_int_b.O 0 Try.f82 slices_IndexFunc_int_int_b.fh k [.imm (.I .i64 l0), .clo 67 []] [] = (slices_IndexFunc_int_int_b.x0 k l0 (l0.length : Int) 0) := by kernel_rfl
theorem slices_IndexFunc_int_int_b.link : ∀ k, (∀ (x0 : List Int) (x7 : Int) (x8 : Int), slices_IndexFunc_int_int_b.x0 k x0 x7 x8 = (slices_IndexFunc_int_int_b.l0 k x0 x7 x8).map (slices_IndexFunc_int_int_b.en))
  | 0 => fun _ _ _ => by simp only [slices_IndexFunc_int_int_b.l0, R.map_none]; rfl
  | k + 1 => by
    have ih0 := slices_IndexFunc_int_int_b.link k
    · intro x0 x7 x8
      rw [slices_IndexFunc_int_int_b.e0]
      simp only [slices_IndexFunc_int_int_b.l0, R.map_ite, R.map_bind, R.map_none, R.map_some, R.wr64_eq, ← ih0]
theorem slices_IndexFunc_int_int_b.sf (k : Nat) (l0 : List Int) : R.start Try.prog xhn slices_IndexFunc_int_int_b.O 0 Try.f82 slices_IndexFunc_int_int_b.fh k [.imm (.I .i64 l0), .clo 67 []] [] = (slices_IndexFunc_int_int_b.f k l0).map (slices_IndexFunc_int_int_b.en) := by
  have ih0 := slices_IndexFunc_int_int_b.link k
  rw [slices_IndexFunc_int_int_b.ef]
  simp only [slices_IndexFunc_int_int_b.f, R.map_ite, R.map_bind, R.map_none, R.map_some, R.wr64_eq, ← ih0]
theorem slices_IndexFunc_int_int_b.ok (k : Nat) : slices_IndexFunc_int_int_b.tw.Ok Try.prog k := by
  intro md hmd a r h
  refine fn_ok (H := xhn) (fh := slices_IndexFunc_int_int_b.fh) (O := slices_IndexFunc_int_int_b.O) (k := k) Try.func82 (by kernel_rfl) (by kernel_rfl) (fun j _ => (Tw.orc_sound impl_GradesValid_1.dok (impl_GradesValid_1.ok j) (fun _ => rfl) noO_sound)) (by kernel_rfl) (m := 0) rfl ?_
  refine (slices_IndexFunc_int_int_b.sf k a).trans ?_
  exact congrArg (Option.map _) h
def slices_ContainsFunc_int_int_b.f (k : Nat) (l0 : List Int) : Option (Bool) := ((slices_IndexFunc_int_int_b.f k l0).bind fun t1 => (some (decide (t1 ≥ 0))))
def slices_ContainsFunc_int_int_b.en (r : Bool) : Res := (.lit r, [])
def slices_ContainsFunc_int_int_b.dec : List AV → List R.Obj → Option (List Int)
  | [.imm (.I .i64 l0), .clo 67 []], [] => some l0
  | _, _ => none
def slices_ContainsFunc_int_int_b.tw : Tw := ⟨66, List Int, Bool, slices_ContainsFunc_int_int_b.dec, fun a => [.imm (.I .i64 a), .clo 67 []], fun a => [], fun k a => slices_ContainsFunc_int_int_b.f k a, fun a r => slices_ContainsFunc_int_int_b.en r, true⟩
theorem slices_ContainsFunc_int_int_b.dok : slices_ContainsFunc_int_int_b.tw.DecOk := by
  intro args hc a h
  have h : slices_ContainsFunc_int_int_b.dec args hc = some a := h
  unfold slices_ContainsFunc_int_int_b.dec at h
  split at h
  · cases h; exact ⟨rfl, rfl⟩
  · cases h
noncomputable def slices_ContainsFunc_int_int_b.O (k : Nat) : Oracle := (slices_IndexFunc_int_int_b.tw.orc k noO)
def slices_ContainsFunc_int_int_b.fh : FH := ⟨fun i => match i with | _ => none, [], false⟩
set_option maxRecDepth 100000 in
theorem slices_ContainsFunc_int_int_b.ef (k : Nat) (l0 : List Int) : R.start Try.prog xhn slices_ContainsFunc_int_int_b.O 0 Try.f66 slices_ContainsFunc_int_int_b.fh k [.imm (.I .i64 l0), .clo 67 []] [] = ((slices_IndexFunc_int_int_b.f k l0).bind fun t1 => (some (slices_ContainsFunc_int_int_b.en (decide (t1 ≥ 0))))) := by kernel_rfl
theorem slices_ContainsFunc_int_int_b.sf (k : Nat) (l0 : List Int) : R.start Try.prog xhn slices_ContainsFunc_int_int_b.O 0 Try.f66 slices_ContainsFunc_int_int_b.fh k [.imm (.I .i64 l0), .clo 67 []] [] = (slices_ContainsFunc_int_int_b.f k l0).map (slices_ContainsFunc_int_int_b.en) := by
  rw [slices_ContainsFunc_int_int_b.ef]
  simp only [slices_ContainsFunc_int_int_b.f, R.map_ite, R.map_bind, R.map_none, R.map_some, R.wr64_eq]
theorem slices_ContainsFunc_int_int_b.ok (k : Nat) : slices_ContainsFunc_int_int_b.tw.Ok Try.prog k := by
  intro md hmd a r h
  refine fn_ok (H := xhn) (fh := slices_ContainsFunc_int_int_b.fh) (O := slices_ContainsFunc_int_int_b.O) (k := k) Try.func66 (by kernel_rfl) (by kernel_rfl) (fun j _ => (Tw.orc_sound slices_IndexFunc_int_int_b.dok (slices_IndexFunc_int_int_b.ok j) (fun _ => rfl) noO_sound)) (by kernel_rfl) (m := 0) rfl ?_
  refine (slices_ContainsFunc_int_int_b.sf k a).trans ?_
  exact congrArg (Option.map _) h
def impl_GradesValid.f (k : Nat) (a0_0 : Int) (l0_1 : List Int) : Option (Bool) := ((impl_MatrixValid.f k a0_0 l0_1).bind fun t1 => (if t1 = true then ((slices_ContainsFunc_int_int_b.f k l0_1).bind fun t2 => (some (!decide (t2 = true)))) else (some false)))
def impl_GradesValid.en (r : Bool) : Res := (.lit r, [])
def impl_GradesValid.dec : List AV → List R.Obj → Option (Int × (List Int))
  | [.agg [.int .i64 a0_0, .imm (.I .i64 l0_1)]], [] => some (a0_0, l0_1)
  | _, _ => none
def impl_GradesValid.tw : Tw := ⟨39, Int × (List Int), Bool, impl_GradesValid.dec, fun a => [.agg [.int .i64 a.1, .imm (.I .i64 a.2)]], fun a => [], fun k a => impl_GradesValid.f k a.1 a.2, fun a r => impl_GradesValid.en r, true⟩
theorem impl_GradesValid.dok : impl_GradesValid.tw.DecOk := by
  intro args hc a h
  have h : impl_GradesValid.dec args hc = some a := h
  unfold impl_GradesValid.dec at h
  split at h
  · cases h; exact ⟨rfl, rfl⟩
  · cases h
noncomputable def impl_GradesValid.O (k : Nat) : Oracle := (impl_MatrixValid.tw.orc k (slices_ContainsFunc_int_int_b.tw.orc k noO))
def impl_GradesValid.fh : FH := ⟨fun i => match i with | _ => none, [], false⟩
set_option maxRecDepth 100000 in
theorem impl_GradesValid.ef (k : Nat) (a0_0 : Int) (l0_1 : List Int) : R.start Try.prog xhn impl_GradesValid.O 0 Try.f39 impl_GradesValid.fh k [.agg [.int .i64 a0_0, .imm (.I .i64 l0_1)]] [] = ((impl_MatrixValid.f k a0_0 l0_1).bind fun t1 => (if t1 = true then ((slices_ContainsFunc_int_int_b.f k l0_1).bind fun t2 => (some (impl_GradesValid.en (!decide (t2 = true))))) else (some (impl_GradesValid.en false)))) := by kernel_rfl
theorem impl_GradesValid.sf (k : Nat) (a0_0 : Int) (l0_1 : List Int) : R.start Try.prog xhn impl_GradesValid.O 0 Try.f39 impl_GradesValid.fh k [.agg [.int .i64 a0_0, .imm (.I .i64 l0_1)]] [] = (impl_GradesValid.f k a0_0 l0_1).map (impl_GradesValid.en) := by
  rw [impl_GradesValid.ef]
  simp only [impl_GradesValid.f, R.map_ite, R.map_bind, R.map_none, R.map_some, R.wr64_eq]
theorem impl_GradesValid.ok (k : Nat) : impl_GradesValid.tw.Ok Try.prog k := by
  intro md hmd a r h
  refine fn_ok (H := xhn) (fh := impl_GradesValid.fh) (O := impl_GradesValid.O) (k := k) Try.func39 (by kernel_rfl) (by kernel_rfl) (fun j _ => (Tw.orc_sound impl_MatrixValid.dok (impl_MatrixValid.ok j) (fun _ => rfl) (Tw.orc_sound slices_ContainsFunc_int_int_b.dok (slices_ContainsFunc_int_int_b.ok j) (fun _ => rfl) noO_sound))) (by kernel_rfl) (m := 0) rfl ?_
  refine (impl_GradesValid.sf k a.1 a.2).trans ?_
  exact congrArg (Option.map _) h
def impl_MulGrades_1.l0 : Nat → Int → Int → Int → Int → Int → Int → (List Int) → Int → (List Int) → Option (Int)
  | 0, _, _, _, _, _, _, _, _, _ => none
  | k + 1, x0, x1, x7, x10, x11, y0_0, y0_1, y1_0, y1_1 => (if x11 < x10 then ((impl_Matrix_at.f y0_0 y0_1 x0 x11).bind fun t1 => ((impl_Matrix_at.f y1_0 y1_1 x11 x1).bind fun t2 => (impl_MulGrades_1.l0 k x0 x1 (mn x7 (mx t1 t2)) x10 (wrap64 (x11 + 1)) y0_0 y0_1 y1_0 y1_1))) else (some x7))
def impl_MulGrades_1.f (k : Nat) (a0 : Int) (a1 : Int) (a4_0 : Int) (l4_1 : List Int) (a5_0 : Int) (l5_1 : List Int) : Option (Int) := (impl_MulGrades_1.l0 k a0 a1 3 a4_0 0 a4_0 l4_1 a5_0 l5_1)
def impl_MulGrades_1.en (a4_0 : Int) (l4_1 : List Int) (a5_0 : Int) (l5_1 : List Int) (r : Int) : Res := (.int .i64 r, [.box true [.int .i64 a4_0, .imm (.I .i64 l4_1)], .box true [.int .i64 a5_0, .imm (.I .i64 l5_1)]])
def impl_MulGrades_1.dec : List AV → List R.Obj → Option (Int × Int × Int × (List Int) × Int × (List Int))
  | [.int .i64 a0, .int .i64 a1, .ptr 0 0, .ptr 1 0], [.box true [.int .i64 a4_0, .imm (.I .i64 l4_1)], .box true [.int .i64 a5_0, .imm (.I .i64 l5_1)]] => some (a0, a1, a4_0, l4_1, a5_0, l5_1)
  | _, _ => none
def impl_MulGrades_1.tw : Tw := ⟨41, Int × Int × Int × (List Int) × Int × (List Int), Int, impl_MulGrades_1.dec, fun a => [.int .i64 a.1, .int .i64 a.2.1, .ptr 0 0, .ptr 1 0], fun a => [.box true [.int .i64 a.2.2.1, .imm (.I .i64 a.2.2.2.1)], .box true [.int .i64 a.2.2.2.2.1, .imm (.I .i64 a.2.2.2.2.2)]], fun k a => impl_MulGrades_1.f k a.1 a.2.1 a.2.2.1 a.2.2.2.1 a.2.2.2.2.1 a.2.2.2.2.2, fun a r => impl_MulGrades_1.en a.2.2.1 a.2.2.2.1 a.2.2.2.2.1 a.2.2.2.2.2 r, true⟩
theorem impl_MulGrades_1.dok : impl_MulGrades_1.tw.DecOk := by
  intro args hc a h
  have h : impl_MulGrades_1.dec args hc = some a := h
  unfold impl_MulGrades_1.dec at h
  split at h
  · cases h; exact ⟨rfl, rfl⟩
  · cases h
noncomputable def impl_MulGrades_1.O (k : Nat) : Oracle := (impl_Matrix_at.tw.orc k noO)
def impl_MulGrades_1.fh : FH := ⟨fun i => match i with | 3 => some [(0, 0), (1, 0), (2, 0), (3, 0), (7, 0), (10, 0), (11, 0)] | _ => none, [], false⟩
noncomputable def impl_MulGrades_1.x0 (k : Nat) (x0 : Int) (x1 : Int) (x7 : Int) (x10 : Int) (x11 : Int) (y0_0 : Int) (y0_1 : List Int) (y1_0 : Int) (y1_1 : List Int) : Option Res := R.exec Try.prog xhn impl_MulGrades_1.O 2 Try.f41 impl_MulGrades_1.fh k (R.point Try.f41 3) ⟨[(0, .int .i64 x0), (1, .int .i64 x1), (2, .ptr 0 0), (3, .ptr 1 0), (7, .int .i64 x7), (10, .int .i64 x10), (11, .int .i64 x11)], [(0, .box true [.int .i64 y0_0, .imm (.I .i64 y0_1)]), (1, .box true [.int .i64 y1_0, .imm (.I .i64 y1_1)])], 4⟩
set_option maxRecDepth 100000 in
theorem impl_MulGrades_1.e0 (k : Nat) (x0 : Int) (x1 : Int) (x7 : Int) (x10 : Int) (x11 : Int) (y0_0 : Int) (y0_1 : List Int) (y1_0 : Int) (y1_1 : List Int) : impl_MulGrades_1.x0 (k + 1) x0 x1 x7 x10 x11 y0_0 y0_1 y1_0 y1_1 = (if x11 < x10 then ((impl_Matrix_at.f y0_0 y0_1 x0 x11).bind fun t1 => ((impl_Matrix_at.f y1_0 y1_1 x11 x1).bind fun t2 => (impl_MulGrades_1.x0 k x0 x1 (mn x7 (mx t1 t2)) x10 (wr64 (x11 + 1)) y0_0 y0_1 y1_0 y1_1))) else (some (impl_MulGrades_1.en y0_0 y0_1 y1_0 y1_1 x7))) := by kernel_rfl
set_option maxRecDepth 100000 in
theorem impl_MulGrades_1.ef (k : Nat) (a0 : Int) (a1 : Int) (a4_0 : Int) (l4_1 : List Int) (a5_0 : Int) (l5_1 : List Int) : R.start Try.prog xhn impl_MulGrades_1.O 2 Try.f41 impl_MulGrades_1.fh k [.int .i64 a0, .int .i64 a1, .ptr 0 0, .ptr 1 0] [.box true [.int .i64 a4_0, .imm (.I .i64 l4_1)], .box true [.int .i64 a5_0, .imm (.I .i64 l5_1)]] = (impl_MulGrades_1.x0 k a0 a1 3 a4_0 0 a4_0 l4_1 a5_0 l5_1) := by kernel_rfl
theorem impl_MulGrades_1.link : ∀ k, (∀ (x0 : Int) (x1 : Int) (x7 : Int) (x10 : Int) (x11 : Int) (y0_0 : Int) (y0_1 : List Int) (y1_0 : Int) (y1_1 : List Int), impl_MulGrades_1.x0 k x0 x1 x7 x10 x11 y0_0 y0_1 y1_0 y1_1 = (impl_MulGrades_1.l0 k x0 x1 x7 x10 x11 y0_0 y0_1 y1_0 y1_1).map (impl_MulGrades_1.en y0_0 y0_1 y1_0 y1_1))
  | 0 => fun _ _ _ _ _ _ _ _ _ => by simp only [impl_MulGrades_1.l0, R.map_none]; rfl
  | k + 1 => by
    have ih0 := impl_MulGrades_1.link k
    · intro x0 x1 x7 x10 x11 y0_0 y0_1 y1_0 y1_1
      rw [impl_MulGrades_1.e0]
      simp only [impl_MulGrades_1.l0, R.map_ite, R.map_bind, R.map_none, R.map_some, R.wr64_eq, ← ih0]
theorem impl_MulGrades_1.sf (k : Nat) (a0 : Int) (a1 : Int) (a4_0 : Int) (l4_1 : List Int) (a5_0 : Int) (l5_1 : List Int) : R.start Try.prog xhn impl_MulGrades_1.O 2 Try.f41 impl_MulGrades_1.fh k [.int .i64 a0, .int .i64 a1, .ptr 0 0, .ptr 1 0] [.box true [.int .i64 a4_0, .imm (.I .i64 l4_1)], .box true [.int .i64 a5_0, .imm (.I .i64 l5_1)]] = (impl_MulGrades_1.f k a0 a1 a4_0 l4_1 a5_0 l5_1).map (impl_MulGrades_1.en a4_0 l4_1 a5_0 l5_1) := by
  have ih0 := impl_MulGrades_1.link k
  rw [impl_MulGrades_1.ef]
  simp only [impl_MulGrades_1.f, R.map_ite, R.map_bind, R.map_none, R.map_some, R.wr64_eq, ← ih0]
theorem impl_MulGrades_1.ok (k : Nat) : impl_MulGrades_1.tw.Ok Try.prog k := by
  intro md hmd a r h
  refine fn_ok (H := xhn) (fh := impl_MulGrades_1.fh) (O := impl_MulGrades_1.O) (k := k) Try.func41 (by kernel_rfl) (by kernel_rfl) (fun j _ => (Tw.orc_sound impl_Matrix_at.dok (impl_Matrix_at.ok j) (fun _ => rfl) noO_sound)) (by kernel_rfl) (m := 2) rfl ?_
  refine (impl_MulGrades_1.sf k a.1 a.2.1 a.2.2.1 a.2.2.2.1 a.2.2.2.2.1 a.2.2.2.2.2).trans ?_
  exact congrArg (Option.map _) h
mutual
def impl_filled_c.l0 : Nat → Int → Int → Int → Int → (List Int) → Int → (List Int) → Int → (List Int) → Option (Int × (List Int))
  | 0, _, _, _, _, _, _, _, _, _ => none
  | k + 1, x0, x10, x11, y0_0, y0_1, y1_0, y1_1, y3_0, y5 => (if x11 < x10 then (impl_filled_c.l1 k x0 x11 x10 x11 x0 0 y0_0 y0_1 y1_0 y1_1 y3_0 y5) else (some (y3_0, y5)))
def impl_filled_c.l1 : Nat → Int → Int → Int → Int → Int → Int → Int → (List Int) → Int → (List Int) → Int → (List Int) → Option (Int × (List Int))
  | 0, _, _, _, _, _, _, _, _, _, _, _, _ => none
  | k + 1, x0, x6, x10, x11, x14, x15, y0_0, y0_1, y1_0, y1_1, y3_0, y5 => (if x15 < x14 then ((impl_MulGrades_1.f k x6 x15 y0_0 y0_1 y1_0 y1_1).bind fun t1 => (if y5.length < 17592186044416 then (impl_filled_c.l1 k x0 x6 x10 x11 x14 (wrap64 (x15 + 1)) y0_0 y0_1 y1_0 y1_1 y3_0 (y5 ++ [t1])) else none)) else (impl_filled_c.l0 k x0 x10 (wrap64 (x11 + 1)) y0_0 y0_1 y1_0 y1_1 y3_0 y5))
end
def impl_filled_c.f (k : Nat) (a0 : Int) (a2_0 : Int) (l2_1 : List Int) (a3_0 : Int) (l3_1 : List Int) : Option (Int × (List Int)) := (impl_filled_c.l0 k a0 a0 0 a2_0 l2_1 a3_0 l3_1 a0 ([] : List Int))
def impl_filled_c.en (a2_0 : Int) (l2_1 : List Int) (a3_0 : Int) (l3_1 : List Int) (r : Int × (List Int)) : Res := (.agg [.int .i64 r.1, .sl 2 0], [.box true [.int .i64 a2_0, .imm (.I .i64 l2_1)], .box true [.int .i64 a3_0, .imm (.I .i64 l3_1)], .arr 3 0 (.I .i64 r.2) false])
def impl_filled_c.dec : List AV → List R.Obj → Option (Int × Int × (List Int) × Int × (List Int))
  | [.int .i64 a0, .clo 41 [.ptr 0 0, .ptr 1 0]], [.box true [.int .i64 a2_0, .imm (.I .i64 l2_1)], .box true [.int .i64 a3_0, .imm (.I .i64 l3_1)]] => some (a0, a2_0, l2_1, a3_0, l3_1)
  | _, _ => none
def impl_filled_c.tw : Tw := ⟨40, Int × Int × (List Int) × Int × (List Int), Int × (List Int), impl_filled_c.dec, fun a => [.int .i64 a.1, .clo 41 [.ptr 0 0, .ptr 1 0]], fun a => [.box true [.int .i64 a.2.1, .imm (.I .i64 a.2.2.1)], .box true [.int .i64 a.2.2.2.1, .imm (.I .i64 a.2.2.2.2)]], fun k a => impl_filled_c.f k a.1 a.2.1 a.2.2.1 a.2.2.2.1 a.2.2.2.2, fun a r => impl_filled_c.en a.2.1 a.2.2.1 a.2.2.2.1 a.2.2.2.2 r, true⟩
theorem impl_filled_c.dok : impl_filled_c.tw.DecOk := by
  intro args hc a h
  have h : impl_filled_c.dec args hc = some a := h
  unfold impl_filled_c.dec at h
  split at h
  · cases h; exact ⟨rfl, rfl⟩
  · cases h
noncomputable def impl_filled_c.O (k : Nat) : Oracle := (impl_MulGrades_1.tw.orc k noO)
def impl_filled_c.fh : FH := ⟨fun i => match i with | 3 => some [(0, 0), (1, 0), (4, 0), (5, 0), (10, 0), (11, 0)] | 6 => some [(0, 0), (1, 0), (4, 0), (5, 0), (6, 0), (10, 0), (11, 0), (14, 0), (15, 0)] | _ => none, [(true, 3)], false⟩
noncomputable def impl_filled_c.x0 (k : Nat) (x0 : Int) (x10 : Int) (x11 : Int) (y0_0 : Int) (y0_1 : List Int) (y1_0 : Int) (y1_1 : List Int) (y3_0 : Int) (y5 : List Int) : Option Res := R.exec Try.prog xhn impl_filled_c.O 2 Try.f40 impl_filled_c.fh k (R.point Try.f40 3) ⟨[(0, .int .i64 x0), (1, .clo 41 [.ptr 0 0, .ptr 1 0]), (4, .ptr 2 0), (5, .ptr 3 0), (10, .int .i64 x10), (11, .int .i64 x11)], [(0, .box true [.int .i64 y0_0, .imm (.I .i64 y0_1)]), (1, .box true [.int .i64 y1_0, .imm (.I .i64 y1_1)]), (2, .box false [.int .i64 0, .sl 4 0]), (3, .box false [.int .i64 y3_0, .sl 5 0]), (4, .arr 3 0 (.I .i64 ([] : List Int)) false), (5, .arr 3 0 (.I .i64 y5) false)], 8⟩
noncomputable def impl_filled_c.x1 (k : Nat) (x0 : Int) (x6 : Int) (x10 : Int) (x11 : Int) (x14 : Int) (x15 : Int) (y0_0 : Int) (y0_1 : List Int) (y1_0 : Int) (y1_1 : List Int) (y3_0 : Int) (y5 : List Int) : Option Res := R.exec Try.prog xhn impl_filled_c.O 2 Try.f40 impl_filled_c.fh k (R.point Try.f40 6) ⟨[(0, .int .i64 x0), (1, .clo 41 [.ptr 0 0, .ptr 1 0]), (4, .ptr 2 0), (5, .ptr 3 0), (6, .int .i64 x6), (10, .int .i64 x10), (11, .int .i64 x11), (14, .int .i64 x14), (15, .int .i64 x15)], [(0, .box true [.int .i64 y0_0, .imm (.I .i64 y0_1)]), (1, .box true [.int .i64 y1_0, .imm (.I .i64 y1_1)]), (2, .box false [.int .i64 0, .sl 4 0]), (3, .box false [.int .i64 y3_0, .sl 5 0]), (4, .arr 3 0 (.I .i64 ([] : List Int)) false), (5, .arr 3 0 (.I .i64 y5) false)], 8⟩
set_option maxRecDepth 100000 in
theorem impl_filled_c.e0 (k : Nat) (x0 : Int) (x10 : Int) (x11 : Int) (y0_0 : Int) (y0_1 : List Int) (y1_0 : Int) (y1_1 : List Int) (y3_0 : Int) (y5 : List Int) : impl_filled_c.x0 (k + 1) x0 x10 x11 y0_0 y0_1 y1_0 y1_1 y3_0 y5 = (if x11 < x10 then (impl_filled_c.x1 k x0 x11 x10 x11 x0 0 y0_0 y0_1 y1_0 y1_1 y3_0 y5) else (some (impl_filled_c.en y0_0 y0_1 y1_0 y1_1 (y3_0, y5)))) := by kernel_rfl
set_option maxRecDepth 100000 in
theorem impl_filled_c.e1 (k : Nat) (x0 : Int) (x6 : Int) (x10 : Int) (x11 : Int) (x14 : Int) (x15 : Int) (y0_0 : Int) (y0_1 : List Int) (y1_0 : Int) (y1_1 : List Int) (y3_0 : Int) (y5 : List Int) : impl_filled_c.x1 (k + 1) x0 x6 x10 x11 x14 x15 y0_0 y0_1 y1_0 y1_1 y3_0 y5 = (if x15 < x14 then ((impl_MulGrades_1.f k x6 x15 y0_0 y0_1 y1_0 y1_1).bind fun t1 => (if y5.length < 17592186044416 then (impl_filled_c.x1 k x0 x6 x10 x11 x14 (wr64 (x15 + 1)) y0_0 y0_1 y1_0 y1_1 y3_0 (y5 ++ [t1])) else none)) else (impl_filled_c.x0 k x0 x10 (wr64 (x11 + 1)) y0_0 y0_1 y1_0 y1_1 y3_0 y5)) := by kernel_rfl
set_option maxRecDepth 100000 in
theorem impl_filled_c.ef (k : Nat) (a0 : Int) (a2_0 : Int) (l2_1 : List Int) (a3_0 : Int) (l3_1 : List Int) : R.start Try.prog xhn impl_filled_c.O 2 Try.f40 impl_filled_c.fh k [.int .i64 a0, .clo 41 [.ptr 0 0, .ptr 1 0]] [.box true [.int .i64 a2_0, .imm (.I .i64 l2_1)], .box true [.int .i64 a3_0, .imm (.I .i64 l3_1)]] = (impl_filled_c.x0 k a0 a0 0 a2_0 l2_1 a3_0 l3_1 a0 ([] : List Int)) := by kernel_rfl
theorem impl_filled_c.link : ∀ k, (∀ (x0 : Int) (x10 : Int) (x11 : Int) (y0_0 : Int) (y0_1 : List Int) (y1_0 : Int) (y1_1 : List Int) (y3_0 : Int) (y5 : List Int), impl_filled_c.x0 k x0 x10 x11 y0_0 y0_1 y1_0 y1_1 y3_0 y5 = (impl_filled_c.l0 k x0 x10 x11 y0_0 y0_1 y1_0 y1_1 y3_0 y5).map (impl_filled_c.en y0_0 y0_1 y1_0 y1_1)) ∧ (∀ (x0 : Int) (x6 : Int) (x10 : Int) (x11 : Int) (x14 : Int) (x15 : Int) (y0_0 : Int) (y0_1 : List Int) (y1_0 : Int) (y1_1 : List Int) (y3_0 : Int) (y5 : List Int), impl_filled_c.x1 k x0 x6 x10 x11 x14 x15 y0_0 y0_1 y1_0 y1_1 y3_0 y5 = (impl_filled_c.l1 k x0 x6 x10 x11 x14 x15 y0_0 y0_1 y1_0 y1_1 y3_0 y5).map (impl_filled_c.en y0_0 y0_1 y1_0 y1_1))
  | 0 => ⟨fun _ _ _ _ _ _ _ _ _ => by simp only [impl_filled_c.l0, R.map_none]; rfl, fun _ _ _ _ _ _ _ _ _ _ _ _ => by simp only [impl_filled_c.l1, R.map_none]; rfl⟩
  | k + 1 => by
    obtain ⟨ih0, ih1⟩ := impl_filled_c.link k
    refine ⟨?_, ?_⟩
    · intro x0 x10 x11 y0_0 y0_1 y1_0 y1_1 y3_0 y5
      rw [impl_filled_c.e0]
      simp only [impl_filled_c.l0, R.map_ite, R.map_bind, R.map_none, R.map_some, R.wr64_eq, ← ih0, ← ih1]
    · intro x0 x6 x10 x11 x14 x15 y0_0 y0_1 y1_0 y1_1 y3_0 y5
      rw [impl_filled_c.e1]
      simp only [impl_filled_c.l1, R.map_ite, R.map_bind, R.map_none, R.map_some, R.wr64_eq, ← ih0, ← ih1]
theorem impl_filled_c.sf (k : Nat) (a0 : Int) (a2_0 : Int) (l2_1 : List Int) (a3_0 : Int) (l3_1 : List Int) : R.start Try.prog xhn impl_filled_c.O 2 Try.f40 impl_filled_c.fh k [.int .i64 a0, .clo 41 [.ptr 0 0, .ptr 1 0]] [.box true [.int .i64 a2_0, .imm (.I .i64 l2_1)], .box true [.int .i64 a3_0, .imm (.I .i64 l3_1)]] = (impl_filled_c.f k a0 a2_0 l2_1 a3_0 l3_1).map (impl_filled_c.en a2_0 l2_1 a3_0 l3_1) := by
  obtain ⟨ih0, ih1⟩ := impl_filled_c.link k
  rw [impl_filled_c.ef]
  simp only [impl_filled_c.f, R.map_ite, R.map_bind, R.map_none, R.map_some, R.wr64_eq, ← ih0, ← ih1]
theorem impl_filled_c.ok (k : Nat) : impl_filled_c.tw.Ok Try.prog k := by
  intro md hmd a r h
  refine fn_ok (H := xhn) (fh := impl_filled_c.fh) (O := impl_filled_c.O) (k := k) Try.func40 (by kernel_rfl) (by kernel_rfl) (fun j _ => (Tw.orc_sound impl_MulGrades_1.dok (impl_MulGrades_1.ok j) (fun _ => rfl) noO_sound)) (by kernel_rfl) (m := 2) rfl ?_
  refine (impl_filled_c.sf k a.1 a.2.1 a.2.2.1 a.2.2.2.1 a.2.2.2.2).trans ?_
  exact congrArg (Option.map _) h
def impl_MulGrades.f (k : Nat) (a0_0 : Int) (l0_1 : List Int) (a1_0 : Int) (l1_1 : List Int) : Option (Int × (List Int) × Bool) := ((impl_GradesValid.f k a0_0 l0_1).bind fun t1 => (if t1 = true then ((impl_GradesValid.f k a1_0 l1_1).bind fun t2 => (if t2 = true then (if a0_0 = a1_0 then ((impl_filled_c.f k a0_0 a0_0 l0_1 a1_0 l1_1).bind fun t3 => (some (t3.1, t3.2, true))) else (some (0, ([] : List Int), false))) else (some (0, ([] : List Int), false)))) else (some (0, ([] : List Int), false))))
def impl_MulGrades.en (r : Int × (List Int) × Bool) : Res := (.tup [.agg [.int .i64 r.1, .sl 0 0], .lit r.2.2], [.arr 3 0 (.I .i64 r.2.1) false])
def impl_MulGrades.dec : List AV → List R.Obj → Option (Int × (List Int) × Int × (List Int))
  | [.agg [.int .i64 a0_0, .imm (.I .i64 l0_1)], .agg [.int .i64 a1_0, .imm (.I .i64 l1_1)]], [] => some (a0_0, l0_1, a1_0, l1_1)
  | _, _ => none
def impl_MulGrades.tw : Tw := ⟨22, Int × (List Int) × Int × (List Int), Int × (List Int) × Bool, impl_MulGrades.dec, fun a => [.agg [.int .i64 a.1, .imm (.I .i64 a.2.1)], .agg [.int .i64 a.2.2.1, .imm (.I .i64 a.2.2.2)]], fun a => [], fun k a => impl_MulGrades.f k a.1 a.2.1 a.2.2.1 a.2.2.2, fun a r => impl_MulGrades.en r, true⟩
theorem impl_MulGrades.dok : impl_MulGrades.tw.DecOk := by
  intro args hc a h
  have h : impl_MulGrades.dec args hc = some a := h
  unfold impl_MulGrades.dec at h
  split at h
  · cases h; exact ⟨rfl, rfl⟩
  · cases h
noncomputable def impl_MulGrades.O (k : Nat) : Oracle := (impl_GradesValid.tw.orc k (impl_filled_c.tw.orc k noO))
def impl_MulGrades.fh : FH := ⟨fun i => match i with | _ => none, [(true, 3)], false⟩
set_option maxRecDepth 100000 in
theorem impl_MulGrades.ef (k : Nat) (a0_0 : Int) (l0_1 : List Int) (a1_0 : Int) (l1_1 : List Int) : R.start Try.prog xhn impl_MulGrades.O 0 Try.f22 impl_MulGrades.fh k [.agg [.int .i64 a0_0, .imm (.I .i64 l0_1)], .agg [.int .i64 a1_0, .imm (.I .i64 l1_1)]] [] = ((impl_GradesValid.f k a0_0 l0_1).bind fun t1 => (if t1 = true then ((impl_GradesValid.f k a1_0 l1_1).bind fun t2 => (if t2 = true then (if a0_0 = a1_0 then ((impl_filled_c.f k a0_0 a0_0 l0_1 a1_0 l1_1).bind fun t3 => (some (impl_MulGrades.en (t3.1, t3.2, true)))) else (some (impl_MulGrades.en (0, ([] : List Int), false)))) else (some (impl_MulGrades.en (0, ([] : List Int), false))))) else (some (impl_MulGrades.en (0, ([] : List Int), false))))) := by kernel_rfl
theorem impl_MulGrades.sf (k : Nat) (a0_0 : Int) (l0_1 : List Int) (a1_0 : Int) (l1_1 : List Int) : R.start Try.prog xhn impl_MulGrades.O 0 Try.f22 impl_MulGrades.fh k [.agg [.int .i64 a0_0, .imm (.I .i64 l0_1)], .agg [.int .i64 a1_0, .imm (.I .i64 l1_1)]] [] = (impl_MulGrades.f k a0_0 l0_1 a1_0 l1_1).map (impl_MulGrades.en) := by
  rw [impl_MulGrades.ef]
  simp only [impl_MulGrades.f, R.map_ite, R.map_bind, R.map_none, R.map_some, R.wr64_eq]
theorem impl_MulGrades.ok (k : Nat) : impl_MulGrades.tw.Ok Try.prog k := by
  intro md hmd a r h
  refine fn_ok (H := xhn) (fh := impl_MulGrades.fh) (O := impl_MulGrades.O) (k := k) Try.func22 (by kernel_rfl) (by kernel_rfl) (fun j _ => (Tw.orc_sound impl_GradesValid.dok (impl_GradesValid.ok j) (fun _ => rfl) (Tw.orc_sound impl_filled_c.dok (impl_filled_c.ok j) (fun _ => rfl) noO_sound))) (by kernel_rfl) (m := 0) rfl ?_
  refine (impl_MulGrades.sf k a.1 a.2.1 a.2.2.1 a.2.2.2).trans ?_
  exact congrArg (Option.map _) h
def slices_Equal_int_int.l0 : Nat → (List Int) → (List Int) → Int → Int → Option (Bool)
  | 0, _, _, _, _ => none
  | k + 1, x0, x1, x12, x13 => (if x13 < x12 then (if 0 ≤ x13 then (if x13 < (x0.length : Int) then (if x13 < (x1.length : Int) then (if (rdI x0 x13) = (rdI x1 x13) then (slices_Equal_int_int.l0 k x0 x1 x12 (wrap64 (x13 + 1))) else (some false)) else none) else none) else none) else (some true))
def slices_Equal_int_int.f (k : Nat) (l0 : List Int) (l1 : List Int) : Option (Bool) := (if (l0.length : Int) = (l1.length : Int) then (slices_Equal_int_int.l0 k l0 l1 (l0.length : Int) 0) else (some false))
def slices_Equal_int_int.en (r : Bool) : Res := (.lit r, [])
def slices_Equal_int_int.dec : List AV → List R.Obj → Option ((List Int) × (List Int))
  | [.imm (.I .i64 l0), .imm (.I .i64 l1)], [] => some (l0, l1)
  | _, _ => none
def slices_Equal_int_int.tw : Tw := ⟨69, (List Int) × (List Int), Bool, slices_Equal_int_int.dec, fun a => [.imm (.I .i64 a.1), .imm (.I .i64 a.2)], fun a => [], fun k a => slices_Equal_int_int.f k a.1 a.2, fun a r => slices_Equal_int_int.en r, true⟩
theorem slices_Equal_int_int.dok : slices_Equal_int_int.tw.DecOk := by
  intro args hc a h
  have h : slices_Equal_int_int.dec args hc = some a := h
  unfold slices_Equal_int_int.dec at h
  split at h
  · cases h; exact ⟨rfl, rfl⟩
  · cases h
noncomputable def slices_Equal_int_int.O (k : Nat) : Oracle := noO
def slices_Equal_int_int.fh : FH := ⟨fun i => match i with | 4 => some [(0, 0), (1, 0), (12, 0), (13, 0)] | _ => none, [], false⟩
noncomputable def slices_Equal_int_int.x0 (k : Nat) (x0 : List Int) (x1 : List Int) (x12 : Int) (x13 : Int) : Option Res := R.exec Try.prog xhn slices_Equal_int_int.O 0 Try.f69 slices_Equal_int_int.fh k (R.point Try.f69 4) ⟨[(0, .imm (.I .i64 x0)), (1, .imm (.I .i64 x1)), (12, .int .i64 x12), (13, .int .i64 x13)], [], 2⟩
set_option maxRecDepth 100000 in
theorem slices_Equal_int_int.e0 (k : Nat) (x0 : List Int) (x1 : List Int) (x12 : Int) (x13 : Int) : slices_Equal_int_int.x0 (k + 1) x0 x1 x12 x13 = (if x13 < x12 then (if 0 ≤ x13 then (if x13 < (x0.length : Int) then (if x13 < (x1.length : Int) then (if (rdI x0 x13) = (rdI x1 x13) then (slices_Equal_int_int.x0 k x0 x1 x12 (wr64 (x13 + 1))) else (some (slices_Equal_int_int.en false))) else none) else none) else none) else (some (slices_Equal_int_int.en true))) := by
  refine Eq.trans ?_ (R.icong (fun h0 => (R.icong (fun h1 => (R.icong (fun h2 => (R.idropT (p := 0 ≤ x13) (z := none) h1 rfl)) (fun h2 => rfl))) (fun h1 => rfl))) (fun h0 => rfl))
  kernel_rfl
set_option maxRecDepth 100000 in
theorem slices_Equal_int_int.ef (k : Nat) (l0 : List Int) (l1 : List Int) : R.start Try.prog xhn slices_Equal_int_int.O 0 Try.f69 slices_Equal_int_int.fh k [.imm (.I .i64 l0), .imm (.I .i64 l1)] [] = (if (l0.length : Int) = (l1.length : Int) then (slices_Equal_int_int.x0 k l0 l1 (l0.length : Int) 0) else (some (slices_Equal_int_int.en false))) := by kernel_rfl
theorem slices_Equal_int_int.link : ∀ k, (∀ (x0 : List Int) (x1 : List Int) (x12 : Int) (x13 : Int), slices_Equal_int_int.x0 k x0 x1 x12 x13 = (slices_Equal_int_int.l0 k x0 x1 x12 x13).map (slices_Equal_int_int.en))
  | 0 => fun _ _ _ _ => by simp only [slices_Equal_int_int.l0, R.map_none]; rfl
  | k + 1 => by
    have ih0 := slices_Equal_int_int.link k
    · intro x0 x1 x12 x13
      rw [slices_Equal_int_int.e0]
      simp only [slices_Equal_int_int.l0, R.map_ite, R.map_bind, R.map_none, R.map_some, R.wr64_eq, ← ih0]
theorem slices_Equal_int_int.sf (k : Nat) (l0 : List Int) (l1 : List Int) : R.start Try.prog xhn slices_Equal_int_int.O 0 Try.f69 slices_Equal_int_int.fh k [.imm (.I .i64 l0), .imm (.I .i64 l1)] [] = (slices_Equal_int_int.f k l0 l1).map (slices_Equal_int_int.en) := by
  have ih0 := slices_Equal_int_int.link k
  rw [slices_Equal_int_int.ef]
  simp only [slices_Equal_int_int.f, R.map_ite, R.map_bind, R.map_none, R.map_some, R.wr64_eq, ← ih0]
theorem slices_Equal_int_int.ok (k : Nat) : slices_Equal_int_int.tw.Ok Try.prog k := by
  intro md hmd a r h
  refine fn_ok (H := xhn) (fh := slices_Equal_int_int.fh) (O := slices_Equal_int_int.O) (k := k) Try.func69 (by kernel_rfl) (by kernel_rfl) (fun j _ => noO_sound) (by kernel_rfl) (m := 0) rfl ?_
  refine (slices_Equal_int_int.sf k a.1 a.2).trans ?_
  exact congrArg (Option.map _) h
def impl_SameMatrix.f (k : Nat) (a0_0 : Int) (l0_1 : List Int) (a1_0 : Int) (l1_1 : List Int) : Option (Bool) := (if a0_0 = a1_0 then ((slices_Equal_int_int.f k l0_1 l1_1).bind fun t1 => (some t1)) else (some false))
def impl_SameMatrix.en (r : Bool) : Res := (.lit r, [])
def impl_SameMatrix.dec : List AV → List R.Obj → Option (Int × (List Int) × Int × (List Int))
  | [.agg [.int .i64 a0_0, .imm (.I .i64 l0_1)], .agg [.int .i64 a1_0, .imm (.I .i64 l1_1)]], [] => some (a0_0, l0_1, a1_0, l1_1)
  | _, _ => none
def impl_SameMatrix.tw : Tw := ⟨45, Int × (List Int) × Int × (List Int), Bool, impl_SameMatrix.dec, fun a => [.agg [.int .i64 a.1, .imm (.I .i64 a.2.1)], .agg [.int .i64 a.2.2.1, .imm (.I .i64 a.2.2.2)]], fun a => [], fun k a => impl_SameMatrix.f k a.1 a.2.1 a.2.2.1 a.2.2.2, fun a r => impl_SameMatrix.en r, true⟩
theorem impl_SameMatrix.dok : impl_SameMatrix.tw.DecOk := by
  intro args hc a h
  have h : impl_SameMatrix.dec args hc = some a := h
  unfold impl_SameMatrix.dec at h
  split at h
  · cases h; exact ⟨rfl, rfl⟩
  · cases h
noncomputable def impl_SameMatrix.O (k : Nat) : Oracle := (slices_Equal_int_int.tw.orc k noO)
def impl_SameMatrix.fh : FH := ⟨fun i => match i with | _ => none, [], false⟩
set_option maxRecDepth 100000 in
theorem impl_SameMatrix.ef (k : Nat) (a0_0 : Int) (l0_1 : List Int) (a1_0 : Int) (l1_1 : List Int) : R.start Try.prog xhn impl_SameMatrix.O 0 Try.f45 impl_SameMatrix.fh k [.agg [.int .i64 a0_0, .imm (.I .i64 l0_1)], .agg [.int .i64 a1_0, .imm (.I .i64 l1_1)]] [] = (if a0_0 = a1_0 then ((slices_Equal_int_int.f k l0_1 l1_1).bind fun t1 => (some (impl_SameMatrix.en t1))) else (some (impl_SameMatrix.en false))) := by kernel_rfl
theorem impl_SameMatrix.sf (k : Nat) (a0_0 : Int) (l0_1 : List Int) (a1_0 : Int) (l1_1 : List Int) : R.start Try.prog xhn impl_SameMatrix.O 0 Try.f45 impl_SameMatrix.fh k [.agg [.int .i64 a0_0, .imm (.I .i64 l0_1)], .agg [.int .i64 a1_0, .imm (.I .i64 l1_1)]] [] = (impl_SameMatrix.f k a0_0 l0_1 a1_0 l1_1).map (impl_SameMatrix.en) := by
  rw [impl_SameMatrix.ef]
  simp only [impl_SameMatrix.f, R.map_ite, R.map_bind, R.map_none, R.map_some, R.wr64_eq]
theorem impl_SameMatrix.ok (k : Nat) : impl_SameMatrix.tw.Ok Try.prog k := by
  intro md hmd a r h
  refine fn_ok (H := xhn) (fh := impl_SameMatrix.fh) (O := impl_SameMatrix.O) (k := k) Try.func45 (by kernel_rfl) (by kernel_rfl) (fun j _ => (Tw.orc_sound slices_Equal_int_int.dok (slices_Equal_int_int.ok j) (fun _ => rfl) noO_sound)) (by kernel_rfl) (m := 0) rfl ?_
  refine (impl_SameMatrix.sf k a.1 a.2.1 a.2.2.1 a.2.2.2).trans ?_
  exact congrArg (Option.map _) h
def impl_IsIdempotent.f (k : Nat) (a0_0 : Int) (l0_1 : List Int) : Option (Bool) := ((impl_MulGrades.f k a0_0 l0_1 a0_0 l0_1).bind fun t1 => (if t1.2.2 = true then ((impl_SameMatrix.f k t1.1 t1.2.1 a0_0 l0_1).bind fun t2 => (some t2)) else (some false)))
def impl_IsIdempotent.en (r : Bool) : Res := (.lit r, [])
def impl_IsIdempotent.dec : List AV → List R.Obj → Option (Int × (List Int))
  | [.agg [.int .i64 a0_0, .imm (.I .i64 l0_1)]], [] => some (a0_0, l0_1)
  | _, _ => none
def impl_IsIdempotent.tw : Tw := ⟨78, Int × (List Int), Bool, impl_IsIdempotent.dec, fun a => [.agg [.int .i64 a.1, .imm (.I .i64 a.2)]], fun a => [], fun k a => impl_IsIdempotent.f k a.1 a.2, fun a r => impl_IsIdempotent.en r, true⟩
theorem impl_IsIdempotent.dok : impl_IsIdempotent.tw.DecOk := by
  intro args hc a h
  have h : impl_IsIdempotent.dec args hc = some a := h
  unfold impl_IsIdempotent.dec at h
  split at h
  · cases h; exact ⟨rfl, rfl⟩
  · cases h
noncomputable def impl_IsIdempotent.O (k : Nat) : Oracle := (impl_MulGrades.tw.orc k (impl_SameMatrix.tw.orc k noO))
def impl_IsIdempotent.fh : FH := ⟨fun i => match i with | _ => none, [], false⟩
set_option maxRecDepth 100000 in
theorem impl_IsIdempotent.ef (k : Nat) (a0_0 : Int) (l0_1 : List Int) : R.start Try.prog xhn impl_IsIdempotent.O 0 Try.f78 impl_IsIdempotent.fh k [.agg [.int .i64 a0_0, .imm (.I .i64 l0_1)]] [] = ((impl_MulGrades.f k a0_0 l0_1 a0_0 l0_1).bind fun t1 => (if t1.2.2 = true then ((impl_SameMatrix.f k t1.1 t1.2.1 a0_0 l0_1).bind fun t2 => (some (impl_IsIdempotent.en t2))) else (some (impl_IsIdempotent.en false)))) := by kernel_rfl
theorem impl_IsIdempotent.sf (k : Nat) (a0_0 : Int) (l0_1 : List Int) : R.start Try.prog xhn impl_IsIdempotent.O 0 Try.f78 impl_IsIdempotent.fh k [.agg [.int .i64 a0_0, .imm (.I .i64 l0_1)]] [] = (impl_IsIdempotent.f k a0_0 l0_1).map (impl_IsIdempotent.en) := by
  rw [impl_IsIdempotent.ef]
  simp only [impl_IsIdempotent.f, R.map_ite, R.map_bind, R.map_none, R.map_some, R.wr64_eq]
theorem impl_IsIdempotent.ok (k : Nat) : impl_IsIdempotent.tw.Ok Try.prog k := by
  intro md hmd a r h
  refine fn_ok (H := xhn) (fh := impl_IsIdempotent.fh) (O := impl_IsIdempotent.O) (k := k) Try.func78 (by kernel_rfl) (by kernel_rfl) (fun j _ => (Tw.orc_sound impl_MulGrades.dok (impl_MulGrades.ok j) (fun _ => rfl) (Tw.orc_sound impl_SameMatrix.dok (impl_SameMatrix.ok j) (fun _ => rfl) noO_sound))) (by kernel_rfl) (m := 0) rfl ?_
  refine (impl_IsIdempotent.sf k a.1 a.2).trans ?_
  exact congrArg (Option.map _) h
def impl_Stabilise_1.l0 : Nat → Int → Int → Int → Int → Int → Int → (List Int) → Option (Int)
  | 0, _, _, _, _, _, _, _ => none
  | k + 1, x0, x1, x6, x10, x11, y0_0, y0_1 => (if x11 < x10 then ((impl_Matrix_at.f y0_0 y0_1 x11 x11).bind fun t1 => (if t1 = 1 then ((impl_Matrix_at.f y0_0 y0_1 x0 x11).bind fun t2 => ((impl_Matrix_at.f y0_0 y0_1 x11 x1).bind fun t3 => (impl_Stabilise_1.l0 k x0 x1 (mn x6 (mx (mx t2 2) t3)) x10 (wrap64 (x11 + 1)) y0_0 y0_1))) else ((impl_Matrix_at.f y0_0 y0_1 x0 x11).bind fun t4 => ((impl_Matrix_at.f y0_0 y0_1 x11 x1).bind fun t5 => (impl_Stabilise_1.l0 k x0 x1 (mn x6 (mx (mx t4 t1) t5)) x10 (wrap64 (x11 + 1)) y0_0 y0_1))))) else (some x6))
def impl_Stabilise_1.f (k : Nat) (a0 : Int) (a1 : Int) (a3_0 : Int) (l3_1 : List Int) : Option (Int) := (impl_Stabilise_1.l0 k a0 a1 3 a3_0 0 a3_0 l3_1)
def impl_Stabilise_1.en (a3_0 : Int) (l3_1 : List Int) (r : Int) : Res := (.int .i64 r, [.box true [.int .i64 a3_0, .imm (.I .i64 l3_1)]])
def impl_Stabilise_1.dec : List AV → List R.Obj → Option (Int × Int × Int × (List Int))
  | [.int .i64 a0, .int .i64 a1, .ptr 0 0], [.box true [.int .i64 a3_0, .imm (.I .i64 l3_1)]] => some (a0, a1, a3_0, l3_1)
  | _, _ => none
def impl_Stabilise_1.tw : Tw := ⟨79, Int × Int × Int × (List Int), Int, impl_Stabilise_1.dec, fun a => [.int .i64 a.1, .int .i64 a.2.1, .ptr 0 0], fun a => [.box true [.int .i64 a.2.2.1, .imm (.I .i64 a.2.2.2)]], fun k a => impl_Stabilise_1.f k a.1 a.2.1 a.2.2.1 a.2.2.2, fun a r => impl_Stabilise_1.en a.2.2.1 a.2.2.2 r, true⟩
theorem impl_Stabilise_1.dok : impl_Stabilise_1.tw.DecOk := by
  intro args hc a h
  have h : impl_Stabilise_1.dec args hc = some a := h
  unfold impl_Stabilise_1.dec at h
  split at h
  · cases h; exact ⟨rfl, rfl⟩
  · cases h
noncomputable def impl_Stabilise_1.O (k : Nat) : Oracle := (impl_Matrix_at.tw.orc k noO)
def impl_Stabilise_1.fh : FH := ⟨fun i => match i with | 3 => some [(0, 0), (1, 0), (2, 0), (6, 0), (10, 0), (11, 0)] | _ => none, [], false⟩
noncomputable def impl_Stabilise_1.x0 (k : Nat) (x0 : Int) (x1 : Int) (x6 : Int) (x10 : Int) (x11 : Int) (y0_0 : Int) (y0_1 : List Int) : Option Res := R.exec Try.prog xhn impl_Stabilise_1.O 1 Try.f79 impl_Stabilise_1.fh k (R.point Try.f79 3) ⟨[(0, .int .i64 x0), (1, .int .i64 x1), (2, .ptr 0 0), (6, .int .i64 x6), (10, .int .i64 x10), (11, .int .i64 x11)], [(0, .box true [.int .i64 y0_0, .imm (.I .i64 y0_1)])], 3⟩
set_option maxRecDepth 100000 in
theorem impl_Stabilise_1.e0 (k : Nat) (x0 : Int) (x1 : Int) (x6 : Int) (x10 : Int) (x11 : Int) (y0_0 : Int) (y0_1 : List Int) : impl_Stabilise_1.x0 (k + 1) x0 x1 x6 x10 x11 y0_0 y0_1 = (if x11 < x10 then ((impl_Matrix_at.f y0_0 y0_1 x11 x11).bind fun t1 => (if t1 = 1 then ((impl_Matrix_at.f y0_0 y0_1 x0 x11).bind fun t2 => ((impl_Matrix_at.f y0_0 y0_1 x11 x1).bind fun t3 => (impl_Stabilise_1.x0 k x0 x1 (mn x6 (mx (mx t2 2) t3)) x10 (wr64 (x11 + 1)) y0_0 y0_1))) else ((impl_Matrix_at.f y0_0 y0_1 x0 x11).bind fun t4 => ((impl_Matrix_at.f y0_0 y0_1 x11 x1).bind fun t5 => (impl_Stabilise_1.x0 k x0 x1 (mn x6 (mx (mx t4 t1) t5)) x10 (wr64 (x11 + 1)) y0_0 y0_1))))) else (some (impl_Stabilise_1.en y0_0 y0_1 x6))) := by kernel_rfl
set_option maxRecDepth 100000 in
theorem impl_Stabilise_1.ef (k : Nat) (a0 : Int) (a1 : Int) (a3_0 : Int) (l3_1 : List Int) : R.start Try.prog xhn impl_Stabilise_1.O 1 Try.f79 impl_Stabilise_1.fh k [.int .i64 a0, .int .i64 a1, .ptr 0 0] [.box true [.int .i64 a3_0, .imm (.I .i64 l3_1)]] = (impl_Stabilise_1.x0 k a0 a1 3 a3_0 0 a3_0 l3_1) := by kernel_rfl
theorem impl_Stabilise_1.link : ∀ k, (∀ (x0 : Int) (x1 : Int) (x6 : Int) (x10 : Int) (x11 : Int) (y0_0 : Int) (y0_1 : List Int), impl_Stabilise_1.x0 k x0 x1 x6 x10 x11 y0_0 y0_1 = (impl_Stabilise_1.l0 k x0 x1 x6 x10 x11 y0_0 y0_1).map (impl_Stabilise_1.en y0_0 y0_1))
  | 0 => fun _ _ _ _ _ _ _ => by simp only [impl_Stabilise_1.l0, R.map_none]; rfl
  | k + 1 => by
    have ih0 := impl_Stabilise_1.link k
    · intro x0 x1 x6 x10 x11 y0_0 y0_1
      rw [impl_Stabilise_1.e0]
      simp only [impl_Stabilise_1.l0, R.map_ite, R.map_bind, R.map_none, R.map_some, R.wr64_eq, ← ih0]
theorem impl_Stabilise_1.sf (k : Nat) (a0 : Int) (a1 : Int) (a3_0 : Int) (l3_1 : List Int) : R.start Try.prog xhn impl_Stabilise_1.O 1 Try.f79 impl_Stabilise_1.fh k [.int .i64 a0, .int .i64 a1, .ptr 0 0] [.box true [.int .i64 a3_0, .imm (.I .i64 l3_1)]] = (impl_Stabilise_1.f k a0 a1 a3_0 l3_1).map (impl_Stabilise_1.en a3_0 l3_1) := by
  have ih0 := impl_Stabilise_1.link k
  rw [impl_Stabilise_1.ef]
  simp only [impl_Stabilise_1.f, R.map_ite, R.map_bind, R.map_none, R.map_some, R.wr64_eq, ← ih0]
theorem impl_Stabilise_1.ok (k : Nat) : impl_Stabilise_1.tw.Ok Try.prog k := by
  intro md hmd a r h
  refine fn_ok (H := xhn) (fh := impl_Stabilise_1.fh) (O := impl_Stabilise_1.O) (k := k) Try.func79 (by kernel_rfl) (by kernel_rfl) (fun j _ => (Tw.orc_sound impl_Matrix_at.dok (impl_Matrix_at.ok j) (fun _ => rfl) noO_sound)) (by kernel_rfl) (m := 1) rfl ?_
  refine (impl_Stabilise_1.sf k a.1 a.2.1 a.2.2.1 a.2.2.2).trans ?_
  exact congrArg (Option.map _) h
mutual
def impl_filled_d.l0 : Nat → Int → Int → Int → Int → (List Int) → Int → (List Int) → Option (Int × (List Int))
  | 0, _, _, _, _, _, _, _ => none
  | k + 1, x0, x10, x11, y0_0, y0_1, y2_0, y4 => (if x11 < x10 then (impl_filled_d.l1 k x0 x11 x10 x11 x0 0 y0_0 y0_1 y2_0 y4) else (some (y2_0, y4)))
def impl_filled_d.l1 : Nat → Int → Int → Int → Int → Int → Int → Int → (List Int) → Int → (List Int) → Option (Int × (List Int))
  | 0, _, _, _, _, _, _, _, _, _, _ => none
  | k + 1, x0, x6, x10, x11, x14, x15, y0_0, y0_1, y2_0, y4 => (if x15 < x14 then ((impl_Stabilise_1.f k x6 x15 y0_0 y0_1).bind fun t1 => (if y4.length < 17592186044416 then (impl_filled_d.l1 k x0 x6 x10 x11 x14 (wrap64 (x15 + 1)) y0_0 y0_1 y2_0 (y4 ++ [t1])) else none)) else (impl_filled_d.l0 k x0 x10 (wrap64 (x11 + 1)) y0_0 y0_1 y2_0 y4))
end
def impl_filled_d.f (k : Nat) (a0 : Int) (a2_0 : Int) (l2_1 : List Int) : Option (Int × (List Int)) := (impl_filled_d.l0 k a0 a0 0 a2_0 l2_1 a0 ([] : List Int))
def impl_filled_d.en (a2_0 : Int) (l2_1 : List Int) (r : Int × (List Int)) : Res := (.agg [.int .i64 r.1, .sl 1 0], [.box true [.int .i64 a2_0, .imm (.I .i64 l2_1)], .arr 3 0 (.I .i64 r.2) false])
def impl_filled_d.dec : List AV → List R.Obj → Option (Int × Int × (List Int))
  | [.int .i64 a0, .clo 79 [.ptr 0 0]], [.box true [.int .i64 a2_0, .imm (.I .i64 l2_1)]] => some (a0, a2_0, l2_1)
  | _, _ => none
def impl_filled_d.tw : Tw := ⟨40, Int × Int × (List Int), Int × (List Int), impl_filled_d.dec, fun a => [.int .i64 a.1, .clo 79 [.ptr 0 0]], fun a => [.box true [.int .i64 a.2.1, .imm (.I .i64 a.2.2)]], fun k a => impl_filled_d.f k a.1 a.2.1 a.2.2, fun a r => impl_filled_d.en a.2.1 a.2.2 r, true⟩
theorem impl_filled_d.dok : impl_filled_d.tw.DecOk := by
  intro args hc a h
  have h : impl_filled_d.dec args hc = some a := h
  unfold impl_filled_d.dec at h
  split at h
  · cases h; exact ⟨rfl, rfl⟩
  · cases h
noncomputable def impl_filled_d.O (k : Nat) : Oracle := (impl_Stabilise_1.tw.orc k noO)
def impl_filled_d.fh : FH := ⟨fun i => match i with | 3 => some [(0, 0), (1, 0), (4, 0), (5, 0), (10, 0), (11, 0)] | 6 => some [(0, 0), (1, 0), (4, 0), (5, 0), (6, 0), (10, 0), (11, 0), (14, 0), (15, 0)] | _ => none, [(true, 3)], false⟩
noncomputable def impl_filled_d.x0 (k : Nat) (x0 : Int) (x10 : Int) (x11 : Int) (y0_0 : Int) (y0_1 : List Int) (y2_0 : Int) (y4 : List Int) : Option Res := R.exec Try.prog xhn impl_filled_d.O 1 Try.f40 impl_filled_d.fh k (R.point Try.f40 3) ⟨[(0, .int .i64 x0), (1, .clo 79 [.ptr 0 0]), (4, .ptr 1 0), (5, .ptr 2 0), (10, .int .i64 x10), (11, .int .i64 x11)], [(0, .box true [.int .i64 y0_0, .imm (.I .i64 y0_1)]), (1, .box false [.int .i64 0, .sl 3 0]), (2, .box false [.int .i64 y2_0, .sl 4 0]), (3, .arr 3 0 (.I .i64 ([] : List Int)) false), (4, .arr 3 0 (.I .i64 y4) false)], 7⟩
noncomputable def impl_filled_d.x1 (k : Nat) (x0 : Int) (x6 : Int) (x10 : Int) (x11 : Int) (x14 : Int) (x15 : Int) (y0_0 : Int) (y0_1 : List Int) (y2_0 : Int) (y4 : List Int) : Option Res := R.exec Try.prog xhn impl_filled_d.O 1 Try.f40 impl_filled_d.fh k (R.point Try.f40 6) ⟨[(0, .int .i64 x0), (1, .clo 79 [.ptr 0 0]), (4, .ptr 1 0), (5, .ptr 2 0), (6, .int .i64 x6), (10, .int .i64 x10), (11, .int .i64 x11), (14, .int .i64 x14), (15, .int .i64 x15)], [(0, .box true [.int .i64 y0_0, .imm (.I .i64 y0_1)]), (1, .box false [.int .i64 0, .sl 3 0]), (2, .box false [.int .i64 y2_0, .sl 4 0]), (3, .arr 3 0 (.I .i64 ([] : List Int)) false), (4, .arr 3 0 (.I .i64 y4) false)], 7⟩
set_option maxRecDepth 100000 in
theorem impl_filled_d.e0 (k : Nat) (x0 : Int) (x10 : Int) (x11 : Int) (y0_0 : Int) (y0_1 : List Int) (y2_0 : Int) (y4 : List Int) : impl_filled_d.x0 (k + 1) x0 x10 x11 y0_0 y0_1 y2_0 y4 = (if x11 < x10 then (impl_filled_d.x1 k x0 x11 x10 x11 x0 0 y0_0 y0_1 y2_0 y4) else (some (impl_filled_d.en y0_0 y0_1 (y2_0, y4)))) := by kernel_rfl
set_option maxRecDepth 100000 in
theorem impl_filled_d.e1 (k : Nat) (x0 : Int) (x6 : Int) (x10 : Int) (x11 : Int) (x14 : Int) (x15 : Int) (y0_0 : Int) (y0_1 : List Int) (y2_0 : Int) (y4 : List Int) : impl_filled_d.x1 (k + 1) x0 x6 x10 x11 x14 x15 y0_0 y0_1 y2_0 y4 = (if x15 < x14 then ((impl_Stabilise_1.f k x6 x15 y0_0 y0_1).bind fun t1 => (if y4.length < 17592186044416 then (impl_filled_d.x1 k x0 x6 x10 x11 x14 (wr64 (x15 + 1)) y0_0 y0_1 y2_0 (y4 ++ [t1])) else none)) else (impl_filled_d.x0 k x0 x10 (wr64 (x11 + 1)) y0_0 y0_1 y2_0 y4)) := by kernel_rfl
set_option maxRecDepth 100000 in
theorem impl_filled_d.ef (k : Nat) (a0 : Int) (a2_0 : Int) (l2_1 : List Int) : R.start Try.prog xhn impl_filled_d.O 1 Try.f40 impl_filled_d.fh k [.int .i64 a0, .clo 79 [.ptr 0 0]] [.box true [.int .i64 a2_0, .imm (.I .i64 l2_1)]] = (impl_filled_d.x0 k a0 a0 0 a2_0 l2_1 a0 ([] : List Int)) := by kernel_rfl
theorem impl_filled_d.link : ∀ k, (∀ (x0 : Int) (x10 : Int) (x11 : Int) (y0_0 : Int) (y0_1 : List Int) (y2_0 : Int) (y4 : List Int), impl_filled_d.x0 k x0 x10 x11 y0_0 y0_1 y2_0 y4 = (impl_filled_d.l0 k x0 x10 x11 y0_0 y0_1 y2_0 y4).map (impl_filled_d.en y0_0 y0_1)) ∧ (∀ (x0 : Int) (x6 : Int) (x10 : Int) (x11 : Int) (x14 : Int) (x15 : Int) (y0_0 : Int) (y0_1 : List Int) (y2_0 : Int) (y4 : List Int), impl_filled_d.x1 k x0 x6 x10 x11 x14 x15 y0_0 y0_1 y2_0 y4 = (impl_filled_d.l1 k x0 x6 x10 x11 x14 x15 y0_0 y0_1 y2_0 y4).map (impl_filled_d.en y0_0 y0_1))
  | 0 => ⟨fun _ _ _ _ _ _ _ => by simp only [impl_filled_d.l0, R.map_none]; rfl, fun _ _ _ _ _ _ _ _ _ _ => by simp only [impl_filled_d.l1, R.map_none]; rfl⟩
  | k + 1 => by
    obtain ⟨ih0, ih1⟩ := impl_filled_d.link k
    refine ⟨?_, ?_⟩
    · intro x0 x10 x11 y0_0 y0_1 y2_0 y4
      rw [impl_filled_d.e0]
      simp only [impl_filled_d.l0, R.map_ite, R.map_bind, R.map_none, R.map_some, R.wr64_eq, ← ih0, ← ih1]
    · intro x0 x6 x10 x11 x14 x15 y0_0 y0_1 y2_0 y4
      rw [impl_filled_d.e1]
      simp only [impl_filled_d.l1, R.map_ite, R.map_bind, R.map_none, R.map_some, R.wr64_eq, ← ih0, ← ih1]
theorem impl_filled_d.sf (k : Nat) (a0 : Int) (a2_0 : Int) (l2_1 : List Int) : R.start Try.prog xhn impl_filled_d.O 1 Try.f40 impl_filled_d.fh k [.int .i64 a0, .clo 79 [.ptr 0 0]] [.box true [.int .i64 a2_0, .imm (.I .i64 l2_1)]] = (impl_filled_d.f k a0 a2_0 l2_1).map (impl_filled_d.en a2_0 l2_1) := by
  obtain ⟨ih0, ih1⟩ := impl_filled_d.link k
  rw [impl_filled_d.ef]
  simp only [impl_filled_d.f, R.map_ite, R.map_bind, R.map_none, R.map_some, R.wr64_eq, ← ih0, ← ih1]
theorem impl_filled_d.ok (k : Nat) : impl_filled_d.tw.Ok Try.prog k := by
  intro md hmd a r h
  refine fn_ok (H := xhn) (fh := impl_filled_d.fh) (O := impl_filled_d.O) (k := k) Try.func40 (by kernel_rfl) (by kernel_rfl) (fun j _ => (Tw.orc_sound impl_Stabilise_1.dok (impl_Stabilise_1.ok j) (fun _ => rfl) noO_sound)) (by kernel_rfl) (m := 1) rfl ?_
  refine (impl_filled_d.sf k a.1 a.2.1 a.2.2).trans ?_
  exact congrArg (Option.map _) h
def impl_Stabilise.f (k : Nat) (a0_0 : Int) (l0_1 : List Int) : Option (Int × (List Int) × Bool) := ((impl_IsIdempotent.f k a0_0 l0_1).bind fun t1 => (if t1 = true then ((impl_filled_d.f k a0_0 a0_0 l0_1).bind fun t2 => (some (t2.1, t2.2, true))) else (some (0, ([] : List Int), false))))
def impl_Stabilise.en (r : Int × (List Int) × Bool) : Res := (.tup [.agg [.int .i64 r.1, .sl 0 0], .lit r.2.2], [.arr 3 0 (.I .i64 r.2.1) false])
def impl_Stabilise.dec : List AV → List R.Obj → Option (Int × (List Int))
  | [.agg [.int .i64 a0_0, .imm (.I .i64 l0_1)]], [] => some (a0_0, l0_1)
  | _, _ => none
def impl_Stabilise.tw : Tw := ⟨64, Int × (List Int), Int × (List Int) × Bool, impl_Stabilise.dec, fun a => [.agg [.int .i64 a.1, .imm (.I .i64 a.2)]], fun a => [], fun k a => impl_Stabilise.f k a.1 a.2, fun a r => impl_Stabilise.en r, true⟩
theorem impl_Stabilise.dok : impl_Stabilise.tw.DecOk := by
  intro args hc a h
  have h : impl_Stabilise.dec args hc = some a := h
  unfold impl_Stabilise.dec at h
  split at h
  · cases h; exact ⟨rfl, rfl⟩
  · cases h
noncomputable def impl_Stabilise.O (k : Nat) : Oracle := (impl_IsIdempotent.tw.orc k (impl_filled_d.tw.orc k noO))
def impl_Stabilise.fh : FH := ⟨fun i => match i with | _ => none, [(true, 3)], false⟩
set_option maxRecDepth 100000 in
theorem impl_Stabilise.ef (k : Nat) (a0_0 : Int) (l0_1 : List Int) : R.start Try.prog xhn impl_Stabilise.O 0 Try.f64 impl_Stabilise.fh k [.agg [.int .i64 a0_0, .imm (.I .i64 l0_1)]] [] = ((impl_IsIdempotent.f k a0_0 l0_1).bind fun t1 => (if t1 = true then ((impl_filled_d.f k a0_0 a0_0 l0_1).bind fun t2 => (some (impl_Stabilise.en (t2.1, t2.2, true)))) else (some (impl_Stabilise.en (0, ([] : List Int), false))))) := by kernel_rfl
theorem impl_Stabilise.sf (k : Nat) (a0_0 : Int) (l0_1 : List Int) : R.start Try.prog xhn impl_Stabilise.O 0 Try.f64 impl_Stabilise.fh k [.agg [.int .i64 a0_0, .imm (.I .i64 l0_1)]] [] = (impl_Stabilise.f k a0_0 l0_1).map (impl_Stabilise.en) := by
  rw [impl_Stabilise.ef]
  simp only [impl_Stabilise.f, R.map_ite, R.map_bind, R.map_none, R.map_some, R.wr64_eq]
theorem impl_Stabilise.ok (k : Nat) : impl_Stabilise.tw.Ok Try.prog k := by
  intro md hmd a r h
  refine fn_ok (H := xhn) (fh := impl_Stabilise.fh) (O := impl_Stabilise.O) (k := k) Try.func64 (by kernel_rfl) (by kernel_rfl) (fun j _ => (Tw.orc_sound impl_IsIdempotent.dok (impl_IsIdempotent.ok j) (fun _ => rfl) (Tw.orc_sound impl_filled_d.dok (impl_filled_d.ok j) (fun _ => rfl) noO_sound))) (by kernel_rfl) (m := 0) rfl ?_
  refine (impl_Stabilise.sf k a.1 a.2).trans ?_
  exact congrArg (Option.map _) h
mutual
def impl_value.l0 : Nat → (List Part) → Int → Int → Int → (List Int) → (List Int) → (List Stp) → Int → (List Int) → Option (Int × (List Int) × Bool)
  | 0, _, _, _, _, _, _, _, _, _ => none
  | k + 1, x13, x14, x15, y0_0, y0_1, y0_2, y0_3, y2_0, y4 => (if x15 < x14 then (if 0 ≤ x15 then (if x15 < (x13.length : Int) then (if (rdP x13 x15).f0.toList = ([] : List UInt8) then ((impl_value.f k y0_0 y0_1 y0_2 y0_3 ((rdP x13 x15).f1)).bind fun t1 => (if t1.2.2 = true then ((impl_Stabilise.f k t1.1 t1.2.1).bind fun t2 => (if t2.2.2 = true then (if x15 > 0 then ((impl_MulGrades.f k y2_0 y4 t2.1 t2.2.1).bind fun t3 => (impl_value.l0 k x13 x14 (wrap64 (x15 + 1)) y0_0 y0_1 y0_2 y0_3 t3.1 t3.2.1)) else (impl_value.l0 k x13 x14 (wrap64 (x15 + 1)) y0_0 y0_1 y0_2 y0_3 t2.1 t2.2.1)) else (some (0, ([] : List Int), false)))) else (some (0, ([] : List Int), false)))) else ((impl_StepMatrix.f k y0_0 y0_1 y0_2 y0_3 ((rdP x13 x15).f0)).bind fun t5 => ((impl_GradesOf.f k t5.1 t5.2.1).bind fun t6 => (if x15 > 0 then ((impl_MulGrades.f k y2_0 y4 t6.1 t6.2.1).bind fun t7 => (impl_value.l0 k x13 x14 (wrap64 (x15 + 1)) y0_0 y0_1 y0_2 y0_3 t7.1 t7.2.1)) else (impl_value.l0 k x13 x14 (wrap64 (x15 + 1)) y0_0 y0_1 y0_2 y0_3 t6.1 t6.2.1))))) else none) else none) else (some (y2_0, y4, true)))
def impl_value.f : Nat → Int → (List Int) → (List Int) → (List Stp) → (List Part) → Option (Int × (List Int) × Bool)
  | 0, _, _, _, _, _ => none
  | k + 1, a0_0, l0_1, l0_2, l0_3, l1 => (impl_value.l0 k l1 (l1.length : Int) 0 a0_0 l0_1 l0_2 l0_3 0 ([] : List Int))
end
def impl_value.en (r : Int × (List Int) × Bool) : Res := (.tup [.agg [.int .i64 r.1, .sl 0 0], .lit r.2.2], [.arr 3 0 (.I .i64 r.2.1) false])
def impl_value.dec : List AV → List R.Obj → Option (Int × (List Int) × (List Int) × (List Stp) × (List Part))
  | [.agg [.int .i64 a0_0, .imm (.I .i64 l0_1), .imm (.I .i64 l0_2), .imm (.T l0_3)], .imm (.P l1)], [] => some (a0_0, l0_1, l0_2, l0_3, l1)
  | _, _ => none
def impl_value.tw : Tw := ⟨38, Int × (List Int) × (List Int) × (List Stp) × (List Part), Int × (List Int) × Bool, impl_value.dec, fun a => [.agg [.int .i64 a.1, .imm (.I .i64 a.2.1), .imm (.I .i64 a.2.2.1), .imm (.T a.2.2.2.1)], .imm (.P a.2.2.2.2)], fun a => [], fun k a => impl_value.f k a.1 a.2.1 a.2.2.1 a.2.2.2.1 a.2.2.2.2, fun a r => impl_value.en r, true⟩
theorem impl_value.dok : impl_value.tw.DecOk := by
  intro args hc a h
  have h : impl_value.dec args hc = some a := h
  unfold impl_value.dec at h
  split at h
  · cases h; exact ⟨rfl, rfl⟩
  · cases h
noncomputable def impl_value.O (k : Nat) : Oracle := (impl_Stabilise.tw.orc k (impl_MulGrades.tw.orc k (impl_StepMatrix.tw.orc k (impl_GradesOf.tw.orc k (impl_value.tw.orc k noO)))))
def impl_value.fh : FH := ⟨fun i => match i with | 3 => some [(2, 0), (4, 0), (6, 0), (13, 0), (14, 0), (15, 0)] | _ => none, [(true, 3)], false⟩
noncomputable def impl_value.x0 (k : Nat) (x13 : List Part) (x14 : Int) (x15 : Int) (y0_0 : Int) (y0_1 : List Int) (y0_2 : List Int) (y0_3 : List Stp) (y2_0 : Int) (y4 : List Int) : Option Res := R.exec Try.prog xhn impl_value.O 0 Try.f38 impl_value.fh k (R.point Try.f38 3) ⟨[(2, .ptr 0 0), (4, .ptr 1 0), (6, .ptr 2 0), (13, .imm (.P x13)), (14, .int .i64 x14), (15, .int .i64 x15)], [(0, .box false [.int .i64 y0_0, .imm (.I .i64 y0_1), .imm (.I .i64 y0_2), .imm (.T y0_3)]), (1, .box false [.int .i64 0, .sl 3 0]), (2, .box false [.int .i64 y2_0, .sl 4 0]), (3, .arr 3 0 (.I .i64 ([] : List Int)) false), (4, .arr 3 0 (.I .i64 y4) false)], 7⟩
set_option maxRecDepth 100000 in
theorem impl_value.e0 (k : Nat) (x13 : List Part) (x14 : Int) (x15 : Int) (y0_0 : Int) (y0_1 : List Int) (y0_2 : List Int) (y0_3 : List Stp) (y2_0 : Int) (y4 : List Int) : impl_value.x0 (k + 1) x13 x14 x15 y0_0 y0_1 y0_2 y0_3 y2_0 y4 = (if x15 < x14 then (if 0 ≤ x15 then (if x15 < (x13.length : Int) then (if (rdP x13 x15).f0.toList = ([] : List UInt8) then ((impl_value.f k y0_0 y0_1 y0_2 y0_3 ((rdP x13 x15).f1)).bind fun t1 => (if t1.2.2 = true then ((impl_Stabilise.f k t1.1 t1.2.1).bind fun t2 => (if t2.2.2 = true then (if x15 > 0 then ((impl_MulGrades.f k y2_0 y4 t2.1 t2.2.1).bind fun t3 => (impl_value.x0 k x13 x14 (wr64 (x15 + 1)) y0_0 y0_1 y0_2 y0_3 t3.1 t3.2.1)) else (impl_value.x0 k x13 x14 (wr64 (x15 + 1)) y0_0 y0_1 y0_2 y0_3 t2.1 t2.2.1)) else (some (impl_value.en (0, ([] : List Int), false))))) else (some (impl_value.en (0, ([] : List Int), false))))) else ((impl_StepMatrix.f k y0_0 y0_1 y0_2 y0_3 ((rdP x13 x15).f0)).bind fun t5 => ((impl_GradesOf.f k t5.1 t5.2.1).bind fun t6 => (if x15 > 0 then ((impl_MulGrades.f k y2_0 y4 t6.1 t6.2.1).bind fun t7 => (impl_value.x0 k x13 x14 (wr64 (x15 + 1)) y0_0 y0_1 y0_2 y0_3 t7.1 t7.2.1)) else (impl_value.x0 k x13 x14 (wr64 (x15 + 1)) y0_0 y0_1 y0_2 y0_3 t6.1 t6.2.1))))) else none) else none) else (some (impl_value.en (y2_0, y4, true)))) := by
  refine Eq.trans ?_ (R.icong (fun h0 => (R.icong (fun h1 => (R.icong (fun h2 => (R.icong (fun h3 => (R.bcong fun t1 => (R.icong (fun h4 => rfl) (fun h4 => (R.idropF (p := t1.2.2 = true) (z := (if x15 > 0 then ((impl_MulGrades.f k y2_0 y4 t1.1 t1.2.1).bind fun t4 => (impl_value.x0 k x13 x14 (wr64 (x15 + 1)) y0_0 y0_1 y0_2 y0_3 t4.1 t4.2.1)) else (impl_value.x0 k x13 x14 (wr64 (x15 + 1)) y0_0 y0_1 y0_2 y0_3 t1.1 t1.2.1))) h4 rfl))))) (fun h3 => rfl))) (fun h2 => rfl))) (fun h1 => rfl))) (fun h0 => rfl))
  kernel_rfl
set_option maxRecDepth 100000 in
theorem impl_value.ef (k : Nat) (a0_0 : Int) (l0_1 : List Int) (l0_2 : List Int) (l0_3 : List Stp) (l1 : List Part) : R.start Try.prog xhn impl_value.O 0 Try.f38 impl_value.fh k [.agg [.int .i64 a0_0, .imm (.I .i64 l0_1), .imm (.I .i64 l0_2), .imm (.T l0_3)], .imm (.P l1)] [] = (impl_value.x0 k l1 (l1.length : Int) 0 a0_0 l0_1 l0_2 l0_3 0 ([] : List Int)) := by kernel_rfl
theorem impl_value.link : ∀ k, (∀ (x13 : List Part) (x14 : Int) (x15 : Int) (y0_0 : Int) (y0_1 : List Int) (y0_2 : List Int) (y0_3 : List Stp) (y2_0 : Int) (y4 : List Int), impl_value.x0 k x13 x14 x15 y0_0 y0_1 y0_2 y0_3 y2_0 y4 = (impl_value.l0 k x13 x14 x15 y0_0 y0_1 y0_2 y0_3 y2_0 y4).map (impl_value.en))
  | 0 => fun _ _ _ _ _ _ _ _ _ => by simp only [impl_value.l0, R.map_none]; rfl
  | k + 1 => by
    have ih0 := impl_value.link k
    · intro x13 x14 x15 y0_0 y0_1 y0_2 y0_3 y2_0 y4
      rw [impl_value.e0]
      simp only [impl_value.l0, R.map_ite, R.map_bind, R.map_none, R.map_some, R.wr64_eq, ← ih0]
theorem impl_value.sf (k : Nat) (a0_0 : Int) (l0_1 : List Int) (l0_2 : List Int) (l0_3 : List Stp) (l1 : List Part) : R.start Try.prog xhn impl_value.O 0 Try.f38 impl_value.fh k [.agg [.int .i64 a0_0, .imm (.I .i64 l0_1), .imm (.I .i64 l0_2), .imm (.T l0_3)], .imm (.P l1)] [] = (impl_value.f (k + 1) a0_0 l0_1 l0_2 l0_3 l1).map (impl_value.en) := by
  have ih0 := impl_value.link k
  rw [impl_value.ef]
  simp only [impl_value.f, R.map_ite, R.map_bind, R.map_none, R.map_some, R.wr64_eq, ← ih0]
theorem impl_value.ok : ∀ k, impl_value.tw.Ok Try.prog k := by
  intro k
  induction k using Nat.strongRecOn with
  | ind k ih =>
    cases k with
    | zero =>
      intro md hmd a r h
      have h : impl_value.f 0 a.1 a.2.1 a.2.2.1 a.2.2.2.1 a.2.2.2.2 = some r := h
      simp only [impl_value.f] at h
      cases h
    | succ k =>
      intro md hmd a r h
      refine fn_ok (H := xhn) (fh := impl_value.fh) (O := impl_value.O) (k := k) Try.func38 (by kernel_rfl) (by kernel_rfl) (fun j hj => (Tw.orc_sound impl_Stabilise.dok (impl_Stabilise.ok j) (fun _ => rfl) (Tw.orc_sound impl_MulGrades.dok (impl_MulGrades.ok j) (fun _ => rfl) (Tw.orc_sound impl_StepMatrix.dok (impl_StepMatrix.ok j) (fun _ => rfl) (Tw.orc_sound impl_GradesOf.dok (impl_GradesOf.ok j) (fun _ => rfl) (Tw.orc_sound impl_value.dok (ih j (by omega)) (fun _ => rfl) noO_sound)))))) (by kernel_rfl) (m := 0) rfl ?_
      refine (impl_value.sf k a.1 a.2.1 a.2.2.1 a.2.2.2.1 a.2.2.2.2).trans ?_
      exact congrArg (Option.map _) h
def impl_ValueOf.f (k : Nat) (a0_0 : Int) (l0_1 : List Int) (l0_2 : List Int) (l0_3 : List Stp) (a1 : ByteArray) : Option (Int × (List Int) × Bool) := ((impl_parts.f k a1).bind fun t1 => (if t1.2 = true then ((impl_AutomatonValid.f k a0_0 l0_1 l0_2 l0_3).bind fun t2 => (if t2 = true then ((impl_value.f k a0_0 l0_1 l0_2 l0_3 t1.1).bind fun t3 => (some (t3.1, t3.2.1, t3.2.2))) else (some (0, ([] : List Int), false)))) else (some (0, ([] : List Int), false))))
def impl_ValueOf.en (r : Int × (List Int) × Bool) : Res := (.tup [.agg [.int .i64 r.1, .sl 0 0], .lit r.2.2], [.arr 3 0 (.I .i64 r.2.1) false])
def impl_ValueOf.dec : List AV → List R.Obj → Option (Int × (List Int) × (List Int) × (List Stp) × ByteArray)
  | [.agg [.int .i64 a0_0, .imm (.I .i64 l0_1), .imm (.I .i64 l0_2), .imm (.T l0_3)], .str a1], [] => some (a0_0, l0_1, l0_2, l0_3, a1)
  | _, _ => none
def impl_ValueOf.tw : Tw := ⟨21, Int × (List Int) × (List Int) × (List Stp) × ByteArray, Int × (List Int) × Bool, impl_ValueOf.dec, fun a => [.agg [.int .i64 a.1, .imm (.I .i64 a.2.1), .imm (.I .i64 a.2.2.1), .imm (.T a.2.2.2.1)], .str a.2.2.2.2], fun a => [], fun k a => impl_ValueOf.f k a.1 a.2.1 a.2.2.1 a.2.2.2.1 a.2.2.2.2, fun a r => impl_ValueOf.en r, true⟩
theorem impl_ValueOf.dok : impl_ValueOf.tw.DecOk := by
  intro args hc a h
  have h : impl_ValueOf.dec args hc = some a := h
  unfold impl_ValueOf.dec at h
  split at h
  · cases h; exact ⟨rfl, rfl⟩
  · cases h
noncomputable def impl_ValueOf.O (k : Nat) : Oracle := (impl_parts.tw.orc k (impl_AutomatonValid.tw.orc k (impl_value.tw.orc k noO)))
def impl_ValueOf.fh : FH := ⟨fun i => match i with | _ => none, [(true, 3)], false⟩
set_option maxRecDepth 100000 in
theorem impl_ValueOf.ef (k : Nat) (a0_0 : Int) (l0_1 : List Int) (l0_2 : List Int) (l0_3 : List Stp) (a1 : ByteArray) : R.start Try.prog xhn impl_ValueOf.O 0 Try.f21 impl_ValueOf.fh k [.agg [.int .i64 a0_0, .imm (.I .i64 l0_1), .imm (.I .i64 l0_2), .imm (.T l0_3)], .str a1] [] = ((impl_parts.f k a1).bind fun t1 => (if t1.2 = true then ((impl_AutomatonValid.f k a0_0 l0_1 l0_2 l0_3).bind fun t2 => (if t2 = true then ((impl_value.f k a0_0 l0_1 l0_2 l0_3 t1.1).bind fun t3 => (some (impl_ValueOf.en (t3.1, t3.2.1, t3.2.2)))) else (some (impl_ValueOf.en (0, ([] : List Int), false))))) else (some (impl_ValueOf.en (0, ([] : List Int), false))))) := by kernel_rfl
theorem impl_ValueOf.sf (k : Nat) (a0_0 : Int) (l0_1 : List Int) (l0_2 : List Int) (l0_3 : List Stp) (a1 : ByteArray) : R.start Try.prog xhn impl_ValueOf.O 0 Try.f21 impl_ValueOf.fh k [.agg [.int .i64 a0_0, .imm (.I .i64 l0_1), .imm (.I .i64 l0_2), .imm (.T l0_3)], .str a1] [] = (impl_ValueOf.f k a0_0 l0_1 l0_2 l0_3 a1).map (impl_ValueOf.en) := by
  rw [impl_ValueOf.ef]
  simp only [impl_ValueOf.f, R.map_ite, R.map_bind, R.map_none, R.map_some, R.wr64_eq]
theorem impl_ValueOf.ok (k : Nat) : impl_ValueOf.tw.Ok Try.prog k := by
  intro md hmd a r h
  refine fn_ok (H := xhn) (fh := impl_ValueOf.fh) (O := impl_ValueOf.O) (k := k) Try.func21 (by kernel_rfl) (by kernel_rfl) (fun j _ => (Tw.orc_sound impl_parts.dok (impl_parts.ok j) (fun _ => rfl) (Tw.orc_sound impl_AutomatonValid.dok (impl_AutomatonValid.ok j) (fun _ => rfl) (Tw.orc_sound impl_value.dok (impl_value.ok j) (fun _ => rfl) noO_sound)))) (by kernel_rfl) (m := 0) rfl ?_
  refine (impl_ValueOf.sf k a.1 a.2.1 a.2.2.1 a.2.2.2.1 a.2.2.2.2).trans ?_
  exact congrArg (Option.map _) h
def impl_found_put_1.f (k : Nat) (a0_0 : Int) (l0_1 : List Int) (a0_2 : ByteArray) (a2_0 : Int) (l2_1 : List Int) : Option (Bool) := ((impl_SameMatrix.f k a0_0 l0_1 a2_0 l2_1).bind fun t1 => (some t1))
def impl_found_put_1.en (a2_0 : Int) (l2_1 : List Int) (r : Bool) : Res := (.lit r, [.box true [.int .i64 a2_0, .imm (.I .i64 l2_1)]])
def impl_found_put_1.dec : List AV → List R.Obj → Option (Int × (List Int) × ByteArray × Int × (List Int))
  | [.agg [.int .i64 a0_0, .imm (.I .i64 l0_1), .str a0_2], .ptr 0 0], [.box true [.int .i64 a2_0, .imm (.I .i64 l2_1)]] => some (a0_0, l0_1, a0_2, a2_0, l2_1)
  | _, _ => none
def impl_found_put_1.tw : Tw := ⟨44, Int × (List Int) × ByteArray × Int × (List Int), Bool, impl_found_put_1.dec, fun a => [.agg [.int .i64 a.1, .imm (.I .i64 a.2.1), .str a.2.2.1], .ptr 0 0], fun a => [.box true [.int .i64 a.2.2.2.1, .imm (.I .i64 a.2.2.2.2)]], fun k a => impl_found_put_1.f k a.1 a.2.1 a.2.2.1 a.2.2.2.1 a.2.2.2.2, fun a r => impl_found_put_1.en a.2.2.2.1 a.2.2.2.2 r, true⟩
theorem impl_found_put_1.dok : impl_found_put_1.tw.DecOk := by
  intro args hc a h
  have h : impl_found_put_1.dec args hc = some a := h
  unfold impl_found_put_1.dec at h
  split at h
  · cases h; exact ⟨rfl, rfl⟩
  · cases h
noncomputable def impl_found_put_1.O (k : Nat) : Oracle := (impl_SameMatrix.tw.orc k noO)
def impl_found_put_1.fh : FH := ⟨fun i => match i with | _ => none, [], false⟩
set_option maxRecDepth 100000 in
theorem impl_found_put_1.ef (k : Nat) (a0_0 : Int) (l0_1 : List Int) (a0_2 : ByteArray) (a2_0 : Int) (l2_1 : List Int) : R.start Try.prog xhn impl_found_put_1.O 1 Try.f44 impl_found_put_1.fh k [.agg [.int .i64 a0_0, .imm (.I .i64 l0_1), .str a0_2], .ptr 0 0] [.box true [.int .i64 a2_0, .imm (.I .i64 l2_1)]] = ((impl_SameMatrix.f k a0_0 l0_1 a2_0 l2_1).bind fun t1 => (some (impl_found_put_1.en a2_0 l2_1 t1))) := by kernel_rfl
theorem impl_found_put_1.sf (k : Nat) (a0_0 : Int) (l0_1 : List Int) (a0_2 : ByteArray) (a2_0 : Int) (l2_1 : List Int) : R.start Try.prog xhn impl_found_put_1.O 1 Try.f44 impl_found_put_1.fh k [.agg [.int .i64 a0_0, .imm (.I .i64 l0_1), .str a0_2], .ptr 0 0] [.box true [.int .i64 a2_0, .imm (.I .i64 l2_1)]] = (impl_found_put_1.f k a0_0 l0_1 a0_2 a2_0 l2_1).map (impl_found_put_1.en a2_0 l2_1) := by
  rw [impl_found_put_1.ef]
  simp only [impl_found_put_1.f, R.map_ite, R.map_bind, R.map_none, R.map_some, R.wr64_eq]
theorem impl_found_put_1.ok (k : Nat) : impl_found_put_1.tw.Ok Try.prog k := by
  intro md hmd a r h
  refine fn_ok (H := xhn) (fh := impl_found_put_1.fh) (O := impl_found_put_1.O) (k := k) Try.func44 (by kernel_rfl) (by kernel_rfl) (fun j _ => (Tw.orc_sound impl_SameMatrix.dok (impl_SameMatrix.ok j) (fun _ => rfl) noO_sound)) (by kernel_rfl) (m := 1) rfl ?_
  refine (impl_found_put_1.sf k a.1 a.2.1 a.2.2.1 a.2.2.2.1 a.2.2.2.2).trans ?_
  exact congrArg (Option.map _) h
def slices_IndexFunc_impl_Element_impl_Element.l0 : Nat → (List Elm) → Int → Int → Int → (List Int) → Option (Int)
  | 0, _, _, _, _, _ => none
  | k + 1, x0, x7, x8, y0_0, y0_1 => (if x8 < x7 then (if 0 ≤ x8 then (if x8 < (x0.length : Int) then ((impl_found_put_1.f k ((rdE x0 x8).f0) ((rdE x0 x8).f1) ((rdE x0 x8).f2) y0_0 y0_1).bind fun t1 => (if t1 = true then (some x8) else (slices_IndexFunc_impl_Element_impl_Element.l0 k x0 x7 (wrap64 (x8 + 1)) y0_0 y0_1))) else none) else none) else (some (-1)))
def slices_IndexFunc_impl_Element_impl_Element.f (k : Nat) (l0 : List Elm) (a2_0 : Int) (l2_1 : List Int) : Option (Int) := (slices_IndexFunc_impl_Element_impl_Element.l0 k l0 (l0.length : Int) 0 a2_0 l2_1)
def slices_IndexFunc_impl_Element_impl_Element.en (a2_0 : Int) (l2_1 : List Int) (r : Int) : Res := (.int .i64 r, [.box true [.int .i64 a2_0, .imm (.I .i64 l2_1)]])
def slices_IndexFunc_impl_Element_impl_Element.dec : List AV → List R.Obj → Option ((List Elm) × Int × (List Int))
  | [.imm (.E l0), .clo 44 [.ptr 0 0]], [.box true [.int .i64 a2_0, .imm (.I .i64 l2_1)]] => some (l0, a2_0, l2_1)
  | _, _ => none
def slices_IndexFunc_impl_Element_impl_Element.tw : Tw := ⟨68, (List Elm) × Int × (List Int), Int, slices_IndexFunc_impl_Element_impl_Element.dec, fun a => [.imm (.E a.1), .clo 44 [.ptr 0 0]], fun a => [.box true [.int .i64 a.2.1, .imm (.I .i64 a.2.2)]], fun k a => slices_IndexFunc_impl_Element_impl_Element.f k a.1 a.2.1 a.2.2, fun a r => slices_IndexFunc_impl_Element_impl_Element.en a.2.1 a.2.2 r, true⟩
theorem slices_IndexFunc_impl_Element_impl_Element.dok : slices_IndexFunc_impl_Element_impl_Element.tw.DecOk := by
  intro args hc a h
  have h : slices_IndexFunc_impl_Element_impl_Element.dec args hc = some a := h
  unfold slices_IndexFunc_impl_Element_impl_Element.dec at h
  split at h
  · cases h; exact ⟨rfl, rfl⟩
  · cases h
noncomputable def slices_IndexFunc_impl_Element_impl_Element.O (k : Nat) : Oracle := (impl_found_put_1.tw.orc k noO)
def slices_IndexFunc_impl_Element_impl_Element.fh : FH := ⟨fun i => match i with | 2 => some [(0, 0), (1, 0), (7, 0), (8, 0)] | _ => none, [], false⟩
noncomputable def slices_IndexFunc_impl_Element_impl_Element.x0 (k : Nat) (x0 : List Elm) (x7 : Int) (x8 : Int) (y0_0 : Int) (y0_1 : List Int) : Option Res := R.exec Try.prog xhn slices_IndexFunc_impl_Element_impl_Element.O 1 Try.f68 slices_IndexFunc_impl_Element_impl_Element.fh k (R.point Try.f68 2) ⟨[(0, .imm (.E x0)), (1, .clo 44 [.ptr 0 0]), (7, .int .i64 x7), (8, .int .i64 x8)], [(0, .box true [.int .i64 y0_0, .imm (.I .i64 y0_1)])], 3⟩
set_option maxRecDepth 100000 in
theorem slices_IndexFunc_impl_Element_impl_Element.e0 (k : Nat) (x0 : List Elm) (x7 : Int) (x8 : Int) (y0_0 : Int) (y0_1 : List Int) : slices_IndexFunc_impl_Element_impl_Element.x0 (k + 1) x0 x7 x8 y0_0 y0_1 = (if x8 < x7 then (if 0 ≤ x8 then (if x8 < (x0.length : Int) then ((impl_found_put_1.f k ((rdE x0 x8).f0) ((rdE x0 x8).f1) ((rdE x0 x8).f2) y0_0 y0_1).bind fun t1 => (if t1 = true then (some (slices_IndexFunc_impl_Element_impl_Element.en y0_0 y0_1 x8)) else (slices_IndexFunc_impl_Element_impl_Element.x0 k x0 x7 (wr64 (x8 + 1)) y0_0 y0_1))) else none) else none) else (some (slices_IndexFunc_impl_Element_impl_Element.en y0_0 y0_1 (-1)))) := by kernel_rfl
set_option maxRecDepth 100000 in
theorem slices_IndexFunc_impl_Element_impl_Element.ef (k : Nat) (l0 : List Elm) (a2_0 : Int) (l2_1 : List Int) : R.start Try.prog xhn slices_IndexFunc_impl_Element_impl_Element.O 1 Try.f68 slices_IndexFunc_impl_Element_impl_Element.fh k [.imm (.E l0), .clo 44 [.ptr 0 0]] [.box true [.int .i64 a2_0, .imm (.I .i64 l2_1)]] = (slices_IndexFunc_impl_Element_impl_Element.x0 k l0 (l0.length : Int) 0 a2_0 l2_1) := by kernel_rfl
theorem slices_IndexFunc_impl_Element_impl_Element.link : ∀ k, (∀ (x0 : List Elm) (x7 : Int) (x8 : Int) (y0_0 : Int) (y0_1 : List Int), slices_IndexFunc_impl_Element_impl_Element.x0 k x0 x7 x8 y0_0 y0_1 = (slices_IndexFunc_impl_Element_impl_Element.l0 k x0 x7 x8 y0_0 y0_1).map (slices_IndexFunc_impl_Element_impl_Element.en y0_0 y0_1))
  | 0 => fun _ _ _ _ _ => by simp only [slices_IndexFunc_impl_Element_impl_Element.l0, R.map_none]; rfl
  | k + 1 => by
    have ih0 := slices_IndexFunc_impl_Element_impl_Element.link k
    · intro x0 x7 x8 y0_0 y0_1
      rw [slices_IndexFunc_impl_Element_impl_Element.e0]
      simp only [slices_IndexFunc_impl_Element_impl_Element.l0, R.map_ite, R.map_bind, R.map_none, R.map_some, R.wr64_eq, ← ih0]
theorem slices_IndexFunc_impl_Element_impl_Element.sf (k : Nat) (l0 : List Elm) (a2_0 : Int) (l2_1 : List Int) : R.start Try.prog xhn slices_IndexFunc_impl_Element_impl_Element.O 1 Try.f68 slices_IndexFunc_impl_Element_impl_Element.fh k [.imm (.E l0), .clo 44 [.ptr 0 0]] [.box true [.int .i64 a2_0, .imm (.I .i64 l2_1)]] = (slices_IndexFunc_impl_Element_impl_Element.f k l0 a2_0 l2_1).map (slices_IndexFunc_impl_Element_impl_Element.en a2_0 l2_1) := by
  have ih0 := slices_IndexFunc_impl_Element_impl_Element.link k
  rw [slices_IndexFunc_impl_Element_impl_Element.ef]
  simp only [slices_IndexFunc_impl_Element_impl_Element.f, R.map_ite, R.map_bind, R.map_none, R.map_some, R.wr64_eq, ← ih0]
theorem slices_IndexFunc_impl_Element_impl_Element.ok (k : Nat) : slices_IndexFunc_impl_Element_impl_Element.tw.Ok Try.prog k := by
  intro md hmd a r h
  refine fn_ok (H := xhn) (fh := slices_IndexFunc_impl_Element_impl_Element.fh) (O := slices_IndexFunc_impl_Element_impl_Element.O) (k := k) Try.func68 (by kernel_rfl) (by kernel_rfl) (fun j _ => (Tw.orc_sound impl_found_put_1.dok (impl_found_put_1.ok j) (fun _ => rfl) noO_sound)) (by kernel_rfl) (m := 1) rfl ?_
  refine (slices_IndexFunc_impl_Element_impl_Element.sf k a.1 a.2.1 a.2.2).trans ?_
  exact congrArg (Option.map _) h
def slices_ContainsFunc_impl_Element_impl_Element.f (k : Nat) (l0 : List Elm) (a2_0 : Int) (l2_1 : List Int) : Option (Bool) := ((slices_IndexFunc_impl_Element_impl_Element.f k l0 a2_0 l2_1).bind fun t1 => (some (decide (t1 ≥ 0))))
def slices_ContainsFunc_impl_Element_impl_Element.en (a2_0 : Int) (l2_1 : List Int) (r : Bool) : Res := (.lit r, [.box true [.int .i64 a2_0, .imm (.I .i64 l2_1)]])
def slices_ContainsFunc_impl_Element_impl_Element.dec : List AV → List R.Obj → Option ((List Elm) × Int × (List Int))
  | [.imm (.E l0), .clo 44 [.ptr 0 0]], [.box true [.int .i64 a2_0, .imm (.I .i64 l2_1)]] => some (l0, a2_0, l2_1)
  | _, _ => none
def slices_ContainsFunc_impl_Element_impl_Element.tw : Tw := ⟨43, (List Elm) × Int × (List Int), Bool, slices_ContainsFunc_impl_Element_impl_Element.dec, fun a => [.imm (.E a.1), .clo 44 [.ptr 0 0]], fun a => [.box true [.int .i64 a.2.1, .imm (.I .i64 a.2.2)]], fun k a => slices_ContainsFunc_impl_Element_impl_Element.f k a.1 a.2.1 a.2.2, fun a r => slices_ContainsFunc_impl_Element_impl_Element.en a.2.1 a.2.2 r, true⟩
theorem slices_ContainsFunc_impl_Element_impl_Element.dok : slices_ContainsFunc_impl_Element_impl_Element.tw.DecOk := by
  intro args hc a h
  have h : slices_ContainsFunc_impl_Element_impl_Element.dec args hc = some a := h
  unfold slices_ContainsFunc_impl_Element_impl_Element.dec at h
  split at h
  · cases h; exact ⟨rfl, rfl⟩
  · cases h
noncomputable def slices_ContainsFunc_impl_Element_impl_Element.O (k : Nat) : Oracle := (slices_IndexFunc_impl_Element_impl_Element.tw.orc k noO)
def slices_ContainsFunc_impl_Element_impl_Element.fh : FH := ⟨fun i => match i with | _ => none, [], false⟩
set_option maxRecDepth 100000 in
theorem slices_ContainsFunc_impl_Element_impl_Element.ef (k : Nat) (l0 : List Elm) (a2_0 : Int) (l2_1 : List Int) : R.start Try.prog xhn slices_ContainsFunc_impl_Element_impl_Element.O 1 Try.f43 slices_ContainsFunc_impl_Element_impl_Element.fh k [.imm (.E l0), .clo 44 [.ptr 0 0]] [.box true [.int .i64 a2_0, .imm (.I .i64 l2_1)]] = ((slices_IndexFunc_impl_Element_impl_Element.f k l0 a2_0 l2_1).bind fun t1 => (some (slices_ContainsFunc_impl_Element_impl_Element.en a2_0 l2_1 (decide (t1 ≥ 0))))) := by kernel_rfl
theorem slices_ContainsFunc_impl_Element_impl_Element.sf (k : Nat) (l0 : List Elm) (a2_0 : Int) (l2_1 : List Int) : R.start Try.prog xhn slices_ContainsFunc_impl_Element_impl_Element.O 1 Try.f43 slices_ContainsFunc_impl_Element_impl_Element.fh k [.imm (.E l0), .clo 44 [.ptr 0 0]] [.box true [.int .i64 a2_0, .imm (.I .i64 l2_1)]] = (slices_ContainsFunc_impl_Element_impl_Element.f k l0 a2_0 l2_1).map (slices_ContainsFunc_impl_Element_impl_Element.en a2_0 l2_1) := by
  rw [slices_ContainsFunc_impl_Element_impl_Element.ef]
  simp only [slices_ContainsFunc_impl_Element_impl_Element.f, R.map_ite, R.map_bind, R.map_none, R.map_some, R.wr64_eq]
theorem slices_ContainsFunc_impl_Element_impl_Element.ok (k : Nat) : slices_ContainsFunc_impl_Element_impl_Element.tw.Ok Try.prog k := by
  intro md hmd a r h
  refine fn_ok (H := xhn) (fh := slices_ContainsFunc_impl_Element_impl_Element.fh) (O := slices_ContainsFunc_impl_Element_impl_Element.O) (k := k) Try.func43 (by kernel_rfl) (by kernel_rfl) (fun j _ => (Tw.orc_sound slices_IndexFunc_impl_Element_impl_Element.dok (slices_IndexFunc_impl_Element_impl_Element.ok j) (fun _ => rfl) noO_sound)) (by kernel_rfl) (m := 1) rfl ?_
  refine (slices_ContainsFunc_impl_Element_impl_Element.sf k a.1 a.2.1 a.2.2).trans ?_
  exact congrArg (Option.map _) h
def impl_found_put.f (k : Nat) (a1_0 : Int) (l1_1 : List Int) (a2 : ByteArray) (l4 : List Elm) (a3_1 : Bool) : Option ((List Elm) × Bool) := ((slices_ContainsFunc_impl_Element_impl_Element.f k l4 a1_0 l1_1).bind fun t1 => (if t1 = true then (some (l4, a3_1)) else (if (l4.length : Int) ≥ 120 then (some (l4, false)) else (if (a2.size : Int) > 120 then (some (l4, false)) else (if l4.length < 2932031007402 then (some ((l4 ++ [(⟨a1_0, l1_1, a2⟩ : Elm)]), a3_1)) else none)))))
def impl_found_put.en (r : (List Elm) × Bool) : Res := (.tup [], [.box false [.sl 1 1, .lit r.2], .arr 49 1 (.E r.1) false])
def impl_found_put.dec : List AV → List R.Obj → Option (Int × (List Int) × ByteArray × (List Elm) × Bool)
  | [.ptr 0 0, .agg [.int .i64 a1_0, .row (.I .i64 l1_1)], .str a2], [.box false [.sl 1 0, .lit a3_1], .arr 49 0 (.E l4) false] => some (a1_0, l1_1, a2, l4, a3_1)
  | _, _ => none
def impl_found_put.tw : Tw := ⟨23, Int × (List Int) × ByteArray × (List Elm) × Bool, (List Elm) × Bool, impl_found_put.dec, fun a => [.ptr 0 0, .agg [.int .i64 a.1, .row (.I .i64 a.2.1)], .str a.2.2.1], fun a => [.box false [.sl 1 0, .lit a.2.2.2.2], .arr 49 0 (.E a.2.2.2.1) false], fun k a => impl_found_put.f k a.1 a.2.1 a.2.2.1 a.2.2.2.1 a.2.2.2.2, fun a r => impl_found_put.en r, true⟩
theorem impl_found_put.dok : impl_found_put.tw.DecOk := by
  intro args hc a h
  have h : impl_found_put.dec args hc = some a := h
  unfold impl_found_put.dec at h
  split at h
  · cases h; exact ⟨rfl, rfl⟩
  · cases h
noncomputable def impl_found_put.O (k : Nat) : Oracle := (slices_ContainsFunc_impl_Element_impl_Element.tw.orc k noO)
def impl_found_put.fh : FH := ⟨fun i => match i with | _ => none, [], true⟩
set_option maxRecDepth 100000 in
theorem impl_found_put.ef (k : Nat) (a1_0 : Int) (l1_1 : List Int) (a2 : ByteArray) (l4 : List Elm) (a3_1 : Bool) : R.start Try.prog xhn impl_found_put.O 2 Try.f23 impl_found_put.fh k [.ptr 0 0, .agg [.int .i64 a1_0, .row (.I .i64 l1_1)], .str a2] [.box false [.sl 1 0, .lit a3_1], .arr 49 0 (.E l4) false] = ((slices_ContainsFunc_impl_Element_impl_Element.f k l4 a1_0 l1_1).bind fun t1 => (if t1 = true then (some (impl_found_put.en (l4, a3_1))) else (if (l4.length : Int) ≥ 120 then (some (impl_found_put.en (l4, false))) else (if (a2.size : Int) > 120 then (some (impl_found_put.en (l4, false))) else (if l4.length < 2932031007402 then (some (impl_found_put.en ((l4 ++ [(⟨a1_0, l1_1, a2⟩ : Elm)]), a3_1))) else none))))) := by kernel_rfl
theorem impl_found_put.sf (k : Nat) (a1_0 : Int) (l1_1 : List Int) (a2 : ByteArray) (l4 : List Elm) (a3_1 : Bool) : R.start Try.prog xhn impl_found_put.O 2 Try.f23 impl_found_put.fh k [.ptr 0 0, .agg [.int .i64 a1_0, .row (.I .i64 l1_1)], .str a2] [.box false [.sl 1 0, .lit a3_1], .arr 49 0 (.E l4) false] = (impl_found_put.f k a1_0 l1_1 a2 l4 a3_1).map (impl_found_put.en) := by
  rw [impl_found_put.ef]
  simp only [impl_found_put.f, R.map_ite, R.map_bind, R.map_none, R.map_some, R.wr64_eq]
theorem impl_found_put.ok (k : Nat) : impl_found_put.tw.Ok Try.prog k := by
  intro md hmd a r h
  refine fn_ok (H := xhn) (fh := impl_found_put.fh) (O := impl_found_put.O) (k := k) Try.func23 (by kernel_rfl) (by kernel_rfl) (fun j _ => (Tw.orc_sound slices_ContainsFunc_impl_Element_impl_Element.dok (slices_ContainsFunc_impl_Element_impl_Element.ok j) (fun _ => rfl) noO_sound)) (by kernel_rfl) (m := 2) rfl ?_
  refine (impl_found_put.sf k a.1 a.2.1 a.2.2.1 a.2.2.2.1 a.2.2.2.2).trans ?_
  exact congrArg (Option.map _) h
def impl_WordElements_1.l0 : Nat → (List ByteArray) → Int → Int → (List Elm) → Bool → Int → (List Int) → (List Int) → (List Stp) → Int → (List Int) → ByteArray → Option ((List Elm) × Bool)
  | 0, _, _, _, _, _, _, _, _, _, _, _, _ => none
  | k + 1, y4, x20, x21, y2, y0_1, y1_0, y1_1, y1_2, y1_3, y3_0, y3_1, y3_2 => (if x21 < x20 then (if 0 ≤ x21 then (if x21 < (y4.length : Int) then ((impl_ValueOf.f k y1_0 y1_1 y1_2 y1_3 (rdS y4 x21)).bind fun t1 => ((impl_MulGrades.f k y3_0 y3_1 t1.1 t1.2.1).bind fun t2 => (if y3_2.size + (rdS y4 x21).size ≤ 9223372036854775807 then ((impl_found_put.f k t2.1 t2.2.1 (y3_2 ++ (rdS y4 x21)) y2 y0_1).bind fun t3 => (impl_WordElements_1.l0 k y4 x20 (wrap64 (x21 + 1)) t3.1 t3.2 y1_0 y1_1 y1_2 y1_3 y3_0 y3_1 y3_2)) else none))) else none) else none) else (some (y2, y0_1)))
def impl_WordElements_1.f (k : Nat) (a1 : Int) (l5 : List Elm) (a3_1 : Bool) (a4_0 : Int) (l4_1 : List Int) (l4_2 : List Int) (l4_3 : List Stp) : Option ((List Elm) × Bool) := (if 0 ≤ a1 then (if a1 < (l5.length : Int) then (impl_WordElements_1.l0 k ([(⟨#[97]⟩ : ByteArray), (⟨#[98]⟩ : ByteArray)]) ([(⟨#[97]⟩ : ByteArray), (⟨#[98]⟩ : ByteArray)].length : Int) 0 l5 a3_1 a4_0 l4_1 l4_2 l4_3 ((rdE l5 a1).f0) ((rdE l5 a1).f1) ((rdE l5 a1).f2)) else none) else none)
def impl_WordElements_1.en (a4_0 : Int) (l4_1 : List Int) (l4_2 : List Int) (l4_3 : List Stp) (r : (List Elm) × Bool) : Res := (.tup [], [.box false [.sl 2 1, .lit r.2], .box true [.int .i64 a4_0, .imm (.I .i64 l4_1), .imm (.I .i64 l4_2), .imm (.T l4_3)], .arr 49 1 (.E r.1) false])
def impl_WordElements_1.dec : List AV → List R.Obj → Option (Int × (List Elm) × Bool × Int × (List Int) × (List Int) × (List Stp))
  | [.ptr 0 0, .int .i64 a1, .ptr 1 0], [.box false [.sl 2 0, .lit a3_1], .box true [.int .i64 a4_0, .imm (.I .i64 l4_1), .imm (.I .i64 l4_2), .imm (.T l4_3)], .arr 49 0 (.E l5) false] => some (a1, l5, a3_1, a4_0, l4_1, l4_2, l4_3)
  | _, _ => none
def impl_WordElements_1.tw : Tw := ⟨20, Int × (List Elm) × Bool × Int × (List Int) × (List Int) × (List Stp), (List Elm) × Bool, impl_WordElements_1.dec, fun a => [.ptr 0 0, .int .i64 a.1, .ptr 1 0], fun a => [.box false [.sl 2 0, .lit a.2.2.1], .box true [.int .i64 a.2.2.2.1, .imm (.I .i64 a.2.2.2.2.1), .imm (.I .i64 a.2.2.2.2.2.1), .imm (.T a.2.2.2.2.2.2)], .arr 49 0 (.E a.2.1) false], fun k a => impl_WordElements_1.f k a.1 a.2.1 a.2.2.1 a.2.2.2.1 a.2.2.2.2.1 a.2.2.2.2.2.1 a.2.2.2.2.2.2, fun a r => impl_WordElements_1.en a.2.2.2.1 a.2.2.2.2.1 a.2.2.2.2.2.1 a.2.2.2.2.2.2 r, true⟩
theorem impl_WordElements_1.dok : impl_WordElements_1.tw.DecOk := by
  intro args hc a h
  have h : impl_WordElements_1.dec args hc = some a := h
  unfold impl_WordElements_1.dec at h
  split at h
  · cases h; exact ⟨rfl, rfl⟩
  · cases h
noncomputable def impl_WordElements_1.O (k : Nat) : Oracle := (impl_ValueOf.tw.orc k (impl_MulGrades.tw.orc k (impl_found_put.tw.orc k noO)))
def impl_WordElements_1.fh : FH := ⟨fun i => match i with | 2 => some [(0, 0), (2, 0), (5, 0), (19, 0), (20, 0), (21, 0)] | _ => none, [], true⟩
noncomputable def impl_WordElements_1.x0 (k : Nat) (y4 : List ByteArray) (x20 : Int) (x21 : Int) (y2 : List Elm) (y0_1 : Bool) (y1_0 : Int) (y1_1 : List Int) (y1_2 : List Int) (y1_3 : List Stp) (y3_0 : Int) (y3_1 : List Int) (y3_2 : ByteArray) : Option Res := R.exec Try.prog xhn impl_WordElements_1.O 3 Try.f20 impl_WordElements_1.fh k (R.point Try.f20 2) ⟨[(0, .ptr 0 0), (2, .ptr 1 0), (5, .ptr 3 0), (19, .sl 4 0), (20, .int .i64 x20), (21, .int .i64 x21)], [(0, .box false [.sl 2 1, .lit y0_1]), (1, .box true [.int .i64 y1_0, .imm (.I .i64 y1_1), .imm (.I .i64 y1_2), .imm (.T y1_3)]), (2, .arr 49 1 (.E y2) false), (3, .box false [.int .i64 y3_0, .imm (.I .i64 y3_1), .str y3_2]), (4, .arr 9 0 (.S y4) false)], 7⟩
set_option maxRecDepth 100000 in
theorem impl_WordElements_1.e0 (k : Nat) (y4 : List ByteArray) (x20 : Int) (x21 : Int) (y2 : List Elm) (y0_1 : Bool) (y1_0 : Int) (y1_1 : List Int) (y1_2 : List Int) (y1_3 : List Stp) (y3_0 : Int) (y3_1 : List Int) (y3_2 : ByteArray) : impl_WordElements_1.x0 (k + 1) y4 x20 x21 y2 y0_1 y1_0 y1_1 y1_2 y1_3 y3_0 y3_1 y3_2 = (if x21 < x20 then (if 0 ≤ x21 then (if x21 < (y4.length : Int) then ((impl_ValueOf.f k y1_0 y1_1 y1_2 y1_3 (rdS y4 x21)).bind fun t1 => ((impl_MulGrades.f k y3_0 y3_1 t1.1 t1.2.1).bind fun t2 => (if y3_2.size + (rdS y4 x21).size ≤ 9223372036854775807 then ((impl_found_put.f k t2.1 t2.2.1 (y3_2 ++ (rdS y4 x21)) y2 y0_1).bind fun t3 => (impl_WordElements_1.x0 k y4 x20 (wr64 (x21 + 1)) t3.1 t3.2 y1_0 y1_1 y1_2 y1_3 y3_0 y3_1 y3_2)) else none))) else none) else none) else (some (impl_WordElements_1.en y1_0 y1_1 y1_2 y1_3 (y2, y0_1)))) := by kernel_rfl
set_option maxRecDepth 100000 in
theorem impl_WordElements_1.ef (k : Nat) (a1 : Int) (l5 : List Elm) (a3_1 : Bool) (a4_0 : Int) (l4_1 : List Int) (l4_2 : List Int) (l4_3 : List Stp) : R.start Try.prog xhn impl_WordElements_1.O 3 Try.f20 impl_WordElements_1.fh k [.ptr 0 0, .int .i64 a1, .ptr 1 0] [.box false [.sl 2 0, .lit a3_1], .box true [.int .i64 a4_0, .imm (.I .i64 l4_1), .imm (.I .i64 l4_2), .imm (.T l4_3)], .arr 49 0 (.E l5) false] = (if 0 ≤ a1 then (if a1 < (l5.length : Int) then (impl_WordElements_1.x0 k ([(⟨#[97]⟩ : ByteArray), (⟨#[98]⟩ : ByteArray)]) ([(⟨#[97]⟩ : ByteArray), (⟨#[98]⟩ : ByteArray)].length : Int) 0 l5 a3_1 a4_0 l4_1 l4_2 l4_3 ((rdE l5 a1).f0) ((rdE l5 a1).f1) ((rdE l5 a1).f2)) else none) else none) := by kernel_rfl
theorem impl_WordElements_1.link : ∀ k, (∀ (y4 : List ByteArray) (x20 : Int) (x21 : Int) (y2 : List Elm) (y0_1 : Bool) (y1_0 : Int) (y1_1 : List Int) (y1_2 : List Int) (y1_3 : List Stp) (y3_0 : Int) (y3_1 : List Int) (y3_2 : ByteArray), impl_WordElements_1.x0 k y4 x20 x21 y2 y0_1 y1_0 y1_1 y1_2 y1_3 y3_0 y3_1 y3_2 = (impl_WordElements_1.l0 k y4 x20 x21 y2 y0_1 y1_0 y1_1 y1_2 y1_3 y3_0 y3_1 y3_2).map (impl_WordElements_1.en y1_0 y1_1 y1_2 y1_3))
  | 0 => fun _ _ _ _ _ _ _ _ _ _ _ _ => by simp only [impl_WordElements_1.l0, R.map_none]; rfl
  | k + 1 => by
    have ih0 := impl_WordElements_1.link k
    · intro y4 x20 x21 y2 y0_1 y1_0 y1_1 y1_2 y1_3 y3_0 y3_1 y3_2
      rw [impl_WordElements_1.e0]
      simp only [impl_WordElements_1.l0, R.map_ite, R.map_bind, R.map_none, R.map_some, R.wr64_eq, ← ih0]
theorem impl_WordElements_1.sf (k : Nat) (a1 : Int) (l5 : List Elm) (a3_1 : Bool) (a4_0 : Int) (l4_1 : List Int) (l4_2 : List Int) (l4_3 : List Stp) : R.start Try.prog xhn impl_WordElements_1.O 3 Try.f20 impl_WordElements_1.fh k [.ptr 0 0, .int .i64 a1, .ptr 1 0] [.box false [.sl 2 0, .lit a3_1], .box true [.int .i64 a4_0, .imm (.I .i64 l4_1), .imm (.I .i64 l4_2), .imm (.T l4_3)], .arr 49 0 (.E l5) false] = (impl_WordElements_1.f k a1 l5 a3_1 a4_0 l4_1 l4_2 l4_3).map (impl_WordElements_1.en a4_0 l4_1 l4_2 l4_3) := by
  have ih0 := impl_WordElements_1.link k
  rw [impl_WordElements_1.ef]
  simp only [impl_WordElements_1.f, R.map_ite, R.map_bind, R.map_none, R.map_some, R.wr64_eq, ← ih0]
theorem impl_WordElements_1.ok (k : Nat) : impl_WordElements_1.tw.Ok Try.prog k := by
  intro md hmd a r h
  refine fn_ok (H := xhn) (fh := impl_WordElements_1.fh) (O := impl_WordElements_1.O) (k := k) Try.func20 (by kernel_rfl) (by kernel_rfl) (fun j _ => (Tw.orc_sound impl_ValueOf.dok (impl_ValueOf.ok j) (fun _ => rfl) (Tw.orc_sound impl_MulGrades.dok (impl_MulGrades.ok j) (fun _ => rfl) (Tw.orc_sound impl_found_put.dok (impl_found_put.ok j) (fun _ => rfl) noO_sound)))) (by kernel_rfl) (m := 3) rfl ?_
  refine (impl_WordElements_1.sf k a.1 a.2.1 a.2.2.1 a.2.2.2.1 a.2.2.2.2.1 a.2.2.2.2.2.1 a.2.2.2.2.2.2).trans ?_
  exact congrArg (Option.map _) h
mutual
def impl_search.l0 : Nat → (List ByteArray) → Int → Int → Int → (List Int) → (List Int) → (List Stp) → Int → (List Int) → (List Int) → (List Stp) → (List Elm) → Bool → Option ((List Elm) × Bool)
  | 0, _, _, _, _, _, _, _, _, _, _, _, _, _ => none
  | k + 1, y3, x18, x19, y0_0, y0_1, y0_2, y0_3, y1_0, y1_1, y1_2, y1_3, y4, y2_1 => (if x19 < x18 then (if 0 ≤ x19 then (if x19 < (y3.length : Int) then ((impl_ValueOf.f k y1_0 y1_1 y1_2 y1_3 (rdS y3 x19)).bind fun t2 => ((impl_found_put.f k t2.1 t2.2.1 (rdS y3 x19) y4 y2_1).bind fun t3 => (impl_search.l0 k y3 x18 (wrap64 (x19 + 1)) y0_0 y0_1 y0_2 y0_3 y1_0 y1_1 y1_2 y1_3 t3.1 t3.2))) else none) else none) else (impl_search.l1 k 0 y0_0 y0_1 y0_2 y0_3 y4 y2_1))
def impl_search.l1 : Nat → Int → Int → (List Int) → (List Int) → (List Stp) → (List Elm) → Bool → Option ((List Elm) × Bool)
  | 0, _, _, _, _, _, _, _ => none
  | k + 1, x11, y0_0, y0_1, y0_2, y0_3, y2, y1_1 => (if x11 < (y2.length : Int) then (if y1_1 = true then ((impl_WordElements_1.f k x11 y2 y1_1 y0_0 y0_1 y0_2 y0_3).bind fun t4 => (impl_search.l1 k (wrap64 (x11 + 1)) y0_0 y0_1 y0_2 y0_3 t4.1 t4.2)) else (some (([] : List Elm), false))) else (if y1_1 = true then (some (y2, true)) else (some (([] : List Elm), false))))
end
def impl_search.f (k : Nat) (a0_0 : Int) (l0_1 : List Int) (l0_2 : List Int) (l0_3 : List Stp) (a2_0 : Int) (l2_1 : List Int) (l2_2 : List Int) (l2_3 : List Stp) : Option ((List Elm) × Bool) := ((impl_AutomatonValid.f k a0_0 l0_1 l0_2 l0_3).bind fun t1 => (if t1 = true then (impl_search.l0 k ([(⟨#[97]⟩ : ByteArray), (⟨#[98]⟩ : ByteArray)]) ([(⟨#[97]⟩ : ByteArray), (⟨#[98]⟩ : ByteArray)].length : Int) 0 a2_0 l2_1 l2_2 l2_3 a0_0 l0_1 l0_2 l0_3 ([] : List Elm) true) else (some (([] : List Elm), false))))
def impl_search.en (a2_0 : Int) (l2_1 : List Int) (l2_2 : List Int) (l2_3 : List Stp) (r : (List Elm) × Bool) : Res := (.tup [.sl 1 0, .lit r.2], [.box true [.int .i64 a2_0, .imm (.I .i64 l2_1), .imm (.I .i64 l2_2), .imm (.T l2_3)], .arr 49 0 (.E r.1) false])
def impl_search.dec : List AV → List R.Obj → Option (Int × (List Int) × (List Int) × (List Stp) × Int × (List Int) × (List Int) × (List Stp))
  | [.agg [.int .i64 a0_0, .imm (.I .i64 l0_1), .imm (.I .i64 l0_2), .imm (.T l0_3)], .clo 20 [.ptr 0 0]], [.box true [.int .i64 a2_0, .imm (.I .i64 l2_1), .imm (.I .i64 l2_2), .imm (.T l2_3)]] => some (a0_0, l0_1, l0_2, l0_3, a2_0, l2_1, l2_2, l2_3)
  | _, _ => none
def impl_search.tw : Tw := ⟨19, Int × (List Int) × (List Int) × (List Stp) × Int × (List Int) × (List Int) × (List Stp), (List Elm) × Bool, impl_search.dec, fun a => [.agg [.int .i64 a.1, .imm (.I .i64 a.2.1), .imm (.I .i64 a.2.2.1), .imm (.T a.2.2.2.1)], .clo 20 [.ptr 0 0]], fun a => [.box true [.int .i64 a.2.2.2.2.1, .imm (.I .i64 a.2.2.2.2.2.1), .imm (.I .i64 a.2.2.2.2.2.2.1), .imm (.T a.2.2.2.2.2.2.2)]], fun k a => impl_search.f k a.1 a.2.1 a.2.2.1 a.2.2.2.1 a.2.2.2.2.1 a.2.2.2.2.2.1 a.2.2.2.2.2.2.1 a.2.2.2.2.2.2.2, fun a r => impl_search.en a.2.2.2.2.1 a.2.2.2.2.2.1 a.2.2.2.2.2.2.1 a.2.2.2.2.2.2.2 r, true⟩
theorem impl_search.dok : impl_search.tw.DecOk := by
  intro args hc a h
  have h : impl_search.dec args hc = some a := h
  unfold impl_search.dec at h
  split at h
  · cases h; exact ⟨rfl, rfl⟩
  · cases h
noncomputable def impl_search.O (k : Nat) : Oracle := (impl_AutomatonValid.tw.orc k (impl_ValueOf.tw.orc k (impl_found_put.tw.orc k (impl_WordElements_1.tw.orc k noO))))
def impl_search.fh : FH := ⟨fun i => match i with | 5 => some [(1, 0), (2, 0), (6, 0), (17, 0), (18, 0), (19, 0)] | 11 => some [(1, 0), (6, 0), (11, 0)] | _ => none, [(true, 49)], false⟩
noncomputable def impl_search.x0 (k : Nat) (y3 : List ByteArray) (x18 : Int) (x19 : Int) (y0_0 : Int) (y0_1 : List Int) (y0_2 : List Int) (y0_3 : List Stp) (y1_0 : Int) (y1_1 : List Int) (y1_2 : List Int) (y1_3 : List Stp) (y4 : List Elm) (y2_1 : Bool) : Option Res := R.exec Try.prog xhn impl_search.O 1 Try.f19 impl_search.fh k (R.point Try.f19 5) ⟨[(1, .clo 20 [.ptr 0 0]), (2, .ptr 1 0), (6, .ptr 2 0), (17, .sl 3 0), (18, .int .i64 x18), (19, .int .i64 x19)], [(0, .box true [.int .i64 y0_0, .imm (.I .i64 y0_1), .imm (.I .i64 y0_2), .imm (.T y0_3)]), (1, .box false [.int .i64 y1_0, .imm (.I .i64 y1_1), .imm (.I .i64 y1_2), .imm (.T y1_3)]), (2, .box false [.sl 4 0, .lit y2_1]), (3, .arr 9 0 (.S y3) false), (4, .arr 49 0 (.E y4) false)], 7⟩
noncomputable def impl_search.x1 (k : Nat) (x11 : Int) (y0_0 : Int) (y0_1 : List Int) (y0_2 : List Int) (y0_3 : List Stp) (y2 : List Elm) (y1_1 : Bool) : Option Res := R.exec Try.prog xhn impl_search.O 1 Try.f19 impl_search.fh k (R.point Try.f19 11) ⟨[(1, .clo 20 [.ptr 0 0]), (6, .ptr 1 0), (11, .int .i64 x11)], [(0, .box true [.int .i64 y0_0, .imm (.I .i64 y0_1), .imm (.I .i64 y0_2), .imm (.T y0_3)]), (1, .box false [.sl 2 0, .lit y1_1]), (2, .arr 49 0 (.E y2) false)], 5⟩
set_option maxRecDepth 100000 in
theorem impl_search.e0 (k : Nat) (y3 : List ByteArray) (x18 : Int) (x19 : Int) (y0_0 : Int) (y0_1 : List Int) (y0_2 : List Int) (y0_3 : List Stp) (y1_0 : Int) (y1_1 : List Int) (y1_2 : List Int) (y1_3 : List Stp) (y4 : List Elm) (y2_1 : Bool) : impl_search.x0 (k + 1) y3 x18 x19 y0_0 y0_1 y0_2 y0_3 y1_0 y1_1 y1_2 y1_3 y4 y2_1 = (if x19 < x18 then (if 0 ≤ x19 then (if x19 < (y3.length : Int) then ((impl_ValueOf.f k y1_0 y1_1 y1_2 y1_3 (rdS y3 x19)).bind fun t2 => ((impl_found_put.f k t2.1 t2.2.1 (rdS y3 x19) y4 y2_1).bind fun t3 => (impl_search.x0 k y3 x18 (wr64 (x19 + 1)) y0_0 y0_1 y0_2 y0_3 y1_0 y1_1 y1_2 y1_3 t3.1 t3.2))) else none) else none) else (impl_search.x1 k 0 y0_0 y0_1 y0_2 y0_3 y4 y2_1)) := by kernel_rfl
set_option maxRecDepth 100000 in
theorem impl_search.e1 (k : Nat) (x11 : Int) (y0_0 : Int) (y0_1 : List Int) (y0_2 : List Int) (y0_3 : List Stp) (y2 : List Elm) (y1_1 : Bool) : impl_search.x1 (k + 1) x11 y0_0 y0_1 y0_2 y0_3 y2 y1_1 = (if x11 < (y2.length : Int) then (if y1_1 = true then ((impl_WordElements_1.f k x11 y2 y1_1 y0_0 y0_1 y0_2 y0_3).bind fun t4 => (impl_search.x1 k (wr64 (x11 + 1)) y0_0 y0_1 y0_2 y0_3 t4.1 t4.2)) else (some (impl_search.en y0_0 y0_1 y0_2 y0_3 (([] : List Elm), false)))) else (if y1_1 = true then (some (impl_search.en y0_0 y0_1 y0_2 y0_3 (y2, true))) else (some (impl_search.en y0_0 y0_1 y0_2 y0_3 (([] : List Elm), false))))) := by
  refine Eq.trans ?_ (R.icong (fun h0 => (R.icong (fun h1 => rfl) (fun h1 => (R.idropF (p := y1_1 = true) (z := (some (impl_search.en y0_0 y0_1 y0_2 y0_3 (y2, true)))) h1 rfl)))) (fun h0 => rfl))
  kernel_rfl
set_option maxRecDepth 100000 in
theorem impl_search.ef (k : Nat) (a0_0 : Int) (l0_1 : List Int) (l0_2 : List Int) (l0_3 : List Stp) (a2_0 : Int) (l2_1 : List Int) (l2_2 : List Int) (l2_3 : List Stp) : R.start Try.prog xhn impl_search.O 1 Try.f19 impl_search.fh k [.agg [.int .i64 a0_0, .imm (.I .i64 l0_1), .imm (.I .i64 l0_2), .imm (.T l0_3)], .clo 20 [.ptr 0 0]] [.box true [.int .i64 a2_0, .imm (.I .i64 l2_1), .imm (.I .i64 l2_2), .imm (.T l2_3)]] = ((impl_AutomatonValid.f k a0_0 l0_1 l0_2 l0_3).bind fun t1 => (if t1 = true then (impl_search.x0 k ([(⟨#[97]⟩ : ByteArray), (⟨#[98]⟩ : ByteArray)]) ([(⟨#[97]⟩ : ByteArray), (⟨#[98]⟩ : ByteArray)].length : Int) 0 a2_0 l2_1 l2_2 l2_3 a0_0 l0_1 l0_2 l0_3 ([] : List Elm) true) else (some (impl_search.en a2_0 l2_1 l2_2 l2_3 (([] : List Elm), false))))) := by kernel_rfl
theorem impl_search.link : ∀ k, (∀ (y3 : List ByteArray) (x18 : Int) (x19 : Int) (y0_0 : Int) (y0_1 : List Int) (y0_2 : List Int) (y0_3 : List Stp) (y1_0 : Int) (y1_1 : List Int) (y1_2 : List Int) (y1_3 : List Stp) (y4 : List Elm) (y2_1 : Bool), impl_search.x0 k y3 x18 x19 y0_0 y0_1 y0_2 y0_3 y1_0 y1_1 y1_2 y1_3 y4 y2_1 = (impl_search.l0 k y3 x18 x19 y0_0 y0_1 y0_2 y0_3 y1_0 y1_1 y1_2 y1_3 y4 y2_1).map (impl_search.en y0_0 y0_1 y0_2 y0_3)) ∧ (∀ (x11 : Int) (y0_0 : Int) (y0_1 : List Int) (y0_2 : List Int) (y0_3 : List Stp) (y2 : List Elm) (y1_1 : Bool), impl_search.x1 k x11 y0_0 y0_1 y0_2 y0_3 y2 y1_1 = (impl_search.l1 k x11 y0_0 y0_1 y0_2 y0_3 y2 y1_1).map (impl_search.en y0_0 y0_1 y0_2 y0_3))
  | 0 => ⟨fun _ _ _ _ _ _ _ _ _ _ _ _ _ => by simp only [impl_search.l0, R.map_none]; rfl, fun _ _ _ _ _ _ _ => by simp only [impl_search.l1, R.map_none]; rfl⟩
  | k + 1 => by
    obtain ⟨ih0, ih1⟩ := impl_search.link k
    refine ⟨?_, ?_⟩
    · intro y3 x18 x19 y0_0 y0_1 y0_2 y0_3 y1_0 y1_1 y1_2 y1_3 y4 y2_1
      rw [impl_search.e0]
      simp only [impl_search.l0, R.map_ite, R.map_bind, R.map_none, R.map_some, R.wr64_eq, ← ih0, ← ih1]
    · intro x11 y0_0 y0_1 y0_2 y0_3 y2 y1_1
      rw [impl_search.e1]
      simp only [impl_search.l1, R.map_ite, R.map_bind, R.map_none, R.map_some, R.wr64_eq, ← ih0, ← ih1]
theorem impl_search.sf (k : Nat) (a0_0 : Int) (l0_1 : List Int) (l0_2 : List Int) (l0_3 : List Stp) (a2_0 : Int) (l2_1 : List Int) (l2_2 : List Int) (l2_3 : List Stp) : R.start Try.prog xhn impl_search.O 1 Try.f19 impl_search.fh k [.agg [.int .i64 a0_0, .imm (.I .i64 l0_1), .imm (.I .i64 l0_2), .imm (.T l0_3)], .clo 20 [.ptr 0 0]] [.box true [.int .i64 a2_0, .imm (.I .i64 l2_1), .imm (.I .i64 l2_2), .imm (.T l2_3)]] = (impl_search.f k a0_0 l0_1 l0_2 l0_3 a2_0 l2_1 l2_2 l2_3).map (impl_search.en a2_0 l2_1 l2_2 l2_3) := by
  obtain ⟨ih0, ih1⟩ := impl_search.link k
  rw [impl_search.ef]
  simp only [impl_search.f, R.map_ite, R.map_bind, R.map_none, R.map_some, R.wr64_eq, ← ih0, ← ih1]
theorem impl_search.ok (k : Nat) : impl_search.tw.Ok Try.prog k := by
  intro md hmd a r h
  refine fn_ok (H := xhn) (fh := impl_search.fh) (O := impl_search.O) (k := k) Try.func19 (by kernel_rfl) (by kernel_rfl) (fun j _ => (Tw.orc_sound impl_AutomatonValid.dok (impl_AutomatonValid.ok j) (fun _ => rfl) (Tw.orc_sound impl_ValueOf.dok (impl_ValueOf.ok j) (fun _ => rfl) (Tw.orc_sound impl_found_put.dok (impl_found_put.ok j) (fun _ => rfl) (Tw.orc_sound impl_WordElements_1.dok (impl_WordElements_1.ok j) (fun _ => rfl) noO_sound))))) (by kernel_rfl) (m := 1) rfl ?_
  refine (impl_search.sf k a.1 a.2.1 a.2.2.1 a.2.2.2.1 a.2.2.2.2.1 a.2.2.2.2.2.1 a.2.2.2.2.2.2.1 a.2.2.2.2.2.2.2).trans ?_
  exact congrArg (Option.map _) h
def impl_WordElements.f (k : Nat) (a0_0 : Int) (l0_1 : List Int) (l0_2 : List Int) (l0_3 : List Stp) : Option ((List Elm) × Bool) := ((impl_search.f k a0_0 l0_1 l0_2 l0_3 a0_0 l0_1 l0_2 l0_3).bind fun t1 => (some (t1.1, t1.2)))
def impl_WordElements.en (r : (List Elm) × Bool) : Res := (.tup [.sl 0 0, .lit r.2], [.arr 49 0 (.E r.1) false])
def impl_WordElements.dec : List AV → List R.Obj → Option (Int × (List Int) × (List Int) × (List Stp))
  | [.agg [.int .i64 a0_0, .imm (.I .i64 l0_1), .imm (.I .i64 l0_2), .imm (.T l0_3)]], [] => some (a0_0, l0_1, l0_2, l0_3)
  | _, _ => none
def impl_WordElements.tw : Tw := ⟨7, Int × (List Int) × (List Int) × (List Stp), (List Elm) × Bool, impl_WordElements.dec, fun a => [.agg [.int .i64 a.1, .imm (.I .i64 a.2.1), .imm (.I .i64 a.2.2.1), .imm (.T a.2.2.2)]], fun a => [], fun k a => impl_WordElements.f k a.1 a.2.1 a.2.2.1 a.2.2.2, fun a r => impl_WordElements.en r, true⟩
theorem impl_WordElements.dok : impl_WordElements.tw.DecOk := by
  intro args hc a h
  have h : impl_WordElements.dec args hc = some a := h
  unfold impl_WordElements.dec at h
  split at h
  · cases h; exact ⟨rfl, rfl⟩
  · cases h
noncomputable def impl_WordElements.O (k : Nat) : Oracle := (impl_search.tw.orc k noO)
def impl_WordElements.fh : FH := ⟨fun i => match i with | _ => none, [(true, 49)], false⟩
set_option maxRecDepth 100000 in
theorem impl_WordElements.ef (k : Nat) (a0_0 : Int) (l0_1 : List Int) (l0_2 : List Int) (l0_3 : List Stp) : R.start Try.prog xhn impl_WordElements.O 0 Try.f7 impl_WordElements.fh k [.agg [.int .i64 a0_0, .imm (.I .i64 l0_1), .imm (.I .i64 l0_2), .imm (.T l0_3)]] [] = ((impl_search.f k a0_0 l0_1 l0_2 l0_3 a0_0 l0_1 l0_2 l0_3).bind fun t1 => (some (impl_WordElements.en (t1.1, t1.2)))) := by kernel_rfl
theorem impl_WordElements.sf (k : Nat) (a0_0 : Int) (l0_1 : List Int) (l0_2 : List Int) (l0_3 : List Stp) : R.start Try.prog xhn impl_WordElements.O 0 Try.f7 impl_WordElements.fh k [.agg [.int .i64 a0_0, .imm (.I .i64 l0_1), .imm (.I .i64 l0_2), .imm (.T l0_3)]] [] = (impl_WordElements.f k a0_0 l0_1 l0_2 l0_3).map (impl_WordElements.en) := by
  rw [impl_WordElements.ef]
  simp only [impl_WordElements.f, R.map_ite, R.map_bind, R.map_none, R.map_some, R.wr64_eq]
theorem impl_WordElements.ok (k : Nat) : impl_WordElements.tw.Ok Try.prog k := by
  intro md hmd a r h
  refine fn_ok (H := xhn) (fh := impl_WordElements.fh) (O := impl_WordElements.O) (k := k) Try.func7 (by kernel_rfl) (by kernel_rfl) (fun j _ => (Tw.orc_sound impl_search.dok (impl_search.ok j) (fun _ => rfl) noO_sound)) (by kernel_rfl) (m := 0) rfl ?_
  refine (impl_WordElements.sf k a.1 a.2.1 a.2.2.1 a.2.2.2).trans ?_
  exact congrArg (Option.map _) h
noncomputable def lwZ.O (k : Nat) : Oracle := (laws_szAutomaton.tw.orc k (laws_toAutomaton.tw.orc k (spec_WordElements.tw.orc k noO)))
theorem lwZ.Oo (k : Nat) : OSound (CallSpec false Try.prog) (lwZ.O k) := (Tw.orc_sound laws_szAutomaton.dok (laws_szAutomaton.ok k) (fun q => Bool.noConfusion q) (Tw.orc_sound laws_toAutomaton.dok (laws_toAutomaton.ok k) (fun q => Bool.noConfusion q) (Tw.orc_sound spec_WordElements.dok (spec_WordElements.ok k) (fun q => Bool.noConfusion q) noO_sound)))
def lwZ.fh : FH := ⟨fun i => match i with | 7 => some [(1, 0), (4, 0), (5, 0), (6, 0)] | _ => none, [], false⟩
def lwZ.s7 (y1 : List Elm) (x5 : Bool) (y0_0 : Int) (y0_1 : List Int) (y0_2 : List Int) (y0_3 : List Stp) (y2_0 : Int) (y3 : List Int) (y4 : List Int) (y5 : List Stp) : St := ⟨[(1, .ptr 0 0), (4, .sl 1 0), (5, .lit x5), (6, .ptr 2 0)], [(0, .box false [.int .i64 y0_0, .imm (.I .i64 y0_1), .imm (.I .i64 y0_2), .imm (.T y0_3)]), (1, .arr 49 0 (.E y1) false), (2, .box false [.int .i64 y2_0, .sl 3 0, .sl 4 0, .sl 5 0]), (3, .arr 3 0 (.I .i64 y3) false), (4, .arr 3 0 (.I .i64 y4) false), (5, .arr 69 0 (.T y5) false)], 8⟩
set_option maxRecDepth 100000 in
set_option maxHeartbeats 4000000 in
theorem lwZ.e (k : Nat) (a0_0 : Int) (l0_1 : List Int) (l0_2 : List Int) (l0_3 : List Stp) (nxt : List Item → St → Option Res) : R.seg Try.prog xhn (lwZ.O k) 0 Try.f3 lwZ.fh nxt 100000 [.code (R.bodyOf Try.f3)] ⟨[(0, .agg [.int .i64 a0_0, .imm (.I .i64 l0_1), .imm (.I .i64 l0_2), .imm (.T l0_3)])], [], 2⟩ = ((laws_szAutomaton.f k a0_0 l0_1 l0_2 l0_3 1048576).bind fun t1 => (if t1 < 0 then (some (.lit true, [])) else ((laws_toAutomaton.f k a0_0 l0_1 l0_2 l0_3).bind fun t2 => ((spec_WordElements.f k t2.1 t2.2.1 t2.2.2.1 t2.2.2.2).bind fun t3 => ((laws_toAutomaton.f k a0_0 l0_1 l0_2 l0_3).bind fun t4 => (nxt (R.point Try.f3 7) (lwZ.s7 t3.1 t3.2 a0_0 l0_1 l0_2 l0_3 t4.1 t4.2.1 t4.2.2.1 t4.2.2.2))))))) := by kernel_rfl
noncomputable def lwA.O (k : Nat) : Oracle := (laws_eqElementS.tw.orc k (laws_toAutomaton.tw.orc k (laws_eqAutomaton.tw.orc k (laws_markAutomaton.tw.orc k noO))))
theorem lwA.Oo (k : Nat) : OSound (CallSpec false Try.prog) (lwA.O k) := (Tw.orc_sound laws_eqElementS.dok (laws_eqElementS.ok k) (fun q => Bool.noConfusion q) (Tw.orc_sound laws_toAutomaton.dok (laws_toAutomaton.ok k) (fun q => Bool.noConfusion q) (Tw.orc_sound laws_eqAutomaton.dok (laws_eqAutomaton.ok k) (fun q => Bool.noConfusion q) (Tw.orc_sound laws_markAutomaton.dok (laws_markAutomaton.ok k) (fun q => Bool.noConfusion q) noO_sound))))
def lwA.fh : FH := ⟨fun i => match i with | 17 => some [(1, 0), (4, 0), (5, 0), (7, 0), (10, 0)] | _ => none, [], false⟩
def lwA.s17 (y1 : List Elm) (x5 : Bool) (y6 : List Elm) (y0_0 : Int) (y0_1 : List Int) (y0_2 : List Int) (y0_3 : List Stp) (y2_0 : Int) (y3 : List Int) (y4 : List Int) (y5 : List Stp) : St := ⟨[(1, .ptr 0 0), (4, .sl 1 0), (5, .lit x5), (7, .sl 6 0), (10, .int .i64 1)], [(0, .box true [.int .i64 y0_0, .imm (.I .i64 y0_1), .imm (.I .i64 y0_2), .imm (.T y0_3)]), (1, .arr 49 0 (.E y1) true), (2, .box false [.int .i64 y2_0, .sl 3 0, .sl 4 0, .sl 5 0]), (3, .arr 3 0 (.I .i64 y3) false), (4, .arr 3 0 (.I .i64 y4) false), (5, .arr 69 0 (.T y5) false), (6, .arr 49 0 (.E y6) true)], 9⟩
def lwA.s0 (z0 : Bool) (z1 : Bool) (z2 : Int) (z3 : List Int) (z4 : List Int) (z5 : List Stp) (z6 : List Elm) (z7 : Int) (z8 : List Int) (z9 : List Int) (z10 : List Stp) (z11 : List Elm) : St := ⟨[(1, .ptr 0 0), (4, .sl 1 0), (5, .lit z0), (6, .ptr 2 0), (7, .sl 6 0), (8, .lit z1)], [(0, .box true [.int .i64 z2, .imm (.I .i64 z3), .imm (.I .i64 z4), .imm (.T z5)]), (1, .arr 49 0 (.E z6) true), (2, .box false [.int .i64 z7, .sl 3 0, .sl 4 0, .sl 5 0]), (3, .arr 3 0 (.I .i64 z8) false), (4, .arr 3 0 (.I .i64 z9) false), (5, .arr 69 0 (.T z10) false), (6, .arr 49 0 (.E z11) true)], 20⟩
set_option maxRecDepth 100000 in
set_option maxHeartbeats 4000000 in
theorem lwA.e (k : Nat) (z0 : Bool) (z1 : Bool) (z2 : Int) (z3 : List Int) (z4 : List Int) (z5 : List Stp) (z6 : List Elm) (z7 : Int) (z8 : List Int) (z9 : List Int) (z10 : List Stp) (z11 : List Elm) (nxt : List Item → St → Option Res) : R.seg Try.prog xhn (lwA.O k) 7 Try.f3 lwA.fh nxt 100000 (R.point Try.f3 7).tail (lwA.s0 z0 z1 z2 z3 z4 z5 z6 z7 z8 z9 z10 z11) = ((laws_eqElementS.f k z11 z6).bind fun t1 => (if t1 = true then (if (z1 != z0) = true then (some (.lit false, [.box true [.int .i64 z2, .imm (.I .i64 z3), .imm (.I .i64 z4), .imm (.T z5)], .arr 49 0 (.E z6) true, .box false [.int .i64 z7, .sl 3 0, .sl 4 0, .sl 5 0], .arr 3 0 (.I .i64 z8) false, .arr 3 0 (.I .i64 z9) false, .arr 69 0 (.T z10) false, .arr 49 0 (.E z11) true])) else ((laws_toAutomaton.f k z2 z3 z4 z5).bind fun t2 => ((laws_eqAutomaton.f k z7 z8 z9 z10 t2.1 t2.2.1 t2.2.2.1 t2.2.2.2).bind fun t3 => (if t3 = true then ((laws_markAutomaton.f k z7 z8 z9 z10 1).bind fun t4 => (if t4.1 < 0 then (some (.lit false, [.box true [.int .i64 z2, .imm (.I .i64 z3), .imm (.I .i64 z4), .imm (.T z5)], .arr 49 0 (.E z6) true, .box false [.int .i64 z7, .sl 3 0, .sl 4 0, .sl 5 0], .arr 3 0 (.I .i64 t4.2.1) false, .arr 3 0 (.I .i64 t4.2.2.1) false, .arr 69 0 (.T t4.2.2.2) false, .arr 49 0 (.E z11) true])) else ((laws_eqElementS.f k z11 z6).bind fun t5 => (if t5 = true then (if (z1 != z0) = true then (some (.lit false, [.box true [.int .i64 z2, .imm (.I .i64 z3), .imm (.I .i64 z4), .imm (.T z5)], .arr 49 0 (.E z6) true, .box false [.int .i64 z7, .sl 3 0, .sl 4 0, .sl 5 0], .arr 3 0 (.I .i64 t4.2.1) false, .arr 3 0 (.I .i64 t4.2.2.1) false, .arr 69 0 (.T t4.2.2.2) false, .arr 49 0 (.E z11) true])) else (nxt (R.point Try.f3 17) (lwA.s17 z6 z0 z11 z2 z3 z4 z5 z7 t4.2.1 t4.2.2.1 t4.2.2.2))) else (some (.lit false, [.box true [.int .i64 z2, .imm (.I .i64 z3), .imm (.I .i64 z4), .imm (.T z5)], .arr 49 0 (.E z6) true, .box false [.int .i64 z7, .sl 3 0, .sl 4 0, .sl 5 0], .arr 3 0 (.I .i64 t4.2.1) false, .arr 3 0 (.I .i64 t4.2.2.1) false, .arr 69 0 (.T t4.2.2.2) false, .arr 49 0 (.E z11) true])))))) else (some (.lit false, [.box true [.int .i64 z2, .imm (.I .i64 z3), .imm (.I .i64 z4), .imm (.T z5)], .arr 49 0 (.E z6) true, .box false [.int .i64 z7, .sl 3 0, .sl 4 0, .sl 5 0], .arr 3 0 (.I .i64 z8) false, .arr 3 0 (.I .i64 z9) false, .arr 69 0 (.T z10) false, .arr 49 0 (.E z11) true])))))) else (some (.lit false, [.box true [.int .i64 z2, .imm (.I .i64 z3), .imm (.I .i64 z4), .imm (.T z5)], .arr 49 0 (.E z6) true, .box false [.int .i64 z7, .sl 3 0, .sl 4 0, .sl 5 0], .arr 3 0 (.I .i64 z8) false, .arr 3 0 (.I .i64 z9) false, .arr 69 0 (.T z10) false, .arr 49 0 (.E z11) true])))) := by kernel_rfl
noncomputable def lwB.O (k : Nat) : Oracle := (laws_heldElementS.tw.orc k (laws_toAutomaton.tw.orc k (impl_WordElements.tw.orc k (laws_eqElementS.tw.orc k noO))))
theorem lwB.Oo (k : Nat) : OSound (CallSpec false Try.prog) (lwB.O k) := (Tw.orc_sound laws_heldElementS.dok (laws_heldElementS.ok k) (fun q => Bool.noConfusion q) (Tw.orc_sound laws_toAutomaton.dok (laws_toAutomaton.ok k) (fun q => Bool.noConfusion q) (Tw.orc_sound impl_WordElements.dok (impl_WordElements.ok k) (fun q => Bool.noConfusion q) (Tw.orc_sound laws_eqElementS.dok (laws_eqElementS.ok k) (fun q => Bool.noConfusion q) noO_sound))))
def lwB.fh : FH := ⟨fun i => match i with | _ => none, [], false⟩
def lwB.s0 (z0 : Bool) (z1 : Int) (z2 : Int) (z3 : List Int) (z4 : List Int) (z5 : List Stp) (z6 : List Elm) (z7 : List Elm) : St := ⟨[(1, .ptr 0 0), (4, .sl 1 0), (5, .lit z0), (7, .sl 2 0), (10, .int .i64 z1)], [(0, .box true [.int .i64 z2, .imm (.I .i64 z3), .imm (.I .i64 z4), .imm (.T z5)]), (1, .arr 49 0 (.E z6) true), (2, .arr 49 0 (.E z7) true)], 20⟩
set_option maxRecDepth 100000 in
set_option maxHeartbeats 4000000 in
theorem lwB.e (k : Nat) (z0 : Bool) (z1 : Int) (z2 : Int) (z3 : List Int) (z4 : List Int) (z5 : List Stp) (z6 : List Elm) (z7 : List Elm) (nxt : List Item → St → Option Res) : R.seg Try.prog xhn (lwB.O k) 3 Try.f3 lwB.fh nxt 100000 (R.point Try.f3 17).tail (lwB.s0 z0 z1 z2 z3 z4 z5 z6 z7) = ((laws_heldElementS.f k z7 1).bind fun t1 => (if t1 < 0 then (some (.lit false, [.box true [.int .i64 z2, .imm (.I .i64 z3), .imm (.I .i64 z4), .imm (.T z5)], .arr 49 0 (.E z6) true, .arr 49 0 (.E z7) true])) else (if t1 = z1 then ((laws_toAutomaton.f k z2 z3 z4 z5).bind fun t2 => ((impl_WordElements.f k t2.1 t2.2.1 t2.2.2.1 t2.2.2.2).bind fun t3 => ((laws_eqElementS.f k t3.1 z6).bind fun t4 => (if t4 = true then (if (t3.2 != z0) = true then (some (.lit false, [.box true [.int .i64 z2, .imm (.I .i64 z3), .imm (.I .i64 z4), .imm (.T z5)], .arr 49 0 (.E z6) true, .arr 49 0 (.E z7) true])) else ((laws_heldElementS.f k z7 1).bind fun t5 => (if t5 < 0 then (some (.lit false, [.box true [.int .i64 z2, .imm (.I .i64 z3), .imm (.I .i64 z4), .imm (.T z5)], .arr 49 0 (.E z6) true, .arr 49 0 (.E z7) true])) else (if t5 = z1 then (some (.lit true, [.box true [.int .i64 z2, .imm (.I .i64 z3), .imm (.I .i64 z4), .imm (.T z5)], .arr 49 0 (.E z6) true, .arr 49 0 (.E z7) true])) else (some (.lit false, [.box true [.int .i64 z2, .imm (.I .i64 z3), .imm (.I .i64 z4), .imm (.T z5)], .arr 49 0 (.E z6) true, .arr 49 0 (.E z7) true])))))) else (some (.lit false, [.box true [.int .i64 z2, .imm (.I .i64 z3), .imm (.I .i64 z4), .imm (.T z5)], .arr 49 0 (.E z6) true, .arr 49 0 (.E z7) true])))))) else (some (.lit false, [.box true [.int .i64 z2, .imm (.I .i64 z3), .imm (.I .i64 z4), .imm (.T z5)], .arr 49 0 (.E z6) true, .arr 49 0 (.E z7) true]))))) := by kernel_rfl
end Go.Proofs.Ytfgoojnblomonaa.V
end
section
set_option linter.unusedVariables false
set_option linter.unusedSimpArgs false
namespace Go.Proofs.Ytfgoojnblomonaa.V
open Go Go.Proofs.Ytfgoojnblomonaa.R Go.RowKit
open Go.Proofs.YtfgoojnblomonaaW.PrintWords Go.Proofs.YtfgoojnblomonaaW.PrintLast Go.Proofs.YtfgoojnblomonaaW.PrintMore
structure Off (w w' : World) (S : Nat → Prop) : Prop where
  os : w'.os = w.os
  tape : w'.tape = w.tape
  output : w'.output = w.output
  size : w.heap.size ≤ w'.heap.size
  block : ∀ b, b < w.heap.size → ¬ S b → w'.heap[b]? = w.heap[b]?
theorem Off.refl (w : World) (S : Nat → Prop) : Off w w S := ⟨rfl, rfl, rfl, Nat.le_refl _, fun _ _ _ => rfl⟩
theorem Off.trans {a b c : World} {S : Nat → Prop} (h : Off a b S) (k : Off b c S) : Off a c S :=
  ⟨k.os.trans h.os, k.tape.trans h.tape, k.output.trans h.output, Nat.le_trans h.size k.size, fun i hi hs => (k.block i (Nat.lt_of_lt_of_le hi h.size) hs).trans (h.block i hi hs)⟩
theorem Off.mono {a b : World} {S S' : Nat → Prop} (h : Off a b S) (k : ∀ i, S i → S' i) : Off a b S' := ⟨h.os, h.tape, h.output, h.size, fun i hi hs => h.block i hi fun q => hs (k i q)⟩
theorem Off.of {a b : World} {S : Nat → Prop} (h : Below a.heap.size a b) : Off a b S := ⟨h.os, h.tape, h.output, h.size, fun i hi _ => h.block i hi⟩
abbrev IntsAt (w : World) (V : Value) (l : List Int) : Prop := w.ownsRow 0 3 1 V l.length (l.map (Value.int .i64))
theorem IntsAt.lt {w : World} {V : Value} {l : List Int} (h : IntsAt w V l) : ∀ b, V.ownBlock = some b → b < w.heap.size ∧ ∃ cur, w.heap[b]? = some (.cells cur 3 (0, 0)) := by
  intro b hb
  rcases h.2 with ⟨rfl, _⟩ | ⟨g, cap, cur, rfl, _, hg, _⟩
  · cases hb
  · cases hb
    exact ⟨(Array.getElem?_eq_some_iff.1 hg).1, cur, hg⟩
theorem IntsAt.keep {w w' : World} {V : Value} {l : List Int} (h : IntsAt w V l) (hk : ∀ b, V.ownBlock = some b → w'.heap[b]? = w.heap[b]?) : IntsAt w' V l := by
  refine ⟨h.1, ?_⟩
  rcases h.2 with q | ⟨g, cap, cur, rfl, hb, hg, rest⟩
  · exact .inl q
  · exact .inr ⟨g, cap, cur, rfl, hb, (hk g rfl).trans hg, rest⟩
theorem mark_ints (k : Nat) (l : List Int) (x : Int) (t : Int × List Int) (h : laws_markIntS.f k l x = some t) (w : World) (V : Value) (ho : IntsAt w V l) :
    Calls Try.prog 27 #[V, .int .i64 x] w fun e w' => e = .returned (.int .i64 t.1) ∧ IntsAt w' V t.2 ∧ t.2.length = l.length ∧ Off w w' (fun b => V.ownBlock = some b) := by
  have hV : ∃ a cap, V = .slice a l.length cap := by
    rcases ho.2 with ⟨rfl, h0⟩ | ⟨g, cap, cur, rfl, _⟩
    · exact ⟨none, 0, by rw [h0]⟩
    · exact ⟨_, _, rfl⟩
  obtain ⟨A, cap, rfl⟩ := hV
  have CS := laws_markIntS.ok k false (fun q => by cases q) (l, x) t h
  let M : Mp := ⟨fun _ => none, fun κ v => if κ = 0 ∧ v = 0 then some (.slice A l.length cap) else none, fun κ => if κ = 0 then some 1 else none⟩
  have at0 : ∀ κ o, lf [R.Obj.arr 3 0 (.I .i64 l) false] κ = some o → κ = 0 ∧ o = .arr 3 0 (.I .i64 l) false := fun κ o q => by
    match κ with
    | 0 => exact ⟨rfl, by simpa [lf] using q.symm⟩
    | κ + 1 => simp [lf] at q
  have hw0 : ∀ b, wrt M (lf [R.Obj.arr 3 0 (.I .i64 l) false]) b 0 ∨ True := fun b => .inr trivial
  have E : Entry w M okT [.sl 0 0, .int .i64 x] [.arr 3 0 (.I .i64 l) false] #[.slice A l.length cap, .int .i64 x] := {
    len := rfl
    args := fun i v V p q => by
      match i with
      | 0 => simp at p q; subst p; subst q; exact .sl 0 0 A l.length cap (by simp [M])
      | 1 => simp at p q; subst p; subst q; exact .closed (.int _ _)
      | i + 2 => simp at p
    objs := fun κ o q => by
      obtain ⟨rfl, rfl⟩ := at0 κ o q
      refine ⟨.slice A l.length cap, l.map (Value.int .i64), by simp [M], by simp [M, Ct.sz], ?_, fun i j hi hj => ?_⟩
      · have e : (Ct.I IntKind.i64 l).sz = 1 := rfl
        have e2 : (Ct.I IntKind.i64 l).len = l.length := rfl
        rw [e, e2]
        exact ownsZ_of ho
      · have hj0 : j = 0 := by have : (Ct.I IntKind.i64 l).sz = 1 := rfl; omega
        subst hj0
        have hi' : i < l.length := hi
        refine ⟨.int .i64 (l[i]), by simp [Ct.sz, hi'], ?_⟩
        have e3 : (Ct.I IntKind.i64 l).cell (i : Int) 0 = .int .i64 l[i] := by simp [Ct.cell, rdI, hi']
        rw [e3]
        exact .int _ _
    inj := fun κ κ' o o' b q q' _ _ => by
      rw [(at0 κ o q).1, (at0 κ' o' q').1]
    cur0 := fun κ o q => by
      obtain ⟨rfl, rfl⟩ := at0 κ o q
      rfl
    acell := fun κ ob b o _ _ _ => .inl trivial
    clean := fun κ hk => by
      have : κ ≠ 0 := by simp at hk; omega
      exact ⟨rfl, by simp [M, this], fun v => by simp [M, this]⟩
    clean1 := fun κ v hv => by
      have : v ≠ 0 := by omega
      simp [M, this]
    vers := fun κ v V q => by
      by_cases c : κ = 0 ∧ v = 0
      · simp only [M, c, and_self, if_true, Option.some.injEq] at q
        exact ⟨_, _, _, q.symm⟩
      · simp [M, c] at q }
  refine (CS.2 w M okT #[.slice A l.length cap, .int .i64 x] E).mono fun e w' => ?_
  rintro ⟨V', M1, rfl, R', hv⟩
  have hv : VR w' _ M1 (.int .i64 t.1) V' := hv
  have hl0 := R'.lent0 0 (by show (0 : Nat) < 1; omega)
  have ha : M1.a 0 0 = some (.slice A l.length cap) := by rw [hl0.2.2.1]; simp [Cx.call, M]
  obtain ⟨V2, xs, q1, q2, q3, q4⟩ := R'.objs 0 (.arr 3 0 (.I .i64 t.2) false) rfl
  rw [ha] at q1
  obtain rfl := Option.some.inj q1
  have q3 : ownsZ w' false 0 3 1 (.slice A l.length cap) t.2.length xs := q3
  have hp := q3.plain
  have hlen : t.2.length = l.length := by
    rcases hp.2 with ⟨e, h0⟩ | ⟨g, c, cur, e, _⟩
    · injection e with e1 e2 e3
      omega
    · injection e with e1 e2 e3
      omega
  have hxs : xs = t.2.map (Value.int .i64) := by
    apply List.ext_getElem?
    intro i
    by_cases hi : i < t.2.length
    · obtain ⟨v, y1, y2⟩ := q4 i 0 hi (by show (0 : Nat) < 1; omega)
      have y1 : xs[i * 1 + 0]? = some v := y1
      rw [Nat.mul_one, Nat.add_zero] at y1
      rw [y1]
      have e3 : (Ct.I IntKind.i64 t.2).cell (i : Int) 0 = .int .i64 t.2[i] := by simp [Ct.cell, rdI, hi]
      rw [e3] at y2
      have := (VR.closed (M := M1) y2).int_inv
      rw [this]; simp [hi]
    · rw [List.getElem?_eq_none (by rw [hp.1]; omega), List.getElem?_eq_none (by simpa using hi)]
  refine ⟨by rw [hv.int_inv], ?_, hlen, R'.os, R'.tape, R'.output, R'.size, fun b hb hn => R'.frame b hb ?_⟩
  · unfold IntsAt
    rw [← hxs]
    exact hp
  · rintro ⟨o, κ, ob, z1, z2, _⟩
    obtain ⟨rfl, rfl⟩ := at0 κ ob z1
    apply hn
    have z2 : (M.a 0 0).bind Value.ownBlock = some b := z2
    simpa [M] using z2
theorem mark_text (k : Nat) (x : Int) (t : ByteArray) (h : laws_markText.f k x = some t) (w : World) :
    Calls Try.prog 29 #[.int .i64 x] w fun e w' => e = .returned (.string t) ∧ Below w.heap.size w w' := by
  have CS := laws_markText.ok k false (fun q => by cases q) x t h
  refine (CS.2 w M0 _ #[.int .i64 x] (entry0 rfl (fun i v V p q => ?_))).mono fun e w' => ?_
  · match i with
    | 0 =>
      have p : [AV.int .i64 x][0]? = some v := p
      simp at p q; subst p; subst q; exact .closed (.int _ _)
    | i + 1 =>
      have p : [AV.int .i64 x][i + 1]? = some v := p
      simp at p
  · rintro ⟨V, M1, rfl, R', hv⟩
    have hv : VR w' _ M1 (.str t) V := hv
    exact ⟨by rw [hv.str_inv], R'.os, R'.tape, R'.output, R'.size, fun k hk => R'.frame k hk fun ⟨o, κ, ob, z, _⟩ => by simp [Cx.call, lf, laws_markText.tw] at z⟩
end Go.Proofs.Ytfgoojnblomonaa.V
end
section
set_option linter.unusedVariables false
set_option linter.unusedSimpArgs false
namespace Go.Proofs.Ytfgoojnblomonaa.V
open Go Go.Proofs.Ytfgoojnblomonaa.R Go.RowKit
open Go.Proofs.YtfgoojnblomonaaW.PrintWords Go.Proofs.YtfgoojnblomonaaW.PrintLast Go.Proofs.YtfgoojnblomonaaW.PrintMore
def laws_markElementS.l0 : Nat → List Elm → Int → Int → Option (Int × List Elm)
  | 0, _, _, _ => none
  | k + 1, y, x1, x5 => if x5 < (y.length : Int) then (if 0 ≤ x5 then (laws_markIntS.f k (rdE y x5).f1 (wrap64 (x1 + 1))).bind fun t => (laws_markText.f k t.1).bind fun s => laws_markElementS.l0 k (y.set x5.toNat ⟨x1, t.2, s⟩) (wrap64 (t.1 + 1)) (wrap64 (x5 + 1)) else none) else some (x1, y)
def laws_markElementS.f (k : Nat) (l : List Elm) (x : Int) : Option (Int × List Elm) := laws_markElementS.l0 k l x 0
def OutAt (w : World) (B cap n : Nat) (S : Nat → Value) (es : List Elm) : Prop :=
  es.length = n ∧ n ≤ cap ∧ cap ≤ maxLen ∧ ∃ cur, w.heap[B]? = some (.cells cur 49 (0, 0)) ∧ cur.size = cap * 3 ∧
    ∀ i e, es[i]? = some e → cur[i * 3]? = some (.int .i64 e.f0) ∧ cur[i * 3 + 1]? = some (S i) ∧ cur[i * 3 + 2]? = some (.string e.f2)
def InAt (w : World) (S : Nat → Value) (es : List Elm) : Prop := ∀ i e, es[i]? = some e → IntsAt w (S i) e.f1
def DJ (S : Nat → Value) (n : Nat) : Prop := ∀ i j b, i < n → j < n → (S i).ownBlock = some b → (S j).ownBlock = some b → i = j
def Blk (B : Nat) (S : Nat → Value) (n : Nat) (b : Nat) : Prop := b = B ∨ ∃ i, i < n ∧ (S i).ownBlock = some b
section
variable {w w' : World} {B cap n : Nat} {S : Nat → Value} {es : List Elm}
theorem OutAt.keep (h : OutAt w B cap n S es) (e : w'.heap[B]? = w.heap[B]?) : OutAt w' B cap n S es := by
  obtain ⟨h1, h2, h3, cur, h4, h5⟩ := h
  exact ⟨h1, h2, h3, cur, e.trans h4, h5⟩
theorem OutAt.lt (h : OutAt w B cap n S es) : B < w.heap.size := by
  obtain ⟨h1, h2, h3, cur, h4, h5⟩ := h
  exact (Array.getElem?_eq_some_iff.1 h4).1
theorem OutAt.ne (h : OutAt w B cap n S es) (k : InAt w S es) {i : Nat} (hi : i < es.length) : (S i).ownBlock ≠ some B := by
  intro q
  obtain ⟨_, cur, hc⟩ := (k i _ (List.getElem?_eq_getElem hi)).lt B q
  obtain ⟨h1, h2, h3, cur', h4, h5⟩ := h
  rw [hc] at h4
  simp at h4
theorem OutAt.cells (h : OutAt w B cap n S es) {i : Nat} {e : Elm} (he : es[i]? = some e) :
    w.cell? ⟨B, i * 3, none⟩ = some (.int .i64 e.f0) ∧ w.cell? ⟨B, i * 3 + 1, none⟩ = some (S i) ∧ w.cell? ⟨B, i * 3 + 2, none⟩ = some (.string e.f2) := by
  obtain ⟨h1, h2, h3, cur, h4, h5, h6⟩ := h
  obtain ⟨a, b, c⟩ := h6 i e he
  refine ⟨?_, ?_, ?_⟩ <;> (unfold World.cell?; simp only [h4]; assumption)
theorem OutAt.frozen (h : OutAt w B cap n S es) (o : Nat) : w.frozen? ⟨B, o, none⟩ = false := by
  obtain ⟨h1, h2, h3, cur, h4, h5, h6⟩ := h
  unfold World.frozen?
  simp [h4]
theorem setCell_at {cur : Array Value} {e : TypeId} {fz : Nat × Nat} (h : w.heap[B]? = some (.cells cur e fz)) (o : Nat) (v : Value) : (w.setCell ⟨B, o, none⟩ v).heap[B]? = some (.cells (cur.setIfInBounds o v) e fz) := by
  simp [World.setCell, Array.getElem?_modify, h]
theorem setCell_off (o : Nat) (v : Value) (b : Nat) (hb : b ≠ B) : (w.setCell ⟨B, o, none⟩ v).heap[b]? = w.heap[b]? := by
  simp [World.setCell, Array.getElem?_modify, Ne.symm hb]
theorem setCell_Off (o : Nat) (v : Value) {P : Nat → Prop} (hP : P B) : Off w (w.setCell ⟨B, o, none⟩ v) P :=
  ⟨by simp [World.setCell], by simp [World.setCell], by simp [World.setCell], by simp [World.setCell], fun b hb hn => setCell_off o v b fun q => hn (q ▸ hP)⟩
theorem OutAt.set0 (h : OutAt w B cap n S es) {i : Nat} {e : Elm} (he : es[i]? = some e) (x : Int) : OutAt (w.setCell ⟨B, i * 3, none⟩ (.int .i64 x)) B cap n S (es.set i ⟨x, e.f1, e.f2⟩) := by
  obtain ⟨h1, h2, h3, cur, h4, h5, h6⟩ := h
  have hil := (List.getElem?_eq_some_iff.1 he).1
  refine ⟨by simpa using h1, h2, h3, _, setCell_at h4 _ _, by simpa using h5, fun j e' q => ?_⟩
  rw [List.getElem?_set] at q
  by_cases c : i = j
  · subst c
    rw [if_pos rfl, if_pos hil] at q
    obtain rfl := Option.some.inj q
    obtain ⟨a1, a2, a3⟩ := h6 i e he
    refine ⟨?_, ?_, ?_⟩
    · rw [Array.getElem?_setIfInBounds_self_of_lt (by have := (Array.getElem?_eq_some_iff.1 a1).1; exact this)]
    · rw [Array.getElem?_setIfInBounds_ne (by omega)]; exact a2
    · rw [Array.getElem?_setIfInBounds_ne (by omega)]; exact a3
  · rw [if_neg c] at q
    obtain ⟨a1, a2, a3⟩ := h6 j e' q
    exact ⟨by rw [Array.getElem?_setIfInBounds_ne (by omega)]; exact a1, by rw [Array.getElem?_setIfInBounds_ne (by omega)]; exact a2, by rw [Array.getElem?_setIfInBounds_ne (by omega)]; exact a3⟩
theorem OutAt.set2 (h : OutAt w B cap n S es) {i : Nat} {e : Elm} (he : es[i]? = some e) (x : ByteArray) (l : List Int) : OutAt (w.setCell ⟨B, i * 3 + 2, none⟩ (.string x)) B cap n S (es.set i ⟨e.f0, l, x⟩) := by
  obtain ⟨h1, h2, h3, cur, h4, h5, h6⟩ := h
  have hil := (List.getElem?_eq_some_iff.1 he).1
  refine ⟨by simpa using h1, h2, h3, _, setCell_at h4 _ _, by simpa using h5, fun j e' q => ?_⟩
  rw [List.getElem?_set] at q
  by_cases c : i = j
  · subst c
    rw [if_pos rfl, if_pos hil] at q
    obtain rfl := Option.some.inj q
    obtain ⟨a1, a2, a3⟩ := h6 i e he
    refine ⟨?_, ?_, ?_⟩
    · rw [Array.getElem?_setIfInBounds_ne (by omega)]; exact a1
    · rw [Array.getElem?_setIfInBounds_ne (by omega)]; exact a2
    · rw [Array.getElem?_setIfInBounds_self_of_lt (by have := (Array.getElem?_eq_some_iff.1 a3).1; exact this)]
  · rw [if_neg c] at q
    obtain ⟨a1, a2, a3⟩ := h6 j e' q
    exact ⟨by rw [Array.getElem?_setIfInBounds_ne (by omega)]; exact a1, by rw [Array.getElem?_setIfInBounds_ne (by omega)]; exact a2, by rw [Array.getElem?_setIfInBounds_ne (by omega)]; exact a3⟩
end
set_option maxHeartbeats 4000000 in
set_option maxRecDepth 100000 in
theorem mark_elems (k : Nat) (l : List Elm) (x : Int) (r : Int × List Elm) (h : laws_markElementS.f k l x = some r) (w : World) (B cap : Nat) (S : Nat → Value) (ho : OutAt w B cap l.length S l) (hi : InAt w S l) (hd : DJ S l.length) :
    Calls Try.prog 11 #[.slice (some ⟨B, 0, none⟩) l.length cap, .int .i64 x] w fun e w' => e = .returned (.int .i64 r.1) ∧ OutAt w' B cap l.length S r.2 ∧ InAt w' S r.2 ∧ Off w w' (Blk B S l.length) := by
  have HO0 := Aside0.mk ho
  have HI0 := Aside0.mk hi
  have HD := Aside0.mk hd
  have H' := Aside0.mk (show laws_markElementS.l0 k l x 0 = some r from h)
  clear h ho hi hd
  go_enter Try.func11, Try.ntmps11
  go_wp2
  go_loopg [1, 5] k (fun kq v1 v5 w' => ∃ (y : List Elm) (x1 x5 : Int), v1 = .int .i64 x1 ∧ v5 = .int .i64 x5 ∧ Aside0 (laws_markElementS.l0 kq y x1 x5 = some r) ∧ Aside0 (kq ≤ k) ∧ Aside0 (OutAt w' B cap l.length S y) ∧ Aside0 (InAt w' S y) ∧ Aside0 (Off w w' (Blk B S l.length)))
  case atStart => exact ⟨l, x, 0, rfl, rfl, H', ⟨Nat.le_refl _⟩, HO0, HI0, ⟨Off.refl _ _⟩⟩
  case round =>
    clear H'
    obtain ⟨y, x1, x5, rfl, rfl, HA, HK1, HO, HI, HF⟩ := hrel
    cases gk with
    | zero => exact absurd HA.out (by simp [laws_markElementS.l0])
    | succ k1 =>
      have H := HA.out
      clear HA
      simp only [laws_markElementS.l0] at H
      have hyl : y.length = l.length := HO.out.1
      by_cases c3 : x5 < (y.length : Int)
      · rw [if_pos c3] at H
        by_cases c4 : 0 ≤ x5
        · rw [if_pos c4] at H
          obtain ⟨t, A1, H⟩ := Option.bind_eq_some_iff.mp H
          obtain ⟨s, A2, H⟩ := Option.bind_eq_some_iff.mp H
          have A1 := Aside0.mk A1
          have A2 := Aside0.mk A2
          have H := Aside0.mk H
          have hj : x5.toNat < y.length := by omega
          obtain ⟨e, he⟩ : ∃ e, y[x5.toNat]? = some e := ⟨_, List.getElem?_eq_getElem hj⟩
          have hre : rdE y x5 = e := by simp [rdE, he]
          rw [hre] at A1
          have c3b : decide (x5 < (l.length : Int)) = true := decide_eq_true (by omega)
          have p5 : (0 ≤ x5) = True := eq_true c4
          have q5 : (x5 < (l.length : Int)) = True := eq_true (by omega)
          obtain ⟨hc0, hc1, hc2⟩ := HO.out.cells he
          have hf0 := HO.out.frozen (x5.toNat * 3)
          clear c3 c4
          obtain ⟨w1, hw1⟩ : ∃ w1, w1 = wr.setCell ⟨B, x5.toNat * 3, none⟩ (.int .i64 x1) := ⟨_, rfl⟩
          have hinp : InAt wr S y := HI.out
          have hne : (S x5.toNat).ownBlock ≠ some B := HO.out.ne hinp hj
          have hneB : ∀ i e', y[i]? = some e' → ∀ b, (S i).ownBlock = some b → b ≠ B := fun i e' q b qb c => HO.out.ne hinp (List.getElem?_eq_some_iff.1 q).1 (c ▸ qb)
          have HO1 : OutAt w1 B cap l.length S (y.set x5.toNat ⟨x1, e.f1, e.f2⟩) := by rw [hw1]; exact HO.out.set0 he x1
          have HI1 : InAt w1 S y := fun i e' q => (hinp i e' q).keep fun b qb => by rw [hw1]; exact setCell_off _ _ _ (hneB i e' q b qb)
          have HF1 : Off w w1 (Blk B S l.length) := HF.out.trans (by rw [hw1]; exact setCell_Off _ _ (.inl rfl))
          have he1 : (y.set x5.toNat ⟨x1, e.f1, e.f2⟩)[x5.toNat]? = some ⟨x1, e.f1, e.f2⟩ := by simp [hj]
          obtain ⟨hd0, hd1, hd2⟩ := HO1.cells he1
          clear hc1 hc2
          have HO1 := Aside0.mk HO1
          have HI1 := Aside0.mk HI1
          have HF1 := Aside0.mk HF1
          subst hw1
          go_wp2_with fail
          refine (mark_ints k1 e.f1 (wrap64 (x1 + 1)) t A1.out _ (S x5.toNat) (HI1.out _ _ he)).mono ?_
          rintro e' w13 ⟨rfl, g1, g2, g3⟩
          have HG1 := Aside0.mk g1
          have HG2 := Aside0.mk g2
          have HG3 := Aside0.mk g3
          clear g1 g2 g3 hd0 hd1 hd2
          go_wp2_with fail
          refine (mark_text k1 t.1 s A2.out _).mono ?_
          rintro e' w14 ⟨rfl, g1⟩
          have HT := Aside0.mk g1
          clear g1
          have HO2 : OutAt w14 B cap l.length S (y.set x5.toNat ⟨x1, e.f1, e.f2⟩) := (HO1.out.keep (HG3.out.block B HO1.out.lt hne)).keep (HT.out.block B (Nat.lt_of_lt_of_le HO1.out.lt HG3.out.size))
          have hf2 := HO2.frozen (x5.toNat * 3 + 2)
          obtain ⟨hg0, hg1, hg2⟩ := HO2.cells he1
          have HO2 := Aside0.mk HO2
          go_wp2_with fail
          go_roundg k1
          case measure => have := HK1.out; omega
          case rel =>
            have hilt : ∀ i e', y[i]? = some e' → ∀ b, (S i).ownBlock = some b → b < (wr.setCell ⟨B, x5.toNat * 3, none⟩ (.int .i64 x1)).heap.size := fun i e' q b qb => ((HI1.out i e' q).lt b qb).1
            refine ⟨_, _, _, rfl, rfl, H, ⟨by have := HK1.out; omega⟩, ⟨?_⟩, ⟨?_⟩, ⟨?_⟩⟩
            · have := HO2.out.set2 he1 s t.2
              simpa using this
            · intro i e' q
              rw [List.getElem?_set] at q
              by_cases c : x5.toNat = i
              · subst c
                rw [if_pos rfl, if_pos hj] at q
                obtain rfl := Option.some.inj q
                refine HG1.out.keep fun b qb => ?_
                have hb := hilt _ _ he b qb
                rw [setCell_off _ _ _ (hneB _ _ he b qb)]
                exact HT.out.block b (Nat.lt_of_lt_of_le hb HG3.out.size)
              · rw [if_neg c] at q
                refine (HI1.out i e' q).keep fun b qb => ?_
                have hb := hilt i e' q b qb
                rw [setCell_off _ _ _ (hneB i e' q b qb)]
                refine (HT.out.block b (Nat.lt_of_lt_of_le hb HG3.out.size)).trans (HG3.out.block b hb fun z => ?_)
                exact c (HD.out _ _ b (by omega) (by have := (List.getElem?_eq_some_iff.1 q).1; omega) z qb)
            · refine (HF1.out.trans (HG3.out.mono fun b z => .inr ⟨_, by omega, z⟩)).trans ((Off.of HT.out).trans (setCell_Off _ _ (.inl rfl)))
        · rw [if_neg c4] at H
          cases H
      · rw [if_neg c3] at H
        obtain rfl := Option.some.inj H
        have c3b : decide (x5 < (l.length : Int)) = false := decide_eq_false (by omega)
        go_wp2
        go_ret
        exact ⟨rfl, HO.out, HI.out, HF.out⟩
end Go.Proofs.Ytfgoojnblomonaa.V
end
section
set_option linter.unusedVariables false
set_option linter.unusedSimpArgs false
namespace Go.Proofs.Ytfgoojnblomonaa.V
open Go Go.Proofs.Ytfgoojnblomonaa.R Go.RowKit
def OutV (w : World) (V : Value) (S : Nat → Value) (es : List Elm) : Prop :=
  (V = .slice none 0 0 ∧ es = []) ∨ ∃ B cap, V = .slice (some ⟨B, 0, none⟩) es.length cap ∧ OutAt w B cap es.length S es
def BlkV (V : Value) (S : Nat → Value) (n : Nat) (b : Nat) : Prop := V.ownBlock = some b ∨ ∃ i, i < n ∧ (S i).ownBlock = some b
theorem row_ints {w : World} {ok : Okk} {l : List Int} {V : Value} (h : CR w ok (.row (.I .i64 l)) V) : IntsAt w V l ∧ ∀ b, V.ownBlock = some b → ok.g b := by
  obtain ⟨A, cap, hs, hcap, ha, hcell⟩ := h.row_imm.imm_at
  have hlen : (Ct.I IntKind.i64 l).len = l.length := rfl
  have hsz : (Ct.I IntKind.i64 l).sz = 1 := rfl
  rw [hlen] at hs hcap ha
  rcases h.row_nice with e | ⟨b, n, cap', cur, e, hg, hh, h1, h2, h3⟩
  · rw [e] at hs
    injection hs with e1 e2 e3
    have : l = [] := List.eq_nil_of_length_eq_zero e2.symm
    subst this
    refine ⟨⟨by simp, .inl ⟨e, rfl⟩⟩, fun b q => ?_⟩
    rw [e] at q; cases q
  · rw [e] at hs
    injection hs with e1 e2 e3
    subst e1; subst e3
    obtain rfl : n = l.length := e2
    refine ⟨⟨by simp, .inr ⟨b, cap', cur, e, Nat.zero_le _, hh, h2, h3, by omega, ?_⟩⟩, fun b' q => ?_⟩
    · apply List.ext_getElem?
      intro i
      by_cases hi : i < l.length
      · obtain ⟨v, q1, _, q2⟩ := hcell b 0 rfl i 0 hi (by rw [hsz]; omega)
        rw [hsz] at q1
        have e3 : (Ct.I IntKind.i64 l).cell (i : Int) 0 = .int .i64 l[i] := by simp [Ct.cell, rdI, hi]
        rw [e3] at q2
        have hv := (VR.closed (M := M0) q2).int_inv
        unfold World.cell? at q1
        simp only [hh] at q1
        have q1 : cur[0 + (i * 1 + 0)]? = some v := q1
        rw [show 0 + (i * 1 + 0) = i by omega, hv] at q1
        rw [List.getElem?_take, if_pos (by omega), Array.getElem?_toList, q1]
        simp [hi]
      · rw [List.getElem?_eq_none (by rw [List.length_take]; omega), List.getElem?_eq_none (by simpa using hi)]
    · rw [e] at q
      cases q
      exact hg
theorem dj_of {w : World} {S : Nat → Value} {es : List Elm} (hi : InAt w S es) (hl : ∀ (i j : Nat) (x y : Elm), es[i]? = some x → es[j]? = some y → x.f1.length = y.f1.length) (hne : ∀ (i j : Nat) (x y : Elm), es[i]? = some x → es[j]? = some y → x.f1 = y.f1 → i = j) : DJ S es.length := by
  intro i j b h1 h2 q1 q2
  have x1 := List.getElem?_eq_getElem h1
  have x2 := List.getElem?_eq_getElem h2
  refine hne i j _ _ x1 x2 ?_
  have hL := hl i j _ _ x1 x2
  have y1 := hi i _ x1
  have y2 := hi j _ x2
  rcases y1.2 with ⟨e, _⟩ | ⟨g, cap, cur, e, _, hg, _, _, _, ht⟩
  · rw [e] at q1; cases q1
  rcases y2.2 with ⟨e', _⟩ | ⟨g', cap', cur', e', _, hg', _, _, _, ht'⟩
  · rw [e'] at q2; cases q2
  rw [e] at q1; cases q1
  rw [e'] at q2; cases q2
  rw [hg] at hg'
  injection hg' with hg'
  injection hg' with hc
  subst hc
  rw [hL, ht'] at ht
  have inj : ∀ a b : List Int, a.map (Value.int .i64) = b.map (Value.int .i64) → a = b := by
    intro a
    induction a with
    | nil => intro b h; cases b with
      | nil => rfl
      | cons _ _ => simp at h
    | cons x a ih => intro b h; cases b with
      | nil => simp at h
      | cons y b =>
        simp only [List.map_cons, List.cons.injEq, Value.int.injEq, true_and] at h
        rw [h.1, ih b h.2]
  exact (inj _ _ ht).symm
def okC : Okk := ⟨fun _ _ => True, fun _ => False⟩
theorem entryC {w : World} {args : List AV} {vs : Array Value} (hl : args.length = vs.size) (ha : ∀ (i : Nat) (v : AV) (V : Value), args[i]? = some v → vs[i]? = some V → VR w okC M0 v V) : Entry w M0 okC args [] vs where
  len := hl
  args := fun i v V p q => (ha i v V p q).mono (ok' := (Cx.call false w M0 okC []).ok M0 (lf [])) ⟨fun b o V _ hc => ⟨hc, fun ⟨κ, ob, z, _⟩ => by simp [lf] at z, fun _ => .inl trivial⟩, fun b q => .inl q, Gr.refl w⟩ (Mp.le_refl _)
  objs := fun κ o q => by simp [lf] at q
  inj := fun κ κ' o o' b q => by simp [lf] at q
  cur0 := fun κ o q => by simp [lf] at q
  acell := fun κ ob b o q => by simp [lf] at q
  clean := fun κ _ => ⟨rfl, rfl, fun _ => rfl⟩
  clean1 := fun κ v _ => rfl
  vers := fun κ v V q => by cases q
theorem elm_row {w : World} {ok : Okk} {M : Mp} {κ : Nat} {ao : Bool} {es : List Elm} (h : OR w ok M κ (.arr 49 0 (.E es) ao)) : ∃ V S, M.a κ 0 = some V ∧ OutV w V S es ∧ InAt w S es ∧ ∀ i b, i < es.length → (S i).ownBlock = some b → ok.g b := by
  obtain ⟨V, xs, h1, h2, h3, h4⟩ := h
  have hB : isB (Ct.E es) = false := rfl
  have h3 : w.ownsRow 0 49 3 V es.length xs := ownsZ.plain h3
  have h4 : ∀ i j, i < es.length → j < 3 → ∃ v, xs[i * 3 + j]? = some v ∧ CR w ok ((Ct.E es).cell (i : Int) j) v := h4
  have cell : ∀ i e, es[i]? = some e → xs[i * 3]? = some (.int .i64 e.f0) ∧ xs[i * 3 + 2]? = some (.string e.f2) ∧ CR w ok (.row (.I .i64 e.f1)) (xs.getD (i * 3 + 1) undef) ∧ xs[i * 3 + 1]? = some (xs.getD (i * 3 + 1) undef) := by
    intro i e he
    have hi := (List.getElem?_eq_some_iff.1 he).1
    have hr : rdE es (i : Int) = e := by simp [rdE, he]
    obtain ⟨v0, a0, b0⟩ := h4 i 0 hi (by omega)
    obtain ⟨v1, a1, b1⟩ := h4 i 1 hi (by omega)
    obtain ⟨v2, a2, b2⟩ := h4 i 2 hi (by omega)
    simp only [Ct.cell, hr] at b0 b1 b2
    rw [Nat.add_zero, (VR.closed (M := M0) b0).int_inv] at a0
    rw [(VR.closed (M := M0) b2).str_inv] at a2
    have e1 : xs.getD (i * 3 + 1) undef = v1 := by rw [List.getD_eq_getElem?_getD, a1]; rfl
    rw [e1]
    exact ⟨a0, a2, b1, a1⟩
  refine ⟨V, fun i => xs.getD (i * 3 + 1) undef, h1, ?_, fun i e he => (row_ints (cell i e he).2.2.1).1, fun i b hi hb => (row_ints (cell i _ (List.getElem?_eq_getElem hi)).2.2.1).2 b hb⟩
  rcases h3.2 with ⟨e, h0⟩ | ⟨g, cap, cur, e, _, hg, hn, hm, hs, ht⟩
  · exact .inl ⟨e, List.eq_nil_of_length_eq_zero h0⟩
  · refine .inr ⟨g, cap, e, rfl, hn, hm, cur, hg, hs, fun i e he => ?_⟩
    have hi := (List.getElem?_eq_some_iff.1 he).1
    obtain ⟨c0, c2, _, c1⟩ := cell i e he
    have at_ : ∀ j, j < 3 → xs[i * 3 + j]? = cur[i * 3 + j]? := fun j hj => by
      rw [← ht, List.getElem?_take, if_pos (by omega), Array.getElem?_toList]
    exact ⟨(at_ 0 (by omega)).symm.trans c0, (at_ 1 (by omega)).symm.trans c1, (at_ 2 (by omega)).symm.trans c2⟩
theorem we_calls (k : Nat) (a : Int) (s f : List Int) (t : List Stp) (r : List Elm × Bool) (h : impl_WordElements.f k a s f t = some r) (w : World) (V : Value) (hv : VR w okC M0 (.agg [.int .i64 a, .imm (.I .i64 s), .imm (.I .i64 f), .imm (.T t)]) V) :
    Calls Try.prog 7 #[V] w fun e w' => ∃ VL S, e = .returned (.tuple #[VL, .bool r.2]) ∧ Below w.heap.size w w' ∧ OutV w' VL S r.1 ∧ InAt w' S r.1 ∧ ∀ b, BlkV VL S r.1.length b → w.heap.size ≤ b := by
  have CS := impl_WordElements.ok k false (fun q => by cases q) (a, s, f, t) r h
  have CS : CallSpec false Try.prog 7 [.agg [.int .i64 a, .imm (.I .i64 s), .imm (.I .i64 f), .imm (.T t)]] [] (.tup [.sl 0 0, .lit r.2]) [.arr 49 0 (.E r.1) false] := CS
  refine (CS.2 w M0 okC #[V] (entryC rfl (fun i v W p q => ?_))).mono fun e w' => ?_
  · match i with
    | 0 => simp at p q; subst p; subst q; exact hv
    | i + 1 => simp at p
  · rintro ⟨V', M1, rfl, R, hv'⟩
    obtain ⟨vs, rfl, hl, hh⟩ := hv'.tup_inv
    have hl : 2 = vs.size := hl
    have g0 : ∀ {V}, vs[0]? = some V → ∃ a n cap, M1.a 0 0 = some (.slice a n cap) ∧ V = .slice a n cap := fun q => (hh 0 _ _ rfl q).sl_inv
    obtain ⟨V0, hV0⟩ : ∃ V0, vs[0]? = some V0 := ⟨vs[0]'(by omega), Array.getElem?_eq_getElem _⟩
    have hvs : vs = #[V0, .bool r.2] := two_of hl (fun q => Option.some.inj (q.symm.trans hV0)) (fun q => (hh 1 _ _ rfl q).lit_inv)
    obtain ⟨A, n, cap, ha, rfl⟩ := g0 hV0
    obtain ⟨VL, S, q1, q2, q3, q4⟩ := elm_row (R.objs 0 _ rfl)
    rw [ha] at q1
    obtain rfl := Option.some.inj q1
    have nolent : ∀ b, ¬ (Cx.call false w M0 okC []).lent b := fun b ⟨o, κ, ob, z, _⟩ => by simp [lf] at z
    have nomut : ∀ b o, ¬ (Cx.call false w M0 okC []).mut0 b o := fun b o ⟨κ, ob, z, _⟩ => by simp [lf] at z
    refine ⟨_, S, by rw [hvs], ⟨R.os, R.tape, R.output, R.size, fun b hb => R.frame b hb (nolent b)⟩, q2, q3, fun b hb => ?_⟩
    rcases hb with hb | ⟨i, hi, hb⟩
    · apply Classical.byContradiction
      intro hlt
      have hlt : b < w.heap.size := by omega
      refine nomut b 0 (R.mold b 0 hlt ⟨0, _, rfl, ?_, .inl rfl⟩)
      show (M1.a 0 0).bind Value.ownBlock = some b
      rw [ha]
      exact hb
    · rcases q4 i b hi hb with z | z | z
      · cases z
      · exact z
      · exact absurd z (nolent b)
end Go.Proofs.Ytfgoojnblomonaa.V
end
section
set_option linter.unusedVariables false
set_option linter.unusedSimpArgs false
namespace Go.Proofs.Ytfgoojnblomonaa.V
open Go Go.Proofs.Ytfgoojnblomonaa.R Go.RowKit
theorem mark_nil (k : Nat) (x : Int) (r : Int × List Elm) (h : laws_markElementS.f k [] x = some r) (w : World) :
    Calls Try.prog 11 #[.slice none 0 0, .int .i64 x] w fun e w' => e = .returned (.int .i64 r.1) ∧ r.2 = [] ∧ w' = w := by
  have hr : r = (x, []) := by
    unfold laws_markElementS.f at h
    cases k with
    | zero => cases h
    | succ k => simp only [laws_markElementS.l0] at h; rw [if_neg (by simp)] at h; exact (Option.some.inj h).symm
  subst hr
  clear h
  go_enter Try.func11, Try.ntmps11
  go_wp2
  go_loopg [1, 5] 0 (fun kq v1 v5 w' => v1 = .int .i64 x ∧ v5 = .int .i64 0 ∧ w' = w)
  case atStart => exact ⟨rfl, rfl, rfl⟩
  case round =>
    obtain ⟨rfl, rfl, rfl⟩ := hrel
    go_wp2
    go_ret
    refine ⟨?_, ?_, ?_⟩ <;> first | trivial | rfl
theorem OutAt.gr {w w' : World} {B cap n : Nat} {S : Nat → Value} {es es' : List Elm} (h : OutAt w B cap n S es) (h' : OutAt w' B cap n S es') {cur : Array Value} {e : TypeId} (q : w.heap[B]? = some (.cells cur e (0, 0))) : ∃ cur' : Array Value, w'.heap[B]? = some (.cells cur' e (0, 0)) ∧ cur'.size = cur.size := by
  obtain ⟨_, _, _, c, h1, h2, _⟩ := h
  obtain ⟨_, _, _, c', h1', h2', _⟩ := h'
  rw [h1] at q
  cases q
  exact ⟨c', h1', h2'.trans h2.symm⟩
theorem IntsAt.gr {w w' : World} {V : Value} {l l' : List Int} (h : IntsAt w V l) (h' : IntsAt w' V l') {b : Nat} (hb : V.ownBlock = some b) {cur : Array Value} {e : TypeId} (q : w.heap[b]? = some (.cells cur e (0, 0))) : ∃ cur' : Array Value, w'.heap[b]? = some (.cells cur' e (0, 0)) ∧ cur'.size = cur.size := by
  rcases h.2 with ⟨e, _⟩ | ⟨g, cap, c, e1, _, h1, _, _, h2, _⟩
  · rw [e] at hb; cases hb
  rcases h'.2 with ⟨e, _⟩ | ⟨g', cap', c', e1', _, h1', _, _, h2', _⟩
  · rw [e] at hb; cases hb
  have e2 := e1.symm.trans e1'
  injection e2 with a1 a2 a3
  injection a1 with a1
  injection a1 with a1
  rw [e1] at hb
  cases hb
  subst a1
  rw [h1] at q
  cases q
  exact ⟨c', h1', by omega⟩
theorem mark_V (k : Nat) (l : List Elm) (x : Int) (r : Int × List Elm) (h : laws_markElementS.f k l x = some r) (w : World) (V : Value) (S : Nat → Value) (ho : OutV w V S l) (hi : InAt w S l) (hd : DJ S l.length) :
    Calls Try.prog 11 #[V, .int .i64 x] w fun e w' => e = .returned (.int .i64 r.1) ∧ r.2.length = l.length ∧ OutV w' V S r.2 ∧ InAt w' S r.2 ∧ Off w w' (BlkV V S l.length) ∧ Gr w w' := by
  rcases ho with ⟨rfl, rfl⟩ | ⟨B, cap, rfl, ho⟩
  · refine (mark_nil k x r h w).mono fun e w' => ?_
    rintro ⟨rfl, h2, rfl⟩
    rw [h2]
    exact ⟨rfl, rfl, .inl ⟨rfl, rfl⟩, fun i e q => by simp at q, Off.refl _ _, Gr.refl _⟩
  · refine (mark_elems k l x r h w B cap S ho hi hd).mono fun e w' => ?_
    rintro ⟨rfl, h2, h3, h4⟩
    refine ⟨rfl, h2.1, .inr ⟨B, cap, by rw [h2.1], by rw [h2.1]; exact h2⟩, h3, ?_, ?_⟩
    · refine h4.mono fun b q => ?_
      rcases q with rfl | q
      · exact .inl rfl
      · exact .inr q
    · intro b cur e q
      by_cases c : Blk B S l.length b
      · rcases c with rfl | ⟨i, hil, hb⟩
        · exact ho.gr h2 q
        · exact (hi i _ (List.getElem?_eq_getElem hil)).gr (h3 i _ (List.getElem?_eq_getElem (by rw [h2.1]; exact hil))) hb q
      · exact ⟨cur, (h4.block b (Array.getElem?_eq_some_iff.1 q).1 c).trans q, rfl⟩
section
variable {P : Program} {ops : Array Oper} {Q : Exit → Act → World → Prop} {i : Nat} {rest : List Nat} {a : Act} {w : World} {o : Oper}
theorem ops_val {V : Value} (ho : ops[i]? = some o) (hg : o.guard = none) (hr : (execOp a.eval o).run P w = .ok (.value V) w) (h : wpOps P ops Q rest (a.put o.dst V) w) : wpOps P ops Q (i :: rest) a w := by
  simp only [wpOps, ho]
  rw [if_pos (by unfold Region.wanted; rw [hg])]
  left
  unfold Oper.wp
  rw [hr]
  exact h
theorem ops_call {f : FuncId} {args : Array Value} (ho : ops[i]? = some o) (hg : o.guard = none) (hr : (execOp a.eval o).run P w = .ok (.enter f args) w) (h : Calls P f args w fun e w' => ∃ V, e = .returned V ∧ wpOps P ops Q rest (a.put o.dst V) w') : wpOps P ops Q (i :: rest) a w := by
  simp only [wpOps, ho]
  rw [if_pos (by unfold Region.wanted; rw [hg])]
  left
  unfold Oper.wp
  rw [hr, Oper.upon_enter]
  refine h.mono fun e w' => ?_
  rintro ⟨V, rfl, hw⟩
  exact hw
theorem eval_tmp (t : Nat) : a.eval (.tmp t) = a.tmps.getD t undef := rfl
theorem get_put_eq {t : Nat} {V : Value} (h : t < a.tmps.size) : (a.put (some t) V).tmps.getD t undef = V := by
  simp [Act.put, Array.getD, h]
theorem get_put_ne {t u : Nat} {V : Value} (h : u ≠ t) : (a.put (some t) V).tmps.getD u undef = a.tmps.getD u undef := by
  simp only [Act.put, Array.getD_eq_getD_getElem?]
  rw [Array.getElem?_setIfInBounds_ne (fun q => h q.symm)]
theorem size_put {t : Nat} {V : Value} : (a.put (some t) V).tmps.size = a.tmps.size := by simp [Act.put]
theorem defers_put {t : Nat} {V : Value} : (a.put (some t) V).defers = a.defers := rfl
end
end Go.Proofs.Ytfgoojnblomonaa.V
end
section
set_option linter.unusedVariables false
set_option linter.unusedSimpArgs false
namespace Go.Proofs.Ytfgoojnblomonaa.V
open Go Go.Proofs.Ytfgoojnblomonaa.R Go.RowKit
def QL (w1 : World) (a : Act) (w' : World) : Prop := a.defers = [] ∧ (results Try.f3 a.tmps).run Try.prog w' = .ok (.bool true) w' ∧ Below w1.heap.size w1 w'
theorem below_rel' {w1 w w' : World} {M M1 : Mp} {hc : List R.Obj} {F : Nat → Prop} {t : Nat → AV} {h : Nat → Option R.Obj} {a : Array Value} (R : Rel (Cx.call false w M okT hc) F M1 t h a w') (hb : Below w1.heap.size w1 w)
    (hl : ∀ κ o b, lf hc κ = some o → blkO M κ o = some b → w1.heap.size ≤ b) : Below w1.heap.size w1 w' :=
  ⟨R.os.trans hb.os, R.tape.trans hb.tape, R.output.trans hb.output, Nat.le_trans hb.size R.size, fun b q => (R.frame b (Nat.lt_of_lt_of_le q hb.size) fun ⟨o, κ, ob, z1, z2, _⟩ => by have := hl κ ob b z1 z2; omega).trans (hb.block b q)⟩
abbrev hcA (a : Int) (s f : List Int) (t : List Stp) (ws : List Elm) (a' : Int) (s' f' : List Int) (t' : List Stp) (gs : List Elm) : List R.Obj :=
  [.box true [.int .i64 a, .imm (.I .i64 s), .imm (.I .i64 f), .imm (.T t)], .arr 49 0 (.E ws) true, .box false [.int .i64 a', .sl 3 0, .sl 4 0, .sl 5 0], .arr 3 0 (.I .i64 s') false, .arr 3 0 (.I .i64 f') false, .arr 69 0 (.T t') false, .arr 49 0 (.E gs) true]
abbrev hcB (a : Int) (s f : List Int) (t : List Stp) (ws ms : List Elm) : List R.Obj :=
  [.box true [.int .i64 a, .imm (.I .i64 s), .imm (.I .i64 f), .imm (.T t)], .arr 49 0 (.E ws) true, .arr 49 0 (.E ms) true]
structure PF (k : Nat) (a : Int) (s f : List Int) (t : List Stp) (ws : List Elm) (ok : Bool) (ma : Int × List Int × List Int × List Stp) (ms : Int × List Elm) : Prop where
  toA : laws_toAutomaton.f k a s f t = some (a, s, f, t)
  spec : spec_WordElements.f k a s f t = some (ws, ok)
  impl : impl_WordElements.f k a s f t = some (ws, ok)
  eqE : laws_eqElementS.f k ws ws = some true
  eqA : laws_eqAutomaton.f k a s f t a s f t = some true
  markA : laws_markAutomaton.f k a s f t 1 = some ma
  markA0 : ¬ ma.1 < 0
  mark : laws_markElementS.f k ws 1 = some ms
  held : laws_heldElementS.f k ms.2 1 = some ms.1
  held0 : ¬ ms.1 < 0
  len : ∀ (i j : Nat) (x y : Elm), ws[i]? = some x → ws[j]? = some y → x.f1.length = y.f1.length
  ne : ∀ (i j : Nat) (x y : Elm), ws[i]? = some x → ws[j]? = some y → x.f1 = y.f1 → i = j
section
variable {k : Nat} {a : Int} {s f : List Int} {t : List Stp} {ws : List Elm} {ok : Bool} {ma : Int × List Int × List Int × List Stp} {ms : Int × List Elm} (pf : PF k a s f t ws ok ma ms)
include pf
theorem goodB {w1 w : World} {M : Mp} (hb : Below w1.heap.size w1 w) (hl : ∀ κ o b, lf (hcB a s f t ws ms.2) κ = some o → blkO M κ o = some b → w1.heap.size ≤ b) :
    GoodQ (QL w1) Try.prog (Cx.call false w M okT (hcB a s f t ws ms.2)) Try.f3 (R.point Try.f3 17).tail (lwB.s0 ok ms.1 a s f t ws ms.2) := by
  refine seg_soundQ (fh := lwB.fh) (H := xhn) (regSound _ _) (res := (.lit true, hcB a s f t ws ms.2)) ?_ (lwB.Oo k) (nxt := fun _ _ => none) (fun _ _ q => by cases q) _ _ _ ((lwB.e k _ _ _ _ _ _ _ _ _).trans ?_)
  · rintro a' w' ⟨hd, V, M1, x2, R, hv⟩
    obtain rfl := VR.lit_inv (show VR w' _ M1 (.lit true) V from hv)
    exact ⟨hd, x2, below_rel' R hb hl⟩
  · simp only [pf.held, pf.toA, pf.impl, pf.eqE, Option.bind_some, if_neg pf.held0, if_true, bne_self_eq_false, Bool.false_eq_true, if_false]
theorem goodA {w1 w : World} {M : Mp} (hn : GoodQ (QL w1) Try.prog (Cx.call false w M okT (hcA a s f t ws a s f t ws)) Try.f3 (R.point Try.f3 17) (lwA.s17 ws ok ws a s f t a ma.2.1 ma.2.2.1 ma.2.2.2)) :
    GoodQ (QL w1) Try.prog (Cx.call false w M okT (hcA a s f t ws a s f t ws)) Try.f3 (R.point Try.f3 7).tail (lwA.s0 ok ok a s f t ws a s f t ws) := by
  refine seg_soundQ (fh := lwA.fh) (H := xhn) (regSound _ _) (res := (.dead, [])) ?_ (lwA.Oo k) (nxt := nx1 (R.point Try.f3 17) (lwA.s17 ws ok ws a s f t a ma.2.1 ma.2.2.1 ma.2.2.2) (.dead, [])) (nx1_good hn) _ _ _ ((lwA.e k _ _ _ _ _ _ _ _ _ _ _ _ _).trans ?_)
  · rintro a' w' ⟨hd, V, M1, x2, R, hv⟩
    obtain ⟨⟨o, q⟩, _⟩ := R.lent0 0 (by show (0 : Nat) < 7; omega)
    simp [lf] at q
  · simp only [pf.eqE, pf.toA, pf.eqA, pf.markA, Option.bind_some, if_neg pf.markA0, if_true, bne_self_eq_false, Bool.false_eq_true, if_false, nx1_self]
end
end Go.Proofs.Ytfgoojnblomonaa.V
end
section
set_option linter.unusedVariables false
set_option linter.unusedSimpArgs false
namespace Go.Proofs.Ytfgoojnblomonaa.V
open Go Go.Proofs.Ytfgoojnblomonaa.R Go.RowKit
theorem ints_row {w : World} {ok : Okk} {V : Value} {l : List Int} (h : IntsAt w V l) (hc : ∀ b o, V.ownBlock = some b → ok.c b o) (hg : ∀ b, V.ownBlock = some b → ok.g b) : CR w ok (.row (.I .i64 l)) V := by
  have hlen : (Ct.I IntKind.i64 l).len = l.length := rfl
  have hsz : (Ct.I IntKind.i64 l).sz = 1 := rfl
  rcases h.2 with ⟨rfl, h0⟩ | ⟨b, cap, cur, rfl, _, hh, hn, hm, hs, ht⟩
  · refine .row _ _ ?_ (.inl rfl)
    have := CR.imm_of (w := w) (ok := ok) (c := .I .i64 l) (a := none) (cap := 0) (by rw [hlen]; omega) (fun q => by rw [hlen] at q; omega) (fun b o e => by cases e)
    rw [hlen, h0] at this
    exact this
  · refine .row _ _ ?_ (.inr ⟨b, _, _, cur, rfl, hg b rfl, hh, by omega, hn, hm⟩)
    refine CR.imm_of (c := .I .i64 l) (by rw [hlen]; exact hn) (fun _ => ⟨b, 0, rfl⟩) (fun b' o' e i j hi hj => ?_)
    cases e
    rw [hlen] at hi
    rw [hsz] at hj
    have hj0 : j = 0 := by omega
    subst hj0
    refine ⟨.int .i64 l[i], ?_, hc b _ rfl, ?_⟩
    · unfold World.cell?
      simp only [hh]
      show cur[0 + (i * 1 + 0)]? = _
      have := congrArg (fun z => z[i]?) ht
      simp only [List.getElem?_take, List.getElem?_map] at this
      rw [if_pos (by omega), Array.getElem?_toList] at this
      rw [show 0 + (i * 1 + 0) = i by omega, this]
      simp [hi]
    · have e3 : (Ct.I IntKind.i64 l).cell (i : Int) 0 = .int .i64 l[i] := by simp [Ct.cell, rdI, hi]
      rw [e3]
      exact .int _ _
theorem out_OR {w : World} {ok : Okk} {M : Mp} {κ : Nat} {V : Value} {S : Nat → Value} {es : List Elm} {ao : Bool} (h : OutV w V S es) (h1 : M.a κ 0 = some V) (h2 : M.s κ = some 3) (h3 : ∀ i e, es[i]? = some e → CR w ok (.row (.I .i64 e.f1)) (S i)) : OR w ok M κ (.arr 49 0 (.E es) ao) := by
  rcases h with ⟨rfl, rfl⟩ | ⟨B, cap, rfl, ho⟩
  · exact ⟨_, [], h1, h2, ownsZ_nil _ _ _ _ _, fun i j hi => by cases hi⟩
  · obtain ⟨_, hn, hm, cur, hh, hs, hc⟩ := ho
    refine ⟨_, cur.toList.take (es.length * 3), h1, h2, ⟨?_, .inr ⟨B, cap, cur, rfl, Nat.zero_le _, .of hh, hn, hm, hs, rfl⟩⟩, fun i j hi hj => ?_⟩
    · have e1 : (Ct.E es).len = es.length := rfl
      have e2 : (Ct.E es).sz = 3 := rfl
      have e3 : cur.toList.length = cur.size := Array.length_toList
      rw [List.length_take, e1, e2]
      omega
    · have hi : i < es.length := hi
      have hj : j < 3 := hj
      have he := List.getElem?_eq_getElem hi
      obtain ⟨c0, c1, c2⟩ := hc i _ he
      have hr : rdE es (i : Int) = es[i] := by simp [rdE, hi]
      have at_ : (cur.toList.take (es.length * 3))[i * 3 + j]? = cur[i * 3 + j]? := by
        rw [List.getElem?_take, if_pos (by omega), Array.getElem?_toList]
      show ∃ v, (cur.toList.take (es.length * 3))[i * 3 + j]? = some v ∧ CR w ok ((Ct.E es).cell (i : Int) j) v
      rw [at_]
      match j, hj with
      | 0, _ => exact ⟨_, c0, by simp only [Ct.cell, hr]; exact .int _ _⟩
      | 1, _ => exact ⟨_, c1, by simp only [Ct.cell, hr]; exact h3 i _ he⟩
      | 2, _ => exact ⟨_, c2, by simp only [Ct.cell, hr]; exact .str _⟩
theorem outV_keep {w w' : World} {ok : Okk} {M : Mp} {κ : Nat} {V : Value} {S : Nat → Value} {es : List Elm} {ao : Bool} (h : OutV w V S es) (ho : OR w' ok M κ (.arr 49 0 (.E es) ao)) (h1 : M.a κ 0 = some V) (hk : ∀ b o W, V.ownBlock = some b → o < es.length * 3 → w.cell? ⟨b, o, none⟩ = some W → w'.cell? ⟨b, o, none⟩ = some W) : OutV w' V S es := by
  rcases h with h | ⟨B, cap, rfl, hO⟩
  · exact .inl h
  · obtain ⟨V', xs, q1, q2, q3, q4⟩ := ho
    rw [h1] at q1
    obtain rfl := Option.some.inj q1
    have q3 : w'.ownsRow 0 49 3 (.slice (some ⟨B, 0, none⟩) es.length cap) es.length xs := ownsZ.plain q3
    rcases q3.2 with ⟨e, _⟩ | ⟨g, cap', cur, e, _, hg, hn, hm, hs, ht⟩
    · cases e
    · injection e with e1 e2 e3
      injection e1 with e1
      injection e1 with e1
      subst e1; subst e3
      refine .inr ⟨B, cap, rfl, rfl, hn, hm, cur, hg, hs, fun i e he => ?_⟩
      have hi := (List.getElem?_eq_some_iff.1 he).1
      obtain ⟨c0, c1, c2⟩ := hO.cells he
      have go : ∀ o W, o < es.length * 3 → w.cell? ⟨B, o, none⟩ = some W → cur[o]? = some W := fun o W ho q => by
        have := hk B o W rfl ho q
        unfold World.cell? at this
        simp only [hg] at this
        exact this
      exact ⟨go _ _ (by omega) c0, go _ _ (by omega) c1, go _ _ (by omega) c2⟩
def opsAt (l : List Item) : Array Oper := match l with
  | .code (.region _ ops _) :: _ => ops
  | _ => #[]
def opAt (l : List Item) (i : Nat) : Oper := match (opsAt l)[i]? with
  | some o => o
  | none => ⟨none, .move (.tmp 0), 0, "", #[], none⟩
def tsOf (o : Oper) : Array TypeId := match o.op with
  | .call c => c.argTypes
  | _ => #[]
noncomputable abbrev p17 : List Item := R.point Try.f3 17
noncomputable abbrev p7 : List Item := R.point Try.f3 7
theorem point17 : p17 = .code (.region 17 (opsAt p17) false) :: p17.tail := by kernel_rfl
theorem p17_size : (opsAt p17).size = 4 := by kernel_rfl
theorem p17_0 : (opsAt p17)[0]? = some (opAt p17 0) ∧ (opAt p17 0).guard = none ∧ (opAt p17 0).dst = some 62 ∧ (opAt p17 0).op = .move (.tmp 7) := ⟨by kernel_rfl, by kernel_rfl, by kernel_rfl, by kernel_rfl⟩
theorem p17_1 : (opsAt p17)[1]? = some (opAt p17 1) ∧ (opAt p17 1).guard = none ∧ (opAt p17 1).dst = some 63 ∧ (opAt p17 1).op = .move (.tmp 10) := ⟨by kernel_rfl, by kernel_rfl, by kernel_rfl, by kernel_rfl⟩
theorem p17_2 : (opsAt p17)[2]? = some (opAt p17 2) ∧ (opAt p17 2).guard = none ∧ (opAt p17 2).dst = some 64 ∧ (opAt p17 2).op = .call { callee := .value (.func 11), args := #[.tmp 62, .tmp 63], argTypes := tsOf (opAt p17 2) } := ⟨by kernel_rfl, by kernel_rfl, by kernel_rfl, by kernel_rfl⟩
theorem p17_3 : (opsAt p17)[3]? = some (opAt p17 3) ∧ (opAt p17 3).guard = none ∧ (opAt p17 3).dst = some 10 ∧ (opAt p17 3).op = .assign (.tmp 64) := ⟨by kernel_rfl, by kernel_rfl, by kernel_rfl, by kernel_rfl⟩
theorem point7 : p7 = .code (.region 7 (opsAt p7) false) :: p7.tail := by kernel_rfl
theorem p7_size : (opsAt p7).size = 7 := by kernel_rfl
theorem p7_0 : (opsAt p7)[0]? = some (opAt p7 0) ∧ (opAt p7 0).guard = none ∧ (opAt p7 0).dst = some 28 ∧ (opAt p7 0).op = .load 32 (.tmp 6) := ⟨by kernel_rfl, by kernel_rfl, by kernel_rfl, by kernel_rfl⟩
theorem p7_1 : (opsAt p7)[1]? = some (opAt p7 1) ∧ (opAt p7 1).guard = none ∧ (opAt p7 1).dst = some 29 ∧ (opAt p7 1).op = .call { callee := .value (.func 7), args := #[.tmp 28], argTypes := tsOf (opAt p7 1) } := ⟨by kernel_rfl, by kernel_rfl, by kernel_rfl, by kernel_rfl⟩
theorem p7_2 : (opsAt p7)[2]? = some (opAt p7 2) ∧ (opAt p7 2).guard = none ∧ (opAt p7 2).dst = some 27 ∧ (opAt p7 2).op = .move (.tmp 29) := ⟨by kernel_rfl, by kernel_rfl, by kernel_rfl, by kernel_rfl⟩
theorem p7_3 : (opsAt p7)[3]? = some (opAt p7 3) ∧ (opAt p7 3).guard = none ∧ (opAt p7 3).dst = some 30 ∧ (opAt p7 3).op = .extract (.tmp 27) 0 := ⟨by kernel_rfl, by kernel_rfl, by kernel_rfl, by kernel_rfl⟩
theorem p7_4 : (opsAt p7)[4]? = some (opAt p7 4) ∧ (opAt p7 4).guard = none ∧ (opAt p7 4).dst = some 31 ∧ (opAt p7 4).op = .extract (.tmp 27) 1 := ⟨by kernel_rfl, by kernel_rfl, by kernel_rfl, by kernel_rfl⟩
theorem p7_5 : (opsAt p7)[5]? = some (opAt p7 5) ∧ (opAt p7 5).guard = none ∧ (opAt p7 5).dst = some 7 ∧ (opAt p7 5).op = .assign (.tmp 30) := ⟨by kernel_rfl, by kernel_rfl, by kernel_rfl, by kernel_rfl⟩
theorem p7_6 : (opsAt p7)[6]? = some (opAt p7 6) ∧ (opAt p7 6).guard = none ∧ (opAt p7 6).dst = some 8 ∧ (opAt p7 6).op = .assign (.tmp 31) := ⟨by kernel_rfl, by kernel_rfl, by kernel_rfl, by kernel_rfl⟩
theorem run_call {P : Program} {a : Act} {w : World} {o : Oper} {f : FuncId} {xs : Array Operand} {ts : Array TypeId} (h : o.op = .call { callee := .value (.func f), args := xs, argTypes := ts }) (hc : callable P f) : (execOp a.eval o).run P w = .ok (.enter f (xs.map a.eval)) w := by
  simp [execOp, h, resolve, Deferred.ofValue, invoke, Act.eval]
  exact hc _ w
theorem run_moveO {P : Program} {a : Act} {w : World} {o : Oper} {x : Operand} (h : o.op = .move x) : (execOp a.eval o).run P w = .ok (.value (a.eval x)) w := by simp [execOp, h]
theorem run_assignO {P : Program} {a : Act} {w : World} {o : Oper} {x : Operand} (h : o.op = .assign x) : (execOp a.eval o).run P w = .ok (.value (a.eval x)) w := by simp [execOp, h]
theorem call11 : callable Try.prog 11 := callable_of Try.func11 (by kernel_rfl) (by kernel_rfl)
theorem call7 : callable Try.prog 7 := callable_of Try.func7 (by kernel_rfl) (by kernel_rfl)
end Go.Proofs.Ytfgoojnblomonaa.V
end
section
set_option linter.unusedVariables false
set_option linter.unusedSimpArgs false
namespace Go.Proofs.Ytfgoojnblomonaa.V
open Go Go.Proofs.Ytfgoojnblomonaa.R Go.RowKit
theorem map1 (g : Operand → Value) (x : Operand) : #[x].map g = #[g x] := by simp
theorem map2 (g : Operand → Value) (x y : Operand) : #[x, y].map g = #[g x, g y] := by simp
def mp4 (M3 : Mp) (VL : Value) : Mp := ⟨fun κ => if κ = 0 then M3.b 0 else none, fun κ v => if v = 0 then (if κ = 1 then M3.a 1 0 else if κ = 2 then some VL else none) else none, fun κ => if κ = 1 then M3.s 1 else if κ = 2 then some 3 else none⟩
def okB (w7 : World) (M3 : Mp) (hc : List R.Obj) : Okk := ⟨fun b o => b < w7.heap.size ∧ ¬ wrt M3 (lf hc) b o, fun _ => True⟩
section
variable {k : Nat} {a : Int} {s f : List Int} {t : List Stp} {ws : List Elm} {ok : Bool} {ma : Int × List Int × List Int × List Stp} {ms : Int × List Elm}
structure At8 (a : Int) (s f : List Int) (t : List Stp) (ws : List Elm) (w1 w7 w8 : World) (M3 : Mp) (VL : Value) (S : Nat → Value) : Prop where
  E : Entry w8 M3 okT [] (hcA a s f t ws a s f t ws) #[]
  hVL : M3.a 6 0 = some VL
  hlt : ∀ κ o b, κ < 6 → lf (hcA a s f t ws a s f t ws) κ = some o → blkO M3 κ o = some b → b < w7.heap.size
  hl : ∀ κ o b, κ < 6 → lf (hcA a s f t ws a s f t ws) κ = some o → blkO M3 κ o = some b → w1.heap.size ≤ b
  hge : ∀ b, BlkV VL S ws.length b → w7.heap.size ≤ b
  hO : OutV w8 VL S ws
  hI : InAt w8 S ws
  h78 : w7.heap.size ≤ w8.heap.size
  h17 : w1.heap.size ≤ w7.heap.size
  hb8 : Below w1.heap.size w1 w8
  o0 : OR w8 (okB w7 M3 (hcA a s f t ws a s f t ws)) M3 0 (.box true [.int .i64 a, .imm (.I .i64 s), .imm (.I .i64 f), .imm (.T t)])
  o1 : OR w8 (okB w7 M3 (hcA a s f t ws a s f t ws)) M3 1 (.arr 49 0 (.E ws) true)
theorem at17 (pf : PF k a s f t ws ok ma ms) {w1 w7 w8 : World} {M3 : Mp} {VL : Value} {S : Nat → Value} (A : At8 a s f t ws w1 w7 w8 M3 VL S) :
    GoodQ (QL w1) Try.prog (Cx.call false w8 M3 okT (hcA a s f t ws a s f t ws)) Try.f3 (R.point Try.f3 17) (lwA.s17 ws ok ws a s f t a ma.2.1 ma.2.2.1 ma.2.2.2) := by
  intro M ac w R hnt hd b0 kk cs
  have lt7 : ∀ κ o, lf (hcA a s f t ws a s f t ws) κ = some o → κ < 7 := fun κ o q => (List.getElem?_eq_some_iff.1 q).1
  have at6 : ∀ o, lf (hcA a s f t ws a s f t ws) 6 = some o → o = .arr 49 0 (.E ws) true := fun o q => (Option.some.inj (show some _ = some o from q)).symm
  have hown : ∀ b o, VL.ownBlock = some b → wrt M3 (lf (hcA a s f t ws a s f t ws)) b o → ws.length * 3 ≤ o := by
    rintro b o hb ⟨κ, ob, z1, z2, z3⟩
    have := lt7 κ ob z1
    by_cases c : κ = 6
    · subst c
      obtain rfl := at6 ob z1
      rcases z3 with z3 | z3
      · cases z3
      · exact z3
    · have h1 := A.hlt κ ob b (by omega) z1 z2
      have h2 := A.hge b (.inl hb)
      omega
  have hnl : ∀ i b, i < ws.length → (S i).ownBlock = some b → ¬ (Cx.call false w8 M3 okT (hcA a s f t ws a s f t ws)).lent b := by
    rintro i b hi hb ⟨o, κ, ob, z1, z2, z3⟩
    have := lt7 κ ob z1
    by_cases c : κ = 6
    · subst c
      obtain rfl := at6 ob z1
      have z2 : (M3.a 6 0).bind Value.ownBlock = some b := z2
      rw [A.hVL] at z2
      have z2 : VL.ownBlock = some b := z2
      rcases A.hO with ⟨e, _⟩ | ⟨B, cap, e, hO⟩
      · rw [e] at z2; cases z2
      · rw [e] at z2; cases z2
        exact hO.ne A.hI hi hb
    · have h1 := A.hlt κ ob b (by omega) z1 z2
      have h2 := A.hge b (.inr ⟨i, hi, hb⟩)
      omega
  have hM6 : M.a 6 0 = some VL := (R.lent0 6 (by show (6 : Nat) < 7; omega)).2.2.1.trans A.hVL
  have hV7 : ac.tmps.getD 7 undef = VL := by
    have h7 : VR w _ M (.sl 6 0) (ac.tmps.getD 7 undef) := R.temps 7
    obtain ⟨A1, n, cap, q1, q2⟩ := h7.sl_inv
    rw [hM6] at q1
    rw [q2]
    exact (Option.some.inj q1).symm
  have hV10 : ac.tmps.getD 10 undef = .int .i64 1 := VR.int_inv (show VR w _ M (.int .i64 1) (ac.tmps.getD 10 undef) from R.temps 10)
  have hOw : OutV w VL S ws := outV_keep A.hO (R.objs 6 _ rfl) hM6 (fun b o W hb ho hc => R.keep b o W (fun hm => by have := hown b o hb hm; omega) hc)
  have hIw : InAt w S ws := fun i e he => (A.hI i e he).keep fun b hb => R.frame b ((A.hI i e he).lt b hb).1 (hnl i b (List.getElem?_eq_some_iff.1 he).1 hb)
  have dj := dj_of hIw pf.len pf.ne
  have hn96 : Try.f3.ntmps = 96 := by kernel_rfl
  have W : (Code.region 17 (opsAt p17) false).wp Try.prog (fun e ac' w' => e = .normal ∧ ac'.tmps.size = Try.f3.ntmps ∧ ac'.defers = [] ∧ (∀ u, u ≠ 62 → u ≠ 63 → u ≠ 64 → u ≠ 10 → ac'.tmps.getD u undef = ac.tmps.getD u undef) ∧ ac'.tmps.getD 10 undef = .int .i64 ms.1 ∧ ms.2.length = ws.length ∧ OutV w' VL S ms.2 ∧ InAt w' S ms.2 ∧ Off w w' (BlkV VL S ws.length) ∧ Gr w w') ac w := by
    apply wp_region
    rw [p17_size]
    show wpOps Try.prog (opsAt p17) _ [0, 1, 2, 3] ac w
    refine ops_val p17_0.1 p17_0.2.1 (run_moveO p17_0.2.2.2) ?_
    rw [p17_0.2.2.1, eval_tmp, hV7]
    refine ops_val p17_1.1 p17_1.2.1 (run_moveO p17_1.2.2.2) ?_
    rw [p17_1.2.2.1, eval_tmp, get_put_ne (by decide), hV10]
    refine ops_call p17_2.1 p17_2.2.1 (run_call p17_2.2.2.2 call11) ?_
    have e1 : (#[Operand.tmp 62, .tmp 63].map ((ac.put (some 62) VL).put (some 63) (.int .i64 1)).eval) = #[VL, .int .i64 1] := by
      rw [map2, eval_tmp, eval_tmp, get_put_ne (by decide), get_put_eq (by rw [hnt, hn96]; decide), get_put_eq (by rw [size_put, hnt, hn96]; decide)]
    rw [e1]
    refine (mark_V k ws 1 ms pf.mark w VL S hOw hIw dj).mono fun e w' => ?_
    rintro ⟨rfl, g1, g2, g3, g4, g5⟩
    refine ⟨_, rfl, ?_⟩
    rw [p17_2.2.2.1]
    refine ops_val p17_3.1 p17_3.2.1 (run_assignO p17_3.2.2.2) ?_
    rw [p17_3.2.2.1, eval_tmp, get_put_eq (by rw [size_put, size_put, hnt, hn96]; decide)]
    refine ⟨rfl, by simp only [size_put, hnt], hd, fun u u1 u2 u3 u4 => ?_, get_put_eq (by simp only [size_put, hnt, hn96]; decide), g1, g2, g3, g4, g5⟩
    rw [get_put_ne u4, get_put_ne u3, get_put_ne u2, get_put_ne u1]
  obtain ⟨e, ac', w', ⟨rfl, k1, k2, k3, k4, k5, k6, k7, k8, k9⟩, harr⟩ := W b0 (p17.tail ++ kk) cs
  have h7w : w7.heap.size ≤ w.heap.size := Nat.le_trans A.h78 R.size
  have offm : ∀ b, b < w7.heap.size → w'.heap[b]? = w.heap[b]? := fun b hb => k8.block b (by omega) fun q => by have := A.hge b q; omega
  have cellm : ∀ b o V, b < w7.heap.size → ¬ wrt M3 (lf (hcA a s f t ws a s f t ws)) b o → w8.cell? ⟨b, o, none⟩ = some V → w'.cell? ⟨b, o, none⟩ = some V := fun b o V hb hm hc => (cell_of_block (offm b hb)).trans (R.keep b o V hm hc)
  have hblk : ∀ κ o b, lf (hcB a s f t ws ms.2) κ = some o → blkO (mp4 M3 VL) κ o = some b → (κ < 2 ∧ b < w7.heap.size ∧ w1.heap.size ≤ b ∧ ∃ o', lf (hcA a s f t ws a s f t ws) κ = some o' ∧ blkO M3 κ o' = some b ∧ ∀ x, wcell o x → wcell o' x) ∨ (κ = 2 ∧ VL.ownBlock = some b ∧ w7.heap.size ≤ b) := by
    intro κ o b q1 q2
    have hk : κ < 3 := (List.getElem?_eq_some_iff.1 q1).1
    match κ, hk with
    | 0, _ =>
      obtain rfl := Option.some.inj (show some _ = some o from q1)
      have q2 : M3.b 0 = some b := q2
      exact .inl ⟨by omega, A.hlt 0 _ b (by omega) rfl q2, A.hl 0 _ b (by omega) rfl q2, _, rfl, q2, fun x z => z⟩
    | 1, _ =>
      obtain rfl := Option.some.inj (show some _ = some o from q1)
      have q2 : (M3.a 1 0).bind Value.ownBlock = some b := q2
      exact .inl ⟨by omega, A.hlt 1 _ b (by omega) rfl q2, A.hl 1 _ b (by omega) rfl q2, _, rfl, q2, fun x z => z⟩
    | 2, _ =>
      obtain rfl := Option.some.inj (show some _ = some o from q1)
      have q2 : VL.ownBlock = some b := q2
      exact .inr ⟨rfl, q2, A.hge b (.inl q2)⟩
  have hwrt : ∀ b o, b < w7.heap.size → wrt (mp4 M3 VL) (lf (hcB a s f t ws ms.2)) b o → wrt M3 (lf (hcA a s f t ws a s f t ws)) b o := by
    rintro b o hb ⟨κ, ob, z1, z2, z3⟩
    rcases hblk κ ob b z1 z2 with ⟨_, _, _, o', y1, y2, y3⟩ | ⟨_, _, h⟩
    · exact ⟨κ, o', y1, y2, y3 o z3⟩
    · omega
  have hk8 : OkTo w8 w' (okB w7 M3 (hcA a s f t ws a s f t ws)) ((Cx.call false w' (mp4 M3 VL) okT (hcB a s f t ws ms.2)).ok (mp4 M3 VL) (lf (hcB a s f t ws ms.2))) :=
    ⟨fun b o V hok hc => ⟨cellm b o V hok.1 hok.2 hc, fun z => hok.2 (hwrt b o hok.1 z), fun _ => .inl trivial⟩, fun b _ => .inl trivial, R.grow.trans k9⟩
  have hnw : ∀ i b o, i < ws.length → (S i).ownBlock = some b → ¬ wrt (mp4 M3 VL) (lf (hcB a s f t ws ms.2)) b o := by
    rintro i b o hi hb ⟨κ, ob, z1, z2, z3⟩
    rcases hblk κ ob b z1 z2 with ⟨_, h1, _⟩ | ⟨_, h2, _⟩
    · have := A.hge b (.inr ⟨i, hi, hb⟩); omega
    · rcases hOw with ⟨e, _⟩ | ⟨B, cap, e, hO⟩
      · rw [e] at h2; cases h2
      · rw [e] at h2; cases h2
        exact hO.ne hIw hi hb
  have E4 : Entry w' (mp4 M3 VL) okT [] (hcB a s f t ws ms.2) #[] := {
    len := rfl
    args := fun i v V p q => by simp at p
    objs := fun κ o q => by
      have hk : κ < 3 := (List.getElem?_eq_some_iff.1 q).1
      match κ, hk with
      | 0, _ =>
        obtain rfl := Option.some.inj (show some _ = some o from q)
        obtain ⟨b, c, e, h1, h2, h3, h4⟩ := A.o0
        have hb7 : b < w7.heap.size := A.hlt 0 _ b (by omega) rfl h1
        have hnl0 : ¬ (Cx.call false w8 M3 okT (hcA a s f t ws a s f t ws)).lent b := by
          rintro ⟨o, κ, ob, z1, z2, z3⟩
          have := A.E.inj κ 0 ob _ b z1 rfl z2 h1
          subst this
          obtain rfl := Option.some.inj (show some _ = some ob from z1)
          cases z3
        refine ⟨b, c, e, h1, ((offm b hb7).trans (R.frame b (Nat.lt_of_lt_of_le hb7 A.h78) hnl0)).trans h2, h3, fun j v V p q => ?_⟩
        have hv := h4 j v V p q
        match j with
        | 0 => cases p; exact .closed (match hv with | .closed h => h.mono hk8)
        | 1 => cases p; exact .closed (hv.imm_inv.mono hk8)
        | 2 => cases p; exact .closed (hv.imm_inv.mono hk8)
        | 3 => cases p; exact .closed (hv.imm_inv.mono hk8)
        | j + 4 => cases p
      | 1, _ =>
        obtain rfl := Option.some.inj (show some _ = some o from q)
        obtain ⟨V, xs, h1, h2, h3, h4⟩ := A.o1
        obtain ⟨V', xs', g1, g2, g3, g4⟩ := R.objs 1 _ (show lk _ 1 = _ from rfl)
        have hM1 : M.a 1 0 = some V := (R.lent0 1 (by show (1 : Nat) < 7; omega)).2.2.1.trans h1
        rw [hM1] at g1
        obtain rfl := Option.some.inj g1
        have h3 : ownsZ w8 false 0 49 3 V ws.length xs := h3
        have g3 : ownsZ w false 0 49 3 V ws.length xs' := g3
        have hx : xs' = xs := by
          rcases h3.2 with ⟨e, h0⟩ | ⟨g, cap, cur, e, _⟩
          · have a1 := h3.1
            have a2 := g3.1
            rw [h0] at a1 a2
            rw [List.eq_nil_of_length_eq_zero (by omega : xs.length = 0), List.eq_nil_of_length_eq_zero (by omega : xs'.length = 0)]
          · subst e
            apply List.ext_getElem?
            intro o
            by_cases ho : o < ws.length * 3
            · have c1 := h3.cellAt o ho
              have c2 := g3.cellAt o ho
              obtain ⟨u, hu⟩ : ∃ u, xs[o]? = some u := ⟨_, List.getElem?_eq_getElem (by have := h3.1; omega)⟩
              rw [← c2, hu]
              refine R.keep g o u ?_ (c1.trans hu)
              rintro ⟨κ, ob, z1, z2, z3⟩
              have := A.E.inj κ 1 ob _ g z1 rfl z2 (by show (M3.a 1 0).bind Value.ownBlock = some g; rw [h1]; rfl)
              subst this
              obtain rfl := Option.some.inj (show some _ = some ob from z1)
              rcases z3 with z3 | z3
              · cases z3
              · have z3 : ws.length * 3 ≤ o := z3
                omega
            · rw [List.getElem?_eq_none (by have : xs'.length = ws.length * 3 := g3.1; omega), List.getElem?_eq_none (by have : xs.length = ws.length * 3 := h3.1; omega)]
        subst hx
        have hb7 : ∀ b, V.ownBlock = some b → b < w7.heap.size := fun b hb => A.hlt 1 _ b (by omega) rfl (by show (M3.a 1 0).bind Value.ownBlock = some b; rw [h1]; exact hb)
        refine ⟨V, xs', h1, h2, ⟨g3.1, ?_⟩, fun i j hi hj => ?_⟩
        · rcases g3.2 with e | ⟨g, cap, cur, e, y1, y2, y3⟩
          · exact .inl e
          · exact .inr ⟨g, cap, cur, e, y1, y2.move (offm g (hb7 g (by rw [e]; rfl))), y3⟩
        · obtain ⟨v, q1, q2⟩ := h4 i j hi hj
          exact ⟨v, q1, q2.mono hk8⟩
      | 2, _ =>
        obtain rfl := Option.some.inj (show some _ = some o from q)
        refine out_OR k6 rfl rfl (fun i e he => ints_row (k7 i e he) (fun b o hb => ⟨hnw i b o ?_ hb, fun _ => .inl trivial⟩) (fun b _ => .inl trivial))
        rw [← k5]; exact (List.getElem?_eq_some_iff.1 he).1
    inj := fun κ κ' o o' b q q' z z' => by
      rcases hblk κ o b q z with ⟨u1, u2, _, o1, u3, u4, _⟩ | ⟨u1, u2, u3⟩ <;> rcases hblk κ' o' b q' z' with ⟨v1, v2, _, o2, v3, v4, _⟩ | ⟨v1, v2, v3⟩
      · exact A.E.inj κ κ' o1 o2 b u3 v3 u4 v4
      · omega
      · omega
      · omega
    cur0 := fun κ o q => by
      have hk : κ < 3 := (List.getElem?_eq_some_iff.1 q).1
      match κ, hk with
      | 0, _ => cases q; rfl
      | 1, _ => cases q; rfl
      | 2, _ => cases q; rfl
    acell := fun κ ob b o _ _ _ => .inl trivial
    clean := fun κ hk => by
      have hk : 3 ≤ κ := hk
      refine ⟨by simp only [mp4]; rw [if_neg (by omega)], by simp only [mp4]; rw [if_neg (by omega), if_neg (by omega)], fun v => ?_⟩
      simp only [mp4]; split
      · rw [if_neg (by omega), if_neg (by omega)]
      · rfl
    clean1 := fun κ v hv => by simp only [mp4]; rw [if_neg (by omega)]
    vers := fun κ v V q => by
      simp only [mp4] at q
      split at q
      · split at q
        · exact A.E.vers _ _ _ q
        · split at q
          · obtain rfl := Option.some.inj q
            rcases k6 with ⟨e, _⟩ | ⟨B, cap, e, _⟩
            · exact ⟨_, _, _, e⟩
            · exact ⟨_, _, _, e⟩
          · cases q
      · cases q }
  have R0 := E4.rel false
  have e0 : lk (lwB.s0 ok ms.1 a s f t ws ms.2).h = lf (hcB a s f t ws ms.2) := zip_lk (hcB a s f t ws ms.2)
  have R4 : Rel (Cx.call false w' (mp4 M3 VL) okT (hcB a s f t ws ms.2)) (fun κ => 20 ≤ κ) (mp4 M3 VL) (getT (lwB.s0 ok ms.1 a s f t ws ms.2).t) (lk (lwB.s0 ok ms.1 a s f t ws ms.2).h) ac'.tmps w' := by
    rw [e0]
    refine { R0.weaken (fun κ q => by have : 3 + 2 ≤ κ := by omega
                                      exact this) with temps := fun i => ?_ }
    show VR w' _ (mp4 M3 VL) (getT [(1, .ptr 0 0), (4, .sl 1 0), (5, .lit ok), (7, .sl 2 0), (10, .int .i64 ms.1)] i) (ac'.tmps.getD i undef)
    rw [getT_cons]
    split
    · rename_i c; subst c
      rw [k3 1 (by decide) (by decide) (by decide) (by decide)]
      obtain ⟨b, q1, q2⟩ := VR.ptr_inv (show VR w _ M (.ptr 0 0) (ac.tmps.getD 1 undef) from R.temps 1)
      rw [q2]
      exact .ptr 0 0 b ((R.lent0 0 (by show (0 : Nat) < 7; omega)).2.1.symm.trans q1)
    rw [getT_cons]
    split
    · rename_i c; subst c
      rw [k3 4 (by decide) (by decide) (by decide) (by decide)]
      obtain ⟨A1, n, cap, q1, q2⟩ := VR.sl_inv (show VR w _ M (.sl 1 0) (ac.tmps.getD 4 undef) from R.temps 4)
      rw [q2]
      exact .sl 1 0 A1 n cap ((R.lent0 1 (by show (1 : Nat) < 7; omega)).2.2.1.symm.trans q1)
    rw [getT_cons]
    split
    · rename_i c; subst c
      rw [k3 5 (by decide) (by decide) (by decide) (by decide)]
      rw [VR.lit_inv (show VR w _ M (.lit ok) (ac.tmps.getD 5 undef) from R.temps 5)]
      exact .closed (.lit _)
    rw [getT_cons]
    split
    · rename_i c; subst c
      rw [k3 7 (by decide) (by decide) (by decide) (by decide), hV7]
      rcases k6 with ⟨e, _⟩ | ⟨B, cap, e, _⟩
      · subst e; exact .sl 2 0 none 0 0 rfl
      · subst e; exact .sl 2 0 _ _ _ rfl
    rw [getT_cons]
    split
    · rename_i c; subst c
      rw [k4]
      exact .closed (.int _ _)
    exact .dead _
  have hb' : Below w1.heap.size w1 w' := by
    have hbw : Below w1.heap.size w1 w := below_rel' R A.hb8 fun κ o b q1 q2 => by
      have := lt7 κ o q1
      by_cases c : κ = 6
      · subst c
        obtain rfl := at6 o q1
        have q2 : (M3.a 6 0).bind Value.ownBlock = some b := q2
        rw [A.hVL] at q2
        have := A.hge b (.inl q2)
        have := A.h17
        omega
      · exact A.hl κ o b (by omega) q1 q2
    exact ⟨k8.os.trans hbw.os, k8.tape.trans hbw.tape, k8.output.trans hbw.output, Nat.le_trans hbw.size k8.size, fun b hb => (offm b (Nat.lt_of_lt_of_le hb A.h17)).trans (hbw.block b hb)⟩
  obtain ⟨e2, a2, w2, x1, x2, x3⟩ := goodB pf (w1 := w1) (w := w') (M := mp4 M3 VL) hb' (fun κ o b q1 q2 => by
    rcases hblk κ o b q1 q2 with ⟨_, _, h, _⟩ | ⟨_, _, h⟩
    · exact h
    · exact Nat.le_trans A.h17 h) (mp4 M3 VL) ac' w' R4 k1 k2 b0 kk cs
  refine ⟨e2, a2, w2, x1, x2, ?_⟩
  have e3 : p17 ++ kk = .code (.region 17 (opsAt p17) false) :: (p17.tail ++ kk) := congrArg (· ++ kk) point17
  show Arrives _ (lone (b0.at ac (p17 ++ kk)) cs w) _ _ _ _ _ _
  rw [e3]
  exact .of_steps harr x3
end
end Go.Proofs.Ytfgoojnblomonaa.V
end
section
set_option linter.unusedVariables false
set_option linter.unusedSimpArgs false
namespace Go.Proofs.Ytfgoojnblomonaa.V
open Go Go.Proofs.Ytfgoojnblomonaa.R Go.RowKit
theorem imm_okC {w : World} {ok : Okk} {c : Ct} {V : Value} (h : CR w ok (.imm c) V) (hf : ∀ i j, hasImm1 (c.cell i j) = false) : CR w okC (.imm c) V := by
  obtain ⟨A, cap, rfl, hcap, ha, hcell⟩ := h.imm_at
  refine CR.imm_of hcap ha fun b o e i j hi hj => ?_
  obtain ⟨v, q1, _, q2⟩ := hcell b o e i j hi hj
  exact ⟨v, q1, trivial, q2.flat (hf _ _)⟩
theorem arr_okC {C : Cx} {F : Nat → Prop} {M : Mp} {t : Nat → AV} {h : Nat → Option R.Obj} {at' : Array Value} {w : World} (R : Rel C F M t h at' w) {κ e : Nat} {c : Ct} {ao : Bool} (ho : h κ = some (.arr e 0 c ao)) {V : Value} (hv : VR w (C.ok M h) M (.sl κ 0) V) (hf : ∀ i j, hasImm1 (c.cell i j) = false) : VR w okC M0 (.imm c) V := by
  obtain ⟨A, n, cap, h1, rfl⟩ := hv.sl_inv
  obtain ⟨_, _, hc⟩ := R.close ho
  exact .closed (imm_okC (hc _ h1) hf)
def mp3 (M : Mp) (VL : Value) : Mp := ⟨fun κ => if κ < 6 then M.b κ else none, fun κ v => if v = 0 then (if κ < 6 then M.a κ 0 else if κ = 6 then some VL else none) else none, fun κ => if κ < 6 then M.s κ else if κ = 6 then some 3 else none⟩
theorem ops_wp {P : Program} {ops : Array Oper} {Q : Exit → Act → World → Prop} {i : Nat} {rest : List Nat} {a : Act} {w : World} {o : Oper} (ho : ops[i]? = some o) (hg : o.guard = none) (h : o.wp P a w (wpOps P ops Q rest) Q) : wpOps P ops Q (i :: rest) a w := by
  simp only [wpOps, ho]
  rw [if_pos (by unfold Region.wanted; rw [hg])]
  exact .inl h
theorem run_extractO {P : Program} {a : Act} {w : World} {o : Oper} {x : Operand} {i : Nat} {vs : Array Value} {V : Value} (h : o.op = .extract x i) (hx : a.eval x = .tuple vs) (hi : vs[i]? = some V) : (execOp a.eval o).run P w = .ok (.value V) w := by
  have hl := (Array.getElem?_eq_some_iff.1 hi)
  obtain ⟨hl, e⟩ := hl
  simp [execOp, h, hx, Instr.extract, hl, e]
open Classical in
theorem load_box (ws : List Elm) (ok : Bool) (a : Int) (s f : List Int) (t : List Stp) (a' : Int) (s' f' : List Int) (t' : List Stp) (O : Oracle) (q : AV → Heap → Option Res) :
    (opM Try.prog xhn 100 (evO (lwZ.s7 ws ok a s f t a' s' f' t')) (opAt p7 0)).run O (lwZ.s7 ws ok a s f t a' s' f' t').h q = q (.agg [.int .i64 a', .sl 3 0, .sl 4 0, .sl 5 0]) (lwZ.s7 ws ok a s f t a' s' f' t').h := by kernel_rfl
section
variable {k : Nat} {a : Int} {s f : List Int} {t : List Stp} {ws : List Elm} {ok : Bool} {ma : Int × List Int × List Int × List Stp} {ms : Int × List Elm}
open Classical in
set_option maxHeartbeats 1000000 in
set_option maxRecDepth 10000 in
theorem at7 (pf : PF k a s f t ws ok ma ms) (w1 : World) : GoodQ (QL w1) Try.prog (Cx.call false w1 M0 okT []) Try.f3 (R.point Try.f3 7) (lwZ.s7 ws ok a s f t a s f t) := by
  intro M ac w R hnt hd b0 kk cs
  have hn96 : Try.f3.ntmps = 96 := by kernel_rfl
  have W : (Code.region 7 (opsAt p7) false).wp Try.prog (fun e ac' w8 => e = .normal ∧ ∃ w7 M VL S, Rel (Cx.call false w1 M0 okT []) (fun κ => 8 ≤ κ ∧ ¬ (100 ≤ κ ∧ κ < 116)) M (getT (lwZ.s7 ws ok a s f t a s f t).t) (lk (lwZ.s7 ws ok a s f t a s f t).h) ac.tmps w7 ∧ ac'.tmps.size = Try.f3.ntmps ∧ ac'.defers = [] ∧ (∀ u, u ≠ 28 → u ≠ 29 → u ≠ 27 → u ≠ 30 → u ≠ 31 → u ≠ 7 → u ≠ 8 → ac'.tmps.getD u undef = ac.tmps.getD u undef) ∧ ac'.tmps.getD 7 undef = VL ∧ ac'.tmps.getD 8 undef = .bool ok ∧ Below w7.heap.size w7 w8 ∧ OutV w8 VL S ws ∧ InAt w8 S ws ∧ ∀ b, BlkV VL S ws.length b → w7.heap.size ≤ b) ac w := by
    apply wp_region
    rw [p7_size]
    show wpOps Try.prog (opsAt p7) _ [0, 1, 2, 3, 4, 5, 6] ac w
    refine ops_wp p7_0.1 p7_0.2.1 ?_
    obtain ⟨v, h', hto, hq⟩ := Ef.run_to (CS := CallSpec false Try.prog) (O := noO) noO_sound (q := fun v h => if v = .agg [.int .i64 a, .sl 3 0, .sl 4 0, .sl 5 0] ∧ h = (lwZ.s7 ws ok a s f t a s f t).h then some (.dead, []) else none) (res := (.dead, [])) _ _ ((load_box ws ok a s f t a s f t noO _).trans (if_pos ⟨rfl, rfl⟩))
    have hvh : v = .agg [.int .i64 a, .sl 3 0, .sl 4 0, .sl 5 0] ∧ h' = (lwZ.s7 ws ok a s f t a s f t).h := by
      split at hq
      · assumption
      · cases hq
    obtain ⟨rfl, rfl⟩ := hvh
    refine op_sound (κ0 := 100) (s := lwZ.s7 ws ok a s f t a s f t) R (fun κ x y => Nat.le_trans (show 8 ≤ 100 by decide) x) hto (fun V w7 hOut => ?_)
    obtain ⟨M', R', K, hv⟩ := hOut
    rw [p7_0.2.2.1]
    refine ops_call p7_1.1 p7_1.2.1 (run_call p7_1.2.2.2 call7) ?_
    rw [map1, eval_tmp, get_put_eq (by rw [hnt, hn96]; decide)]
    have hvC : VR w7 okC M0 (.agg [.int .i64 a, .imm (.I .i64 s), .imm (.I .i64 f), .imm (.T t)]) V := by
      obtain ⟨vs, rfl, hl, hh⟩ := hv.agg_inv
      refine .agg _ _ hl fun i v V p q => ?_
      match i with
      | 0 => cases p; rw [(hh 0 _ _ rfl q).int_inv]; exact .closed (.int _ _)
      | 1 => cases p; exact arr_okC R' (κ := 3) (e := 3) (ao := false) rfl (hh 1 _ _ rfl q) (fun i j => rfl)
      | 2 => cases p; exact arr_okC R' (κ := 4) (e := 3) (ao := false) rfl (hh 2 _ _ rfl q) (fun i j => rfl)
      | 3 => cases p; exact arr_okC R' (κ := 5) (e := 69) (ao := false) rfl (hh 3 _ _ rfl q) (fun i j => by
          match j with
          | 0 => rfl
          | 1 => rfl
          | 2 => rfl
          | _ + 3 => rfl)
      | i + 4 => cases p
    refine (we_calls k a s f t (ws, ok) pf.impl w7 V hvC).mono fun e w8 => ?_
    rintro ⟨VL, S, rfl, g1, g2, g3, g4⟩
    refine ⟨_, rfl, ?_⟩
    rw [p7_1.2.2.1]
    refine ops_val p7_2.1 p7_2.2.1 (run_moveO p7_2.2.2.2) ?_
    rw [p7_2.2.2.1, eval_tmp, get_put_eq (by simp only [size_put, hnt, hn96]; decide)]
    refine ops_val p7_3.1 p7_3.2.1 (run_extractO p7_3.2.2.2 (vs := #[VL, .bool ok]) (V := VL) (by rw [eval_tmp, get_put_eq (by simp only [size_put, hnt, hn96]; decide)]) rfl) ?_
    rw [p7_3.2.2.1]
    refine ops_val p7_4.1 p7_4.2.1 (run_extractO p7_4.2.2.2 (vs := #[VL, .bool ok]) (V := .bool ok) (by rw [eval_tmp, get_put_ne (by decide), get_put_eq (by simp only [size_put, hnt, hn96]; decide)]) rfl) ?_
    rw [p7_4.2.2.1]
    refine ops_val p7_5.1 p7_5.2.1 (run_assignO p7_5.2.2.2) ?_
    rw [p7_5.2.2.1, eval_tmp, get_put_ne (by decide), get_put_eq (by simp only [size_put, hnt, hn96]; decide)]
    refine ops_val p7_6.1 p7_6.2.1 (run_assignO p7_6.2.2.2) ?_
    rw [p7_6.2.2.1, eval_tmp, get_put_ne (by decide), get_put_eq (by simp only [size_put, hnt, hn96]; decide)]
    refine ⟨rfl, w7, M', VL, S, ?_, by simp only [size_put, hnt], by simp only [defers_put]; exact hd, fun u u1 u2 u3 u4 u5 u6 u7 => ?_, ?_, get_put_eq (by simp only [size_put, hnt, hn96]; decide), g1, g2, g3, g4⟩
    · exact R'.weaken (fun κ q => ⟨q.1, by have := q.2; omega⟩)
    · rw [get_put_ne u7, get_put_ne u6, get_put_ne u5, get_put_ne u4, get_put_ne u3, get_put_ne u2, get_put_ne u1]
    · rw [get_put_ne (by decide), get_put_eq (by simp only [size_put, hnt, hn96]; decide)]
  obtain ⟨e, ac', w8, ⟨rfl, w7, M, VL, S, R, k1, k2, k3, k4, k5, k6, k7, k8, k9⟩, harr⟩ := W b0 (p7.tail ++ kk) cs
  clear W
  have g7 : Gr w7 w8 := Gr.below k6
  have nw1 : ∀ b o, ¬ wrt M0 (lf []) b o := fun b o ⟨κ, ob, z, _⟩ => by simp [lf] at z
  have lt7 : ∀ κ o, lf (hcA a s f t ws a s f t ws) κ = some o → κ < 7 := fun κ o q => (List.getElem?_eq_some_iff.1 q).1
  have hold : ∀ κ o b, κ < 6 → lf (hcA a s f t ws a s f t ws) κ = some o → blkO (mp3 M VL) κ o = some b → ∃ o', lk (lwZ.s7 ws ok a s f t a s f t).h κ = some o' ∧ blkO M κ o' = some b ∧ wcell o' 0 ∧ ∀ x, wcell o x → wcell o' x := by
    intro κ o b hk q1 q2
    match κ, hk with
    | 0, _ => cases q1; exact ⟨_, rfl, q2, rfl, fun x z => by cases z⟩
    | 1, _ => cases q1; exact ⟨_, rfl, q2, .inl rfl, fun x z => .inl rfl⟩
    | 2, _ => cases q1; exact ⟨_, rfl, q2, rfl, fun x z => rfl⟩
    | 3, _ => cases q1; exact ⟨_, rfl, q2, .inl rfl, fun x z => .inl rfl⟩
    | 4, _ => cases q1; exact ⟨_, rfl, q2, .inl rfl, fun x z => .inl rfl⟩
    | 5, _ => cases q1; exact ⟨_, rfl, q2, .inl rfl, fun x z => .inl rfl⟩
  have hlt : ∀ κ o b, κ < 6 → lf (hcA a s f t ws a s f t ws) κ = some o → blkO (mp3 M VL) κ o = some b → b < w7.heap.size := fun κ o b hk q1 q2 => by
    obtain ⟨o', y1, y2, _⟩ := hold κ o b hk q1 q2
    exact blk_lt (R.objs κ o' y1) y2
  have hl : ∀ κ o b, κ < 6 → lf (hcA a s f t ws a s f t ws) κ = some o → blkO (mp3 M VL) κ o = some b → w1.heap.size ≤ b := fun κ o b hk q1 q2 => by
    obtain ⟨o', y1, y2, y3, _⟩ := hold κ o b hk q1 q2
    apply Classical.byContradiction
    intro hn
    exact nw1 b 0 (R.mold b 0 (Nat.lt_of_not_le hn) ⟨κ, o', y1, y2, y3⟩)
  have b6 : ∀ o b, lf (hcA a s f t ws a s f t ws) 6 = some o → blkO (mp3 M VL) 6 o = some b → VL.ownBlock = some b := fun o b q1 q2 => by
    cases q1; exact q2
  have h6 : ∀ o b, lf (hcA a s f t ws a s f t ws) 6 = some o → blkO (mp3 M VL) 6 o = some b → w7.heap.size ≤ b := fun o b q1 q2 => k9 b (.inl (b6 o b q1 q2))
  have hwrt : ∀ b o, b < w7.heap.size → wrt (mp3 M VL) (lf (hcA a s f t ws a s f t ws)) b o → wrt M (lk (lwZ.s7 ws ok a s f t a s f t).h) b o := by
    rintro b o hb ⟨κ, ob, z1, z2, z3⟩
    have := lt7 κ ob z1
    by_cases c : κ = 6
    · subst c
      have := h6 ob b z1 z2
      omega
    · obtain ⟨o', y1, y2, _, y3⟩ := hold κ ob b (by omega) z1 z2
      exact ⟨κ, o', y1, y2, y3 o z3⟩
  have kA : OkTo w7 w8 ((Cx.call false w1 M0 okT []).ok M (lk (lwZ.s7 ws ok a s f t a s f t).h)) (okB w7 (mp3 M VL) (hcA a s f t ws a s f t ws)) :=
    ⟨fun b o V hok hc => ⟨(cell_of_block (k6.block b (block_of_cell hc))).trans hc, block_of_cell hc, fun z => hok.1 (hwrt b o (block_of_cell hc) z)⟩, fun b _ => trivial, g7⟩
  have kB : OkTo w7 w8 ((Cx.call false w1 M0 okT []).ok M (lk (lwZ.s7 ws ok a s f t a s f t).h)) ((Cx.call false w8 (mp3 M VL) okT (hcA a s f t ws a s f t ws)).ok (mp3 M VL) (lf (hcA a s f t ws a s f t ws))) :=
    ⟨fun b o V hok hc => ⟨(cell_of_block (k6.block b (block_of_cell hc))).trans hc, fun z => hok.1 (hwrt b o (block_of_cell hc) z), fun _ => .inl trivial⟩, fun b _ => .inl trivial, g7⟩
  have box0 : ∀ ok', OkTo w7 w8 ((Cx.call false w1 M0 okT []).ok M (lk (lwZ.s7 ws ok a s f t a s f t).h)) ok' → OR w8 ok' (mp3 M VL) 0 (.box true [.int .i64 a, .imm (.I .i64 s), .imm (.I .i64 f), .imm (.T t)]) := by
    intro ok' hk
    obtain ⟨b, c, e, h1, h2, h3, h4⟩ := R.objs 0 _ rfl
    refine ⟨b, c, e, h1, (k6.block b (Array.getElem?_eq_some_iff.1 h2).1).trans h2, h3, fun j v V p q => ?_⟩
    have hv := h4 j v V p q
    match j with
    | 0 => cases p; rw [hv.int_inv]; exact .closed (.int _ _)
    | 1 => cases p; exact .closed (hv.imm_inv.mono hk)
    | 2 => cases p; exact .closed (hv.imm_inv.mono hk)
    | 3 => cases p; exact .closed (hv.imm_inv.mono hk)
    | j + 4 => cases p
  have arrO : ∀ ok' κ e c ao ao', κ < 6 → OkTo w7 w8 ((Cx.call false w1 M0 okT []).ok M (lk (lwZ.s7 ws ok a s f t a s f t).h)) ok' → OR w7 ((Cx.call false w1 M0 okT []).ok M (lk (lwZ.s7 ws ok a s f t a s f t).h)) M κ (.arr e 0 c ao) → OR w8 ok' (mp3 M VL) κ (.arr e 0 c ao') := by
    intro ok' κ e c ao ao' hk6 hk h
    obtain ⟨V, xs, h1, h2, h3, h4⟩ := h
    refine ⟨V, xs, by simp only [mp3, if_true, if_pos hk6]; exact h1, by simp only [mp3, if_pos hk6]; exact h2, ⟨h3.1, ?_⟩, fun i j hi hj => ?_⟩
    · rcases h3.2 with e | ⟨g, cap, cur, e, y1, y2, y3⟩
      · exact .inl e
      · exact .inr ⟨g, cap, cur, e, y1, y2.move (k6.block g y2.lt), y3⟩
    · obtain ⟨v, q1, q2⟩ := h4 i j hi hj
      exact ⟨v, q1, q2.mono hk⟩
  have E : Entry w8 (mp3 M VL) okT [] (hcA a s f t ws a s f t ws) #[] := {
    len := rfl
    args := fun i v V p q => by simp at p
    objs := fun κ o q => by
      have hk := lt7 κ o q
      match κ, hk with
      | 0, _ => cases q; exact box0 _ kB
      | 1, _ => cases q; exact arrO _ 1 49 _ false true (by omega) kB (R.objs 1 _ rfl)
      | 2, _ =>
        cases q
        obtain ⟨b, c, e, h1, h2, h3, h4⟩ := R.objs 2 _ rfl
        refine ⟨b, c, e, h1, (k6.block b (Array.getElem?_eq_some_iff.1 h2).1).trans h2, h3, fun j v V p q => ?_⟩
        have hv := h4 j v V p q
        match j with
        | 0 => cases p; rw [hv.int_inv]; exact .closed (.int _ _)
        | 1 => cases p; obtain ⟨A1, n, cap, q1, q2⟩ := hv.sl_inv; rw [q2]; exact .sl 3 0 A1 n cap q1
        | 2 => cases p; obtain ⟨A1, n, cap, q1, q2⟩ := hv.sl_inv; rw [q2]; exact .sl 4 0 A1 n cap q1
        | 3 => cases p; obtain ⟨A1, n, cap, q1, q2⟩ := hv.sl_inv; rw [q2]; exact .sl 5 0 A1 n cap q1
        | j + 4 => cases p
      | 3, _ => cases q; exact arrO _ 3 3 _ false false (by omega) kB (R.objs 3 _ rfl)
      | 4, _ => cases q; exact arrO _ 4 3 _ false false (by omega) kB (R.objs 4 _ rfl)
      | 5, _ => cases q; exact arrO _ 5 69 _ false false (by omega) kB (R.objs 5 _ rfl)
      | 6, _ =>
        cases q
        refine out_OR k7 rfl rfl (fun i e he => ints_row (k8 i e he) (fun b o hb => ⟨?_, fun _ => .inl trivial⟩) (fun b _ => .inl trivial))
        rintro ⟨κ, ob, z1, z2, z3⟩
        have hi := (List.getElem?_eq_some_iff.1 he).1
        have hk := lt7 κ ob z1
        by_cases c : κ = 6
        · subst c
          have z2 := b6 ob b z1 z2
          rcases k7 with ⟨e, _⟩ | ⟨B, cap, e, hO⟩
          · rw [e] at z2; cases z2
          · rw [e] at z2; cases z2
            exact hO.ne k8 hi hb
        · have := hlt κ ob b (by omega) z1 z2
          have := k9 b (.inr ⟨i, hi, hb⟩)
          omega
    inj := fun κ κ' o o' b q q' z z' => by
      have h1 := lt7 κ o q
      have h2 := lt7 κ' o' q'
      by_cases c : κ = 6
      · by_cases c' : κ' = 6
        · omega
        · subst c
          have := h6 o b q z
          have := hlt κ' o' b (by omega) q' z'
          omega
      · by_cases c' : κ' = 6
        · subst c'
          have := h6 o' b q' z'
          have := hlt κ o b (by omega) q z
          omega
        · obtain ⟨o1, y1, y2, _⟩ := hold κ o b (by omega) q z
          obtain ⟨o2, z1, z2, _⟩ := hold κ' o' b (by omega) q' z'
          exact R.inj κ κ' o1 o2 b y1 z1 y2 z2
    cur0 := fun κ o q => by
      have hk := lt7 κ o q
      match κ, hk with
      | 0, _ => cases q; rfl
      | 1, _ => cases q; rfl
      | 2, _ => cases q; rfl
      | 3, _ => cases q; rfl
      | 4, _ => cases q; rfl
      | 5, _ => cases q; rfl
      | 6, _ => cases q; rfl
    acell := fun κ ob b o _ _ _ => .inl trivial
    clean := fun κ hk => by
      have hk : 7 ≤ κ := hk
      refine ⟨by simp only [mp3]; rw [if_neg (by omega)], by simp only [mp3]; rw [if_neg (by omega), if_neg (by omega)], fun v => ?_⟩
      simp only [mp3]; split
      · rw [if_neg (by omega), if_neg (by omega)]
      · rfl
    clean1 := fun κ v hv => by simp only [mp3]; rw [if_neg (by omega)]
    vers := fun κ v V q => by
      simp only [mp3] at q
      split at q
      · split at q
        · exact R.vers _ _ _ q
        · split at q
          · obtain rfl := Option.some.inj q
            rcases k7 with ⟨e, _⟩ | ⟨B, cap, e, _⟩
            · exact ⟨_, _, _, e⟩
            · exact ⟨_, _, _, e⟩
          · cases q
      · cases q }
  have hb7 : Below w1.heap.size w1 w7 := below_rel' R (Below.refl _ _) fun κ o b q => by simp [lf] at q
  have A : At8 a s f t ws w1 w7 w8 (mp3 M VL) VL S := {
    E := E
    hVL := rfl
    hlt := hlt
    hl := hl
    hge := k9
    hO := k7
    hI := k8
    h78 := k6.size
    h17 := R.size
    hb8 := hb7.trans ⟨k6.os, k6.tape, k6.output, k6.size, fun b hb => k6.block b (Nat.lt_of_lt_of_le hb R.size)⟩
    o0 := box0 _ kA
    o1 := arrO _ 1 49 _ false true (by omega) kA (R.objs 1 _ rfl) }
  have R0 := E.rel false
  have e0 : lk (lwA.s0 ok ok a s f t ws a s f t ws).h = lf (hcA a s f t ws a s f t ws) := zip_lk (hcA a s f t ws a s f t ws)
  have R8 : Rel (Cx.call false w8 (mp3 M VL) okT (hcA a s f t ws a s f t ws)) (fun κ => 20 ≤ κ) (mp3 M VL) (getT (lwA.s0 ok ok a s f t ws a s f t ws).t) (lk (lwA.s0 ok ok a s f t ws a s f t ws).h) ac'.tmps w8 := by
    rw [e0]
    refine { R0.weaken (fun κ q => by have : 7 + 2 ≤ κ := by omega
                                      exact this) with temps := fun i => ?_ }
    show VR w8 _ (mp3 M VL) (getT [(1, .ptr 0 0), (4, .sl 1 0), (5, .lit ok), (6, .ptr 2 0), (7, .sl 6 0), (8, .lit ok)] i) (ac'.tmps.getD i undef)
    rw [getT_cons]
    split
    · rename_i c; subst c
      rw [k3 1 (by decide) (by decide) (by decide) (by decide) (by decide) (by decide) (by decide)]
      obtain ⟨b, q1, q2⟩ := VR.ptr_inv (show VR w7 _ M (.ptr 0 0) (ac.tmps.getD 1 undef) from R.temps 1)
      rw [q2]
      exact .ptr 0 0 b q1
    rw [getT_cons]
    split
    · rename_i c; subst c
      rw [k3 4 (by decide) (by decide) (by decide) (by decide) (by decide) (by decide) (by decide)]
      obtain ⟨A1, n, cap, q1, q2⟩ := VR.sl_inv (show VR w7 _ M (.sl 1 0) (ac.tmps.getD 4 undef) from R.temps 4)
      rw [q2]
      exact .sl 1 0 A1 n cap q1
    rw [getT_cons]
    split
    · rename_i c; subst c
      rw [k3 5 (by decide) (by decide) (by decide) (by decide) (by decide) (by decide) (by decide)]
      rw [VR.lit_inv (show VR w7 _ M (.lit ok) (ac.tmps.getD 5 undef) from R.temps 5)]
      exact .closed (.lit _)
    rw [getT_cons]
    split
    · rename_i c; subst c
      rw [k3 6 (by decide) (by decide) (by decide) (by decide) (by decide) (by decide) (by decide)]
      obtain ⟨b, q1, q2⟩ := VR.ptr_inv (show VR w7 _ M (.ptr 2 0) (ac.tmps.getD 6 undef) from R.temps 6)
      rw [q2]
      exact .ptr 2 0 b q1
    rw [getT_cons]
    split
    · rename_i c; subst c
      rw [k4]
      rcases k7 with ⟨e, _⟩ | ⟨B, cap, e, _⟩
      · subst e; exact .sl 6 0 none 0 0 rfl
      · subst e; exact .sl 6 0 _ _ _ rfl
    rw [getT_cons]
    split
    · rename_i c; subst c
      rw [k5]
      exact .closed (.lit _)
    exact .dead _
  obtain ⟨e2, a2, w2, x1, x2, x3⟩ := goodA pf (w1 := w1) (w := w8) (M := mp3 M VL) (at17 pf A) (mp3 M VL) ac' w8 R8 k1 k2 b0 kk cs
  refine ⟨e2, a2, w2, x1, x2, ?_⟩
  have e3 : p7 ++ kk = .code (.region 7 (opsAt p7) false) :: (p7.tail ++ kk) := congrArg (· ++ kk) point7
  show Arrives _ (lone (b0.at ac (p7 ++ kk)) cs w) _ _ _ _ _ _
  rw [e3]
  exact .of_steps harr x3
end
end Go.Proofs.Ytfgoojnblomonaa.V
end
section
set_option linter.unusedVariables false
set_option linter.unusedSimpArgs false
namespace Go.Proofs.Ytfgoojnblomonaa.V
open Go Go.Proofs.Ytfgoojnblomonaa.R Go.RowKit
def PureWE (a : Int) (s f : List Int) (t : List Stp) : Prop := ∃ k t1, laws_szAutomaton.f k a s f t 1048576 = some t1 ∧ (t1 < 0 ∨ ∃ ws ok ma ms, PF k a s f t ws ok ma ms)
theorem we_law {a : Int} {s f : List Int} {t : List Stp} (h : PureWE a s f t) {w : World} {vs : Array Value} (hl : 1 = vs.size) (ha : ∀ (i : Nat) (v : AV) (V : Value), [AV.agg [.int .i64 a, .imm (.I .i64 s), .imm (.I .i64 f), .imm (.T t)]][i]? = some v → vs[i]? = some V → VR w okT M0 v V) :
    Calls Try.prog 3 vs w fun e w' => e = .returned (.bool true) ∧ Below w.heap.size w w' := by
  obtain ⟨k, t1, hsz, h⟩ := h
  have hb : Try.f3.body = some (bodyOf Try.f3) := by kernel_rfl
  refine enterQ (fn := Try.f3) (I := okT) (M := M0) (args := [.agg [.int .i64 a, .imm (.I .i64 s), .imm (.I .i64 f), .imm (.T t)]]) Try.func3 hb (entry0 hl ha) (by show 1 ≤ Try.f3.ntmps; rw [show Try.f3.ntmps = 96 from by kernel_rfl]; decide) (V := .bool true) (Z := fun w' => Below w.heap.size w w') ?_
  have hfin : ∀ a' w', FinOK Try.prog (Cx.call false w M0 okT []) Try.f3 (.lit true, []) a' w' → QL w a' w' := by
    rintro a' w' ⟨hd, V, M1, x2, R, hv⟩
    obtain rfl := VR.lit_inv (show VR w' _ M1 (.lit true) V from hv)
    exact ⟨hd, x2, below_rel' R (Below.refl _ _) fun κ o b q => by simp [lf] at q⟩
  by_cases c : t1 < 0
  · refine seg_soundQ (Q := QL w) (fh := lwZ.fh) (H := xhn) (regSound _ _) (res := (.lit true, [])) hfin (lwZ.Oo k) (nxt := fun _ _ => none) (fun _ _ q => by cases q) _ _ _ ((lwZ.e k a s f t _).trans ?_)
    simp only [hsz, Option.bind_some, if_pos c]
  · obtain ⟨ws, ok, ma, ms, pf⟩ := h.resolve_left c
    refine seg_soundQ (Q := QL w) (fh := lwZ.fh) (H := xhn) (regSound _ _) (res := (.lit true, [])) hfin (lwZ.Oo k) (nxt := nx1 (R.point Try.f3 7) (lwZ.s7 ws ok a s f t a s f t) (.lit true, [])) (nx1_good (at7 pf w)) _ _ _ ((lwZ.e k a s f t _).trans ?_)
    simp only [hsz, pf.toA, pf.spec, Option.bind_some, if_neg c, nx1_self]
end Go.Proofs.Ytfgoojnblomonaa.V
end
