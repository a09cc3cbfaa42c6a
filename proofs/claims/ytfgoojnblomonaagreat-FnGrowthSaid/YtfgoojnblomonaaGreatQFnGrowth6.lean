import Derived.Test.YtfgoojnblomonaaGreatQFnGrowth5
import Derived.Test.YtfgoojnblomonaaGreatQFnGrowth2
import Derived.Test.YtfgoojnblomonaaGreatQFnGrowth4
import Derived.Test.YtfgoojnblomonaaGreatProg
import Derived.WalkKit
import Derived.ProofKit
import Derived.Lib.Bytealg
section
set_option linter.unusedVariables false
set_option linter.unusedSimpArgs false
namespace Go.Proofs.YtfgoojnblomonaaGreat.V
open Go Go.Proofs.YtfgoojnblomonaaGreat.R Go.RowKit
mutual
def impl_expand.l0 : Nat → Int → ByteArray → (List Part) → Int → Int → Option (ByteArray × Bool)
  | 0, _, _, _, _, _ => none
  | k + 1, x1, x6, x12, x13, x14 => (if x14 < x13 then (if 0 ≤ x14 then (if x14 < (x12.length : Int) then (if (rdP x12 x14).f0.toList = ([] : List UInt8) then ((impl_expand.f k ((rdP x12 x14).f1) x1).bind fun t1 => (if t1.2 = true then (if (t1.1.size : Int) = 0 then none else (if x1 > (wrap64 ((wrap64 (1000 - (x6.size : Int))).tdiv (t1.1.size : Int))) then (some ((⟨#[]⟩ : ByteArray), false)) else ((strings_Repeat.f t1.1 x1).bind fun t2 => (if x6.size + t2.size ≤ 9223372036854775807 then (impl_expand.l0 k x1 (x6 ++ t2) x12 x13 (wrap64 (x14 + 1))) else none)))) else (some ((⟨#[]⟩ : ByteArray), false)))) else (if ((rdP x12 x14).f0.size : Int) = 0 then none else (if 1 > (wrap64 ((wrap64 (1000 - (x6.size : Int))).tdiv ((rdP x12 x14).f0.size : Int))) then (some ((⟨#[]⟩ : ByteArray), false)) else ((strings_Repeat.f ((rdP x12 x14).f0) 1).bind fun t3 => (if x6.size + t3.size ≤ 9223372036854775807 then (impl_expand.l0 k x1 (x6 ++ t3) x12 x13 (wrap64 (x14 + 1))) else none))))) else none) else none) else (some (x6, true)))
def impl_expand.f : Nat → (List Part) → Int → Option (ByteArray × Bool)
  | 0, _, _ => none
  | k + 1, l0, a1 => (impl_expand.l0 k a1 (⟨#[]⟩ : ByteArray) l0 (l0.length : Int) 0)
end
def impl_expand.en (r : ByteArray × Bool) : Res := (.tup [.str r.1, .lit r.2], [])
def impl_expand.dec : List AV → List R.Obj → Option ((List Part) × Int)
  | [.imm (.P l0), .int .i64 a1], [] => some (l0, a1)
  | _, _ => none
def impl_expand.tw : Tw := ⟨29, (List Part) × Int, ByteArray × Bool, impl_expand.dec, fun a => [.imm (.P a.1), .int .i64 a.2], fun a => [], fun k a => impl_expand.f k a.1 a.2, fun a r => impl_expand.en r, false⟩
theorem impl_expand.dok : impl_expand.tw.DecOk := by
  intro args hc a h
  have h : impl_expand.dec args hc = some a := h
  unfold impl_expand.dec at h
  split at h
  · cases h; exact ⟨rfl, rfl⟩
  · cases h
noncomputable def impl_expand.O (k : Nat) : Oracle := (strings_Repeat.tw.orc k (impl_expand.tw.orc k noO))
def impl_expand.fh : FH := ⟨fun i => match i with | 3 => some [(1, 0), (6, 0), (12, 0), (13, 0), (14, 0)] | _ => none, [], false⟩
noncomputable def impl_expand.x0 (k : Nat) (x1 : Int) (x6 : ByteArray) (x12 : List Part) (x13 : Int) (x14 : Int) : Option Res := R.exec Tryz.prog xhn impl_expand.O 0 Tryz.f29 impl_expand.fh k (R.point Tryz.f29 3) ⟨[(1, .int .i64 x1), (6, .str x6), (12, .imm (.P x12)), (13, .int .i64 x13), (14, .int .i64 x14)], [], 2⟩
set_option maxRecDepth 100000 in
theorem impl_expand.e0 (k : Nat) (x1 : Int) (x6 : ByteArray) (x12 : List Part) (x13 : Int) (x14 : Int) : impl_expand.x0 (k + 1) x1 x6 x12 x13 x14 = (if x14 < x13 then (if 0 ≤ x14 then (if x14 < (x12.length : Int) then (if (rdP x12 x14).f0.toList = ([] : List UInt8) then ((impl_expand.f k ((rdP x12 x14).f1) x1).bind fun t1 => (if t1.2 = true then (if (t1.1.size : Int) = 0 then none else (if x1 > (wr64 ((wr64 (1000 - (x6.size : Int))).tdiv (t1.1.size : Int))) then (some (impl_expand.en ((⟨#[]⟩ : ByteArray), false))) else ((strings_Repeat.f t1.1 x1).bind fun t2 => (if x6.size + t2.size ≤ 9223372036854775807 then (impl_expand.x0 k x1 (x6 ++ t2) x12 x13 (wr64 (x14 + 1))) else none)))) else (some (impl_expand.en ((⟨#[]⟩ : ByteArray), false))))) else (if ((rdP x12 x14).f0.size : Int) = 0 then none else (if 1 > (wr64 ((wr64 (1000 - (x6.size : Int))).tdiv ((rdP x12 x14).f0.size : Int))) then (some (impl_expand.en ((⟨#[]⟩ : ByteArray), false))) else ((strings_Repeat.f ((rdP x12 x14).f0) 1).bind fun t3 => (if x6.size + t3.size ≤ 9223372036854775807 then (impl_expand.x0 k x1 (x6 ++ t3) x12 x13 (wr64 (x14 + 1))) else none))))) else none) else none) else (some (impl_expand.en (x6, true)))) := by kernel_rfl
set_option maxRecDepth 100000 in
theorem impl_expand.ef (k : Nat) (l0 : List Part) (a1 : Int) : R.start Tryz.prog xhn impl_expand.O 0 Tryz.f29 impl_expand.fh k [.imm (.P l0), .int .i64 a1] [] = (impl_expand.x0 k a1 (⟨#[]⟩ : ByteArray) l0 (l0.length : Int) 0) := by kernel_rfl
theorem impl_expand.link : ∀ k, (∀ (x1 : Int) (x6 : ByteArray) (x12 : List Part) (x13 : Int) (x14 : Int), impl_expand.x0 k x1 x6 x12 x13 x14 = (impl_expand.l0 k x1 x6 x12 x13 x14).map (impl_expand.en))
  | 0 => fun _ _ _ _ _ => by simp only [impl_expand.l0, R.map_none]; rfl
  | k + 1 => by
    have ih0 := impl_expand.link k
    · intro x1 x6 x12 x13 x14
      rw [impl_expand.e0]
      simp only [impl_expand.l0, R.map_ite, R.map_bind, R.map_none, R.map_some, R.wr64_eq, ← ih0]
theorem impl_expand.sf (k : Nat) (l0 : List Part) (a1 : Int) : R.start Tryz.prog xhn impl_expand.O 0 Tryz.f29 impl_expand.fh k [.imm (.P l0), .int .i64 a1] [] = (impl_expand.f (k + 1) l0 a1).map (impl_expand.en) := by
  have ih0 := impl_expand.link k
  rw [impl_expand.ef]
  simp only [impl_expand.f, R.map_ite, R.map_bind, R.map_none, R.map_some, R.wr64_eq, ← ih0]
theorem impl_expand.ok : ∀ k, impl_expand.tw.Ok Tryz.prog k := by
  intro k
  induction k using Nat.strongRecOn with
  | ind k ih =>
    cases k with
    | zero =>
      intro md hmd a r h
      have h : impl_expand.f 0 a.1 a.2 = some r := h
      simp only [impl_expand.f] at h
      cases h
    | succ k =>
      intro md hmd a r h
      refine fn_ok (H := xhn) (fh := impl_expand.fh) (O := impl_expand.O) (k := k) Tryz.func29 (by kernel_rfl) (by kernel_rfl) (fun j hj => (Tw.orc_sound strings_Repeat.dok (strings_Repeat.ok j) (fun q => Bool.noConfusion (show false = true from hmd q)) (Tw.orc_sound impl_expand.dok (ih j (by omega)) (fun q => Bool.noConfusion (show false = true from hmd q)) noO_sound))) (by kernel_rfl) (m := 0) rfl ?_
      refine (impl_expand.sf k a.1 a.2).trans ?_
      exact congrArg (Option.map _) h
def impl_ExpandExpression.f (k : Nat) (a0 : ByteArray) (a1 : Int) : Option (ByteArray × Bool) := ((impl_parts.f k a0).bind fun t1 => (if t1.2 = true then (if a1 < 1 then (some ((⟨#[]⟩ : ByteArray), false)) else ((impl_expand.f k t1.1 a1).bind fun t2 => (some (t2.1, t2.2)))) else (some ((⟨#[]⟩ : ByteArray), false))))
def impl_ExpandExpression.en (r : ByteArray × Bool) : Res := (.tup [.str r.1, .lit r.2], [])
def impl_ExpandExpression.dec : List AV → List R.Obj → Option (ByteArray × Int)
  | [.str a0, .int .i64 a1], [] => some (a0, a1)
  | _, _ => none
def impl_ExpandExpression.tw : Tw := ⟨9, ByteArray × Int, ByteArray × Bool, impl_ExpandExpression.dec, fun a => [.str a.1, .int .i64 a.2], fun a => [], fun k a => impl_ExpandExpression.f k a.1 a.2, fun a r => impl_ExpandExpression.en r, false⟩
theorem impl_ExpandExpression.dok : impl_ExpandExpression.tw.DecOk := by
  intro args hc a h
  have h : impl_ExpandExpression.dec args hc = some a := h
  unfold impl_ExpandExpression.dec at h
  split at h
  · cases h; exact ⟨rfl, rfl⟩
  · cases h
noncomputable def impl_ExpandExpression.O (k : Nat) : Oracle := (impl_parts.tw.orc k (impl_expand.tw.orc k noO))
def impl_ExpandExpression.fh : FH := ⟨fun i => match i with | _ => none, [], false⟩
set_option maxRecDepth 100000 in
theorem impl_ExpandExpression.ef (k : Nat) (a0 : ByteArray) (a1 : Int) : R.start Tryz.prog xhn impl_ExpandExpression.O 0 Tryz.f9 impl_ExpandExpression.fh k [.str a0, .int .i64 a1] [] = ((impl_parts.f k a0).bind fun t1 => (if t1.2 = true then (if a1 < 1 then (some (impl_ExpandExpression.en ((⟨#[]⟩ : ByteArray), false))) else ((impl_expand.f k t1.1 a1).bind fun t2 => (some (impl_ExpandExpression.en (t2.1, t2.2))))) else (some (impl_ExpandExpression.en ((⟨#[]⟩ : ByteArray), false))))) := by kernel_rfl
theorem impl_ExpandExpression.sf (k : Nat) (a0 : ByteArray) (a1 : Int) : R.start Tryz.prog xhn impl_ExpandExpression.O 0 Tryz.f9 impl_ExpandExpression.fh k [.str a0, .int .i64 a1] [] = (impl_ExpandExpression.f k a0 a1).map (impl_ExpandExpression.en) := by
  rw [impl_ExpandExpression.ef]
  simp only [impl_ExpandExpression.f, R.map_ite, R.map_bind, R.map_none, R.map_some, R.wr64_eq]
theorem impl_ExpandExpression.ok (k : Nat) : impl_ExpandExpression.tw.Ok Tryz.prog k := by
  intro md hmd a r h
  refine fn_ok (H := xhn) (fh := impl_ExpandExpression.fh) (O := impl_ExpandExpression.O) (k := k) Tryz.func9 (by kernel_rfl) (by kernel_rfl) (fun j _ => (Tw.orc_sound impl_parts.dok (impl_parts.ok j) (fun _ => rfl) (Tw.orc_sound impl_expand.dok (impl_expand.ok j) (fun q => Bool.noConfusion (show false = true from hmd q)) noO_sound))) (by kernel_rfl) (m := 0) rfl ?_
  refine (impl_ExpandExpression.sf k a.1 a.2).trans ?_
  exact congrArg (Option.map _) h
def impl_WordValid.l0 : Nat → ByteArray → Int → Int → Option (Bool)
  | 0, _, _, _ => none
  | k + 1, x0, x5, x6 => (if x6 < x5 then (if 0 ≤ x6 then (if x6 < (x0.size : Int) then (if (btI x0 x6) = 97 then (impl_WordValid.l0 k x0 x5 (wrap64 (x6 + 1))) else (if (btI x0 x6) = 98 then (impl_WordValid.l0 k x0 x5 (wrap64 (x6 + 1))) else (some false))) else none) else none) else (some (decide ((x0.size : Int) ≤ 1000))))
def impl_WordValid.f (k : Nat) (a0 : ByteArray) : Option (Bool) := (impl_WordValid.l0 k a0 (a0.size : Int) 0)
def impl_WordValid.en (r : Bool) : Res := (.lit r, [])
def impl_WordValid.dec : List AV → List R.Obj → Option (ByteArray)
  | [.str a0], [] => some a0
  | _, _ => none
def impl_WordValid.tw : Tw := ⟨30, ByteArray, Bool, impl_WordValid.dec, fun a => [.str a], fun a => [], fun k a => impl_WordValid.f k a, fun a r => impl_WordValid.en r, true⟩
theorem impl_WordValid.dok : impl_WordValid.tw.DecOk := by
  intro args hc a h
  have h : impl_WordValid.dec args hc = some a := h
  unfold impl_WordValid.dec at h
  split at h
  · cases h; exact ⟨rfl, rfl⟩
  · cases h
noncomputable def impl_WordValid.O (k : Nat) : Oracle := noO
def impl_WordValid.fh : FH := ⟨fun i => match i with | 2 => some [(0, 0), (5, 0), (6, 0)] | _ => none, [], false⟩
noncomputable def impl_WordValid.x0 (k : Nat) (x0 : ByteArray) (x5 : Int) (x6 : Int) : Option Res := R.exec Tryz.prog xhn impl_WordValid.O 0 Tryz.f30 impl_WordValid.fh k (R.point Tryz.f30 2) ⟨[(0, .str x0), (5, .int .i64 x5), (6, .int .i64 x6)], [], 2⟩
set_option maxRecDepth 100000 in
theorem impl_WordValid.e0 (k : Nat) (x0 : ByteArray) (x5 : Int) (x6 : Int) : impl_WordValid.x0 (k + 1) x0 x5 x6 = (if x6 < x5 then (if 0 ≤ x6 then (if x6 < (x0.size : Int) then (if (btI x0 x6) = 97 then (impl_WordValid.x0 k x0 x5 (wr64 (x6 + 1))) else (if (btI x0 x6) = 98 then (impl_WordValid.x0 k x0 x5 (wr64 (x6 + 1))) else (some (impl_WordValid.en false)))) else none) else none) else (some (impl_WordValid.en (decide ((x0.size : Int) ≤ 1000))))) := by
  refine Eq.trans ?_ (R.icong (fun h0 => (R.icong (fun h1 => (R.icong (fun h2 => (R.icong (fun h3 => rfl) (fun h3 => (R.idropT (p := 0 ≤ x6) (z := none) h1 (R.idropT (p := x6 < (x0.size : Int)) (z := none) h2 rfl))))) (fun h2 => rfl))) (fun h1 => rfl))) (fun h0 => rfl))
  kernel_rfl
set_option maxRecDepth 100000 in
theorem impl_WordValid.ef (k : Nat) (a0 : ByteArray) : R.start Tryz.prog xhn impl_WordValid.O 0 Tryz.f30 impl_WordValid.fh k [.str a0] [] = (impl_WordValid.x0 k a0 (a0.size : Int) 0) := by kernel_rfl
theorem impl_WordValid.link : ∀ k, (∀ (x0 : ByteArray) (x5 : Int) (x6 : Int), impl_WordValid.x0 k x0 x5 x6 = (impl_WordValid.l0 k x0 x5 x6).map (impl_WordValid.en))
  | 0 => fun _ _ _ => by simp only [impl_WordValid.l0, R.map_none]; rfl
  | k + 1 => by
    have ih0 := impl_WordValid.link k
    · intro x0 x5 x6
      rw [impl_WordValid.e0]
      simp only [impl_WordValid.l0, R.map_ite, R.map_bind, R.map_none, R.map_some, R.wr64_eq, ← ih0]
theorem impl_WordValid.sf (k : Nat) (a0 : ByteArray) : R.start Tryz.prog xhn impl_WordValid.O 0 Tryz.f30 impl_WordValid.fh k [.str a0] [] = (impl_WordValid.f k a0).map (impl_WordValid.en) := by
  have ih0 := impl_WordValid.link k
  rw [impl_WordValid.ef]
  simp only [impl_WordValid.f, R.map_ite, R.map_bind, R.map_none, R.map_some, R.wr64_eq, ← ih0]
theorem impl_WordValid.ok (k : Nat) : impl_WordValid.tw.Ok Tryz.prog k := by
  intro md hmd a r h
  refine fn_ok (H := xhn) (fh := impl_WordValid.fh) (O := impl_WordValid.O) (k := k) Tryz.func30 (by kernel_rfl) (by kernel_rfl) (fun j _ => noO_sound) (by kernel_rfl) (m := 0) rfl ?_
  refine (impl_WordValid.sf k a).trans ?_
  exact congrArg (Option.map _) h
def slices_Repeat_int_int.f (l0 : List Int) (a1 : Int) : Option (List Int) := if l0.length = 1 ∧ 1 ≤ a1 ∧ a1 ≤ 4 then some (List.replicate a1.toNat (rdI l0 0)) else none
def slices_Repeat_int_int.dec : List AV → List R.Obj → Option (List Int × Int)
  | [.imm (.I .i64 l0), .int .i64 a1], [] => some (l0, a1)
  | _, _ => none
def slices_Repeat_int_int.tw : Tw := ⟨85, List Int × Int, List Int, slices_Repeat_int_int.dec, fun a => [.imm (.I .i64 a.1), .int .i64 a.2], fun a => [], fun k a => slices_Repeat_int_int.f a.1 a.2, fun a r => (.sl 0 0, [.arr 3 0 (.I .i64 r) false]), false⟩
theorem slices_Repeat_int_int.dok : slices_Repeat_int_int.tw.DecOk := by
  intro args hc a h
  have h : slices_Repeat_int_int.dec args hc = some a := h
  unfold slices_Repeat_int_int.dec at h
  split at h
  · cases h; exact ⟨rfl, rfl⟩
  · cases h
open Go.Proofs.YtfgoojnblomonaaGreatW.PrintWords in
theorem slices_Repeat_int_int.ok (k : Nat) : slices_Repeat_int_int.tw.Ok Tryz.prog k := by
  rintro md hmd ⟨l0, a1⟩ r h
  have h : slices_Repeat_int_int.f l0 a1 = some r := h
  refine ⟨callable_of Tryz.func85 (by kernel_rfl) (by kernel_rfl), fun w M I vs E => ?_⟩
  obtain ⟨V0, hV0⟩ : ∃ V0, vs[0]? = some V0 := ⟨vs[0]'(by have := E.len; have : 2 = vs.size := this; omega), Array.getElem?_eq_getElem _⟩
  have e : vs = #[V0, .int .i64 a1] := two_of E.len (fun q => Option.some.inj (q.symm.trans hV0)) (fun q => (E.args 1 _ _ rfl q).int_inv)
  obtain ⟨A0, c0, hs, hc, ha, hcell⟩ := (E.args 0 _ _ rfl hV0).imm_inv.imm_at
  subst hs
  subst e
  have hl : l0.length = 1 := by
    unfold slices_Repeat_int_int.f at h
    split at h
    · rename_i g; exact g.1
    · cases h
  have hr0 : Kd.C (Kd.int .i64) w A0 l0.length l0 := by
    refine ⟨rfl, by omega, fun hp => ?_⟩
    obtain ⟨b, o, rfl⟩ := ha hp
    refine ⟨_, rfl, fun j p hj => ⟨[.int .i64 p], rfl, rfl, fun i u hi => ?_⟩⟩
    have hjl : j < l0.length := (List.getElem?_eq_some_iff.1 hj).1
    match i with
    | 0 =>
      simp only [List.getElem?_cons_zero, Option.some.injEq] at hi
      subst hi
      obtain ⟨v, q1, _, q2⟩ := hcell b o rfl j 0 hjl (by simp [Ct.sz])
      have e1 : (Ct.I .i64 l0).sz = 1 := rfl
      rw [e1, Nat.mul_one, Nat.add_zero] at q1
      have e2 := (VR.closed (M := M) q2).int_inv
      rw [R.add_at, show (Kd.int IntKind.i64).sz = 1 from rfl, Nat.mul_one, Nat.add_zero, q1, e2]
      have e3 : rdI l0 (j : Int) = p := by simp [rdI, hj]
      exact congrArg (fun z => some (Value.int .i64 z)) e3
    | i + 1 => simp at hi
  refine (X.slices_Repeat_int_int.calls A0 c0 l0 a1 r w hr0 hc h).mono fun e w' => ?_
  rintro ⟨v, rfl, hR, hB⟩
  exact ext_ints (Kd.own_of_R (enc := Value.int .i64) (h1 := fun _ => rfl) hR) hB (fun q => Bool.noConfusion (show false = true from hmd q))
mutual
def impl_toEnd.l0 : Nat → ByteArray → (List Int) → (List Int) → Int → Int → Int → (List Int) → (List Int) → (List Stp) → Option (List (List Int))
  | 0, _, _, _, _, _, _, _, _, _ => none
  | k + 1, x1, y1, x18, x19, x20, y0_0, y0_1, y0_2, y0_3 => (if x20 < x19 then (if 0 ≤ x20 then (if x20 < (x18.length : Int) then (if 0 ≤ (rdI x18 x20) then (if (rdI x18 x20) < (y1.length : Int) then (impl_toEnd.l0 k x1 (y1.set (rdI x18 x20).toNat 0) x18 x19 (wrap64 (x20 + 1)) y0_0 y0_1 y0_2 y0_3) else none) else none) else none) else none) else (impl_toEnd.l1 k x1 y1 ([y1]) (wrap64 ((x1.size : Int) - 1)) y0_0 y0_1 y0_2 y0_3))
def impl_toEnd.l1 : Nat → ByteArray → (List Int) → (List (List Int)) → Int → Int → (List Int) → (List Int) → (List Stp) → Option (List (List Int))
  | 0, _, _, _, _, _, _, _, _ => none
  | k + 1, x1, y1, y2, x9, y0_0, y0_1, y0_2, y0_3 => (if x9 ≥ 0 then ((slices_Repeat_int_int.f ([1000000]) y0_0).bind fun t2 => (impl_toEnd.l2 k x1 y1 y2 x9 t2 y0_3 (y0_3.length : Int) 0 y0_0 y0_1 y0_2 y0_3)) else (some y2))
def impl_toEnd.l2 : Nat → ByteArray → (List Int) → (List (List Int)) → Int → (List Int) → (List Stp) → Int → Int → Int → (List Int) → (List Int) → (List Stp) → Option (List (List Int))
  | 0, _, _, _, _, _, _, _, _, _, _, _, _ => none
  | k + 1, x1, y1, y2, x9, y3, x42, x43, x44, y0_0, y0_1, y0_2, y0_3 => (if x44 < x43 then (if 0 ≤ x44 then (if x44 < (x42.length : Int) then (if 0 ≤ x9 then (if x9 ≤ (wrap64 (x9 + 1)) then (if (wrap64 (x9 + 1)) ≤ (x1.size : Int) then (if (rdT x42 x44).f1.toList = (x1.extract x9.toNat (wrap64 (x9 + 1)).toNat).toList then (if 0 ≤ (rdT x42 x44).f0 then (if (rdT x42 x44).f0 < (y3.length : Int) then (if 0 ≤ (rdT x42 x44).f2 then (if (rdT x42 x44).f2 < (y1.length : Int) then (impl_toEnd.l2 k x1 y1 y2 x9 (y3.set (rdT x42 x44).f0.toNat (mn (rdI y3 (rdT x42 x44).f0) (wrap64 ((rdT x42 x44).f3 + (rdI y1 (rdT x42 x44).f2))))) x42 x43 (wrap64 (x44 + 1)) y0_0 y0_1 y0_2 y0_3) else none) else none) else none) else none) else (impl_toEnd.l2 k x1 y1 y2 x9 y3 x42 x43 (wrap64 (x44 + 1)) y0_0 y0_1 y0_2 y0_3)) else none) else none) else none) else none) else none) else (if y2.length < 5864062014805 then (impl_toEnd.l1 k x1 y3 (y2 ++ [y3]) (wrap64 (x9 - 1)) y0_0 y0_1 y0_2 y0_3) else none))
end
def impl_toEnd.f (k : Nat) (a0_0 : Int) (l0_1 : List Int) (l0_2 : List Int) (l0_3 : List Stp) (a1 : ByteArray) : Option (List (List Int)) := ((slices_Repeat_int_int.f ([1000000]) a0_0).bind fun t1 => (impl_toEnd.l0 k a1 t1 l0_2 (l0_2.length : Int) 0 a0_0 l0_1 l0_2 l0_3))
def impl_toEnd.en (r : List (List Int)) : Res := (.sl 0 0, [.arr 23 0 (.L r) false])
def impl_toEnd.dec : List AV → List R.Obj → Option (Int × (List Int) × (List Int) × (List Stp) × ByteArray)
  | [.agg [.int .i64 a0_0, .imm (.I .i64 l0_1), .imm (.I .i64 l0_2), .imm (.T l0_3)], .str a1], [] => some (a0_0, l0_1, l0_2, l0_3, a1)
  | _, _ => none
def impl_toEnd.tw : Tw := ⟨46, Int × (List Int) × (List Int) × (List Stp) × ByteArray, List (List Int), impl_toEnd.dec, fun a => [.agg [.int .i64 a.1, .imm (.I .i64 a.2.1), .imm (.I .i64 a.2.2.1), .imm (.T a.2.2.2.1)], .str a.2.2.2.2], fun a => [], fun k a => impl_toEnd.f k a.1 a.2.1 a.2.2.1 a.2.2.2.1 a.2.2.2.2, fun a r => impl_toEnd.en r, false⟩
theorem impl_toEnd.dok : impl_toEnd.tw.DecOk := by
  intro args hc a h
  have h : impl_toEnd.dec args hc = some a := h
  unfold impl_toEnd.dec at h
  split at h
  · cases h; exact ⟨rfl, rfl⟩
  · cases h
noncomputable def impl_toEnd.O (k : Nat) : Oracle := (slices_Repeat_int_int.tw.orc k noO)
def impl_toEnd.fh : FH := ⟨fun i => match i with | 3 => some [(1, 0), (2, 0), (5, 0), (18, 0), (19, 0), (20, 0)] | 9 => some [(1, 0), (2, 0), (5, 0), (8, 0), (9, 0)] | 13 => some [(1, 0), (2, 0), (5, 0), (8, 0), (9, 0), (10, 0), (42, 0), (43, 0), (44, 0)] | _ => none, [(true, 23)], false⟩
noncomputable def impl_toEnd.x0 (k : Nat) (x1 : ByteArray) (y1 : List Int) (x18 : List Int) (x19 : Int) (x20 : Int) (y0_0 : Int) (y0_1 : List Int) (y0_2 : List Int) (y0_3 : List Stp) : Option Res := R.exec Tryz.prog xhn impl_toEnd.O 0 Tryz.f46 impl_toEnd.fh k (R.point Tryz.f46 3) ⟨[(1, .str x1), (2, .ptr 0 0), (5, .sl 1 0), (18, .imm (.I .i64 x18)), (19, .int .i64 x19), (20, .int .i64 x20)], [(0, .box false [.int .i64 y0_0, .imm (.I .i64 y0_1), .imm (.I .i64 y0_2), .imm (.T y0_3)]), (1, .arr 3 0 (.I .i64 y1) false)], 4⟩
noncomputable def impl_toEnd.x1 (k : Nat) (x1 : ByteArray) (y1 : List Int) (y2 : List (List Int)) (x9 : Int) (y0_0 : Int) (y0_1 : List Int) (y0_2 : List Int) (y0_3 : List Stp) : Option Res := R.exec Tryz.prog xhn impl_toEnd.O 0 Tryz.f46 impl_toEnd.fh k (R.point Tryz.f46 9) ⟨[(1, .str x1), (2, .ptr 0 0), (5, .sl 1 0), (8, .sl 2 0), (9, .int .i64 x9)], [(0, .box false [.int .i64 y0_0, .imm (.I .i64 y0_1), .imm (.I .i64 y0_2), .imm (.T y0_3)]), (1, .arr 3 0 (.I .i64 y1) true), (2, .arr 23 0 (.L y2) false)], 5⟩
noncomputable def impl_toEnd.x2 (k : Nat) (x1 : ByteArray) (y1 : List Int) (y2 : List (List Int)) (x9 : Int) (y3 : List Int) (x42 : List Stp) (x43 : Int) (x44 : Int) (y0_0 : Int) (y0_1 : List Int) (y0_2 : List Int) (y0_3 : List Stp) : Option Res := R.exec Tryz.prog xhn impl_toEnd.O 0 Tryz.f46 impl_toEnd.fh k (R.point Tryz.f46 13) ⟨[(1, .str x1), (2, .ptr 0 0), (5, .sl 1 0), (8, .sl 2 0), (9, .int .i64 x9), (10, .sl 3 0), (42, .imm (.T x42)), (43, .int .i64 x43), (44, .int .i64 x44)], [(0, .box false [.int .i64 y0_0, .imm (.I .i64 y0_1), .imm (.I .i64 y0_2), .imm (.T y0_3)]), (1, .arr 3 0 (.I .i64 y1) true), (2, .arr 23 0 (.L y2) false), (3, .arr 3 0 (.I .i64 y3) false)], 6⟩
set_option maxRecDepth 100000 in
theorem impl_toEnd.e0 (k : Nat) (x1 : ByteArray) (y1 : List Int) (x18 : List Int) (x19 : Int) (x20 : Int) (y0_0 : Int) (y0_1 : List Int) (y0_2 : List Int) (y0_3 : List Stp) : impl_toEnd.x0 (k + 1) x1 y1 x18 x19 x20 y0_0 y0_1 y0_2 y0_3 = (if x20 < x19 then (if 0 ≤ x20 then (if x20 < (x18.length : Int) then (if 0 ≤ (rdI x18 x20) then (if (rdI x18 x20) < (y1.length : Int) then (impl_toEnd.x0 k x1 (y1.set (rdI x18 x20).toNat 0) x18 x19 (wr64 (x20 + 1)) y0_0 y0_1 y0_2 y0_3) else none) else none) else none) else none) else (impl_toEnd.x1 k x1 y1 ([y1]) (wr64 ((x1.size : Int) - 1)) y0_0 y0_1 y0_2 y0_3)) := by kernel_rfl
set_option maxRecDepth 100000 in
theorem impl_toEnd.e1 (k : Nat) (x1 : ByteArray) (y1 : List Int) (y2 : List (List Int)) (x9 : Int) (y0_0 : Int) (y0_1 : List Int) (y0_2 : List Int) (y0_3 : List Stp) : impl_toEnd.x1 (k + 1) x1 y1 y2 x9 y0_0 y0_1 y0_2 y0_3 = (if x9 ≥ 0 then ((slices_Repeat_int_int.f ([1000000]) y0_0).bind fun t2 => (impl_toEnd.x2 k x1 y1 y2 x9 t2 y0_3 (y0_3.length : Int) 0 y0_0 y0_1 y0_2 y0_3)) else (some (impl_toEnd.en y2))) := by kernel_rfl
set_option maxRecDepth 100000 in
theorem impl_toEnd.e2 (k : Nat) (x1 : ByteArray) (y1 : List Int) (y2 : List (List Int)) (x9 : Int) (y3 : List Int) (x42 : List Stp) (x43 : Int) (x44 : Int) (y0_0 : Int) (y0_1 : List Int) (y0_2 : List Int) (y0_3 : List Stp) : impl_toEnd.x2 (k + 1) x1 y1 y2 x9 y3 x42 x43 x44 y0_0 y0_1 y0_2 y0_3 = (if x44 < x43 then (if 0 ≤ x44 then (if x44 < (x42.length : Int) then (if 0 ≤ x9 then (if x9 ≤ (wr64 (x9 + 1)) then (if (wr64 (x9 + 1)) ≤ (x1.size : Int) then (if (rdT x42 x44).f1.toList = (x1.extract x9.toNat (wr64 (x9 + 1)).toNat).toList then (if 0 ≤ (rdT x42 x44).f0 then (if (rdT x42 x44).f0 < (y3.length : Int) then (if 0 ≤ (rdT x42 x44).f2 then (if (rdT x42 x44).f2 < (y1.length : Int) then (impl_toEnd.x2 k x1 y1 y2 x9 (y3.set (rdT x42 x44).f0.toNat (mn (rdI y3 (rdT x42 x44).f0) (wr64 ((rdT x42 x44).f3 + (rdI y1 (rdT x42 x44).f2))))) x42 x43 (wr64 (x44 + 1)) y0_0 y0_1 y0_2 y0_3) else none) else none) else none) else none) else (impl_toEnd.x2 k x1 y1 y2 x9 y3 x42 x43 (wr64 (x44 + 1)) y0_0 y0_1 y0_2 y0_3)) else none) else none) else none) else none) else none) else (if y2.length < 5864062014805 then (impl_toEnd.x1 k x1 y3 (y2 ++ [y3]) (wr64 (x9 - 1)) y0_0 y0_1 y0_2 y0_3) else none)) := by
  refine Eq.trans ?_ (R.icong (fun h0 => (R.icong (fun h1 => (R.icong (fun h2 => (R.icong (fun h3 => (R.icong (fun h4 => (R.icong (fun h5 => (R.icong (fun h6 => (R.icong (fun h7 => (R.icong (fun h8 => (R.icong (fun h9 => (R.icong (fun h10 => (R.idropT (p := 0 ≤ (rdT x42 x44).f0) (z := none) h7 (R.idropT (p := (rdT x42 x44).f0 < (y3.length : Int)) (z := none) h8 rfl))) (fun h10 => rfl))) (fun h9 => rfl))) (fun h8 => rfl))) (fun h7 => rfl))) (fun h6 => rfl))) (fun h5 => rfl))) (fun h4 => rfl))) (fun h3 => rfl))) (fun h2 => rfl))) (fun h1 => rfl))) (fun h0 => rfl))
  kernel_rfl
set_option maxRecDepth 100000 in
theorem impl_toEnd.ef (k : Nat) (a0_0 : Int) (l0_1 : List Int) (l0_2 : List Int) (l0_3 : List Stp) (a1 : ByteArray) : R.start Tryz.prog xhn impl_toEnd.O 0 Tryz.f46 impl_toEnd.fh k [.agg [.int .i64 a0_0, .imm (.I .i64 l0_1), .imm (.I .i64 l0_2), .imm (.T l0_3)], .str a1] [] = ((slices_Repeat_int_int.f ([1000000]) a0_0).bind fun t1 => (impl_toEnd.x0 k a1 t1 l0_2 (l0_2.length : Int) 0 a0_0 l0_1 l0_2 l0_3)) := by kernel_rfl
theorem impl_toEnd.link : ∀ k, (∀ (x1 : ByteArray) (y1 : List Int) (x18 : List Int) (x19 : Int) (x20 : Int) (y0_0 : Int) (y0_1 : List Int) (y0_2 : List Int) (y0_3 : List Stp), impl_toEnd.x0 k x1 y1 x18 x19 x20 y0_0 y0_1 y0_2 y0_3 = (impl_toEnd.l0 k x1 y1 x18 x19 x20 y0_0 y0_1 y0_2 y0_3).map (impl_toEnd.en)) ∧ (∀ (x1 : ByteArray) (y1 : List Int) (y2 : List (List Int)) (x9 : Int) (y0_0 : Int) (y0_1 : List Int) (y0_2 : List Int) (y0_3 : List Stp), impl_toEnd.x1 k x1 y1 y2 x9 y0_0 y0_1 y0_2 y0_3 = (impl_toEnd.l1 k x1 y1 y2 x9 y0_0 y0_1 y0_2 y0_3).map (impl_toEnd.en)) ∧ (∀ (x1 : ByteArray) (y1 : List Int) (y2 : List (List Int)) (x9 : Int) (y3 : List Int) (x42 : List Stp) (x43 : Int) (x44 : Int) (y0_0 : Int) (y0_1 : List Int) (y0_2 : List Int) (y0_3 : List Stp), impl_toEnd.x2 k x1 y1 y2 x9 y3 x42 x43 x44 y0_0 y0_1 y0_2 y0_3 = (impl_toEnd.l2 k x1 y1 y2 x9 y3 x42 x43 x44 y0_0 y0_1 y0_2 y0_3).map (impl_toEnd.en))
  | 0 => ⟨fun _ _ _ _ _ _ _ _ _ => by simp only [impl_toEnd.l0, R.map_none]; rfl, fun _ _ _ _ _ _ _ _ => by simp only [impl_toEnd.l1, R.map_none]; rfl, fun _ _ _ _ _ _ _ _ _ _ _ _ => by simp only [impl_toEnd.l2, R.map_none]; rfl⟩
  | k + 1 => by
    obtain ⟨ih0, ih1, ih2⟩ := impl_toEnd.link k
    refine ⟨?_, ?_, ?_⟩
    · intro x1 y1 x18 x19 x20 y0_0 y0_1 y0_2 y0_3
      rw [impl_toEnd.e0]
      simp only [impl_toEnd.l0, R.map_ite, R.map_bind, R.map_none, R.map_some, R.wr64_eq, ← ih0, ← ih1, ← ih2]
    · intro x1 y1 y2 x9 y0_0 y0_1 y0_2 y0_3
      rw [impl_toEnd.e1]
      simp only [impl_toEnd.l1, R.map_ite, R.map_bind, R.map_none, R.map_some, R.wr64_eq, ← ih0, ← ih1, ← ih2]
    · intro x1 y1 y2 x9 y3 x42 x43 x44 y0_0 y0_1 y0_2 y0_3
      rw [impl_toEnd.e2]
      simp only [impl_toEnd.l2, R.map_ite, R.map_bind, R.map_none, R.map_some, R.wr64_eq, ← ih0, ← ih1, ← ih2]
theorem impl_toEnd.sf (k : Nat) (a0_0 : Int) (l0_1 : List Int) (l0_2 : List Int) (l0_3 : List Stp) (a1 : ByteArray) : R.start Tryz.prog xhn impl_toEnd.O 0 Tryz.f46 impl_toEnd.fh k [.agg [.int .i64 a0_0, .imm (.I .i64 l0_1), .imm (.I .i64 l0_2), .imm (.T l0_3)], .str a1] [] = (impl_toEnd.f k a0_0 l0_1 l0_2 l0_3 a1).map (impl_toEnd.en) := by
  obtain ⟨ih0, ih1, ih2⟩ := impl_toEnd.link k
  rw [impl_toEnd.ef]
  simp only [impl_toEnd.f, R.map_ite, R.map_bind, R.map_none, R.map_some, R.wr64_eq, ← ih0, ← ih1, ← ih2]
theorem impl_toEnd.ok (k : Nat) : impl_toEnd.tw.Ok Tryz.prog k := by
  intro md hmd a r h
  refine fn_ok (H := xhn) (fh := impl_toEnd.fh) (O := impl_toEnd.O) (k := k) Tryz.func46 (by kernel_rfl) (by kernel_rfl) (fun j _ => (Tw.orc_sound slices_Repeat_int_int.dok (slices_Repeat_int_int.ok j) (fun q => Bool.noConfusion (show false = true from hmd q)) noO_sound)) (by kernel_rfl) (m := 0) rfl ?_
  refine (impl_toEnd.sf k a.1 a.2.1 a.2.2.1 a.2.2.2.1 a.2.2.2.2).trans ?_
  exact congrArg (Option.map _) h
def impl_CostOf.l0 : Nat → ByteArray → (List (List Int)) → Int → (List Int) → Int → Int → Option (Int)
  | 0, _, _, _, _, _, _ => none
  | k + 1, x1, y0, x6, x21, x22, x23 => (if x23 < x22 then (if 0 ≤ x23 then (if x23 < (x21.length : Int) then (if 0 ≤ (x1.size : Int) then (if (x1.size : Int) < (y0.length : Int) then (if 0 ≤ (rdI x21 x23) then (if (rdI x21 x23) < ((rdL y0 (x1.size : Int)).length : Int) then (impl_CostOf.l0 k x1 y0 (mn x6 (rdI (rdL y0 (x1.size : Int)) (rdI x21 x23))) x21 x22 (wrap64 (x23 + 1))) else none) else none) else none) else none) else none) else none) else (some x6))
def impl_CostOf.f (k : Nat) (a0_0 : Int) (l0_1 : List Int) (l0_2 : List Int) (l0_3 : List Stp) (a1 : ByteArray) : Option (Int) := ((impl_AutomatonValid.f k a0_0 l0_1 l0_2 l0_3).bind fun t1 => (if t1 = true then ((impl_WordValid.f k a1).bind fun t2 => (if t2 = true then ((impl_toEnd.f k a0_0 l0_1 l0_2 l0_3 a1).bind fun t3 => (impl_CostOf.l0 k a1 t3 1000000 l0_1 (l0_1.length : Int) 0)) else (some (-1)))) else (some (-1))))
def impl_CostOf.en (r : Int) : Res := (.int .i64 r, [])
def impl_CostOf.dec : List AV → List R.Obj → Option (Int × (List Int) × (List Int) × (List Stp) × ByteArray)
  | [.agg [.int .i64 a0_0, .imm (.I .i64 l0_1), .imm (.I .i64 l0_2), .imm (.T l0_3)], .str a1], [] => some (a0_0, l0_1, l0_2, l0_3, a1)
  | _, _ => none
def impl_CostOf.tw : Tw := ⟨20, Int × (List Int) × (List Int) × (List Stp) × ByteArray, Int, impl_CostOf.dec, fun a => [.agg [.int .i64 a.1, .imm (.I .i64 a.2.1), .imm (.I .i64 a.2.2.1), .imm (.T a.2.2.2.1)], .str a.2.2.2.2], fun a => [], fun k a => impl_CostOf.f k a.1 a.2.1 a.2.2.1 a.2.2.2.1 a.2.2.2.2, fun a r => impl_CostOf.en r, false⟩
theorem impl_CostOf.dok : impl_CostOf.tw.DecOk := by
  intro args hc a h
  have h : impl_CostOf.dec args hc = some a := h
  unfold impl_CostOf.dec at h
  split at h
  · cases h; exact ⟨rfl, rfl⟩
  · cases h
noncomputable def impl_CostOf.O (k : Nat) : Oracle := (impl_AutomatonValid.tw.orc k (impl_WordValid.tw.orc k (impl_toEnd.tw.orc k noO)))
def impl_CostOf.fh : FH := ⟨fun i => match i with | 6 => some [(1, 0), (5, 0), (6, 0), (21, 0), (22, 0), (23, 0)] | _ => none, [], false⟩
noncomputable def impl_CostOf.x0 (k : Nat) (x1 : ByteArray) (y0 : List (List Int)) (x6 : Int) (x21 : List Int) (x22 : Int) (x23 : Int) : Option Res := R.exec Tryz.prog xhn impl_CostOf.O 0 Tryz.f20 impl_CostOf.fh k (R.point Tryz.f20 6) ⟨[(1, .str x1), (5, .sl 0 0), (6, .int .i64 x6), (21, .imm (.I .i64 x21)), (22, .int .i64 x22), (23, .int .i64 x23)], [(0, .arr 23 0 (.L y0) false)], 3⟩
set_option maxRecDepth 100000 in
theorem impl_CostOf.e0 (k : Nat) (x1 : ByteArray) (y0 : List (List Int)) (x6 : Int) (x21 : List Int) (x22 : Int) (x23 : Int) : impl_CostOf.x0 (k + 1) x1 y0 x6 x21 x22 x23 = (if x23 < x22 then (if 0 ≤ x23 then (if x23 < (x21.length : Int) then (if 0 ≤ (x1.size : Int) then (if (x1.size : Int) < (y0.length : Int) then (if 0 ≤ (rdI x21 x23) then (if (rdI x21 x23) < ((rdL y0 (x1.size : Int)).length : Int) then (impl_CostOf.x0 k x1 y0 (mn x6 (rdI (rdL y0 (x1.size : Int)) (rdI x21 x23))) x21 x22 (wr64 (x23 + 1))) else none) else none) else none) else none) else none) else none) else (some (impl_CostOf.en x6))) := by kernel_rfl
set_option maxRecDepth 100000 in
theorem impl_CostOf.ef (k : Nat) (a0_0 : Int) (l0_1 : List Int) (l0_2 : List Int) (l0_3 : List Stp) (a1 : ByteArray) : R.start Tryz.prog xhn impl_CostOf.O 0 Tryz.f20 impl_CostOf.fh k [.agg [.int .i64 a0_0, .imm (.I .i64 l0_1), .imm (.I .i64 l0_2), .imm (.T l0_3)], .str a1] [] = ((impl_AutomatonValid.f k a0_0 l0_1 l0_2 l0_3).bind fun t1 => (if t1 = true then ((impl_WordValid.f k a1).bind fun t2 => (if t2 = true then ((impl_toEnd.f k a0_0 l0_1 l0_2 l0_3 a1).bind fun t3 => (impl_CostOf.x0 k a1 t3 1000000 l0_1 (l0_1.length : Int) 0)) else (some (impl_CostOf.en (-1))))) else (some (impl_CostOf.en (-1))))) := by kernel_rfl
theorem impl_CostOf.link : ∀ k, (∀ (x1 : ByteArray) (y0 : List (List Int)) (x6 : Int) (x21 : List Int) (x22 : Int) (x23 : Int), impl_CostOf.x0 k x1 y0 x6 x21 x22 x23 = (impl_CostOf.l0 k x1 y0 x6 x21 x22 x23).map (impl_CostOf.en))
  | 0 => fun _ _ _ _ _ _ => by simp only [impl_CostOf.l0, R.map_none]; rfl
  | k + 1 => by
    have ih0 := impl_CostOf.link k
    · intro x1 y0 x6 x21 x22 x23
      rw [impl_CostOf.e0]
      simp only [impl_CostOf.l0, R.map_ite, R.map_bind, R.map_none, R.map_some, R.wr64_eq, ← ih0]
theorem impl_CostOf.sf (k : Nat) (a0_0 : Int) (l0_1 : List Int) (l0_2 : List Int) (l0_3 : List Stp) (a1 : ByteArray) : R.start Tryz.prog xhn impl_CostOf.O 0 Tryz.f20 impl_CostOf.fh k [.agg [.int .i64 a0_0, .imm (.I .i64 l0_1), .imm (.I .i64 l0_2), .imm (.T l0_3)], .str a1] [] = (impl_CostOf.f k a0_0 l0_1 l0_2 l0_3 a1).map (impl_CostOf.en) := by
  have ih0 := impl_CostOf.link k
  rw [impl_CostOf.ef]
  simp only [impl_CostOf.f, R.map_ite, R.map_bind, R.map_none, R.map_some, R.wr64_eq, ← ih0]
theorem impl_CostOf.ok (k : Nat) : impl_CostOf.tw.Ok Tryz.prog k := by
  intro md hmd a r h
  refine fn_ok (H := xhn) (fh := impl_CostOf.fh) (O := impl_CostOf.O) (k := k) Tryz.func20 (by kernel_rfl) (by kernel_rfl) (fun j _ => (Tw.orc_sound impl_AutomatonValid.dok (impl_AutomatonValid.ok j) (fun _ => rfl) (Tw.orc_sound impl_WordValid.dok (impl_WordValid.ok j) (fun _ => rfl) (Tw.orc_sound impl_toEnd.dok (impl_toEnd.ok j) (fun q => Bool.noConfusion (show false = true from hmd q)) noO_sound)))) (by kernel_rfl) (m := 0) rfl ?_
  refine (impl_CostOf.sf k a.1 a.2.1 a.2.2.1 a.2.2.2.1 a.2.2.2.2).trans ?_
  exact congrArg (Option.map _) h
def impl_GrowthOf.l0 : Nat → ByteArray → Int → (List Int) → Int → Int → (List Int) → (List Int) → (List Stp) → Option ((List Int) × Bool)
  | 0, _, _, _, _, _, _, _, _ => none
  | k + 1, x1, x2, y1, x9, y0_0, y0_1, y0_2, y0_3 => (if x9 ≤ x2 then ((impl_ExpandExpression.f k x1 x9).bind fun t3 => (if t3.2 = true then ((impl_CostOf.f k y0_0 y0_1 y0_2 y0_3 t3.1).bind fun t4 => (if y1.length < 17592186044416 then (impl_GrowthOf.l0 k x1 x2 (y1 ++ [t4]) (wrap64 (x9 + 1)) y0_0 y0_1 y0_2 y0_3) else none)) else (some (([] : List Int), false)))) else (some (y1, true)))
def impl_GrowthOf.f (k : Nat) (a0_0 : Int) (l0_1 : List Int) (l0_2 : List Int) (l0_3 : List Stp) (a1 : ByteArray) (a2 : Int) : Option ((List Int) × Bool) := ((impl_AutomatonValid.f k a0_0 l0_1 l0_2 l0_3).bind fun t1 => (if t1 = true then ((impl_ExpressionValid.f k a1).bind fun t2 => (if t2 = true then (if a2 < 0 then (some (([] : List Int), false)) else (if a2 > 20 then (some (([] : List Int), false)) else (impl_GrowthOf.l0 k a1 a2 ([] : List Int) 1 a0_0 l0_1 l0_2 l0_3))) else (some (([] : List Int), false)))) else (some (([] : List Int), false))))
def impl_GrowthOf.en (r : (List Int) × Bool) : Res := (.tup [.sl 0 0, .lit r.2], [.arr 3 0 (.I .i64 r.1) false])
def impl_GrowthOf.dec : List AV → List R.Obj → Option (Int × (List Int) × (List Int) × (List Stp) × ByteArray × Int)
  | [.agg [.int .i64 a0_0, .imm (.I .i64 l0_1), .imm (.I .i64 l0_2), .imm (.T l0_3)], .str a1, .int .i64 a2], [] => some (a0_0, l0_1, l0_2, l0_3, a1, a2)
  | _, _ => none
def impl_GrowthOf.tw : Tw := ⟨15, Int × (List Int) × (List Int) × (List Stp) × ByteArray × Int, (List Int) × Bool, impl_GrowthOf.dec, fun a => [.agg [.int .i64 a.1, .imm (.I .i64 a.2.1), .imm (.I .i64 a.2.2.1), .imm (.T a.2.2.2.1)], .str a.2.2.2.2.1, .int .i64 a.2.2.2.2.2], fun a => [], fun k a => impl_GrowthOf.f k a.1 a.2.1 a.2.2.1 a.2.2.2.1 a.2.2.2.2.1 a.2.2.2.2.2, fun a r => impl_GrowthOf.en r, false⟩
theorem impl_GrowthOf.dok : impl_GrowthOf.tw.DecOk := by
  intro args hc a h
  have h : impl_GrowthOf.dec args hc = some a := h
  unfold impl_GrowthOf.dec at h
  split at h
  · cases h; exact ⟨rfl, rfl⟩
  · cases h
noncomputable def impl_GrowthOf.O (k : Nat) : Oracle := (impl_AutomatonValid.tw.orc k (impl_ExpressionValid.tw.orc k (impl_ExpandExpression.tw.orc k (impl_CostOf.tw.orc k noO))))
def impl_GrowthOf.fh : FH := ⟨fun i => match i with | 5 => some [(1, 0), (2, 0), (3, 0), (8, 0), (9, 0)] | _ => none, [(true, 3)], false⟩
noncomputable def impl_GrowthOf.x0 (k : Nat) (x1 : ByteArray) (x2 : Int) (y1 : List Int) (x9 : Int) (y0_0 : Int) (y0_1 : List Int) (y0_2 : List Int) (y0_3 : List Stp) : Option Res := R.exec Tryz.prog xhn impl_GrowthOf.O 0 Tryz.f15 impl_GrowthOf.fh k (R.point Tryz.f15 5) ⟨[(1, .str x1), (2, .int .i64 x2), (3, .ptr 0 0), (8, .sl 1 0), (9, .int .i64 x9)], [(0, .box false [.int .i64 y0_0, .imm (.I .i64 y0_1), .imm (.I .i64 y0_2), .imm (.T y0_3)]), (1, .arr 3 0 (.I .i64 y1) false)], 4⟩
set_option maxRecDepth 100000 in
theorem impl_GrowthOf.e0 (k : Nat) (x1 : ByteArray) (x2 : Int) (y1 : List Int) (x9 : Int) (y0_0 : Int) (y0_1 : List Int) (y0_2 : List Int) (y0_3 : List Stp) : impl_GrowthOf.x0 (k + 1) x1 x2 y1 x9 y0_0 y0_1 y0_2 y0_3 = (if x9 ≤ x2 then ((impl_ExpandExpression.f k x1 x9).bind fun t3 => (if t3.2 = true then ((impl_CostOf.f k y0_0 y0_1 y0_2 y0_3 t3.1).bind fun t4 => (if y1.length < 17592186044416 then (impl_GrowthOf.x0 k x1 x2 (y1 ++ [t4]) (wr64 (x9 + 1)) y0_0 y0_1 y0_2 y0_3) else none)) else (some (impl_GrowthOf.en (([] : List Int), false))))) else (some (impl_GrowthOf.en (y1, true)))) := by kernel_rfl
set_option maxRecDepth 100000 in
theorem impl_GrowthOf.ef (k : Nat) (a0_0 : Int) (l0_1 : List Int) (l0_2 : List Int) (l0_3 : List Stp) (a1 : ByteArray) (a2 : Int) : R.start Tryz.prog xhn impl_GrowthOf.O 0 Tryz.f15 impl_GrowthOf.fh k [.agg [.int .i64 a0_0, .imm (.I .i64 l0_1), .imm (.I .i64 l0_2), .imm (.T l0_3)], .str a1, .int .i64 a2] [] = ((impl_AutomatonValid.f k a0_0 l0_1 l0_2 l0_3).bind fun t1 => (if t1 = true then ((impl_ExpressionValid.f k a1).bind fun t2 => (if t2 = true then (if a2 < 0 then (some (impl_GrowthOf.en (([] : List Int), false))) else (if a2 > 20 then (some (impl_GrowthOf.en (([] : List Int), false))) else (impl_GrowthOf.x0 k a1 a2 ([] : List Int) 1 a0_0 l0_1 l0_2 l0_3))) else (some (impl_GrowthOf.en (([] : List Int), false))))) else (some (impl_GrowthOf.en (([] : List Int), false))))) := by kernel_rfl
theorem impl_GrowthOf.link : ∀ k, (∀ (x1 : ByteArray) (x2 : Int) (y1 : List Int) (x9 : Int) (y0_0 : Int) (y0_1 : List Int) (y0_2 : List Int) (y0_3 : List Stp), impl_GrowthOf.x0 k x1 x2 y1 x9 y0_0 y0_1 y0_2 y0_3 = (impl_GrowthOf.l0 k x1 x2 y1 x9 y0_0 y0_1 y0_2 y0_3).map (impl_GrowthOf.en))
  | 0 => fun _ _ _ _ _ _ _ _ => by simp only [impl_GrowthOf.l0, R.map_none]; rfl
  | k + 1 => by
    have ih0 := impl_GrowthOf.link k
    · intro x1 x2 y1 x9 y0_0 y0_1 y0_2 y0_3
      rw [impl_GrowthOf.e0]
      simp only [impl_GrowthOf.l0, R.map_ite, R.map_bind, R.map_none, R.map_some, R.wr64_eq, ← ih0]
theorem impl_GrowthOf.sf (k : Nat) (a0_0 : Int) (l0_1 : List Int) (l0_2 : List Int) (l0_3 : List Stp) (a1 : ByteArray) (a2 : Int) : R.start Tryz.prog xhn impl_GrowthOf.O 0 Tryz.f15 impl_GrowthOf.fh k [.agg [.int .i64 a0_0, .imm (.I .i64 l0_1), .imm (.I .i64 l0_2), .imm (.T l0_3)], .str a1, .int .i64 a2] [] = (impl_GrowthOf.f k a0_0 l0_1 l0_2 l0_3 a1 a2).map (impl_GrowthOf.en) := by
  have ih0 := impl_GrowthOf.link k
  rw [impl_GrowthOf.ef]
  simp only [impl_GrowthOf.f, R.map_ite, R.map_bind, R.map_none, R.map_some, R.wr64_eq, ← ih0]
theorem impl_GrowthOf.ok (k : Nat) : impl_GrowthOf.tw.Ok Tryz.prog k := by
  intro md hmd a r h
  refine fn_ok (H := xhn) (fh := impl_GrowthOf.fh) (O := impl_GrowthOf.O) (k := k) Tryz.func15 (by kernel_rfl) (by kernel_rfl) (fun j _ => (Tw.orc_sound impl_AutomatonValid.dok (impl_AutomatonValid.ok j) (fun _ => rfl) (Tw.orc_sound impl_ExpressionValid.dok (impl_ExpressionValid.ok j) (fun _ => rfl) (Tw.orc_sound impl_ExpandExpression.dok (impl_ExpandExpression.ok j) (fun q => Bool.noConfusion (show false = true from hmd q)) (Tw.orc_sound impl_CostOf.dok (impl_CostOf.ok j) (fun q => Bool.noConfusion (show false = true from hmd q)) noO_sound))))) (by kernel_rfl) (m := 0) rfl ?_
  refine (impl_GrowthOf.sf k a.1 a.2.1 a.2.2.1 a.2.2.2.1 a.2.2.2.2.1 a.2.2.2.2.2).trans ?_
  exact congrArg (Option.map _) h
mutual
def spec_l7Expand.l0 : Nat → ByteArray → Int → ByteArray → Option (ByteArray)
  | 0, _, _, _ => none
  | k + 1, x0, x1, x5 => (if x0.toList = ([] : List UInt8) then (some x5) else (if (x5.size : Int) ≤ 1000 then ((spec_l7Next.f k x0).bind fun t1 => (if t1.2.1 = true then ((spec_l7Expand.f k t1.1 x1).bind fun t2 => (spec_l7Expand.l1 k x1 x5 t1.2.2 t2 x1 0)) else (spec_l7Expand.l1 k x1 x5 t1.2.2 t1.1 1 0))) else (some x5)))
def spec_l7Expand.l1 : Nat → Int → ByteArray → ByteArray → ByteArray → Int → Int → Option (ByteArray)
  | 0, _, _, _, _, _, _ => none
  | k + 1, x1, x5, x8, x9, x10, x11 => (if x11 < x10 then (if (x5.size : Int) ≤ 1000 then (if x5.size + x9.size ≤ 9223372036854775807 then (spec_l7Expand.l1 k x1 (x5 ++ x9) x8 x9 x10 (wrap64 (x11 + 1))) else none) else (spec_l7Expand.l0 k x8 x1 x5)) else (spec_l7Expand.l0 k x8 x1 x5))
def spec_l7Expand.f : Nat → ByteArray → Int → Option (ByteArray)
  | 0, _, _ => none
  | k + 1, a0, a1 => (spec_l7Expand.l0 k a0 a1 (⟨#[]⟩ : ByteArray))
end
def spec_l7Expand.en (r : ByteArray) : Res := (.str r, [])
def spec_l7Expand.dec : List AV → List R.Obj → Option (ByteArray × Int)
  | [.str a0, .int .i64 a1], [] => some (a0, a1)
  | _, _ => none
def spec_l7Expand.tw : Tw := ⟨82, ByteArray × Int, ByteArray, spec_l7Expand.dec, fun a => [.str a.1, .int .i64 a.2], fun a => [], fun k a => spec_l7Expand.f k a.1 a.2, fun a r => spec_l7Expand.en r, true⟩
theorem spec_l7Expand.dok : spec_l7Expand.tw.DecOk := by
  intro args hc a h
  have h : spec_l7Expand.dec args hc = some a := h
  unfold spec_l7Expand.dec at h
  split at h
  · cases h; exact ⟨rfl, rfl⟩
  · cases h
noncomputable def spec_l7Expand.O (k : Nat) : Oracle := (spec_l7Next.tw.orc k (spec_l7Expand.tw.orc k noO))
def spec_l7Expand.fh : FH := ⟨fun i => match i with | 2 => some [(0, 0), (1, 0), (5, 0)] | 10 => some [(1, 0), (5, 0), (8, 0), (9, 0), (10, 0), (11, 0)] | _ => none, [], false⟩
noncomputable def spec_l7Expand.x0 (k : Nat) (x0 : ByteArray) (x1 : Int) (x5 : ByteArray) : Option Res := R.exec Tryz.prog xhn spec_l7Expand.O 0 Tryz.f82 spec_l7Expand.fh k (R.point Tryz.f82 2) ⟨[(0, .str x0), (1, .int .i64 x1), (5, .str x5)], [], 2⟩
noncomputable def spec_l7Expand.x1 (k : Nat) (x1 : Int) (x5 : ByteArray) (x8 : ByteArray) (x9 : ByteArray) (x10 : Int) (x11 : Int) : Option Res := R.exec Tryz.prog xhn spec_l7Expand.O 0 Tryz.f82 spec_l7Expand.fh k (R.point Tryz.f82 10) ⟨[(1, .int .i64 x1), (5, .str x5), (8, .str x8), (9, .str x9), (10, .int .i64 x10), (11, .int .i64 x11)], [], 2⟩
set_option maxRecDepth 100000 in
theorem spec_l7Expand.e0 (k : Nat) (x0 : ByteArray) (x1 : Int) (x5 : ByteArray) : spec_l7Expand.x0 (k + 1) x0 x1 x5 = (if x0.toList = ([] : List UInt8) then (some (spec_l7Expand.en x5)) else (if (x5.size : Int) ≤ 1000 then ((spec_l7Next.f k x0).bind fun t1 => (if t1.2.1 = true then ((spec_l7Expand.f k t1.1 x1).bind fun t2 => (spec_l7Expand.x1 k x1 x5 t1.2.2 t2 x1 0)) else (spec_l7Expand.x1 k x1 x5 t1.2.2 t1.1 1 0))) else (some (spec_l7Expand.en x5)))) := by kernel_rfl
set_option maxRecDepth 100000 in
theorem spec_l7Expand.e1 (k : Nat) (x1 : Int) (x5 : ByteArray) (x8 : ByteArray) (x9 : ByteArray) (x10 : Int) (x11 : Int) : spec_l7Expand.x1 (k + 1) x1 x5 x8 x9 x10 x11 = (if x11 < x10 then (if (x5.size : Int) ≤ 1000 then (if x5.size + x9.size ≤ 9223372036854775807 then (spec_l7Expand.x1 k x1 (x5 ++ x9) x8 x9 x10 (wr64 (x11 + 1))) else none) else (spec_l7Expand.x0 k x8 x1 x5)) else (spec_l7Expand.x0 k x8 x1 x5)) := by kernel_rfl
set_option maxRecDepth 100000 in
theorem spec_l7Expand.ef (k : Nat) (a0 : ByteArray) (a1 : Int) : R.start Tryz.prog xhn spec_l7Expand.O 0 Tryz.f82 spec_l7Expand.fh k [.str a0, .int .i64 a1] [] = (spec_l7Expand.x0 k a0 a1 (⟨#[]⟩ : ByteArray)) := by kernel_rfl
theorem spec_l7Expand.link : ∀ k, (∀ (x0 : ByteArray) (x1 : Int) (x5 : ByteArray), spec_l7Expand.x0 k x0 x1 x5 = (spec_l7Expand.l0 k x0 x1 x5).map (spec_l7Expand.en)) ∧ (∀ (x1 : Int) (x5 : ByteArray) (x8 : ByteArray) (x9 : ByteArray) (x10 : Int) (x11 : Int), spec_l7Expand.x1 k x1 x5 x8 x9 x10 x11 = (spec_l7Expand.l1 k x1 x5 x8 x9 x10 x11).map (spec_l7Expand.en))
  | 0 => ⟨fun _ _ _ => by simp only [spec_l7Expand.l0, R.map_none]; rfl, fun _ _ _ _ _ _ => by simp only [spec_l7Expand.l1, R.map_none]; rfl⟩
  | k + 1 => by
    obtain ⟨ih0, ih1⟩ := spec_l7Expand.link k
    refine ⟨?_, ?_⟩
    · intro x0 x1 x5
      rw [spec_l7Expand.e0]
      simp only [spec_l7Expand.l0, R.map_ite, R.map_bind, R.map_none, R.map_some, R.wr64_eq, ← ih0, ← ih1]
    · intro x1 x5 x8 x9 x10 x11
      rw [spec_l7Expand.e1]
      simp only [spec_l7Expand.l1, R.map_ite, R.map_bind, R.map_none, R.map_some, R.wr64_eq, ← ih0, ← ih1]
theorem spec_l7Expand.sf (k : Nat) (a0 : ByteArray) (a1 : Int) : R.start Tryz.prog xhn spec_l7Expand.O 0 Tryz.f82 spec_l7Expand.fh k [.str a0, .int .i64 a1] [] = (spec_l7Expand.f (k + 1) a0 a1).map (spec_l7Expand.en) := by
  obtain ⟨ih0, ih1⟩ := spec_l7Expand.link k
  rw [spec_l7Expand.ef]
  simp only [spec_l7Expand.f, R.map_ite, R.map_bind, R.map_none, R.map_some, R.wr64_eq, ← ih0, ← ih1]
theorem spec_l7Expand.ok : ∀ k, spec_l7Expand.tw.Ok Tryz.prog k := by
  intro k
  induction k using Nat.strongRecOn with
  | ind k ih =>
    cases k with
    | zero =>
      intro md hmd a r h
      have h : spec_l7Expand.f 0 a.1 a.2 = some r := h
      simp only [spec_l7Expand.f] at h
      cases h
    | succ k =>
      intro md hmd a r h
      refine fn_ok (H := xhn) (fh := spec_l7Expand.fh) (O := spec_l7Expand.O) (k := k) Tryz.func82 (by kernel_rfl) (by kernel_rfl) (fun j hj => (Tw.orc_sound spec_l7Next.dok (spec_l7Next.ok j) (fun _ => rfl) (Tw.orc_sound spec_l7Expand.dok (ih j (by omega)) (fun _ => rfl) noO_sound))) (by kernel_rfl) (m := 0) rfl ?_
      refine (spec_l7Expand.sf k a.1 a.2).trans ?_
      exact congrArg (Option.map _) h
def spec_ExpandExpression.f (k : Nat) (a0 : ByteArray) (a1 : Int) : Option (ByteArray × Bool) := ((spec_ExpressionValid.f k a0).bind fun t1 => (if t1 = true then (if a1 < 1 then (some ((⟨#[]⟩ : ByteArray), false)) else ((spec_l7Expand.f k a0 a1).bind fun t2 => (if (t2.size : Int) > 1000 then (some ((⟨#[]⟩ : ByteArray), false)) else (some (t2, true))))) else (some ((⟨#[]⟩ : ByteArray), false))))
def spec_ExpandExpression.en (r : ByteArray × Bool) : Res := (.tup [.str r.1, .lit r.2], [])
def spec_ExpandExpression.dec : List AV → List R.Obj → Option (ByteArray × Int)
  | [.str a0, .int .i64 a1], [] => some (a0, a1)
  | _, _ => none
def spec_ExpandExpression.tw : Tw := ⟨42, ByteArray × Int, ByteArray × Bool, spec_ExpandExpression.dec, fun a => [.str a.1, .int .i64 a.2], fun a => [], fun k a => spec_ExpandExpression.f k a.1 a.2, fun a r => spec_ExpandExpression.en r, true⟩
theorem spec_ExpandExpression.dok : spec_ExpandExpression.tw.DecOk := by
  intro args hc a h
  have h : spec_ExpandExpression.dec args hc = some a := h
  unfold spec_ExpandExpression.dec at h
  split at h
  · cases h; exact ⟨rfl, rfl⟩
  · cases h
noncomputable def spec_ExpandExpression.O (k : Nat) : Oracle := (spec_ExpressionValid.tw.orc k (spec_l7Expand.tw.orc k noO))
def spec_ExpandExpression.fh : FH := ⟨fun i => match i with | _ => none, [], false⟩
set_option maxRecDepth 100000 in
theorem spec_ExpandExpression.ef (k : Nat) (a0 : ByteArray) (a1 : Int) : R.start Tryz.prog xhn spec_ExpandExpression.O 0 Tryz.f42 spec_ExpandExpression.fh k [.str a0, .int .i64 a1] [] = ((spec_ExpressionValid.f k a0).bind fun t1 => (if t1 = true then (if a1 < 1 then (some (spec_ExpandExpression.en ((⟨#[]⟩ : ByteArray), false))) else ((spec_l7Expand.f k a0 a1).bind fun t2 => (if (t2.size : Int) > 1000 then (some (spec_ExpandExpression.en ((⟨#[]⟩ : ByteArray), false))) else (some (spec_ExpandExpression.en (t2, true)))))) else (some (spec_ExpandExpression.en ((⟨#[]⟩ : ByteArray), false))))) := by kernel_rfl
theorem spec_ExpandExpression.sf (k : Nat) (a0 : ByteArray) (a1 : Int) : R.start Tryz.prog xhn spec_ExpandExpression.O 0 Tryz.f42 spec_ExpandExpression.fh k [.str a0, .int .i64 a1] [] = (spec_ExpandExpression.f k a0 a1).map (spec_ExpandExpression.en) := by
  rw [spec_ExpandExpression.ef]
  simp only [spec_ExpandExpression.f, R.map_ite, R.map_bind, R.map_none, R.map_some, R.wr64_eq]
theorem spec_ExpandExpression.ok (k : Nat) : spec_ExpandExpression.tw.Ok Tryz.prog k := by
  intro md hmd a r h
  refine fn_ok (H := xhn) (fh := spec_ExpandExpression.fh) (O := spec_ExpandExpression.O) (k := k) Tryz.func42 (by kernel_rfl) (by kernel_rfl) (fun j _ => (Tw.orc_sound spec_ExpressionValid.dok (spec_ExpressionValid.ok j) (fun _ => rfl) (Tw.orc_sound spec_l7Expand.dok (spec_l7Expand.ok j) (fun _ => rfl) noO_sound))) (by kernel_rfl) (m := 0) rfl ?_
  refine (spec_ExpandExpression.sf k a.1 a.2).trans ?_
  exact congrArg (Option.map _) h
def spec_l1Add.f (a0 : Int) (a1 : Int) : Option (Int) := (some (mn (wrap64 (a0 + a1)) 1000000))
def spec_l1Add.en (r : Int) : Res := (.int .i64 r, [])
def spec_l1Add.dec : List AV → List R.Obj → Option (Int × Int)
  | [.int .i64 a0, .int .i64 a1], [] => some (a0, a1)
  | _, _ => none
def spec_l1Add.tw : Tw := ⟨80, Int × Int, Int, spec_l1Add.dec, fun a => [.int .i64 a.1, .int .i64 a.2], fun a => [], fun k a => spec_l1Add.f a.1 a.2, fun a r => spec_l1Add.en r, true⟩
theorem spec_l1Add.dok : spec_l1Add.tw.DecOk := by
  intro args hc a h
  have h : spec_l1Add.dec args hc = some a := h
  unfold spec_l1Add.dec at h
  split at h
  · cases h; exact ⟨rfl, rfl⟩
  · cases h
noncomputable def spec_l1Add.O (k : Nat) : Oracle := noO
def spec_l1Add.fh : FH := ⟨fun i => match i with | _ => none, [], false⟩
set_option maxRecDepth 100000 in
theorem spec_l1Add.ef (k : Nat) (a0 : Int) (a1 : Int) : R.start Tryz.prog xhn spec_l1Add.O 0 Tryz.f80 spec_l1Add.fh k [.int .i64 a0, .int .i64 a1] [] = (some (spec_l1Add.en (mn (wr64 (a0 + a1)) 1000000))) := by kernel_rfl
theorem spec_l1Add.sf (k : Nat) (a0 : Int) (a1 : Int) : R.start Tryz.prog xhn spec_l1Add.O 0 Tryz.f80 spec_l1Add.fh k [.int .i64 a0, .int .i64 a1] [] = (spec_l1Add.f a0 a1).map (spec_l1Add.en) := by
  rw [spec_l1Add.ef]
  simp only [spec_l1Add.f, R.map_ite, R.map_bind, R.map_none, R.map_some, R.wr64_eq]
theorem spec_l1Add.ok (k : Nat) : spec_l1Add.tw.Ok Tryz.prog k := by
  intro md hmd a r h
  refine fn_ok (H := xhn) (fh := spec_l1Add.fh) (O := spec_l1Add.O) (k := k) Tryz.func80 (by kernel_rfl) (by kernel_rfl) (fun j _ => noO_sound) (by kernel_rfl) (m := 0) rfl ?_
  refine (spec_l1Add.sf k a.1 a.2).trans ?_
  exact congrArg (Option.map _) h
mutual
def spec_l2Mul.l0 : Nat → Int → Int → Int → (List Int) → Int → (List Int) → Int → (List Int) → Option (Int × (List Int))
  | 0, _, _, _, _, _, _, _, _ => none
  | k + 1, x18, x19, y0_0, y0_1, y1_0, y1_1, y3_0, y5 => (if x19 < x18 then (if y0_0 = 0 then none else (spec_l2Mul.l1 k (wrap64 (x19.tdiv y0_0)) (x19.tmod y0_0) 1000000 x18 x19 y0_0 0 y0_0 y0_1 y1_0 y1_1 y3_0 y5)) else (some (y3_0, y5)))
def spec_l2Mul.l1 : Nat → Int → Int → Int → Int → Int → Int → Int → Int → (List Int) → Int → (List Int) → Int → (List Int) → Option (Int × (List Int))
  | 0, _, _, _, _, _, _, _, _, _, _, _, _, _ => none
  | k + 1, x7, x8, x9, x18, x19, x31, x32, y0_0, y0_1, y1_0, y1_1, y3_0, y5 => (if x32 < x31 then (if 0 ≤ (wrap64 ((wrap64 (x7 * y0_0)) + x32)) then (if (wrap64 ((wrap64 (x7 * y0_0)) + x32)) < (y0_1.length : Int) then (if 0 ≤ (wrap64 ((wrap64 (x32 * y0_0)) + x8)) then (if (wrap64 ((wrap64 (x32 * y0_0)) + x8)) < (y1_1.length : Int) then ((spec_l1Add.f (rdI y0_1 (wrap64 ((wrap64 (x7 * y0_0)) + x32))) (rdI y1_1 (wrap64 ((wrap64 (x32 * y0_0)) + x8)))).bind fun t1 => (spec_l2Mul.l1 k x7 x8 (mn x9 t1) x18 x19 x31 (wrap64 (x32 + 1)) y0_0 y0_1 y1_0 y1_1 y3_0 y5)) else none) else none) else none) else none) else (if y5.length < 17592186044416 then (spec_l2Mul.l0 k x18 (wrap64 (x19 + 1)) y0_0 y0_1 y1_0 y1_1 y3_0 (y5 ++ [x9])) else none))
end
def spec_l2Mul.f (k : Nat) (a0_0 : Int) (l0_1 : List Int) (a1_0 : Int) (l1_1 : List Int) : Option (Int × (List Int)) := (spec_l2Mul.l0 k (wrap64 (a0_0 * a0_0)) 0 a0_0 l0_1 a1_0 l1_1 a0_0 ([] : List Int))
def spec_l2Mul.en (r : Int × (List Int)) : Res := (.agg [.int .i64 r.1, .sl 0 0], [.arr 3 0 (.I .i64 r.2) false])
def spec_l2Mul.dec : List AV → List R.Obj → Option (Int × (List Int) × Int × (List Int))
  | [.agg [.int .i64 a0_0, .imm (.I .i64 l0_1)], .agg [.int .i64 a1_0, .imm (.I .i64 l1_1)]], [] => some (a0_0, l0_1, a1_0, l1_1)
  | _, _ => none
def spec_l2Mul.tw : Tw := ⟨106, Int × (List Int) × Int × (List Int), Int × (List Int), spec_l2Mul.dec, fun a => [.agg [.int .i64 a.1, .imm (.I .i64 a.2.1)], .agg [.int .i64 a.2.2.1, .imm (.I .i64 a.2.2.2)]], fun a => [], fun k a => spec_l2Mul.f k a.1 a.2.1 a.2.2.1 a.2.2.2, fun a r => spec_l2Mul.en r, true⟩
theorem spec_l2Mul.dok : spec_l2Mul.tw.DecOk := by
  intro args hc a h
  have h : spec_l2Mul.dec args hc = some a := h
  unfold spec_l2Mul.dec at h
  split at h
  · cases h; exact ⟨rfl, rfl⟩
  · cases h
noncomputable def spec_l2Mul.O (k : Nat) : Oracle := (spec_l1Add.tw.orc k noO)
def spec_l2Mul.fh : FH := ⟨fun i => match i with | 3 => some [(2, 0), (3, 0), (4, 0), (5, 0), (18, 0), (19, 0)] | 8 => some [(2, 0), (3, 0), (4, 0), (5, 0), (7, 0), (8, 0), (9, 0), (18, 0), (19, 0), (31, 0), (32, 0)] | _ => none, [(true, 3)], false⟩
noncomputable def spec_l2Mul.x0 (k : Nat) (x18 : Int) (x19 : Int) (y0_0 : Int) (y0_1 : List Int) (y1_0 : Int) (y1_1 : List Int) (y3_0 : Int) (y5 : List Int) : Option Res := R.exec Tryz.prog xhn spec_l2Mul.O 0 Tryz.f106 spec_l2Mul.fh k (R.point Tryz.f106 3) ⟨[(2, .ptr 0 0), (3, .ptr 1 0), (4, .ptr 2 0), (5, .ptr 3 0), (18, .int .i64 x18), (19, .int .i64 x19)], [(0, .box false [.int .i64 y0_0, .imm (.I .i64 y0_1)]), (1, .box false [.int .i64 y1_0, .imm (.I .i64 y1_1)]), (2, .box false [.int .i64 0, .sl 4 0]), (3, .box false [.int .i64 y3_0, .sl 5 0]), (4, .arr 3 0 (.I .i64 ([] : List Int)) false), (5, .arr 3 0 (.I .i64 y5) false)], 8⟩
noncomputable def spec_l2Mul.x1 (k : Nat) (x7 : Int) (x8 : Int) (x9 : Int) (x18 : Int) (x19 : Int) (x31 : Int) (x32 : Int) (y0_0 : Int) (y0_1 : List Int) (y1_0 : Int) (y1_1 : List Int) (y3_0 : Int) (y5 : List Int) : Option Res := R.exec Tryz.prog xhn spec_l2Mul.O 0 Tryz.f106 spec_l2Mul.fh k (R.point Tryz.f106 8) ⟨[(2, .ptr 0 0), (3, .ptr 1 0), (4, .ptr 2 0), (5, .ptr 3 0), (7, .int .i64 x7), (8, .int .i64 x8), (9, .int .i64 x9), (18, .int .i64 x18), (19, .int .i64 x19), (31, .int .i64 x31), (32, .int .i64 x32)], [(0, .box false [.int .i64 y0_0, .imm (.I .i64 y0_1)]), (1, .box false [.int .i64 y1_0, .imm (.I .i64 y1_1)]), (2, .box false [.int .i64 0, .sl 4 0]), (3, .box false [.int .i64 y3_0, .sl 5 0]), (4, .arr 3 0 (.I .i64 ([] : List Int)) false), (5, .arr 3 0 (.I .i64 y5) false)], 8⟩
set_option maxRecDepth 100000 in
theorem spec_l2Mul.e0 (k : Nat) (x18 : Int) (x19 : Int) (y0_0 : Int) (y0_1 : List Int) (y1_0 : Int) (y1_1 : List Int) (y3_0 : Int) (y5 : List Int) : spec_l2Mul.x0 (k + 1) x18 x19 y0_0 y0_1 y1_0 y1_1 y3_0 y5 = (if x19 < x18 then (if y0_0 = 0 then none else (spec_l2Mul.x1 k (wr64 (x19.tdiv y0_0)) (x19.tmod y0_0) 1000000 x18 x19 y0_0 0 y0_0 y0_1 y1_0 y1_1 y3_0 y5)) else (some (spec_l2Mul.en (y3_0, y5)))) := by
  refine Eq.trans ?_ (R.icong (fun h0 => (R.icong (fun h1 => rfl) (fun h1 => (R.idropF (p := y0_0 = 0) (z := none) h1 rfl)))) (fun h0 => rfl))
  kernel_rfl
set_option maxRecDepth 100000 in
theorem spec_l2Mul.e1 (k : Nat) (x7 : Int) (x8 : Int) (x9 : Int) (x18 : Int) (x19 : Int) (x31 : Int) (x32 : Int) (y0_0 : Int) (y0_1 : List Int) (y1_0 : Int) (y1_1 : List Int) (y3_0 : Int) (y5 : List Int) : spec_l2Mul.x1 (k + 1) x7 x8 x9 x18 x19 x31 x32 y0_0 y0_1 y1_0 y1_1 y3_0 y5 = (if x32 < x31 then (if 0 ≤ (wr64 ((wr64 (x7 * y0_0)) + x32)) then (if (wr64 ((wr64 (x7 * y0_0)) + x32)) < (y0_1.length : Int) then (if 0 ≤ (wr64 ((wr64 (x32 * y0_0)) + x8)) then (if (wr64 ((wr64 (x32 * y0_0)) + x8)) < (y1_1.length : Int) then ((spec_l1Add.f (rdI y0_1 (wr64 ((wr64 (x7 * y0_0)) + x32))) (rdI y1_1 (wr64 ((wr64 (x32 * y0_0)) + x8)))).bind fun t1 => (spec_l2Mul.x1 k x7 x8 (mn x9 t1) x18 x19 x31 (wr64 (x32 + 1)) y0_0 y0_1 y1_0 y1_1 y3_0 y5)) else none) else none) else none) else none) else (if y5.length < 17592186044416 then (spec_l2Mul.x0 k x18 (wr64 (x19 + 1)) y0_0 y0_1 y1_0 y1_1 y3_0 (y5 ++ [x9])) else none)) := by kernel_rfl
set_option maxRecDepth 100000 in
theorem spec_l2Mul.ef (k : Nat) (a0_0 : Int) (l0_1 : List Int) (a1_0 : Int) (l1_1 : List Int) : R.start Tryz.prog xhn spec_l2Mul.O 0 Tryz.f106 spec_l2Mul.fh k [.agg [.int .i64 a0_0, .imm (.I .i64 l0_1)], .agg [.int .i64 a1_0, .imm (.I .i64 l1_1)]] [] = (spec_l2Mul.x0 k (wr64 (a0_0 * a0_0)) 0 a0_0 l0_1 a1_0 l1_1 a0_0 ([] : List Int)) := by kernel_rfl
theorem spec_l2Mul.link : ∀ k, (∀ (x18 : Int) (x19 : Int) (y0_0 : Int) (y0_1 : List Int) (y1_0 : Int) (y1_1 : List Int) (y3_0 : Int) (y5 : List Int), spec_l2Mul.x0 k x18 x19 y0_0 y0_1 y1_0 y1_1 y3_0 y5 = (spec_l2Mul.l0 k x18 x19 y0_0 y0_1 y1_0 y1_1 y3_0 y5).map (spec_l2Mul.en)) ∧ (∀ (x7 : Int) (x8 : Int) (x9 : Int) (x18 : Int) (x19 : Int) (x31 : Int) (x32 : Int) (y0_0 : Int) (y0_1 : List Int) (y1_0 : Int) (y1_1 : List Int) (y3_0 : Int) (y5 : List Int), spec_l2Mul.x1 k x7 x8 x9 x18 x19 x31 x32 y0_0 y0_1 y1_0 y1_1 y3_0 y5 = (spec_l2Mul.l1 k x7 x8 x9 x18 x19 x31 x32 y0_0 y0_1 y1_0 y1_1 y3_0 y5).map (spec_l2Mul.en))
  | 0 => ⟨fun _ _ _ _ _ _ _ _ => by simp only [spec_l2Mul.l0, R.map_none]; rfl, fun _ _ _ _ _ _ _ _ _ _ _ _ _ => by simp only [spec_l2Mul.l1, R.map_none]; rfl⟩
  | k + 1 => by
    obtain ⟨ih0, ih1⟩ := spec_l2Mul.link k
    refine ⟨?_, ?_⟩
    · intro x18 x19 y0_0 y0_1 y1_0 y1_1 y3_0 y5
      rw [spec_l2Mul.e0]
      simp only [spec_l2Mul.l0, R.map_ite, R.map_bind, R.map_none, R.map_some, R.wr64_eq, ← ih0, ← ih1]
    · intro x7 x8 x9 x18 x19 x31 x32 y0_0 y0_1 y1_0 y1_1 y3_0 y5
      rw [spec_l2Mul.e1]
      simp only [spec_l2Mul.l1, R.map_ite, R.map_bind, R.map_none, R.map_some, R.wr64_eq, ← ih0, ← ih1]
theorem spec_l2Mul.sf (k : Nat) (a0_0 : Int) (l0_1 : List Int) (a1_0 : Int) (l1_1 : List Int) : R.start Tryz.prog xhn spec_l2Mul.O 0 Tryz.f106 spec_l2Mul.fh k [.agg [.int .i64 a0_0, .imm (.I .i64 l0_1)], .agg [.int .i64 a1_0, .imm (.I .i64 l1_1)]] [] = (spec_l2Mul.f k a0_0 l0_1 a1_0 l1_1).map (spec_l2Mul.en) := by
  obtain ⟨ih0, ih1⟩ := spec_l2Mul.link k
  rw [spec_l2Mul.ef]
  simp only [spec_l2Mul.f, R.map_ite, R.map_bind, R.map_none, R.map_some, R.wr64_eq, ← ih0, ← ih1]
theorem spec_l2Mul.ok (k : Nat) : spec_l2Mul.tw.Ok Tryz.prog k := by
  intro md hmd a r h
  refine fn_ok (H := xhn) (fh := spec_l2Mul.fh) (O := spec_l2Mul.O) (k := k) Tryz.func106 (by kernel_rfl) (by kernel_rfl) (fun j _ => (Tw.orc_sound spec_l1Add.dok (spec_l1Add.ok j) (fun _ => rfl) noO_sound)) (by kernel_rfl) (m := 0) rfl ?_
  refine (spec_l2Mul.sf k a.1 a.2.1 a.2.2.1 a.2.2.2).trans ?_
  exact congrArg (Option.map _) h
def spec_l4Matrix.l0 : Nat → ByteArray → Int → Int → Int → (List Int) → Int → (List Int) → Int → (List Int) → Option (Int × (List Int))
  | 0, _, _, _, _, _, _, _, _, _ => none
  | k + 1, x1, x17, x18, y1_0, y5, y2_0, y6, y3_0, y7 => (if x18 < x17 then (if 0 ≤ x18 then (if x18 < (x1.size : Int) then (if (btI x1 x18) = 97 then ((spec_l2Mul.f k y1_0 y5 y2_0 y6).bind fun t4 => (spec_l4Matrix.l0 k x1 x17 (wrap64 (x18 + 1)) t4.1 t4.2 y2_0 y6 y3_0 y7)) else ((spec_l2Mul.f k y1_0 y5 y3_0 y7).bind fun t5 => (spec_l4Matrix.l0 k x1 x17 (wrap64 (x18 + 1)) t5.1 t5.2 y2_0 y6 y3_0 y7))) else none) else none) else (some (y1_0, y5)))
def spec_l4Matrix.f (k : Nat) (a0_0 : Int) (l0_1 : List Int) (l0_2 : List Int) (l0_3 : List Stp) (a1 : ByteArray) : Option (Int × (List Int)) := ((spec_l2Unit.f k a0_0).bind fun t1 => ((spec_l3Matrix.f k a0_0 l0_1 l0_2 l0_3 (⟨#[97]⟩ : ByteArray)).bind fun t2 => ((spec_l3Matrix.f k a0_0 l0_1 l0_2 l0_3 (⟨#[98]⟩ : ByteArray)).bind fun t3 => (spec_l4Matrix.l0 k a1 (a1.size : Int) 0 t1.1 t1.2 t2.1 t2.2 t3.1 t3.2))))
def spec_l4Matrix.en (r : Int × (List Int)) : Res := (.agg [.int .i64 r.1, .sl 0 0], [.arr 3 0 (.I .i64 r.2) false])
def spec_l4Matrix.dec : List AV → List R.Obj → Option (Int × (List Int) × (List Int) × (List Stp) × ByteArray)
  | [.agg [.int .i64 a0_0, .imm (.I .i64 l0_1), .imm (.I .i64 l0_2), .imm (.T l0_3)], .str a1], [] => some (a0_0, l0_1, l0_2, l0_3, a1)
  | _, _ => none
def spec_l4Matrix.tw : Tw := ⟨84, Int × (List Int) × (List Int) × (List Stp) × ByteArray, Int × (List Int), spec_l4Matrix.dec, fun a => [.agg [.int .i64 a.1, .imm (.I .i64 a.2.1), .imm (.I .i64 a.2.2.1), .imm (.T a.2.2.2.1)], .str a.2.2.2.2], fun a => [], fun k a => spec_l4Matrix.f k a.1 a.2.1 a.2.2.1 a.2.2.2.1 a.2.2.2.2, fun a r => spec_l4Matrix.en r, true⟩
theorem spec_l4Matrix.dok : spec_l4Matrix.tw.DecOk := by
  intro args hc a h
  have h : spec_l4Matrix.dec args hc = some a := h
  unfold spec_l4Matrix.dec at h
  split at h
  · cases h; exact ⟨rfl, rfl⟩
  · cases h
noncomputable def spec_l4Matrix.O (k : Nat) : Oracle := (spec_l2Unit.tw.orc k (spec_l3Matrix.tw.orc k (spec_l2Mul.tw.orc k noO)))
def spec_l4Matrix.fh : FH := ⟨fun i => match i with | 4 => some [(1, 0), (4, 0), (5, 0), (6, 0), (7, 0), (17, 0), (18, 0)] | _ => none, [(true, 3)], false⟩
noncomputable def spec_l4Matrix.x0 (k : Nat) (x1 : ByteArray) (x17 : Int) (x18 : Int) (y1_0 : Int) (y5 : List Int) (y2_0 : Int) (y6 : List Int) (y3_0 : Int) (y7 : List Int) : Option Res := R.exec Tryz.prog xhn spec_l4Matrix.O 0 Tryz.f84 spec_l4Matrix.fh k (R.point Tryz.f84 4) ⟨[(1, .str x1), (4, .ptr 0 0), (5, .ptr 1 0), (6, .ptr 2 0), (7, .ptr 3 0), (17, .int .i64 x17), (18, .int .i64 x18)], [(0, .box false [.int .i64 0, .sl 4 0]), (1, .box false [.int .i64 y1_0, .sl 5 0]), (2, .box false [.int .i64 y2_0, .sl 6 0]), (3, .box false [.int .i64 y3_0, .sl 7 0]), (4, .arr 3 0 (.I .i64 ([] : List Int)) false), (5, .arr 3 0 (.I .i64 y5) false), (6, .arr 3 0 (.I .i64 y6) false), (7, .arr 3 0 (.I .i64 y7) false)], 10⟩
set_option maxRecDepth 100000 in
theorem spec_l4Matrix.e0 (k : Nat) (x1 : ByteArray) (x17 : Int) (x18 : Int) (y1_0 : Int) (y5 : List Int) (y2_0 : Int) (y6 : List Int) (y3_0 : Int) (y7 : List Int) : spec_l4Matrix.x0 (k + 1) x1 x17 x18 y1_0 y5 y2_0 y6 y3_0 y7 = (if x18 < x17 then (if 0 ≤ x18 then (if x18 < (x1.size : Int) then (if (btI x1 x18) = 97 then ((spec_l2Mul.f k y1_0 y5 y2_0 y6).bind fun t4 => (spec_l4Matrix.x0 k x1 x17 (wr64 (x18 + 1)) t4.1 t4.2 y2_0 y6 y3_0 y7)) else ((spec_l2Mul.f k y1_0 y5 y3_0 y7).bind fun t5 => (spec_l4Matrix.x0 k x1 x17 (wr64 (x18 + 1)) t5.1 t5.2 y2_0 y6 y3_0 y7))) else none) else none) else (some (spec_l4Matrix.en (y1_0, y5)))) := by kernel_rfl
set_option maxRecDepth 100000 in
theorem spec_l4Matrix.ef (k : Nat) (a0_0 : Int) (l0_1 : List Int) (l0_2 : List Int) (l0_3 : List Stp) (a1 : ByteArray) : R.start Tryz.prog xhn spec_l4Matrix.O 0 Tryz.f84 spec_l4Matrix.fh k [.agg [.int .i64 a0_0, .imm (.I .i64 l0_1), .imm (.I .i64 l0_2), .imm (.T l0_3)], .str a1] [] = ((spec_l2Unit.f k a0_0).bind fun t1 => ((spec_l3Matrix.f k a0_0 l0_1 l0_2 l0_3 (⟨#[97]⟩ : ByteArray)).bind fun t2 => ((spec_l3Matrix.f k a0_0 l0_1 l0_2 l0_3 (⟨#[98]⟩ : ByteArray)).bind fun t3 => (spec_l4Matrix.x0 k a1 (a1.size : Int) 0 t1.1 t1.2 t2.1 t2.2 t3.1 t3.2)))) := by kernel_rfl
theorem spec_l4Matrix.link : ∀ k, (∀ (x1 : ByteArray) (x17 : Int) (x18 : Int) (y1_0 : Int) (y5 : List Int) (y2_0 : Int) (y6 : List Int) (y3_0 : Int) (y7 : List Int), spec_l4Matrix.x0 k x1 x17 x18 y1_0 y5 y2_0 y6 y3_0 y7 = (spec_l4Matrix.l0 k x1 x17 x18 y1_0 y5 y2_0 y6 y3_0 y7).map (spec_l4Matrix.en))
  | 0 => fun _ _ _ _ _ _ _ _ _ => by simp only [spec_l4Matrix.l0, R.map_none]; rfl
  | k + 1 => by
    have ih0 := spec_l4Matrix.link k
    · intro x1 x17 x18 y1_0 y5 y2_0 y6 y3_0 y7
      rw [spec_l4Matrix.e0]
      simp only [spec_l4Matrix.l0, R.map_ite, R.map_bind, R.map_none, R.map_some, R.wr64_eq, ← ih0]
theorem spec_l4Matrix.sf (k : Nat) (a0_0 : Int) (l0_1 : List Int) (l0_2 : List Int) (l0_3 : List Stp) (a1 : ByteArray) : R.start Tryz.prog xhn spec_l4Matrix.O 0 Tryz.f84 spec_l4Matrix.fh k [.agg [.int .i64 a0_0, .imm (.I .i64 l0_1), .imm (.I .i64 l0_2), .imm (.T l0_3)], .str a1] [] = (spec_l4Matrix.f k a0_0 l0_1 l0_2 l0_3 a1).map (spec_l4Matrix.en) := by
  have ih0 := spec_l4Matrix.link k
  rw [spec_l4Matrix.ef]
  simp only [spec_l4Matrix.f, R.map_ite, R.map_bind, R.map_none, R.map_some, R.wr64_eq, ← ih0]
theorem spec_l4Matrix.ok (k : Nat) : spec_l4Matrix.tw.Ok Tryz.prog k := by
  intro md hmd a r h
  refine fn_ok (H := xhn) (fh := spec_l4Matrix.fh) (O := spec_l4Matrix.O) (k := k) Tryz.func84 (by kernel_rfl) (by kernel_rfl) (fun j _ => (Tw.orc_sound spec_l2Unit.dok (spec_l2Unit.ok j) (fun _ => rfl) (Tw.orc_sound spec_l3Matrix.dok (spec_l3Matrix.ok j) (fun _ => rfl) (Tw.orc_sound spec_l2Mul.dok (spec_l2Mul.ok j) (fun _ => rfl) noO_sound)))) (by kernel_rfl) (m := 0) rfl ?_
  refine (spec_l4Matrix.sf k a.1 a.2.1 a.2.2.1 a.2.2.2.1 a.2.2.2.2).trans ?_
  exact congrArg (Option.map _) h
mutual
def spec_l4Least.l0 : Nat → Int → (List Int) → Int → Int → Int → (List Int) → (List Int) → (List Stp) → Int → (List Int) → Option (Int)
  | 0, _, _, _, _, _, _, _, _, _, _ => none
  | k + 1, x5, x11, x12, x13, y0_0, y0_1, y0_2, y0_3, y1_0, y1_1 => (if x13 < x12 then (if 0 ≤ x13 then (if x13 < (x11.length : Int) then (spec_l4Least.l1 k x5 (rdI x11 x13) x11 x12 x13 y0_2 (y0_2.length : Int) 0 y0_0 y0_1 y0_2 y0_3 y1_0 y1_1) else none) else none) else (some x5))
def spec_l4Least.l1 : Nat → Int → Int → (List Int) → Int → Int → (List Int) → Int → Int → Int → (List Int) → (List Int) → (List Stp) → Int → (List Int) → Option (Int)
  | 0, _, _, _, _, _, _, _, _, _, _, _, _, _, _ => none
  | k + 1, x5, x7, x11, x12, x13, x18, x19, x20, y0_0, y0_1, y0_2, y0_3, y1_0, y1_1 => (if x20 < x19 then (if 0 ≤ x20 then (if x20 < (x18.length : Int) then (if 0 ≤ (wrap64 ((wrap64 (x7 * y0_0)) + (rdI x18 x20))) then (if (wrap64 ((wrap64 (x7 * y0_0)) + (rdI x18 x20))) < (y1_1.length : Int) then (spec_l4Least.l1 k (mn x5 (rdI y1_1 (wrap64 ((wrap64 (x7 * y0_0)) + (rdI x18 x20))))) x7 x11 x12 x13 x18 x19 (wrap64 (x20 + 1)) y0_0 y0_1 y0_2 y0_3 y1_0 y1_1) else none) else none) else none) else none) else (spec_l4Least.l0 k x5 x11 x12 (wrap64 (x13 + 1)) y0_0 y0_1 y0_2 y0_3 y1_0 y1_1))
end
def spec_l4Least.f (k : Nat) (a0_0 : Int) (l0_1 : List Int) (l0_2 : List Int) (l0_3 : List Stp) (a1_0 : Int) (l1_1 : List Int) : Option (Int) := (spec_l4Least.l0 k 1000000 l0_1 (l0_1.length : Int) 0 a0_0 l0_1 l0_2 l0_3 a1_0 l1_1)
def spec_l4Least.en (r : Int) : Res := (.int .i64 r, [])
def spec_l4Least.dec : List AV → List R.Obj → Option (Int × (List Int) × (List Int) × (List Stp) × Int × (List Int))
  | [.agg [.int .i64 a0_0, .imm (.I .i64 l0_1), .imm (.I .i64 l0_2), .imm (.T l0_3)], .agg [.int .i64 a1_0, .imm (.I .i64 l1_1)]], [] => some (a0_0, l0_1, l0_2, l0_3, a1_0, l1_1)
  | _, _ => none
def spec_l4Least.tw : Tw := ⟨83, Int × (List Int) × (List Int) × (List Stp) × Int × (List Int), Int, spec_l4Least.dec, fun a => [.agg [.int .i64 a.1, .imm (.I .i64 a.2.1), .imm (.I .i64 a.2.2.1), .imm (.T a.2.2.2.1)], .agg [.int .i64 a.2.2.2.2.1, .imm (.I .i64 a.2.2.2.2.2)]], fun a => [], fun k a => spec_l4Least.f k a.1 a.2.1 a.2.2.1 a.2.2.2.1 a.2.2.2.2.1 a.2.2.2.2.2, fun a r => spec_l4Least.en r, true⟩
theorem spec_l4Least.dok : spec_l4Least.tw.DecOk := by
  intro args hc a h
  have h : spec_l4Least.dec args hc = some a := h
  unfold spec_l4Least.dec at h
  split at h
  · cases h; exact ⟨rfl, rfl⟩
  · cases h
noncomputable def spec_l4Least.O (k : Nat) : Oracle := noO
def spec_l4Least.fh : FH := ⟨fun i => match i with | 3 => some [(2, 0), (3, 0), (5, 0), (11, 0), (12, 0), (13, 0)] | 6 => some [(2, 0), (3, 0), (5, 0), (7, 0), (11, 0), (12, 0), (13, 0), (18, 0), (19, 0), (20, 0)] | _ => none, [], false⟩
noncomputable def spec_l4Least.x0 (k : Nat) (x5 : Int) (x11 : List Int) (x12 : Int) (x13 : Int) (y0_0 : Int) (y0_1 : List Int) (y0_2 : List Int) (y0_3 : List Stp) (y1_0 : Int) (y1_1 : List Int) : Option Res := R.exec Tryz.prog xhn spec_l4Least.O 0 Tryz.f83 spec_l4Least.fh k (R.point Tryz.f83 3) ⟨[(2, .ptr 0 0), (3, .ptr 1 0), (5, .int .i64 x5), (11, .imm (.I .i64 x11)), (12, .int .i64 x12), (13, .int .i64 x13)], [(0, .box false [.int .i64 y0_0, .imm (.I .i64 y0_1), .imm (.I .i64 y0_2), .imm (.T y0_3)]), (1, .box false [.int .i64 y1_0, .imm (.I .i64 y1_1)])], 4⟩
noncomputable def spec_l4Least.x1 (k : Nat) (x5 : Int) (x7 : Int) (x11 : List Int) (x12 : Int) (x13 : Int) (x18 : List Int) (x19 : Int) (x20 : Int) (y0_0 : Int) (y0_1 : List Int) (y0_2 : List Int) (y0_3 : List Stp) (y1_0 : Int) (y1_1 : List Int) : Option Res := R.exec Tryz.prog xhn spec_l4Least.O 0 Tryz.f83 spec_l4Least.fh k (R.point Tryz.f83 6) ⟨[(2, .ptr 0 0), (3, .ptr 1 0), (5, .int .i64 x5), (7, .int .i64 x7), (11, .imm (.I .i64 x11)), (12, .int .i64 x12), (13, .int .i64 x13), (18, .imm (.I .i64 x18)), (19, .int .i64 x19), (20, .int .i64 x20)], [(0, .box false [.int .i64 y0_0, .imm (.I .i64 y0_1), .imm (.I .i64 y0_2), .imm (.T y0_3)]), (1, .box false [.int .i64 y1_0, .imm (.I .i64 y1_1)])], 4⟩
set_option maxRecDepth 100000 in
theorem spec_l4Least.e0 (k : Nat) (x5 : Int) (x11 : List Int) (x12 : Int) (x13 : Int) (y0_0 : Int) (y0_1 : List Int) (y0_2 : List Int) (y0_3 : List Stp) (y1_0 : Int) (y1_1 : List Int) : spec_l4Least.x0 (k + 1) x5 x11 x12 x13 y0_0 y0_1 y0_2 y0_3 y1_0 y1_1 = (if x13 < x12 then (if 0 ≤ x13 then (if x13 < (x11.length : Int) then (spec_l4Least.x1 k x5 (rdI x11 x13) x11 x12 x13 y0_2 (y0_2.length : Int) 0 y0_0 y0_1 y0_2 y0_3 y1_0 y1_1) else none) else none) else (some (spec_l4Least.en x5))) := by kernel_rfl
set_option maxRecDepth 100000 in
theorem spec_l4Least.e1 (k : Nat) (x5 : Int) (x7 : Int) (x11 : List Int) (x12 : Int) (x13 : Int) (x18 : List Int) (x19 : Int) (x20 : Int) (y0_0 : Int) (y0_1 : List Int) (y0_2 : List Int) (y0_3 : List Stp) (y1_0 : Int) (y1_1 : List Int) : spec_l4Least.x1 (k + 1) x5 x7 x11 x12 x13 x18 x19 x20 y0_0 y0_1 y0_2 y0_3 y1_0 y1_1 = (if x20 < x19 then (if 0 ≤ x20 then (if x20 < (x18.length : Int) then (if 0 ≤ (wr64 ((wr64 (x7 * y0_0)) + (rdI x18 x20))) then (if (wr64 ((wr64 (x7 * y0_0)) + (rdI x18 x20))) < (y1_1.length : Int) then (spec_l4Least.x1 k (mn x5 (rdI y1_1 (wr64 ((wr64 (x7 * y0_0)) + (rdI x18 x20))))) x7 x11 x12 x13 x18 x19 (wr64 (x20 + 1)) y0_0 y0_1 y0_2 y0_3 y1_0 y1_1) else none) else none) else none) else none) else (spec_l4Least.x0 k x5 x11 x12 (wr64 (x13 + 1)) y0_0 y0_1 y0_2 y0_3 y1_0 y1_1)) := by kernel_rfl
set_option maxRecDepth 100000 in
theorem spec_l4Least.ef (k : Nat) (a0_0 : Int) (l0_1 : List Int) (l0_2 : List Int) (l0_3 : List Stp) (a1_0 : Int) (l1_1 : List Int) : R.start Tryz.prog xhn spec_l4Least.O 0 Tryz.f83 spec_l4Least.fh k [.agg [.int .i64 a0_0, .imm (.I .i64 l0_1), .imm (.I .i64 l0_2), .imm (.T l0_3)], .agg [.int .i64 a1_0, .imm (.I .i64 l1_1)]] [] = (spec_l4Least.x0 k 1000000 l0_1 (l0_1.length : Int) 0 a0_0 l0_1 l0_2 l0_3 a1_0 l1_1) := by kernel_rfl
theorem spec_l4Least.link : ∀ k, (∀ (x5 : Int) (x11 : List Int) (x12 : Int) (x13 : Int) (y0_0 : Int) (y0_1 : List Int) (y0_2 : List Int) (y0_3 : List Stp) (y1_0 : Int) (y1_1 : List Int), spec_l4Least.x0 k x5 x11 x12 x13 y0_0 y0_1 y0_2 y0_3 y1_0 y1_1 = (spec_l4Least.l0 k x5 x11 x12 x13 y0_0 y0_1 y0_2 y0_3 y1_0 y1_1).map (spec_l4Least.en)) ∧ (∀ (x5 : Int) (x7 : Int) (x11 : List Int) (x12 : Int) (x13 : Int) (x18 : List Int) (x19 : Int) (x20 : Int) (y0_0 : Int) (y0_1 : List Int) (y0_2 : List Int) (y0_3 : List Stp) (y1_0 : Int) (y1_1 : List Int), spec_l4Least.x1 k x5 x7 x11 x12 x13 x18 x19 x20 y0_0 y0_1 y0_2 y0_3 y1_0 y1_1 = (spec_l4Least.l1 k x5 x7 x11 x12 x13 x18 x19 x20 y0_0 y0_1 y0_2 y0_3 y1_0 y1_1).map (spec_l4Least.en))
  | 0 => ⟨fun _ _ _ _ _ _ _ _ _ _ => by simp only [spec_l4Least.l0, R.map_none]; rfl, fun _ _ _ _ _ _ _ _ _ _ _ _ _ _ => by simp only [spec_l4Least.l1, R.map_none]; rfl⟩
  | k + 1 => by
    obtain ⟨ih0, ih1⟩ := spec_l4Least.link k
    refine ⟨?_, ?_⟩
    · intro x5 x11 x12 x13 y0_0 y0_1 y0_2 y0_3 y1_0 y1_1
      rw [spec_l4Least.e0]
      simp only [spec_l4Least.l0, R.map_ite, R.map_bind, R.map_none, R.map_some, R.wr64_eq, ← ih0, ← ih1]
    · intro x5 x7 x11 x12 x13 x18 x19 x20 y0_0 y0_1 y0_2 y0_3 y1_0 y1_1
      rw [spec_l4Least.e1]
      simp only [spec_l4Least.l1, R.map_ite, R.map_bind, R.map_none, R.map_some, R.wr64_eq, ← ih0, ← ih1]
theorem spec_l4Least.sf (k : Nat) (a0_0 : Int) (l0_1 : List Int) (l0_2 : List Int) (l0_3 : List Stp) (a1_0 : Int) (l1_1 : List Int) : R.start Tryz.prog xhn spec_l4Least.O 0 Tryz.f83 spec_l4Least.fh k [.agg [.int .i64 a0_0, .imm (.I .i64 l0_1), .imm (.I .i64 l0_2), .imm (.T l0_3)], .agg [.int .i64 a1_0, .imm (.I .i64 l1_1)]] [] = (spec_l4Least.f k a0_0 l0_1 l0_2 l0_3 a1_0 l1_1).map (spec_l4Least.en) := by
  obtain ⟨ih0, ih1⟩ := spec_l4Least.link k
  rw [spec_l4Least.ef]
  simp only [spec_l4Least.f, R.map_ite, R.map_bind, R.map_none, R.map_some, R.wr64_eq, ← ih0, ← ih1]
theorem spec_l4Least.ok (k : Nat) : spec_l4Least.tw.Ok Tryz.prog k := by
  intro md hmd a r h
  refine fn_ok (H := xhn) (fh := spec_l4Least.fh) (O := spec_l4Least.O) (k := k) Tryz.func83 (by kernel_rfl) (by kernel_rfl) (fun j _ => noO_sound) (by kernel_rfl) (m := 0) rfl ?_
  refine (spec_l4Least.sf k a.1 a.2.1 a.2.2.1 a.2.2.2.1 a.2.2.2.2.1 a.2.2.2.2.2).trans ?_
  exact congrArg (Option.map _) h
def spec_l4Cost.f (k : Nat) (a0_0 : Int) (l0_1 : List Int) (l0_2 : List Int) (l0_3 : List Stp) (a1 : ByteArray) : Option (Int) := ((spec_l4Matrix.f k a0_0 l0_1 l0_2 l0_3 a1).bind fun t1 => ((spec_l4Least.f k a0_0 l0_1 l0_2 l0_3 t1.1 t1.2).bind fun t2 => (some t2)))
def spec_l4Cost.en (r : Int) : Res := (.int .i64 r, [])
def spec_l4Cost.dec : List AV → List R.Obj → Option (Int × (List Int) × (List Int) × (List Stp) × ByteArray)
  | [.agg [.int .i64 a0_0, .imm (.I .i64 l0_1), .imm (.I .i64 l0_2), .imm (.T l0_3)], .str a1], [] => some (a0_0, l0_1, l0_2, l0_3, a1)
  | _, _ => none
def spec_l4Cost.tw : Tw := ⟨43, Int × (List Int) × (List Int) × (List Stp) × ByteArray, Int, spec_l4Cost.dec, fun a => [.agg [.int .i64 a.1, .imm (.I .i64 a.2.1), .imm (.I .i64 a.2.2.1), .imm (.T a.2.2.2.1)], .str a.2.2.2.2], fun a => [], fun k a => spec_l4Cost.f k a.1 a.2.1 a.2.2.1 a.2.2.2.1 a.2.2.2.2, fun a r => spec_l4Cost.en r, true⟩
theorem spec_l4Cost.dok : spec_l4Cost.tw.DecOk := by
  intro args hc a h
  have h : spec_l4Cost.dec args hc = some a := h
  unfold spec_l4Cost.dec at h
  split at h
  · cases h; exact ⟨rfl, rfl⟩
  · cases h
noncomputable def spec_l4Cost.O (k : Nat) : Oracle := (spec_l4Matrix.tw.orc k (spec_l4Least.tw.orc k noO))
def spec_l4Cost.fh : FH := ⟨fun i => match i with | _ => none, [], false⟩
set_option maxRecDepth 100000 in
theorem spec_l4Cost.ef (k : Nat) (a0_0 : Int) (l0_1 : List Int) (l0_2 : List Int) (l0_3 : List Stp) (a1 : ByteArray) : R.start Tryz.prog xhn spec_l4Cost.O 0 Tryz.f43 spec_l4Cost.fh k [.agg [.int .i64 a0_0, .imm (.I .i64 l0_1), .imm (.I .i64 l0_2), .imm (.T l0_3)], .str a1] [] = ((spec_l4Matrix.f k a0_0 l0_1 l0_2 l0_3 a1).bind fun t1 => ((spec_l4Least.f k a0_0 l0_1 l0_2 l0_3 t1.1 t1.2).bind fun t2 => (some (spec_l4Cost.en t2)))) := by kernel_rfl
theorem spec_l4Cost.sf (k : Nat) (a0_0 : Int) (l0_1 : List Int) (l0_2 : List Int) (l0_3 : List Stp) (a1 : ByteArray) : R.start Tryz.prog xhn spec_l4Cost.O 0 Tryz.f43 spec_l4Cost.fh k [.agg [.int .i64 a0_0, .imm (.I .i64 l0_1), .imm (.I .i64 l0_2), .imm (.T l0_3)], .str a1] [] = (spec_l4Cost.f k a0_0 l0_1 l0_2 l0_3 a1).map (spec_l4Cost.en) := by
  rw [spec_l4Cost.ef]
  simp only [spec_l4Cost.f, R.map_ite, R.map_bind, R.map_none, R.map_some, R.wr64_eq]
theorem spec_l4Cost.ok (k : Nat) : spec_l4Cost.tw.Ok Tryz.prog k := by
  intro md hmd a r h
  refine fn_ok (H := xhn) (fh := spec_l4Cost.fh) (O := spec_l4Cost.O) (k := k) Tryz.func43 (by kernel_rfl) (by kernel_rfl) (fun j _ => (Tw.orc_sound spec_l4Matrix.dok (spec_l4Matrix.ok j) (fun _ => rfl) (Tw.orc_sound spec_l4Least.dok (spec_l4Least.ok j) (fun _ => rfl) noO_sound))) (by kernel_rfl) (m := 0) rfl ?_
  refine (spec_l4Cost.sf k a.1 a.2.1 a.2.2.1 a.2.2.2.1 a.2.2.2.2).trans ?_
  exact congrArg (Option.map _) h
def spec_GrowthOf.l0 : Nat → ByteArray → Int → (List Int) → Int → Int → (List Int) → (List Int) → (List Stp) → Option ((List Int) × Bool)
  | 0, _, _, _, _, _, _, _, _ => none
  | k + 1, x1, x2, y1, x9, y0_0, y0_1, y0_2, y0_3 => (if x9 ≤ x2 then ((spec_ExpandExpression.f k x1 x9).bind fun t3 => (if t3.2 = true then ((spec_l4Cost.f k y0_0 y0_1 y0_2 y0_3 t3.1).bind fun t4 => (if y1.length < 17592186044416 then (spec_GrowthOf.l0 k x1 x2 (y1 ++ [t4]) (wrap64 (x9 + 1)) y0_0 y0_1 y0_2 y0_3) else none)) else (some (([] : List Int), false)))) else ((spec_ExpressionValid.f k x1).bind fun t5 => (some (y1, t5))))
def spec_GrowthOf.f (k : Nat) (a0_0 : Int) (l0_1 : List Int) (l0_2 : List Int) (l0_3 : List Stp) (a1 : ByteArray) (a2 : Int) : Option ((List Int) × Bool) := ((spec_AutomatonValid.f k a0_0 l0_1 l0_2 l0_3).bind fun t1 => (if t1 = true then ((spec_l1In.f a2 0 20).bind fun t2 => (if t2 = true then (spec_GrowthOf.l0 k a1 a2 ([] : List Int) 1 a0_0 l0_1 l0_2 l0_3) else (some (([] : List Int), false)))) else (some (([] : List Int), false))))
def spec_GrowthOf.en (r : (List Int) × Bool) : Res := (.tup [.sl 0 0, .lit r.2], [.arr 3 0 (.I .i64 r.1) false])
def spec_GrowthOf.dec : List AV → List R.Obj → Option (Int × (List Int) × (List Int) × (List Stp) × ByteArray × Int)
  | [.agg [.int .i64 a0_0, .imm (.I .i64 l0_1), .imm (.I .i64 l0_2), .imm (.T l0_3)], .str a1, .int .i64 a2], [] => some (a0_0, l0_1, l0_2, l0_3, a1, a2)
  | _, _ => none
def spec_GrowthOf.tw : Tw := ⟨16, Int × (List Int) × (List Int) × (List Stp) × ByteArray × Int, (List Int) × Bool, spec_GrowthOf.dec, fun a => [.agg [.int .i64 a.1, .imm (.I .i64 a.2.1), .imm (.I .i64 a.2.2.1), .imm (.T a.2.2.2.1)], .str a.2.2.2.2.1, .int .i64 a.2.2.2.2.2], fun a => [], fun k a => spec_GrowthOf.f k a.1 a.2.1 a.2.2.1 a.2.2.2.1 a.2.2.2.2.1 a.2.2.2.2.2, fun a r => spec_GrowthOf.en r, true⟩
theorem spec_GrowthOf.dok : spec_GrowthOf.tw.DecOk := by
  intro args hc a h
  have h : spec_GrowthOf.dec args hc = some a := h
  unfold spec_GrowthOf.dec at h
  split at h
  · cases h; exact ⟨rfl, rfl⟩
  · cases h
noncomputable def spec_GrowthOf.O (k : Nat) : Oracle := (spec_AutomatonValid.tw.orc k (spec_l1In.tw.orc k (spec_ExpandExpression.tw.orc k (spec_l4Cost.tw.orc k (spec_ExpressionValid.tw.orc k noO)))))
def spec_GrowthOf.fh : FH := ⟨fun i => match i with | 5 => some [(1, 0), (2, 0), (3, 0), (8, 0), (9, 0)] | _ => none, [(true, 3)], false⟩
noncomputable def spec_GrowthOf.x0 (k : Nat) (x1 : ByteArray) (x2 : Int) (y1 : List Int) (x9 : Int) (y0_0 : Int) (y0_1 : List Int) (y0_2 : List Int) (y0_3 : List Stp) : Option Res := R.exec Tryz.prog xhn spec_GrowthOf.O 0 Tryz.f16 spec_GrowthOf.fh k (R.point Tryz.f16 5) ⟨[(1, .str x1), (2, .int .i64 x2), (3, .ptr 0 0), (8, .sl 1 0), (9, .int .i64 x9)], [(0, .box false [.int .i64 y0_0, .imm (.I .i64 y0_1), .imm (.I .i64 y0_2), .imm (.T y0_3)]), (1, .arr 3 0 (.I .i64 y1) false)], 4⟩
set_option maxRecDepth 100000 in
theorem spec_GrowthOf.e0 (k : Nat) (x1 : ByteArray) (x2 : Int) (y1 : List Int) (x9 : Int) (y0_0 : Int) (y0_1 : List Int) (y0_2 : List Int) (y0_3 : List Stp) : spec_GrowthOf.x0 (k + 1) x1 x2 y1 x9 y0_0 y0_1 y0_2 y0_3 = (if x9 ≤ x2 then ((spec_ExpandExpression.f k x1 x9).bind fun t3 => (if t3.2 = true then ((spec_l4Cost.f k y0_0 y0_1 y0_2 y0_3 t3.1).bind fun t4 => (if y1.length < 17592186044416 then (spec_GrowthOf.x0 k x1 x2 (y1 ++ [t4]) (wr64 (x9 + 1)) y0_0 y0_1 y0_2 y0_3) else none)) else (some (spec_GrowthOf.en (([] : List Int), false))))) else ((spec_ExpressionValid.f k x1).bind fun t5 => (some (spec_GrowthOf.en (y1, t5))))) := by kernel_rfl
set_option maxRecDepth 100000 in
theorem spec_GrowthOf.ef (k : Nat) (a0_0 : Int) (l0_1 : List Int) (l0_2 : List Int) (l0_3 : List Stp) (a1 : ByteArray) (a2 : Int) : R.start Tryz.prog xhn spec_GrowthOf.O 0 Tryz.f16 spec_GrowthOf.fh k [.agg [.int .i64 a0_0, .imm (.I .i64 l0_1), .imm (.I .i64 l0_2), .imm (.T l0_3)], .str a1, .int .i64 a2] [] = ((spec_AutomatonValid.f k a0_0 l0_1 l0_2 l0_3).bind fun t1 => (if t1 = true then ((spec_l1In.f a2 0 20).bind fun t2 => (if t2 = true then (spec_GrowthOf.x0 k a1 a2 ([] : List Int) 1 a0_0 l0_1 l0_2 l0_3) else (some (spec_GrowthOf.en (([] : List Int), false))))) else (some (spec_GrowthOf.en (([] : List Int), false))))) := by kernel_rfl
theorem spec_GrowthOf.link : ∀ k, (∀ (x1 : ByteArray) (x2 : Int) (y1 : List Int) (x9 : Int) (y0_0 : Int) (y0_1 : List Int) (y0_2 : List Int) (y0_3 : List Stp), spec_GrowthOf.x0 k x1 x2 y1 x9 y0_0 y0_1 y0_2 y0_3 = (spec_GrowthOf.l0 k x1 x2 y1 x9 y0_0 y0_1 y0_2 y0_3).map (spec_GrowthOf.en))
  | 0 => fun _ _ _ _ _ _ _ _ => by simp only [spec_GrowthOf.l0, R.map_none]; rfl
  | k + 1 => by
    have ih0 := spec_GrowthOf.link k
    · intro x1 x2 y1 x9 y0_0 y0_1 y0_2 y0_3
      rw [spec_GrowthOf.e0]
      simp only [spec_GrowthOf.l0, R.map_ite, R.map_bind, R.map_none, R.map_some, R.wr64_eq, ← ih0]
theorem spec_GrowthOf.sf (k : Nat) (a0_0 : Int) (l0_1 : List Int) (l0_2 : List Int) (l0_3 : List Stp) (a1 : ByteArray) (a2 : Int) : R.start Tryz.prog xhn spec_GrowthOf.O 0 Tryz.f16 spec_GrowthOf.fh k [.agg [.int .i64 a0_0, .imm (.I .i64 l0_1), .imm (.I .i64 l0_2), .imm (.T l0_3)], .str a1, .int .i64 a2] [] = (spec_GrowthOf.f k a0_0 l0_1 l0_2 l0_3 a1 a2).map (spec_GrowthOf.en) := by
  have ih0 := spec_GrowthOf.link k
  rw [spec_GrowthOf.ef]
  simp only [spec_GrowthOf.f, R.map_ite, R.map_bind, R.map_none, R.map_some, R.wr64_eq, ← ih0]
theorem spec_GrowthOf.ok (k : Nat) : spec_GrowthOf.tw.Ok Tryz.prog k := by
  intro md hmd a r h
  refine fn_ok (H := xhn) (fh := spec_GrowthOf.fh) (O := spec_GrowthOf.O) (k := k) Tryz.func16 (by kernel_rfl) (by kernel_rfl) (fun j _ => (Tw.orc_sound spec_AutomatonValid.dok (spec_AutomatonValid.ok j) (fun _ => rfl) (Tw.orc_sound spec_l1In.dok (spec_l1In.ok j) (fun _ => rfl) (Tw.orc_sound spec_ExpandExpression.dok (spec_ExpandExpression.ok j) (fun _ => rfl) (Tw.orc_sound spec_l4Cost.dok (spec_l4Cost.ok j) (fun _ => rfl) (Tw.orc_sound spec_ExpressionValid.dok (spec_ExpressionValid.ok j) (fun _ => rfl) noO_sound)))))) (by kernel_rfl) (m := 0) rfl ?_
  refine (spec_GrowthOf.sf k a.1 a.2.1 a.2.2.1 a.2.2.2.1 a.2.2.2.2.1 a.2.2.2.2.2).trans ?_
  exact congrArg (Option.map _) h
def impl_StepMatrix_1.f (a0 : Int) (a1 : Int) : Option (Int) := (some 1000000)
def impl_StepMatrix_1.en (r : Int) : Res := (.int .i64 r, [])
def impl_StepMatrix_1.dec : List AV → List R.Obj → Option (Int × Int)
  | [.int .i64 a0, .int .i64 a1], [] => some (a0, a1)
  | _, _ => none
def impl_StepMatrix_1.tw : Tw := ⟨71, Int × Int, Int, impl_StepMatrix_1.dec, fun a => [.int .i64 a.1, .int .i64 a.2], fun a => [], fun k a => impl_StepMatrix_1.f a.1 a.2, fun a r => impl_StepMatrix_1.en r, true⟩
theorem impl_StepMatrix_1.dok : impl_StepMatrix_1.tw.DecOk := by
  intro args hc a h
  have h : impl_StepMatrix_1.dec args hc = some a := h
  unfold impl_StepMatrix_1.dec at h
  split at h
  · cases h; exact ⟨rfl, rfl⟩
  · cases h
noncomputable def impl_StepMatrix_1.O (k : Nat) : Oracle := noO
def impl_StepMatrix_1.fh : FH := ⟨fun i => match i with | _ => none, [], false⟩
set_option maxRecDepth 100000 in
theorem impl_StepMatrix_1.ef (k : Nat) (a0 : Int) (a1 : Int) : R.start Tryz.prog xhn impl_StepMatrix_1.O 0 Tryz.f71 impl_StepMatrix_1.fh k [.int .i64 a0, .int .i64 a1] [] = (some (impl_StepMatrix_1.en 1000000)) := by kernel_rfl
theorem impl_StepMatrix_1.sf (k : Nat) (a0 : Int) (a1 : Int) : R.start Tryz.prog xhn impl_StepMatrix_1.O 0 Tryz.f71 impl_StepMatrix_1.fh k [.int .i64 a0, .int .i64 a1] [] = (impl_StepMatrix_1.f a0 a1).map (impl_StepMatrix_1.en) := by
  rw [impl_StepMatrix_1.ef]
  simp only [impl_StepMatrix_1.f, R.map_ite, R.map_bind, R.map_none, R.map_some, R.wr64_eq]
theorem impl_StepMatrix_1.ok (k : Nat) : impl_StepMatrix_1.tw.Ok Tryz.prog k := by
  intro md hmd a r h
  refine fn_ok (H := xhn) (fh := impl_StepMatrix_1.fh) (O := impl_StepMatrix_1.O) (k := k) Tryz.func71 (by kernel_rfl) (by kernel_rfl) (fun j _ => noO_sound) (by kernel_rfl) (m := 0) rfl ?_
  refine (impl_StepMatrix_1.sf k a.1 a.2).trans ?_
  exact congrArg (Option.map _) h
mutual
def impl_filled.l0 : Nat → Int → Int → Int → Int → (List Int) → Option (Int × (List Int))
  | 0, _, _, _, _, _ => none
  | k + 1, x0, x10, x11, y1_0, y3 => (if x11 < x10 then (impl_filled.l1 k x0 x11 x10 x11 x0 0 y1_0 y3) else (some (y1_0, y3)))
def impl_filled.l1 : Nat → Int → Int → Int → Int → Int → Int → Int → (List Int) → Option (Int × (List Int))
  | 0, _, _, _, _, _, _, _, _ => none
  | k + 1, x0, x6, x10, x11, x14, x15, y1_0, y3 => (if x15 < x14 then ((impl_StepMatrix_1.f x6 x15).bind fun t1 => (if y3.length < 17592186044416 then (impl_filled.l1 k x0 x6 x10 x11 x14 (wrap64 (x15 + 1)) y1_0 (y3 ++ [t1])) else none)) else (impl_filled.l0 k x0 x10 (wrap64 (x11 + 1)) y1_0 y3))
end
def impl_filled.f (k : Nat) (a0 : Int) : Option (Int × (List Int)) := (impl_filled.l0 k a0 a0 0 a0 ([] : List Int))
def impl_filled.en (r : Int × (List Int)) : Res := (.agg [.int .i64 r.1, .sl 0 0], [.arr 3 0 (.I .i64 r.2) false])
def impl_filled.dec : List AV → List R.Obj → Option (Int)
  | [.int .i64 a0, .clo 71 []], [] => some a0
  | _, _ => none
def impl_filled.tw : Tw := ⟨69, Int, Int × (List Int), impl_filled.dec, fun a => [.int .i64 a, .clo 71 []], fun a => [], fun k a => impl_filled.f k a, fun a r => impl_filled.en r, true⟩
theorem impl_filled.dok : impl_filled.tw.DecOk := by
  intro args hc a h
  have h : impl_filled.dec args hc = some a := h
  unfold impl_filled.dec at h
  split at h
  · cases h; exact ⟨rfl, rfl⟩
  · cases h
noncomputable def impl_filled.O (k : Nat) : Oracle := (impl_StepMatrix_1.tw.orc k noO)
def impl_filled.fh : FH := ⟨fun i => match i with | 3 => some [(0, 0), (1, 0), (4, 0), (5, 0), (10, 0), (11, 0)] | 6 => some [(0, 0), (1, 0), (4, 0), (5, 0), (6, 0), (10, 0), (11, 0), (14, 0), (15, 0)] | _ => none, [(true, 3)], false⟩
noncomputable def impl_filled.x0 (k : Nat) (x0 : Int) (x10 : Int) (x11 : Int) (y1_0 : Int) (y3 : List Int) : Option Res := R.exec Tryz.prog xhn impl_filled.O 0 Tryz.f69 impl_filled.fh k (R.point Tryz.f69 3) ⟨[(0, .int .i64 x0), (1, .clo 71 []), (4, .ptr 0 0), (5, .ptr 1 0), (10, .int .i64 x10), (11, .int .i64 x11)], [(0, .box false [.int .i64 0, .sl 2 0]), (1, .box false [.int .i64 y1_0, .sl 3 0]), (2, .arr 3 0 (.I .i64 ([] : List Int)) false), (3, .arr 3 0 (.I .i64 y3) false)], 6⟩
noncomputable def impl_filled.x1 (k : Nat) (x0 : Int) (x6 : Int) (x10 : Int) (x11 : Int) (x14 : Int) (x15 : Int) (y1_0 : Int) (y3 : List Int) : Option Res := R.exec Tryz.prog xhn impl_filled.O 0 Tryz.f69 impl_filled.fh k (R.point Tryz.f69 6) ⟨[(0, .int .i64 x0), (1, .clo 71 []), (4, .ptr 0 0), (5, .ptr 1 0), (6, .int .i64 x6), (10, .int .i64 x10), (11, .int .i64 x11), (14, .int .i64 x14), (15, .int .i64 x15)], [(0, .box false [.int .i64 0, .sl 2 0]), (1, .box false [.int .i64 y1_0, .sl 3 0]), (2, .arr 3 0 (.I .i64 ([] : List Int)) false), (3, .arr 3 0 (.I .i64 y3) false)], 6⟩
set_option maxRecDepth 100000 in
theorem impl_filled.e0 (k : Nat) (x0 : Int) (x10 : Int) (x11 : Int) (y1_0 : Int) (y3 : List Int) : impl_filled.x0 (k + 1) x0 x10 x11 y1_0 y3 = (if x11 < x10 then (impl_filled.x1 k x0 x11 x10 x11 x0 0 y1_0 y3) else (some (impl_filled.en (y1_0, y3)))) := by kernel_rfl
set_option maxRecDepth 100000 in
theorem impl_filled.e1 (k : Nat) (x0 : Int) (x6 : Int) (x10 : Int) (x11 : Int) (x14 : Int) (x15 : Int) (y1_0 : Int) (y3 : List Int) : impl_filled.x1 (k + 1) x0 x6 x10 x11 x14 x15 y1_0 y3 = (if x15 < x14 then ((impl_StepMatrix_1.f x6 x15).bind fun t1 => (if y3.length < 17592186044416 then (impl_filled.x1 k x0 x6 x10 x11 x14 (wr64 (x15 + 1)) y1_0 (y3 ++ [t1])) else none)) else (impl_filled.x0 k x0 x10 (wr64 (x11 + 1)) y1_0 y3)) := by kernel_rfl
set_option maxRecDepth 100000 in
theorem impl_filled.ef (k : Nat) (a0 : Int) : R.start Tryz.prog xhn impl_filled.O 0 Tryz.f69 impl_filled.fh k [.int .i64 a0, .clo 71 []] [] = (impl_filled.x0 k a0 a0 0 a0 ([] : List Int)) := by kernel_rfl
theorem impl_filled.link : ∀ k, (∀ (x0 : Int) (x10 : Int) (x11 : Int) (y1_0 : Int) (y3 : List Int), impl_filled.x0 k x0 x10 x11 y1_0 y3 = (impl_filled.l0 k x0 x10 x11 y1_0 y3).map (impl_filled.en)) ∧ (∀ (x0 : Int) (x6 : Int) (x10 : Int) (x11 : Int) (x14 : Int) (x15 : Int) (y1_0 : Int) (y3 : List Int), impl_filled.x1 k x0 x6 x10 x11 x14 x15 y1_0 y3 = (impl_filled.l1 k x0 x6 x10 x11 x14 x15 y1_0 y3).map (impl_filled.en))
  | 0 => ⟨fun _ _ _ _ _ => by simp only [impl_filled.l0, R.map_none]; rfl, fun _ _ _ _ _ _ _ _ => by simp only [impl_filled.l1, R.map_none]; rfl⟩
  | k + 1 => by
    obtain ⟨ih0, ih1⟩ := impl_filled.link k
    refine ⟨?_, ?_⟩
    · intro x0 x10 x11 y1_0 y3
      rw [impl_filled.e0]
      simp only [impl_filled.l0, R.map_ite, R.map_bind, R.map_none, R.map_some, R.wr64_eq, ← ih0, ← ih1]
    · intro x0 x6 x10 x11 x14 x15 y1_0 y3
      rw [impl_filled.e1]
      simp only [impl_filled.l1, R.map_ite, R.map_bind, R.map_none, R.map_some, R.wr64_eq, ← ih0, ← ih1]
theorem impl_filled.sf (k : Nat) (a0 : Int) : R.start Tryz.prog xhn impl_filled.O 0 Tryz.f69 impl_filled.fh k [.int .i64 a0, .clo 71 []] [] = (impl_filled.f k a0).map (impl_filled.en) := by
  obtain ⟨ih0, ih1⟩ := impl_filled.link k
  rw [impl_filled.ef]
  simp only [impl_filled.f, R.map_ite, R.map_bind, R.map_none, R.map_some, R.wr64_eq, ← ih0, ← ih1]
theorem impl_filled.ok (k : Nat) : impl_filled.tw.Ok Tryz.prog k := by
  intro md hmd a r h
  refine fn_ok (H := xhn) (fh := impl_filled.fh) (O := impl_filled.O) (k := k) Tryz.func69 (by kernel_rfl) (by kernel_rfl) (fun j _ => (Tw.orc_sound impl_StepMatrix_1.dok (impl_StepMatrix_1.ok j) (fun _ => rfl) noO_sound)) (by kernel_rfl) (m := 0) rfl ?_
  refine (impl_filled.sf k a).trans ?_
  exact congrArg (Option.map _) h
def impl_StepMatrix.l0 : Nat → ByteArray → (List Stp) → Int → Int → Int → (List Int) → Option (Int × (List Int) × Bool)
  | 0, _, _, _, _, _, _ => none
  | k + 1, x1, x25, x26, x27, y1_0, y3 => (if x27 < x26 then (if 0 ≤ x27 then (if x27 < (x25.length : Int) then (if (rdT x25 x27).f1.toList = x1.toList then (if 0 ≤ (wrap64 ((wrap64 ((rdT x25 x27).f0 * y1_0)) + (rdT x25 x27).f2)) then (if (wrap64 ((wrap64 ((rdT x25 x27).f0 * y1_0)) + (rdT x25 x27).f2)) < (y3.length : Int) then (impl_StepMatrix.l0 k x1 x25 x26 (wrap64 (x27 + 1)) y1_0 (y3.set (wrap64 ((wrap64 ((rdT x25 x27).f0 * y1_0)) + (rdT x25 x27).f2)).toNat (rdT x25 x27).f3)) else none) else none) else (impl_StepMatrix.l0 k x1 x25 x26 (wrap64 (x27 + 1)) y1_0 y3)) else none) else none) else (some (y1_0, y3, true)))
def impl_StepMatrix.f (k : Nat) (a0_0 : Int) (l0_1 : List Int) (l0_2 : List Int) (l0_3 : List Stp) (a1 : ByteArray) : Option (Int × (List Int) × Bool) := ((impl_AutomatonValid.f k a0_0 l0_1 l0_2 l0_3).bind fun t1 => (if t1 = true then (if a1.toList = ([97] : List UInt8) then ((impl_filled.f k a0_0).bind fun t2 => (impl_StepMatrix.l0 k a1 l0_3 (l0_3.length : Int) 0 t2.1 t2.2)) else (if a1.toList = ([98] : List UInt8) then ((impl_filled.f k a0_0).bind fun t3 => (impl_StepMatrix.l0 k a1 l0_3 (l0_3.length : Int) 0 t3.1 t3.2)) else (some (0, ([] : List Int), false)))) else (some (0, ([] : List Int), false))))
def impl_StepMatrix.en (r : Int × (List Int) × Bool) : Res := (.tup [.agg [.int .i64 r.1, .sl 0 0], .lit r.2.2], [.arr 3 0 (.I .i64 r.2.1) false])
def impl_StepMatrix.dec : List AV → List R.Obj → Option (Int × (List Int) × (List Int) × (List Stp) × ByteArray)
  | [.agg [.int .i64 a0_0, .imm (.I .i64 l0_1), .imm (.I .i64 l0_2), .imm (.T l0_3)], .str a1], [] => some (a0_0, l0_1, l0_2, l0_3, a1)
  | _, _ => none
def impl_StepMatrix.tw : Tw := ⟨32, Int × (List Int) × (List Int) × (List Stp) × ByteArray, Int × (List Int) × Bool, impl_StepMatrix.dec, fun a => [.agg [.int .i64 a.1, .imm (.I .i64 a.2.1), .imm (.I .i64 a.2.2.1), .imm (.T a.2.2.2.1)], .str a.2.2.2.2], fun a => [], fun k a => impl_StepMatrix.f k a.1 a.2.1 a.2.2.1 a.2.2.2.1 a.2.2.2.2, fun a r => impl_StepMatrix.en r, true⟩
theorem impl_StepMatrix.dok : impl_StepMatrix.tw.DecOk := by
  intro args hc a h
  have h : impl_StepMatrix.dec args hc = some a := h
  unfold impl_StepMatrix.dec at h
  split at h
  · cases h; exact ⟨rfl, rfl⟩
  · cases h
noncomputable def impl_StepMatrix.O (k : Nat) : Oracle := (impl_AutomatonValid.tw.orc k (impl_filled.tw.orc k noO))
def impl_StepMatrix.fh : FH := ⟨fun i => match i with | 5 => some [(1, 0), (4, 0), (6, 0), (25, 0), (26, 0), (27, 0)] | _ => none, [(true, 3)], false⟩
noncomputable def impl_StepMatrix.x0 (k : Nat) (x1 : ByteArray) (x25 : List Stp) (x26 : Int) (x27 : Int) (y1_0 : Int) (y3 : List Int) : Option Res := R.exec Tryz.prog xhn impl_StepMatrix.O 0 Tryz.f32 impl_StepMatrix.fh k (R.point Tryz.f32 5) ⟨[(1, .str x1), (4, .ptr 0 0), (6, .ptr 1 0), (25, .imm (.T x25)), (26, .int .i64 x26), (27, .int .i64 x27)], [(0, .box false [.int .i64 0, .sl 2 0]), (1, .box false [.int .i64 y1_0, .sl 3 0]), (2, .arr 3 0 (.I .i64 ([] : List Int)) false), (3, .arr 3 0 (.I .i64 y3) false)], 6⟩
set_option maxRecDepth 100000 in
theorem impl_StepMatrix.e0 (k : Nat) (x1 : ByteArray) (x25 : List Stp) (x26 : Int) (x27 : Int) (y1_0 : Int) (y3 : List Int) : impl_StepMatrix.x0 (k + 1) x1 x25 x26 x27 y1_0 y3 = (if x27 < x26 then (if 0 ≤ x27 then (if x27 < (x25.length : Int) then (if (rdT x25 x27).f1.toList = x1.toList then (if 0 ≤ (wr64 ((wr64 ((rdT x25 x27).f0 * y1_0)) + (rdT x25 x27).f2)) then (if (wr64 ((wr64 ((rdT x25 x27).f0 * y1_0)) + (rdT x25 x27).f2)) < (y3.length : Int) then (impl_StepMatrix.x0 k x1 x25 x26 (wr64 (x27 + 1)) y1_0 (y3.set (wr64 ((wr64 ((rdT x25 x27).f0 * y1_0)) + (rdT x25 x27).f2)).toNat (rdT x25 x27).f3)) else none) else none) else (impl_StepMatrix.x0 k x1 x25 x26 (wr64 (x27 + 1)) y1_0 y3)) else none) else none) else (some (impl_StepMatrix.en (y1_0, y3, true)))) := by kernel_rfl
set_option maxRecDepth 100000 in
theorem impl_StepMatrix.ef (k : Nat) (a0_0 : Int) (l0_1 : List Int) (l0_2 : List Int) (l0_3 : List Stp) (a1 : ByteArray) : R.start Tryz.prog xhn impl_StepMatrix.O 0 Tryz.f32 impl_StepMatrix.fh k [.agg [.int .i64 a0_0, .imm (.I .i64 l0_1), .imm (.I .i64 l0_2), .imm (.T l0_3)], .str a1] [] = ((impl_AutomatonValid.f k a0_0 l0_1 l0_2 l0_3).bind fun t1 => (if t1 = true then (if a1.toList = ([97] : List UInt8) then ((impl_filled.f k a0_0).bind fun t2 => (impl_StepMatrix.x0 k a1 l0_3 (l0_3.length : Int) 0 t2.1 t2.2)) else (if a1.toList = ([98] : List UInt8) then ((impl_filled.f k a0_0).bind fun t3 => (impl_StepMatrix.x0 k a1 l0_3 (l0_3.length : Int) 0 t3.1 t3.2)) else (some (impl_StepMatrix.en (0, ([] : List Int), false))))) else (some (impl_StepMatrix.en (0, ([] : List Int), false))))) := by kernel_rfl
theorem impl_StepMatrix.link : ∀ k, (∀ (x1 : ByteArray) (x25 : List Stp) (x26 : Int) (x27 : Int) (y1_0 : Int) (y3 : List Int), impl_StepMatrix.x0 k x1 x25 x26 x27 y1_0 y3 = (impl_StepMatrix.l0 k x1 x25 x26 x27 y1_0 y3).map (impl_StepMatrix.en))
  | 0 => fun _ _ _ _ _ _ => by simp only [impl_StepMatrix.l0, R.map_none]; rfl
  | k + 1 => by
    have ih0 := impl_StepMatrix.link k
    · intro x1 x25 x26 x27 y1_0 y3
      rw [impl_StepMatrix.e0]
      simp only [impl_StepMatrix.l0, R.map_ite, R.map_bind, R.map_none, R.map_some, R.wr64_eq, ← ih0]
theorem impl_StepMatrix.sf (k : Nat) (a0_0 : Int) (l0_1 : List Int) (l0_2 : List Int) (l0_3 : List Stp) (a1 : ByteArray) : R.start Tryz.prog xhn impl_StepMatrix.O 0 Tryz.f32 impl_StepMatrix.fh k [.agg [.int .i64 a0_0, .imm (.I .i64 l0_1), .imm (.I .i64 l0_2), .imm (.T l0_3)], .str a1] [] = (impl_StepMatrix.f k a0_0 l0_1 l0_2 l0_3 a1).map (impl_StepMatrix.en) := by
  have ih0 := impl_StepMatrix.link k
  rw [impl_StepMatrix.ef]
  simp only [impl_StepMatrix.f, R.map_ite, R.map_bind, R.map_none, R.map_some, R.wr64_eq, ← ih0]
theorem impl_StepMatrix.ok (k : Nat) : impl_StepMatrix.tw.Ok Tryz.prog k := by
  intro md hmd a r h
  refine fn_ok (H := xhn) (fh := impl_StepMatrix.fh) (O := impl_StepMatrix.O) (k := k) Tryz.func32 (by kernel_rfl) (by kernel_rfl) (fun j _ => (Tw.orc_sound impl_AutomatonValid.dok (impl_AutomatonValid.ok j) (fun _ => rfl) (Tw.orc_sound impl_filled.dok (impl_filled.ok j) (fun _ => rfl) noO_sound))) (by kernel_rfl) (m := 0) rfl ?_
  refine (impl_StepMatrix.sf k a.1 a.2.1 a.2.2.1 a.2.2.2.1 a.2.2.2.2).trans ?_
  exact congrArg (Option.map _) h
def impl_CostValid.f (a0 : Int) : Option (Bool) := (if a0 ≥ 0 then (some (decide (a0 ≤ 1000000))) else (some false))
def impl_CostValid.en (r : Bool) : Res := (.lit r, [])
def impl_CostValid.dec : List AV → List R.Obj → Option (Int)
  | [.int .i64 a0], [] => some a0
  | _, _ => none
def impl_CostValid.tw : Tw := ⟨78, Int, Bool, impl_CostValid.dec, fun a => [.int .i64 a], fun a => [], fun k a => impl_CostValid.f a, fun a r => impl_CostValid.en r, true⟩
theorem impl_CostValid.dok : impl_CostValid.tw.DecOk := by
  intro args hc a h
  have h : impl_CostValid.dec args hc = some a := h
  unfold impl_CostValid.dec at h
  split at h
  · cases h; exact ⟨rfl, rfl⟩
  · cases h
noncomputable def impl_CostValid.O (k : Nat) : Oracle := noO
def impl_CostValid.fh : FH := ⟨fun i => match i with | _ => none, [], false⟩
set_option maxRecDepth 100000 in
theorem impl_CostValid.ef (k : Nat) (a0 : Int) : R.start Tryz.prog xhn impl_CostValid.O 0 Tryz.f78 impl_CostValid.fh k [.int .i64 a0] [] = (if a0 ≥ 0 then (some (impl_CostValid.en (decide (a0 ≤ 1000000)))) else (some (impl_CostValid.en false))) := by kernel_rfl
theorem impl_CostValid.sf (k : Nat) (a0 : Int) : R.start Tryz.prog xhn impl_CostValid.O 0 Tryz.f78 impl_CostValid.fh k [.int .i64 a0] [] = (impl_CostValid.f a0).map (impl_CostValid.en) := by
  rw [impl_CostValid.ef]
  simp only [impl_CostValid.f, R.map_ite, R.map_bind, R.map_none, R.map_some, R.wr64_eq]
theorem impl_CostValid.ok (k : Nat) : impl_CostValid.tw.Ok Tryz.prog k := by
  intro md hmd a r h
  refine fn_ok (H := xhn) (fh := impl_CostValid.fh) (O := impl_CostValid.O) (k := k) Tryz.func78 (by kernel_rfl) (by kernel_rfl) (fun j _ => noO_sound) (by kernel_rfl) (m := 0) rfl ?_
  refine (impl_CostValid.sf k a).trans ?_
  exact congrArg (Option.map _) h
def impl_MatrixValid_1.f (a0 : Int) : Option (Bool) := ((impl_CostValid.f a0).bind fun t1 => (some (!decide (t1 = true))))
def impl_MatrixValid_1.en (r : Bool) : Res := (.lit r, [])
def impl_MatrixValid_1.dec : List AV → List R.Obj → Option (Int)
  | [.int .i64 a0], [] => some a0
  | _, _ => none
def impl_MatrixValid_1.tw : Tw := ⟨77, Int, Bool, impl_MatrixValid_1.dec, fun a => [.int .i64 a], fun a => [], fun k a => impl_MatrixValid_1.f a, fun a r => impl_MatrixValid_1.en r, true⟩
theorem impl_MatrixValid_1.dok : impl_MatrixValid_1.tw.DecOk := by
  intro args hc a h
  have h : impl_MatrixValid_1.dec args hc = some a := h
  unfold impl_MatrixValid_1.dec at h
  split at h
  · cases h; exact ⟨rfl, rfl⟩
  · cases h
noncomputable def impl_MatrixValid_1.O (k : Nat) : Oracle := (impl_CostValid.tw.orc k noO)
def impl_MatrixValid_1.fh : FH := ⟨fun i => match i with | _ => none, [], false⟩
set_option maxRecDepth 100000 in
theorem impl_MatrixValid_1.ef (k : Nat) (a0 : Int) : R.start Tryz.prog xhn impl_MatrixValid_1.O 0 Tryz.f77 impl_MatrixValid_1.fh k [.int .i64 a0] [] = ((impl_CostValid.f a0).bind fun t1 => (some (impl_MatrixValid_1.en (!decide (t1 = true))))) := by kernel_rfl
theorem impl_MatrixValid_1.sf (k : Nat) (a0 : Int) : R.start Tryz.prog xhn impl_MatrixValid_1.O 0 Tryz.f77 impl_MatrixValid_1.fh k [.int .i64 a0] [] = (impl_MatrixValid_1.f a0).map (impl_MatrixValid_1.en) := by
  rw [impl_MatrixValid_1.ef]
  simp only [impl_MatrixValid_1.f, R.map_ite, R.map_bind, R.map_none, R.map_some, R.wr64_eq]
theorem impl_MatrixValid_1.ok (k : Nat) : impl_MatrixValid_1.tw.Ok Tryz.prog k := by
  intro md hmd a r h
  refine fn_ok (H := xhn) (fh := impl_MatrixValid_1.fh) (O := impl_MatrixValid_1.O) (k := k) Tryz.func77 (by kernel_rfl) (by kernel_rfl) (fun j _ => (Tw.orc_sound impl_CostValid.dok (impl_CostValid.ok j) (fun _ => rfl) noO_sound)) (by kernel_rfl) (m := 0) rfl ?_
  refine (impl_MatrixValid_1.sf k a).trans ?_
  exact congrArg (Option.map _) h
def slices_IndexFunc_int_int.l0 : Nat → (List Int) → Int → Int → Option (Int)
  | 0, _, _, _ => none
  | k + 1, x0, x7, x8 => (if x8 < x7 then (if 0 ≤ x8 then (if x8 < (x0.length : Int) then ((impl_MatrixValid_1.f (rdI x0 x8)).bind fun t1 => (if t1 = true then (some x8) else (slices_IndexFunc_int_int.l0 k x0 x7 (wrap64 (x8 + 1))))) else none) else none) else (some (-1)))
def slices_IndexFunc_int_int.f (k : Nat) (l0 : List Int) : Option (Int) := (slices_IndexFunc_int_int.l0 k l0 (l0.length : Int) 0)
def slices_IndexFunc_int_int.en (r : Int) : Res := (.int .i64 r, [])
def slices_IndexFunc_int_int.dec : List AV → List R.Obj → Option (List Int)
  | [.imm (.I .i64 l0), .clo 77 []], [] => some l0
  | _, _ => none
def slices_IndexFunc_int_int.tw : Tw := ⟨79, List Int, Int, slices_IndexFunc_int_int.dec, fun a => [.imm (.I .i64 a), .clo 77 []], fun a => [], fun k a => slices_IndexFunc_int_int.f k a, fun a r => slices_IndexFunc_int_int.en r, true⟩
theorem slices_IndexFunc_int_int.dok : slices_IndexFunc_int_int.tw.DecOk := by
  intro args hc a h
  have h : slices_IndexFunc_int_int.dec args hc = some a := h
  unfold slices_IndexFunc_int_int.dec at h
  split at h
  · cases h; exact ⟨rfl, rfl⟩
  · cases h
noncomputable def slices_IndexFunc_int_int.O (k : Nat) : Oracle := (impl_MatrixValid_1.tw.orc k noO)
def slices_IndexFunc_int_int.fh : FH := ⟨fun i => match i with | 2 => some [(0, 0), (1, 0), (7, 0), (8, 0)] | _ => none, [], false⟩
noncomputable def slices_IndexFunc_int_int.x0 (k : Nat) (x0 : List Int) (x7 : Int) (x8 : Int) : Option Res := R.exec Tryz.prog xhn slices_IndexFunc_int_int.O 0 Tryz.f79 slices_IndexFunc_int_int.fh k (R.point Tryz.f79 2) ⟨[(0, .imm (.I .i64 x0)), (1, .clo 77 []), (7, .int .i64 x7), (8, .int .i64 x8)], [], 2⟩
set_option maxRecDepth 100000 in
theorem slices_IndexFunc_int_int.e0 (k : Nat) (x0 : List Int) (x7 : Int) (x8 : Int) : slices_IndexFunc_int_int.x0 (k + 1) x0 x7 x8 = (if x8 < x7 then (if 0 ≤ x8 then (if x8 < (x0.length : Int) then ((impl_MatrixValid_1.f (rdI x0 x8)).bind fun t1 => (if t1 = true then (some (slices_IndexFunc_int_int.en x8)) else (slices_IndexFunc_int_int.x0 k x0 x7 (wr64 (x8 + 1))))) else none) else none) else (some (slices_IndexFunc_int_int.en (-1)))) := by kernel_rfl
set_option maxRecDepth 100000 in
theorem slices_IndexFunc_int_int.ef (k : Nat) (l0 : List Int) : R.start Tryz.prog xhn slices_IndexFunc_int_int.O 0 Tryz.f79 slices_IndexFunc_int_int.fh k [.imm (.I .i64 l0), .clo 77 []] [] = (slices_IndexFunc_int_int.x0 k l0 (l0.length : Int) 0) := by kernel_rfl
theorem slices_IndexFunc_int_int.link : ∀ k, (∀ (x0 : List Int) (x7 : Int) (x8 : Int), slices_IndexFunc_int_int.x0 k x0 x7 x8 = (slices_IndexFunc_int_int.l0 k x0 x7 x8).map (slices_IndexFunc_int_int.en))
  | 0 => fun _ _ _ => by simp only [slices_IndexFunc_int_int.l0, R.map_none]; rfl
  | k + 1 => by
    have ih0 := slices_IndexFunc_int_int.link k
    · intro x0 x7 x8
      rw [slices_IndexFunc_int_int.e0]
      simp only [slices_IndexFunc_int_int.l0, R.map_ite, R.map_bind, R.map_none, R.map_some, R.wr64_eq, ← ih0]
theorem slices_IndexFunc_int_int.sf (k : Nat) (l0 : List Int) : R.start Tryz.prog xhn slices_IndexFunc_int_int.O 0 Tryz.f79 slices_IndexFunc_int_int.fh k [.imm (.I .i64 l0), .clo 77 []] [] = (slices_IndexFunc_int_int.f k l0).map (slices_IndexFunc_int_int.en) := by
  have ih0 := slices_IndexFunc_int_int.link k
  rw [slices_IndexFunc_int_int.ef]
  simp only [slices_IndexFunc_int_int.f, R.map_ite, R.map_bind, R.map_none, R.map_some, R.wr64_eq, ← ih0]
theorem slices_IndexFunc_int_int.ok (k : Nat) : slices_IndexFunc_int_int.tw.Ok Tryz.prog k := by
  intro md hmd a r h
  refine fn_ok (H := xhn) (fh := slices_IndexFunc_int_int.fh) (O := slices_IndexFunc_int_int.O) (k := k) Tryz.func79 (by kernel_rfl) (by kernel_rfl) (fun j _ => (Tw.orc_sound impl_MatrixValid_1.dok (impl_MatrixValid_1.ok j) (fun _ => rfl) noO_sound)) (by kernel_rfl) (m := 0) rfl ?_
  refine (slices_IndexFunc_int_int.sf k a).trans ?_
  exact congrArg (Option.map _) h
def slices_ContainsFunc_int_int.f (k : Nat) (l0 : List Int) : Option (Bool) := ((slices_IndexFunc_int_int.f k l0).bind fun t1 => (some (decide (t1 ≥ 0))))
def slices_ContainsFunc_int_int.en (r : Bool) : Res := (.lit r, [])
def slices_ContainsFunc_int_int.dec : List AV → List R.Obj → Option (List Int)
  | [.imm (.I .i64 l0), .clo 77 []], [] => some l0
  | _, _ => none
def slices_ContainsFunc_int_int.tw : Tw := ⟨36, List Int, Bool, slices_ContainsFunc_int_int.dec, fun a => [.imm (.I .i64 a), .clo 77 []], fun a => [], fun k a => slices_ContainsFunc_int_int.f k a, fun a r => slices_ContainsFunc_int_int.en r, true⟩
theorem slices_ContainsFunc_int_int.dok : slices_ContainsFunc_int_int.tw.DecOk := by
  intro args hc a h
  have h : slices_ContainsFunc_int_int.dec args hc = some a := h
  unfold slices_ContainsFunc_int_int.dec at h
  split at h
  · cases h; exact ⟨rfl, rfl⟩
  · cases h
noncomputable def slices_ContainsFunc_int_int.O (k : Nat) : Oracle := (slices_IndexFunc_int_int.tw.orc k noO)
def slices_ContainsFunc_int_int.fh : FH := ⟨fun i => match i with | _ => none, [], false⟩
set_option maxRecDepth 100000 in
theorem slices_ContainsFunc_int_int.ef (k : Nat) (l0 : List Int) : R.start Tryz.prog xhn slices_ContainsFunc_int_int.O 0 Tryz.f36 slices_ContainsFunc_int_int.fh k [.imm (.I .i64 l0), .clo 77 []] [] = ((slices_IndexFunc_int_int.f k l0).bind fun t1 => (some (slices_ContainsFunc_int_int.en (decide (t1 ≥ 0))))) := by kernel_rfl
theorem slices_ContainsFunc_int_int.sf (k : Nat) (l0 : List Int) : R.start Tryz.prog xhn slices_ContainsFunc_int_int.O 0 Tryz.f36 slices_ContainsFunc_int_int.fh k [.imm (.I .i64 l0), .clo 77 []] [] = (slices_ContainsFunc_int_int.f k l0).map (slices_ContainsFunc_int_int.en) := by
  rw [slices_ContainsFunc_int_int.ef]
  simp only [slices_ContainsFunc_int_int.f, R.map_ite, R.map_bind, R.map_none, R.map_some, R.wr64_eq]
theorem slices_ContainsFunc_int_int.ok (k : Nat) : slices_ContainsFunc_int_int.tw.Ok Tryz.prog k := by
  intro md hmd a r h
  refine fn_ok (H := xhn) (fh := slices_ContainsFunc_int_int.fh) (O := slices_ContainsFunc_int_int.O) (k := k) Tryz.func36 (by kernel_rfl) (by kernel_rfl) (fun j _ => (Tw.orc_sound slices_IndexFunc_int_int.dok (slices_IndexFunc_int_int.ok j) (fun _ => rfl) noO_sound)) (by kernel_rfl) (m := 0) rfl ?_
  refine (slices_ContainsFunc_int_int.sf k a).trans ?_
  exact congrArg (Option.map _) h
def impl_MatrixValid.f (k : Nat) (a0_0 : Int) (l0_1 : List Int) : Option (Bool) := (if a0_0 < 1 then (some false) else (if a0_0 > 4 then (some false) else (if (l0_1.length : Int) = (wrap64 (a0_0 * a0_0)) then ((slices_ContainsFunc_int_int.f k l0_1).bind fun t1 => (some (!decide (t1 = true)))) else (some false))))
def impl_MatrixValid.en (r : Bool) : Res := (.lit r, [])
def impl_MatrixValid.dec : List AV → List R.Obj → Option (Int × (List Int))
  | [.agg [.int .i64 a0_0, .imm (.I .i64 l0_1)]], [] => some (a0_0, l0_1)
  | _, _ => none
def impl_MatrixValid.tw : Tw := ⟨35, Int × (List Int), Bool, impl_MatrixValid.dec, fun a => [.agg [.int .i64 a.1, .imm (.I .i64 a.2)]], fun a => [], fun k a => impl_MatrixValid.f k a.1 a.2, fun a r => impl_MatrixValid.en r, true⟩
theorem impl_MatrixValid.dok : impl_MatrixValid.tw.DecOk := by
  intro args hc a h
  have h : impl_MatrixValid.dec args hc = some a := h
  unfold impl_MatrixValid.dec at h
  split at h
  · cases h; exact ⟨rfl, rfl⟩
  · cases h
noncomputable def impl_MatrixValid.O (k : Nat) : Oracle := (slices_ContainsFunc_int_int.tw.orc k noO)
def impl_MatrixValid.fh : FH := ⟨fun i => match i with | _ => none, [], false⟩
set_option maxRecDepth 100000 in
theorem impl_MatrixValid.ef (k : Nat) (a0_0 : Int) (l0_1 : List Int) : R.start Tryz.prog xhn impl_MatrixValid.O 0 Tryz.f35 impl_MatrixValid.fh k [.agg [.int .i64 a0_0, .imm (.I .i64 l0_1)]] [] = (if a0_0 < 1 then (some (impl_MatrixValid.en false)) else (if a0_0 > 4 then (some (impl_MatrixValid.en false)) else (if (l0_1.length : Int) = (wr64 (a0_0 * a0_0)) then ((slices_ContainsFunc_int_int.f k l0_1).bind fun t1 => (some (impl_MatrixValid.en (!decide (t1 = true))))) else (some (impl_MatrixValid.en false))))) := by kernel_rfl
theorem impl_MatrixValid.sf (k : Nat) (a0_0 : Int) (l0_1 : List Int) : R.start Tryz.prog xhn impl_MatrixValid.O 0 Tryz.f35 impl_MatrixValid.fh k [.agg [.int .i64 a0_0, .imm (.I .i64 l0_1)]] [] = (impl_MatrixValid.f k a0_0 l0_1).map (impl_MatrixValid.en) := by
  rw [impl_MatrixValid.ef]
  simp only [impl_MatrixValid.f, R.map_ite, R.map_bind, R.map_none, R.map_some, R.wr64_eq]
theorem impl_MatrixValid.ok (k : Nat) : impl_MatrixValid.tw.Ok Tryz.prog k := by
  intro md hmd a r h
  refine fn_ok (H := xhn) (fh := impl_MatrixValid.fh) (O := impl_MatrixValid.O) (k := k) Tryz.func35 (by kernel_rfl) (by kernel_rfl) (fun j _ => (Tw.orc_sound slices_ContainsFunc_int_int.dok (slices_ContainsFunc_int_int.ok j) (fun _ => rfl) noO_sound)) (by kernel_rfl) (m := 0) rfl ?_
  refine (impl_MatrixValid.sf k a.1 a.2).trans ?_
  exact congrArg (Option.map _) h
def impl_Matrix_at.f (a0_0 : Int) (l0_1 : List Int) (a1 : Int) (a2 : Int) : Option (Int) := (if 0 ≤ (wrap64 ((wrap64 (a1 * a0_0)) + a2)) then (if (wrap64 ((wrap64 (a1 * a0_0)) + a2)) < (l0_1.length : Int) then (some (rdI l0_1 (wrap64 ((wrap64 (a1 * a0_0)) + a2)))) else none) else none)
def impl_Matrix_at.en (r : Int) : Res := (.int .i64 r, [])
def impl_Matrix_at.dec : List AV → List R.Obj → Option (Int × (List Int) × Int × Int)
  | [.agg [.int .i64 a0_0, .imm (.I .i64 l0_1)], .int .i64 a1, .int .i64 a2], [] => some (a0_0, l0_1, a1, a2)
  | _, _ => none
def impl_Matrix_at.tw : Tw := ⟨75, Int × (List Int) × Int × Int, Int, impl_Matrix_at.dec, fun a => [.agg [.int .i64 a.1, .imm (.I .i64 a.2.1)], .int .i64 a.2.2.1, .int .i64 a.2.2.2], fun a => [], fun k a => impl_Matrix_at.f a.1 a.2.1 a.2.2.1 a.2.2.2, fun a r => impl_Matrix_at.en r, true⟩
theorem impl_Matrix_at.dok : impl_Matrix_at.tw.DecOk := by
  intro args hc a h
  have h : impl_Matrix_at.dec args hc = some a := h
  unfold impl_Matrix_at.dec at h
  split at h
  · cases h; exact ⟨rfl, rfl⟩
  · cases h
noncomputable def impl_Matrix_at.O (k : Nat) : Oracle := noO
def impl_Matrix_at.fh : FH := ⟨fun i => match i with | _ => none, [], false⟩
set_option maxRecDepth 100000 in
theorem impl_Matrix_at.ef (k : Nat) (a0_0 : Int) (l0_1 : List Int) (a1 : Int) (a2 : Int) : R.start Tryz.prog xhn impl_Matrix_at.O 0 Tryz.f75 impl_Matrix_at.fh k [.agg [.int .i64 a0_0, .imm (.I .i64 l0_1)], .int .i64 a1, .int .i64 a2] [] = (if 0 ≤ (wr64 ((wr64 (a1 * a0_0)) + a2)) then (if (wr64 ((wr64 (a1 * a0_0)) + a2)) < (l0_1.length : Int) then (some (impl_Matrix_at.en (rdI l0_1 (wr64 ((wr64 (a1 * a0_0)) + a2))))) else none) else none) := by kernel_rfl
theorem impl_Matrix_at.sf (k : Nat) (a0_0 : Int) (l0_1 : List Int) (a1 : Int) (a2 : Int) : R.start Tryz.prog xhn impl_Matrix_at.O 0 Tryz.f75 impl_Matrix_at.fh k [.agg [.int .i64 a0_0, .imm (.I .i64 l0_1)], .int .i64 a1, .int .i64 a2] [] = (impl_Matrix_at.f a0_0 l0_1 a1 a2).map (impl_Matrix_at.en) := by
  rw [impl_Matrix_at.ef]
  simp only [impl_Matrix_at.f, R.map_ite, R.map_bind, R.map_none, R.map_some, R.wr64_eq]
theorem impl_Matrix_at.ok (k : Nat) : impl_Matrix_at.tw.Ok Tryz.prog k := by
  intro md hmd a r h
  refine fn_ok (H := xhn) (fh := impl_Matrix_at.fh) (O := impl_Matrix_at.O) (k := k) Tryz.func75 (by kernel_rfl) (by kernel_rfl) (fun j _ => noO_sound) (by kernel_rfl) (m := 0) rfl ?_
  refine (impl_Matrix_at.sf k a.1 a.2.1 a.2.2.1 a.2.2.2).trans ?_
  exact congrArg (Option.map _) h
def impl_GradesOf_1.f (a0 : Int) (a1 : Int) (a3_0 : Int) (l3_1 : List Int) : Option (Int) := ((impl_Matrix_at.f a3_0 l3_1 a0 a1).bind fun t1 => (if t1 = 0 then (some 0) else (if t1 = 1000000 then (some 3) else (some 1))))
def impl_GradesOf_1.en (a3_0 : Int) (l3_1 : List Int) (r : Int) : Res := (.int .i64 r, [.box true [.int .i64 a3_0, .imm (.I .i64 l3_1)]])
def impl_GradesOf_1.dec : List AV → List R.Obj → Option (Int × Int × Int × (List Int))
  | [.int .i64 a0, .int .i64 a1, .ptr 0 0], [.box true [.int .i64 a3_0, .imm (.I .i64 l3_1)]] => some (a0, a1, a3_0, l3_1)
  | _, _ => none
def impl_GradesOf_1.tw : Tw := ⟨93, Int × Int × Int × (List Int), Int, impl_GradesOf_1.dec, fun a => [.int .i64 a.1, .int .i64 a.2.1, .ptr 0 0], fun a => [.box true [.int .i64 a.2.2.1, .imm (.I .i64 a.2.2.2)]], fun k a => impl_GradesOf_1.f a.1 a.2.1 a.2.2.1 a.2.2.2, fun a r => impl_GradesOf_1.en a.2.2.1 a.2.2.2 r, true⟩
theorem impl_GradesOf_1.dok : impl_GradesOf_1.tw.DecOk := by
  intro args hc a h
  have h : impl_GradesOf_1.dec args hc = some a := h
  unfold impl_GradesOf_1.dec at h
  split at h
  · cases h; exact ⟨rfl, rfl⟩
  · cases h
noncomputable def impl_GradesOf_1.O (k : Nat) : Oracle := (impl_Matrix_at.tw.orc k noO)
def impl_GradesOf_1.fh : FH := ⟨fun i => match i with | _ => none, [], false⟩
set_option maxRecDepth 100000 in
theorem impl_GradesOf_1.ef (k : Nat) (a0 : Int) (a1 : Int) (a3_0 : Int) (l3_1 : List Int) : R.start Tryz.prog xhn impl_GradesOf_1.O 1 Tryz.f93 impl_GradesOf_1.fh k [.int .i64 a0, .int .i64 a1, .ptr 0 0] [.box true [.int .i64 a3_0, .imm (.I .i64 l3_1)]] = ((impl_Matrix_at.f a3_0 l3_1 a0 a1).bind fun t1 => (if t1 = 0 then (some (impl_GradesOf_1.en a3_0 l3_1 0)) else (if t1 = 1000000 then (some (impl_GradesOf_1.en a3_0 l3_1 3)) else (some (impl_GradesOf_1.en a3_0 l3_1 1))))) := by kernel_rfl
theorem impl_GradesOf_1.sf (k : Nat) (a0 : Int) (a1 : Int) (a3_0 : Int) (l3_1 : List Int) : R.start Tryz.prog xhn impl_GradesOf_1.O 1 Tryz.f93 impl_GradesOf_1.fh k [.int .i64 a0, .int .i64 a1, .ptr 0 0] [.box true [.int .i64 a3_0, .imm (.I .i64 l3_1)]] = (impl_GradesOf_1.f a0 a1 a3_0 l3_1).map (impl_GradesOf_1.en a3_0 l3_1) := by
  rw [impl_GradesOf_1.ef]
  simp only [impl_GradesOf_1.f, R.map_ite, R.map_bind, R.map_none, R.map_some, R.wr64_eq]
theorem impl_GradesOf_1.ok (k : Nat) : impl_GradesOf_1.tw.Ok Tryz.prog k := by
  intro md hmd a r h
  refine fn_ok (H := xhn) (fh := impl_GradesOf_1.fh) (O := impl_GradesOf_1.O) (k := k) Tryz.func93 (by kernel_rfl) (by kernel_rfl) (fun j _ => (Tw.orc_sound impl_Matrix_at.dok (impl_Matrix_at.ok j) (fun _ => rfl) noO_sound)) (by kernel_rfl) (m := 1) rfl ?_
  refine (impl_GradesOf_1.sf k a.1 a.2.1 a.2.2.1 a.2.2.2).trans ?_
  exact congrArg (Option.map _) h
mutual
def impl_filled_b.l0 : Nat → Int → Int → Int → Int → (List Int) → Int → (List Int) → Option (Int × (List Int))
  | 0, _, _, _, _, _, _, _ => none
  | k + 1, x0, x10, x11, y0_0, y0_1, y2_0, y4 => (if x11 < x10 then (impl_filled_b.l1 k x0 x11 x10 x11 x0 0 y0_0 y0_1 y2_0 y4) else (some (y2_0, y4)))
def impl_filled_b.l1 : Nat → Int → Int → Int → Int → Int → Int → Int → (List Int) → Int → (List Int) → Option (Int × (List Int))
  | 0, _, _, _, _, _, _, _, _, _, _ => none
  | k + 1, x0, x6, x10, x11, x14, x15, y0_0, y0_1, y2_0, y4 => (if x15 < x14 then ((impl_GradesOf_1.f x6 x15 y0_0 y0_1).bind fun t1 => (if y4.length < 17592186044416 then (impl_filled_b.l1 k x0 x6 x10 x11 x14 (wrap64 (x15 + 1)) y0_0 y0_1 y2_0 (y4 ++ [t1])) else none)) else (impl_filled_b.l0 k x0 x10 (wrap64 (x11 + 1)) y0_0 y0_1 y2_0 y4))
end
def impl_filled_b.f (k : Nat) (a0 : Int) (a2_0 : Int) (l2_1 : List Int) : Option (Int × (List Int)) := (impl_filled_b.l0 k a0 a0 0 a2_0 l2_1 a0 ([] : List Int))
def impl_filled_b.en (a2_0 : Int) (l2_1 : List Int) (r : Int × (List Int)) : Res := (.agg [.int .i64 r.1, .sl 1 0], [.box true [.int .i64 a2_0, .imm (.I .i64 l2_1)], .arr 3 0 (.I .i64 r.2) false])
def impl_filled_b.dec : List AV → List R.Obj → Option (Int × Int × (List Int))
  | [.int .i64 a0, .clo 93 [.ptr 0 0]], [.box true [.int .i64 a2_0, .imm (.I .i64 l2_1)]] => some (a0, a2_0, l2_1)
  | _, _ => none
def impl_filled_b.tw : Tw := ⟨69, Int × Int × (List Int), Int × (List Int), impl_filled_b.dec, fun a => [.int .i64 a.1, .clo 93 [.ptr 0 0]], fun a => [.box true [.int .i64 a.2.1, .imm (.I .i64 a.2.2)]], fun k a => impl_filled_b.f k a.1 a.2.1 a.2.2, fun a r => impl_filled_b.en a.2.1 a.2.2 r, true⟩
theorem impl_filled_b.dok : impl_filled_b.tw.DecOk := by
  intro args hc a h
  have h : impl_filled_b.dec args hc = some a := h
  unfold impl_filled_b.dec at h
  split at h
  · cases h; exact ⟨rfl, rfl⟩
  · cases h
noncomputable def impl_filled_b.O (k : Nat) : Oracle := (impl_GradesOf_1.tw.orc k noO)
def impl_filled_b.fh : FH := ⟨fun i => match i with | 3 => some [(0, 0), (1, 0), (4, 0), (5, 0), (10, 0), (11, 0)] | 6 => some [(0, 0), (1, 0), (4, 0), (5, 0), (6, 0), (10, 0), (11, 0), (14, 0), (15, 0)] | _ => none, [(true, 3)], false⟩
noncomputable def impl_filled_b.x0 (k : Nat) (x0 : Int) (x10 : Int) (x11 : Int) (y0_0 : Int) (y0_1 : List Int) (y2_0 : Int) (y4 : List Int) : Option Res := R.exec Tryz.prog xhn impl_filled_b.O 1 Tryz.f69 impl_filled_b.fh k (R.point Tryz.f69 3) ⟨[(0, .int .i64 x0), (1, .clo 93 [.ptr 0 0]), (4, .ptr 1 0), (5, .ptr 2 0), (10, .int .i64 x10), (11, .int .i64 x11)], [(0, .box true [.int .i64 y0_0, .imm (.I .i64 y0_1)]), (1, .box false [.int .i64 0, .sl 3 0]), (2, .box false [.int .i64 y2_0, .sl 4 0]), (3, .arr 3 0 (.I .i64 ([] : List Int)) false), (4, .arr 3 0 (.I .i64 y4) false)], 7⟩
noncomputable def impl_filled_b.x1 (k : Nat) (x0 : Int) (x6 : Int) (x10 : Int) (x11 : Int) (x14 : Int) (x15 : Int) (y0_0 : Int) (y0_1 : List Int) (y2_0 : Int) (y4 : List Int) : Option Res := R.exec Tryz.prog xhn impl_filled_b.O 1 Tryz.f69 impl_filled_b.fh k (R.point Tryz.f69 6) ⟨[(0, .int .i64 x0), (1, .clo 93 [.ptr 0 0]), (4, .ptr 1 0), (5, .ptr 2 0), (6, .int .i64 x6), (10, .int .i64 x10), (11, .int .i64 x11), (14, .int .i64 x14), (15, .int .i64 x15)], [(0, .box true [.int .i64 y0_0, .imm (.I .i64 y0_1)]), (1, .box false [.int .i64 0, .sl 3 0]), (2, .box false [.int .i64 y2_0, .sl 4 0]), (3, .arr 3 0 (.I .i64 ([] : List Int)) false), (4, .arr 3 0 (.I .i64 y4) false)], 7⟩
set_option maxRecDepth 100000 in
theorem impl_filled_b.e0 (k : Nat) (x0 : Int) (x10 : Int) (x11 : Int) (y0_0 : Int) (y0_1 : List Int) (y2_0 : Int) (y4 : List Int) : impl_filled_b.x0 (k + 1) x0 x10 x11 y0_0 y0_1 y2_0 y4 = (if x11 < x10 then (impl_filled_b.x1 k x0 x11 x10 x11 x0 0 y0_0 y0_1 y2_0 y4) else (some (impl_filled_b.en y0_0 y0_1 (y2_0, y4)))) := by kernel_rfl
set_option maxRecDepth 100000 in
theorem impl_filled_b.e1 (k : Nat) (x0 : Int) (x6 : Int) (x10 : Int) (x11 : Int) (x14 : Int) (x15 : Int) (y0_0 : Int) (y0_1 : List Int) (y2_0 : Int) (y4 : List Int) : impl_filled_b.x1 (k + 1) x0 x6 x10 x11 x14 x15 y0_0 y0_1 y2_0 y4 = (if x15 < x14 then ((impl_GradesOf_1.f x6 x15 y0_0 y0_1).bind fun t1 => (if y4.length < 17592186044416 then (impl_filled_b.x1 k x0 x6 x10 x11 x14 (wr64 (x15 + 1)) y0_0 y0_1 y2_0 (y4 ++ [t1])) else none)) else (impl_filled_b.x0 k x0 x10 (wr64 (x11 + 1)) y0_0 y0_1 y2_0 y4)) := by kernel_rfl
set_option maxRecDepth 100000 in
theorem impl_filled_b.ef (k : Nat) (a0 : Int) (a2_0 : Int) (l2_1 : List Int) : R.start Tryz.prog xhn impl_filled_b.O 1 Tryz.f69 impl_filled_b.fh k [.int .i64 a0, .clo 93 [.ptr 0 0]] [.box true [.int .i64 a2_0, .imm (.I .i64 l2_1)]] = (impl_filled_b.x0 k a0 a0 0 a2_0 l2_1 a0 ([] : List Int)) := by kernel_rfl
theorem impl_filled_b.link : ∀ k, (∀ (x0 : Int) (x10 : Int) (x11 : Int) (y0_0 : Int) (y0_1 : List Int) (y2_0 : Int) (y4 : List Int), impl_filled_b.x0 k x0 x10 x11 y0_0 y0_1 y2_0 y4 = (impl_filled_b.l0 k x0 x10 x11 y0_0 y0_1 y2_0 y4).map (impl_filled_b.en y0_0 y0_1)) ∧ (∀ (x0 : Int) (x6 : Int) (x10 : Int) (x11 : Int) (x14 : Int) (x15 : Int) (y0_0 : Int) (y0_1 : List Int) (y2_0 : Int) (y4 : List Int), impl_filled_b.x1 k x0 x6 x10 x11 x14 x15 y0_0 y0_1 y2_0 y4 = (impl_filled_b.l1 k x0 x6 x10 x11 x14 x15 y0_0 y0_1 y2_0 y4).map (impl_filled_b.en y0_0 y0_1))
  | 0 => ⟨fun _ _ _ _ _ _ _ => by simp only [impl_filled_b.l0, R.map_none]; rfl, fun _ _ _ _ _ _ _ _ _ _ => by simp only [impl_filled_b.l1, R.map_none]; rfl⟩
  | k + 1 => by
    obtain ⟨ih0, ih1⟩ := impl_filled_b.link k
    refine ⟨?_, ?_⟩
    · intro x0 x10 x11 y0_0 y0_1 y2_0 y4
      rw [impl_filled_b.e0]
      simp only [impl_filled_b.l0, R.map_ite, R.map_bind, R.map_none, R.map_some, R.wr64_eq, ← ih0, ← ih1]
    · intro x0 x6 x10 x11 x14 x15 y0_0 y0_1 y2_0 y4
      rw [impl_filled_b.e1]
      simp only [impl_filled_b.l1, R.map_ite, R.map_bind, R.map_none, R.map_some, R.wr64_eq, ← ih0, ← ih1]
theorem impl_filled_b.sf (k : Nat) (a0 : Int) (a2_0 : Int) (l2_1 : List Int) : R.start Tryz.prog xhn impl_filled_b.O 1 Tryz.f69 impl_filled_b.fh k [.int .i64 a0, .clo 93 [.ptr 0 0]] [.box true [.int .i64 a2_0, .imm (.I .i64 l2_1)]] = (impl_filled_b.f k a0 a2_0 l2_1).map (impl_filled_b.en a2_0 l2_1) := by
  obtain ⟨ih0, ih1⟩ := impl_filled_b.link k
  rw [impl_filled_b.ef]
  simp only [impl_filled_b.f, R.map_ite, R.map_bind, R.map_none, R.map_some, R.wr64_eq, ← ih0, ← ih1]
theorem impl_filled_b.ok (k : Nat) : impl_filled_b.tw.Ok Tryz.prog k := by
  intro md hmd a r h
  refine fn_ok (H := xhn) (fh := impl_filled_b.fh) (O := impl_filled_b.O) (k := k) Tryz.func69 (by kernel_rfl) (by kernel_rfl) (fun j _ => (Tw.orc_sound impl_GradesOf_1.dok (impl_GradesOf_1.ok j) (fun _ => rfl) noO_sound)) (by kernel_rfl) (m := 1) rfl ?_
  refine (impl_filled_b.sf k a.1 a.2.1 a.2.2).trans ?_
  exact congrArg (Option.map _) h
def impl_GradesOf.f (k : Nat) (a0_0 : Int) (l0_1 : List Int) : Option (Int × (List Int) × Bool) := ((impl_MatrixValid.f k a0_0 l0_1).bind fun t1 => (if t1 = true then ((impl_filled_b.f k a0_0 a0_0 l0_1).bind fun t2 => (some (t2.1, t2.2, true))) else (some (0, ([] : List Int), false))))
def impl_GradesOf.en (r : Int × (List Int) × Bool) : Res := (.tup [.agg [.int .i64 r.1, .sl 0 0], .lit r.2.2], [.arr 3 0 (.I .i64 r.2.1) false])
def impl_GradesOf.dec : List AV → List R.Obj → Option (Int × (List Int))
  | [.agg [.int .i64 a0_0, .imm (.I .i64 l0_1)]], [] => some (a0_0, l0_1)
  | _, _ => none
def impl_GradesOf.tw : Tw := ⟨54, Int × (List Int), Int × (List Int) × Bool, impl_GradesOf.dec, fun a => [.agg [.int .i64 a.1, .imm (.I .i64 a.2)]], fun a => [], fun k a => impl_GradesOf.f k a.1 a.2, fun a r => impl_GradesOf.en r, true⟩
theorem impl_GradesOf.dok : impl_GradesOf.tw.DecOk := by
  intro args hc a h
  have h : impl_GradesOf.dec args hc = some a := h
  unfold impl_GradesOf.dec at h
  split at h
  · cases h; exact ⟨rfl, rfl⟩
  · cases h
noncomputable def impl_GradesOf.O (k : Nat) : Oracle := (impl_MatrixValid.tw.orc k (impl_filled_b.tw.orc k noO))
def impl_GradesOf.fh : FH := ⟨fun i => match i with | _ => none, [(true, 3)], false⟩
set_option maxRecDepth 100000 in
theorem impl_GradesOf.ef (k : Nat) (a0_0 : Int) (l0_1 : List Int) : R.start Tryz.prog xhn impl_GradesOf.O 0 Tryz.f54 impl_GradesOf.fh k [.agg [.int .i64 a0_0, .imm (.I .i64 l0_1)]] [] = ((impl_MatrixValid.f k a0_0 l0_1).bind fun t1 => (if t1 = true then ((impl_filled_b.f k a0_0 a0_0 l0_1).bind fun t2 => (some (impl_GradesOf.en (t2.1, t2.2, true)))) else (some (impl_GradesOf.en (0, ([] : List Int), false))))) := by kernel_rfl
theorem impl_GradesOf.sf (k : Nat) (a0_0 : Int) (l0_1 : List Int) : R.start Tryz.prog xhn impl_GradesOf.O 0 Tryz.f54 impl_GradesOf.fh k [.agg [.int .i64 a0_0, .imm (.I .i64 l0_1)]] [] = (impl_GradesOf.f k a0_0 l0_1).map (impl_GradesOf.en) := by
  rw [impl_GradesOf.ef]
  simp only [impl_GradesOf.f, R.map_ite, R.map_bind, R.map_none, R.map_some, R.wr64_eq]
theorem impl_GradesOf.ok (k : Nat) : impl_GradesOf.tw.Ok Tryz.prog k := by
  intro md hmd a r h
  refine fn_ok (H := xhn) (fh := impl_GradesOf.fh) (O := impl_GradesOf.O) (k := k) Tryz.func54 (by kernel_rfl) (by kernel_rfl) (fun j _ => (Tw.orc_sound impl_MatrixValid.dok (impl_MatrixValid.ok j) (fun _ => rfl) (Tw.orc_sound impl_filled_b.dok (impl_filled_b.ok j) (fun _ => rfl) noO_sound))) (by kernel_rfl) (m := 0) rfl ?_
  refine (impl_GradesOf.sf k a.1 a.2).trans ?_
  exact congrArg (Option.map _) h
def impl_GradesValid_1.f (a0 : Int) : Option (Bool) := (some (decide (a0 > 3)))
def impl_GradesValid_1.en (r : Bool) : Res := (.lit r, [])
def impl_GradesValid_1.dec : List AV → List R.Obj → Option (Int)
  | [.int .i64 a0], [] => some a0
  | _, _ => none
def impl_GradesValid_1.tw : Tw := ⟨37, Int, Bool, impl_GradesValid_1.dec, fun a => [.int .i64 a], fun a => [], fun k a => impl_GradesValid_1.f a, fun a r => impl_GradesValid_1.en r, true⟩
theorem impl_GradesValid_1.dok : impl_GradesValid_1.tw.DecOk := by
  intro args hc a h
  have h : impl_GradesValid_1.dec args hc = some a := h
  unfold impl_GradesValid_1.dec at h
  split at h
  · cases h; exact ⟨rfl, rfl⟩
  · cases h
noncomputable def impl_GradesValid_1.O (k : Nat) : Oracle := noO
def impl_GradesValid_1.fh : FH := ⟨fun i => match i with | _ => none, [], false⟩
set_option maxRecDepth 100000 in
theorem impl_GradesValid_1.ef (k : Nat) (a0 : Int) : R.start Tryz.prog xhn impl_GradesValid_1.O 0 Tryz.f37 impl_GradesValid_1.fh k [.int .i64 a0] [] = (some (impl_GradesValid_1.en (decide (a0 > 3)))) := by kernel_rfl
theorem impl_GradesValid_1.sf (k : Nat) (a0 : Int) : R.start Tryz.prog xhn impl_GradesValid_1.O 0 Tryz.f37 impl_GradesValid_1.fh k [.int .i64 a0] [] = (impl_GradesValid_1.f a0).map (impl_GradesValid_1.en) := by
  rw [impl_GradesValid_1.ef]
  simp only [impl_GradesValid_1.f, R.map_ite, R.map_bind, R.map_none, R.map_some, R.wr64_eq]
theorem impl_GradesValid_1.ok (k : Nat) : impl_GradesValid_1.tw.Ok Tryz.prog k := by
  intro md hmd a r h
  refine fn_ok (H := xhn) (fh := impl_GradesValid_1.fh) (O := impl_GradesValid_1.O) (k := k) Tryz.func37 (by kernel_rfl) (by kernel_rfl) (fun j _ => noO_sound) (by kernel_rfl) (m := 0) rfl ?_
  refine (impl_GradesValid_1.sf k a).trans ?_
  exact congrArg (Option.map _) h
def slices_IndexFunc_int_int_b.l0 : Nat → (List Int) → Int → Int → Option (Int)
  | 0, _, _, _ => none
  | k + 1, x0, x7, x8 => (if x8 < x7 then (if 0 ≤ x8 then (if x8 < (x0.length : Int) then ((impl_GradesValid_1.f (rdI x0 x8)).bind fun t1 => (if t1 = true then (some x8) else (slices_IndexFunc_int_int_b.l0 k x0 x7 (wrap64 (x8 + 1))))) else none) else none) else (some (-1)))
def slices_IndexFunc_int_int_b.f (k : Nat) (l0 : List Int) : Option (Int) := (slices_IndexFunc_int_int_b.l0 k l0 (l0.length : Int) 0)
def slices_IndexFunc_int_int_b.en (r : Int) : Res := (.int .i64 r, [])
def slices_IndexFunc_int_int_b.dec : List AV → List R.Obj → Option (List Int)
  | [.imm (.I .i64 l0), .clo 37 []], [] => some l0
  | _, _ => none
def slices_IndexFunc_int_int_b.tw : Tw := ⟨79, List Int, Int, slices_IndexFunc_int_int_b.dec, fun a => [.imm (.I .i64 a), .clo 37 []], fun a => [], fun k a => slices_IndexFunc_int_int_b.f k a, fun a r => slices_IndexFunc_int_int_b.en r, true⟩
theorem slices_IndexFunc_int_int_b.dok : slices_IndexFunc_int_int_b.tw.DecOk := by
  intro args hc a h
  have h : slices_IndexFunc_int_int_b.dec args hc = some a := h
  unfold slices_IndexFunc_int_int_b.dec at h
  split at h
  · cases h; exact ⟨rfl, rfl⟩
  · cases h
noncomputable def slices_IndexFunc_int_int_b.O (k : Nat) : Oracle := (impl_GradesValid_1.tw.orc k noO)
def slices_IndexFunc_int_int_b.fh : FH := ⟨fun i => match i with | 2 => some [(0, 0), (1, 0), (7, 0), (8, 0)] | _ => none, [], false⟩
noncomputable def slices_IndexFunc_int_int_b.x0 (k : Nat) (x0 : List Int) (x7 : Int) (x8 : Int) : Option Res := R.exec Tryz.prog xhn slices_IndexFunc_int_int_b.O 0 Tryz.f79 slices_IndexFunc_int_int_b.fh k (R.point Tryz.f79 2) ⟨[(0, .imm (.I .i64 x0)), (1, .clo 37 []), (7, .int .i64 x7), (8, .int .i64 x8)], [], 2⟩
set_option maxRecDepth 100000 in
theorem slices_IndexFunc_int_int_b.e0 (k : Nat) (x0 : List Int) (x7 : Int) (x8 : Int) : slices_IndexFunc_int_int_b.x0 (k + 1) x0 x7 x8 = (if x8 < x7 then (if 0 ≤ x8 then (if x8 < (x0.length : Int) then ((impl_GradesValid_1.f (rdI x0 x8)).bind fun t1 => (if t1 = true then (some (slices_IndexFunc_int_int_b.en x8)) else (slices_IndexFunc_int_int_b.x0 k x0 x7 (wr64 (x8 + 1))))) else none) else none) else (some (slices_IndexFunc_int_int_b.en (-1)))) := by kernel_rfl
set_option maxRecDepth 100000 in
theorem slices_IndexFunc_int_int_b.ef (k : Nat) (l0 : List Int) : R.start Tryz.prog xhn slices_IndexFunc_int_int_b.O 0 Tryz.f79 slices_IndexFunc_int_int_b.fh k [.imm (.I .i64 l0), .clo 37 []] [] = (slices_IndexFunc_int_int_b.x0 k l0 (l0.length : Int) 0) := by kernel_rfl
theorem slices_IndexFunc_int_int_b.link : ∀ k, (∀ (x0 : List Int) (x7 : Int) (x8 : Int), slices_IndexFunc_int_int_b.x0 k x0 x7 x8 = (slices_IndexFunc_int_int_b.l0 k x0 x7 x8).map (slices_IndexFunc_int_int_b.en))
  | 0 => fun _ _ _ => by simp only [slices_IndexFunc_int_int_b.l0, R.map_none]; rfl
  | k + 1 => by
    have ih0 := slices_IndexFunc_int_int_b.link k
    · intro x0 x7 x8
      rw [slices_IndexFunc_int_int_b.e0]
      simp only [slices_IndexFunc_int_int_b.l0, R.map_ite, R.map_bind, R.map_none, R.map_some, R.wr64_eq, ← ih0]
theorem slices_IndexFunc_int_int_b.sf (k : Nat) (l0 : List Int) : R.start Tryz.prog xhn slices_IndexFunc_int_int_b.O 0 Tryz.f79 slices_IndexFunc_int_int_b.fh k [.imm (.I .i64 l0), .clo 37 []] [] = (slices_IndexFunc_int_int_b.f k l0).map (slices_IndexFunc_int_int_b.en) := by
  have ih0 := slices_IndexFunc_int_int_b.link k
  rw [slices_IndexFunc_int_int_b.ef]
  simp only [slices_IndexFunc_int_int_b.f, R.map_ite, R.map_bind, R.map_none, R.map_some, R.wr64_eq, ← ih0]
theorem slices_IndexFunc_int_int_b.ok (k : Nat) : slices_IndexFunc_int_int_b.tw.Ok Tryz.prog k := by
  intro md hmd a r h
  refine fn_ok (H := xhn) (fh := slices_IndexFunc_int_int_b.fh) (O := slices_IndexFunc_int_int_b.O) (k := k) Tryz.func79 (by kernel_rfl) (by kernel_rfl) (fun j _ => (Tw.orc_sound impl_GradesValid_1.dok (impl_GradesValid_1.ok j) (fun _ => rfl) noO_sound)) (by kernel_rfl) (m := 0) rfl ?_
  refine (slices_IndexFunc_int_int_b.sf k a).trans ?_
  exact congrArg (Option.map _) h
def slices_ContainsFunc_int_int_b.f (k : Nat) (l0 : List Int) : Option (Bool) := ((slices_IndexFunc_int_int_b.f k l0).bind fun t1 => (some (decide (t1 ≥ 0))))
def slices_ContainsFunc_int_int_b.en (r : Bool) : Res := (.lit r, [])
def slices_ContainsFunc_int_int_b.dec : List AV → List R.Obj → Option (List Int)
  | [.imm (.I .i64 l0), .clo 37 []], [] => some l0
  | _, _ => none
def slices_ContainsFunc_int_int_b.tw : Tw := ⟨36, List Int, Bool, slices_ContainsFunc_int_int_b.dec, fun a => [.imm (.I .i64 a), .clo 37 []], fun a => [], fun k a => slices_ContainsFunc_int_int_b.f k a, fun a r => slices_ContainsFunc_int_int_b.en r, true⟩
theorem slices_ContainsFunc_int_int_b.dok : slices_ContainsFunc_int_int_b.tw.DecOk := by
  intro args hc a h
  have h : slices_ContainsFunc_int_int_b.dec args hc = some a := h
  unfold slices_ContainsFunc_int_int_b.dec at h
  split at h
  · cases h; exact ⟨rfl, rfl⟩
  · cases h
noncomputable def slices_ContainsFunc_int_int_b.O (k : Nat) : Oracle := (slices_IndexFunc_int_int_b.tw.orc k noO)
def slices_ContainsFunc_int_int_b.fh : FH := ⟨fun i => match i with | _ => none, [], false⟩
set_option maxRecDepth 100000 in
theorem slices_ContainsFunc_int_int_b.ef (k : Nat) (l0 : List Int) : R.start Tryz.prog xhn slices_ContainsFunc_int_int_b.O 0 Tryz.f36 slices_ContainsFunc_int_int_b.fh k [.imm (.I .i64 l0), .clo 37 []] [] = ((slices_IndexFunc_int_int_b.f k l0).bind fun t1 => (some (slices_ContainsFunc_int_int_b.en (decide (t1 ≥ 0))))) := by kernel_rfl
theorem slices_ContainsFunc_int_int_b.sf (k : Nat) (l0 : List Int) : R.start Tryz.prog xhn slices_ContainsFunc_int_int_b.O 0 Tryz.f36 slices_ContainsFunc_int_int_b.fh k [.imm (.I .i64 l0), .clo 37 []] [] = (slices_ContainsFunc_int_int_b.f k l0).map (slices_ContainsFunc_int_int_b.en) := by
  rw [slices_ContainsFunc_int_int_b.ef]
  simp only [slices_ContainsFunc_int_int_b.f, R.map_ite, R.map_bind, R.map_none, R.map_some, R.wr64_eq]
theorem slices_ContainsFunc_int_int_b.ok (k : Nat) : slices_ContainsFunc_int_int_b.tw.Ok Tryz.prog k := by
  intro md hmd a r h
  refine fn_ok (H := xhn) (fh := slices_ContainsFunc_int_int_b.fh) (O := slices_ContainsFunc_int_int_b.O) (k := k) Tryz.func36 (by kernel_rfl) (by kernel_rfl) (fun j _ => (Tw.orc_sound slices_IndexFunc_int_int_b.dok (slices_IndexFunc_int_int_b.ok j) (fun _ => rfl) noO_sound)) (by kernel_rfl) (m := 0) rfl ?_
  refine (slices_ContainsFunc_int_int_b.sf k a).trans ?_
  exact congrArg (Option.map _) h
def impl_GradesValid.f (k : Nat) (a0_0 : Int) (l0_1 : List Int) : Option (Bool) := ((impl_MatrixValid.f k a0_0 l0_1).bind fun t1 => (if t1 = true then ((slices_ContainsFunc_int_int_b.f k l0_1).bind fun t2 => (some (!decide (t2 = true)))) else (some false)))
def impl_GradesValid.en (r : Bool) : Res := (.lit r, [])
def impl_GradesValid.dec : List AV → List R.Obj → Option (Int × (List Int))
  | [.agg [.int .i64 a0_0, .imm (.I .i64 l0_1)]], [] => some (a0_0, l0_1)
  | _, _ => none
def impl_GradesValid.tw : Tw := ⟨12, Int × (List Int), Bool, impl_GradesValid.dec, fun a => [.agg [.int .i64 a.1, .imm (.I .i64 a.2)]], fun a => [], fun k a => impl_GradesValid.f k a.1 a.2, fun a r => impl_GradesValid.en r, true⟩
theorem impl_GradesValid.dok : impl_GradesValid.tw.DecOk := by
  intro args hc a h
  have h : impl_GradesValid.dec args hc = some a := h
  unfold impl_GradesValid.dec at h
  split at h
  · cases h; exact ⟨rfl, rfl⟩
  · cases h
noncomputable def impl_GradesValid.O (k : Nat) : Oracle := (impl_MatrixValid.tw.orc k (slices_ContainsFunc_int_int_b.tw.orc k noO))
def impl_GradesValid.fh : FH := ⟨fun i => match i with | _ => none, [], false⟩
set_option maxRecDepth 100000 in
theorem impl_GradesValid.ef (k : Nat) (a0_0 : Int) (l0_1 : List Int) : R.start Tryz.prog xhn impl_GradesValid.O 0 Tryz.f12 impl_GradesValid.fh k [.agg [.int .i64 a0_0, .imm (.I .i64 l0_1)]] [] = ((impl_MatrixValid.f k a0_0 l0_1).bind fun t1 => (if t1 = true then ((slices_ContainsFunc_int_int_b.f k l0_1).bind fun t2 => (some (impl_GradesValid.en (!decide (t2 = true))))) else (some (impl_GradesValid.en false)))) := by kernel_rfl
theorem impl_GradesValid.sf (k : Nat) (a0_0 : Int) (l0_1 : List Int) : R.start Tryz.prog xhn impl_GradesValid.O 0 Tryz.f12 impl_GradesValid.fh k [.agg [.int .i64 a0_0, .imm (.I .i64 l0_1)]] [] = (impl_GradesValid.f k a0_0 l0_1).map (impl_GradesValid.en) := by
  rw [impl_GradesValid.ef]
  simp only [impl_GradesValid.f, R.map_ite, R.map_bind, R.map_none, R.map_some, R.wr64_eq]
theorem impl_GradesValid.ok (k : Nat) : impl_GradesValid.tw.Ok Tryz.prog k := by
  intro md hmd a r h
  refine fn_ok (H := xhn) (fh := impl_GradesValid.fh) (O := impl_GradesValid.O) (k := k) Tryz.func12 (by kernel_rfl) (by kernel_rfl) (fun j _ => (Tw.orc_sound impl_MatrixValid.dok (impl_MatrixValid.ok j) (fun _ => rfl) (Tw.orc_sound slices_ContainsFunc_int_int_b.dok (slices_ContainsFunc_int_int_b.ok j) (fun _ => rfl) noO_sound))) (by kernel_rfl) (m := 0) rfl ?_
  refine (impl_GradesValid.sf k a.1 a.2).trans ?_
  exact congrArg (Option.map _) h
def impl_MulGrades_1.l0 : Nat → Int → Int → Int → Int → Int → Int → (List Int) → Int → (List Int) → Option (Int)
  | 0, _, _, _, _, _, _, _, _, _ => none
  | k + 1, x0, x1, x7, x10, x11, y0_0, y0_1, y1_0, y1_1 => (if x11 < x10 then ((impl_Matrix_at.f y0_0 y0_1 x0 x11).bind fun t1 => ((impl_Matrix_at.f y1_0 y1_1 x11 x1).bind fun t2 => (impl_MulGrades_1.l0 k x0 x1 (mn x7 (mx t1 t2)) x10 (wrap64 (x11 + 1)) y0_0 y0_1 y1_0 y1_1))) else (some x7))
def impl_MulGrades_1.f (k : Nat) (a0 : Int) (a1 : Int) (a4_0 : Int) (l4_1 : List Int) (a5_0 : Int) (l5_1 : List Int) : Option (Int) := (impl_MulGrades_1.l0 k a0 a1 3 a4_0 0 a4_0 l4_1 a5_0 l5_1)
def impl_MulGrades_1.en (a4_0 : Int) (l4_1 : List Int) (a5_0 : Int) (l5_1 : List Int) (r : Int) : Res := (.int .i64 r, [.box true [.int .i64 a4_0, .imm (.I .i64 l4_1)], .box true [.int .i64 a5_0, .imm (.I .i64 l5_1)]])
def impl_MulGrades_1.dec : List AV → List R.Obj → Option (Int × Int × Int × (List Int) × Int × (List Int))
  | [.int .i64 a0, .int .i64 a1, .ptr 0 0, .ptr 1 0], [.box true [.int .i64 a4_0, .imm (.I .i64 l4_1)], .box true [.int .i64 a5_0, .imm (.I .i64 l5_1)]] => some (a0, a1, a4_0, l4_1, a5_0, l5_1)
  | _, _ => none
def impl_MulGrades_1.tw : Tw := ⟨96, Int × Int × Int × (List Int) × Int × (List Int), Int, impl_MulGrades_1.dec, fun a => [.int .i64 a.1, .int .i64 a.2.1, .ptr 0 0, .ptr 1 0], fun a => [.box true [.int .i64 a.2.2.1, .imm (.I .i64 a.2.2.2.1)], .box true [.int .i64 a.2.2.2.2.1, .imm (.I .i64 a.2.2.2.2.2)]], fun k a => impl_MulGrades_1.f k a.1 a.2.1 a.2.2.1 a.2.2.2.1 a.2.2.2.2.1 a.2.2.2.2.2, fun a r => impl_MulGrades_1.en a.2.2.1 a.2.2.2.1 a.2.2.2.2.1 a.2.2.2.2.2 r, true⟩
theorem impl_MulGrades_1.dok : impl_MulGrades_1.tw.DecOk := by
  intro args hc a h
  have h : impl_MulGrades_1.dec args hc = some a := h
  unfold impl_MulGrades_1.dec at h
  split at h
  · cases h; exact ⟨rfl, rfl⟩
  · cases h
noncomputable def impl_MulGrades_1.O (k : Nat) : Oracle := (impl_Matrix_at.tw.orc k noO)
def impl_MulGrades_1.fh : FH := ⟨fun i => match i with | 3 => some [(0, 0), (1, 0), (2, 0), (3, 0), (7, 0), (10, 0), (11, 0)] | _ => none, [], false⟩
noncomputable def impl_MulGrades_1.x0 (k : Nat) (x0 : Int) (x1 : Int) (x7 : Int) (x10 : Int) (x11 : Int) (y0_0 : Int) (y0_1 : List Int) (y1_0 : Int) (y1_1 : List Int) : Option Res := R.exec Tryz.prog xhn impl_MulGrades_1.O 2 Tryz.f96 impl_MulGrades_1.fh k (R.point Tryz.f96 3) ⟨[(0, .int .i64 x0), (1, .int .i64 x1), (2, .ptr 0 0), (3, .ptr 1 0), (7, .int .i64 x7), (10, .int .i64 x10), (11, .int .i64 x11)], [(0, .box true [.int .i64 y0_0, .imm (.I .i64 y0_1)]), (1, .box true [.int .i64 y1_0, .imm (.I .i64 y1_1)])], 4⟩
set_option maxRecDepth 100000 in
theorem impl_MulGrades_1.e0 (k : Nat) (x0 : Int) (x1 : Int) (x7 : Int) (x10 : Int) (x11 : Int) (y0_0 : Int) (y0_1 : List Int) (y1_0 : Int) (y1_1 : List Int) : impl_MulGrades_1.x0 (k + 1) x0 x1 x7 x10 x11 y0_0 y0_1 y1_0 y1_1 = (if x11 < x10 then ((impl_Matrix_at.f y0_0 y0_1 x0 x11).bind fun t1 => ((impl_Matrix_at.f y1_0 y1_1 x11 x1).bind fun t2 => (impl_MulGrades_1.x0 k x0 x1 (mn x7 (mx t1 t2)) x10 (wr64 (x11 + 1)) y0_0 y0_1 y1_0 y1_1))) else (some (impl_MulGrades_1.en y0_0 y0_1 y1_0 y1_1 x7))) := by kernel_rfl
set_option maxRecDepth 100000 in
theorem impl_MulGrades_1.ef (k : Nat) (a0 : Int) (a1 : Int) (a4_0 : Int) (l4_1 : List Int) (a5_0 : Int) (l5_1 : List Int) : R.start Tryz.prog xhn impl_MulGrades_1.O 2 Tryz.f96 impl_MulGrades_1.fh k [.int .i64 a0, .int .i64 a1, .ptr 0 0, .ptr 1 0] [.box true [.int .i64 a4_0, .imm (.I .i64 l4_1)], .box true [.int .i64 a5_0, .imm (.I .i64 l5_1)]] = (impl_MulGrades_1.x0 k a0 a1 3 a4_0 0 a4_0 l4_1 a5_0 l5_1) := by kernel_rfl
theorem impl_MulGrades_1.link : ∀ k, (∀ (x0 : Int) (x1 : Int) (x7 : Int) (x10 : Int) (x11 : Int) (y0_0 : Int) (y0_1 : List Int) (y1_0 : Int) (y1_1 : List Int), impl_MulGrades_1.x0 k x0 x1 x7 x10 x11 y0_0 y0_1 y1_0 y1_1 = (impl_MulGrades_1.l0 k x0 x1 x7 x10 x11 y0_0 y0_1 y1_0 y1_1).map (impl_MulGrades_1.en y0_0 y0_1 y1_0 y1_1))
  | 0 => fun _ _ _ _ _ _ _ _ _ => by simp only [impl_MulGrades_1.l0, R.map_none]; rfl
  | k + 1 => by
    have ih0 := impl_MulGrades_1.link k
    · intro x0 x1 x7 x10 x11 y0_0 y0_1 y1_0 y1_1
      rw [impl_MulGrades_1.e0]
      simp only [impl_MulGrades_1.l0, R.map_ite, R.map_bind, R.map_none, R.map_some, R.wr64_eq, ← ih0]
theorem impl_MulGrades_1.sf (k : Nat) (a0 : Int) (a1 : Int) (a4_0 : Int) (l4_1 : List Int) (a5_0 : Int) (l5_1 : List Int) : R.start Tryz.prog xhn impl_MulGrades_1.O 2 Tryz.f96 impl_MulGrades_1.fh k [.int .i64 a0, .int .i64 a1, .ptr 0 0, .ptr 1 0] [.box true [.int .i64 a4_0, .imm (.I .i64 l4_1)], .box true [.int .i64 a5_0, .imm (.I .i64 l5_1)]] = (impl_MulGrades_1.f k a0 a1 a4_0 l4_1 a5_0 l5_1).map (impl_MulGrades_1.en a4_0 l4_1 a5_0 l5_1) := by
  have ih0 := impl_MulGrades_1.link k
  rw [impl_MulGrades_1.ef]
  simp only [impl_MulGrades_1.f, R.map_ite, R.map_bind, R.map_none, R.map_some, R.wr64_eq, ← ih0]
theorem impl_MulGrades_1.ok (k : Nat) : impl_MulGrades_1.tw.Ok Tryz.prog k := by
  intro md hmd a r h
  refine fn_ok (H := xhn) (fh := impl_MulGrades_1.fh) (O := impl_MulGrades_1.O) (k := k) Tryz.func96 (by kernel_rfl) (by kernel_rfl) (fun j _ => (Tw.orc_sound impl_Matrix_at.dok (impl_Matrix_at.ok j) (fun _ => rfl) noO_sound)) (by kernel_rfl) (m := 2) rfl ?_
  refine (impl_MulGrades_1.sf k a.1 a.2.1 a.2.2.1 a.2.2.2.1 a.2.2.2.2.1 a.2.2.2.2.2).trans ?_
  exact congrArg (Option.map _) h
mutual
def impl_filled_c.l0 : Nat → Int → Int → Int → Int → (List Int) → Int → (List Int) → Int → (List Int) → Option (Int × (List Int))
  | 0, _, _, _, _, _, _, _, _, _ => none
  | k + 1, x0, x10, x11, y0_0, y0_1, y1_0, y1_1, y3_0, y5 => (if x11 < x10 then (impl_filled_c.l1 k x0 x11 x10 x11 x0 0 y0_0 y0_1 y1_0 y1_1 y3_0 y5) else (some (y3_0, y5)))
def impl_filled_c.l1 : Nat → Int → Int → Int → Int → Int → Int → Int → (List Int) → Int → (List Int) → Int → (List Int) → Option (Int × (List Int))
  | 0, _, _, _, _, _, _, _, _, _, _, _, _ => none
  | k + 1, x0, x6, x10, x11, x14, x15, y0_0, y0_1, y1_0, y1_1, y3_0, y5 => (if x15 < x14 then ((impl_MulGrades_1.f k x6 x15 y0_0 y0_1 y1_0 y1_1).bind fun t1 => (if y5.length < 17592186044416 then (impl_filled_c.l1 k x0 x6 x10 x11 x14 (wrap64 (x15 + 1)) y0_0 y0_1 y1_0 y1_1 y3_0 (y5 ++ [t1])) else none)) else (impl_filled_c.l0 k x0 x10 (wrap64 (x11 + 1)) y0_0 y0_1 y1_0 y1_1 y3_0 y5))
end
def impl_filled_c.f (k : Nat) (a0 : Int) (a2_0 : Int) (l2_1 : List Int) (a3_0 : Int) (l3_1 : List Int) : Option (Int × (List Int)) := (impl_filled_c.l0 k a0 a0 0 a2_0 l2_1 a3_0 l3_1 a0 ([] : List Int))
def impl_filled_c.en (a2_0 : Int) (l2_1 : List Int) (a3_0 : Int) (l3_1 : List Int) (r : Int × (List Int)) : Res := (.agg [.int .i64 r.1, .sl 2 0], [.box true [.int .i64 a2_0, .imm (.I .i64 l2_1)], .box true [.int .i64 a3_0, .imm (.I .i64 l3_1)], .arr 3 0 (.I .i64 r.2) false])
def impl_filled_c.dec : List AV → List R.Obj → Option (Int × Int × (List Int) × Int × (List Int))
  | [.int .i64 a0, .clo 96 [.ptr 0 0, .ptr 1 0]], [.box true [.int .i64 a2_0, .imm (.I .i64 l2_1)], .box true [.int .i64 a3_0, .imm (.I .i64 l3_1)]] => some (a0, a2_0, l2_1, a3_0, l3_1)
  | _, _ => none
def impl_filled_c.tw : Tw := ⟨69, Int × Int × (List Int) × Int × (List Int), Int × (List Int), impl_filled_c.dec, fun a => [.int .i64 a.1, .clo 96 [.ptr 0 0, .ptr 1 0]], fun a => [.box true [.int .i64 a.2.1, .imm (.I .i64 a.2.2.1)], .box true [.int .i64 a.2.2.2.1, .imm (.I .i64 a.2.2.2.2)]], fun k a => impl_filled_c.f k a.1 a.2.1 a.2.2.1 a.2.2.2.1 a.2.2.2.2, fun a r => impl_filled_c.en a.2.1 a.2.2.1 a.2.2.2.1 a.2.2.2.2 r, true⟩
theorem impl_filled_c.dok : impl_filled_c.tw.DecOk := by
  intro args hc a h
  have h : impl_filled_c.dec args hc = some a := h
  unfold impl_filled_c.dec at h
  split at h
  · cases h; exact ⟨rfl, rfl⟩
  · cases h
noncomputable def impl_filled_c.O (k : Nat) : Oracle := (impl_MulGrades_1.tw.orc k noO)
def impl_filled_c.fh : FH := ⟨fun i => match i with | 3 => some [(0, 0), (1, 0), (4, 0), (5, 0), (10, 0), (11, 0)] | 6 => some [(0, 0), (1, 0), (4, 0), (5, 0), (6, 0), (10, 0), (11, 0), (14, 0), (15, 0)] | _ => none, [(true, 3)], false⟩
noncomputable def impl_filled_c.x0 (k : Nat) (x0 : Int) (x10 : Int) (x11 : Int) (y0_0 : Int) (y0_1 : List Int) (y1_0 : Int) (y1_1 : List Int) (y3_0 : Int) (y5 : List Int) : Option Res := R.exec Tryz.prog xhn impl_filled_c.O 2 Tryz.f69 impl_filled_c.fh k (R.point Tryz.f69 3) ⟨[(0, .int .i64 x0), (1, .clo 96 [.ptr 0 0, .ptr 1 0]), (4, .ptr 2 0), (5, .ptr 3 0), (10, .int .i64 x10), (11, .int .i64 x11)], [(0, .box true [.int .i64 y0_0, .imm (.I .i64 y0_1)]), (1, .box true [.int .i64 y1_0, .imm (.I .i64 y1_1)]), (2, .box false [.int .i64 0, .sl 4 0]), (3, .box false [.int .i64 y3_0, .sl 5 0]), (4, .arr 3 0 (.I .i64 ([] : List Int)) false), (5, .arr 3 0 (.I .i64 y5) false)], 8⟩
noncomputable def impl_filled_c.x1 (k : Nat) (x0 : Int) (x6 : Int) (x10 : Int) (x11 : Int) (x14 : Int) (x15 : Int) (y0_0 : Int) (y0_1 : List Int) (y1_0 : Int) (y1_1 : List Int) (y3_0 : Int) (y5 : List Int) : Option Res := R.exec Tryz.prog xhn impl_filled_c.O 2 Tryz.f69 impl_filled_c.fh k (R.point Tryz.f69 6) ⟨[(0, .int .i64 x0), (1, .clo 96 [.ptr 0 0, .ptr 1 0]), (4, .ptr 2 0), (5, .ptr 3 0), (6, .int .i64 x6), (10, .int .i64 x10), (11, .int .i64 x11), (14, .int .i64 x14), (15, .int .i64 x15)], [(0, .box true [.int .i64 y0_0, .imm (.I .i64 y0_1)]), (1, .box true [.int .i64 y1_0, .imm (.I .i64 y1_1)]), (2, .box false [.int .i64 0, .sl 4 0]), (3, .box false [.int .i64 y3_0, .sl 5 0]), (4, .arr 3 0 (.I .i64 ([] : List Int)) false), (5, .arr 3 0 (.I .i64 y5) false)], 8⟩
set_option maxRecDepth 100000 in
theorem impl_filled_c.e0 (k : Nat) (x0 : Int) (x10 : Int) (x11 : Int) (y0_0 : Int) (y0_1 : List Int) (y1_0 : Int) (y1_1 : List Int) (y3_0 : Int) (y5 : List Int) : impl_filled_c.x0 (k + 1) x0 x10 x11 y0_0 y0_1 y1_0 y1_1 y3_0 y5 = (if x11 < x10 then (impl_filled_c.x1 k x0 x11 x10 x11 x0 0 y0_0 y0_1 y1_0 y1_1 y3_0 y5) else (some (impl_filled_c.en y0_0 y0_1 y1_0 y1_1 (y3_0, y5)))) := by kernel_rfl
set_option maxRecDepth 100000 in
theorem impl_filled_c.e1 (k : Nat) (x0 : Int) (x6 : Int) (x10 : Int) (x11 : Int) (x14 : Int) (x15 : Int) (y0_0 : Int) (y0_1 : List Int) (y1_0 : Int) (y1_1 : List Int) (y3_0 : Int) (y5 : List Int) : impl_filled_c.x1 (k + 1) x0 x6 x10 x11 x14 x15 y0_0 y0_1 y1_0 y1_1 y3_0 y5 = (if x15 < x14 then ((impl_MulGrades_1.f k x6 x15 y0_0 y0_1 y1_0 y1_1).bind fun t1 => (if y5.length < 17592186044416 then (impl_filled_c.x1 k x0 x6 x10 x11 x14 (wr64 (x15 + 1)) y0_0 y0_1 y1_0 y1_1 y3_0 (y5 ++ [t1])) else none)) else (impl_filled_c.x0 k x0 x10 (wr64 (x11 + 1)) y0_0 y0_1 y1_0 y1_1 y3_0 y5)) := by kernel_rfl
set_option maxRecDepth 100000 in
theorem impl_filled_c.ef (k : Nat) (a0 : Int) (a2_0 : Int) (l2_1 : List Int) (a3_0 : Int) (l3_1 : List Int) : R.start Tryz.prog xhn impl_filled_c.O 2 Tryz.f69 impl_filled_c.fh k [.int .i64 a0, .clo 96 [.ptr 0 0, .ptr 1 0]] [.box true [.int .i64 a2_0, .imm (.I .i64 l2_1)], .box true [.int .i64 a3_0, .imm (.I .i64 l3_1)]] = (impl_filled_c.x0 k a0 a0 0 a2_0 l2_1 a3_0 l3_1 a0 ([] : List Int)) := by kernel_rfl
theorem impl_filled_c.link : ∀ k, (∀ (x0 : Int) (x10 : Int) (x11 : Int) (y0_0 : Int) (y0_1 : List Int) (y1_0 : Int) (y1_1 : List Int) (y3_0 : Int) (y5 : List Int), impl_filled_c.x0 k x0 x10 x11 y0_0 y0_1 y1_0 y1_1 y3_0 y5 = (impl_filled_c.l0 k x0 x10 x11 y0_0 y0_1 y1_0 y1_1 y3_0 y5).map (impl_filled_c.en y0_0 y0_1 y1_0 y1_1)) ∧ (∀ (x0 : Int) (x6 : Int) (x10 : Int) (x11 : Int) (x14 : Int) (x15 : Int) (y0_0 : Int) (y0_1 : List Int) (y1_0 : Int) (y1_1 : List Int) (y3_0 : Int) (y5 : List Int), impl_filled_c.x1 k x0 x6 x10 x11 x14 x15 y0_0 y0_1 y1_0 y1_1 y3_0 y5 = (impl_filled_c.l1 k x0 x6 x10 x11 x14 x15 y0_0 y0_1 y1_0 y1_1 y3_0 y5).map (impl_filled_c.en y0_0 y0_1 y1_0 y1_1))
  | 0 => ⟨fun _ _ _ _ _ _ _ _ _ => by simp only [impl_filled_c.l0, R.map_none]; rfl, fun _ _ _ _ _ _ _ _ _ _ _ _ => by simp only [impl_filled_c.l1, R.map_none]; rfl⟩
  | k + 1 => by
    obtain ⟨ih0, ih1⟩ := impl_filled_c.link k
    refine ⟨?_, ?_⟩
    · intro x0 x10 x11 y0_0 y0_1 y1_0 y1_1 y3_0 y5
      rw [impl_filled_c.e0]
      simp only [impl_filled_c.l0, R.map_ite, R.map_bind, R.map_none, R.map_some, R.wr64_eq, ← ih0, ← ih1]
    · intro x0 x6 x10 x11 x14 x15 y0_0 y0_1 y1_0 y1_1 y3_0 y5
      rw [impl_filled_c.e1]
      simp only [impl_filled_c.l1, R.map_ite, R.map_bind, R.map_none, R.map_some, R.wr64_eq, ← ih0, ← ih1]
theorem impl_filled_c.sf (k : Nat) (a0 : Int) (a2_0 : Int) (l2_1 : List Int) (a3_0 : Int) (l3_1 : List Int) : R.start Tryz.prog xhn impl_filled_c.O 2 Tryz.f69 impl_filled_c.fh k [.int .i64 a0, .clo 96 [.ptr 0 0, .ptr 1 0]] [.box true [.int .i64 a2_0, .imm (.I .i64 l2_1)], .box true [.int .i64 a3_0, .imm (.I .i64 l3_1)]] = (impl_filled_c.f k a0 a2_0 l2_1 a3_0 l3_1).map (impl_filled_c.en a2_0 l2_1 a3_0 l3_1) := by
  obtain ⟨ih0, ih1⟩ := impl_filled_c.link k
  rw [impl_filled_c.ef]
  simp only [impl_filled_c.f, R.map_ite, R.map_bind, R.map_none, R.map_some, R.wr64_eq, ← ih0, ← ih1]
theorem impl_filled_c.ok (k : Nat) : impl_filled_c.tw.Ok Tryz.prog k := by
  intro md hmd a r h
  refine fn_ok (H := xhn) (fh := impl_filled_c.fh) (O := impl_filled_c.O) (k := k) Tryz.func69 (by kernel_rfl) (by kernel_rfl) (fun j _ => (Tw.orc_sound impl_MulGrades_1.dok (impl_MulGrades_1.ok j) (fun _ => rfl) noO_sound)) (by kernel_rfl) (m := 2) rfl ?_
  refine (impl_filled_c.sf k a.1 a.2.1 a.2.2.1 a.2.2.2.1 a.2.2.2.2).trans ?_
  exact congrArg (Option.map _) h
def impl_MulGrades.f (k : Nat) (a0_0 : Int) (l0_1 : List Int) (a1_0 : Int) (l1_1 : List Int) : Option (Int × (List Int) × Bool) := ((impl_GradesValid.f k a0_0 l0_1).bind fun t1 => (if t1 = true then ((impl_GradesValid.f k a1_0 l1_1).bind fun t2 => (if t2 = true then (if a0_0 = a1_0 then ((impl_filled_c.f k a0_0 a0_0 l0_1 a1_0 l1_1).bind fun t3 => (some (t3.1, t3.2, true))) else (some (0, ([] : List Int), false))) else (some (0, ([] : List Int), false)))) else (some (0, ([] : List Int), false))))
def impl_MulGrades.en (r : Int × (List Int) × Bool) : Res := (.tup [.agg [.int .i64 r.1, .sl 0 0], .lit r.2.2], [.arr 3 0 (.I .i64 r.2.1) false])
def impl_MulGrades.dec : List AV → List R.Obj → Option (Int × (List Int) × Int × (List Int))
  | [.agg [.int .i64 a0_0, .imm (.I .i64 l0_1)], .agg [.int .i64 a1_0, .imm (.I .i64 l1_1)]], [] => some (a0_0, l0_1, a1_0, l1_1)
  | _, _ => none
def impl_MulGrades.tw : Tw := ⟨56, Int × (List Int) × Int × (List Int), Int × (List Int) × Bool, impl_MulGrades.dec, fun a => [.agg [.int .i64 a.1, .imm (.I .i64 a.2.1)], .agg [.int .i64 a.2.2.1, .imm (.I .i64 a.2.2.2)]], fun a => [], fun k a => impl_MulGrades.f k a.1 a.2.1 a.2.2.1 a.2.2.2, fun a r => impl_MulGrades.en r, true⟩
theorem impl_MulGrades.dok : impl_MulGrades.tw.DecOk := by
  intro args hc a h
  have h : impl_MulGrades.dec args hc = some a := h
  unfold impl_MulGrades.dec at h
  split at h
  · cases h; exact ⟨rfl, rfl⟩
  · cases h
noncomputable def impl_MulGrades.O (k : Nat) : Oracle := (impl_GradesValid.tw.orc k (impl_filled_c.tw.orc k noO))
def impl_MulGrades.fh : FH := ⟨fun i => match i with | _ => none, [(true, 3)], false⟩
set_option maxRecDepth 100000 in
theorem impl_MulGrades.ef (k : Nat) (a0_0 : Int) (l0_1 : List Int) (a1_0 : Int) (l1_1 : List Int) : R.start Tryz.prog xhn impl_MulGrades.O 0 Tryz.f56 impl_MulGrades.fh k [.agg [.int .i64 a0_0, .imm (.I .i64 l0_1)], .agg [.int .i64 a1_0, .imm (.I .i64 l1_1)]] [] = ((impl_GradesValid.f k a0_0 l0_1).bind fun t1 => (if t1 = true then ((impl_GradesValid.f k a1_0 l1_1).bind fun t2 => (if t2 = true then (if a0_0 = a1_0 then ((impl_filled_c.f k a0_0 a0_0 l0_1 a1_0 l1_1).bind fun t3 => (some (impl_MulGrades.en (t3.1, t3.2, true)))) else (some (impl_MulGrades.en (0, ([] : List Int), false)))) else (some (impl_MulGrades.en (0, ([] : List Int), false))))) else (some (impl_MulGrades.en (0, ([] : List Int), false))))) := by kernel_rfl
theorem impl_MulGrades.sf (k : Nat) (a0_0 : Int) (l0_1 : List Int) (a1_0 : Int) (l1_1 : List Int) : R.start Tryz.prog xhn impl_MulGrades.O 0 Tryz.f56 impl_MulGrades.fh k [.agg [.int .i64 a0_0, .imm (.I .i64 l0_1)], .agg [.int .i64 a1_0, .imm (.I .i64 l1_1)]] [] = (impl_MulGrades.f k a0_0 l0_1 a1_0 l1_1).map (impl_MulGrades.en) := by
  rw [impl_MulGrades.ef]
  simp only [impl_MulGrades.f, R.map_ite, R.map_bind, R.map_none, R.map_some, R.wr64_eq]
theorem impl_MulGrades.ok (k : Nat) : impl_MulGrades.tw.Ok Tryz.prog k := by
  intro md hmd a r h
  refine fn_ok (H := xhn) (fh := impl_MulGrades.fh) (O := impl_MulGrades.O) (k := k) Tryz.func56 (by kernel_rfl) (by kernel_rfl) (fun j _ => (Tw.orc_sound impl_GradesValid.dok (impl_GradesValid.ok j) (fun _ => rfl) (Tw.orc_sound impl_filled_c.dok (impl_filled_c.ok j) (fun _ => rfl) noO_sound))) (by kernel_rfl) (m := 0) rfl ?_
  refine (impl_MulGrades.sf k a.1 a.2.1 a.2.2.1 a.2.2.2).trans ?_
  exact congrArg (Option.map _) h
def slices_Equal_int_int.l0 : Nat → (List Int) → (List Int) → Int → Int → Option (Bool)
  | 0, _, _, _, _ => none
  | k + 1, x0, x1, x12, x13 => (if x13 < x12 then (if 0 ≤ x13 then (if x13 < (x0.length : Int) then (if x13 < (x1.length : Int) then (if (rdI x0 x13) = (rdI x1 x13) then (slices_Equal_int_int.l0 k x0 x1 x12 (wrap64 (x13 + 1))) else (some false)) else none) else none) else none) else (some true))
def slices_Equal_int_int.f (k : Nat) (l0 : List Int) (l1 : List Int) : Option (Bool) := (if (l0.length : Int) = (l1.length : Int) then (slices_Equal_int_int.l0 k l0 l1 (l0.length : Int) 0) else (some false))
def slices_Equal_int_int.en (r : Bool) : Res := (.lit r, [])
def slices_Equal_int_int.dec : List AV → List R.Obj → Option ((List Int) × (List Int))
  | [.imm (.I .i64 l0), .imm (.I .i64 l1)], [] => some (l0, l1)
  | _, _ => none
def slices_Equal_int_int.tw : Tw := ⟨120, (List Int) × (List Int), Bool, slices_Equal_int_int.dec, fun a => [.imm (.I .i64 a.1), .imm (.I .i64 a.2)], fun a => [], fun k a => slices_Equal_int_int.f k a.1 a.2, fun a r => slices_Equal_int_int.en r, true⟩
theorem slices_Equal_int_int.dok : slices_Equal_int_int.tw.DecOk := by
  intro args hc a h
  have h : slices_Equal_int_int.dec args hc = some a := h
  unfold slices_Equal_int_int.dec at h
  split at h
  · cases h; exact ⟨rfl, rfl⟩
  · cases h
noncomputable def slices_Equal_int_int.O (k : Nat) : Oracle := noO
def slices_Equal_int_int.fh : FH := ⟨fun i => match i with | 4 => some [(0, 0), (1, 0), (12, 0), (13, 0)] | _ => none, [], false⟩
noncomputable def slices_Equal_int_int.x0 (k : Nat) (x0 : List Int) (x1 : List Int) (x12 : Int) (x13 : Int) : Option Res := R.exec Tryz.prog xhn slices_Equal_int_int.O 0 Tryz.f120 slices_Equal_int_int.fh k (R.point Tryz.f120 4) ⟨[(0, .imm (.I .i64 x0)), (1, .imm (.I .i64 x1)), (12, .int .i64 x12), (13, .int .i64 x13)], [], 2⟩
set_option maxRecDepth 100000 in
theorem slices_Equal_int_int.e0 (k : Nat) (x0 : List Int) (x1 : List Int) (x12 : Int) (x13 : Int) : slices_Equal_int_int.x0 (k + 1) x0 x1 x12 x13 = (if x13 < x12 then (if 0 ≤ x13 then (if x13 < (x0.length : Int) then (if x13 < (x1.length : Int) then (if (rdI x0 x13) = (rdI x1 x13) then (slices_Equal_int_int.x0 k x0 x1 x12 (wr64 (x13 + 1))) else (some (slices_Equal_int_int.en false))) else none) else none) else none) else (some (slices_Equal_int_int.en true))) := by
  refine Eq.trans ?_ (R.icong (fun h0 => (R.icong (fun h1 => (R.icong (fun h2 => (R.idropT (p := 0 ≤ x13) (z := none) h1 rfl)) (fun h2 => rfl))) (fun h1 => rfl))) (fun h0 => rfl))
  kernel_rfl
set_option maxRecDepth 100000 in
theorem slices_Equal_int_int.ef (k : Nat) (l0 : List Int) (l1 : List Int) : R.start Tryz.prog xhn slices_Equal_int_int.O 0 Tryz.f120 slices_Equal_int_int.fh k [.imm (.I .i64 l0), .imm (.I .i64 l1)] [] = (if (l0.length : Int) = (l1.length : Int) then (slices_Equal_int_int.x0 k l0 l1 (l0.length : Int) 0) else (some (slices_Equal_int_int.en false))) := by kernel_rfl
theorem slices_Equal_int_int.link : ∀ k, (∀ (x0 : List Int) (x1 : List Int) (x12 : Int) (x13 : Int), slices_Equal_int_int.x0 k x0 x1 x12 x13 = (slices_Equal_int_int.l0 k x0 x1 x12 x13).map (slices_Equal_int_int.en))
  | 0 => fun _ _ _ _ => by simp only [slices_Equal_int_int.l0, R.map_none]; rfl
  | k + 1 => by
    have ih0 := slices_Equal_int_int.link k
    · intro x0 x1 x12 x13
      rw [slices_Equal_int_int.e0]
      simp only [slices_Equal_int_int.l0, R.map_ite, R.map_bind, R.map_none, R.map_some, R.wr64_eq, ← ih0]
theorem slices_Equal_int_int.sf (k : Nat) (l0 : List Int) (l1 : List Int) : R.start Tryz.prog xhn slices_Equal_int_int.O 0 Tryz.f120 slices_Equal_int_int.fh k [.imm (.I .i64 l0), .imm (.I .i64 l1)] [] = (slices_Equal_int_int.f k l0 l1).map (slices_Equal_int_int.en) := by
  have ih0 := slices_Equal_int_int.link k
  rw [slices_Equal_int_int.ef]
  simp only [slices_Equal_int_int.f, R.map_ite, R.map_bind, R.map_none, R.map_some, R.wr64_eq, ← ih0]
theorem slices_Equal_int_int.ok (k : Nat) : slices_Equal_int_int.tw.Ok Tryz.prog k := by
  intro md hmd a r h
  refine fn_ok (H := xhn) (fh := slices_Equal_int_int.fh) (O := slices_Equal_int_int.O) (k := k) Tryz.func120 (by kernel_rfl) (by kernel_rfl) (fun j _ => noO_sound) (by kernel_rfl) (m := 0) rfl ?_
  refine (slices_Equal_int_int.sf k a.1 a.2).trans ?_
  exact congrArg (Option.map _) h
def impl_SameMatrix.f (k : Nat) (a0_0 : Int) (l0_1 : List Int) (a1_0 : Int) (l1_1 : List Int) : Option (Bool) := (if a0_0 = a1_0 then ((slices_Equal_int_int.f k l0_1 l1_1).bind fun t1 => (some t1)) else (some false))
def impl_SameMatrix.en (r : Bool) : Res := (.lit r, [])
def impl_SameMatrix.dec : List AV → List R.Obj → Option (Int × (List Int) × Int × (List Int))
  | [.agg [.int .i64 a0_0, .imm (.I .i64 l0_1)], .agg [.int .i64 a1_0, .imm (.I .i64 l1_1)]], [] => some (a0_0, l0_1, a1_0, l1_1)
  | _, _ => none
def impl_SameMatrix.tw : Tw := ⟨113, Int × (List Int) × Int × (List Int), Bool, impl_SameMatrix.dec, fun a => [.agg [.int .i64 a.1, .imm (.I .i64 a.2.1)], .agg [.int .i64 a.2.2.1, .imm (.I .i64 a.2.2.2)]], fun a => [], fun k a => impl_SameMatrix.f k a.1 a.2.1 a.2.2.1 a.2.2.2, fun a r => impl_SameMatrix.en r, true⟩
theorem impl_SameMatrix.dok : impl_SameMatrix.tw.DecOk := by
  intro args hc a h
  have h : impl_SameMatrix.dec args hc = some a := h
  unfold impl_SameMatrix.dec at h
  split at h
  · cases h; exact ⟨rfl, rfl⟩
  · cases h
noncomputable def impl_SameMatrix.O (k : Nat) : Oracle := (slices_Equal_int_int.tw.orc k noO)
def impl_SameMatrix.fh : FH := ⟨fun i => match i with | _ => none, [], false⟩
set_option maxRecDepth 100000 in
theorem impl_SameMatrix.ef (k : Nat) (a0_0 : Int) (l0_1 : List Int) (a1_0 : Int) (l1_1 : List Int) : R.start Tryz.prog xhn impl_SameMatrix.O 0 Tryz.f113 impl_SameMatrix.fh k [.agg [.int .i64 a0_0, .imm (.I .i64 l0_1)], .agg [.int .i64 a1_0, .imm (.I .i64 l1_1)]] [] = (if a0_0 = a1_0 then ((slices_Equal_int_int.f k l0_1 l1_1).bind fun t1 => (some (impl_SameMatrix.en t1))) else (some (impl_SameMatrix.en false))) := by kernel_rfl
theorem impl_SameMatrix.sf (k : Nat) (a0_0 : Int) (l0_1 : List Int) (a1_0 : Int) (l1_1 : List Int) : R.start Tryz.prog xhn impl_SameMatrix.O 0 Tryz.f113 impl_SameMatrix.fh k [.agg [.int .i64 a0_0, .imm (.I .i64 l0_1)], .agg [.int .i64 a1_0, .imm (.I .i64 l1_1)]] [] = (impl_SameMatrix.f k a0_0 l0_1 a1_0 l1_1).map (impl_SameMatrix.en) := by
  rw [impl_SameMatrix.ef]
  simp only [impl_SameMatrix.f, R.map_ite, R.map_bind, R.map_none, R.map_some, R.wr64_eq]
theorem impl_SameMatrix.ok (k : Nat) : impl_SameMatrix.tw.Ok Tryz.prog k := by
  intro md hmd a r h
  refine fn_ok (H := xhn) (fh := impl_SameMatrix.fh) (O := impl_SameMatrix.O) (k := k) Tryz.func113 (by kernel_rfl) (by kernel_rfl) (fun j _ => (Tw.orc_sound slices_Equal_int_int.dok (slices_Equal_int_int.ok j) (fun _ => rfl) noO_sound)) (by kernel_rfl) (m := 0) rfl ?_
  refine (impl_SameMatrix.sf k a.1 a.2.1 a.2.2.1 a.2.2.2).trans ?_
  exact congrArg (Option.map _) h
def impl_IsIdempotent.f (k : Nat) (a0_0 : Int) (l0_1 : List Int) : Option (Bool) := ((impl_MulGrades.f k a0_0 l0_1 a0_0 l0_1).bind fun t1 => (if t1.2.2 = true then ((impl_SameMatrix.f k t1.1 t1.2.1 a0_0 l0_1).bind fun t2 => (some t2)) else (some false)))
def impl_IsIdempotent.en (r : Bool) : Res := (.lit r, [])
def impl_IsIdempotent.dec : List AV → List R.Obj → Option (Int × (List Int))
  | [.agg [.int .i64 a0_0, .imm (.I .i64 l0_1)]], [] => some (a0_0, l0_1)
  | _, _ => none
def impl_IsIdempotent.tw : Tw := ⟨94, Int × (List Int), Bool, impl_IsIdempotent.dec, fun a => [.agg [.int .i64 a.1, .imm (.I .i64 a.2)]], fun a => [], fun k a => impl_IsIdempotent.f k a.1 a.2, fun a r => impl_IsIdempotent.en r, true⟩
theorem impl_IsIdempotent.dok : impl_IsIdempotent.tw.DecOk := by
  intro args hc a h
  have h : impl_IsIdempotent.dec args hc = some a := h
  unfold impl_IsIdempotent.dec at h
  split at h
  · cases h; exact ⟨rfl, rfl⟩
  · cases h
noncomputable def impl_IsIdempotent.O (k : Nat) : Oracle := (impl_MulGrades.tw.orc k (impl_SameMatrix.tw.orc k noO))
def impl_IsIdempotent.fh : FH := ⟨fun i => match i with | _ => none, [], false⟩
set_option maxRecDepth 100000 in
theorem impl_IsIdempotent.ef (k : Nat) (a0_0 : Int) (l0_1 : List Int) : R.start Tryz.prog xhn impl_IsIdempotent.O 0 Tryz.f94 impl_IsIdempotent.fh k [.agg [.int .i64 a0_0, .imm (.I .i64 l0_1)]] [] = ((impl_MulGrades.f k a0_0 l0_1 a0_0 l0_1).bind fun t1 => (if t1.2.2 = true then ((impl_SameMatrix.f k t1.1 t1.2.1 a0_0 l0_1).bind fun t2 => (some (impl_IsIdempotent.en t2))) else (some (impl_IsIdempotent.en false)))) := by kernel_rfl
theorem impl_IsIdempotent.sf (k : Nat) (a0_0 : Int) (l0_1 : List Int) : R.start Tryz.prog xhn impl_IsIdempotent.O 0 Tryz.f94 impl_IsIdempotent.fh k [.agg [.int .i64 a0_0, .imm (.I .i64 l0_1)]] [] = (impl_IsIdempotent.f k a0_0 l0_1).map (impl_IsIdempotent.en) := by
  rw [impl_IsIdempotent.ef]
  simp only [impl_IsIdempotent.f, R.map_ite, R.map_bind, R.map_none, R.map_some, R.wr64_eq]
theorem impl_IsIdempotent.ok (k : Nat) : impl_IsIdempotent.tw.Ok Tryz.prog k := by
  intro md hmd a r h
  refine fn_ok (H := xhn) (fh := impl_IsIdempotent.fh) (O := impl_IsIdempotent.O) (k := k) Tryz.func94 (by kernel_rfl) (by kernel_rfl) (fun j _ => (Tw.orc_sound impl_MulGrades.dok (impl_MulGrades.ok j) (fun _ => rfl) (Tw.orc_sound impl_SameMatrix.dok (impl_SameMatrix.ok j) (fun _ => rfl) noO_sound))) (by kernel_rfl) (m := 0) rfl ?_
  refine (impl_IsIdempotent.sf k a.1 a.2).trans ?_
  exact congrArg (Option.map _) h
def impl_Stabilise_1.l0 : Nat → Int → Int → Int → Int → Int → Int → (List Int) → Option (Int)
  | 0, _, _, _, _, _, _, _ => none
  | k + 1, x0, x1, x6, x10, x11, y0_0, y0_1 => (if x11 < x10 then ((impl_Matrix_at.f y0_0 y0_1 x11 x11).bind fun t1 => (if t1 = 1 then ((impl_Matrix_at.f y0_0 y0_1 x0 x11).bind fun t2 => ((impl_Matrix_at.f y0_0 y0_1 x11 x1).bind fun t3 => (impl_Stabilise_1.l0 k x0 x1 (mn x6 (mx (mx t2 2) t3)) x10 (wrap64 (x11 + 1)) y0_0 y0_1))) else ((impl_Matrix_at.f y0_0 y0_1 x0 x11).bind fun t4 => ((impl_Matrix_at.f y0_0 y0_1 x11 x1).bind fun t5 => (impl_Stabilise_1.l0 k x0 x1 (mn x6 (mx (mx t4 t1) t5)) x10 (wrap64 (x11 + 1)) y0_0 y0_1))))) else (some x6))
def impl_Stabilise_1.f (k : Nat) (a0 : Int) (a1 : Int) (a3_0 : Int) (l3_1 : List Int) : Option (Int) := (impl_Stabilise_1.l0 k a0 a1 3 a3_0 0 a3_0 l3_1)
def impl_Stabilise_1.en (a3_0 : Int) (l3_1 : List Int) (r : Int) : Res := (.int .i64 r, [.box true [.int .i64 a3_0, .imm (.I .i64 l3_1)]])
def impl_Stabilise_1.dec : List AV → List R.Obj → Option (Int × Int × Int × (List Int))
  | [.int .i64 a0, .int .i64 a1, .ptr 0 0], [.box true [.int .i64 a3_0, .imm (.I .i64 l3_1)]] => some (a0, a1, a3_0, l3_1)
  | _, _ => none
def impl_Stabilise_1.tw : Tw := ⟨95, Int × Int × Int × (List Int), Int, impl_Stabilise_1.dec, fun a => [.int .i64 a.1, .int .i64 a.2.1, .ptr 0 0], fun a => [.box true [.int .i64 a.2.2.1, .imm (.I .i64 a.2.2.2)]], fun k a => impl_Stabilise_1.f k a.1 a.2.1 a.2.2.1 a.2.2.2, fun a r => impl_Stabilise_1.en a.2.2.1 a.2.2.2 r, true⟩
theorem impl_Stabilise_1.dok : impl_Stabilise_1.tw.DecOk := by
  intro args hc a h
  have h : impl_Stabilise_1.dec args hc = some a := h
  unfold impl_Stabilise_1.dec at h
  split at h
  · cases h; exact ⟨rfl, rfl⟩
  · cases h
noncomputable def impl_Stabilise_1.O (k : Nat) : Oracle := (impl_Matrix_at.tw.orc k noO)
def impl_Stabilise_1.fh : FH := ⟨fun i => match i with | 3 => some [(0, 0), (1, 0), (2, 0), (6, 0), (10, 0), (11, 0)] | _ => none, [], false⟩
noncomputable def impl_Stabilise_1.x0 (k : Nat) (x0 : Int) (x1 : Int) (x6 : Int) (x10 : Int) (x11 : Int) (y0_0 : Int) (y0_1 : List Int) : Option Res := R.exec Tryz.prog xhn impl_Stabilise_1.O 1 Tryz.f95 impl_Stabilise_1.fh k (R.point Tryz.f95 3) ⟨[(0, .int .i64 x0), (1, .int .i64 x1), (2, .ptr 0 0), (6, .int .i64 x6), (10, .int .i64 x10), (11, .int .i64 x11)], [(0, .box true [.int .i64 y0_0, .imm (.I .i64 y0_1)])], 3⟩
set_option maxRecDepth 100000 in
theorem impl_Stabilise_1.e0 (k : Nat) (x0 : Int) (x1 : Int) (x6 : Int) (x10 : Int) (x11 : Int) (y0_0 : Int) (y0_1 : List Int) : impl_Stabilise_1.x0 (k + 1) x0 x1 x6 x10 x11 y0_0 y0_1 = (if x11 < x10 then ((impl_Matrix_at.f y0_0 y0_1 x11 x11).bind fun t1 => (if t1 = 1 then ((impl_Matrix_at.f y0_0 y0_1 x0 x11).bind fun t2 => ((impl_Matrix_at.f y0_0 y0_1 x11 x1).bind fun t3 => (impl_Stabilise_1.x0 k x0 x1 (mn x6 (mx (mx t2 2) t3)) x10 (wr64 (x11 + 1)) y0_0 y0_1))) else ((impl_Matrix_at.f y0_0 y0_1 x0 x11).bind fun t4 => ((impl_Matrix_at.f y0_0 y0_1 x11 x1).bind fun t5 => (impl_Stabilise_1.x0 k x0 x1 (mn x6 (mx (mx t4 t1) t5)) x10 (wr64 (x11 + 1)) y0_0 y0_1))))) else (some (impl_Stabilise_1.en y0_0 y0_1 x6))) := by kernel_rfl
set_option maxRecDepth 100000 in
theorem impl_Stabilise_1.ef (k : Nat) (a0 : Int) (a1 : Int) (a3_0 : Int) (l3_1 : List Int) : R.start Tryz.prog xhn impl_Stabilise_1.O 1 Tryz.f95 impl_Stabilise_1.fh k [.int .i64 a0, .int .i64 a1, .ptr 0 0] [.box true [.int .i64 a3_0, .imm (.I .i64 l3_1)]] = (impl_Stabilise_1.x0 k a0 a1 3 a3_0 0 a3_0 l3_1) := by kernel_rfl
theorem impl_Stabilise_1.link : ∀ k, (∀ (x0 : Int) (x1 : Int) (x6 : Int) (x10 : Int) (x11 : Int) (y0_0 : Int) (y0_1 : List Int), impl_Stabilise_1.x0 k x0 x1 x6 x10 x11 y0_0 y0_1 = (impl_Stabilise_1.l0 k x0 x1 x6 x10 x11 y0_0 y0_1).map (impl_Stabilise_1.en y0_0 y0_1))
  | 0 => fun _ _ _ _ _ _ _ => by simp only [impl_Stabilise_1.l0, R.map_none]; rfl
  | k + 1 => by
    have ih0 := impl_Stabilise_1.link k
    · intro x0 x1 x6 x10 x11 y0_0 y0_1
      rw [impl_Stabilise_1.e0]
      simp only [impl_Stabilise_1.l0, R.map_ite, R.map_bind, R.map_none, R.map_some, R.wr64_eq, ← ih0]
theorem impl_Stabilise_1.sf (k : Nat) (a0 : Int) (a1 : Int) (a3_0 : Int) (l3_1 : List Int) : R.start Tryz.prog xhn impl_Stabilise_1.O 1 Tryz.f95 impl_Stabilise_1.fh k [.int .i64 a0, .int .i64 a1, .ptr 0 0] [.box true [.int .i64 a3_0, .imm (.I .i64 l3_1)]] = (impl_Stabilise_1.f k a0 a1 a3_0 l3_1).map (impl_Stabilise_1.en a3_0 l3_1) := by
  have ih0 := impl_Stabilise_1.link k
  rw [impl_Stabilise_1.ef]
  simp only [impl_Stabilise_1.f, R.map_ite, R.map_bind, R.map_none, R.map_some, R.wr64_eq, ← ih0]
theorem impl_Stabilise_1.ok (k : Nat) : impl_Stabilise_1.tw.Ok Tryz.prog k := by
  intro md hmd a r h
  refine fn_ok (H := xhn) (fh := impl_Stabilise_1.fh) (O := impl_Stabilise_1.O) (k := k) Tryz.func95 (by kernel_rfl) (by kernel_rfl) (fun j _ => (Tw.orc_sound impl_Matrix_at.dok (impl_Matrix_at.ok j) (fun _ => rfl) noO_sound)) (by kernel_rfl) (m := 1) rfl ?_
  refine (impl_Stabilise_1.sf k a.1 a.2.1 a.2.2.1 a.2.2.2).trans ?_
  exact congrArg (Option.map _) h
mutual
def impl_filled_d.l0 : Nat → Int → Int → Int → Int → (List Int) → Int → (List Int) → Option (Int × (List Int))
  | 0, _, _, _, _, _, _, _ => none
  | k + 1, x0, x10, x11, y0_0, y0_1, y2_0, y4 => (if x11 < x10 then (impl_filled_d.l1 k x0 x11 x10 x11 x0 0 y0_0 y0_1 y2_0 y4) else (some (y2_0, y4)))
def impl_filled_d.l1 : Nat → Int → Int → Int → Int → Int → Int → Int → (List Int) → Int → (List Int) → Option (Int × (List Int))
  | 0, _, _, _, _, _, _, _, _, _, _ => none
  | k + 1, x0, x6, x10, x11, x14, x15, y0_0, y0_1, y2_0, y4 => (if x15 < x14 then ((impl_Stabilise_1.f k x6 x15 y0_0 y0_1).bind fun t1 => (if y4.length < 17592186044416 then (impl_filled_d.l1 k x0 x6 x10 x11 x14 (wrap64 (x15 + 1)) y0_0 y0_1 y2_0 (y4 ++ [t1])) else none)) else (impl_filled_d.l0 k x0 x10 (wrap64 (x11 + 1)) y0_0 y0_1 y2_0 y4))
end
def impl_filled_d.f (k : Nat) (a0 : Int) (a2_0 : Int) (l2_1 : List Int) : Option (Int × (List Int)) := (impl_filled_d.l0 k a0 a0 0 a2_0 l2_1 a0 ([] : List Int))
def impl_filled_d.en (a2_0 : Int) (l2_1 : List Int) (r : Int × (List Int)) : Res := (.agg [.int .i64 r.1, .sl 1 0], [.box true [.int .i64 a2_0, .imm (.I .i64 l2_1)], .arr 3 0 (.I .i64 r.2) false])
def impl_filled_d.dec : List AV → List R.Obj → Option (Int × Int × (List Int))
  | [.int .i64 a0, .clo 95 [.ptr 0 0]], [.box true [.int .i64 a2_0, .imm (.I .i64 l2_1)]] => some (a0, a2_0, l2_1)
  | _, _ => none
def impl_filled_d.tw : Tw := ⟨69, Int × Int × (List Int), Int × (List Int), impl_filled_d.dec, fun a => [.int .i64 a.1, .clo 95 [.ptr 0 0]], fun a => [.box true [.int .i64 a.2.1, .imm (.I .i64 a.2.2)]], fun k a => impl_filled_d.f k a.1 a.2.1 a.2.2, fun a r => impl_filled_d.en a.2.1 a.2.2 r, true⟩
theorem impl_filled_d.dok : impl_filled_d.tw.DecOk := by
  intro args hc a h
  have h : impl_filled_d.dec args hc = some a := h
  unfold impl_filled_d.dec at h
  split at h
  · cases h; exact ⟨rfl, rfl⟩
  · cases h
noncomputable def impl_filled_d.O (k : Nat) : Oracle := (impl_Stabilise_1.tw.orc k noO)
def impl_filled_d.fh : FH := ⟨fun i => match i with | 3 => some [(0, 0), (1, 0), (4, 0), (5, 0), (10, 0), (11, 0)] | 6 => some [(0, 0), (1, 0), (4, 0), (5, 0), (6, 0), (10, 0), (11, 0), (14, 0), (15, 0)] | _ => none, [(true, 3)], false⟩
noncomputable def impl_filled_d.x0 (k : Nat) (x0 : Int) (x10 : Int) (x11 : Int) (y0_0 : Int) (y0_1 : List Int) (y2_0 : Int) (y4 : List Int) : Option Res := R.exec Tryz.prog xhn impl_filled_d.O 1 Tryz.f69 impl_filled_d.fh k (R.point Tryz.f69 3) ⟨[(0, .int .i64 x0), (1, .clo 95 [.ptr 0 0]), (4, .ptr 1 0), (5, .ptr 2 0), (10, .int .i64 x10), (11, .int .i64 x11)], [(0, .box true [.int .i64 y0_0, .imm (.I .i64 y0_1)]), (1, .box false [.int .i64 0, .sl 3 0]), (2, .box false [.int .i64 y2_0, .sl 4 0]), (3, .arr 3 0 (.I .i64 ([] : List Int)) false), (4, .arr 3 0 (.I .i64 y4) false)], 7⟩
noncomputable def impl_filled_d.x1 (k : Nat) (x0 : Int) (x6 : Int) (x10 : Int) (x11 : Int) (x14 : Int) (x15 : Int) (y0_0 : Int) (y0_1 : List Int) (y2_0 : Int) (y4 : List Int) : Option Res := R.exec Tryz.prog xhn impl_filled_d.O 1 Tryz.f69 impl_filled_d.fh k (R.point Tryz.f69 6) ⟨[(0, .int .i64 x0), (1, .clo 95 [.ptr 0 0]), (4, .ptr 1 0), (5, .ptr 2 0), (6, .int .i64 x6), (10, .int .i64 x10), (11, .int .i64 x11), (14, .int .i64 x14), (15, .int .i64 x15)], [(0, .box true [.int .i64 y0_0, .imm (.I .i64 y0_1)]), (1, .box false [.int .i64 0, .sl 3 0]), (2, .box false [.int .i64 y2_0, .sl 4 0]), (3, .arr 3 0 (.I .i64 ([] : List Int)) false), (4, .arr 3 0 (.I .i64 y4) false)], 7⟩
set_option maxRecDepth 100000 in
theorem impl_filled_d.e0 (k : Nat) (x0 : Int) (x10 : Int) (x11 : Int) (y0_0 : Int) (y0_1 : List Int) (y2_0 : Int) (y4 : List Int) : impl_filled_d.x0 (k + 1) x0 x10 x11 y0_0 y0_1 y2_0 y4 = (if x11 < x10 then (impl_filled_d.x1 k x0 x11 x10 x11 x0 0 y0_0 y0_1 y2_0 y4) else (some (impl_filled_d.en y0_0 y0_1 (y2_0, y4)))) := by kernel_rfl
set_option maxRecDepth 100000 in
theorem impl_filled_d.e1 (k : Nat) (x0 : Int) (x6 : Int) (x10 : Int) (x11 : Int) (x14 : Int) (x15 : Int) (y0_0 : Int) (y0_1 : List Int) (y2_0 : Int) (y4 : List Int) : impl_filled_d.x1 (k + 1) x0 x6 x10 x11 x14 x15 y0_0 y0_1 y2_0 y4 = (if x15 < x14 then ((impl_Stabilise_1.f k x6 x15 y0_0 y0_1).bind fun t1 => (if y4.length < 17592186044416 then (impl_filled_d.x1 k x0 x6 x10 x11 x14 (wr64 (x15 + 1)) y0_0 y0_1 y2_0 (y4 ++ [t1])) else none)) else (impl_filled_d.x0 k x0 x10 (wr64 (x11 + 1)) y0_0 y0_1 y2_0 y4)) := by kernel_rfl
set_option maxRecDepth 100000 in
theorem impl_filled_d.ef (k : Nat) (a0 : Int) (a2_0 : Int) (l2_1 : List Int) : R.start Tryz.prog xhn impl_filled_d.O 1 Tryz.f69 impl_filled_d.fh k [.int .i64 a0, .clo 95 [.ptr 0 0]] [.box true [.int .i64 a2_0, .imm (.I .i64 l2_1)]] = (impl_filled_d.x0 k a0 a0 0 a2_0 l2_1 a0 ([] : List Int)) := by kernel_rfl
theorem impl_filled_d.link : ∀ k, (∀ (x0 : Int) (x10 : Int) (x11 : Int) (y0_0 : Int) (y0_1 : List Int) (y2_0 : Int) (y4 : List Int), impl_filled_d.x0 k x0 x10 x11 y0_0 y0_1 y2_0 y4 = (impl_filled_d.l0 k x0 x10 x11 y0_0 y0_1 y2_0 y4).map (impl_filled_d.en y0_0 y0_1)) ∧ (∀ (x0 : Int) (x6 : Int) (x10 : Int) (x11 : Int) (x14 : Int) (x15 : Int) (y0_0 : Int) (y0_1 : List Int) (y2_0 : Int) (y4 : List Int), impl_filled_d.x1 k x0 x6 x10 x11 x14 x15 y0_0 y0_1 y2_0 y4 = (impl_filled_d.l1 k x0 x6 x10 x11 x14 x15 y0_0 y0_1 y2_0 y4).map (impl_filled_d.en y0_0 y0_1))
  | 0 => ⟨fun _ _ _ _ _ _ _ => by simp only [impl_filled_d.l0, R.map_none]; rfl, fun _ _ _ _ _ _ _ _ _ _ => by simp only [impl_filled_d.l1, R.map_none]; rfl⟩
  | k + 1 => by
    obtain ⟨ih0, ih1⟩ := impl_filled_d.link k
    refine ⟨?_, ?_⟩
    · intro x0 x10 x11 y0_0 y0_1 y2_0 y4
      rw [impl_filled_d.e0]
      simp only [impl_filled_d.l0, R.map_ite, R.map_bind, R.map_none, R.map_some, R.wr64_eq, ← ih0, ← ih1]
    · intro x0 x6 x10 x11 x14 x15 y0_0 y0_1 y2_0 y4
      rw [impl_filled_d.e1]
      simp only [impl_filled_d.l1, R.map_ite, R.map_bind, R.map_none, R.map_some, R.wr64_eq, ← ih0, ← ih1]
theorem impl_filled_d.sf (k : Nat) (a0 : Int) (a2_0 : Int) (l2_1 : List Int) : R.start Tryz.prog xhn impl_filled_d.O 1 Tryz.f69 impl_filled_d.fh k [.int .i64 a0, .clo 95 [.ptr 0 0]] [.box true [.int .i64 a2_0, .imm (.I .i64 l2_1)]] = (impl_filled_d.f k a0 a2_0 l2_1).map (impl_filled_d.en a2_0 l2_1) := by
  obtain ⟨ih0, ih1⟩ := impl_filled_d.link k
  rw [impl_filled_d.ef]
  simp only [impl_filled_d.f, R.map_ite, R.map_bind, R.map_none, R.map_some, R.wr64_eq, ← ih0, ← ih1]
theorem impl_filled_d.ok (k : Nat) : impl_filled_d.tw.Ok Tryz.prog k := by
  intro md hmd a r h
  refine fn_ok (H := xhn) (fh := impl_filled_d.fh) (O := impl_filled_d.O) (k := k) Tryz.func69 (by kernel_rfl) (by kernel_rfl) (fun j _ => (Tw.orc_sound impl_Stabilise_1.dok (impl_Stabilise_1.ok j) (fun _ => rfl) noO_sound)) (by kernel_rfl) (m := 1) rfl ?_
  refine (impl_filled_d.sf k a.1 a.2.1 a.2.2).trans ?_
  exact congrArg (Option.map _) h
def impl_Stabilise.f (k : Nat) (a0_0 : Int) (l0_1 : List Int) : Option (Int × (List Int) × Bool) := ((impl_IsIdempotent.f k a0_0 l0_1).bind fun t1 => (if t1 = true then ((impl_filled_d.f k a0_0 a0_0 l0_1).bind fun t2 => (some (t2.1, t2.2, true))) else (some (0, ([] : List Int), false))))
def impl_Stabilise.en (r : Int × (List Int) × Bool) : Res := (.tup [.agg [.int .i64 r.1, .sl 0 0], .lit r.2.2], [.arr 3 0 (.I .i64 r.2.1) false])
def impl_Stabilise.dec : List AV → List R.Obj → Option (Int × (List Int))
  | [.agg [.int .i64 a0_0, .imm (.I .i64 l0_1)]], [] => some (a0_0, l0_1)
  | _, _ => none
def impl_Stabilise.tw : Tw := ⟨55, Int × (List Int), Int × (List Int) × Bool, impl_Stabilise.dec, fun a => [.agg [.int .i64 a.1, .imm (.I .i64 a.2)]], fun a => [], fun k a => impl_Stabilise.f k a.1 a.2, fun a r => impl_Stabilise.en r, true⟩
theorem impl_Stabilise.dok : impl_Stabilise.tw.DecOk := by
  intro args hc a h
  have h : impl_Stabilise.dec args hc = some a := h
  unfold impl_Stabilise.dec at h
  split at h
  · cases h; exact ⟨rfl, rfl⟩
  · cases h
noncomputable def impl_Stabilise.O (k : Nat) : Oracle := (impl_IsIdempotent.tw.orc k (impl_filled_d.tw.orc k noO))
def impl_Stabilise.fh : FH := ⟨fun i => match i with | _ => none, [(true, 3)], false⟩
set_option maxRecDepth 100000 in
theorem impl_Stabilise.ef (k : Nat) (a0_0 : Int) (l0_1 : List Int) : R.start Tryz.prog xhn impl_Stabilise.O 0 Tryz.f55 impl_Stabilise.fh k [.agg [.int .i64 a0_0, .imm (.I .i64 l0_1)]] [] = ((impl_IsIdempotent.f k a0_0 l0_1).bind fun t1 => (if t1 = true then ((impl_filled_d.f k a0_0 a0_0 l0_1).bind fun t2 => (some (impl_Stabilise.en (t2.1, t2.2, true)))) else (some (impl_Stabilise.en (0, ([] : List Int), false))))) := by kernel_rfl
theorem impl_Stabilise.sf (k : Nat) (a0_0 : Int) (l0_1 : List Int) : R.start Tryz.prog xhn impl_Stabilise.O 0 Tryz.f55 impl_Stabilise.fh k [.agg [.int .i64 a0_0, .imm (.I .i64 l0_1)]] [] = (impl_Stabilise.f k a0_0 l0_1).map (impl_Stabilise.en) := by
  rw [impl_Stabilise.ef]
  simp only [impl_Stabilise.f, R.map_ite, R.map_bind, R.map_none, R.map_some, R.wr64_eq]
theorem impl_Stabilise.ok (k : Nat) : impl_Stabilise.tw.Ok Tryz.prog k := by
  intro md hmd a r h
  refine fn_ok (H := xhn) (fh := impl_Stabilise.fh) (O := impl_Stabilise.O) (k := k) Tryz.func55 (by kernel_rfl) (by kernel_rfl) (fun j _ => (Tw.orc_sound impl_IsIdempotent.dok (impl_IsIdempotent.ok j) (fun _ => rfl) (Tw.orc_sound impl_filled_d.dok (impl_filled_d.ok j) (fun _ => rfl) noO_sound))) (by kernel_rfl) (m := 0) rfl ?_
  refine (impl_Stabilise.sf k a.1 a.2).trans ?_
  exact congrArg (Option.map _) h
mutual
def impl_value.l0 : Nat → (List Part) → Int → Int → Int → (List Int) → (List Int) → (List Stp) → Int → (List Int) → Option (Int × (List Int) × Bool)
  | 0, _, _, _, _, _, _, _, _, _ => none
  | k + 1, x13, x14, x15, y0_0, y0_1, y0_2, y0_3, y2_0, y4 => (if x15 < x14 then (if 0 ≤ x15 then (if x15 < (x13.length : Int) then (if (rdP x13 x15).f0.toList = ([] : List UInt8) then ((impl_value.f k y0_0 y0_1 y0_2 y0_3 ((rdP x13 x15).f1)).bind fun t1 => (if t1.2.2 = true then ((impl_Stabilise.f k t1.1 t1.2.1).bind fun t2 => (if t2.2.2 = true then (if x15 > 0 then ((impl_MulGrades.f k y2_0 y4 t2.1 t2.2.1).bind fun t3 => (impl_value.l0 k x13 x14 (wrap64 (x15 + 1)) y0_0 y0_1 y0_2 y0_3 t3.1 t3.2.1)) else (impl_value.l0 k x13 x14 (wrap64 (x15 + 1)) y0_0 y0_1 y0_2 y0_3 t2.1 t2.2.1)) else (some (0, ([] : List Int), false)))) else (some (0, ([] : List Int), false)))) else ((impl_StepMatrix.f k y0_0 y0_1 y0_2 y0_3 ((rdP x13 x15).f0)).bind fun t5 => ((impl_GradesOf.f k t5.1 t5.2.1).bind fun t6 => (if x15 > 0 then ((impl_MulGrades.f k y2_0 y4 t6.1 t6.2.1).bind fun t7 => (impl_value.l0 k x13 x14 (wrap64 (x15 + 1)) y0_0 y0_1 y0_2 y0_3 t7.1 t7.2.1)) else (impl_value.l0 k x13 x14 (wrap64 (x15 + 1)) y0_0 y0_1 y0_2 y0_3 t6.1 t6.2.1))))) else none) else none) else (some (y2_0, y4, true)))
def impl_value.f : Nat → Int → (List Int) → (List Int) → (List Stp) → (List Part) → Option (Int × (List Int) × Bool)
  | 0, _, _, _, _, _ => none
  | k + 1, a0_0, l0_1, l0_2, l0_3, l1 => (impl_value.l0 k l1 (l1.length : Int) 0 a0_0 l0_1 l0_2 l0_3 0 ([] : List Int))
end
def impl_value.en (r : Int × (List Int) × Bool) : Res := (.tup [.agg [.int .i64 r.1, .sl 0 0], .lit r.2.2], [.arr 3 0 (.I .i64 r.2.1) false])
def impl_value.dec : List AV → List R.Obj → Option (Int × (List Int) × (List Int) × (List Stp) × (List Part))
  | [.agg [.int .i64 a0_0, .imm (.I .i64 l0_1), .imm (.I .i64 l0_2), .imm (.T l0_3)], .imm (.P l1)], [] => some (a0_0, l0_1, l0_2, l0_3, l1)
  | _, _ => none
def impl_value.tw : Tw := ⟨25, Int × (List Int) × (List Int) × (List Stp) × (List Part), Int × (List Int) × Bool, impl_value.dec, fun a => [.agg [.int .i64 a.1, .imm (.I .i64 a.2.1), .imm (.I .i64 a.2.2.1), .imm (.T a.2.2.2.1)], .imm (.P a.2.2.2.2)], fun a => [], fun k a => impl_value.f k a.1 a.2.1 a.2.2.1 a.2.2.2.1 a.2.2.2.2, fun a r => impl_value.en r, true⟩
theorem impl_value.dok : impl_value.tw.DecOk := by
  intro args hc a h
  have h : impl_value.dec args hc = some a := h
  unfold impl_value.dec at h
  split at h
  · cases h; exact ⟨rfl, rfl⟩
  · cases h
noncomputable def impl_value.O (k : Nat) : Oracle := (impl_Stabilise.tw.orc k (impl_MulGrades.tw.orc k (impl_StepMatrix.tw.orc k (impl_GradesOf.tw.orc k (impl_value.tw.orc k noO)))))
def impl_value.fh : FH := ⟨fun i => match i with | 3 => some [(2, 0), (4, 0), (6, 0), (13, 0), (14, 0), (15, 0)] | _ => none, [(true, 3)], false⟩
noncomputable def impl_value.x0 (k : Nat) (x13 : List Part) (x14 : Int) (x15 : Int) (y0_0 : Int) (y0_1 : List Int) (y0_2 : List Int) (y0_3 : List Stp) (y2_0 : Int) (y4 : List Int) : Option Res := R.exec Tryz.prog xhn impl_value.O 0 Tryz.f25 impl_value.fh k (R.point Tryz.f25 3) ⟨[(2, .ptr 0 0), (4, .ptr 1 0), (6, .ptr 2 0), (13, .imm (.P x13)), (14, .int .i64 x14), (15, .int .i64 x15)], [(0, .box false [.int .i64 y0_0, .imm (.I .i64 y0_1), .imm (.I .i64 y0_2), .imm (.T y0_3)]), (1, .box false [.int .i64 0, .sl 3 0]), (2, .box false [.int .i64 y2_0, .sl 4 0]), (3, .arr 3 0 (.I .i64 ([] : List Int)) false), (4, .arr 3 0 (.I .i64 y4) false)], 7⟩
set_option maxRecDepth 100000 in
theorem impl_value.e0 (k : Nat) (x13 : List Part) (x14 : Int) (x15 : Int) (y0_0 : Int) (y0_1 : List Int) (y0_2 : List Int) (y0_3 : List Stp) (y2_0 : Int) (y4 : List Int) : impl_value.x0 (k + 1) x13 x14 x15 y0_0 y0_1 y0_2 y0_3 y2_0 y4 = (if x15 < x14 then (if 0 ≤ x15 then (if x15 < (x13.length : Int) then (if (rdP x13 x15).f0.toList = ([] : List UInt8) then ((impl_value.f k y0_0 y0_1 y0_2 y0_3 ((rdP x13 x15).f1)).bind fun t1 => (if t1.2.2 = true then ((impl_Stabilise.f k t1.1 t1.2.1).bind fun t2 => (if t2.2.2 = true then (if x15 > 0 then ((impl_MulGrades.f k y2_0 y4 t2.1 t2.2.1).bind fun t3 => (impl_value.x0 k x13 x14 (wr64 (x15 + 1)) y0_0 y0_1 y0_2 y0_3 t3.1 t3.2.1)) else (impl_value.x0 k x13 x14 (wr64 (x15 + 1)) y0_0 y0_1 y0_2 y0_3 t2.1 t2.2.1)) else (some (impl_value.en (0, ([] : List Int), false))))) else (some (impl_value.en (0, ([] : List Int), false))))) else ((impl_StepMatrix.f k y0_0 y0_1 y0_2 y0_3 ((rdP x13 x15).f0)).bind fun t5 => ((impl_GradesOf.f k t5.1 t5.2.1).bind fun t6 => (if x15 > 0 then ((impl_MulGrades.f k y2_0 y4 t6.1 t6.2.1).bind fun t7 => (impl_value.x0 k x13 x14 (wr64 (x15 + 1)) y0_0 y0_1 y0_2 y0_3 t7.1 t7.2.1)) else (impl_value.x0 k x13 x14 (wr64 (x15 + 1)) y0_0 y0_1 y0_2 y0_3 t6.1 t6.2.1))))) else none) else none) else (some (impl_value.en (y2_0, y4, true)))) := by
  refine Eq.trans ?_ (R.icong (fun h0 => (R.icong (fun h1 => (R.icong (fun h2 => (R.icong (fun h3 => (R.bcong fun t1 => (R.icong (fun h4 => rfl) (fun h4 => (R.idropF (p := t1.2.2 = true) (z := (if x15 > 0 then ((impl_MulGrades.f k y2_0 y4 t1.1 t1.2.1).bind fun t4 => (impl_value.x0 k x13 x14 (wr64 (x15 + 1)) y0_0 y0_1 y0_2 y0_3 t4.1 t4.2.1)) else (impl_value.x0 k x13 x14 (wr64 (x15 + 1)) y0_0 y0_1 y0_2 y0_3 t1.1 t1.2.1))) h4 rfl))))) (fun h3 => rfl))) (fun h2 => rfl))) (fun h1 => rfl))) (fun h0 => rfl))
  kernel_rfl
set_option maxRecDepth 100000 in
theorem impl_value.ef (k : Nat) (a0_0 : Int) (l0_1 : List Int) (l0_2 : List Int) (l0_3 : List Stp) (l1 : List Part) : R.start Tryz.prog xhn impl_value.O 0 Tryz.f25 impl_value.fh k [.agg [.int .i64 a0_0, .imm (.I .i64 l0_1), .imm (.I .i64 l0_2), .imm (.T l0_3)], .imm (.P l1)] [] = (impl_value.x0 k l1 (l1.length : Int) 0 a0_0 l0_1 l0_2 l0_3 0 ([] : List Int)) := by kernel_rfl
theorem impl_value.link : ∀ k, (∀ (x13 : List Part) (x14 : Int) (x15 : Int) (y0_0 : Int) (y0_1 : List Int) (y0_2 : List Int) (y0_3 : List Stp) (y2_0 : Int) (y4 : List Int), impl_value.x0 k x13 x14 x15 y0_0 y0_1 y0_2 y0_3 y2_0 y4 = (impl_value.l0 k x13 x14 x15 y0_0 y0_1 y0_2 y0_3 y2_0 y4).map (impl_value.en))
  | 0 => fun _ _ _ _ _ _ _ _ _ => by simp only [impl_value.l0, R.map_none]; rfl
  | k + 1 => by
    have ih0 := impl_value.link k
    · intro x13 x14 x15 y0_0 y0_1 y0_2 y0_3 y2_0 y4
      rw [impl_value.e0]
      simp only [impl_value.l0, R.map_ite, R.map_bind, R.map_none, R.map_some, R.wr64_eq, ← ih0]
theorem impl_value.sf (k : Nat) (a0_0 : Int) (l0_1 : List Int) (l0_2 : List Int) (l0_3 : List Stp) (l1 : List Part) : R.start Tryz.prog xhn impl_value.O 0 Tryz.f25 impl_value.fh k [.agg [.int .i64 a0_0, .imm (.I .i64 l0_1), .imm (.I .i64 l0_2), .imm (.T l0_3)], .imm (.P l1)] [] = (impl_value.f (k + 1) a0_0 l0_1 l0_2 l0_3 l1).map (impl_value.en) := by
  have ih0 := impl_value.link k
  rw [impl_value.ef]
  simp only [impl_value.f, R.map_ite, R.map_bind, R.map_none, R.map_some, R.wr64_eq, ← ih0]
theorem impl_value.ok : ∀ k, impl_value.tw.Ok Tryz.prog k := by
  intro k
  induction k using Nat.strongRecOn with
  | ind k ih =>
    cases k with
    | zero =>
      intro md hmd a r h
      have h : impl_value.f 0 a.1 a.2.1 a.2.2.1 a.2.2.2.1 a.2.2.2.2 = some r := h
      simp only [impl_value.f] at h
      cases h
    | succ k =>
      intro md hmd a r h
      refine fn_ok (H := xhn) (fh := impl_value.fh) (O := impl_value.O) (k := k) Tryz.func25 (by kernel_rfl) (by kernel_rfl) (fun j hj => (Tw.orc_sound impl_Stabilise.dok (impl_Stabilise.ok j) (fun _ => rfl) (Tw.orc_sound impl_MulGrades.dok (impl_MulGrades.ok j) (fun _ => rfl) (Tw.orc_sound impl_StepMatrix.dok (impl_StepMatrix.ok j) (fun _ => rfl) (Tw.orc_sound impl_GradesOf.dok (impl_GradesOf.ok j) (fun _ => rfl) (Tw.orc_sound impl_value.dok (ih j (by omega)) (fun _ => rfl) noO_sound)))))) (by kernel_rfl) (m := 0) rfl ?_
      refine (impl_value.sf k a.1 a.2.1 a.2.2.1 a.2.2.2.1 a.2.2.2.2).trans ?_
      exact congrArg (Option.map _) h
def impl_ValueOf.f (k : Nat) (a0_0 : Int) (l0_1 : List Int) (l0_2 : List Int) (l0_3 : List Stp) (a1 : ByteArray) : Option (Int × (List Int) × Bool) := ((impl_parts.f k a1).bind fun t1 => (if t1.2 = true then ((impl_AutomatonValid.f k a0_0 l0_1 l0_2 l0_3).bind fun t2 => (if t2 = true then ((impl_value.f k a0_0 l0_1 l0_2 l0_3 t1.1).bind fun t3 => (some (t3.1, t3.2.1, t3.2.2))) else (some (0, ([] : List Int), false)))) else (some (0, ([] : List Int), false))))
def impl_ValueOf.en (r : Int × (List Int) × Bool) : Res := (.tup [.agg [.int .i64 r.1, .sl 0 0], .lit r.2.2], [.arr 3 0 (.I .i64 r.2.1) false])
def impl_ValueOf.dec : List AV → List R.Obj → Option (Int × (List Int) × (List Int) × (List Stp) × ByteArray)
  | [.agg [.int .i64 a0_0, .imm (.I .i64 l0_1), .imm (.I .i64 l0_2), .imm (.T l0_3)], .str a1], [] => some (a0_0, l0_1, l0_2, l0_3, a1)
  | _, _ => none
def impl_ValueOf.tw : Tw := ⟨6, Int × (List Int) × (List Int) × (List Stp) × ByteArray, Int × (List Int) × Bool, impl_ValueOf.dec, fun a => [.agg [.int .i64 a.1, .imm (.I .i64 a.2.1), .imm (.I .i64 a.2.2.1), .imm (.T a.2.2.2.1)], .str a.2.2.2.2], fun a => [], fun k a => impl_ValueOf.f k a.1 a.2.1 a.2.2.1 a.2.2.2.1 a.2.2.2.2, fun a r => impl_ValueOf.en r, true⟩
theorem impl_ValueOf.dok : impl_ValueOf.tw.DecOk := by
  intro args hc a h
  have h : impl_ValueOf.dec args hc = some a := h
  unfold impl_ValueOf.dec at h
  split at h
  · cases h; exact ⟨rfl, rfl⟩
  · cases h
noncomputable def impl_ValueOf.O (k : Nat) : Oracle := (impl_parts.tw.orc k (impl_AutomatonValid.tw.orc k (impl_value.tw.orc k noO)))
def impl_ValueOf.fh : FH := ⟨fun i => match i with | _ => none, [(true, 3)], false⟩
set_option maxRecDepth 100000 in
theorem impl_ValueOf.ef (k : Nat) (a0_0 : Int) (l0_1 : List Int) (l0_2 : List Int) (l0_3 : List Stp) (a1 : ByteArray) : R.start Tryz.prog xhn impl_ValueOf.O 0 Tryz.f6 impl_ValueOf.fh k [.agg [.int .i64 a0_0, .imm (.I .i64 l0_1), .imm (.I .i64 l0_2), .imm (.T l0_3)], .str a1] [] = ((impl_parts.f k a1).bind fun t1 => (if t1.2 = true then ((impl_AutomatonValid.f k a0_0 l0_1 l0_2 l0_3).bind fun t2 => (if t2 = true then ((impl_value.f k a0_0 l0_1 l0_2 l0_3 t1.1).bind fun t3 => (some (impl_ValueOf.en (t3.1, t3.2.1, t3.2.2)))) else (some (impl_ValueOf.en (0, ([] : List Int), false))))) else (some (impl_ValueOf.en (0, ([] : List Int), false))))) := by kernel_rfl
theorem impl_ValueOf.sf (k : Nat) (a0_0 : Int) (l0_1 : List Int) (l0_2 : List Int) (l0_3 : List Stp) (a1 : ByteArray) : R.start Tryz.prog xhn impl_ValueOf.O 0 Tryz.f6 impl_ValueOf.fh k [.agg [.int .i64 a0_0, .imm (.I .i64 l0_1), .imm (.I .i64 l0_2), .imm (.T l0_3)], .str a1] [] = (impl_ValueOf.f k a0_0 l0_1 l0_2 l0_3 a1).map (impl_ValueOf.en) := by
  rw [impl_ValueOf.ef]
  simp only [impl_ValueOf.f, R.map_ite, R.map_bind, R.map_none, R.map_some, R.wr64_eq]
theorem impl_ValueOf.ok (k : Nat) : impl_ValueOf.tw.Ok Tryz.prog k := by
  intro md hmd a r h
  refine fn_ok (H := xhn) (fh := impl_ValueOf.fh) (O := impl_ValueOf.O) (k := k) Tryz.func6 (by kernel_rfl) (by kernel_rfl) (fun j _ => (Tw.orc_sound impl_parts.dok (impl_parts.ok j) (fun _ => rfl) (Tw.orc_sound impl_AutomatonValid.dok (impl_AutomatonValid.ok j) (fun _ => rfl) (Tw.orc_sound impl_value.dok (impl_value.ok j) (fun _ => rfl) noO_sound)))) (by kernel_rfl) (m := 0) rfl ?_
  refine (impl_ValueOf.sf k a.1 a.2.1 a.2.2.1 a.2.2.2.1 a.2.2.2.2).trans ?_
  exact congrArg (Option.map _) h
mutual
def impl_GradeBetween.l0 : Nat → Int → (List Int) → Int → Int → Int → (List Int) → (List Int) → (List Stp) → Int → (List Int) → Option (Int)
  | 0, _, _, _, _, _, _, _, _, _, _ => none
  | k + 1, x5, x26, x27, x28, y0_0, y0_1, y0_2, y0_3, y1_0, y1_1 => (if x28 < x27 then (if 0 ≤ x28 then (if x28 < (x26.length : Int) then (impl_GradeBetween.l1 k x5 (rdI x26 x28) x26 x27 x28 y0_2 (y0_2.length : Int) 0 y0_0 y0_1 y0_2 y0_3 y1_0 y1_1) else none) else none) else (some x5))
def impl_GradeBetween.l1 : Nat → Int → Int → (List Int) → Int → Int → (List Int) → Int → Int → Int → (List Int) → (List Int) → (List Stp) → Int → (List Int) → Option (Int)
  | 0, _, _, _, _, _, _, _, _, _, _, _, _, _, _ => none
  | k + 1, x5, x7, x26, x27, x28, x33, x34, x35, y0_0, y0_1, y0_2, y0_3, y1_0, y1_1 => (if x35 < x34 then (if 0 ≤ x35 then (if x35 < (x33.length : Int) then ((impl_Matrix_at.f y1_0 y1_1 x7 (rdI x33 x35)).bind fun t3 => (impl_GradeBetween.l1 k (mn x5 t3) x7 x26 x27 x28 x33 x34 (wrap64 (x35 + 1)) y0_0 y0_1 y0_2 y0_3 y1_0 y1_1)) else none) else none) else (impl_GradeBetween.l0 k x5 x26 x27 (wrap64 (x28 + 1)) y0_0 y0_1 y0_2 y0_3 y1_0 y1_1))
end
def impl_GradeBetween.f (k : Nat) (a0_0 : Int) (l0_1 : List Int) (l0_2 : List Int) (l0_3 : List Stp) (a1_0 : Int) (l1_1 : List Int) : Option (Int) := ((impl_AutomatonValid.f k a0_0 l0_1 l0_2 l0_3).bind fun t1 => (if t1 = true then ((impl_GradesValid.f k a1_0 l1_1).bind fun t2 => (if t2 = true then (if a1_0 = a0_0 then (impl_GradeBetween.l0 k 3 l0_1 (l0_1.length : Int) 0 a0_0 l0_1 l0_2 l0_3 a1_0 l1_1) else (some (-1))) else (some (-1)))) else (some (-1))))
def impl_GradeBetween.en (r : Int) : Res := (.int .i64 r, [])
def impl_GradeBetween.dec : List AV → List R.Obj → Option (Int × (List Int) × (List Int) × (List Stp) × Int × (List Int))
  | [.agg [.int .i64 a0_0, .imm (.I .i64 l0_1), .imm (.I .i64 l0_2), .imm (.T l0_3)], .agg [.int .i64 a1_0, .imm (.I .i64 l1_1)]], [] => some (a0_0, l0_1, l0_2, l0_3, a1_0, l1_1)
  | _, _ => none
def impl_GradeBetween.tw : Tw := ⟨44, Int × (List Int) × (List Int) × (List Stp) × Int × (List Int), Int, impl_GradeBetween.dec, fun a => [.agg [.int .i64 a.1, .imm (.I .i64 a.2.1), .imm (.I .i64 a.2.2.1), .imm (.T a.2.2.2.1)], .agg [.int .i64 a.2.2.2.2.1, .imm (.I .i64 a.2.2.2.2.2)]], fun a => [], fun k a => impl_GradeBetween.f k a.1 a.2.1 a.2.2.1 a.2.2.2.1 a.2.2.2.2.1 a.2.2.2.2.2, fun a r => impl_GradeBetween.en r, true⟩
theorem impl_GradeBetween.dok : impl_GradeBetween.tw.DecOk := by
  intro args hc a h
  have h : impl_GradeBetween.dec args hc = some a := h
  unfold impl_GradeBetween.dec at h
  split at h
  · cases h; exact ⟨rfl, rfl⟩
  · cases h
noncomputable def impl_GradeBetween.O (k : Nat) : Oracle := (impl_AutomatonValid.tw.orc k (impl_GradesValid.tw.orc k (impl_Matrix_at.tw.orc k noO)))
def impl_GradeBetween.fh : FH := ⟨fun i => match i with | 5 => some [(2, 0), (3, 0), (5, 0), (26, 0), (27, 0), (28, 0)] | 8 => some [(2, 0), (3, 0), (5, 0), (7, 0), (26, 0), (27, 0), (28, 0), (33, 0), (34, 0), (35, 0)] | _ => none, [], false⟩
noncomputable def impl_GradeBetween.x0 (k : Nat) (x5 : Int) (x26 : List Int) (x27 : Int) (x28 : Int) (y0_0 : Int) (y0_1 : List Int) (y0_2 : List Int) (y0_3 : List Stp) (y1_0 : Int) (y1_1 : List Int) : Option Res := R.exec Tryz.prog xhn impl_GradeBetween.O 0 Tryz.f44 impl_GradeBetween.fh k (R.point Tryz.f44 5) ⟨[(2, .ptr 0 0), (3, .ptr 1 0), (5, .int .i64 x5), (26, .imm (.I .i64 x26)), (27, .int .i64 x27), (28, .int .i64 x28)], [(0, .box false [.int .i64 y0_0, .imm (.I .i64 y0_1), .imm (.I .i64 y0_2), .imm (.T y0_3)]), (1, .box false [.int .i64 y1_0, .imm (.I .i64 y1_1)])], 4⟩
noncomputable def impl_GradeBetween.x1 (k : Nat) (x5 : Int) (x7 : Int) (x26 : List Int) (x27 : Int) (x28 : Int) (x33 : List Int) (x34 : Int) (x35 : Int) (y0_0 : Int) (y0_1 : List Int) (y0_2 : List Int) (y0_3 : List Stp) (y1_0 : Int) (y1_1 : List Int) : Option Res := R.exec Tryz.prog xhn impl_GradeBetween.O 0 Tryz.f44 impl_GradeBetween.fh k (R.point Tryz.f44 8) ⟨[(2, .ptr 0 0), (3, .ptr 1 0), (5, .int .i64 x5), (7, .int .i64 x7), (26, .imm (.I .i64 x26)), (27, .int .i64 x27), (28, .int .i64 x28), (33, .imm (.I .i64 x33)), (34, .int .i64 x34), (35, .int .i64 x35)], [(0, .box false [.int .i64 y0_0, .imm (.I .i64 y0_1), .imm (.I .i64 y0_2), .imm (.T y0_3)]), (1, .box false [.int .i64 y1_0, .imm (.I .i64 y1_1)])], 4⟩
set_option maxRecDepth 100000 in
theorem impl_GradeBetween.e0 (k : Nat) (x5 : Int) (x26 : List Int) (x27 : Int) (x28 : Int) (y0_0 : Int) (y0_1 : List Int) (y0_2 : List Int) (y0_3 : List Stp) (y1_0 : Int) (y1_1 : List Int) : impl_GradeBetween.x0 (k + 1) x5 x26 x27 x28 y0_0 y0_1 y0_2 y0_3 y1_0 y1_1 = (if x28 < x27 then (if 0 ≤ x28 then (if x28 < (x26.length : Int) then (impl_GradeBetween.x1 k x5 (rdI x26 x28) x26 x27 x28 y0_2 (y0_2.length : Int) 0 y0_0 y0_1 y0_2 y0_3 y1_0 y1_1) else none) else none) else (some (impl_GradeBetween.en x5))) := by kernel_rfl
set_option maxRecDepth 100000 in
theorem impl_GradeBetween.e1 (k : Nat) (x5 : Int) (x7 : Int) (x26 : List Int) (x27 : Int) (x28 : Int) (x33 : List Int) (x34 : Int) (x35 : Int) (y0_0 : Int) (y0_1 : List Int) (y0_2 : List Int) (y0_3 : List Stp) (y1_0 : Int) (y1_1 : List Int) : impl_GradeBetween.x1 (k + 1) x5 x7 x26 x27 x28 x33 x34 x35 y0_0 y0_1 y0_2 y0_3 y1_0 y1_1 = (if x35 < x34 then (if 0 ≤ x35 then (if x35 < (x33.length : Int) then ((impl_Matrix_at.f y1_0 y1_1 x7 (rdI x33 x35)).bind fun t3 => (impl_GradeBetween.x1 k (mn x5 t3) x7 x26 x27 x28 x33 x34 (wr64 (x35 + 1)) y0_0 y0_1 y0_2 y0_3 y1_0 y1_1)) else none) else none) else (impl_GradeBetween.x0 k x5 x26 x27 (wr64 (x28 + 1)) y0_0 y0_1 y0_2 y0_3 y1_0 y1_1)) := by kernel_rfl
set_option maxRecDepth 100000 in
theorem impl_GradeBetween.ef (k : Nat) (a0_0 : Int) (l0_1 : List Int) (l0_2 : List Int) (l0_3 : List Stp) (a1_0 : Int) (l1_1 : List Int) : R.start Tryz.prog xhn impl_GradeBetween.O 0 Tryz.f44 impl_GradeBetween.fh k [.agg [.int .i64 a0_0, .imm (.I .i64 l0_1), .imm (.I .i64 l0_2), .imm (.T l0_3)], .agg [.int .i64 a1_0, .imm (.I .i64 l1_1)]] [] = ((impl_AutomatonValid.f k a0_0 l0_1 l0_2 l0_3).bind fun t1 => (if t1 = true then ((impl_GradesValid.f k a1_0 l1_1).bind fun t2 => (if t2 = true then (if a1_0 = a0_0 then (impl_GradeBetween.x0 k 3 l0_1 (l0_1.length : Int) 0 a0_0 l0_1 l0_2 l0_3 a1_0 l1_1) else (some (impl_GradeBetween.en (-1)))) else (some (impl_GradeBetween.en (-1))))) else (some (impl_GradeBetween.en (-1))))) := by kernel_rfl
theorem impl_GradeBetween.link : ∀ k, (∀ (x5 : Int) (x26 : List Int) (x27 : Int) (x28 : Int) (y0_0 : Int) (y0_1 : List Int) (y0_2 : List Int) (y0_3 : List Stp) (y1_0 : Int) (y1_1 : List Int), impl_GradeBetween.x0 k x5 x26 x27 x28 y0_0 y0_1 y0_2 y0_3 y1_0 y1_1 = (impl_GradeBetween.l0 k x5 x26 x27 x28 y0_0 y0_1 y0_2 y0_3 y1_0 y1_1).map (impl_GradeBetween.en)) ∧ (∀ (x5 : Int) (x7 : Int) (x26 : List Int) (x27 : Int) (x28 : Int) (x33 : List Int) (x34 : Int) (x35 : Int) (y0_0 : Int) (y0_1 : List Int) (y0_2 : List Int) (y0_3 : List Stp) (y1_0 : Int) (y1_1 : List Int), impl_GradeBetween.x1 k x5 x7 x26 x27 x28 x33 x34 x35 y0_0 y0_1 y0_2 y0_3 y1_0 y1_1 = (impl_GradeBetween.l1 k x5 x7 x26 x27 x28 x33 x34 x35 y0_0 y0_1 y0_2 y0_3 y1_0 y1_1).map (impl_GradeBetween.en))
  | 0 => ⟨fun _ _ _ _ _ _ _ _ _ _ => by simp only [impl_GradeBetween.l0, R.map_none]; rfl, fun _ _ _ _ _ _ _ _ _ _ _ _ _ _ => by simp only [impl_GradeBetween.l1, R.map_none]; rfl⟩
  | k + 1 => by
    obtain ⟨ih0, ih1⟩ := impl_GradeBetween.link k
    refine ⟨?_, ?_⟩
    · intro x5 x26 x27 x28 y0_0 y0_1 y0_2 y0_3 y1_0 y1_1
      rw [impl_GradeBetween.e0]
      simp only [impl_GradeBetween.l0, R.map_ite, R.map_bind, R.map_none, R.map_some, R.wr64_eq, ← ih0, ← ih1]
    · intro x5 x7 x26 x27 x28 x33 x34 x35 y0_0 y0_1 y0_2 y0_3 y1_0 y1_1
      rw [impl_GradeBetween.e1]
      simp only [impl_GradeBetween.l1, R.map_ite, R.map_bind, R.map_none, R.map_some, R.wr64_eq, ← ih0, ← ih1]
theorem impl_GradeBetween.sf (k : Nat) (a0_0 : Int) (l0_1 : List Int) (l0_2 : List Int) (l0_3 : List Stp) (a1_0 : Int) (l1_1 : List Int) : R.start Tryz.prog xhn impl_GradeBetween.O 0 Tryz.f44 impl_GradeBetween.fh k [.agg [.int .i64 a0_0, .imm (.I .i64 l0_1), .imm (.I .i64 l0_2), .imm (.T l0_3)], .agg [.int .i64 a1_0, .imm (.I .i64 l1_1)]] [] = (impl_GradeBetween.f k a0_0 l0_1 l0_2 l0_3 a1_0 l1_1).map (impl_GradeBetween.en) := by
  obtain ⟨ih0, ih1⟩ := impl_GradeBetween.link k
  rw [impl_GradeBetween.ef]
  simp only [impl_GradeBetween.f, R.map_ite, R.map_bind, R.map_none, R.map_some, R.wr64_eq, ← ih0, ← ih1]
theorem impl_GradeBetween.ok (k : Nat) : impl_GradeBetween.tw.Ok Tryz.prog k := by
  intro md hmd a r h
  refine fn_ok (H := xhn) (fh := impl_GradeBetween.fh) (O := impl_GradeBetween.O) (k := k) Tryz.func44 (by kernel_rfl) (by kernel_rfl) (fun j _ => (Tw.orc_sound impl_AutomatonValid.dok (impl_AutomatonValid.ok j) (fun _ => rfl) (Tw.orc_sound impl_GradesValid.dok (impl_GradesValid.ok j) (fun _ => rfl) (Tw.orc_sound impl_Matrix_at.dok (impl_Matrix_at.ok j) (fun _ => rfl) noO_sound)))) (by kernel_rfl) (m := 0) rfl ?_
  refine (impl_GradeBetween.sf k a.1 a.2.1 a.2.2.1 a.2.2.2.1 a.2.2.2.2.1 a.2.2.2.2.2).trans ?_
  exact congrArg (Option.map _) h
def impl_GradeOf.f (k : Nat) (a0_0 : Int) (l0_1 : List Int) (l0_2 : List Int) (l0_3 : List Stp) (a1 : ByteArray) : Option (Int) := ((impl_ValueOf.f k a0_0 l0_1 l0_2 l0_3 a1).bind fun t1 => (if t1.2.2 = true then ((impl_GradeBetween.f k a0_0 l0_1 l0_2 l0_3 t1.1 t1.2.1).bind fun t2 => (some t2)) else (some (-1))))
def impl_GradeOf.en (r : Int) : Res := (.int .i64 r, [])
def impl_GradeOf.dec : List AV → List R.Obj → Option (Int × (List Int) × (List Int) × (List Stp) × ByteArray)
  | [.agg [.int .i64 a0_0, .imm (.I .i64 l0_1), .imm (.I .i64 l0_2), .imm (.T l0_3)], .str a1], [] => some (a0_0, l0_1, l0_2, l0_3, a1)
  | _, _ => none
def impl_GradeOf.tw : Tw := ⟨17, Int × (List Int) × (List Int) × (List Stp) × ByteArray, Int, impl_GradeOf.dec, fun a => [.agg [.int .i64 a.1, .imm (.I .i64 a.2.1), .imm (.I .i64 a.2.2.1), .imm (.T a.2.2.2.1)], .str a.2.2.2.2], fun a => [], fun k a => impl_GradeOf.f k a.1 a.2.1 a.2.2.1 a.2.2.2.1 a.2.2.2.2, fun a r => impl_GradeOf.en r, true⟩
theorem impl_GradeOf.dok : impl_GradeOf.tw.DecOk := by
  intro args hc a h
  have h : impl_GradeOf.dec args hc = some a := h
  unfold impl_GradeOf.dec at h
  split at h
  · cases h; exact ⟨rfl, rfl⟩
  · cases h
noncomputable def impl_GradeOf.O (k : Nat) : Oracle := (impl_ValueOf.tw.orc k (impl_GradeBetween.tw.orc k noO))
def impl_GradeOf.fh : FH := ⟨fun i => match i with | _ => none, [], false⟩
set_option maxRecDepth 100000 in
theorem impl_GradeOf.ef (k : Nat) (a0_0 : Int) (l0_1 : List Int) (l0_2 : List Int) (l0_3 : List Stp) (a1 : ByteArray) : R.start Tryz.prog xhn impl_GradeOf.O 0 Tryz.f17 impl_GradeOf.fh k [.agg [.int .i64 a0_0, .imm (.I .i64 l0_1), .imm (.I .i64 l0_2), .imm (.T l0_3)], .str a1] [] = ((impl_ValueOf.f k a0_0 l0_1 l0_2 l0_3 a1).bind fun t1 => (if t1.2.2 = true then ((impl_GradeBetween.f k a0_0 l0_1 l0_2 l0_3 t1.1 t1.2.1).bind fun t2 => (some (impl_GradeOf.en t2))) else (some (impl_GradeOf.en (-1))))) := by kernel_rfl
theorem impl_GradeOf.sf (k : Nat) (a0_0 : Int) (l0_1 : List Int) (l0_2 : List Int) (l0_3 : List Stp) (a1 : ByteArray) : R.start Tryz.prog xhn impl_GradeOf.O 0 Tryz.f17 impl_GradeOf.fh k [.agg [.int .i64 a0_0, .imm (.I .i64 l0_1), .imm (.I .i64 l0_2), .imm (.T l0_3)], .str a1] [] = (impl_GradeOf.f k a0_0 l0_1 l0_2 l0_3 a1).map (impl_GradeOf.en) := by
  rw [impl_GradeOf.ef]
  simp only [impl_GradeOf.f, R.map_ite, R.map_bind, R.map_none, R.map_some, R.wr64_eq]
theorem impl_GradeOf.ok (k : Nat) : impl_GradeOf.tw.Ok Tryz.prog k := by
  intro md hmd a r h
  refine fn_ok (H := xhn) (fh := impl_GradeOf.fh) (O := impl_GradeOf.O) (k := k) Tryz.func17 (by kernel_rfl) (by kernel_rfl) (fun j _ => (Tw.orc_sound impl_ValueOf.dok (impl_ValueOf.ok j) (fun _ => rfl) (Tw.orc_sound impl_GradeBetween.dok (impl_GradeBetween.ok j) (fun _ => rfl) noO_sound))) (by kernel_rfl) (m := 0) rfl ?_
  refine (impl_GradeOf.sf k a.1 a.2.1 a.2.2.1 a.2.2.2.1 a.2.2.2.2).trans ?_
  exact congrArg (Option.map _) h
def laws_daSame.l0 : Nat → (List Int) → (List Int) → Int → Int → Option (Bool)
  | 0, _, _, _, _ => none
  | k + 1, x0, x1, x10, x11 => (if x11 < x10 then (if 0 ≤ x11 then (if x11 < (x0.length : Int) then (if x11 < (x1.length : Int) then (if (rdI x0 x11) = (rdI x1 x11) then (laws_daSame.l0 k x0 x1 x10 (wrap64 (x11 + 1))) else (some false)) else none) else none) else none) else (some (decide ((x0.length : Int) = (x1.length : Int)))))
def laws_daSame.f (k : Nat) (l0 : List Int) (l1 : List Int) : Option (Bool) := (laws_daSame.l0 k l0 l1 (mn (l0.length : Int) (l1.length : Int)) 0)
def laws_daSame.en (r : Bool) : Res := (.lit r, [])
def laws_daSame.dec : List AV → List R.Obj → Option ((List Int) × (List Int))
  | [.imm (.I .i64 l0), .imm (.I .i64 l1)], [] => some (l0, l1)
  | _, _ => none
def laws_daSame.tw : Tw := ⟨18, (List Int) × (List Int), Bool, laws_daSame.dec, fun a => [.imm (.I .i64 a.1), .imm (.I .i64 a.2)], fun a => [], fun k a => laws_daSame.f k a.1 a.2, fun a r => laws_daSame.en r, true⟩
theorem laws_daSame.dok : laws_daSame.tw.DecOk := by
  intro args hc a h
  have h : laws_daSame.dec args hc = some a := h
  unfold laws_daSame.dec at h
  split at h
  · cases h; exact ⟨rfl, rfl⟩
  · cases h
noncomputable def laws_daSame.O (k : Nat) : Oracle := noO
def laws_daSame.fh : FH := ⟨fun i => match i with | 2 => some [(0, 0), (1, 0), (10, 0), (11, 0)] | _ => none, [], false⟩
noncomputable def laws_daSame.x0 (k : Nat) (x0 : List Int) (x1 : List Int) (x10 : Int) (x11 : Int) : Option Res := R.exec Tryz.prog xhn laws_daSame.O 0 Tryz.f18 laws_daSame.fh k (R.point Tryz.f18 2) ⟨[(0, .imm (.I .i64 x0)), (1, .imm (.I .i64 x1)), (10, .int .i64 x10), (11, .int .i64 x11)], [], 2⟩
set_option maxRecDepth 100000 in
theorem laws_daSame.e0 (k : Nat) (x0 : List Int) (x1 : List Int) (x10 : Int) (x11 : Int) : laws_daSame.x0 (k + 1) x0 x1 x10 x11 = (if x11 < x10 then (if 0 ≤ x11 then (if x11 < (x0.length : Int) then (if x11 < (x1.length : Int) then (if (rdI x0 x11) = (rdI x1 x11) then (laws_daSame.x0 k x0 x1 x10 (wr64 (x11 + 1))) else (some (laws_daSame.en false))) else none) else none) else none) else (some (laws_daSame.en (decide ((x0.length : Int) = (x1.length : Int)))))) := by
  refine Eq.trans ?_ (R.icong (fun h0 => (R.icong (fun h1 => (R.icong (fun h2 => (R.idropT (p := 0 ≤ x11) (z := none) h1 rfl)) (fun h2 => rfl))) (fun h1 => rfl))) (fun h0 => rfl))
  kernel_rfl
set_option maxRecDepth 100000 in
theorem laws_daSame.ef (k : Nat) (l0 : List Int) (l1 : List Int) : R.start Tryz.prog xhn laws_daSame.O 0 Tryz.f18 laws_daSame.fh k [.imm (.I .i64 l0), .imm (.I .i64 l1)] [] = (laws_daSame.x0 k l0 l1 (mn (l0.length : Int) (l1.length : Int)) 0) := by kernel_rfl
theorem laws_daSame.link : ∀ k, (∀ (x0 : List Int) (x1 : List Int) (x10 : Int) (x11 : Int), laws_daSame.x0 k x0 x1 x10 x11 = (laws_daSame.l0 k x0 x1 x10 x11).map (laws_daSame.en))
  | 0 => fun _ _ _ _ => by simp only [laws_daSame.l0, R.map_none]; rfl
  | k + 1 => by
    have ih0 := laws_daSame.link k
    · intro x0 x1 x10 x11
      rw [laws_daSame.e0]
      simp only [laws_daSame.l0, R.map_ite, R.map_bind, R.map_none, R.map_some, R.wr64_eq, ← ih0]
theorem laws_daSame.sf (k : Nat) (l0 : List Int) (l1 : List Int) : R.start Tryz.prog xhn laws_daSame.O 0 Tryz.f18 laws_daSame.fh k [.imm (.I .i64 l0), .imm (.I .i64 l1)] [] = (laws_daSame.f k l0 l1).map (laws_daSame.en) := by
  have ih0 := laws_daSame.link k
  rw [laws_daSame.ef]
  simp only [laws_daSame.f, R.map_ite, R.map_bind, R.map_none, R.map_some, R.wr64_eq, ← ih0]
theorem laws_daSame.ok (k : Nat) : laws_daSame.tw.Ok Tryz.prog k := by
  intro md hmd a r h
  refine fn_ok (H := xhn) (fh := laws_daSame.fh) (O := laws_daSame.O) (k := k) Tryz.func18 (by kernel_rfl) (by kernel_rfl) (fun j _ => noO_sound) (by kernel_rfl) (m := 0) rfl ?_
  refine (laws_daSame.sf k a.1 a.2).trans ?_
  exact congrArg (Option.map _) h
mutual
def spec_l6Between.l0 : Nat → Int → (List Int) → Int → Int → Int → (List Int) → (List Int) → (List Stp) → Int → (List Int) → Option (Int)
  | 0, _, _, _, _, _, _, _, _, _, _ => none
  | k + 1, x5, x11, x12, x13, y0_0, y0_1, y0_2, y0_3, y1_0, y1_1 => (if x13 < x12 then (if 0 ≤ x13 then (if x13 < (x11.length : Int) then (spec_l6Between.l1 k x5 (rdI x11 x13) x11 x12 x13 y0_2 (y0_2.length : Int) 0 y0_0 y0_1 y0_2 y0_3 y1_0 y1_1) else none) else none) else (some x5))
def spec_l6Between.l1 : Nat → Int → Int → (List Int) → Int → Int → (List Int) → Int → Int → Int → (List Int) → (List Int) → (List Stp) → Int → (List Int) → Option (Int)
  | 0, _, _, _, _, _, _, _, _, _, _, _, _, _, _ => none
  | k + 1, x5, x7, x11, x12, x13, x18, x19, x20, y0_0, y0_1, y0_2, y0_3, y1_0, y1_1 => (if x20 < x19 then (if 0 ≤ x20 then (if x20 < (x18.length : Int) then (if 0 ≤ (wrap64 ((wrap64 (x7 * y0_0)) + (rdI x18 x20))) then (if (wrap64 ((wrap64 (x7 * y0_0)) + (rdI x18 x20))) < (y1_1.length : Int) then (spec_l6Between.l1 k (mn x5 (rdI y1_1 (wrap64 ((wrap64 (x7 * y0_0)) + (rdI x18 x20))))) x7 x11 x12 x13 x18 x19 (wrap64 (x20 + 1)) y0_0 y0_1 y0_2 y0_3 y1_0 y1_1) else none) else none) else none) else none) else (spec_l6Between.l0 k x5 x11 x12 (wrap64 (x13 + 1)) y0_0 y0_1 y0_2 y0_3 y1_0 y1_1))
end
def spec_l6Between.f (k : Nat) (a0_0 : Int) (l0_1 : List Int) (l0_2 : List Int) (l0_3 : List Stp) (a1_0 : Int) (l1_1 : List Int) : Option (Int) := (spec_l6Between.l0 k 3 l0_1 (l0_1.length : Int) 0 a0_0 l0_1 l0_2 l0_3 a1_0 l1_1)
def spec_l6Between.en (r : Int) : Res := (.int .i64 r, [])
def spec_l6Between.dec : List AV → List R.Obj → Option (Int × (List Int) × (List Int) × (List Stp) × Int × (List Int))
  | [.agg [.int .i64 a0_0, .imm (.I .i64 l0_1), .imm (.I .i64 l0_2), .imm (.T l0_3)], .agg [.int .i64 a1_0, .imm (.I .i64 l1_1)]], [] => some (a0_0, l0_1, l0_2, l0_3, a1_0, l1_1)
  | _, _ => none
def spec_l6Between.tw : Tw := ⟨45, Int × (List Int) × (List Int) × (List Stp) × Int × (List Int), Int, spec_l6Between.dec, fun a => [.agg [.int .i64 a.1, .imm (.I .i64 a.2.1), .imm (.I .i64 a.2.2.1), .imm (.T a.2.2.2.1)], .agg [.int .i64 a.2.2.2.2.1, .imm (.I .i64 a.2.2.2.2.2)]], fun a => [], fun k a => spec_l6Between.f k a.1 a.2.1 a.2.2.1 a.2.2.2.1 a.2.2.2.2.1 a.2.2.2.2.2, fun a r => spec_l6Between.en r, true⟩
theorem spec_l6Between.dok : spec_l6Between.tw.DecOk := by
  intro args hc a h
  have h : spec_l6Between.dec args hc = some a := h
  unfold spec_l6Between.dec at h
  split at h
  · cases h; exact ⟨rfl, rfl⟩
  · cases h
noncomputable def spec_l6Between.O (k : Nat) : Oracle := noO
def spec_l6Between.fh : FH := ⟨fun i => match i with | 3 => some [(2, 0), (3, 0), (5, 0), (11, 0), (12, 0), (13, 0)] | 6 => some [(2, 0), (3, 0), (5, 0), (7, 0), (11, 0), (12, 0), (13, 0), (18, 0), (19, 0), (20, 0)] | _ => none, [], false⟩
noncomputable def spec_l6Between.x0 (k : Nat) (x5 : Int) (x11 : List Int) (x12 : Int) (x13 : Int) (y0_0 : Int) (y0_1 : List Int) (y0_2 : List Int) (y0_3 : List Stp) (y1_0 : Int) (y1_1 : List Int) : Option Res := R.exec Tryz.prog xhn spec_l6Between.O 0 Tryz.f45 spec_l6Between.fh k (R.point Tryz.f45 3) ⟨[(2, .ptr 0 0), (3, .ptr 1 0), (5, .int .i64 x5), (11, .imm (.I .i64 x11)), (12, .int .i64 x12), (13, .int .i64 x13)], [(0, .box false [.int .i64 y0_0, .imm (.I .i64 y0_1), .imm (.I .i64 y0_2), .imm (.T y0_3)]), (1, .box false [.int .i64 y1_0, .imm (.I .i64 y1_1)])], 4⟩
noncomputable def spec_l6Between.x1 (k : Nat) (x5 : Int) (x7 : Int) (x11 : List Int) (x12 : Int) (x13 : Int) (x18 : List Int) (x19 : Int) (x20 : Int) (y0_0 : Int) (y0_1 : List Int) (y0_2 : List Int) (y0_3 : List Stp) (y1_0 : Int) (y1_1 : List Int) : Option Res := R.exec Tryz.prog xhn spec_l6Between.O 0 Tryz.f45 spec_l6Between.fh k (R.point Tryz.f45 6) ⟨[(2, .ptr 0 0), (3, .ptr 1 0), (5, .int .i64 x5), (7, .int .i64 x7), (11, .imm (.I .i64 x11)), (12, .int .i64 x12), (13, .int .i64 x13), (18, .imm (.I .i64 x18)), (19, .int .i64 x19), (20, .int .i64 x20)], [(0, .box false [.int .i64 y0_0, .imm (.I .i64 y0_1), .imm (.I .i64 y0_2), .imm (.T y0_3)]), (1, .box false [.int .i64 y1_0, .imm (.I .i64 y1_1)])], 4⟩
set_option maxRecDepth 100000 in
theorem spec_l6Between.e0 (k : Nat) (x5 : Int) (x11 : List Int) (x12 : Int) (x13 : Int) (y0_0 : Int) (y0_1 : List Int) (y0_2 : List Int) (y0_3 : List Stp) (y1_0 : Int) (y1_1 : List Int) : spec_l6Between.x0 (k + 1) x5 x11 x12 x13 y0_0 y0_1 y0_2 y0_3 y1_0 y1_1 = (if x13 < x12 then (if 0 ≤ x13 then (if x13 < (x11.length : Int) then (spec_l6Between.x1 k x5 (rdI x11 x13) x11 x12 x13 y0_2 (y0_2.length : Int) 0 y0_0 y0_1 y0_2 y0_3 y1_0 y1_1) else none) else none) else (some (spec_l6Between.en x5))) := by kernel_rfl
set_option maxRecDepth 100000 in
theorem spec_l6Between.e1 (k : Nat) (x5 : Int) (x7 : Int) (x11 : List Int) (x12 : Int) (x13 : Int) (x18 : List Int) (x19 : Int) (x20 : Int) (y0_0 : Int) (y0_1 : List Int) (y0_2 : List Int) (y0_3 : List Stp) (y1_0 : Int) (y1_1 : List Int) : spec_l6Between.x1 (k + 1) x5 x7 x11 x12 x13 x18 x19 x20 y0_0 y0_1 y0_2 y0_3 y1_0 y1_1 = (if x20 < x19 then (if 0 ≤ x20 then (if x20 < (x18.length : Int) then (if 0 ≤ (wr64 ((wr64 (x7 * y0_0)) + (rdI x18 x20))) then (if (wr64 ((wr64 (x7 * y0_0)) + (rdI x18 x20))) < (y1_1.length : Int) then (spec_l6Between.x1 k (mn x5 (rdI y1_1 (wr64 ((wr64 (x7 * y0_0)) + (rdI x18 x20))))) x7 x11 x12 x13 x18 x19 (wr64 (x20 + 1)) y0_0 y0_1 y0_2 y0_3 y1_0 y1_1) else none) else none) else none) else none) else (spec_l6Between.x0 k x5 x11 x12 (wr64 (x13 + 1)) y0_0 y0_1 y0_2 y0_3 y1_0 y1_1)) := by kernel_rfl
set_option maxRecDepth 100000 in
theorem spec_l6Between.ef (k : Nat) (a0_0 : Int) (l0_1 : List Int) (l0_2 : List Int) (l0_3 : List Stp) (a1_0 : Int) (l1_1 : List Int) : R.start Tryz.prog xhn spec_l6Between.O 0 Tryz.f45 spec_l6Between.fh k [.agg [.int .i64 a0_0, .imm (.I .i64 l0_1), .imm (.I .i64 l0_2), .imm (.T l0_3)], .agg [.int .i64 a1_0, .imm (.I .i64 l1_1)]] [] = (spec_l6Between.x0 k 3 l0_1 (l0_1.length : Int) 0 a0_0 l0_1 l0_2 l0_3 a1_0 l1_1) := by kernel_rfl
theorem spec_l6Between.link : ∀ k, (∀ (x5 : Int) (x11 : List Int) (x12 : Int) (x13 : Int) (y0_0 : Int) (y0_1 : List Int) (y0_2 : List Int) (y0_3 : List Stp) (y1_0 : Int) (y1_1 : List Int), spec_l6Between.x0 k x5 x11 x12 x13 y0_0 y0_1 y0_2 y0_3 y1_0 y1_1 = (spec_l6Between.l0 k x5 x11 x12 x13 y0_0 y0_1 y0_2 y0_3 y1_0 y1_1).map (spec_l6Between.en)) ∧ (∀ (x5 : Int) (x7 : Int) (x11 : List Int) (x12 : Int) (x13 : Int) (x18 : List Int) (x19 : Int) (x20 : Int) (y0_0 : Int) (y0_1 : List Int) (y0_2 : List Int) (y0_3 : List Stp) (y1_0 : Int) (y1_1 : List Int), spec_l6Between.x1 k x5 x7 x11 x12 x13 x18 x19 x20 y0_0 y0_1 y0_2 y0_3 y1_0 y1_1 = (spec_l6Between.l1 k x5 x7 x11 x12 x13 x18 x19 x20 y0_0 y0_1 y0_2 y0_3 y1_0 y1_1).map (spec_l6Between.en))
  | 0 => ⟨fun _ _ _ _ _ _ _ _ _ _ => by simp only [spec_l6Between.l0, R.map_none]; rfl, fun _ _ _ _ _ _ _ _ _ _ _ _ _ _ => by simp only [spec_l6Between.l1, R.map_none]; rfl⟩
  | k + 1 => by
    obtain ⟨ih0, ih1⟩ := spec_l6Between.link k
    refine ⟨?_, ?_⟩
    · intro x5 x11 x12 x13 y0_0 y0_1 y0_2 y0_3 y1_0 y1_1
      rw [spec_l6Between.e0]
      simp only [spec_l6Between.l0, R.map_ite, R.map_bind, R.map_none, R.map_some, R.wr64_eq, ← ih0, ← ih1]
    · intro x5 x7 x11 x12 x13 x18 x19 x20 y0_0 y0_1 y0_2 y0_3 y1_0 y1_1
      rw [spec_l6Between.e1]
      simp only [spec_l6Between.l1, R.map_ite, R.map_bind, R.map_none, R.map_some, R.wr64_eq, ← ih0, ← ih1]
theorem spec_l6Between.sf (k : Nat) (a0_0 : Int) (l0_1 : List Int) (l0_2 : List Int) (l0_3 : List Stp) (a1_0 : Int) (l1_1 : List Int) : R.start Tryz.prog xhn spec_l6Between.O 0 Tryz.f45 spec_l6Between.fh k [.agg [.int .i64 a0_0, .imm (.I .i64 l0_1), .imm (.I .i64 l0_2), .imm (.T l0_3)], .agg [.int .i64 a1_0, .imm (.I .i64 l1_1)]] [] = (spec_l6Between.f k a0_0 l0_1 l0_2 l0_3 a1_0 l1_1).map (spec_l6Between.en) := by
  obtain ⟨ih0, ih1⟩ := spec_l6Between.link k
  rw [spec_l6Between.ef]
  simp only [spec_l6Between.f, R.map_ite, R.map_bind, R.map_none, R.map_some, R.wr64_eq, ← ih0, ← ih1]
theorem spec_l6Between.ok (k : Nat) : spec_l6Between.tw.Ok Tryz.prog k := by
  intro md hmd a r h
  refine fn_ok (H := xhn) (fh := spec_l6Between.fh) (O := spec_l6Between.O) (k := k) Tryz.func45 (by kernel_rfl) (by kernel_rfl) (fun j _ => noO_sound) (by kernel_rfl) (m := 0) rfl ?_
  refine (spec_l6Between.sf k a.1 a.2.1 a.2.2.1 a.2.2.2.1 a.2.2.2.2.1 a.2.2.2.2.2).trans ?_
  exact congrArg (Option.map _) h
def spec_GradeOf.f (k : Nat) (a0_0 : Int) (l0_1 : List Int) (l0_2 : List Int) (l0_3 : List Stp) (a1 : ByteArray) : Option (Int) := ((spec_ValueOf.f k a0_0 l0_1 l0_2 l0_3 a1).bind fun t1 => (if t1.2.2 = true then ((spec_l6Between.f k a0_0 l0_1 l0_2 l0_3 t1.1 t1.2.1).bind fun t2 => (some t2)) else (some (-1))))
def spec_GradeOf.en (r : Int) : Res := (.int .i64 r, [])
def spec_GradeOf.dec : List AV → List R.Obj → Option (Int × (List Int) × (List Int) × (List Stp) × ByteArray)
  | [.agg [.int .i64 a0_0, .imm (.I .i64 l0_1), .imm (.I .i64 l0_2), .imm (.T l0_3)], .str a1], [] => some (a0_0, l0_1, l0_2, l0_3, a1)
  | _, _ => none
def spec_GradeOf.tw : Tw := ⟨19, Int × (List Int) × (List Int) × (List Stp) × ByteArray, Int, spec_GradeOf.dec, fun a => [.agg [.int .i64 a.1, .imm (.I .i64 a.2.1), .imm (.I .i64 a.2.2.1), .imm (.T a.2.2.2.1)], .str a.2.2.2.2], fun a => [], fun k a => spec_GradeOf.f k a.1 a.2.1 a.2.2.1 a.2.2.2.1 a.2.2.2.2, fun a r => spec_GradeOf.en r, true⟩
theorem spec_GradeOf.dok : spec_GradeOf.tw.DecOk := by
  intro args hc a h
  have h : spec_GradeOf.dec args hc = some a := h
  unfold spec_GradeOf.dec at h
  split at h
  · cases h; exact ⟨rfl, rfl⟩
  · cases h
noncomputable def spec_GradeOf.O (k : Nat) : Oracle := (spec_ValueOf.tw.orc k (spec_l6Between.tw.orc k noO))
def spec_GradeOf.fh : FH := ⟨fun i => match i with | _ => none, [], false⟩
set_option maxRecDepth 100000 in
theorem spec_GradeOf.ef (k : Nat) (a0_0 : Int) (l0_1 : List Int) (l0_2 : List Int) (l0_3 : List Stp) (a1 : ByteArray) : R.start Tryz.prog xhn spec_GradeOf.O 0 Tryz.f19 spec_GradeOf.fh k [.agg [.int .i64 a0_0, .imm (.I .i64 l0_1), .imm (.I .i64 l0_2), .imm (.T l0_3)], .str a1] [] = ((spec_ValueOf.f k a0_0 l0_1 l0_2 l0_3 a1).bind fun t1 => (if t1.2.2 = true then ((spec_l6Between.f k a0_0 l0_1 l0_2 l0_3 t1.1 t1.2.1).bind fun t2 => (some (spec_GradeOf.en t2))) else (some (spec_GradeOf.en (-1))))) := by kernel_rfl
theorem spec_GradeOf.sf (k : Nat) (a0_0 : Int) (l0_1 : List Int) (l0_2 : List Int) (l0_3 : List Stp) (a1 : ByteArray) : R.start Tryz.prog xhn spec_GradeOf.O 0 Tryz.f19 spec_GradeOf.fh k [.agg [.int .i64 a0_0, .imm (.I .i64 l0_1), .imm (.I .i64 l0_2), .imm (.T l0_3)], .str a1] [] = (spec_GradeOf.f k a0_0 l0_1 l0_2 l0_3 a1).map (spec_GradeOf.en) := by
  rw [spec_GradeOf.ef]
  simp only [spec_GradeOf.f, R.map_ite, R.map_bind, R.map_none, R.map_some, R.wr64_eq]
theorem spec_GradeOf.ok (k : Nat) : spec_GradeOf.tw.Ok Tryz.prog k := by
  intro md hmd a r h
  refine fn_ok (H := xhn) (fh := spec_GradeOf.fh) (O := spec_GradeOf.O) (k := k) Tryz.func19 (by kernel_rfl) (by kernel_rfl) (fun j _ => (Tw.orc_sound spec_ValueOf.dok (spec_ValueOf.ok j) (fun _ => rfl) (Tw.orc_sound spec_l6Between.dok (spec_l6Between.ok j) (fun _ => rfl) noO_sound))) (by kernel_rfl) (m := 0) rfl ?_
  refine (spec_GradeOf.sf k a.1 a.2.1 a.2.2.1 a.2.2.2.1 a.2.2.2.2).trans ?_
  exact congrArg (Option.map _) h
def impl_AddCost.f (a0 : Int) (a1 : Int) : Option (Int) := ((impl_CostValid.f a0).bind fun t1 => (if t1 = true then ((impl_CostValid.f a1).bind fun t2 => (if t2 = true then (some (mn (wrap64 (a0 + a1)) 1000000)) else (some (-1)))) else (some (-1))))
def impl_AddCost.en (r : Int) : Res := (.int .i64 r, [])
def impl_AddCost.dec : List AV → List R.Obj → Option (Int × Int)
  | [.int .i64 a0, .int .i64 a1], [] => some (a0, a1)
  | _, _ => none
def impl_AddCost.tw : Tw := ⟨74, Int × Int, Int, impl_AddCost.dec, fun a => [.int .i64 a.1, .int .i64 a.2], fun a => [], fun k a => impl_AddCost.f a.1 a.2, fun a r => impl_AddCost.en r, true⟩
theorem impl_AddCost.dok : impl_AddCost.tw.DecOk := by
  intro args hc a h
  have h : impl_AddCost.dec args hc = some a := h
  unfold impl_AddCost.dec at h
  split at h
  · cases h; exact ⟨rfl, rfl⟩
  · cases h
noncomputable def impl_AddCost.O (k : Nat) : Oracle := (impl_CostValid.tw.orc k noO)
def impl_AddCost.fh : FH := ⟨fun i => match i with | _ => none, [], false⟩
set_option maxRecDepth 100000 in
theorem impl_AddCost.ef (k : Nat) (a0 : Int) (a1 : Int) : R.start Tryz.prog xhn impl_AddCost.O 0 Tryz.f74 impl_AddCost.fh k [.int .i64 a0, .int .i64 a1] [] = ((impl_CostValid.f a0).bind fun t1 => (if t1 = true then ((impl_CostValid.f a1).bind fun t2 => (if t2 = true then (some (impl_AddCost.en (mn (wr64 (a0 + a1)) 1000000))) else (some (impl_AddCost.en (-1))))) else (some (impl_AddCost.en (-1))))) := by kernel_rfl
theorem impl_AddCost.sf (k : Nat) (a0 : Int) (a1 : Int) : R.start Tryz.prog xhn impl_AddCost.O 0 Tryz.f74 impl_AddCost.fh k [.int .i64 a0, .int .i64 a1] [] = (impl_AddCost.f a0 a1).map (impl_AddCost.en) := by
  rw [impl_AddCost.ef]
  simp only [impl_AddCost.f, R.map_ite, R.map_bind, R.map_none, R.map_some, R.wr64_eq]
theorem impl_AddCost.ok (k : Nat) : impl_AddCost.tw.Ok Tryz.prog k := by
  intro md hmd a r h
  refine fn_ok (H := xhn) (fh := impl_AddCost.fh) (O := impl_AddCost.O) (k := k) Tryz.func74 (by kernel_rfl) (by kernel_rfl) (fun j _ => (Tw.orc_sound impl_CostValid.dok (impl_CostValid.ok j) (fun _ => rfl) noO_sound)) (by kernel_rfl) (m := 0) rfl ?_
  refine (impl_AddCost.sf k a.1 a.2).trans ?_
  exact congrArg (Option.map _) h
def impl_times.f (a0 : Int) (a1 : Int) : Option (Int) := (if a1 = 0 then none else (if a0 > (wrap64 ((1000000 : Int).tdiv a1)) then (some 1000000) else (some (wrap64 (a0 * a1)))))
def impl_times.en (r : Int) : Res := (.int .i64 r, [])
def impl_times.dec : List AV → List R.Obj → Option (Int × Int)
  | [.int .i64 a0, .int .i64 a1], [] => some (a0, a1)
  | _, _ => none
def impl_times.tw : Tw := ⟨104, Int × Int, Int, impl_times.dec, fun a => [.int .i64 a.1, .int .i64 a.2], fun a => [], fun k a => impl_times.f a.1 a.2, fun a r => impl_times.en r, true⟩
theorem impl_times.dok : impl_times.tw.DecOk := by
  intro args hc a h
  have h : impl_times.dec args hc = some a := h
  unfold impl_times.dec at h
  split at h
  · cases h; exact ⟨rfl, rfl⟩
  · cases h
noncomputable def impl_times.O (k : Nat) : Oracle := noO
def impl_times.fh : FH := ⟨fun i => match i with | _ => none, [], false⟩
set_option maxRecDepth 100000 in
theorem impl_times.ef (k : Nat) (a0 : Int) (a1 : Int) : R.start Tryz.prog xhn impl_times.O 0 Tryz.f104 impl_times.fh k [.int .i64 a0, .int .i64 a1] [] = (if a1 = 0 then none else (if a0 > (wr64 ((1000000 : Int).tdiv a1)) then (some (impl_times.en 1000000)) else (some (impl_times.en (wr64 (a0 * a1)))))) := by kernel_rfl
theorem impl_times.sf (k : Nat) (a0 : Int) (a1 : Int) : R.start Tryz.prog xhn impl_times.O 0 Tryz.f104 impl_times.fh k [.int .i64 a0, .int .i64 a1] [] = (impl_times.f a0 a1).map (impl_times.en) := by
  rw [impl_times.ef]
  simp only [impl_times.f, R.map_ite, R.map_bind, R.map_none, R.map_some, R.wr64_eq]
theorem impl_times.ok (k : Nat) : impl_times.tw.Ok Tryz.prog k := by
  intro md hmd a r h
  refine fn_ok (H := xhn) (fh := impl_times.fh) (O := impl_times.O) (k := k) Tryz.func104 (by kernel_rfl) (by kernel_rfl) (fun j _ => noO_sound) (by kernel_rfl) (m := 0) rfl ?_
  refine (impl_times.sf k a.1 a.2).trans ?_
  exact congrArg (Option.map _) h
def impl_TimesCost.f (a0 : Int) (a1 : Int) : Option (Int) := (if a0 < 0 then (some (-1)) else ((impl_CostValid.f a1).bind fun t1 => (if t1 = true then (if a1 = 0 then (some 0) else ((impl_times.f a0 a1).bind fun t2 => (some t2))) else (some (-1)))))
def impl_TimesCost.en (r : Int) : Res := (.int .i64 r, [])
def impl_TimesCost.dec : List AV → List R.Obj → Option (Int × Int)
  | [.int .i64 a0, .int .i64 a1], [] => some (a0, a1)
  | _, _ => none
def impl_TimesCost.tw : Tw := ⟨76, Int × Int, Int, impl_TimesCost.dec, fun a => [.int .i64 a.1, .int .i64 a.2], fun a => [], fun k a => impl_TimesCost.f a.1 a.2, fun a r => impl_TimesCost.en r, true⟩
theorem impl_TimesCost.dok : impl_TimesCost.tw.DecOk := by
  intro args hc a h
  have h : impl_TimesCost.dec args hc = some a := h
  unfold impl_TimesCost.dec at h
  split at h
  · cases h; exact ⟨rfl, rfl⟩
  · cases h
noncomputable def impl_TimesCost.O (k : Nat) : Oracle := (impl_CostValid.tw.orc k (impl_times.tw.orc k noO))
def impl_TimesCost.fh : FH := ⟨fun i => match i with | _ => none, [], false⟩
set_option maxRecDepth 100000 in
theorem impl_TimesCost.ef (k : Nat) (a0 : Int) (a1 : Int) : R.start Tryz.prog xhn impl_TimesCost.O 0 Tryz.f76 impl_TimesCost.fh k [.int .i64 a0, .int .i64 a1] [] = (if a0 < 0 then (some (impl_TimesCost.en (-1))) else ((impl_CostValid.f a1).bind fun t1 => (if t1 = true then (if a1 = 0 then (some (impl_TimesCost.en 0)) else ((impl_times.f a0 a1).bind fun t2 => (some (impl_TimesCost.en t2)))) else (some (impl_TimesCost.en (-1)))))) := by kernel_rfl
theorem impl_TimesCost.sf (k : Nat) (a0 : Int) (a1 : Int) : R.start Tryz.prog xhn impl_TimesCost.O 0 Tryz.f76 impl_TimesCost.fh k [.int .i64 a0, .int .i64 a1] [] = (impl_TimesCost.f a0 a1).map (impl_TimesCost.en) := by
  rw [impl_TimesCost.ef]
  simp only [impl_TimesCost.f, R.map_ite, R.map_bind, R.map_none, R.map_some, R.wr64_eq]
theorem impl_TimesCost.ok (k : Nat) : impl_TimesCost.tw.Ok Tryz.prog k := by
  intro md hmd a r h
  refine fn_ok (H := xhn) (fh := impl_TimesCost.fh) (O := impl_TimesCost.O) (k := k) Tryz.func76 (by kernel_rfl) (by kernel_rfl) (fun j _ => (Tw.orc_sound impl_CostValid.dok (impl_CostValid.ok j) (fun _ => rfl) (Tw.orc_sound impl_times.dok (impl_times.ok j) (fun _ => rfl) noO_sound))) (by kernel_rfl) (m := 0) rfl ?_
  refine (impl_TimesCost.sf k a.1 a.2).trans ?_
  exact congrArg (Option.map _) h
mutual
def impl_bound.l0 : Nat → Int → (List Part) → Int → Int → Option (Int)
  | 0, _, _, _, _ => none
  | k + 1, x3, x6, x7, x8 => (if x8 < x7 then (if 0 ≤ x8 then (if x8 < (x6.length : Int) then (if (rdP x6 x8).f0.toList = ([] : List UInt8) then ((impl_bound.f k ((rdP x6 x8).f1)).bind fun t1 => ((impl_TimesCost.f 2 t1).bind fun t2 => ((impl_AddCost.f x3 t2).bind fun t3 => (impl_bound.l0 k t3 x6 x7 (wrap64 (x8 + 1)))))) else ((impl_AddCost.f x3 3).bind fun t4 => (impl_bound.l0 k t4 x6 x7 (wrap64 (x8 + 1))))) else none) else none) else (some x3))
def impl_bound.f : Nat → (List Part) → Option (Int)
  | 0, _ => none
  | k + 1, l0 => (impl_bound.l0 k 0 l0 (l0.length : Int) 0)
end
def impl_bound.en (r : Int) : Res := (.int .i64 r, [])
def impl_bound.dec : List AV → List R.Obj → Option (List Part)
  | [.imm (.P l0)], [] => some l0
  | _, _ => none
def impl_bound.tw : Tw := ⟨34, List Part, Int, impl_bound.dec, fun a => [.imm (.P a)], fun a => [], fun k a => impl_bound.f k a, fun a r => impl_bound.en r, true⟩
theorem impl_bound.dok : impl_bound.tw.DecOk := by
  intro args hc a h
  have h : impl_bound.dec args hc = some a := h
  unfold impl_bound.dec at h
  split at h
  · cases h; exact ⟨rfl, rfl⟩
  · cases h
noncomputable def impl_bound.O (k : Nat) : Oracle := (impl_TimesCost.tw.orc k (impl_AddCost.tw.orc k (impl_bound.tw.orc k noO)))
def impl_bound.fh : FH := ⟨fun i => match i with | 3 => some [(3, 0), (6, 0), (7, 0), (8, 0)] | _ => none, [], false⟩
noncomputable def impl_bound.x0 (k : Nat) (x3 : Int) (x6 : List Part) (x7 : Int) (x8 : Int) : Option Res := R.exec Tryz.prog xhn impl_bound.O 0 Tryz.f34 impl_bound.fh k (R.point Tryz.f34 3) ⟨[(3, .int .i64 x3), (6, .imm (.P x6)), (7, .int .i64 x7), (8, .int .i64 x8)], [], 2⟩
set_option maxRecDepth 100000 in
theorem impl_bound.e0 (k : Nat) (x3 : Int) (x6 : List Part) (x7 : Int) (x8 : Int) : impl_bound.x0 (k + 1) x3 x6 x7 x8 = (if x8 < x7 then (if 0 ≤ x8 then (if x8 < (x6.length : Int) then (if (rdP x6 x8).f0.toList = ([] : List UInt8) then ((impl_bound.f k ((rdP x6 x8).f1)).bind fun t1 => ((impl_TimesCost.f 2 t1).bind fun t2 => ((impl_AddCost.f x3 t2).bind fun t3 => (impl_bound.x0 k t3 x6 x7 (wr64 (x8 + 1)))))) else ((impl_AddCost.f x3 3).bind fun t4 => (impl_bound.x0 k t4 x6 x7 (wr64 (x8 + 1))))) else none) else none) else (some (impl_bound.en x3))) := by kernel_rfl
set_option maxRecDepth 100000 in
theorem impl_bound.ef (k : Nat) (l0 : List Part) : R.start Tryz.prog xhn impl_bound.O 0 Tryz.f34 impl_bound.fh k [.imm (.P l0)] [] = (impl_bound.x0 k 0 l0 (l0.length : Int) 0) := by kernel_rfl
theorem impl_bound.link : ∀ k, (∀ (x3 : Int) (x6 : List Part) (x7 : Int) (x8 : Int), impl_bound.x0 k x3 x6 x7 x8 = (impl_bound.l0 k x3 x6 x7 x8).map (impl_bound.en))
  | 0 => fun _ _ _ _ => by simp only [impl_bound.l0, R.map_none]; rfl
  | k + 1 => by
    have ih0 := impl_bound.link k
    · intro x3 x6 x7 x8
      rw [impl_bound.e0]
      simp only [impl_bound.l0, R.map_ite, R.map_bind, R.map_none, R.map_some, R.wr64_eq, ← ih0]
theorem impl_bound.sf (k : Nat) (l0 : List Part) : R.start Tryz.prog xhn impl_bound.O 0 Tryz.f34 impl_bound.fh k [.imm (.P l0)] [] = (impl_bound.f (k + 1) l0).map (impl_bound.en) := by
  have ih0 := impl_bound.link k
  rw [impl_bound.ef]
  simp only [impl_bound.f, R.map_ite, R.map_bind, R.map_none, R.map_some, R.wr64_eq, ← ih0]
theorem impl_bound.ok : ∀ k, impl_bound.tw.Ok Tryz.prog k := by
  intro k
  induction k using Nat.strongRecOn with
  | ind k ih =>
    cases k with
    | zero =>
      intro md hmd a r h
      have h : impl_bound.f 0 a = some r := h
      simp only [impl_bound.f] at h
      cases h
    | succ k =>
      intro md hmd a r h
      refine fn_ok (H := xhn) (fh := impl_bound.fh) (O := impl_bound.O) (k := k) Tryz.func34 (by kernel_rfl) (by kernel_rfl) (fun j hj => (Tw.orc_sound impl_TimesCost.dok (impl_TimesCost.ok j) (fun _ => rfl) (Tw.orc_sound impl_AddCost.dok (impl_AddCost.ok j) (fun _ => rfl) (Tw.orc_sound impl_bound.dok (ih j (by omega)) (fun _ => rfl) noO_sound)))) (by kernel_rfl) (m := 0) rfl ?_
      refine (impl_bound.sf k a).trans ?_
      exact congrArg (Option.map _) h
def impl_BoundOf.f (k : Nat) (a0 : ByteArray) : Option (Int) := ((impl_parts.f k a0).bind fun t1 => (if t1.2 = true then ((impl_bound.f k t1.1).bind fun t2 => (some t2)) else (some (-1))))
def impl_BoundOf.en (r : Int) : Res := (.int .i64 r, [])
def impl_BoundOf.dec : List AV → List R.Obj → Option (ByteArray)
  | [.str a0], [] => some a0
  | _, _ => none
def impl_BoundOf.tw : Tw := ⟨11, ByteArray, Int, impl_BoundOf.dec, fun a => [.str a], fun a => [], fun k a => impl_BoundOf.f k a, fun a r => impl_BoundOf.en r, true⟩
theorem impl_BoundOf.dok : impl_BoundOf.tw.DecOk := by
  intro args hc a h
  have h : impl_BoundOf.dec args hc = some a := h
  unfold impl_BoundOf.dec at h
  split at h
  · cases h; exact ⟨rfl, rfl⟩
  · cases h
noncomputable def impl_BoundOf.O (k : Nat) : Oracle := (impl_parts.tw.orc k (impl_bound.tw.orc k noO))
def impl_BoundOf.fh : FH := ⟨fun i => match i with | _ => none, [], false⟩
set_option maxRecDepth 100000 in
theorem impl_BoundOf.ef (k : Nat) (a0 : ByteArray) : R.start Tryz.prog xhn impl_BoundOf.O 0 Tryz.f11 impl_BoundOf.fh k [.str a0] [] = ((impl_parts.f k a0).bind fun t1 => (if t1.2 = true then ((impl_bound.f k t1.1).bind fun t2 => (some (impl_BoundOf.en t2))) else (some (impl_BoundOf.en (-1))))) := by kernel_rfl
theorem impl_BoundOf.sf (k : Nat) (a0 : ByteArray) : R.start Tryz.prog xhn impl_BoundOf.O 0 Tryz.f11 impl_BoundOf.fh k [.str a0] [] = (impl_BoundOf.f k a0).map (impl_BoundOf.en) := by
  rw [impl_BoundOf.ef]
  simp only [impl_BoundOf.f, R.map_ite, R.map_bind, R.map_none, R.map_some, R.wr64_eq]
theorem impl_BoundOf.ok (k : Nat) : impl_BoundOf.tw.Ok Tryz.prog k := by
  intro md hmd a r h
  refine fn_ok (H := xhn) (fh := impl_BoundOf.fh) (O := impl_BoundOf.O) (k := k) Tryz.func11 (by kernel_rfl) (by kernel_rfl) (fun j _ => (Tw.orc_sound impl_parts.dok (impl_parts.ok j) (fun _ => rfl) (Tw.orc_sound impl_bound.dok (impl_bound.ok j) (fun _ => rfl) noO_sound))) (by kernel_rfl) (m := 0) rfl ?_
  refine (impl_BoundOf.sf k a).trans ?_
  exact congrArg (Option.map _) h
mutual
def laws_FnGrowth.l0 : Nat → ByteArray → Int → (List Int) → Int → Int → Int → Int → (List Int) → (List Int) → (List Stp) → Option (Bool)
  | 0, _, _, _, _, _, _, _, _, _, _ => none
  | k + 1, x4, x5, y1, x10, x80, x81, y0_0, y0_1, y0_2, y0_3 => (if x81 < x80 then (if 0 ≤ x81 then (if x81 < (y1.length : Int) then ((impl_ExpandExpression.f k x4 (wrap64 (x81 + 1))).bind fun t15 => ((impl_CostOf.f k y0_0 y0_1 y0_2 y0_3 t15.1).bind fun t16 => (if t16 = (rdI y1 x81) then (if x10 = 0 then (if (rdI y1 x81) = 0 then (if x10 = 1 then ((impl_BoundOf.f k x4).bind fun t17 => (if (rdI y1 x81) > t17 then (some false) else (if x10 = 3 then (if (rdI y1 x81) = 1000000 then (if x10 = 2 then (some false) else (laws_FnGrowth.l0 k x4 x5 y1 x10 x80 (wrap64 (x81 + 1)) y0_0 y0_1 y0_2 y0_3)) else (some false)) else (if x10 = 2 then (if (rdI y1 x81) = 1000000 then (some false) else (laws_FnGrowth.l0 k x4 x5 y1 x10 x80 (wrap64 (x81 + 1)) y0_0 y0_1 y0_2 y0_3)) else (laws_FnGrowth.l0 k x4 x5 y1 x10 x80 (wrap64 (x81 + 1)) y0_0 y0_1 y0_2 y0_3))))) else (if x10 = 3 then (if (rdI y1 x81) = 1000000 then (if x10 = 2 then (some false) else (laws_FnGrowth.l0 k x4 x5 y1 x10 x80 (wrap64 (x81 + 1)) y0_0 y0_1 y0_2 y0_3)) else (some false)) else (if x10 = 2 then (if (rdI y1 x81) = 1000000 then (some false) else (laws_FnGrowth.l0 k x4 x5 y1 x10 x80 (wrap64 (x81 + 1)) y0_0 y0_1 y0_2 y0_3)) else (laws_FnGrowth.l0 k x4 x5 y1 x10 x80 (wrap64 (x81 + 1)) y0_0 y0_1 y0_2 y0_3)))) else (some false)) else (if x10 = 1 then ((impl_BoundOf.f k x4).bind fun t18 => (if (rdI y1 x81) > t18 then (some false) else (if x10 = 3 then (if (rdI y1 x81) = 1000000 then (if x10 = 2 then (some false) else (laws_FnGrowth.l0 k x4 x5 y1 x10 x80 (wrap64 (x81 + 1)) y0_0 y0_1 y0_2 y0_3)) else (some false)) else (if x10 = 2 then (if (rdI y1 x81) = 1000000 then (some false) else (laws_FnGrowth.l0 k x4 x5 y1 x10 x80 (wrap64 (x81 + 1)) y0_0 y0_1 y0_2 y0_3)) else (laws_FnGrowth.l0 k x4 x5 y1 x10 x80 (wrap64 (x81 + 1)) y0_0 y0_1 y0_2 y0_3))))) else (if x10 = 3 then (if (rdI y1 x81) = 1000000 then (if x10 = 2 then (some false) else (laws_FnGrowth.l0 k x4 x5 y1 x10 x80 (wrap64 (x81 + 1)) y0_0 y0_1 y0_2 y0_3)) else (some false)) else (if x10 = 2 then (if (rdI y1 x81) = 1000000 then (some false) else (laws_FnGrowth.l0 k x4 x5 y1 x10 x80 (wrap64 (x81 + 1)) y0_0 y0_1 y0_2 y0_3)) else (laws_FnGrowth.l0 k x4 x5 y1 x10 x80 (wrap64 (x81 + 1)) y0_0 y0_1 y0_2 y0_3))))) else (some false)))) else none) else none) else (laws_FnGrowth.l1 k x4 x5 y1 x10 (wrap64 (y0_0 + 1)) y0_0 y0_1 y0_2 y0_3))
def laws_FnGrowth.l1 : Nat → ByteArray → Int → (List Int) → Int → Int → Int → (List Int) → (List Int) → (List Stp) → Option (Bool)
  | 0, _, _, _, _, _, _, _, _, _ => none
  | k + 1, x4, x5, y1, x10, x15, y0_0, y0_1, y0_2, y0_3 => (if x10 = 2 then (if x15 ≤ (wrap64 ((wrap64 (2 * y0_0)) + 2)) then ((impl_ExpandExpression.f k x4 x15).bind fun t19 => (if t19.2 = true then (if (t19.1.size : Int) < 150 then ((impl_CostOf.f k y0_0 y0_1 y0_2 y0_3 t19.1).bind fun t20 => (if (wrap64 (y0_0 + 1)) = 0 then none else (if t20 < (wrap64 (x15.tdiv (wrap64 (y0_0 + 1)))) then (some false) else (laws_FnGrowth.l1 k x4 x5 y1 x10 (wrap64 (x15 + 1)) y0_0 y0_1 y0_2 y0_3)))) else (laws_FnGrowth.l1 k x4 x5 y1 x10 (wrap64 (x15 + 1)) y0_0 y0_1 y0_2 y0_3)) else (laws_FnGrowth.l1 k x4 x5 y1 x10 (wrap64 (x15 + 1)) y0_0 y0_1 y0_2 y0_3))) else (some (decide ((y1.length : Int) = x5)))) else (some (decide ((y1.length : Int) = x5))))
end
def laws_FnGrowth.f (k : Nat) (l0 : List Int) : Option (Bool) := (if (l0.length : Int) > 1048576 then (some true) else ((spec_DrawGrowthOf.f k l0).bind fun t1 => ((impl_GrowthOf.f k t1.1 t1.2.1 t1.2.2.1 t1.2.2.2.1 t1.2.2.2.2.1 t1.2.2.2.2.2).bind fun t2 => ((spec_GrowthOf.f k t1.1 t1.2.1 t1.2.2.1 t1.2.2.2.1 t1.2.2.2.2.1 t1.2.2.2.2.2).bind fun t3 => ((impl_GradeOf.f k t1.1 t1.2.1 t1.2.2.1 t1.2.2.2.1 t1.2.2.2.2.1).bind fun t4 => ((laws_daSame.f k t2.1 t3.1).bind fun t5 => (if t5 = true then (if (t2.2 != t3.2) = true then ((laws_daSame.f k t2.1 t3.1).bind fun t6 => (if t6 = true then (if (t2.2 == t3.2) = true then ((spec_GradeOf.f k t1.1 t1.2.1 t1.2.2.1 t1.2.2.2.1 t1.2.2.2.2.1).bind fun t7 => (some (decide (t4 = t7)))) else (some false)) else (some false))) else ((spec_GradeOf.f k t1.1 t1.2.1 t1.2.2.1 t1.2.2.2.1 t1.2.2.2.2.1).bind fun t8 => (if t4 = t8 then (if t2.2 = true then (laws_FnGrowth.l0 k t1.2.2.2.2.1 t1.2.2.2.2.2 t2.1 t4 (t2.1.length : Int) 0 t1.1 t1.2.1 t1.2.2.1 t1.2.2.2.1) else ((laws_daSame.f k t2.1 t3.1).bind fun t9 => (if t9 = true then (if (t2.2 == t3.2) = true then ((spec_GradeOf.f k t1.1 t1.2.1 t1.2.2.1 t1.2.2.2.1 t1.2.2.2.2.1).bind fun t10 => (some (decide (t4 = t10)))) else (some false)) else (some false)))) else ((laws_daSame.f k t2.1 t3.1).bind fun t11 => (if t11 = true then (if (t2.2 == t3.2) = true then ((spec_GradeOf.f k t1.1 t1.2.1 t1.2.2.1 t1.2.2.2.1 t1.2.2.2.2.1).bind fun t12 => (some (decide (t4 = t12)))) else (some false)) else (some false)))))) else ((laws_daSame.f k t2.1 t3.1).bind fun t13 => (if t13 = true then (if (t2.2 == t3.2) = true then ((spec_GradeOf.f k t1.1 t1.2.1 t1.2.2.1 t1.2.2.2.1 t1.2.2.2.2.1).bind fun t14 => (some (decide (t4 = t14)))) else (some false)) else (some false))))))))))
def laws_FnGrowth.en (r : Bool) : Res := (.lit r, [])
def laws_FnGrowth.dec : List AV → List R.Obj → Option (List Int)
  | [.imm (.I .u8 l0)], [] => some l0
  | _, _ => none
def laws_FnGrowth.tw : Tw := ⟨4, List Int, Bool, laws_FnGrowth.dec, fun a => [.imm (.I .u8 a)], fun a => [], fun k a => laws_FnGrowth.f k a, fun a r => laws_FnGrowth.en r, false⟩
theorem laws_FnGrowth.dok : laws_FnGrowth.tw.DecOk := by
  intro args hc a h
  have h : laws_FnGrowth.dec args hc = some a := h
  unfold laws_FnGrowth.dec at h
  split at h
  · cases h; exact ⟨rfl, rfl⟩
  · cases h
noncomputable def laws_FnGrowth.O (k : Nat) : Oracle := (spec_DrawGrowthOf.tw.orc k (impl_GrowthOf.tw.orc k (spec_GrowthOf.tw.orc k (impl_GradeOf.tw.orc k (laws_daSame.tw.orc k (spec_GradeOf.tw.orc k (impl_ExpandExpression.tw.orc k (impl_CostOf.tw.orc k (impl_BoundOf.tw.orc k noO)))))))))
def laws_FnGrowth.fh : FH := ⟨fun i => match i with | 10 => some [(3, 0), (4, 0), (5, 0), (6, 0), (10, 0), (79, 0), (80, 0), (81, 0)] | 22 => some [(3, 0), (4, 0), (5, 0), (6, 0), (10, 0), (15, 0)] | _ => none, [], false⟩
noncomputable def laws_FnGrowth.x0 (k : Nat) (x4 : ByteArray) (x5 : Int) (y1 : List Int) (x10 : Int) (x80 : Int) (x81 : Int) (y0_0 : Int) (y0_1 : List Int) (y0_2 : List Int) (y0_3 : List Stp) : Option Res := R.exec Tryz.prog xhn laws_FnGrowth.O 0 Tryz.f4 laws_FnGrowth.fh k (R.point Tryz.f4 10) ⟨[(3, .ptr 0 0), (4, .str x4), (5, .int .i64 x5), (6, .sl 1 0), (10, .int .i64 x10), (79, .sl 1 0), (80, .int .i64 x80), (81, .int .i64 x81)], [(0, .box false [.int .i64 y0_0, .imm (.I .i64 y0_1), .imm (.I .i64 y0_2), .imm (.T y0_3)]), (1, .arr 3 0 (.I .i64 y1) false)], 4⟩
noncomputable def laws_FnGrowth.x1 (k : Nat) (x4 : ByteArray) (x5 : Int) (y1 : List Int) (x10 : Int) (x15 : Int) (y0_0 : Int) (y0_1 : List Int) (y0_2 : List Int) (y0_3 : List Stp) : Option Res := R.exec Tryz.prog xhn laws_FnGrowth.O 0 Tryz.f4 laws_FnGrowth.fh k (R.point Tryz.f4 22) ⟨[(3, .ptr 0 0), (4, .str x4), (5, .int .i64 x5), (6, .sl 1 0), (10, .int .i64 x10), (15, .int .i64 x15)], [(0, .box false [.int .i64 y0_0, .imm (.I .i64 y0_1), .imm (.I .i64 y0_2), .imm (.T y0_3)]), (1, .arr 3 0 (.I .i64 y1) false)], 4⟩
set_option maxRecDepth 100000 in
theorem laws_FnGrowth.e0 (k : Nat) (x4 : ByteArray) (x5 : Int) (y1 : List Int) (x10 : Int) (x80 : Int) (x81 : Int) (y0_0 : Int) (y0_1 : List Int) (y0_2 : List Int) (y0_3 : List Stp) : laws_FnGrowth.x0 (k + 1) x4 x5 y1 x10 x80 x81 y0_0 y0_1 y0_2 y0_3 = (if x81 < x80 then (if 0 ≤ x81 then (if x81 < (y1.length : Int) then ((impl_ExpandExpression.f k x4 (wr64 (x81 + 1))).bind fun t15 => ((impl_CostOf.f k y0_0 y0_1 y0_2 y0_3 t15.1).bind fun t16 => (if t16 = (rdI y1 x81) then (if x10 = 0 then (if (rdI y1 x81) = 0 then (if x10 = 1 then ((impl_BoundOf.f k x4).bind fun t17 => (if (rdI y1 x81) > t17 then (some (laws_FnGrowth.en false)) else (if x10 = 3 then (if (rdI y1 x81) = 1000000 then (if x10 = 2 then (some (laws_FnGrowth.en false)) else (laws_FnGrowth.x0 k x4 x5 y1 x10 x80 (wr64 (x81 + 1)) y0_0 y0_1 y0_2 y0_3)) else (some (laws_FnGrowth.en false))) else (if x10 = 2 then (if (rdI y1 x81) = 1000000 then (some (laws_FnGrowth.en false)) else (laws_FnGrowth.x0 k x4 x5 y1 x10 x80 (wr64 (x81 + 1)) y0_0 y0_1 y0_2 y0_3)) else (laws_FnGrowth.x0 k x4 x5 y1 x10 x80 (wr64 (x81 + 1)) y0_0 y0_1 y0_2 y0_3))))) else (if x10 = 3 then (if (rdI y1 x81) = 1000000 then (if x10 = 2 then (some (laws_FnGrowth.en false)) else (laws_FnGrowth.x0 k x4 x5 y1 x10 x80 (wr64 (x81 + 1)) y0_0 y0_1 y0_2 y0_3)) else (some (laws_FnGrowth.en false))) else (if x10 = 2 then (if (rdI y1 x81) = 1000000 then (some (laws_FnGrowth.en false)) else (laws_FnGrowth.x0 k x4 x5 y1 x10 x80 (wr64 (x81 + 1)) y0_0 y0_1 y0_2 y0_3)) else (laws_FnGrowth.x0 k x4 x5 y1 x10 x80 (wr64 (x81 + 1)) y0_0 y0_1 y0_2 y0_3)))) else (some (laws_FnGrowth.en false))) else (if x10 = 1 then ((impl_BoundOf.f k x4).bind fun t18 => (if (rdI y1 x81) > t18 then (some (laws_FnGrowth.en false)) else (if x10 = 3 then (if (rdI y1 x81) = 1000000 then (if x10 = 2 then (some (laws_FnGrowth.en false)) else (laws_FnGrowth.x0 k x4 x5 y1 x10 x80 (wr64 (x81 + 1)) y0_0 y0_1 y0_2 y0_3)) else (some (laws_FnGrowth.en false))) else (if x10 = 2 then (if (rdI y1 x81) = 1000000 then (some (laws_FnGrowth.en false)) else (laws_FnGrowth.x0 k x4 x5 y1 x10 x80 (wr64 (x81 + 1)) y0_0 y0_1 y0_2 y0_3)) else (laws_FnGrowth.x0 k x4 x5 y1 x10 x80 (wr64 (x81 + 1)) y0_0 y0_1 y0_2 y0_3))))) else (if x10 = 3 then (if (rdI y1 x81) = 1000000 then (if x10 = 2 then (some (laws_FnGrowth.en false)) else (laws_FnGrowth.x0 k x4 x5 y1 x10 x80 (wr64 (x81 + 1)) y0_0 y0_1 y0_2 y0_3)) else (some (laws_FnGrowth.en false))) else (if x10 = 2 then (if (rdI y1 x81) = 1000000 then (some (laws_FnGrowth.en false)) else (laws_FnGrowth.x0 k x4 x5 y1 x10 x80 (wr64 (x81 + 1)) y0_0 y0_1 y0_2 y0_3)) else (laws_FnGrowth.x0 k x4 x5 y1 x10 x80 (wr64 (x81 + 1)) y0_0 y0_1 y0_2 y0_3))))) else (some (laws_FnGrowth.en false))))) else none) else none) else (laws_FnGrowth.x1 k x4 x5 y1 x10 (wr64 (y0_0 + 1)) y0_0 y0_1 y0_2 y0_3)) := by
  refine Eq.trans ?_ (R.icong (fun h0 => (R.icong (fun h1 => (R.icong (fun h2 => (R.bcong fun t15 => (R.bcong fun t16 => (R.icong (fun h3 => (R.icong (fun h4 => (R.icong (fun h5 => (R.icong (fun h6 => (R.bcong fun t17 => (R.icong (fun h7 => (R.idropT (p := (rdI y1 x81) > t17) (z := (laws_FnGrowth.x0 k x4 x5 y1 x10 x80 (wr64 (x81 + 1)) y0_0 y0_1 y0_2 y0_3)) h7 rfl)) (fun h7 => (R.icong (fun h8 => (R.icong (fun h9 => (R.icong (fun h10 => (R.idropT (p := (rdI y1 x81) = 1000000) (z := (laws_FnGrowth.x0 k x4 x5 y1 x10 x80 (wr64 (x81 + 1)) y0_0 y0_1 y0_2 y0_3)) h9 rfl)) (fun h10 => rfl))) (fun h9 => (R.idropF (p := (rdI y1 x81) = 1000000) (z := (laws_FnGrowth.x0 k x4 x5 y1 x10 x80 (wr64 (x81 + 1)) y0_0 y0_1 y0_2 y0_3)) h9 rfl)))) (fun h8 => rfl)))))) (fun h6 => (R.icong (fun h7 => (R.icong (fun h8 => (R.icong (fun h9 => (R.idropT (p := (rdI y1 x81) = 1000000) (z := (laws_FnGrowth.x0 k x4 x5 y1 x10 x80 (wr64 (x81 + 1)) y0_0 y0_1 y0_2 y0_3)) h8 rfl)) (fun h9 => rfl))) (fun h8 => (R.idropF (p := (rdI y1 x81) = 1000000) (z := (laws_FnGrowth.x0 k x4 x5 y1 x10 x80 (wr64 (x81 + 1)) y0_0 y0_1 y0_2 y0_3)) h8 rfl)))) (fun h7 => rfl))))) (fun h5 => (R.idropF (p := (rdI y1 x81) = 0) (z := (laws_FnGrowth.x0 k x4 x5 y1 x10 x80 (wr64 (x81 + 1)) y0_0 y0_1 y0_2 y0_3)) h5 rfl)))) (fun h4 => (R.icong (fun h5 => (R.bcong fun t18 => (R.icong (fun h6 => (R.idropT (p := (rdI y1 x81) > t18) (z := (laws_FnGrowth.x0 k x4 x5 y1 x10 x80 (wr64 (x81 + 1)) y0_0 y0_1 y0_2 y0_3)) h6 rfl)) (fun h6 => (R.icong (fun h7 => (R.icong (fun h8 => (R.icong (fun h9 => (R.idropT (p := (rdI y1 x81) = 1000000) (z := (laws_FnGrowth.x0 k x4 x5 y1 x10 x80 (wr64 (x81 + 1)) y0_0 y0_1 y0_2 y0_3)) h8 rfl)) (fun h9 => rfl))) (fun h8 => (R.idropF (p := (rdI y1 x81) = 1000000) (z := (laws_FnGrowth.x0 k x4 x5 y1 x10 x80 (wr64 (x81 + 1)) y0_0 y0_1 y0_2 y0_3)) h8 rfl)))) (fun h7 => rfl)))))) (fun h5 => (R.icong (fun h6 => (R.icong (fun h7 => (R.icong (fun h8 => (R.idropT (p := (rdI y1 x81) = 1000000) (z := (laws_FnGrowth.x0 k x4 x5 y1 x10 x80 (wr64 (x81 + 1)) y0_0 y0_1 y0_2 y0_3)) h7 rfl)) (fun h8 => rfl))) (fun h7 => (R.idropF (p := (rdI y1 x81) = 1000000) (z := (laws_FnGrowth.x0 k x4 x5 y1 x10 x80 (wr64 (x81 + 1)) y0_0 y0_1 y0_2 y0_3)) h7 rfl)))) (fun h6 => rfl))))))) (fun h3 => rfl))))) (fun h2 => rfl))) (fun h1 => rfl))) (fun h0 => rfl))
  kernel_rfl
set_option maxRecDepth 100000 in
theorem laws_FnGrowth.e1 (k : Nat) (x4 : ByteArray) (x5 : Int) (y1 : List Int) (x10 : Int) (x15 : Int) (y0_0 : Int) (y0_1 : List Int) (y0_2 : List Int) (y0_3 : List Stp) : laws_FnGrowth.x1 (k + 1) x4 x5 y1 x10 x15 y0_0 y0_1 y0_2 y0_3 = (if x10 = 2 then (if x15 ≤ (wr64 ((wr64 (2 * y0_0)) + 2)) then ((impl_ExpandExpression.f k x4 x15).bind fun t19 => (if t19.2 = true then (if (t19.1.size : Int) < 150 then ((impl_CostOf.f k y0_0 y0_1 y0_2 y0_3 t19.1).bind fun t20 => (if (wr64 (y0_0 + 1)) = 0 then none else (if t20 < (wr64 (x15.tdiv (wr64 (y0_0 + 1)))) then (some (laws_FnGrowth.en false)) else (laws_FnGrowth.x1 k x4 x5 y1 x10 (wr64 (x15 + 1)) y0_0 y0_1 y0_2 y0_3)))) else (laws_FnGrowth.x1 k x4 x5 y1 x10 (wr64 (x15 + 1)) y0_0 y0_1 y0_2 y0_3)) else (laws_FnGrowth.x1 k x4 x5 y1 x10 (wr64 (x15 + 1)) y0_0 y0_1 y0_2 y0_3))) else (some (laws_FnGrowth.en (decide ((y1.length : Int) = x5))))) else (some (laws_FnGrowth.en (decide ((y1.length : Int) = x5))))) := by kernel_rfl
set_option maxRecDepth 100000 in
theorem laws_FnGrowth.ef (k : Nat) (l0 : List Int) : R.start Tryz.prog xhn laws_FnGrowth.O 0 Tryz.f4 laws_FnGrowth.fh k [.imm (.I .u8 l0)] [] = (if (l0.length : Int) > 1048576 then (some (laws_FnGrowth.en true)) else ((spec_DrawGrowthOf.f k l0).bind fun t1 => ((impl_GrowthOf.f k t1.1 t1.2.1 t1.2.2.1 t1.2.2.2.1 t1.2.2.2.2.1 t1.2.2.2.2.2).bind fun t2 => ((spec_GrowthOf.f k t1.1 t1.2.1 t1.2.2.1 t1.2.2.2.1 t1.2.2.2.2.1 t1.2.2.2.2.2).bind fun t3 => ((impl_GradeOf.f k t1.1 t1.2.1 t1.2.2.1 t1.2.2.2.1 t1.2.2.2.2.1).bind fun t4 => ((laws_daSame.f k t2.1 t3.1).bind fun t5 => (if t5 = true then (if (t2.2 != t3.2) = true then ((laws_daSame.f k t2.1 t3.1).bind fun t6 => (if t6 = true then (if (t2.2 == t3.2) = true then ((spec_GradeOf.f k t1.1 t1.2.1 t1.2.2.1 t1.2.2.2.1 t1.2.2.2.2.1).bind fun t7 => (some (laws_FnGrowth.en (decide (t4 = t7))))) else (some (laws_FnGrowth.en false))) else (some (laws_FnGrowth.en false)))) else ((spec_GradeOf.f k t1.1 t1.2.1 t1.2.2.1 t1.2.2.2.1 t1.2.2.2.2.1).bind fun t8 => (if t4 = t8 then (if t2.2 = true then (laws_FnGrowth.x0 k t1.2.2.2.2.1 t1.2.2.2.2.2 t2.1 t4 (t2.1.length : Int) 0 t1.1 t1.2.1 t1.2.2.1 t1.2.2.2.1) else ((laws_daSame.f k t2.1 t3.1).bind fun t9 => (if t9 = true then (if (t2.2 == t3.2) = true then ((spec_GradeOf.f k t1.1 t1.2.1 t1.2.2.1 t1.2.2.2.1 t1.2.2.2.2.1).bind fun t10 => (some (laws_FnGrowth.en (decide (t4 = t10))))) else (some (laws_FnGrowth.en false))) else (some (laws_FnGrowth.en false))))) else ((laws_daSame.f k t2.1 t3.1).bind fun t11 => (if t11 = true then (if (t2.2 == t3.2) = true then ((spec_GradeOf.f k t1.1 t1.2.1 t1.2.2.1 t1.2.2.2.1 t1.2.2.2.2.1).bind fun t12 => (some (laws_FnGrowth.en (decide (t4 = t12))))) else (some (laws_FnGrowth.en false))) else (some (laws_FnGrowth.en false))))))) else ((laws_daSame.f k t2.1 t3.1).bind fun t13 => (if t13 = true then (if (t2.2 == t3.2) = true then ((spec_GradeOf.f k t1.1 t1.2.1 t1.2.2.1 t1.2.2.2.1 t1.2.2.2.2.1).bind fun t14 => (some (laws_FnGrowth.en (decide (t4 = t14))))) else (some (laws_FnGrowth.en false))) else (some (laws_FnGrowth.en false))))))))))) := by kernel_rfl
theorem laws_FnGrowth.link : ∀ k, (∀ (x4 : ByteArray) (x5 : Int) (y1 : List Int) (x10 : Int) (x80 : Int) (x81 : Int) (y0_0 : Int) (y0_1 : List Int) (y0_2 : List Int) (y0_3 : List Stp), laws_FnGrowth.x0 k x4 x5 y1 x10 x80 x81 y0_0 y0_1 y0_2 y0_3 = (laws_FnGrowth.l0 k x4 x5 y1 x10 x80 x81 y0_0 y0_1 y0_2 y0_3).map (laws_FnGrowth.en)) ∧ (∀ (x4 : ByteArray) (x5 : Int) (y1 : List Int) (x10 : Int) (x15 : Int) (y0_0 : Int) (y0_1 : List Int) (y0_2 : List Int) (y0_3 : List Stp), laws_FnGrowth.x1 k x4 x5 y1 x10 x15 y0_0 y0_1 y0_2 y0_3 = (laws_FnGrowth.l1 k x4 x5 y1 x10 x15 y0_0 y0_1 y0_2 y0_3).map (laws_FnGrowth.en))
  | 0 => ⟨fun _ _ _ _ _ _ _ _ _ _ => by simp only [laws_FnGrowth.l0, R.map_none]; rfl, fun _ _ _ _ _ _ _ _ _ => by simp only [laws_FnGrowth.l1, R.map_none]; rfl⟩
  | k + 1 => by
    obtain ⟨ih0, ih1⟩ := laws_FnGrowth.link k
    refine ⟨?_, ?_⟩
    · intro x4 x5 y1 x10 x80 x81 y0_0 y0_1 y0_2 y0_3
      rw [laws_FnGrowth.e0]
      simp only [laws_FnGrowth.l0, R.map_ite, R.map_bind, R.map_none, R.map_some, R.wr64_eq, ← ih0, ← ih1]
    · intro x4 x5 y1 x10 x15 y0_0 y0_1 y0_2 y0_3
      rw [laws_FnGrowth.e1]
      simp only [laws_FnGrowth.l1, R.map_ite, R.map_bind, R.map_none, R.map_some, R.wr64_eq, ← ih0, ← ih1]
theorem laws_FnGrowth.sf (k : Nat) (l0 : List Int) : R.start Tryz.prog xhn laws_FnGrowth.O 0 Tryz.f4 laws_FnGrowth.fh k [.imm (.I .u8 l0)] [] = (laws_FnGrowth.f k l0).map (laws_FnGrowth.en) := by
  obtain ⟨ih0, ih1⟩ := laws_FnGrowth.link k
  rw [laws_FnGrowth.ef]
  simp only [laws_FnGrowth.f, R.map_ite, R.map_bind, R.map_none, R.map_some, R.wr64_eq, ← ih0, ← ih1]
theorem laws_FnGrowth.ok (k : Nat) : laws_FnGrowth.tw.Ok Tryz.prog k := by
  intro md hmd a r h
  refine fn_ok (H := xhn) (fh := laws_FnGrowth.fh) (O := laws_FnGrowth.O) (k := k) Tryz.func4 (by kernel_rfl) (by kernel_rfl) (fun j _ => (Tw.orc_sound spec_DrawGrowthOf.dok (spec_DrawGrowthOf.ok j) (fun _ => rfl) (Tw.orc_sound impl_GrowthOf.dok (impl_GrowthOf.ok j) (fun q => Bool.noConfusion (show false = true from hmd q)) (Tw.orc_sound spec_GrowthOf.dok (spec_GrowthOf.ok j) (fun _ => rfl) (Tw.orc_sound impl_GradeOf.dok (impl_GradeOf.ok j) (fun _ => rfl) (Tw.orc_sound laws_daSame.dok (laws_daSame.ok j) (fun _ => rfl) (Tw.orc_sound spec_GradeOf.dok (spec_GradeOf.ok j) (fun _ => rfl) (Tw.orc_sound impl_ExpandExpression.dok (impl_ExpandExpression.ok j) (fun q => Bool.noConfusion (show false = true from hmd q)) (Tw.orc_sound impl_CostOf.dok (impl_CostOf.ok j) (fun q => Bool.noConfusion (show false = true from hmd q)) (Tw.orc_sound impl_BoundOf.dok (impl_BoundOf.ok j) (fun _ => rfl) noO_sound)))))))))) (by kernel_rfl) (m := 0) rfl ?_
  refine (laws_FnGrowth.sf k a).trans ?_
  exact congrArg (Option.map _) h
end Go.Proofs.YtfgoojnblomonaaGreat.V
end
