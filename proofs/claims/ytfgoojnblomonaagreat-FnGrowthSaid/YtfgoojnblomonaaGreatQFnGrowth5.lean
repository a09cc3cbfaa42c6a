import Derived.Test.YtfgoojnblomonaaGreatQFnGrowth2
import Derived.Test.YtfgoojnblomonaaGreatQFnGrowth4
import Derived.Test.YtfgoojnblomonaaGreatProg
import Derived.WalkKit
import Derived.ProofKit
import Derived.Lib.Bytealg
section
set_option linter.unusedVariables false
set_option linter.unusedSimpArgs false
namespace Go.Proofs.YtfgoojnblomonaaGreat.V
open Go Go.Proofs.YtfgoojnblomonaaGreat.R Go.RowKit
def xhn : R.Hints := ⟨fun e => match e with | 3 => some (.I .i64) | 9 => some .S | 23 => some .L | 75 => some .T | 78 => some .P | _ => none, fun f => match f with | 21 => 1 | 39 => 1 | 47 => 1 | 48 => 1 | 49 => 1 | 50 => 1 | 86 => 1 | 87 => 1 | 88 => 1 | 108 => 1 | _ => 0⟩
def spec_l13Open.f (l0 : List Int) : Option ((List Int) × Int) := (if (l0.length : Int) > 2000 then (if 2000 ≤ (l0.length : Int) then (some (((l0.drop 0).take (2000 - 0)), 0)) else none) else (some (l0, 0)))
def spec_l13Open.en (r : (List Int) × Int) : Res := (.ptr 0 0, [.box false [.imm (.I .u8 r.1), .int .i64 r.2]])
def spec_l13Open.dec : List AV → List R.Obj → Option (List Int)
  | [.imm (.I .u8 l0)], [] => some l0
  | _, _ => none
def spec_l13Open.tw : Tw := ⟨22, List Int, (List Int) × Int, spec_l13Open.dec, fun a => [.imm (.I .u8 a)], fun a => [], fun k a => spec_l13Open.f a, fun a r => spec_l13Open.en r, true⟩
theorem spec_l13Open.dok : spec_l13Open.tw.DecOk := by
  intro args hc a h
  have h : spec_l13Open.dec args hc = some a := h
  unfold spec_l13Open.dec at h
  split at h
  · cases h; exact ⟨rfl, rfl⟩
  · cases h
noncomputable def spec_l13Open.O (k : Nat) : Oracle := noO
def spec_l13Open.fh : FH := ⟨fun i => match i with | _ => none, [], false⟩
set_option maxRecDepth 100000 in
theorem spec_l13Open.ef (k : Nat) (l0 : List Int) : R.start Tryz.prog xhn spec_l13Open.O 0 Tryz.f22 spec_l13Open.fh k [.imm (.I .u8 l0)] [] = (if (l0.length : Int) > 2000 then (if 2000 ≤ (l0.length : Int) then (some (spec_l13Open.en (((l0.drop 0).take (2000 - 0)), 0))) else none) else (some (spec_l13Open.en (l0, 0)))) := by kernel_rfl
theorem spec_l13Open.sf (k : Nat) (l0 : List Int) : R.start Tryz.prog xhn spec_l13Open.O 0 Tryz.f22 spec_l13Open.fh k [.imm (.I .u8 l0)] [] = (spec_l13Open.f l0).map (spec_l13Open.en) := by
  rw [spec_l13Open.ef]
  simp only [spec_l13Open.f, R.map_ite, R.map_bind, R.map_none, R.map_some, R.wr64_eq]
theorem spec_l13Open.ok (k : Nat) : spec_l13Open.tw.Ok Tryz.prog k := by
  intro md hmd a r h
  refine fn_ok (H := xhn) (fh := spec_l13Open.fh) (O := spec_l13Open.O) (k := k) Tryz.func22 (by kernel_rfl) (by kernel_rfl) (fun j _ => noO_sound) (by kernel_rfl) (m := 0) rfl ?_
  refine (spec_l13Open.sf k a).trans ?_
  exact congrArg (Option.map _) h
def spec_l13Rd_pick.f (a1 : Int) (l2_0 : List Int) (a2_1 : Int) : Option (Int × (List Int) × Int) := (if a1 < 1 then (some (0, l2_0, (wrap64 (a2_1 + 1)))) else (if (l2_0.length : Int) = 0 then (some (0, l2_0, (wrap64 (a2_1 + 1)))) else (if (wrap64 ((wrap64 (a2_1 + 1)) - 1)) < (l2_0.length : Int) then (if 0 ≤ (wrap64 ((wrap64 (a2_1 + 1)) - 1)) then (if a1 = 0 then none else (some (((wrap64 ((rdI l2_0 (wrap64 ((wrap64 (a2_1 + 1)) - 1))))).tmod a1), l2_0, (wrap64 (a2_1 + 1))))) else none) else (if 0 ≤ ((wrap64 ((wrap64 (a2_1 + 1)) - 1)).tmod (l2_0.length : Int)) then (if ((wrap64 ((wrap64 (a2_1 + 1)) - 1)).tmod (l2_0.length : Int)) < (l2_0.length : Int) then (if 0 ≤ ((wrap64 ((wrap64 ((wrap64 ((wrap64 (a2_1 + 1)) - 1)) * 7)) + 3)).tmod (l2_0.length : Int)) then (if ((wrap64 ((wrap64 ((wrap64 ((wrap64 (a2_1 + 1)) - 1)) * 7)) + 3)).tmod (l2_0.length : Int)) < (l2_0.length : Int) then (if a1 = 0 then none else (some (((xorK .i64 (wrap64 ((wrap64 ((wrap64 ((wrap64 ((wrap64 ((rdI l2_0 ((wrap64 ((wrap64 (a2_1 + 1)) - 1)).tmod (l2_0.length : Int))))) * 131)) + (wrap64 ((wrap64 ((rdI l2_0 ((wrap64 ((wrap64 ((wrap64 ((wrap64 (a2_1 + 1)) - 1)) * 7)) + 3)).tmod (l2_0.length : Int))))) * 1117)))) + (wrap64 ((wrap64 ((wrap64 (a2_1 + 1)) - 1)) * 29)))) + (wrap64 ((wrap64 ((wrap64 ((wrap64 (a2_1 + 1)) - 1)).tdiv (l2_0.length : Int))) * 53)))) (wrap64 ((wrap64 ((wrap64 ((wrap64 ((wrap64 ((wrap64 ((rdI l2_0 ((wrap64 ((wrap64 (a2_1 + 1)) - 1)).tmod (l2_0.length : Int))))) * 131)) + (wrap64 ((wrap64 ((rdI l2_0 ((wrap64 ((wrap64 ((wrap64 ((wrap64 (a2_1 + 1)) - 1)) * 7)) + 3)).tmod (l2_0.length : Int))))) * 1117)))) + (wrap64 ((wrap64 ((wrap64 (a2_1 + 1)) - 1)) * 29)))) + (wrap64 ((wrap64 ((wrap64 ((wrap64 (a2_1 + 1)) - 1)).tdiv (l2_0.length : Int))) * 53)))).tdiv 64))).tmod a1), l2_0, (wrap64 (a2_1 + 1))))) else none) else none) else none) else none))))
def spec_l13Rd_pick.en (r : Int × (List Int) × Int) : Res := (.int .i64 r.1, [.box false [.imm (.I .u8 r.2.1), .int .i64 r.2.2]])
def spec_l13Rd_pick.dec : List AV → List R.Obj → Option (Int × (List Int) × Int)
  | [.ptr 0 0, .int .i64 a1], [.box false [.imm (.I .u8 l2_0), .int .i64 a2_1]] => some (a1, l2_0, a2_1)
  | _, _ => none
def spec_l13Rd_pick.tw : Tw := ⟨49, Int × (List Int) × Int, Int × (List Int) × Int, spec_l13Rd_pick.dec, fun a => [.ptr 0 0, .int .i64 a.1], fun a => [.box false [.imm (.I .u8 a.2.1), .int .i64 a.2.2]], fun k a => spec_l13Rd_pick.f a.1 a.2.1 a.2.2, fun a r => spec_l13Rd_pick.en r, true⟩
theorem spec_l13Rd_pick.dok : spec_l13Rd_pick.tw.DecOk := by
  intro args hc a h
  have h : spec_l13Rd_pick.dec args hc = some a := h
  unfold spec_l13Rd_pick.dec at h
  split at h
  · cases h; exact ⟨rfl, rfl⟩
  · cases h
noncomputable def spec_l13Rd_pick.O (k : Nat) : Oracle := noO
def spec_l13Rd_pick.fh : FH := ⟨fun i => match i with | _ => none, [], false⟩
set_option maxRecDepth 100000 in
theorem spec_l13Rd_pick.ef (k : Nat) (a1 : Int) (l2_0 : List Int) (a2_1 : Int) : R.start Tryz.prog xhn spec_l13Rd_pick.O 1 Tryz.f49 spec_l13Rd_pick.fh k [.ptr 0 0, .int .i64 a1] [.box false [.imm (.I .u8 l2_0), .int .i64 a2_1]] = (if a1 < 1 then (some (spec_l13Rd_pick.en (0, l2_0, (wr64 (a2_1 + 1))))) else (if (l2_0.length : Int) = 0 then (some (spec_l13Rd_pick.en (0, l2_0, (wr64 (a2_1 + 1))))) else (if (wr64 ((wr64 (a2_1 + 1)) - 1)) < (l2_0.length : Int) then (if 0 ≤ (wr64 ((wr64 (a2_1 + 1)) - 1)) then (if a1 = 0 then none else (some (spec_l13Rd_pick.en (((wr64 ((rdI l2_0 (wr64 ((wr64 (a2_1 + 1)) - 1))))).tmod a1), l2_0, (wr64 (a2_1 + 1)))))) else none) else (if 0 ≤ ((wr64 ((wr64 (a2_1 + 1)) - 1)).tmod (l2_0.length : Int)) then (if ((wr64 ((wr64 (a2_1 + 1)) - 1)).tmod (l2_0.length : Int)) < (l2_0.length : Int) then (if 0 ≤ ((wr64 ((wr64 ((wr64 ((wr64 (a2_1 + 1)) - 1)) * 7)) + 3)).tmod (l2_0.length : Int)) then (if ((wr64 ((wr64 ((wr64 ((wr64 (a2_1 + 1)) - 1)) * 7)) + 3)).tmod (l2_0.length : Int)) < (l2_0.length : Int) then (if a1 = 0 then none else (some (spec_l13Rd_pick.en (((xorK .i64 (wr64 ((wr64 ((wr64 ((wr64 ((wr64 ((rdI l2_0 ((wr64 ((wr64 (a2_1 + 1)) - 1)).tmod (l2_0.length : Int))))) * 131)) + (wr64 ((wr64 ((rdI l2_0 ((wr64 ((wr64 ((wr64 ((wr64 (a2_1 + 1)) - 1)) * 7)) + 3)).tmod (l2_0.length : Int))))) * 1117)))) + (wr64 ((wr64 ((wr64 (a2_1 + 1)) - 1)) * 29)))) + (wr64 ((wr64 ((wr64 ((wr64 (a2_1 + 1)) - 1)).tdiv (l2_0.length : Int))) * 53)))) (wr64 ((wr64 ((wr64 ((wr64 ((wr64 ((wr64 ((rdI l2_0 ((wr64 ((wr64 (a2_1 + 1)) - 1)).tmod (l2_0.length : Int))))) * 131)) + (wr64 ((wr64 ((rdI l2_0 ((wr64 ((wr64 ((wr64 ((wr64 (a2_1 + 1)) - 1)) * 7)) + 3)).tmod (l2_0.length : Int))))) * 1117)))) + (wr64 ((wr64 ((wr64 (a2_1 + 1)) - 1)) * 29)))) + (wr64 ((wr64 ((wr64 ((wr64 (a2_1 + 1)) - 1)).tdiv (l2_0.length : Int))) * 53)))).tdiv 64))).tmod a1), l2_0, (wr64 (a2_1 + 1)))))) else none) else none) else none) else none)))) := by
  refine Eq.trans ?_ (R.icong (fun h0 => rfl) (fun h0 => (R.icong (fun h1 => rfl) (fun h1 => (R.icong (fun h2 => (R.icong (fun h3 => (R.idropT (p := (wr64 ((wr64 (a2_1 + 1)) - 1)) < (l2_0.length : Int)) (z := none) h2 rfl)) (fun h3 => rfl))) (fun h2 => (R.idropF (p := (l2_0.length : Int) = 0) (z := none) h1 (R.icong (fun h3 => (R.icong (fun h4 => (R.idropF (p := (l2_0.length : Int) = 0) (z := none) h1 (R.icong (fun h5 => (R.icong (fun h6 => (R.idropF (p := (l2_0.length : Int) = 0) (z := none) h1 rfl)) (fun h6 => rfl))) (fun h5 => rfl)))) (fun h4 => rfl))) (fun h3 => rfl)))))))))
  kernel_rfl
theorem spec_l13Rd_pick.sf (k : Nat) (a1 : Int) (l2_0 : List Int) (a2_1 : Int) : R.start Tryz.prog xhn spec_l13Rd_pick.O 1 Tryz.f49 spec_l13Rd_pick.fh k [.ptr 0 0, .int .i64 a1] [.box false [.imm (.I .u8 l2_0), .int .i64 a2_1]] = (spec_l13Rd_pick.f a1 l2_0 a2_1).map (spec_l13Rd_pick.en) := by
  rw [spec_l13Rd_pick.ef]
  simp only [spec_l13Rd_pick.f, R.map_ite, R.map_bind, R.map_none, R.map_some, R.wr64_eq]
theorem spec_l13Rd_pick.ok (k : Nat) : spec_l13Rd_pick.tw.Ok Tryz.prog k := by
  intro md hmd a r h
  refine fn_ok (H := xhn) (fh := spec_l13Rd_pick.fh) (O := spec_l13Rd_pick.O) (k := k) Tryz.func49 (by kernel_rfl) (by kernel_rfl) (fun j _ => noO_sound) (by kernel_rfl) (m := 1) rfl ?_
  refine (spec_l13Rd_pick.sf k a.1 a.2.1 a.2.2).trans ?_
  exact congrArg (Option.map _) h
def spec_l13Cut.l0 : Nat → ByteArray → Int → (List ByteArray) → Int → Int → Option (List ByteArray)
  | 0, _, _, _, _, _ => none
  | k + 1, x0, x1, y0, x6, x7 => (if x7 ≤ (x0.size : Int) then (if x7 = (x0.size : Int) then (if 0 ≤ x6 then (if x6 ≤ x7 then (if y0.length < 8796093022208 then (spec_l13Cut.l0 k x0 x1 (y0 ++ [(x0.extract x6.toNat x7.toNat)]) (wrap64 (x7 + 1)) (wrap64 (x7 + 1))) else none) else none) else none) else (if 0 ≤ x7 then (if x7 < (x0.size : Int) then (if (btI x0 x7) = x1 then (if 0 ≤ x6 then (if x6 ≤ x7 then (if y0.length < 8796093022208 then (spec_l13Cut.l0 k x0 x1 (y0 ++ [(x0.extract x6.toNat x7.toNat)]) (wrap64 (x7 + 1)) (wrap64 (x7 + 1))) else none) else none) else none) else (spec_l13Cut.l0 k x0 x1 y0 x6 (wrap64 (x7 + 1)))) else none) else none)) else (some y0))
def spec_l13Cut.f (k : Nat) (a0 : ByteArray) (a1 : Int) : Option (List ByteArray) := (spec_l13Cut.l0 k a0 a1 ([] : List ByteArray) 0 0)
def spec_l13Cut.en (r : List ByteArray) : Res := (.sl 0 0, [.arr 9 0 (.S r) false])
def spec_l13Cut.dec : List AV → List R.Obj → Option (ByteArray × Int)
  | [.str a0, .int .u8 a1], [] => some (a0, a1)
  | _, _ => none
def spec_l13Cut.tw : Tw := ⟨123, ByteArray × Int, List ByteArray, spec_l13Cut.dec, fun a => [.str a.1, .int .u8 a.2], fun a => [], fun k a => spec_l13Cut.f k a.1 a.2, fun a r => spec_l13Cut.en r, true⟩
theorem spec_l13Cut.dok : spec_l13Cut.tw.DecOk := by
  intro args hc a h
  have h : spec_l13Cut.dec args hc = some a := h
  unfold spec_l13Cut.dec at h
  split at h
  · cases h; exact ⟨rfl, rfl⟩
  · cases h
noncomputable def spec_l13Cut.O (k : Nat) : Oracle := noO
def spec_l13Cut.fh : FH := ⟨fun i => match i with | 4 => some [(0, 0), (1, 0), (5, 0), (6, 0), (7, 0)] | _ => none, [(true, 9)], false⟩
noncomputable def spec_l13Cut.x0 (k : Nat) (x0 : ByteArray) (x1 : Int) (y0 : List ByteArray) (x6 : Int) (x7 : Int) : Option Res := R.exec Tryz.prog xhn spec_l13Cut.O 0 Tryz.f123 spec_l13Cut.fh k (R.point Tryz.f123 4) ⟨[(0, .str x0), (1, .int .u8 x1), (5, .sl 0 0), (6, .int .i64 x6), (7, .int .i64 x7)], [(0, .arr 9 0 (.S y0) false)], 3⟩
set_option maxRecDepth 100000 in
theorem spec_l13Cut.e0 (k : Nat) (x0 : ByteArray) (x1 : Int) (y0 : List ByteArray) (x6 : Int) (x7 : Int) : spec_l13Cut.x0 (k + 1) x0 x1 y0 x6 x7 = (if x7 ≤ (x0.size : Int) then (if x7 = (x0.size : Int) then (if 0 ≤ x6 then (if x6 ≤ x7 then (if y0.length < 8796093022208 then (spec_l13Cut.x0 k x0 x1 (y0 ++ [(x0.extract x6.toNat x7.toNat)]) (wr64 (x7 + 1)) (wr64 (x7 + 1))) else none) else none) else none) else (if 0 ≤ x7 then (if x7 < (x0.size : Int) then (if (btI x0 x7) = x1 then (if 0 ≤ x6 then (if x6 ≤ x7 then (if y0.length < 8796093022208 then (spec_l13Cut.x0 k x0 x1 (y0 ++ [(x0.extract x6.toNat x7.toNat)]) (wr64 (x7 + 1)) (wr64 (x7 + 1))) else none) else none) else none) else (spec_l13Cut.x0 k x0 x1 y0 x6 (wr64 (x7 + 1)))) else none) else none)) else (some (spec_l13Cut.en y0))) := by
  refine Eq.trans ?_ (R.icong (fun h0 => (R.icong (fun h1 => (R.icong (fun h2 => (R.icong (fun h3 => (R.idropT (p := x7 ≤ (x0.size : Int)) (z := none) h0 rfl)) (fun h3 => rfl))) (fun h2 => rfl))) (fun h1 => (R.icong (fun h2 => (R.icong (fun h3 => (R.icong (fun h4 => (R.icong (fun h5 => (R.icong (fun h6 => (R.idropT (p := x7 ≤ (x0.size : Int)) (z := none) h0 rfl)) (fun h6 => rfl))) (fun h5 => rfl))) (fun h4 => rfl))) (fun h3 => rfl))) (fun h2 => rfl))))) (fun h0 => rfl))
  kernel_rfl
set_option maxRecDepth 100000 in
theorem spec_l13Cut.ef (k : Nat) (a0 : ByteArray) (a1 : Int) : R.start Tryz.prog xhn spec_l13Cut.O 0 Tryz.f123 spec_l13Cut.fh k [.str a0, .int .u8 a1] [] = (spec_l13Cut.x0 k a0 a1 ([] : List ByteArray) 0 0) := by kernel_rfl
theorem spec_l13Cut.link : ∀ k, (∀ (x0 : ByteArray) (x1 : Int) (y0 : List ByteArray) (x6 : Int) (x7 : Int), spec_l13Cut.x0 k x0 x1 y0 x6 x7 = (spec_l13Cut.l0 k x0 x1 y0 x6 x7).map (spec_l13Cut.en))
  | 0 => fun _ _ _ _ _ => by simp only [spec_l13Cut.l0, R.map_none]; rfl
  | k + 1 => by
    have ih0 := spec_l13Cut.link k
    · intro x0 x1 y0 x6 x7
      rw [spec_l13Cut.e0]
      simp only [spec_l13Cut.l0, R.map_ite, R.map_bind, R.map_none, R.map_some, R.wr64_eq, ← ih0]
theorem spec_l13Cut.sf (k : Nat) (a0 : ByteArray) (a1 : Int) : R.start Tryz.prog xhn spec_l13Cut.O 0 Tryz.f123 spec_l13Cut.fh k [.str a0, .int .u8 a1] [] = (spec_l13Cut.f k a0 a1).map (spec_l13Cut.en) := by
  have ih0 := spec_l13Cut.link k
  rw [spec_l13Cut.ef]
  simp only [spec_l13Cut.f, R.map_ite, R.map_bind, R.map_none, R.map_some, R.wr64_eq, ← ih0]
theorem spec_l13Cut.ok (k : Nat) : spec_l13Cut.tw.Ok Tryz.prog k := by
  intro md hmd a r h
  refine fn_ok (H := xhn) (fh := spec_l13Cut.fh) (O := spec_l13Cut.O) (k := k) Tryz.func123 (by kernel_rfl) (by kernel_rfl) (fun j _ => noO_sound) (by kernel_rfl) (m := 0) rfl ?_
  refine (spec_l13Cut.sf k a.1 a.2).trans ?_
  exact congrArg (Option.map _) h
def spec_l13Num.l0 : Nat → ByteArray → Bool → Int → Int → Option (Int × Bool)
  | 0, _, _, _, _ => none
  | k + 1, x0, x4, x5, x6 => (if x6 < (x0.size : Int) then (if 0 ≤ x6 then (if (btI x0 x6) < 48 then (some (0, false)) else (if (btI x0 x6) > 57 then (some (0, false)) else (spec_l13Num.l0 k x0 x4 (wrap64 ((wrap64 (x5 * 10)) + (wrap64 ((((btI x0 x6) - 48) % 256))))) (wrap64 (x6 + 1))))) else none) else (if x4 = true then (some ((wrap64 (0 - x5)), true)) else (some (x5, true))))
def spec_l13Num.f (k : Nat) (a0 : ByteArray) : Option (Int × Bool) := (if (a0.size : Int) > 0 then (if 0 < (a0.size : Int) then (if (btI a0 0) = 45 then (if 1 ≤ (a0.size : Int) then (if (a0.size : Int) ≤ (a0.size : Int) then (if ((a0.extract 1 a0.size).size : Int) = 0 then (some (0, false)) else (if ((a0.extract 1 a0.size).size : Int) > 17 then (some (0, false)) else (if 0 < ((a0.extract 1 a0.size).size : Int) then (if (btI (a0.extract 1 a0.size) 0) = 48 then (if ((a0.extract 1 a0.size).size : Int) > 1 then (some (0, false)) else (some (0, false))) else (spec_l13Num.l0 k (a0.extract 1 a0.size) (decide ((btI a0 0) = 45)) 0 0)) else none))) else none) else none) else (if (a0.size : Int) = 0 then (some (0, false)) else (if (a0.size : Int) > 17 then (some (0, false)) else (if (btI a0 0) = 48 then (if (a0.size : Int) > 1 then (some (0, false)) else (spec_l13Num.l0 k a0 (decide ((btI a0 0) = 45)) 0 0)) else (spec_l13Num.l0 k a0 (decide ((btI a0 0) = 45)) 0 0))))) else none) else (if (a0.size : Int) = 0 then (some (0, false)) else (if (a0.size : Int) > 17 then (some (0, false)) else (if 0 < (a0.size : Int) then (if (btI a0 0) = 48 then (if (a0.size : Int) > 1 then (some (0, false)) else (spec_l13Num.l0 k a0 false 0 0)) else (spec_l13Num.l0 k a0 false 0 0)) else none))))
def spec_l13Num.en (r : Int × Bool) : Res := (.tup [.int .i64 r.1, .lit r.2], [])
def spec_l13Num.dec : List AV → List R.Obj → Option (ByteArray)
  | [.str a0], [] => some a0
  | _, _ => none
def spec_l13Num.tw : Tw := ⟨124, ByteArray, Int × Bool, spec_l13Num.dec, fun a => [.str a], fun a => [], fun k a => spec_l13Num.f k a, fun a r => spec_l13Num.en r, true⟩
theorem spec_l13Num.dok : spec_l13Num.tw.DecOk := by
  intro args hc a h
  have h : spec_l13Num.dec args hc = some a := h
  unfold spec_l13Num.dec at h
  split at h
  · cases h; exact ⟨rfl, rfl⟩
  · cases h
noncomputable def spec_l13Num.O (k : Nat) : Oracle := noO
def spec_l13Num.fh : FH := ⟨fun i => match i with | 8 => some [(0, 0), (4, 0), (5, 0), (6, 0)] | _ => none, [], false⟩
noncomputable def spec_l13Num.x0 (k : Nat) (x0 : ByteArray) (x4 : Bool) (x5 : Int) (x6 : Int) : Option Res := R.exec Tryz.prog xhn spec_l13Num.O 0 Tryz.f124 spec_l13Num.fh k (R.point Tryz.f124 8) ⟨[(0, .str x0), (4, .lit x4), (5, .int .i64 x5), (6, .int .i64 x6)], [], 2⟩
set_option maxRecDepth 100000 in
theorem spec_l13Num.e0 (k : Nat) (x0 : ByteArray) (x4 : Bool) (x5 : Int) (x6 : Int) : spec_l13Num.x0 (k + 1) x0 x4 x5 x6 = (if x6 < (x0.size : Int) then (if 0 ≤ x6 then (if (btI x0 x6) < 48 then (some (spec_l13Num.en (0, false))) else (if (btI x0 x6) > 57 then (some (spec_l13Num.en (0, false))) else (spec_l13Num.x0 k x0 x4 (wr64 ((wr64 (x5 * 10)) + (wr64 ((((btI x0 x6) - 48) % 256))))) (wr64 (x6 + 1))))) else none) else (if x4 = true then (some (spec_l13Num.en ((wr64 (0 - x5)), true))) else (some (spec_l13Num.en (x5, true))))) := by
  refine Eq.trans ?_ (R.icong (fun h0 => (R.icong (fun h1 => (R.idropT (p := x6 < (x0.size : Int)) (z := none) h0 (R.icong (fun h2 => rfl) (fun h2 => (R.idropT (p := 0 ≤ x6) (z := none) h1 (R.idropT (p := x6 < (x0.size : Int)) (z := none) h0 (R.icong (fun h3 => rfl) (fun h3 => (R.idropT (p := 0 ≤ x6) (z := none) h1 (R.idropT (p := x6 < (x0.size : Int)) (z := none) h0 rfl)))))))))) (fun h1 => rfl))) (fun h0 => rfl))
  kernel_rfl
set_option maxRecDepth 100000 in
theorem spec_l13Num.ef (k : Nat) (a0 : ByteArray) : R.start Tryz.prog xhn spec_l13Num.O 0 Tryz.f124 spec_l13Num.fh k [.str a0] [] = (if (a0.size : Int) > 0 then (if 0 < (a0.size : Int) then (if (btI a0 0) = 45 then (if 1 ≤ (a0.size : Int) then (if (a0.size : Int) ≤ (a0.size : Int) then (if ((a0.extract 1 a0.size).size : Int) = 0 then (some (spec_l13Num.en (0, false))) else (if ((a0.extract 1 a0.size).size : Int) > 17 then (some (spec_l13Num.en (0, false))) else (if 0 < ((a0.extract 1 a0.size).size : Int) then (if (btI (a0.extract 1 a0.size) 0) = 48 then (if ((a0.extract 1 a0.size).size : Int) > 1 then (some (spec_l13Num.en (0, false))) else (some (spec_l13Num.en (0, false)))) else (spec_l13Num.x0 k (a0.extract 1 a0.size) (decide ((btI a0 0) = 45)) 0 0)) else none))) else none) else none) else (if (a0.size : Int) = 0 then (some (spec_l13Num.en (0, false))) else (if (a0.size : Int) > 17 then (some (spec_l13Num.en (0, false))) else (if (btI a0 0) = 48 then (if (a0.size : Int) > 1 then (some (spec_l13Num.en (0, false))) else (spec_l13Num.x0 k a0 (decide ((btI a0 0) = 45)) 0 0)) else (spec_l13Num.x0 k a0 (decide ((btI a0 0) = 45)) 0 0))))) else none) else (if (a0.size : Int) = 0 then (some (spec_l13Num.en (0, false))) else (if (a0.size : Int) > 17 then (some (spec_l13Num.en (0, false))) else (if 0 < (a0.size : Int) then (if (btI a0 0) = 48 then (if (a0.size : Int) > 1 then (some (spec_l13Num.en (0, false))) else (spec_l13Num.x0 k a0 false 0 0)) else (spec_l13Num.x0 k a0 false 0 0)) else none)))) := by
  refine Eq.trans ?_ (R.icong (fun h0 => (R.icong (fun h1 => (R.icong (fun h2 => (R.icong (fun h3 => (R.icong (fun h4 => (R.icong (fun h5 => rfl) (fun h5 => (R.icong (fun h6 => rfl) (fun h6 => (R.icong (fun h7 => (R.icong (fun h8 => (R.icong (fun h9 => rfl) (fun h9 => (R.idropT (p := (btI a0 0) = 45) (z := (spec_l13Num.x0 k (a0.extract 1 a0.size) (decide ((btI a0 0) = 45)) 0 0)) h2 rfl)))) (fun h8 => rfl))) (fun h7 => rfl))))))) (fun h4 => rfl))) (fun h3 => rfl))) (fun h2 => (R.icong (fun h3 => rfl) (fun h3 => (R.icong (fun h4 => rfl) (fun h4 => (R.idropT (p := 0 < (a0.size : Int)) (z := none) h1 (R.icong (fun h5 => (R.icong (fun h6 => rfl) (fun h6 => (R.idropF (p := (btI a0 0) = 45) (z := (some (spec_l13Num.en (0, false)))) h2 rfl)))) (fun h5 => rfl)))))))))) (fun h1 => rfl))) (fun h0 => rfl))
  kernel_rfl
theorem spec_l13Num.link : ∀ k, (∀ (x0 : ByteArray) (x4 : Bool) (x5 : Int) (x6 : Int), spec_l13Num.x0 k x0 x4 x5 x6 = (spec_l13Num.l0 k x0 x4 x5 x6).map (spec_l13Num.en))
  | 0 => fun _ _ _ _ => by simp only [spec_l13Num.l0, R.map_none]; rfl
  | k + 1 => by
    have ih0 := spec_l13Num.link k
    · intro x0 x4 x5 x6
      rw [spec_l13Num.e0]
      simp only [spec_l13Num.l0, R.map_ite, R.map_bind, R.map_none, R.map_some, R.wr64_eq, ← ih0]
theorem spec_l13Num.sf (k : Nat) (a0 : ByteArray) : R.start Tryz.prog xhn spec_l13Num.O 0 Tryz.f124 spec_l13Num.fh k [.str a0] [] = (spec_l13Num.f k a0).map (spec_l13Num.en) := by
  have ih0 := spec_l13Num.link k
  rw [spec_l13Num.ef]
  simp only [spec_l13Num.f, R.map_ite, R.map_bind, R.map_none, R.map_some, R.wr64_eq, ← ih0]
theorem spec_l13Num.ok (k : Nat) : spec_l13Num.tw.Ok Tryz.prog k := by
  intro md hmd a r h
  refine fn_ok (H := xhn) (fh := spec_l13Num.fh) (O := spec_l13Num.O) (k := k) Tryz.func124 (by kernel_rfl) (by kernel_rfl) (fun j _ => noO_sound) (by kernel_rfl) (m := 0) rfl ?_
  refine (spec_l13Num.sf k a).trans ?_
  exact congrArg (Option.map _) h
def spec_l3Read.l0 : Nat → (List Int) → (List ByteArray) → Int → Int → Option ((List Int) × Bool)
  | 0, _, _, _, _ => none
  | k + 1, y0, y1, x15, x16 => (if x16 < x15 then (if 0 ≤ x16 then (if x16 < (y1.length : Int) then ((spec_l13Num.f k (rdS y1 x16)).bind fun t2 => (if t2.2 = true then (if y0.length < 17592186044416 then (spec_l3Read.l0 k (y0 ++ [t2.1]) y1 x15 (wrap64 (x16 + 1))) else none) else (some (([] : List Int), false)))) else none) else none) else (some (y0, true)))
def spec_l3Read.f (k : Nat) (a0 : ByteArray) : Option ((List Int) × Bool) := (if a0.toList = ([] : List UInt8) then (some (([] : List Int), true)) else ((spec_l13Cut.f k a0 32).bind fun t1 => (spec_l3Read.l0 k ([] : List Int) t1 (t1.length : Int) 0)))
def spec_l3Read.en (r : (List Int) × Bool) : Res := (.tup [.sl 0 0, .lit r.2], [.arr 3 0 (.I .i64 r.1) false])
def spec_l3Read.dec : List AV → List R.Obj → Option (ByteArray)
  | [.str a0], [] => some a0
  | _, _ => none
def spec_l3Read.tw : Tw := ⟨125, ByteArray, (List Int) × Bool, spec_l3Read.dec, fun a => [.str a], fun a => [], fun k a => spec_l3Read.f k a, fun a r => spec_l3Read.en r, true⟩
theorem spec_l3Read.dok : spec_l3Read.tw.DecOk := by
  intro args hc a h
  have h : spec_l3Read.dec args hc = some a := h
  unfold spec_l3Read.dec at h
  split at h
  · cases h; exact ⟨rfl, rfl⟩
  · cases h
noncomputable def spec_l3Read.O (k : Nat) : Oracle := (spec_l13Cut.tw.orc k (spec_l13Num.tw.orc k noO))
def spec_l3Read.fh : FH := ⟨fun i => match i with | 5 => some [(4, 0), (14, 0), (15, 0), (16, 0)] | _ => none, [(true, 3)], false⟩
noncomputable def spec_l3Read.x0 (k : Nat) (y0 : List Int) (y1 : List ByteArray) (x15 : Int) (x16 : Int) : Option Res := R.exec Tryz.prog xhn spec_l3Read.O 0 Tryz.f125 spec_l3Read.fh k (R.point Tryz.f125 5) ⟨[(4, .sl 0 0), (14, .sl 1 0), (15, .int .i64 x15), (16, .int .i64 x16)], [(0, .arr 3 0 (.I .i64 y0) false), (1, .arr 9 0 (.S y1) false)], 4⟩
set_option maxRecDepth 100000 in
theorem spec_l3Read.e0 (k : Nat) (y0 : List Int) (y1 : List ByteArray) (x15 : Int) (x16 : Int) : spec_l3Read.x0 (k + 1) y0 y1 x15 x16 = (if x16 < x15 then (if 0 ≤ x16 then (if x16 < (y1.length : Int) then ((spec_l13Num.f k (rdS y1 x16)).bind fun t2 => (if t2.2 = true then (if y0.length < 17592186044416 then (spec_l3Read.x0 k (y0 ++ [t2.1]) y1 x15 (wr64 (x16 + 1))) else none) else (some (spec_l3Read.en (([] : List Int), false))))) else none) else none) else (some (spec_l3Read.en (y0, true)))) := by kernel_rfl
set_option maxRecDepth 100000 in
theorem spec_l3Read.ef (k : Nat) (a0 : ByteArray) : R.start Tryz.prog xhn spec_l3Read.O 0 Tryz.f125 spec_l3Read.fh k [.str a0] [] = (if a0.toList = ([] : List UInt8) then (some (spec_l3Read.en (([] : List Int), true))) else ((spec_l13Cut.f k a0 32).bind fun t1 => (spec_l3Read.x0 k ([] : List Int) t1 (t1.length : Int) 0))) := by kernel_rfl
theorem spec_l3Read.link : ∀ k, (∀ (y0 : List Int) (y1 : List ByteArray) (x15 : Int) (x16 : Int), spec_l3Read.x0 k y0 y1 x15 x16 = (spec_l3Read.l0 k y0 y1 x15 x16).map (spec_l3Read.en))
  | 0 => fun _ _ _ _ => by simp only [spec_l3Read.l0, R.map_none]; rfl
  | k + 1 => by
    have ih0 := spec_l3Read.link k
    · intro y0 y1 x15 x16
      rw [spec_l3Read.e0]
      simp only [spec_l3Read.l0, R.map_ite, R.map_bind, R.map_none, R.map_some, R.wr64_eq, ← ih0]
theorem spec_l3Read.sf (k : Nat) (a0 : ByteArray) : R.start Tryz.prog xhn spec_l3Read.O 0 Tryz.f125 spec_l3Read.fh k [.str a0] [] = (spec_l3Read.f k a0).map (spec_l3Read.en) := by
  have ih0 := spec_l3Read.link k
  rw [spec_l3Read.ef]
  simp only [spec_l3Read.f, R.map_ite, R.map_bind, R.map_none, R.map_some, R.wr64_eq, ← ih0]
theorem spec_l3Read.ok (k : Nat) : spec_l3Read.tw.Ok Tryz.prog k := by
  intro md hmd a r h
  refine fn_ok (H := xhn) (fh := spec_l3Read.fh) (O := spec_l3Read.O) (k := k) Tryz.func125 (by kernel_rfl) (by kernel_rfl) (fun j _ => (Tw.orc_sound spec_l13Cut.dok (spec_l13Cut.ok j) (fun _ => rfl) (Tw.orc_sound spec_l13Num.dok (spec_l13Num.ok j) (fun _ => rfl) noO_sound))) (by kernel_rfl) (m := 0) rfl ?_
  refine (spec_l3Read.sf k a).trans ?_
  exact congrArg (Option.map _) h
def spec_l1In.f (a0 : Int) (a1 : Int) (a2 : Int) : Option (Bool) := (if a0 ≥ a1 then (some (decide (a0 ≤ a2))) else (some false))
def spec_l1In.en (r : Bool) : Res := (.lit r, [])
def spec_l1In.dec : List AV → List R.Obj → Option (Int × Int × Int)
  | [.int .i64 a0, .int .i64 a1, .int .i64 a2], [] => some (a0, a1, a2)
  | _, _ => none
def spec_l1In.tw : Tw := ⟨41, Int × Int × Int, Bool, spec_l1In.dec, fun a => [.int .i64 a.1, .int .i64 a.2.1, .int .i64 a.2.2], fun a => [], fun k a => spec_l1In.f a.1 a.2.1 a.2.2, fun a r => spec_l1In.en r, true⟩
theorem spec_l1In.dok : spec_l1In.tw.DecOk := by
  intro args hc a h
  have h : spec_l1In.dec args hc = some a := h
  unfold spec_l1In.dec at h
  split at h
  · cases h; exact ⟨rfl, rfl⟩
  · cases h
noncomputable def spec_l1In.O (k : Nat) : Oracle := noO
def spec_l1In.fh : FH := ⟨fun i => match i with | _ => none, [], false⟩
set_option maxRecDepth 100000 in
theorem spec_l1In.ef (k : Nat) (a0 : Int) (a1 : Int) (a2 : Int) : R.start Tryz.prog xhn spec_l1In.O 0 Tryz.f41 spec_l1In.fh k [.int .i64 a0, .int .i64 a1, .int .i64 a2] [] = (if a0 ≥ a1 then (some (spec_l1In.en (decide (a0 ≤ a2)))) else (some (spec_l1In.en false))) := by kernel_rfl
theorem spec_l1In.sf (k : Nat) (a0 : Int) (a1 : Int) (a2 : Int) : R.start Tryz.prog xhn spec_l1In.O 0 Tryz.f41 spec_l1In.fh k [.int .i64 a0, .int .i64 a1, .int .i64 a2] [] = (spec_l1In.f a0 a1 a2).map (spec_l1In.en) := by
  rw [spec_l1In.ef]
  simp only [spec_l1In.f, R.map_ite, R.map_bind, R.map_none, R.map_some, R.wr64_eq]
theorem spec_l1In.ok (k : Nat) : spec_l1In.tw.Ok Tryz.prog k := by
  intro md hmd a r h
  refine fn_ok (H := xhn) (fh := spec_l1In.fh) (O := spec_l1In.O) (k := k) Tryz.func41 (by kernel_rfl) (by kernel_rfl) (fun j _ => noO_sound) (by kernel_rfl) (m := 0) rfl ?_
  refine (spec_l1In.sf k a.1 a.2.1 a.2.2).trans ?_
  exact congrArg (Option.map _) h
def spec_l3Marks.l0 : Nat → Int → (List Int) → (List Int) → Int → Int → Option (Bool)
  | 0, _, _, _, _, _ => none
  | k + 1, x0, x1, x7, x8, x9 => (if x9 < x8 then (if 0 ≤ x9 then (if x9 < (x7.length : Int) then ((spec_l1In.f (rdI x7 x9) 0 (wrap64 (x0 - 1))).bind fun t1 => (if t1 = true then (if x9 > 0 then (if 0 ≤ (wrap64 (x9 - 1)) then (if (wrap64 (x9 - 1)) < (x1.length : Int) then (if (rdI x1 (wrap64 (x9 - 1))) ≥ (rdI x7 x9) then (some false) else (spec_l3Marks.l0 k x0 x1 x7 x8 (wrap64 (x9 + 1)))) else none) else none) else (spec_l3Marks.l0 k x0 x1 x7 x8 (wrap64 (x9 + 1)))) else (some false))) else none) else none) else (some true))
def spec_l3Marks.f (k : Nat) (a0 : Int) (l1 : List Int) : Option (Bool) := (spec_l3Marks.l0 k a0 l1 l1 (l1.length : Int) 0)
def spec_l3Marks.en (r : Bool) : Res := (.lit r, [])
def spec_l3Marks.dec : List AV → List R.Obj → Option (Int × (List Int))
  | [.int .i64 a0, .imm (.I .i64 l1)], [] => some (a0, l1)
  | _, _ => none
def spec_l3Marks.tw : Tw := ⟨57, Int × (List Int), Bool, spec_l3Marks.dec, fun a => [.int .i64 a.1, .imm (.I .i64 a.2)], fun a => [], fun k a => spec_l3Marks.f k a.1 a.2, fun a r => spec_l3Marks.en r, true⟩
theorem spec_l3Marks.dok : spec_l3Marks.tw.DecOk := by
  intro args hc a h
  have h : spec_l3Marks.dec args hc = some a := h
  unfold spec_l3Marks.dec at h
  split at h
  · cases h; exact ⟨rfl, rfl⟩
  · cases h
noncomputable def spec_l3Marks.O (k : Nat) : Oracle := (spec_l1In.tw.orc k noO)
def spec_l3Marks.fh : FH := ⟨fun i => match i with | 2 => some [(0, 0), (1, 0), (7, 0), (8, 0), (9, 0)] | _ => none, [], false⟩
noncomputable def spec_l3Marks.x0 (k : Nat) (x0 : Int) (x1 : List Int) (x7 : List Int) (x8 : Int) (x9 : Int) : Option Res := R.exec Tryz.prog xhn spec_l3Marks.O 0 Tryz.f57 spec_l3Marks.fh k (R.point Tryz.f57 2) ⟨[(0, .int .i64 x0), (1, .imm (.I .i64 x1)), (7, .imm (.I .i64 x7)), (8, .int .i64 x8), (9, .int .i64 x9)], [], 2⟩
set_option maxRecDepth 100000 in
theorem spec_l3Marks.e0 (k : Nat) (x0 : Int) (x1 : List Int) (x7 : List Int) (x8 : Int) (x9 : Int) : spec_l3Marks.x0 (k + 1) x0 x1 x7 x8 x9 = (if x9 < x8 then (if 0 ≤ x9 then (if x9 < (x7.length : Int) then ((spec_l1In.f (rdI x7 x9) 0 (wr64 (x0 - 1))).bind fun t1 => (if t1 = true then (if x9 > 0 then (if 0 ≤ (wr64 (x9 - 1)) then (if (wr64 (x9 - 1)) < (x1.length : Int) then (if (rdI x1 (wr64 (x9 - 1))) ≥ (rdI x7 x9) then (some (spec_l3Marks.en false)) else (spec_l3Marks.x0 k x0 x1 x7 x8 (wr64 (x9 + 1)))) else none) else none) else (spec_l3Marks.x0 k x0 x1 x7 x8 (wr64 (x9 + 1)))) else (some (spec_l3Marks.en false)))) else none) else none) else (some (spec_l3Marks.en true))) := by kernel_rfl
set_option maxRecDepth 100000 in
theorem spec_l3Marks.ef (k : Nat) (a0 : Int) (l1 : List Int) : R.start Tryz.prog xhn spec_l3Marks.O 0 Tryz.f57 spec_l3Marks.fh k [.int .i64 a0, .imm (.I .i64 l1)] [] = (spec_l3Marks.x0 k a0 l1 l1 (l1.length : Int) 0) := by kernel_rfl
theorem spec_l3Marks.link : ∀ k, (∀ (x0 : Int) (x1 : List Int) (x7 : List Int) (x8 : Int) (x9 : Int), spec_l3Marks.x0 k x0 x1 x7 x8 x9 = (spec_l3Marks.l0 k x0 x1 x7 x8 x9).map (spec_l3Marks.en))
  | 0 => fun _ _ _ _ _ => by simp only [spec_l3Marks.l0, R.map_none]; rfl
  | k + 1 => by
    have ih0 := spec_l3Marks.link k
    · intro x0 x1 x7 x8 x9
      rw [spec_l3Marks.e0]
      simp only [spec_l3Marks.l0, R.map_ite, R.map_bind, R.map_none, R.map_some, R.wr64_eq, ← ih0]
theorem spec_l3Marks.sf (k : Nat) (a0 : Int) (l1 : List Int) : R.start Tryz.prog xhn spec_l3Marks.O 0 Tryz.f57 spec_l3Marks.fh k [.int .i64 a0, .imm (.I .i64 l1)] [] = (spec_l3Marks.f k a0 l1).map (spec_l3Marks.en) := by
  have ih0 := spec_l3Marks.link k
  rw [spec_l3Marks.ef]
  simp only [spec_l3Marks.f, R.map_ite, R.map_bind, R.map_none, R.map_some, R.wr64_eq, ← ih0]
theorem spec_l3Marks.ok (k : Nat) : spec_l3Marks.tw.Ok Tryz.prog k := by
  intro md hmd a r h
  refine fn_ok (H := xhn) (fh := spec_l3Marks.fh) (O := spec_l3Marks.O) (k := k) Tryz.func57 (by kernel_rfl) (by kernel_rfl) (fun j _ => (Tw.orc_sound spec_l1In.dok (spec_l1In.ok j) (fun _ => rfl) noO_sound)) (by kernel_rfl) (m := 0) rfl ?_
  refine (spec_l3Marks.sf k a.1 a.2).trans ?_
  exact congrArg (Option.map _) h
def spec_l3Step.f (a0 : Int) (a1_0 : Int) (a1_1 : ByteArray) (a1_2 : Int) (a1_3 : Int) : Option (Bool) := ((spec_l1In.f a1_0 0 (wrap64 (a0 - 1))).bind fun t1 => (if t1 = true then ((spec_l1In.f a1_2 0 (wrap64 (a0 - 1))).bind fun t2 => (if t2 = true then ((spec_l1In.f a1_3 0 3).bind fun t3 => (if t3 = true then (if a1_1.toList = ([97] : List UInt8) then (some true) else (some (decide (a1_1.toList = ([98] : List UInt8))))) else (some false))) else (some false))) else (some false)))
def spec_l3Step.en (r : Bool) : Res := (.lit r, [])
def spec_l3Step.dec : List AV → List R.Obj → Option (Int × Int × ByteArray × Int × Int)
  | [.int .i64 a0, .agg [.int .i64 a1_0, .str a1_1, .int .i64 a1_2, .int .i64 a1_3]], [] => some (a0, a1_0, a1_1, a1_2, a1_3)
  | _, _ => none
def spec_l3Step.tw : Tw := ⟨58, Int × Int × ByteArray × Int × Int, Bool, spec_l3Step.dec, fun a => [.int .i64 a.1, .agg [.int .i64 a.2.1, .str a.2.2.1, .int .i64 a.2.2.2.1, .int .i64 a.2.2.2.2]], fun a => [], fun k a => spec_l3Step.f a.1 a.2.1 a.2.2.1 a.2.2.2.1 a.2.2.2.2, fun a r => spec_l3Step.en r, true⟩
theorem spec_l3Step.dok : spec_l3Step.tw.DecOk := by
  intro args hc a h
  have h : spec_l3Step.dec args hc = some a := h
  unfold spec_l3Step.dec at h
  split at h
  · cases h; exact ⟨rfl, rfl⟩
  · cases h
noncomputable def spec_l3Step.O (k : Nat) : Oracle := (spec_l1In.tw.orc k noO)
def spec_l3Step.fh : FH := ⟨fun i => match i with | _ => none, [], false⟩
set_option maxRecDepth 100000 in
theorem spec_l3Step.ef (k : Nat) (a0 : Int) (a1_0 : Int) (a1_1 : ByteArray) (a1_2 : Int) (a1_3 : Int) : R.start Tryz.prog xhn spec_l3Step.O 0 Tryz.f58 spec_l3Step.fh k [.int .i64 a0, .agg [.int .i64 a1_0, .str a1_1, .int .i64 a1_2, .int .i64 a1_3]] [] = ((spec_l1In.f a1_0 0 (wr64 (a0 - 1))).bind fun t1 => (if t1 = true then ((spec_l1In.f a1_2 0 (wr64 (a0 - 1))).bind fun t2 => (if t2 = true then ((spec_l1In.f a1_3 0 3).bind fun t3 => (if t3 = true then (if a1_1.toList = ([97] : List UInt8) then (some (spec_l3Step.en true)) else (some (spec_l3Step.en (decide (a1_1.toList = ([98] : List UInt8)))))) else (some (spec_l3Step.en false)))) else (some (spec_l3Step.en false)))) else (some (spec_l3Step.en false)))) := by kernel_rfl
theorem spec_l3Step.sf (k : Nat) (a0 : Int) (a1_0 : Int) (a1_1 : ByteArray) (a1_2 : Int) (a1_3 : Int) : R.start Tryz.prog xhn spec_l3Step.O 0 Tryz.f58 spec_l3Step.fh k [.int .i64 a0, .agg [.int .i64 a1_0, .str a1_1, .int .i64 a1_2, .int .i64 a1_3]] [] = (spec_l3Step.f a0 a1_0 a1_1 a1_2 a1_3).map (spec_l3Step.en) := by
  rw [spec_l3Step.ef]
  simp only [spec_l3Step.f, R.map_ite, R.map_bind, R.map_none, R.map_some, R.wr64_eq]
theorem spec_l3Step.ok (k : Nat) : spec_l3Step.tw.Ok Tryz.prog k := by
  intro md hmd a r h
  refine fn_ok (H := xhn) (fh := spec_l3Step.fh) (O := spec_l3Step.O) (k := k) Tryz.func58 (by kernel_rfl) (by kernel_rfl) (fun j _ => (Tw.orc_sound spec_l1In.dok (spec_l1In.ok j) (fun _ => rfl) noO_sound)) (by kernel_rfl) (m := 0) rfl ?_
  refine (spec_l3Step.sf k a.1 a.2.1 a.2.2.1 a.2.2.2.1 a.2.2.2.2).trans ?_
  exact congrArg (Option.map _) h
def spec_l3Before.f (a0_0 : Int) (a0_1 : ByteArray) (a0_2 : Int) (a0_3 : Int) (a1_0 : Int) (a1_1 : ByteArray) (a1_2 : Int) (a1_3 : Int) : Option (Bool) := (if a0_0 = a1_0 then (if a0_1.toList = a1_1.toList then (some (decide (a0_2 < a1_2))) else (some (Op.bytesLess a0_1.toList a1_1.toList))) else (some (decide (a0_0 < a1_0))))
def spec_l3Before.en (r : Bool) : Res := (.lit r, [])
def spec_l3Before.dec : List AV → List R.Obj → Option (Int × ByteArray × Int × Int × Int × ByteArray × Int × Int)
  | [.agg [.int .i64 a0_0, .str a0_1, .int .i64 a0_2, .int .i64 a0_3], .agg [.int .i64 a1_0, .str a1_1, .int .i64 a1_2, .int .i64 a1_3]], [] => some (a0_0, a0_1, a0_2, a0_3, a1_0, a1_1, a1_2, a1_3)
  | _, _ => none
def spec_l3Before.tw : Tw := ⟨59, Int × ByteArray × Int × Int × Int × ByteArray × Int × Int, Bool, spec_l3Before.dec, fun a => [.agg [.int .i64 a.1, .str a.2.1, .int .i64 a.2.2.1, .int .i64 a.2.2.2.1], .agg [.int .i64 a.2.2.2.2.1, .str a.2.2.2.2.2.1, .int .i64 a.2.2.2.2.2.2.1, .int .i64 a.2.2.2.2.2.2.2]], fun a => [], fun k a => spec_l3Before.f a.1 a.2.1 a.2.2.1 a.2.2.2.1 a.2.2.2.2.1 a.2.2.2.2.2.1 a.2.2.2.2.2.2.1 a.2.2.2.2.2.2.2, fun a r => spec_l3Before.en r, true⟩
theorem spec_l3Before.dok : spec_l3Before.tw.DecOk := by
  intro args hc a h
  have h : spec_l3Before.dec args hc = some a := h
  unfold spec_l3Before.dec at h
  split at h
  · cases h; exact ⟨rfl, rfl⟩
  · cases h
noncomputable def spec_l3Before.O (k : Nat) : Oracle := noO
def spec_l3Before.fh : FH := ⟨fun i => match i with | _ => none, [], false⟩
set_option maxRecDepth 100000 in
theorem spec_l3Before.ef (k : Nat) (a0_0 : Int) (a0_1 : ByteArray) (a0_2 : Int) (a0_3 : Int) (a1_0 : Int) (a1_1 : ByteArray) (a1_2 : Int) (a1_3 : Int) : R.start Tryz.prog xhn spec_l3Before.O 0 Tryz.f59 spec_l3Before.fh k [.agg [.int .i64 a0_0, .str a0_1, .int .i64 a0_2, .int .i64 a0_3], .agg [.int .i64 a1_0, .str a1_1, .int .i64 a1_2, .int .i64 a1_3]] [] = (if a0_0 = a1_0 then (if a0_1.toList = a1_1.toList then (some (spec_l3Before.en (decide (a0_2 < a1_2)))) else (some (spec_l3Before.en (Op.bytesLess a0_1.toList a1_1.toList)))) else (some (spec_l3Before.en (decide (a0_0 < a1_0))))) := by kernel_rfl
theorem spec_l3Before.sf (k : Nat) (a0_0 : Int) (a0_1 : ByteArray) (a0_2 : Int) (a0_3 : Int) (a1_0 : Int) (a1_1 : ByteArray) (a1_2 : Int) (a1_3 : Int) : R.start Tryz.prog xhn spec_l3Before.O 0 Tryz.f59 spec_l3Before.fh k [.agg [.int .i64 a0_0, .str a0_1, .int .i64 a0_2, .int .i64 a0_3], .agg [.int .i64 a1_0, .str a1_1, .int .i64 a1_2, .int .i64 a1_3]] [] = (spec_l3Before.f a0_0 a0_1 a0_2 a0_3 a1_0 a1_1 a1_2 a1_3).map (spec_l3Before.en) := by
  rw [spec_l3Before.ef]
  simp only [spec_l3Before.f, R.map_ite, R.map_bind, R.map_none, R.map_some, R.wr64_eq]
theorem spec_l3Before.ok (k : Nat) : spec_l3Before.tw.Ok Tryz.prog k := by
  intro md hmd a r h
  refine fn_ok (H := xhn) (fh := spec_l3Before.fh) (O := spec_l3Before.O) (k := k) Tryz.func59 (by kernel_rfl) (by kernel_rfl) (fun j _ => noO_sound) (by kernel_rfl) (m := 0) rfl ?_
  refine (spec_l3Before.sf k a.1 a.2.1 a.2.2.1 a.2.2.2.1 a.2.2.2.2.1 a.2.2.2.2.2.1 a.2.2.2.2.2.2.1 a.2.2.2.2.2.2.2).trans ?_
  exact congrArg (Option.map _) h
def spec_AutomatonValid.l0 : Nat → (List Stp) → Int → Int → Int → (List Int) → (List Int) → (List Stp) → Option (Bool)
  | 0, _, _, _, _, _, _, _ => none
  | k + 1, x32, x33, x34, y0_0, y0_1, y0_2, y0_3 => (if x34 < x33 then (if 0 ≤ x34 then (if x34 < (x32.length : Int) then ((spec_l3Step.f y0_0 ((rdT x32 x34).f0) ((rdT x32 x34).f1) ((rdT x32 x34).f2) ((rdT x32 x34).f3)).bind fun t4 => (if t4 = true then (if x34 > 0 then (if 0 ≤ (wrap64 (x34 - 1)) then (if (wrap64 (x34 - 1)) < (y0_3.length : Int) then ((spec_l3Before.f ((rdT y0_3 (wrap64 (x34 - 1))).f0) ((rdT y0_3 (wrap64 (x34 - 1))).f1) ((rdT y0_3 (wrap64 (x34 - 1))).f2) ((rdT y0_3 (wrap64 (x34 - 1))).f3) ((rdT x32 x34).f0) ((rdT x32 x34).f1) ((rdT x32 x34).f2) ((rdT x32 x34).f3)).bind fun t5 => (if t5 = true then (spec_AutomatonValid.l0 k x32 x33 (wrap64 (x34 + 1)) y0_0 y0_1 y0_2 y0_3) else (some false))) else none) else none) else (spec_AutomatonValid.l0 k x32 x33 (wrap64 (x34 + 1)) y0_0 y0_1 y0_2 y0_3)) else (some false))) else none) else none) else (some true))
def spec_AutomatonValid.f (k : Nat) (a0_0 : Int) (l0_1 : List Int) (l0_2 : List Int) (l0_3 : List Stp) : Option (Bool) := ((spec_l1In.f a0_0 1 4).bind fun t1 => (if t1 = true then ((spec_l3Marks.f k a0_0 l0_1).bind fun t2 => (if t2 = true then ((spec_l3Marks.f k a0_0 l0_2).bind fun t3 => (if t3 = true then (if (l0_3.length : Int) > 24 then (some false) else (spec_AutomatonValid.l0 k l0_3 (l0_3.length : Int) 0 a0_0 l0_1 l0_2 l0_3)) else (some false))) else (some false))) else (some false)))
def spec_AutomatonValid.en (r : Bool) : Res := (.lit r, [])
def spec_AutomatonValid.dec : List AV → List R.Obj → Option (Int × (List Int) × (List Int) × (List Stp))
  | [.agg [.int .i64 a0_0, .imm (.I .i64 l0_1), .imm (.I .i64 l0_2), .imm (.T l0_3)]], [] => some (a0_0, l0_1, l0_2, l0_3)
  | _, _ => none
def spec_AutomatonValid.tw : Tw := ⟨26, Int × (List Int) × (List Int) × (List Stp), Bool, spec_AutomatonValid.dec, fun a => [.agg [.int .i64 a.1, .imm (.I .i64 a.2.1), .imm (.I .i64 a.2.2.1), .imm (.T a.2.2.2)]], fun a => [], fun k a => spec_AutomatonValid.f k a.1 a.2.1 a.2.2.1 a.2.2.2, fun a r => spec_AutomatonValid.en r, true⟩
theorem spec_AutomatonValid.dok : spec_AutomatonValid.tw.DecOk := by
  intro args hc a h
  have h : spec_AutomatonValid.dec args hc = some a := h
  unfold spec_AutomatonValid.dec at h
  split at h
  · cases h; exact ⟨rfl, rfl⟩
  · cases h
noncomputable def spec_AutomatonValid.O (k : Nat) : Oracle := (spec_l1In.tw.orc k (spec_l3Marks.tw.orc k (spec_l3Step.tw.orc k (spec_l3Before.tw.orc k noO))))
def spec_AutomatonValid.fh : FH := ⟨fun i => match i with | 4 => some [(1, 0), (32, 0), (33, 0), (34, 0)] | _ => none, [], false⟩
noncomputable def spec_AutomatonValid.x0 (k : Nat) (x32 : List Stp) (x33 : Int) (x34 : Int) (y0_0 : Int) (y0_1 : List Int) (y0_2 : List Int) (y0_3 : List Stp) : Option Res := R.exec Tryz.prog xhn spec_AutomatonValid.O 0 Tryz.f26 spec_AutomatonValid.fh k (R.point Tryz.f26 4) ⟨[(1, .ptr 0 0), (32, .imm (.T x32)), (33, .int .i64 x33), (34, .int .i64 x34)], [(0, .box false [.int .i64 y0_0, .imm (.I .i64 y0_1), .imm (.I .i64 y0_2), .imm (.T y0_3)])], 3⟩
set_option maxRecDepth 100000 in
theorem spec_AutomatonValid.e0 (k : Nat) (x32 : List Stp) (x33 : Int) (x34 : Int) (y0_0 : Int) (y0_1 : List Int) (y0_2 : List Int) (y0_3 : List Stp) : spec_AutomatonValid.x0 (k + 1) x32 x33 x34 y0_0 y0_1 y0_2 y0_3 = (if x34 < x33 then (if 0 ≤ x34 then (if x34 < (x32.length : Int) then ((spec_l3Step.f y0_0 ((rdT x32 x34).f0) ((rdT x32 x34).f1) ((rdT x32 x34).f2) ((rdT x32 x34).f3)).bind fun t4 => (if t4 = true then (if x34 > 0 then (if 0 ≤ (wr64 (x34 - 1)) then (if (wr64 (x34 - 1)) < (y0_3.length : Int) then ((spec_l3Before.f ((rdT y0_3 (wr64 (x34 - 1))).f0) ((rdT y0_3 (wr64 (x34 - 1))).f1) ((rdT y0_3 (wr64 (x34 - 1))).f2) ((rdT y0_3 (wr64 (x34 - 1))).f3) ((rdT x32 x34).f0) ((rdT x32 x34).f1) ((rdT x32 x34).f2) ((rdT x32 x34).f3)).bind fun t5 => (if t5 = true then (spec_AutomatonValid.x0 k x32 x33 (wr64 (x34 + 1)) y0_0 y0_1 y0_2 y0_3) else (some (spec_AutomatonValid.en false)))) else none) else none) else (spec_AutomatonValid.x0 k x32 x33 (wr64 (x34 + 1)) y0_0 y0_1 y0_2 y0_3)) else (some (spec_AutomatonValid.en false)))) else none) else none) else (some (spec_AutomatonValid.en true))) := by kernel_rfl
set_option maxRecDepth 100000 in
theorem spec_AutomatonValid.ef (k : Nat) (a0_0 : Int) (l0_1 : List Int) (l0_2 : List Int) (l0_3 : List Stp) : R.start Tryz.prog xhn spec_AutomatonValid.O 0 Tryz.f26 spec_AutomatonValid.fh k [.agg [.int .i64 a0_0, .imm (.I .i64 l0_1), .imm (.I .i64 l0_2), .imm (.T l0_3)]] [] = ((spec_l1In.f a0_0 1 4).bind fun t1 => (if t1 = true then ((spec_l3Marks.f k a0_0 l0_1).bind fun t2 => (if t2 = true then ((spec_l3Marks.f k a0_0 l0_2).bind fun t3 => (if t3 = true then (if (l0_3.length : Int) > 24 then (some (spec_AutomatonValid.en false)) else (spec_AutomatonValid.x0 k l0_3 (l0_3.length : Int) 0 a0_0 l0_1 l0_2 l0_3)) else (some (spec_AutomatonValid.en false)))) else (some (spec_AutomatonValid.en false)))) else (some (spec_AutomatonValid.en false)))) := by kernel_rfl
theorem spec_AutomatonValid.link : ∀ k, (∀ (x32 : List Stp) (x33 : Int) (x34 : Int) (y0_0 : Int) (y0_1 : List Int) (y0_2 : List Int) (y0_3 : List Stp), spec_AutomatonValid.x0 k x32 x33 x34 y0_0 y0_1 y0_2 y0_3 = (spec_AutomatonValid.l0 k x32 x33 x34 y0_0 y0_1 y0_2 y0_3).map (spec_AutomatonValid.en))
  | 0 => fun _ _ _ _ _ _ _ => by simp only [spec_AutomatonValid.l0, R.map_none]; rfl
  | k + 1 => by
    have ih0 := spec_AutomatonValid.link k
    · intro x32 x33 x34 y0_0 y0_1 y0_2 y0_3
      rw [spec_AutomatonValid.e0]
      simp only [spec_AutomatonValid.l0, R.map_ite, R.map_bind, R.map_none, R.map_some, R.wr64_eq, ← ih0]
theorem spec_AutomatonValid.sf (k : Nat) (a0_0 : Int) (l0_1 : List Int) (l0_2 : List Int) (l0_3 : List Stp) : R.start Tryz.prog xhn spec_AutomatonValid.O 0 Tryz.f26 spec_AutomatonValid.fh k [.agg [.int .i64 a0_0, .imm (.I .i64 l0_1), .imm (.I .i64 l0_2), .imm (.T l0_3)]] [] = (spec_AutomatonValid.f k a0_0 l0_1 l0_2 l0_3).map (spec_AutomatonValid.en) := by
  have ih0 := spec_AutomatonValid.link k
  rw [spec_AutomatonValid.ef]
  simp only [spec_AutomatonValid.f, R.map_ite, R.map_bind, R.map_none, R.map_some, R.wr64_eq, ← ih0]
theorem spec_AutomatonValid.ok (k : Nat) : spec_AutomatonValid.tw.Ok Tryz.prog k := by
  intro md hmd a r h
  refine fn_ok (H := xhn) (fh := spec_AutomatonValid.fh) (O := spec_AutomatonValid.O) (k := k) Tryz.func26 (by kernel_rfl) (by kernel_rfl) (fun j _ => (Tw.orc_sound spec_l1In.dok (spec_l1In.ok j) (fun _ => rfl) (Tw.orc_sound spec_l3Marks.dok (spec_l3Marks.ok j) (fun _ => rfl) (Tw.orc_sound spec_l3Step.dok (spec_l3Step.ok j) (fun _ => rfl) (Tw.orc_sound spec_l3Before.dok (spec_l3Before.ok j) (fun _ => rfl) noO_sound))))) (by kernel_rfl) (m := 0) rfl ?_
  refine (spec_AutomatonValid.sf k a.1 a.2.1 a.2.2.1 a.2.2.2).trans ?_
  exact congrArg (Option.map _) h
def spec_ParseAutomaton.l0 : Nat → Bool → (List ByteArray) → Int → Int → Int → (List Int) → (List Int) → (List Stp) → Option (Int × (List Int) × (List Int) × (List Stp) × Bool)
  | 0, _, _, _, _, _, _, _, _ => none
  | k + 1, x12, y2, x68, x69, y1_0, y6, y7, y8 => (if x69 < x68 then (if 0 ≤ x69 then (if x69 < (y2.length : Int) then (if ((rdS y2 x69).size : Int) = 5 then (if 3 < ((rdS y2 x69).size : Int) then (if (btI (rdS y2 x69) 3) = 58 then (if 1 ≤ ((rdS y2 x69).size : Int) then ((spec_l13Num.f k ((rdS y2 x69).extract 0 1)).bind fun t9 => (if 3 ≤ ((rdS y2 x69).size : Int) then ((spec_l13Num.f k ((rdS y2 x69).extract 2 3)).bind fun t10 => (if 4 ≤ ((rdS y2 x69).size : Int) then (if ((rdS y2 x69).size : Int) ≤ ((rdS y2 x69).size : Int) then ((spec_l13Num.f k ((rdS y2 x69).extract 4 (rdS y2 x69).size)).bind fun t11 => (if x12 = true then (if t9.2 = true then (if t10.2 = true then (if 2 ≤ ((rdS y2 x69).size : Int) then (if y8.length < 3518437208883 then (spec_ParseAutomaton.l0 k t11.2 y2 x68 (wrap64 (x69 + 1)) y1_0 y6 y7 (y8 ++ [(⟨t9.1, ((rdS y2 x69).extract 1 2), t10.1, t11.1⟩ : Stp)])) else none) else none) else (if 2 ≤ ((rdS y2 x69).size : Int) then (if y8.length < 3518437208883 then (spec_ParseAutomaton.l0 k false y2 x68 (wrap64 (x69 + 1)) y1_0 y6 y7 (y8 ++ [(⟨t9.1, ((rdS y2 x69).extract 1 2), t10.1, t11.1⟩ : Stp)])) else none) else none)) else (if 2 ≤ ((rdS y2 x69).size : Int) then (if y8.length < 3518437208883 then (spec_ParseAutomaton.l0 k false y2 x68 (wrap64 (x69 + 1)) y1_0 y6 y7 (y8 ++ [(⟨t9.1, ((rdS y2 x69).extract 1 2), t10.1, t11.1⟩ : Stp)])) else none) else none)) else (if 2 ≤ ((rdS y2 x69).size : Int) then (if y8.length < 3518437208883 then (spec_ParseAutomaton.l0 k false y2 x68 (wrap64 (x69 + 1)) y1_0 y6 y7 (y8 ++ [(⟨t9.1, ((rdS y2 x69).extract 1 2), t10.1, t11.1⟩ : Stp)])) else none) else none))) else none) else none)) else none)) else none) else (some (0, ([] : List Int), ([] : List Int), ([] : List Stp), false))) else none) else (some (0, ([] : List Int), ([] : List Int), ([] : List Stp), false))) else none) else none) else (if x12 = true then ((spec_AutomatonValid.f k y1_0 y6 y7 y8).bind fun t12 => (if t12 = true then (some (y1_0, y6, y7, y8, true)) else (some (0, ([] : List Int), ([] : List Int), ([] : List Stp), false)))) else (some (0, ([] : List Int), ([] : List Int), ([] : List Stp), false))))
def spec_ParseAutomaton.f (k : Nat) (a0 : ByteArray) : Option (Int × (List Int) × (List Int) × (List Stp) × Bool) := ((spec_l13Cut.f k a0 59).bind fun t1 => (if (t1.length : Int) = 4 then (if 0 < (t1.length : Int) then ((spec_l13Num.f k (rdS t1 0)).bind fun t2 => (if 1 < (t1.length : Int) then ((spec_l3Read.f k (rdS t1 1)).bind fun t3 => (if 2 < (t1.length : Int) then ((spec_l3Read.f k (rdS t1 2)).bind fun t4 => (if t2.2 = true then (if t3.2 = true then (if 3 < (t1.length : Int) then (if (rdS t1 3).toList = ([] : List UInt8) then (if t4.2 = true then ((spec_AutomatonValid.f k t2.1 t3.1 t4.1 ([] : List Stp)).bind fun t5 => (if t5 = true then (some (t2.1, t3.1, t4.1, ([] : List Stp), true)) else (some (0, ([] : List Int), ([] : List Int), ([] : List Stp), false)))) else (some (0, ([] : List Int), ([] : List Int), ([] : List Stp), false))) else ((spec_l13Cut.f k (rdS t1 3) 32).bind fun t6 => (spec_ParseAutomaton.l0 k t4.2 t6 (t6.length : Int) 0 t2.1 t3.1 t4.1 ([] : List Stp)))) else none) else (if 3 < (t1.length : Int) then (if (rdS t1 3).toList = ([] : List UInt8) then (some (0, ([] : List Int), ([] : List Int), ([] : List Stp), false)) else ((spec_l13Cut.f k (rdS t1 3) 32).bind fun t7 => (spec_ParseAutomaton.l0 k false t7 (t7.length : Int) 0 t2.1 t3.1 t4.1 ([] : List Stp)))) else none)) else (if 3 < (t1.length : Int) then (if (rdS t1 3).toList = ([] : List UInt8) then (some (0, ([] : List Int), ([] : List Int), ([] : List Stp), false)) else ((spec_l13Cut.f k (rdS t1 3) 32).bind fun t8 => (spec_ParseAutomaton.l0 k false t8 (t8.length : Int) 0 t2.1 t3.1 t4.1 ([] : List Stp)))) else none))) else none)) else none)) else none) else (some (0, ([] : List Int), ([] : List Int), ([] : List Stp), false))))
def spec_ParseAutomaton.en (r : Int × (List Int) × (List Int) × (List Stp) × Bool) : Res := (.tup [.agg [.int .i64 r.1, .sl 0 0, .sl 1 0, .sl 2 0], .lit r.2.2.2.2], [.arr 3 0 (.I .i64 r.2.1) false, .arr 3 0 (.I .i64 r.2.2.1) false, .arr 75 0 (.T r.2.2.2.1) false])
def spec_ParseAutomaton.dec : List AV → List R.Obj → Option (ByteArray)
  | [.str a0], [] => some a0
  | _, _ => none
def spec_ParseAutomaton.tw : Tw := ⟨118, ByteArray, Int × (List Int) × (List Int) × (List Stp) × Bool, spec_ParseAutomaton.dec, fun a => [.str a], fun a => [], fun k a => spec_ParseAutomaton.f k a, fun a r => spec_ParseAutomaton.en r, true⟩
theorem spec_ParseAutomaton.dok : spec_ParseAutomaton.tw.DecOk := by
  intro args hc a h
  have h : spec_ParseAutomaton.dec args hc = some a := h
  unfold spec_ParseAutomaton.dec at h
  split at h
  · cases h; exact ⟨rfl, rfl⟩
  · cases h
noncomputable def spec_ParseAutomaton.O (k : Nat) : Oracle := (spec_l13Cut.tw.orc k (spec_l13Num.tw.orc k (spec_l3Read.tw.orc k (spec_AutomatonValid.tw.orc k noO))))
def spec_ParseAutomaton.fh : FH := ⟨fun i => match i with | 11 => some [(2, 0), (11, 0), (12, 0), (67, 0), (68, 0), (69, 0)] | _ => none, [(true, 3), (true, 3), (true, 75)], false⟩
noncomputable def spec_ParseAutomaton.x0 (k : Nat) (x12 : Bool) (y2 : List ByteArray) (x68 : Int) (x69 : Int) (y1_0 : Int) (y6 : List Int) (y7 : List Int) (y8 : List Stp) : Option Res := R.exec Tryz.prog xhn spec_ParseAutomaton.O 0 Tryz.f118 spec_ParseAutomaton.fh k (R.point Tryz.f118 11) ⟨[(2, .ptr 0 0), (11, .ptr 1 0), (12, .lit x12), (67, .sl 2 0), (68, .int .i64 x68), (69, .int .i64 x69)], [(0, .box false [.int .i64 0, .sl 3 0, .sl 4 0, .sl 5 0]), (1, .box false [.int .i64 y1_0, .sl 6 0, .sl 7 0, .sl 8 0]), (2, .arr 9 0 (.S y2) false), (3, .arr 3 0 (.I .i64 ([] : List Int)) false), (4, .arr 3 0 (.I .i64 ([] : List Int)) false), (5, .arr 75 0 (.T ([] : List Stp)) false), (6, .arr 3 0 (.I .i64 y6) false), (7, .arr 3 0 (.I .i64 y7) false), (8, .arr 75 0 (.T y8) false)], 11⟩
set_option maxRecDepth 100000 in
theorem spec_ParseAutomaton.e0 (k : Nat) (x12 : Bool) (y2 : List ByteArray) (x68 : Int) (x69 : Int) (y1_0 : Int) (y6 : List Int) (y7 : List Int) (y8 : List Stp) : spec_ParseAutomaton.x0 (k + 1) x12 y2 x68 x69 y1_0 y6 y7 y8 = (if x69 < x68 then (if 0 ≤ x69 then (if x69 < (y2.length : Int) then (if ((rdS y2 x69).size : Int) = 5 then (if 3 < ((rdS y2 x69).size : Int) then (if (btI (rdS y2 x69) 3) = 58 then (if 1 ≤ ((rdS y2 x69).size : Int) then ((spec_l13Num.f k ((rdS y2 x69).extract 0 1)).bind fun t9 => (if 3 ≤ ((rdS y2 x69).size : Int) then ((spec_l13Num.f k ((rdS y2 x69).extract 2 3)).bind fun t10 => (if 4 ≤ ((rdS y2 x69).size : Int) then (if ((rdS y2 x69).size : Int) ≤ ((rdS y2 x69).size : Int) then ((spec_l13Num.f k ((rdS y2 x69).extract 4 (rdS y2 x69).size)).bind fun t11 => (if x12 = true then (if t9.2 = true then (if t10.2 = true then (if 2 ≤ ((rdS y2 x69).size : Int) then (if y8.length < 3518437208883 then (spec_ParseAutomaton.x0 k t11.2 y2 x68 (wr64 (x69 + 1)) y1_0 y6 y7 (y8 ++ [(⟨t9.1, ((rdS y2 x69).extract 1 2), t10.1, t11.1⟩ : Stp)])) else none) else none) else (if 2 ≤ ((rdS y2 x69).size : Int) then (if y8.length < 3518437208883 then (spec_ParseAutomaton.x0 k false y2 x68 (wr64 (x69 + 1)) y1_0 y6 y7 (y8 ++ [(⟨t9.1, ((rdS y2 x69).extract 1 2), t10.1, t11.1⟩ : Stp)])) else none) else none)) else (if 2 ≤ ((rdS y2 x69).size : Int) then (if y8.length < 3518437208883 then (spec_ParseAutomaton.x0 k false y2 x68 (wr64 (x69 + 1)) y1_0 y6 y7 (y8 ++ [(⟨t9.1, ((rdS y2 x69).extract 1 2), t10.1, t11.1⟩ : Stp)])) else none) else none)) else (if 2 ≤ ((rdS y2 x69).size : Int) then (if y8.length < 3518437208883 then (spec_ParseAutomaton.x0 k false y2 x68 (wr64 (x69 + 1)) y1_0 y6 y7 (y8 ++ [(⟨t9.1, ((rdS y2 x69).extract 1 2), t10.1, t11.1⟩ : Stp)])) else none) else none))) else none) else none)) else none)) else none) else (some (spec_ParseAutomaton.en (0, ([] : List Int), ([] : List Int), ([] : List Stp), false)))) else none) else (some (spec_ParseAutomaton.en (0, ([] : List Int), ([] : List Int), ([] : List Stp), false)))) else none) else none) else (if x12 = true then ((spec_AutomatonValid.f k y1_0 y6 y7 y8).bind fun t12 => (if t12 = true then (some (spec_ParseAutomaton.en (y1_0, y6, y7, y8, true))) else (some (spec_ParseAutomaton.en (0, ([] : List Int), ([] : List Int), ([] : List Stp), false))))) else (some (spec_ParseAutomaton.en (0, ([] : List Int), ([] : List Int), ([] : List Stp), false))))) := by kernel_rfl
set_option maxRecDepth 100000 in
theorem spec_ParseAutomaton.ef (k : Nat) (a0 : ByteArray) : R.start Tryz.prog xhn spec_ParseAutomaton.O 0 Tryz.f118 spec_ParseAutomaton.fh k [.str a0] [] = ((spec_l13Cut.f k a0 59).bind fun t1 => (if (t1.length : Int) = 4 then (if 0 < (t1.length : Int) then ((spec_l13Num.f k (rdS t1 0)).bind fun t2 => (if 1 < (t1.length : Int) then ((spec_l3Read.f k (rdS t1 1)).bind fun t3 => (if 2 < (t1.length : Int) then ((spec_l3Read.f k (rdS t1 2)).bind fun t4 => (if t2.2 = true then (if t3.2 = true then (if 3 < (t1.length : Int) then (if (rdS t1 3).toList = ([] : List UInt8) then (if t4.2 = true then ((spec_AutomatonValid.f k t2.1 t3.1 t4.1 ([] : List Stp)).bind fun t5 => (if t5 = true then (some (spec_ParseAutomaton.en (t2.1, t3.1, t4.1, ([] : List Stp), true))) else (some (spec_ParseAutomaton.en (0, ([] : List Int), ([] : List Int), ([] : List Stp), false))))) else (some (spec_ParseAutomaton.en (0, ([] : List Int), ([] : List Int), ([] : List Stp), false)))) else ((spec_l13Cut.f k (rdS t1 3) 32).bind fun t6 => (spec_ParseAutomaton.x0 k t4.2 t6 (t6.length : Int) 0 t2.1 t3.1 t4.1 ([] : List Stp)))) else none) else (if 3 < (t1.length : Int) then (if (rdS t1 3).toList = ([] : List UInt8) then (some (spec_ParseAutomaton.en (0, ([] : List Int), ([] : List Int), ([] : List Stp), false))) else ((spec_l13Cut.f k (rdS t1 3) 32).bind fun t7 => (spec_ParseAutomaton.x0 k false t7 (t7.length : Int) 0 t2.1 t3.1 t4.1 ([] : List Stp)))) else none)) else (if 3 < (t1.length : Int) then (if (rdS t1 3).toList = ([] : List UInt8) then (some (spec_ParseAutomaton.en (0, ([] : List Int), ([] : List Int), ([] : List Stp), false))) else ((spec_l13Cut.f k (rdS t1 3) 32).bind fun t8 => (spec_ParseAutomaton.x0 k false t8 (t8.length : Int) 0 t2.1 t3.1 t4.1 ([] : List Stp)))) else none))) else none)) else none)) else none) else (some (spec_ParseAutomaton.en (0, ([] : List Int), ([] : List Int), ([] : List Stp), false))))) := by
  refine Eq.trans ?_ (R.bcong fun t1 => (R.icong (fun h0 => (R.icong (fun h1 => (R.bcong fun t2 => (R.icong (fun h2 => (R.bcong fun t3 => (R.icong (fun h3 => (R.bcong fun t4 => (R.icong (fun h4 => (R.icong (fun h5 => (R.icong (fun h6 => (R.icong (fun h7 => rfl) (fun h7 => (R.idropT (p := 3 < (t1.length : Int)) (z := none) h6 rfl)))) (fun h6 => rfl))) (fun h5 => (R.icong (fun h6 => (R.icong (fun h7 => rfl) (fun h7 => (R.idropT (p := 3 < (t1.length : Int)) (z := none) h6 rfl)))) (fun h6 => rfl))))) (fun h4 => (R.icong (fun h5 => (R.icong (fun h6 => rfl) (fun h6 => (R.idropT (p := 3 < (t1.length : Int)) (z := none) h5 rfl)))) (fun h5 => rfl)))))) (fun h3 => rfl)))) (fun h2 => rfl)))) (fun h1 => rfl))) (fun h0 => rfl)))
  kernel_rfl
theorem spec_ParseAutomaton.link : ∀ k, (∀ (x12 : Bool) (y2 : List ByteArray) (x68 : Int) (x69 : Int) (y1_0 : Int) (y6 : List Int) (y7 : List Int) (y8 : List Stp), spec_ParseAutomaton.x0 k x12 y2 x68 x69 y1_0 y6 y7 y8 = (spec_ParseAutomaton.l0 k x12 y2 x68 x69 y1_0 y6 y7 y8).map (spec_ParseAutomaton.en))
  | 0 => fun _ _ _ _ _ _ _ _ => by simp only [spec_ParseAutomaton.l0, R.map_none]; rfl
  | k + 1 => by
    have ih0 := spec_ParseAutomaton.link k
    · intro x12 y2 x68 x69 y1_0 y6 y7 y8
      rw [spec_ParseAutomaton.e0]
      simp only [spec_ParseAutomaton.l0, R.map_ite, R.map_bind, R.map_none, R.map_some, R.wr64_eq, ← ih0]
theorem spec_ParseAutomaton.sf (k : Nat) (a0 : ByteArray) : R.start Tryz.prog xhn spec_ParseAutomaton.O 0 Tryz.f118 spec_ParseAutomaton.fh k [.str a0] [] = (spec_ParseAutomaton.f k a0).map (spec_ParseAutomaton.en) := by
  have ih0 := spec_ParseAutomaton.link k
  rw [spec_ParseAutomaton.ef]
  simp only [spec_ParseAutomaton.f, R.map_ite, R.map_bind, R.map_none, R.map_some, R.wr64_eq, ← ih0]
theorem spec_ParseAutomaton.ok (k : Nat) : spec_ParseAutomaton.tw.Ok Tryz.prog k := by
  intro md hmd a r h
  refine fn_ok (H := xhn) (fh := spec_ParseAutomaton.fh) (O := spec_ParseAutomaton.O) (k := k) Tryz.func118 (by kernel_rfl) (by kernel_rfl) (fun j _ => (Tw.orc_sound spec_l13Cut.dok (spec_l13Cut.ok j) (fun _ => rfl) (Tw.orc_sound spec_l13Num.dok (spec_l13Num.ok j) (fun _ => rfl) (Tw.orc_sound spec_l3Read.dok (spec_l3Read.ok j) (fun _ => rfl) (Tw.orc_sound spec_AutomatonValid.dok (spec_AutomatonValid.ok j) (fun _ => rfl) noO_sound))))) (by kernel_rfl) (m := 0) rfl ?_
  refine (spec_ParseAutomaton.sf k a).trans ?_
  exact congrArg (Option.map _) h
def spec_l3Known.f (k : Nat) (a0 : Int) : Option (Int × (List Int) × (List Int) × (List Stp)) := (if ([(⟨#[49, 59, 48, 59, 48, 59, 48, 97, 48, 58, 49, 32, 48, 98, 48, 58, 48]⟩ : ByteArray), (⟨#[50, 59, 48, 59, 49, 59, 48, 97, 48, 58, 48, 32, 48, 97, 49, 58, 49, 32, 49, 98, 49, 58, 48]⟩ : ByteArray), (⟨#[50, 59, 48, 32, 49, 59, 48, 32, 49, 59, 48, 97, 48, 58, 49, 32, 48, 98, 48, 58, 48, 32, 49, 97, 49, 58, 48, 32, 49, 98, 49, 58, 49]⟩ : ByteArray), (⟨#[51, 59, 48, 59, 48, 32, 50, 59, 48, 97, 48, 58, 48, 32, 48, 97, 49, 58, 48, 32, 48, 98, 48, 58, 49, 32, 49, 97, 49, 58, 49, 32, 49, 98, 50, 58, 48, 32, 50, 97, 50, 58, 48, 32, 50, 98, 50, 58, 48]⟩ : ByteArray), (⟨#[50, 59, 48, 59, 48, 59, 48, 97, 49, 58, 49, 32, 49, 98, 48, 58, 48]⟩ : ByteArray), (⟨#[51, 59, 48, 59, 50, 59, 48, 97, 48, 58, 48, 32, 48, 98, 48, 58, 48, 32, 48, 98, 49, 58, 48, 32, 49, 97, 49, 58, 49, 32, 49, 98, 50, 58, 48, 32, 50, 97, 50, 58, 48, 32, 50, 98, 50, 58, 48]⟩ : ByteArray), (⟨#[49, 59, 48, 59, 48, 59, 48, 97, 48, 58, 48]⟩ : ByteArray), (⟨#[50, 59, 48, 59, 48, 32, 49, 59, 48, 97, 48, 58, 48, 32, 48, 98, 49, 58, 49, 32, 49, 97, 48, 58, 48, 32, 49, 98, 49, 58, 48]⟩ : ByteArray), (⟨#[50, 59, 48, 59, 49, 59, 48, 97, 49, 58, 50, 32, 49, 97, 49, 58, 48, 32, 49, 98, 48, 58, 49]⟩ : ByteArray)].length : Int) = 0 then none else (if 0 ≤ (a0.tmod ([(⟨#[49, 59, 48, 59, 48, 59, 48, 97, 48, 58, 49, 32, 48, 98, 48, 58, 48]⟩ : ByteArray), (⟨#[50, 59, 48, 59, 49, 59, 48, 97, 48, 58, 48, 32, 48, 97, 49, 58, 49, 32, 49, 98, 49, 58, 48]⟩ : ByteArray), (⟨#[50, 59, 48, 32, 49, 59, 48, 32, 49, 59, 48, 97, 48, 58, 49, 32, 48, 98, 48, 58, 48, 32, 49, 97, 49, 58, 48, 32, 49, 98, 49, 58, 49]⟩ : ByteArray), (⟨#[51, 59, 48, 59, 48, 32, 50, 59, 48, 97, 48, 58, 48, 32, 48, 97, 49, 58, 48, 32, 48, 98, 48, 58, 49, 32, 49, 97, 49, 58, 49, 32, 49, 98, 50, 58, 48, 32, 50, 97, 50, 58, 48, 32, 50, 98, 50, 58, 48]⟩ : ByteArray), (⟨#[50, 59, 48, 59, 48, 59, 48, 97, 49, 58, 49, 32, 49, 98, 48, 58, 48]⟩ : ByteArray), (⟨#[51, 59, 48, 59, 50, 59, 48, 97, 48, 58, 48, 32, 48, 98, 48, 58, 48, 32, 48, 98, 49, 58, 48, 32, 49, 97, 49, 58, 49, 32, 49, 98, 50, 58, 48, 32, 50, 97, 50, 58, 48, 32, 50, 98, 50, 58, 48]⟩ : ByteArray), (⟨#[49, 59, 48, 59, 48, 59, 48, 97, 48, 58, 48]⟩ : ByteArray), (⟨#[50, 59, 48, 59, 48, 32, 49, 59, 48, 97, 48, 58, 48, 32, 48, 98, 49, 58, 49, 32, 49, 97, 48, 58, 48, 32, 49, 98, 49, 58, 48]⟩ : ByteArray), (⟨#[50, 59, 48, 59, 49, 59, 48, 97, 49, 58, 50, 32, 49, 97, 49, 58, 48, 32, 49, 98, 48, 58, 49]⟩ : ByteArray)].length : Int)) then (if (a0.tmod ([(⟨#[49, 59, 48, 59, 48, 59, 48, 97, 48, 58, 49, 32, 48, 98, 48, 58, 48]⟩ : ByteArray), (⟨#[50, 59, 48, 59, 49, 59, 48, 97, 48, 58, 48, 32, 48, 97, 49, 58, 49, 32, 49, 98, 49, 58, 48]⟩ : ByteArray), (⟨#[50, 59, 48, 32, 49, 59, 48, 32, 49, 59, 48, 97, 48, 58, 49, 32, 48, 98, 48, 58, 48, 32, 49, 97, 49, 58, 48, 32, 49, 98, 49, 58, 49]⟩ : ByteArray), (⟨#[51, 59, 48, 59, 48, 32, 50, 59, 48, 97, 48, 58, 48, 32, 48, 97, 49, 58, 48, 32, 48, 98, 48, 58, 49, 32, 49, 97, 49, 58, 49, 32, 49, 98, 50, 58, 48, 32, 50, 97, 50, 58, 48, 32, 50, 98, 50, 58, 48]⟩ : ByteArray), (⟨#[50, 59, 48, 59, 48, 59, 48, 97, 49, 58, 49, 32, 49, 98, 48, 58, 48]⟩ : ByteArray), (⟨#[51, 59, 48, 59, 50, 59, 48, 97, 48, 58, 48, 32, 48, 98, 48, 58, 48, 32, 48, 98, 49, 58, 48, 32, 49, 97, 49, 58, 49, 32, 49, 98, 50, 58, 48, 32, 50, 97, 50, 58, 48, 32, 50, 98, 50, 58, 48]⟩ : ByteArray), (⟨#[49, 59, 48, 59, 48, 59, 48, 97, 48, 58, 48]⟩ : ByteArray), (⟨#[50, 59, 48, 59, 48, 32, 49, 59, 48, 97, 48, 58, 48, 32, 48, 98, 49, 58, 49, 32, 49, 97, 48, 58, 48, 32, 49, 98, 49, 58, 48]⟩ : ByteArray), (⟨#[50, 59, 48, 59, 49, 59, 48, 97, 49, 58, 50, 32, 49, 97, 49, 58, 48, 32, 49, 98, 48, 58, 49]⟩ : ByteArray)].length : Int)) < ([(⟨#[49, 59, 48, 59, 48, 59, 48, 97, 48, 58, 49, 32, 48, 98, 48, 58, 48]⟩ : ByteArray), (⟨#[50, 59, 48, 59, 49, 59, 48, 97, 48, 58, 48, 32, 48, 97, 49, 58, 49, 32, 49, 98, 49, 58, 48]⟩ : ByteArray), (⟨#[50, 59, 48, 32, 49, 59, 48, 32, 49, 59, 48, 97, 48, 58, 49, 32, 48, 98, 48, 58, 48, 32, 49, 97, 49, 58, 48, 32, 49, 98, 49, 58, 49]⟩ : ByteArray), (⟨#[51, 59, 48, 59, 48, 32, 50, 59, 48, 97, 48, 58, 48, 32, 48, 97, 49, 58, 48, 32, 48, 98, 48, 58, 49, 32, 49, 97, 49, 58, 49, 32, 49, 98, 50, 58, 48, 32, 50, 97, 50, 58, 48, 32, 50, 98, 50, 58, 48]⟩ : ByteArray), (⟨#[50, 59, 48, 59, 48, 59, 48, 97, 49, 58, 49, 32, 49, 98, 48, 58, 48]⟩ : ByteArray), (⟨#[51, 59, 48, 59, 50, 59, 48, 97, 48, 58, 48, 32, 48, 98, 48, 58, 48, 32, 48, 98, 49, 58, 48, 32, 49, 97, 49, 58, 49, 32, 49, 98, 50, 58, 48, 32, 50, 97, 50, 58, 48, 32, 50, 98, 50, 58, 48]⟩ : ByteArray), (⟨#[49, 59, 48, 59, 48, 59, 48, 97, 48, 58, 48]⟩ : ByteArray), (⟨#[50, 59, 48, 59, 48, 32, 49, 59, 48, 97, 48, 58, 48, 32, 48, 98, 49, 58, 49, 32, 49, 97, 48, 58, 48, 32, 49, 98, 49, 58, 48]⟩ : ByteArray), (⟨#[50, 59, 48, 59, 49, 59, 48, 97, 49, 58, 50, 32, 49, 97, 49, 58, 48, 32, 49, 98, 48, 58, 49]⟩ : ByteArray)].length : Int) then ((spec_ParseAutomaton.f k (rdS [(⟨#[49, 59, 48, 59, 48, 59, 48, 97, 48, 58, 49, 32, 48, 98, 48, 58, 48]⟩ : ByteArray), (⟨#[50, 59, 48, 59, 49, 59, 48, 97, 48, 58, 48, 32, 48, 97, 49, 58, 49, 32, 49, 98, 49, 58, 48]⟩ : ByteArray), (⟨#[50, 59, 48, 32, 49, 59, 48, 32, 49, 59, 48, 97, 48, 58, 49, 32, 48, 98, 48, 58, 48, 32, 49, 97, 49, 58, 48, 32, 49, 98, 49, 58, 49]⟩ : ByteArray), (⟨#[51, 59, 48, 59, 48, 32, 50, 59, 48, 97, 48, 58, 48, 32, 48, 97, 49, 58, 48, 32, 48, 98, 48, 58, 49, 32, 49, 97, 49, 58, 49, 32, 49, 98, 50, 58, 48, 32, 50, 97, 50, 58, 48, 32, 50, 98, 50, 58, 48]⟩ : ByteArray), (⟨#[50, 59, 48, 59, 48, 59, 48, 97, 49, 58, 49, 32, 49, 98, 48, 58, 48]⟩ : ByteArray), (⟨#[51, 59, 48, 59, 50, 59, 48, 97, 48, 58, 48, 32, 48, 98, 48, 58, 48, 32, 48, 98, 49, 58, 48, 32, 49, 97, 49, 58, 49, 32, 49, 98, 50, 58, 48, 32, 50, 97, 50, 58, 48, 32, 50, 98, 50, 58, 48]⟩ : ByteArray), (⟨#[49, 59, 48, 59, 48, 59, 48, 97, 48, 58, 48]⟩ : ByteArray), (⟨#[50, 59, 48, 59, 48, 32, 49, 59, 48, 97, 48, 58, 48, 32, 48, 98, 49, 58, 49, 32, 49, 97, 48, 58, 48, 32, 49, 98, 49, 58, 48]⟩ : ByteArray), (⟨#[50, 59, 48, 59, 49, 59, 48, 97, 49, 58, 50, 32, 49, 97, 49, 58, 48, 32, 49, 98, 48, 58, 49]⟩ : ByteArray)] (a0.tmod ([(⟨#[49, 59, 48, 59, 48, 59, 48, 97, 48, 58, 49, 32, 48, 98, 48, 58, 48]⟩ : ByteArray), (⟨#[50, 59, 48, 59, 49, 59, 48, 97, 48, 58, 48, 32, 48, 97, 49, 58, 49, 32, 49, 98, 49, 58, 48]⟩ : ByteArray), (⟨#[50, 59, 48, 32, 49, 59, 48, 32, 49, 59, 48, 97, 48, 58, 49, 32, 48, 98, 48, 58, 48, 32, 49, 97, 49, 58, 48, 32, 49, 98, 49, 58, 49]⟩ : ByteArray), (⟨#[51, 59, 48, 59, 48, 32, 50, 59, 48, 97, 48, 58, 48, 32, 48, 97, 49, 58, 48, 32, 48, 98, 48, 58, 49, 32, 49, 97, 49, 58, 49, 32, 49, 98, 50, 58, 48, 32, 50, 97, 50, 58, 48, 32, 50, 98, 50, 58, 48]⟩ : ByteArray), (⟨#[50, 59, 48, 59, 48, 59, 48, 97, 49, 58, 49, 32, 49, 98, 48, 58, 48]⟩ : ByteArray), (⟨#[51, 59, 48, 59, 50, 59, 48, 97, 48, 58, 48, 32, 48, 98, 48, 58, 48, 32, 48, 98, 49, 58, 48, 32, 49, 97, 49, 58, 49, 32, 49, 98, 50, 58, 48, 32, 50, 97, 50, 58, 48, 32, 50, 98, 50, 58, 48]⟩ : ByteArray), (⟨#[49, 59, 48, 59, 48, 59, 48, 97, 48, 58, 48]⟩ : ByteArray), (⟨#[50, 59, 48, 59, 48, 32, 49, 59, 48, 97, 48, 58, 48, 32, 48, 98, 49, 58, 49, 32, 49, 97, 48, 58, 48, 32, 49, 98, 49, 58, 48]⟩ : ByteArray), (⟨#[50, 59, 48, 59, 49, 59, 48, 97, 49, 58, 50, 32, 49, 97, 49, 58, 48, 32, 49, 98, 48, 58, 49]⟩ : ByteArray)].length : Int)))).bind fun t1 => (some (t1.1, t1.2.1, t1.2.2.1, t1.2.2.2.1))) else none) else none))
def spec_l3Known.en (r : Int × (List Int) × (List Int) × (List Stp)) : Res := (.agg [.int .i64 r.1, .sl 0 0, .sl 1 0, .sl 2 0], [.arr 3 0 (.I .i64 r.2.1) false, .arr 3 0 (.I .i64 r.2.2.1) false, .arr 75 0 (.T r.2.2.2) false])
def spec_l3Known.dec : List AV → List R.Obj → Option (Int)
  | [.int .i64 a0], [] => some a0
  | _, _ => none
def spec_l3Known.tw : Tw := ⟨107, Int, Int × (List Int) × (List Int) × (List Stp), spec_l3Known.dec, fun a => [.int .i64 a], fun a => [], fun k a => spec_l3Known.f k a, fun a r => spec_l3Known.en r, true⟩
theorem spec_l3Known.dok : spec_l3Known.tw.DecOk := by
  intro args hc a h
  have h : spec_l3Known.dec args hc = some a := h
  unfold spec_l3Known.dec at h
  split at h
  · cases h; exact ⟨rfl, rfl⟩
  · cases h
noncomputable def spec_l3Known.O (k : Nat) : Oracle := (spec_ParseAutomaton.tw.orc k noO)
def spec_l3Known.fh : FH := ⟨fun i => match i with | _ => none, [(true, 3), (true, 3), (true, 75)], false⟩
set_option maxRecDepth 100000 in
theorem spec_l3Known.ef (k : Nat) (a0 : Int) : R.start Tryz.prog xhn spec_l3Known.O 0 Tryz.f107 spec_l3Known.fh k [.int .i64 a0] [] = (if ([(⟨#[49, 59, 48, 59, 48, 59, 48, 97, 48, 58, 49, 32, 48, 98, 48, 58, 48]⟩ : ByteArray), (⟨#[50, 59, 48, 59, 49, 59, 48, 97, 48, 58, 48, 32, 48, 97, 49, 58, 49, 32, 49, 98, 49, 58, 48]⟩ : ByteArray), (⟨#[50, 59, 48, 32, 49, 59, 48, 32, 49, 59, 48, 97, 48, 58, 49, 32, 48, 98, 48, 58, 48, 32, 49, 97, 49, 58, 48, 32, 49, 98, 49, 58, 49]⟩ : ByteArray), (⟨#[51, 59, 48, 59, 48, 32, 50, 59, 48, 97, 48, 58, 48, 32, 48, 97, 49, 58, 48, 32, 48, 98, 48, 58, 49, 32, 49, 97, 49, 58, 49, 32, 49, 98, 50, 58, 48, 32, 50, 97, 50, 58, 48, 32, 50, 98, 50, 58, 48]⟩ : ByteArray), (⟨#[50, 59, 48, 59, 48, 59, 48, 97, 49, 58, 49, 32, 49, 98, 48, 58, 48]⟩ : ByteArray), (⟨#[51, 59, 48, 59, 50, 59, 48, 97, 48, 58, 48, 32, 48, 98, 48, 58, 48, 32, 48, 98, 49, 58, 48, 32, 49, 97, 49, 58, 49, 32, 49, 98, 50, 58, 48, 32, 50, 97, 50, 58, 48, 32, 50, 98, 50, 58, 48]⟩ : ByteArray), (⟨#[49, 59, 48, 59, 48, 59, 48, 97, 48, 58, 48]⟩ : ByteArray), (⟨#[50, 59, 48, 59, 48, 32, 49, 59, 48, 97, 48, 58, 48, 32, 48, 98, 49, 58, 49, 32, 49, 97, 48, 58, 48, 32, 49, 98, 49, 58, 48]⟩ : ByteArray), (⟨#[50, 59, 48, 59, 49, 59, 48, 97, 49, 58, 50, 32, 49, 97, 49, 58, 48, 32, 49, 98, 48, 58, 49]⟩ : ByteArray)].length : Int) = 0 then none else (if 0 ≤ (a0.tmod ([(⟨#[49, 59, 48, 59, 48, 59, 48, 97, 48, 58, 49, 32, 48, 98, 48, 58, 48]⟩ : ByteArray), (⟨#[50, 59, 48, 59, 49, 59, 48, 97, 48, 58, 48, 32, 48, 97, 49, 58, 49, 32, 49, 98, 49, 58, 48]⟩ : ByteArray), (⟨#[50, 59, 48, 32, 49, 59, 48, 32, 49, 59, 48, 97, 48, 58, 49, 32, 48, 98, 48, 58, 48, 32, 49, 97, 49, 58, 48, 32, 49, 98, 49, 58, 49]⟩ : ByteArray), (⟨#[51, 59, 48, 59, 48, 32, 50, 59, 48, 97, 48, 58, 48, 32, 48, 97, 49, 58, 48, 32, 48, 98, 48, 58, 49, 32, 49, 97, 49, 58, 49, 32, 49, 98, 50, 58, 48, 32, 50, 97, 50, 58, 48, 32, 50, 98, 50, 58, 48]⟩ : ByteArray), (⟨#[50, 59, 48, 59, 48, 59, 48, 97, 49, 58, 49, 32, 49, 98, 48, 58, 48]⟩ : ByteArray), (⟨#[51, 59, 48, 59, 50, 59, 48, 97, 48, 58, 48, 32, 48, 98, 48, 58, 48, 32, 48, 98, 49, 58, 48, 32, 49, 97, 49, 58, 49, 32, 49, 98, 50, 58, 48, 32, 50, 97, 50, 58, 48, 32, 50, 98, 50, 58, 48]⟩ : ByteArray), (⟨#[49, 59, 48, 59, 48, 59, 48, 97, 48, 58, 48]⟩ : ByteArray), (⟨#[50, 59, 48, 59, 48, 32, 49, 59, 48, 97, 48, 58, 48, 32, 48, 98, 49, 58, 49, 32, 49, 97, 48, 58, 48, 32, 49, 98, 49, 58, 48]⟩ : ByteArray), (⟨#[50, 59, 48, 59, 49, 59, 48, 97, 49, 58, 50, 32, 49, 97, 49, 58, 48, 32, 49, 98, 48, 58, 49]⟩ : ByteArray)].length : Int)) then (if (a0.tmod ([(⟨#[49, 59, 48, 59, 48, 59, 48, 97, 48, 58, 49, 32, 48, 98, 48, 58, 48]⟩ : ByteArray), (⟨#[50, 59, 48, 59, 49, 59, 48, 97, 48, 58, 48, 32, 48, 97, 49, 58, 49, 32, 49, 98, 49, 58, 48]⟩ : ByteArray), (⟨#[50, 59, 48, 32, 49, 59, 48, 32, 49, 59, 48, 97, 48, 58, 49, 32, 48, 98, 48, 58, 48, 32, 49, 97, 49, 58, 48, 32, 49, 98, 49, 58, 49]⟩ : ByteArray), (⟨#[51, 59, 48, 59, 48, 32, 50, 59, 48, 97, 48, 58, 48, 32, 48, 97, 49, 58, 48, 32, 48, 98, 48, 58, 49, 32, 49, 97, 49, 58, 49, 32, 49, 98, 50, 58, 48, 32, 50, 97, 50, 58, 48, 32, 50, 98, 50, 58, 48]⟩ : ByteArray), (⟨#[50, 59, 48, 59, 48, 59, 48, 97, 49, 58, 49, 32, 49, 98, 48, 58, 48]⟩ : ByteArray), (⟨#[51, 59, 48, 59, 50, 59, 48, 97, 48, 58, 48, 32, 48, 98, 48, 58, 48, 32, 48, 98, 49, 58, 48, 32, 49, 97, 49, 58, 49, 32, 49, 98, 50, 58, 48, 32, 50, 97, 50, 58, 48, 32, 50, 98, 50, 58, 48]⟩ : ByteArray), (⟨#[49, 59, 48, 59, 48, 59, 48, 97, 48, 58, 48]⟩ : ByteArray), (⟨#[50, 59, 48, 59, 48, 32, 49, 59, 48, 97, 48, 58, 48, 32, 48, 98, 49, 58, 49, 32, 49, 97, 48, 58, 48, 32, 49, 98, 49, 58, 48]⟩ : ByteArray), (⟨#[50, 59, 48, 59, 49, 59, 48, 97, 49, 58, 50, 32, 49, 97, 49, 58, 48, 32, 49, 98, 48, 58, 49]⟩ : ByteArray)].length : Int)) < ([(⟨#[49, 59, 48, 59, 48, 59, 48, 97, 48, 58, 49, 32, 48, 98, 48, 58, 48]⟩ : ByteArray), (⟨#[50, 59, 48, 59, 49, 59, 48, 97, 48, 58, 48, 32, 48, 97, 49, 58, 49, 32, 49, 98, 49, 58, 48]⟩ : ByteArray), (⟨#[50, 59, 48, 32, 49, 59, 48, 32, 49, 59, 48, 97, 48, 58, 49, 32, 48, 98, 48, 58, 48, 32, 49, 97, 49, 58, 48, 32, 49, 98, 49, 58, 49]⟩ : ByteArray), (⟨#[51, 59, 48, 59, 48, 32, 50, 59, 48, 97, 48, 58, 48, 32, 48, 97, 49, 58, 48, 32, 48, 98, 48, 58, 49, 32, 49, 97, 49, 58, 49, 32, 49, 98, 50, 58, 48, 32, 50, 97, 50, 58, 48, 32, 50, 98, 50, 58, 48]⟩ : ByteArray), (⟨#[50, 59, 48, 59, 48, 59, 48, 97, 49, 58, 49, 32, 49, 98, 48, 58, 48]⟩ : ByteArray), (⟨#[51, 59, 48, 59, 50, 59, 48, 97, 48, 58, 48, 32, 48, 98, 48, 58, 48, 32, 48, 98, 49, 58, 48, 32, 49, 97, 49, 58, 49, 32, 49, 98, 50, 58, 48, 32, 50, 97, 50, 58, 48, 32, 50, 98, 50, 58, 48]⟩ : ByteArray), (⟨#[49, 59, 48, 59, 48, 59, 48, 97, 48, 58, 48]⟩ : ByteArray), (⟨#[50, 59, 48, 59, 48, 32, 49, 59, 48, 97, 48, 58, 48, 32, 48, 98, 49, 58, 49, 32, 49, 97, 48, 58, 48, 32, 49, 98, 49, 58, 48]⟩ : ByteArray), (⟨#[50, 59, 48, 59, 49, 59, 48, 97, 49, 58, 50, 32, 49, 97, 49, 58, 48, 32, 49, 98, 48, 58, 49]⟩ : ByteArray)].length : Int) then ((spec_ParseAutomaton.f k (rdS [(⟨#[49, 59, 48, 59, 48, 59, 48, 97, 48, 58, 49, 32, 48, 98, 48, 58, 48]⟩ : ByteArray), (⟨#[50, 59, 48, 59, 49, 59, 48, 97, 48, 58, 48, 32, 48, 97, 49, 58, 49, 32, 49, 98, 49, 58, 48]⟩ : ByteArray), (⟨#[50, 59, 48, 32, 49, 59, 48, 32, 49, 59, 48, 97, 48, 58, 49, 32, 48, 98, 48, 58, 48, 32, 49, 97, 49, 58, 48, 32, 49, 98, 49, 58, 49]⟩ : ByteArray), (⟨#[51, 59, 48, 59, 48, 32, 50, 59, 48, 97, 48, 58, 48, 32, 48, 97, 49, 58, 48, 32, 48, 98, 48, 58, 49, 32, 49, 97, 49, 58, 49, 32, 49, 98, 50, 58, 48, 32, 50, 97, 50, 58, 48, 32, 50, 98, 50, 58, 48]⟩ : ByteArray), (⟨#[50, 59, 48, 59, 48, 59, 48, 97, 49, 58, 49, 32, 49, 98, 48, 58, 48]⟩ : ByteArray), (⟨#[51, 59, 48, 59, 50, 59, 48, 97, 48, 58, 48, 32, 48, 98, 48, 58, 48, 32, 48, 98, 49, 58, 48, 32, 49, 97, 49, 58, 49, 32, 49, 98, 50, 58, 48, 32, 50, 97, 50, 58, 48, 32, 50, 98, 50, 58, 48]⟩ : ByteArray), (⟨#[49, 59, 48, 59, 48, 59, 48, 97, 48, 58, 48]⟩ : ByteArray), (⟨#[50, 59, 48, 59, 48, 32, 49, 59, 48, 97, 48, 58, 48, 32, 48, 98, 49, 58, 49, 32, 49, 97, 48, 58, 48, 32, 49, 98, 49, 58, 48]⟩ : ByteArray), (⟨#[50, 59, 48, 59, 49, 59, 48, 97, 49, 58, 50, 32, 49, 97, 49, 58, 48, 32, 49, 98, 48, 58, 49]⟩ : ByteArray)] (a0.tmod ([(⟨#[49, 59, 48, 59, 48, 59, 48, 97, 48, 58, 49, 32, 48, 98, 48, 58, 48]⟩ : ByteArray), (⟨#[50, 59, 48, 59, 49, 59, 48, 97, 48, 58, 48, 32, 48, 97, 49, 58, 49, 32, 49, 98, 49, 58, 48]⟩ : ByteArray), (⟨#[50, 59, 48, 32, 49, 59, 48, 32, 49, 59, 48, 97, 48, 58, 49, 32, 48, 98, 48, 58, 48, 32, 49, 97, 49, 58, 48, 32, 49, 98, 49, 58, 49]⟩ : ByteArray), (⟨#[51, 59, 48, 59, 48, 32, 50, 59, 48, 97, 48, 58, 48, 32, 48, 97, 49, 58, 48, 32, 48, 98, 48, 58, 49, 32, 49, 97, 49, 58, 49, 32, 49, 98, 50, 58, 48, 32, 50, 97, 50, 58, 48, 32, 50, 98, 50, 58, 48]⟩ : ByteArray), (⟨#[50, 59, 48, 59, 48, 59, 48, 97, 49, 58, 49, 32, 49, 98, 48, 58, 48]⟩ : ByteArray), (⟨#[51, 59, 48, 59, 50, 59, 48, 97, 48, 58, 48, 32, 48, 98, 48, 58, 48, 32, 48, 98, 49, 58, 48, 32, 49, 97, 49, 58, 49, 32, 49, 98, 50, 58, 48, 32, 50, 97, 50, 58, 48, 32, 50, 98, 50, 58, 48]⟩ : ByteArray), (⟨#[49, 59, 48, 59, 48, 59, 48, 97, 48, 58, 48]⟩ : ByteArray), (⟨#[50, 59, 48, 59, 48, 32, 49, 59, 48, 97, 48, 58, 48, 32, 48, 98, 49, 58, 49, 32, 49, 97, 48, 58, 48, 32, 49, 98, 49, 58, 48]⟩ : ByteArray), (⟨#[50, 59, 48, 59, 49, 59, 48, 97, 49, 58, 50, 32, 49, 97, 49, 58, 48, 32, 49, 98, 48, 58, 49]⟩ : ByteArray)].length : Int)))).bind fun t1 => (some (spec_l3Known.en (t1.1, t1.2.1, t1.2.2.1, t1.2.2.2.1)))) else none) else none)) := by kernel_rfl
theorem spec_l3Known.sf (k : Nat) (a0 : Int) : R.start Tryz.prog xhn spec_l3Known.O 0 Tryz.f107 spec_l3Known.fh k [.int .i64 a0] [] = (spec_l3Known.f k a0).map (spec_l3Known.en) := by
  rw [spec_l3Known.ef]
  simp only [spec_l3Known.f, R.map_ite, R.map_bind, R.map_none, R.map_some, R.wr64_eq]
theorem spec_l3Known.ok (k : Nat) : spec_l3Known.tw.Ok Tryz.prog k := by
  intro md hmd a r h
  refine fn_ok (H := xhn) (fh := spec_l3Known.fh) (O := spec_l3Known.O) (k := k) Tryz.func107 (by kernel_rfl) (by kernel_rfl) (fun j _ => (Tw.orc_sound spec_ParseAutomaton.dok (spec_ParseAutomaton.ok j) (fun _ => rfl) noO_sound)) (by kernel_rfl) (m := 0) rfl ?_
  refine (spec_l3Known.sf k a).trans ?_
  exact congrArg (Option.map _) h
def spec_l3Some.l0 : Nat → (List Int) → Int → Int → (List Int) → Int → Option ((List Int) × (List Int) × Int)
  | 0, _, _, _, _, _ => none
  | k + 1, y1, x8, x9, y0_0, y0_1 => (if x9 < x8 then ((spec_l13Rd_pick.f 2 y0_0 y0_1).bind fun t1 => (if t1.1 = 0 then (if y1.length < 17592186044416 then (spec_l3Some.l0 k (y1 ++ [x9]) x8 (wrap64 (x9 + 1)) t1.2.1 t1.2.2) else none) else (spec_l3Some.l0 k y1 x8 (wrap64 (x9 + 1)) t1.2.1 t1.2.2))) else (some (y1, y0_0, y0_1)))
def spec_l3Some.f (k : Nat) (a1 : Int) (l2_0 : List Int) (a2_1 : Int) : Option ((List Int) × (List Int) × Int) := (spec_l3Some.l0 k ([] : List Int) a1 0 l2_0 a2_1)
def spec_l3Some.en (r : (List Int) × (List Int) × Int) : Res := (.sl 1 0, [.box false [.imm (.I .u8 r.2.1), .int .i64 r.2.2], .arr 3 0 (.I .i64 r.1) false])
def spec_l3Some.dec : List AV → List R.Obj → Option (Int × (List Int) × Int)
  | [.ptr 0 0, .int .i64 a1], [.box false [.imm (.I .u8 l2_0), .int .i64 a2_1]] => some (a1, l2_0, a2_1)
  | _, _ => none
def spec_l3Some.tw : Tw := ⟨108, Int × (List Int) × Int, (List Int) × (List Int) × Int, spec_l3Some.dec, fun a => [.ptr 0 0, .int .i64 a.1], fun a => [.box false [.imm (.I .u8 a.2.1), .int .i64 a.2.2]], fun k a => spec_l3Some.f k a.1 a.2.1 a.2.2, fun a r => spec_l3Some.en r, true⟩
theorem spec_l3Some.dok : spec_l3Some.tw.DecOk := by
  intro args hc a h
  have h : spec_l3Some.dec args hc = some a := h
  unfold spec_l3Some.dec at h
  split at h
  · cases h; exact ⟨rfl, rfl⟩
  · cases h
noncomputable def spec_l3Some.O (k : Nat) : Oracle := (spec_l13Rd_pick.tw.orc k noO)
def spec_l3Some.fh : FH := ⟨fun i => match i with | 3 => some [(0, 0), (5, 0), (8, 0), (9, 0)] | _ => none, [(true, 3)], false⟩
noncomputable def spec_l3Some.x0 (k : Nat) (y1 : List Int) (x8 : Int) (x9 : Int) (y0_0 : List Int) (y0_1 : Int) : Option Res := R.exec Tryz.prog xhn spec_l3Some.O 1 Tryz.f108 spec_l3Some.fh k (R.point Tryz.f108 3) ⟨[(0, .ptr 0 0), (5, .sl 1 0), (8, .int .i64 x8), (9, .int .i64 x9)], [(0, .box false [.imm (.I .u8 y0_0), .int .i64 y0_1]), (1, .arr 3 0 (.I .i64 y1) false)], 4⟩
set_option maxRecDepth 100000 in
theorem spec_l3Some.e0 (k : Nat) (y1 : List Int) (x8 : Int) (x9 : Int) (y0_0 : List Int) (y0_1 : Int) : spec_l3Some.x0 (k + 1) y1 x8 x9 y0_0 y0_1 = (if x9 < x8 then ((spec_l13Rd_pick.f 2 y0_0 y0_1).bind fun t1 => (if t1.1 = 0 then (if y1.length < 17592186044416 then (spec_l3Some.x0 k (y1 ++ [x9]) x8 (wr64 (x9 + 1)) t1.2.1 t1.2.2) else none) else (spec_l3Some.x0 k y1 x8 (wr64 (x9 + 1)) t1.2.1 t1.2.2))) else (some (spec_l3Some.en (y1, y0_0, y0_1)))) := by kernel_rfl
set_option maxRecDepth 100000 in
theorem spec_l3Some.ef (k : Nat) (a1 : Int) (l2_0 : List Int) (a2_1 : Int) : R.start Tryz.prog xhn spec_l3Some.O 1 Tryz.f108 spec_l3Some.fh k [.ptr 0 0, .int .i64 a1] [.box false [.imm (.I .u8 l2_0), .int .i64 a2_1]] = (spec_l3Some.x0 k ([] : List Int) a1 0 l2_0 a2_1) := by kernel_rfl
theorem spec_l3Some.link : ∀ k, (∀ (y1 : List Int) (x8 : Int) (x9 : Int) (y0_0 : List Int) (y0_1 : Int), spec_l3Some.x0 k y1 x8 x9 y0_0 y0_1 = (spec_l3Some.l0 k y1 x8 x9 y0_0 y0_1).map (spec_l3Some.en))
  | 0 => fun _ _ _ _ _ => by simp only [spec_l3Some.l0, R.map_none]; rfl
  | k + 1 => by
    have ih0 := spec_l3Some.link k
    · intro y1 x8 x9 y0_0 y0_1
      rw [spec_l3Some.e0]
      simp only [spec_l3Some.l0, R.map_ite, R.map_bind, R.map_none, R.map_some, R.wr64_eq, ← ih0]
theorem spec_l3Some.sf (k : Nat) (a1 : Int) (l2_0 : List Int) (a2_1 : Int) : R.start Tryz.prog xhn spec_l3Some.O 1 Tryz.f108 spec_l3Some.fh k [.ptr 0 0, .int .i64 a1] [.box false [.imm (.I .u8 l2_0), .int .i64 a2_1]] = (spec_l3Some.f k a1 l2_0 a2_1).map (spec_l3Some.en) := by
  have ih0 := spec_l3Some.link k
  rw [spec_l3Some.ef]
  simp only [spec_l3Some.f, R.map_ite, R.map_bind, R.map_none, R.map_some, R.wr64_eq, ← ih0]
theorem spec_l3Some.ok (k : Nat) : spec_l3Some.tw.Ok Tryz.prog k := by
  intro md hmd a r h
  refine fn_ok (H := xhn) (fh := spec_l3Some.fh) (O := spec_l3Some.O) (k := k) Tryz.func108 (by kernel_rfl) (by kernel_rfl) (fun j _ => (Tw.orc_sound spec_l13Rd_pick.dok (spec_l13Rd_pick.ok j) (fun _ => rfl) noO_sound)) (by kernel_rfl) (m := 1) rfl ?_
  refine (spec_l3Some.sf k a.1 a.2.1 a.2.2).trans ?_
  exact congrArg (Option.map _) h
def spec_l13Rd_of.f (l1 : List ByteArray) (l2_0 : List Int) (a2_1 : Int) : Option (ByteArray × (List Int) × Int) := ((spec_l13Rd_pick.f (l1.length : Int) l2_0 a2_1).bind fun t1 => (if 0 ≤ t1.1 then (if t1.1 < (l1.length : Int) then (some ((rdS l1 t1.1), t1.2.1, t1.2.2)) else none) else none))
def spec_l13Rd_of.en (r : ByteArray × (List Int) × Int) : Res := (.str r.1, [.box false [.imm (.I .u8 r.2.1), .int .i64 r.2.2]])
def spec_l13Rd_of.dec : List AV → List R.Obj → Option ((List ByteArray) × (List Int) × Int)
  | [.ptr 0 0, .imm (.S l1)], [.box false [.imm (.I .u8 l2_0), .int .i64 a2_1]] => some (l1, l2_0, a2_1)
  | _, _ => none
def spec_l13Rd_of.tw : Tw := ⟨88, (List ByteArray) × (List Int) × Int, ByteArray × (List Int) × Int, spec_l13Rd_of.dec, fun a => [.ptr 0 0, .imm (.S a.1)], fun a => [.box false [.imm (.I .u8 a.2.1), .int .i64 a.2.2]], fun k a => spec_l13Rd_of.f a.1 a.2.1 a.2.2, fun a r => spec_l13Rd_of.en r, true⟩
theorem spec_l13Rd_of.dok : spec_l13Rd_of.tw.DecOk := by
  intro args hc a h
  have h : spec_l13Rd_of.dec args hc = some a := h
  unfold spec_l13Rd_of.dec at h
  split at h
  · cases h; exact ⟨rfl, rfl⟩
  · cases h
noncomputable def spec_l13Rd_of.O (k : Nat) : Oracle := (spec_l13Rd_pick.tw.orc k noO)
def spec_l13Rd_of.fh : FH := ⟨fun i => match i with | _ => none, [], false⟩
set_option maxRecDepth 100000 in
theorem spec_l13Rd_of.ef (k : Nat) (l1 : List ByteArray) (l2_0 : List Int) (a2_1 : Int) : R.start Tryz.prog xhn spec_l13Rd_of.O 1 Tryz.f88 spec_l13Rd_of.fh k [.ptr 0 0, .imm (.S l1)] [.box false [.imm (.I .u8 l2_0), .int .i64 a2_1]] = ((spec_l13Rd_pick.f (l1.length : Int) l2_0 a2_1).bind fun t1 => (if 0 ≤ t1.1 then (if t1.1 < (l1.length : Int) then (some (spec_l13Rd_of.en ((rdS l1 t1.1), t1.2.1, t1.2.2))) else none) else none)) := by kernel_rfl
theorem spec_l13Rd_of.sf (k : Nat) (l1 : List ByteArray) (l2_0 : List Int) (a2_1 : Int) : R.start Tryz.prog xhn spec_l13Rd_of.O 1 Tryz.f88 spec_l13Rd_of.fh k [.ptr 0 0, .imm (.S l1)] [.box false [.imm (.I .u8 l2_0), .int .i64 a2_1]] = (spec_l13Rd_of.f l1 l2_0 a2_1).map (spec_l13Rd_of.en) := by
  rw [spec_l13Rd_of.ef]
  simp only [spec_l13Rd_of.f, R.map_ite, R.map_bind, R.map_none, R.map_some, R.wr64_eq]
theorem spec_l13Rd_of.ok (k : Nat) : spec_l13Rd_of.tw.Ok Tryz.prog k := by
  intro md hmd a r h
  refine fn_ok (H := xhn) (fh := spec_l13Rd_of.fh) (O := spec_l13Rd_of.O) (k := k) Tryz.func88 (by kernel_rfl) (by kernel_rfl) (fun j _ => (Tw.orc_sound spec_l13Rd_pick.dok (spec_l13Rd_pick.ok j) (fun _ => rfl) noO_sound)) (by kernel_rfl) (m := 1) rfl ?_
  refine (spec_l13Rd_of.sf k a.1 a.2.1 a.2.2).trans ?_
  exact congrArg (Option.map _) h
def spec_l13Rd_num.f (l1 : List Int) (l2_0 : List Int) (a2_1 : Int) : Option (Int × (List Int) × Int) := ((spec_l13Rd_pick.f (l1.length : Int) l2_0 a2_1).bind fun t1 => (if 0 ≤ t1.1 then (if t1.1 < (l1.length : Int) then (some ((rdI l1 t1.1), t1.2.1, t1.2.2)) else none) else none))
def spec_l13Rd_num.en (r : Int × (List Int) × Int) : Res := (.int .i64 r.1, [.box false [.imm (.I .u8 r.2.1), .int .i64 r.2.2]])
def spec_l13Rd_num.dec : List AV → List R.Obj → Option ((List Int) × (List Int) × Int)
  | [.ptr 0 0, .imm (.I .i64 l1)], [.box false [.imm (.I .u8 l2_0), .int .i64 a2_1]] => some (l1, l2_0, a2_1)
  | _, _ => none
def spec_l13Rd_num.tw : Tw := ⟨39, (List Int) × (List Int) × Int, Int × (List Int) × Int, spec_l13Rd_num.dec, fun a => [.ptr 0 0, .imm (.I .i64 a.1)], fun a => [.box false [.imm (.I .u8 a.2.1), .int .i64 a.2.2]], fun k a => spec_l13Rd_num.f a.1 a.2.1 a.2.2, fun a r => spec_l13Rd_num.en r, true⟩
theorem spec_l13Rd_num.dok : spec_l13Rd_num.tw.DecOk := by
  intro args hc a h
  have h : spec_l13Rd_num.dec args hc = some a := h
  unfold spec_l13Rd_num.dec at h
  split at h
  · cases h; exact ⟨rfl, rfl⟩
  · cases h
noncomputable def spec_l13Rd_num.O (k : Nat) : Oracle := (spec_l13Rd_pick.tw.orc k noO)
def spec_l13Rd_num.fh : FH := ⟨fun i => match i with | _ => none, [], false⟩
set_option maxRecDepth 100000 in
theorem spec_l13Rd_num.ef (k : Nat) (l1 : List Int) (l2_0 : List Int) (a2_1 : Int) : R.start Tryz.prog xhn spec_l13Rd_num.O 1 Tryz.f39 spec_l13Rd_num.fh k [.ptr 0 0, .imm (.I .i64 l1)] [.box false [.imm (.I .u8 l2_0), .int .i64 a2_1]] = ((spec_l13Rd_pick.f (l1.length : Int) l2_0 a2_1).bind fun t1 => (if 0 ≤ t1.1 then (if t1.1 < (l1.length : Int) then (some (spec_l13Rd_num.en ((rdI l1 t1.1), t1.2.1, t1.2.2))) else none) else none)) := by kernel_rfl
theorem spec_l13Rd_num.sf (k : Nat) (l1 : List Int) (l2_0 : List Int) (a2_1 : Int) : R.start Tryz.prog xhn spec_l13Rd_num.O 1 Tryz.f39 spec_l13Rd_num.fh k [.ptr 0 0, .imm (.I .i64 l1)] [.box false [.imm (.I .u8 l2_0), .int .i64 a2_1]] = (spec_l13Rd_num.f l1 l2_0 a2_1).map (spec_l13Rd_num.en) := by
  rw [spec_l13Rd_num.ef]
  simp only [spec_l13Rd_num.f, R.map_ite, R.map_bind, R.map_none, R.map_some, R.wr64_eq]
theorem spec_l13Rd_num.ok (k : Nat) : spec_l13Rd_num.tw.Ok Tryz.prog k := by
  intro md hmd a r h
  refine fn_ok (H := xhn) (fh := spec_l13Rd_num.fh) (O := spec_l13Rd_num.O) (k := k) Tryz.func39 (by kernel_rfl) (by kernel_rfl) (fun j _ => (Tw.orc_sound spec_l13Rd_pick.dok (spec_l13Rd_pick.ok j) (fun _ => rfl) noO_sound)) (by kernel_rfl) (m := 1) rfl ?_
  refine (spec_l13Rd_num.sf k a.1 a.2.1 a.2.2).trans ?_
  exact congrArg (Option.map _) h
def spec_l3Put.l0 : Nat → (List Stp) → Int → Int → ByteArray → Int → Int → Option (List Stp)
  | 0, _, _, _, _, _, _ => none
  | k + 1, x0, x5, y0_0, y0_1, y0_2, y0_3 => (if x5 < (x0.length : Int) then (if 0 ≤ x5 then ((spec_l3Before.f ((rdT x0 x5).f0) ((rdT x0 x5).f1) ((rdT x0 x5).f2) ((rdT x0 x5).f3) y0_0 y0_1 y0_2 y0_3).bind fun t1 => (if t1 = true then (spec_l3Put.l0 k x0 (wrap64 (x5 + 1)) y0_0 y0_1 y0_2 y0_3) else ((spec_l3Before.f y0_0 y0_1 y0_2 y0_3 ((rdT x0 x5).f0) ((rdT x0 x5).f1) ((rdT x0 x5).f2) ((rdT x0 x5).f3)).bind fun t2 => (if t2 = true then (if x5 ≤ (x0.length : Int) then (if ([] : List Stp).length + ((x0.drop 0).take (x5.toNat - 0)).length ≤ 3518437208883 then (if (([] : List Stp) ++ ((x0.drop 0).take (x5.toNat - 0))).length < 3518437208883 then (if (x0.length : Int) ≤ (x0.length : Int) then (if ((([] : List Stp) ++ ((x0.drop 0).take (x5.toNat - 0))) ++ [(⟨y0_0, y0_1, y0_2, y0_3⟩ : Stp)]).length + ((x0.drop x5.toNat).take (x0.length - x5.toNat)).length ≤ 3518437208883 then (some (((([] : List Stp) ++ ((x0.drop 0).take (x5.toNat - 0))) ++ [(⟨y0_0, y0_1, y0_2, y0_3⟩ : Stp)]) ++ ((x0.drop x5.toNat).take (x0.length - x5.toNat)))) else none) else none) else none) else none) else none) else (if ([] : List Stp).length + x0.length ≤ 3518437208883 then (if x5 < ((([] : List Stp) ++ x0).length : Int) then (some ((([] : List Stp) ++ x0).set x5.toNat (⟨(rdT (([] : List Stp) ++ x0) x5).f0, (rdT (([] : List Stp) ++ x0) x5).f1, (rdT (([] : List Stp) ++ x0) x5).f2, (mn (rdT (([] : List Stp) ++ x0) x5).f3 y0_3)⟩ : Stp))) else none) else none))))) else none) else (if 0 ≤ x5 then (if x5 ≤ (x0.length : Int) then (if ([] : List Stp).length + ((x0.drop 0).take (x5.toNat - 0)).length ≤ 3518437208883 then (if (([] : List Stp) ++ ((x0.drop 0).take (x5.toNat - 0))).length < 3518437208883 then (if (x0.length : Int) ≤ (x0.length : Int) then (if ((([] : List Stp) ++ ((x0.drop 0).take (x5.toNat - 0))) ++ [(⟨y0_0, y0_1, y0_2, y0_3⟩ : Stp)]).length + ((x0.drop x5.toNat).take (x0.length - x5.toNat)).length ≤ 3518437208883 then (some (((([] : List Stp) ++ ((x0.drop 0).take (x5.toNat - 0))) ++ [(⟨y0_0, y0_1, y0_2, y0_3⟩ : Stp)]) ++ ((x0.drop x5.toNat).take (x0.length - x5.toNat)))) else none) else none) else none) else none) else none) else none))
def spec_l3Put.f (k : Nat) (l0 : List Stp) (a1_0 : Int) (a1_1 : ByteArray) (a1_2 : Int) (a1_3 : Int) : Option (List Stp) := (spec_l3Put.l0 k l0 0 a1_0 a1_1 a1_2 a1_3)
def spec_l3Put.en (r : List Stp) : Res := (.sl 0 0, [.arr 75 0 (.T r) false])
def spec_l3Put.dec : List AV → List R.Obj → Option ((List Stp) × Int × ByteArray × Int × Int)
  | [.imm (.T l0), .agg [.int .i64 a1_0, .str a1_1, .int .i64 a1_2, .int .i64 a1_3]], [] => some (l0, a1_0, a1_1, a1_2, a1_3)
  | _, _ => none
def spec_l3Put.tw : Tw := ⟨109, (List Stp) × Int × ByteArray × Int × Int, List Stp, spec_l3Put.dec, fun a => [.imm (.T a.1), .agg [.int .i64 a.2.1, .str a.2.2.1, .int .i64 a.2.2.2.1, .int .i64 a.2.2.2.2]], fun a => [], fun k a => spec_l3Put.f k a.1 a.2.1 a.2.2.1 a.2.2.2.1 a.2.2.2.2, fun a r => spec_l3Put.en r, true⟩
theorem spec_l3Put.dok : spec_l3Put.tw.DecOk := by
  intro args hc a h
  have h : spec_l3Put.dec args hc = some a := h
  unfold spec_l3Put.dec at h
  split at h
  · cases h; exact ⟨rfl, rfl⟩
  · cases h
noncomputable def spec_l3Put.O (k : Nat) : Oracle := (spec_l3Before.tw.orc k noO)
def spec_l3Put.fh : FH := ⟨fun i => match i with | 2 => some [(0, 0), (3, 0), (5, 0)] | _ => none, [(true, 75)], false⟩
noncomputable def spec_l3Put.x0 (k : Nat) (x0 : List Stp) (x5 : Int) (y0_0 : Int) (y0_1 : ByteArray) (y0_2 : Int) (y0_3 : Int) : Option Res := R.exec Tryz.prog xhn spec_l3Put.O 0 Tryz.f109 spec_l3Put.fh k (R.point Tryz.f109 2) ⟨[(0, .imm (.T x0)), (3, .ptr 0 0), (5, .int .i64 x5)], [(0, .box false [.int .i64 y0_0, .str y0_1, .int .i64 y0_2, .int .i64 y0_3])], 3⟩
set_option maxRecDepth 100000 in
theorem spec_l3Put.e0 (k : Nat) (x0 : List Stp) (x5 : Int) (y0_0 : Int) (y0_1 : ByteArray) (y0_2 : Int) (y0_3 : Int) : spec_l3Put.x0 (k + 1) x0 x5 y0_0 y0_1 y0_2 y0_3 = (if x5 < (x0.length : Int) then (if 0 ≤ x5 then ((spec_l3Before.f ((rdT x0 x5).f0) ((rdT x0 x5).f1) ((rdT x0 x5).f2) ((rdT x0 x5).f3) y0_0 y0_1 y0_2 y0_3).bind fun t1 => (if t1 = true then (spec_l3Put.x0 k x0 (wr64 (x5 + 1)) y0_0 y0_1 y0_2 y0_3) else ((spec_l3Before.f y0_0 y0_1 y0_2 y0_3 ((rdT x0 x5).f0) ((rdT x0 x5).f1) ((rdT x0 x5).f2) ((rdT x0 x5).f3)).bind fun t2 => (if t2 = true then (if x5 ≤ (x0.length : Int) then (if ([] : List Stp).length + ((x0.drop 0).take (x5.toNat - 0)).length ≤ 3518437208883 then (if (([] : List Stp) ++ ((x0.drop 0).take (x5.toNat - 0))).length < 3518437208883 then (if (x0.length : Int) ≤ (x0.length : Int) then (if ((([] : List Stp) ++ ((x0.drop 0).take (x5.toNat - 0))) ++ [(⟨y0_0, y0_1, y0_2, y0_3⟩ : Stp)]).length + ((x0.drop x5.toNat).take (x0.length - x5.toNat)).length ≤ 3518437208883 then (some (spec_l3Put.en (((([] : List Stp) ++ ((x0.drop 0).take (x5.toNat - 0))) ++ [(⟨y0_0, y0_1, y0_2, y0_3⟩ : Stp)]) ++ ((x0.drop x5.toNat).take (x0.length - x5.toNat))))) else none) else none) else none) else none) else none) else (if ([] : List Stp).length + x0.length ≤ 3518437208883 then (if x5 < ((([] : List Stp) ++ x0).length : Int) then (some (spec_l3Put.en ((([] : List Stp) ++ x0).set x5.toNat (⟨(rdT (([] : List Stp) ++ x0) x5).f0, (rdT (([] : List Stp) ++ x0) x5).f1, (rdT (([] : List Stp) ++ x0) x5).f2, (mn (rdT (([] : List Stp) ++ x0) x5).f3 y0_3)⟩ : Stp)))) else none) else none))))) else none) else (if 0 ≤ x5 then (if x5 ≤ (x0.length : Int) then (if ([] : List Stp).length + ((x0.drop 0).take (x5.toNat - 0)).length ≤ 3518437208883 then (if (([] : List Stp) ++ ((x0.drop 0).take (x5.toNat - 0))).length < 3518437208883 then (if (x0.length : Int) ≤ (x0.length : Int) then (if ((([] : List Stp) ++ ((x0.drop 0).take (x5.toNat - 0))) ++ [(⟨y0_0, y0_1, y0_2, y0_3⟩ : Stp)]).length + ((x0.drop x5.toNat).take (x0.length - x5.toNat)).length ≤ 3518437208883 then (some (spec_l3Put.en (((([] : List Stp) ++ ((x0.drop 0).take (x5.toNat - 0))) ++ [(⟨y0_0, y0_1, y0_2, y0_3⟩ : Stp)]) ++ ((x0.drop x5.toNat).take (x0.length - x5.toNat))))) else none) else none) else none) else none) else none) else none)) := by
  refine Eq.trans ?_ (R.icong (fun h0 => (R.icong (fun h1 => (R.idropT (p := x5 < (x0.length : Int)) (z := none) h0 (R.bcong fun t1 => (R.icong (fun h2 => rfl) (fun h2 => (R.idropT (p := x5 < (x0.length : Int)) (z := (if 0 ≤ x5 then (if x5 ≤ (x0.length : Int) then (if ([] : List Stp).length + ((x0.drop 0).take (x5.toNat - 0)).length ≤ 3518437208883 then (if (([] : List Stp) ++ ((x0.drop 0).take (x5.toNat - 0))).length < 3518437208883 then (if 0 ≤ x5 then (if x5 ≤ (x0.length : Int) then (if (x0.length : Int) ≤ (x0.length : Int) then (if ((([] : List Stp) ++ ((x0.drop 0).take (x5.toNat - 0))) ++ [(⟨y0_0, y0_1, y0_2, y0_3⟩ : Stp)]).length + ((x0.drop x5.toNat).take (x0.length - x5.toNat)).length ≤ 3518437208883 then (some (spec_l3Put.en (((([] : List Stp) ++ ((x0.drop 0).take (x5.toNat - 0))) ++ [(⟨y0_0, y0_1, y0_2, y0_3⟩ : Stp)]) ++ ((x0.drop x5.toNat).take (x0.length - x5.toNat))))) else none) else none) else none) else none) else none) else none) else none) else none)) h0 (R.idropT (p := 0 ≤ x5) (z := none) h1 (R.idropT (p := x5 < (x0.length : Int)) (z := none) h0 (R.bcong fun t2 => (R.icong (fun h3 => (R.idropT (p := 0 ≤ x5) (z := none) h1 (R.icong (fun h4 => (R.icong (fun h5 => (R.icong (fun h6 => (R.idropT (p := 0 ≤ x5) (z := none) h1 (R.idropT (p := x5 ≤ (x0.length : Int)) (z := none) h4 rfl))) (fun h6 => rfl))) (fun h5 => rfl))) (fun h4 => rfl)))) (fun h3 => (R.icong (fun h4 => (R.idropT (p := 0 ≤ x5) (z := none) h1 (R.icong (fun h5 => (R.idropT (p := 0 ≤ x5) (z := none) h1 (R.idropT (p := x5 < ((([] : List Stp) ++ x0).length : Int)) (z := none) h5 rfl))) (fun h5 => rfl)))) (fun h4 => rfl))))))))))))) (fun h1 => rfl))) (fun h0 => (R.idropF (p := x5 < (x0.length : Int)) (z := (if 0 ≤ x5 then (if x5 < (x0.length : Int) then ((spec_l3Before.f y0_0 y0_1 y0_2 y0_3 ((rdT x0 x5).f0) ((rdT x0 x5).f1) ((rdT x0 x5).f2) ((rdT x0 x5).f3)).bind fun t3 => (if t3 = true then (if 0 ≤ x5 then (if x5 ≤ (x0.length : Int) then (if ([] : List Stp).length + ((x0.drop 0).take (x5.toNat - 0)).length ≤ 3518437208883 then (if (([] : List Stp) ++ ((x0.drop 0).take (x5.toNat - 0))).length < 3518437208883 then (if 0 ≤ x5 then (if x5 ≤ (x0.length : Int) then (if (x0.length : Int) ≤ (x0.length : Int) then (if ((([] : List Stp) ++ ((x0.drop 0).take (x5.toNat - 0))) ++ [(⟨y0_0, y0_1, y0_2, y0_3⟩ : Stp)]).length + ((x0.drop x5.toNat).take (x0.length - x5.toNat)).length ≤ 3518437208883 then (some (spec_l3Put.en (((([] : List Stp) ++ ((x0.drop 0).take (x5.toNat - 0))) ++ [(⟨y0_0, y0_1, y0_2, y0_3⟩ : Stp)]) ++ ((x0.drop x5.toNat).take (x0.length - x5.toNat))))) else none) else none) else none) else none) else none) else none) else none) else none) else (if ([] : List Stp).length + x0.length ≤ 3518437208883 then (if 0 ≤ x5 then (if x5 < ((([] : List Stp) ++ x0).length : Int) then (if 0 ≤ x5 then (if x5 < ((([] : List Stp) ++ x0).length : Int) then (some (spec_l3Put.en ((([] : List Stp) ++ x0).set x5.toNat (⟨(rdT (([] : List Stp) ++ x0) x5).f0, (rdT (([] : List Stp) ++ x0) x5).f1, (rdT (([] : List Stp) ++ x0) x5).f2, (mn (rdT (([] : List Stp) ++ x0) x5).f3 y0_3)⟩ : Stp)))) else none) else none) else none) else none) else none))) else none) else none)) h0 (R.icong (fun h1 => (R.icong (fun h2 => (R.icong (fun h3 => (R.icong (fun h4 => (R.idropT (p := 0 ≤ x5) (z := none) h1 (R.idropT (p := x5 ≤ (x0.length : Int)) (z := none) h2 rfl))) (fun h4 => rfl))) (fun h3 => rfl))) (fun h2 => rfl))) (fun h1 => rfl)))))
  kernel_rfl
set_option maxRecDepth 100000 in
theorem spec_l3Put.ef (k : Nat) (l0 : List Stp) (a1_0 : Int) (a1_1 : ByteArray) (a1_2 : Int) (a1_3 : Int) : R.start Tryz.prog xhn spec_l3Put.O 0 Tryz.f109 spec_l3Put.fh k [.imm (.T l0), .agg [.int .i64 a1_0, .str a1_1, .int .i64 a1_2, .int .i64 a1_3]] [] = (spec_l3Put.x0 k l0 0 a1_0 a1_1 a1_2 a1_3) := by kernel_rfl
theorem spec_l3Put.link : ∀ k, (∀ (x0 : List Stp) (x5 : Int) (y0_0 : Int) (y0_1 : ByteArray) (y0_2 : Int) (y0_3 : Int), spec_l3Put.x0 k x0 x5 y0_0 y0_1 y0_2 y0_3 = (spec_l3Put.l0 k x0 x5 y0_0 y0_1 y0_2 y0_3).map (spec_l3Put.en))
  | 0 => fun _ _ _ _ _ _ => by simp only [spec_l3Put.l0, R.map_none]; rfl
  | k + 1 => by
    have ih0 := spec_l3Put.link k
    · intro x0 x5 y0_0 y0_1 y0_2 y0_3
      rw [spec_l3Put.e0]
      simp only [spec_l3Put.l0, R.map_ite, R.map_bind, R.map_none, R.map_some, R.wr64_eq, ← ih0]
theorem spec_l3Put.sf (k : Nat) (l0 : List Stp) (a1_0 : Int) (a1_1 : ByteArray) (a1_2 : Int) (a1_3 : Int) : R.start Tryz.prog xhn spec_l3Put.O 0 Tryz.f109 spec_l3Put.fh k [.imm (.T l0), .agg [.int .i64 a1_0, .str a1_1, .int .i64 a1_2, .int .i64 a1_3]] [] = (spec_l3Put.f k l0 a1_0 a1_1 a1_2 a1_3).map (spec_l3Put.en) := by
  have ih0 := spec_l3Put.link k
  rw [spec_l3Put.ef]
  simp only [spec_l3Put.f, R.map_ite, R.map_bind, R.map_none, R.map_some, R.wr64_eq, ← ih0]
theorem spec_l3Put.ok (k : Nat) : spec_l3Put.tw.Ok Tryz.prog k := by
  intro md hmd a r h
  refine fn_ok (H := xhn) (fh := spec_l3Put.fh) (O := spec_l3Put.O) (k := k) Tryz.func109 (by kernel_rfl) (by kernel_rfl) (fun j _ => (Tw.orc_sound spec_l3Before.dok (spec_l3Before.ok j) (fun _ => rfl) noO_sound)) (by kernel_rfl) (m := 0) rfl ?_
  refine (spec_l3Put.sf k a.1 a.2.1 a.2.2.1 a.2.2.2.1 a.2.2.2.2).trans ?_
  exact congrArg (Option.map _) h
def spec_l3Draw.l0 : Nat → Int → Int → Int → (List Int) → Int → Int → (List Int) → (List Int) → (List Stp) → Option (Int × (List Int) × (List Int) × (List Stp) × (List Int) × Int)
  | 0, _, _, _, _, _, _, _, _, _ => none
  | k + 1, x6, x38, x39, y0_0, y0_1, y2_0, y6, y7, y8 => (if x39 < x38 then ((spec_l13Rd_pick.f x6 y0_0 y0_1).bind fun t12 => ((spec_l13Rd_of.f ([(⟨#[97]⟩ : ByteArray), (⟨#[98]⟩ : ByteArray)]) t12.2.1 t12.2.2).bind fun t13 => ((spec_l13Rd_pick.f x6 t13.2.1 t13.2.2).bind fun t14 => ((spec_l13Rd_num.f ([0, 1, 0, 1, 2, 0]) t14.2.1 t14.2.2).bind fun t15 => ((spec_l3Put.f k y8 t12.1 t13.1 t14.1 t15.1).bind fun t16 => (spec_l3Draw.l0 k x6 x38 (wrap64 (x39 + 1)) t15.2.1 t15.2.2 y2_0 y6 y7 t16)))))) else (some (y2_0, y6, y7, y8, y0_0, y0_1)))
def spec_l3Draw.f (k : Nat) (a1 : Int) (l2_0 : List Int) (a2_1 : Int) : Option (Int × (List Int) × (List Int) × (List Stp) × (List Int) × Int) := ((spec_l13Rd_pick.f 3 l2_0 a2_1).bind fun t1 => (if t1.1 = 0 then ((spec_l13Rd_pick.f 9 t1.2.1 t1.2.2).bind fun t2 => ((spec_l3Known.f k t2.1).bind fun t3 => (if t3.1 ≤ a1 then (some (t3.1, t3.2.1, t3.2.2.1, t3.2.2.2, t2.2.1, t2.2.2)) else ((spec_l13Rd_pick.f a1 t2.2.1 t2.2.2).bind fun t4 => ((spec_l3Some.f k (wrap64 (1 + t4.1)) t4.2.1 t4.2.2).bind fun t5 => ((spec_l3Some.f k (wrap64 (1 + t4.1)) t5.2.1 t5.2.2).bind fun t6 => ((spec_l13Rd_pick.f (wrap64 ((wrap64 (2 * (wrap64 (1 + t4.1)))) + 1)) t6.2.1 t6.2.2).bind fun t7 => (spec_l3Draw.l0 k (wrap64 (1 + t4.1)) (wrap64 (1 + t7.1)) 0 t7.2.1 t7.2.2 (wrap64 (1 + t4.1)) t5.1 t6.1 ([] : List Stp))))))))) else ((spec_l13Rd_pick.f a1 t1.2.1 t1.2.2).bind fun t8 => ((spec_l3Some.f k (wrap64 (1 + t8.1)) t8.2.1 t8.2.2).bind fun t9 => ((spec_l3Some.f k (wrap64 (1 + t8.1)) t9.2.1 t9.2.2).bind fun t10 => ((spec_l13Rd_pick.f (wrap64 ((wrap64 (2 * (wrap64 (1 + t8.1)))) + 1)) t10.2.1 t10.2.2).bind fun t11 => (spec_l3Draw.l0 k (wrap64 (1 + t8.1)) (wrap64 (1 + t11.1)) 0 t11.2.1 t11.2.2 (wrap64 (1 + t8.1)) t9.1 t10.1 ([] : List Stp))))))))
def spec_l3Draw.en (r : Int × (List Int) × (List Int) × (List Stp) × (List Int) × Int) : Res := (.agg [.int .i64 r.1, .sl 1 0, .sl 2 0, .sl 3 0], [.box false [.imm (.I .u8 r.2.2.2.2.1), .int .i64 r.2.2.2.2.2], .arr 3 0 (.I .i64 r.2.1) false, .arr 3 0 (.I .i64 r.2.2.1) false, .arr 75 0 (.T r.2.2.2.1) false])
def spec_l3Draw.dec : List AV → List R.Obj → Option (Int × (List Int) × Int)
  | [.ptr 0 0, .int .i64 a1], [.box false [.imm (.I .u8 l2_0), .int .i64 a2_1]] => some (a1, l2_0, a2_1)
  | _, _ => none
def spec_l3Draw.tw : Tw := ⟨87, Int × (List Int) × Int, Int × (List Int) × (List Int) × (List Stp) × (List Int) × Int, spec_l3Draw.dec, fun a => [.ptr 0 0, .int .i64 a.1], fun a => [.box false [.imm (.I .u8 a.2.1), .int .i64 a.2.2]], fun k a => spec_l3Draw.f k a.1 a.2.1 a.2.2, fun a r => spec_l3Draw.en r, true⟩
theorem spec_l3Draw.dok : spec_l3Draw.tw.DecOk := by
  intro args hc a h
  have h : spec_l3Draw.dec args hc = some a := h
  unfold spec_l3Draw.dec at h
  split at h
  · cases h; exact ⟨rfl, rfl⟩
  · cases h
noncomputable def spec_l3Draw.O (k : Nat) : Oracle := (spec_l13Rd_pick.tw.orc k (spec_l3Known.tw.orc k (spec_l3Some.tw.orc k (spec_l13Rd_of.tw.orc k (spec_l13Rd_num.tw.orc k (spec_l3Put.tw.orc k noO))))))
def spec_l3Draw.fh : FH := ⟨fun i => match i with | 8 => some [(0, 0), (4, 0), (6, 0), (7, 0), (38, 0), (39, 0)] | _ => none, [(true, 3), (true, 3), (true, 75)], false⟩
noncomputable def spec_l3Draw.x0 (k : Nat) (x6 : Int) (x38 : Int) (x39 : Int) (y0_0 : List Int) (y0_1 : Int) (y2_0 : Int) (y6 : List Int) (y7 : List Int) (y8 : List Stp) : Option Res := R.exec Tryz.prog xhn spec_l3Draw.O 1 Tryz.f87 spec_l3Draw.fh k (R.point Tryz.f87 8) ⟨[(0, .ptr 0 0), (4, .ptr 1 0), (6, .int .i64 x6), (7, .ptr 2 0), (38, .int .i64 x38), (39, .int .i64 x39)], [(0, .box false [.imm (.I .u8 y0_0), .int .i64 y0_1]), (1, .box false [.int .i64 0, .sl 3 0, .sl 4 0, .sl 5 0]), (2, .box false [.int .i64 y2_0, .sl 6 0, .sl 7 0, .sl 8 0]), (3, .arr 3 0 (.I .i64 ([] : List Int)) false), (4, .arr 3 0 (.I .i64 ([] : List Int)) false), (5, .arr 75 0 (.T ([] : List Stp)) false), (6, .arr 3 0 (.I .i64 y6) false), (7, .arr 3 0 (.I .i64 y7) false), (8, .arr 75 0 (.T y8) false)], 11⟩
set_option maxRecDepth 100000 in
theorem spec_l3Draw.e0 (k : Nat) (x6 : Int) (x38 : Int) (x39 : Int) (y0_0 : List Int) (y0_1 : Int) (y2_0 : Int) (y6 : List Int) (y7 : List Int) (y8 : List Stp) : spec_l3Draw.x0 (k + 1) x6 x38 x39 y0_0 y0_1 y2_0 y6 y7 y8 = (if x39 < x38 then ((spec_l13Rd_pick.f x6 y0_0 y0_1).bind fun t12 => ((spec_l13Rd_of.f ([(⟨#[97]⟩ : ByteArray), (⟨#[98]⟩ : ByteArray)]) t12.2.1 t12.2.2).bind fun t13 => ((spec_l13Rd_pick.f x6 t13.2.1 t13.2.2).bind fun t14 => ((spec_l13Rd_num.f ([0, 1, 0, 1, 2, 0]) t14.2.1 t14.2.2).bind fun t15 => ((spec_l3Put.f k y8 t12.1 t13.1 t14.1 t15.1).bind fun t16 => (spec_l3Draw.x0 k x6 x38 (wr64 (x39 + 1)) t15.2.1 t15.2.2 y2_0 y6 y7 t16)))))) else (some (spec_l3Draw.en (y2_0, y6, y7, y8, y0_0, y0_1)))) := by kernel_rfl
set_option maxRecDepth 100000 in
theorem spec_l3Draw.ef (k : Nat) (a1 : Int) (l2_0 : List Int) (a2_1 : Int) : R.start Tryz.prog xhn spec_l3Draw.O 1 Tryz.f87 spec_l3Draw.fh k [.ptr 0 0, .int .i64 a1] [.box false [.imm (.I .u8 l2_0), .int .i64 a2_1]] = ((spec_l13Rd_pick.f 3 l2_0 a2_1).bind fun t1 => (if t1.1 = 0 then ((spec_l13Rd_pick.f 9 t1.2.1 t1.2.2).bind fun t2 => ((spec_l3Known.f k t2.1).bind fun t3 => (if t3.1 ≤ a1 then (some (spec_l3Draw.en (t3.1, t3.2.1, t3.2.2.1, t3.2.2.2, t2.2.1, t2.2.2))) else ((spec_l13Rd_pick.f a1 t2.2.1 t2.2.2).bind fun t4 => ((spec_l3Some.f k (wr64 (1 + t4.1)) t4.2.1 t4.2.2).bind fun t5 => ((spec_l3Some.f k (wr64 (1 + t4.1)) t5.2.1 t5.2.2).bind fun t6 => ((spec_l13Rd_pick.f (wr64 ((wr64 (2 * (wr64 (1 + t4.1)))) + 1)) t6.2.1 t6.2.2).bind fun t7 => (spec_l3Draw.x0 k (wr64 (1 + t4.1)) (wr64 (1 + t7.1)) 0 t7.2.1 t7.2.2 (wr64 (1 + t4.1)) t5.1 t6.1 ([] : List Stp))))))))) else ((spec_l13Rd_pick.f a1 t1.2.1 t1.2.2).bind fun t8 => ((spec_l3Some.f k (wr64 (1 + t8.1)) t8.2.1 t8.2.2).bind fun t9 => ((spec_l3Some.f k (wr64 (1 + t8.1)) t9.2.1 t9.2.2).bind fun t10 => ((spec_l13Rd_pick.f (wr64 ((wr64 (2 * (wr64 (1 + t8.1)))) + 1)) t10.2.1 t10.2.2).bind fun t11 => (spec_l3Draw.x0 k (wr64 (1 + t8.1)) (wr64 (1 + t11.1)) 0 t11.2.1 t11.2.2 (wr64 (1 + t8.1)) t9.1 t10.1 ([] : List Stp)))))))) := by kernel_rfl
theorem spec_l3Draw.link : ∀ k, (∀ (x6 : Int) (x38 : Int) (x39 : Int) (y0_0 : List Int) (y0_1 : Int) (y2_0 : Int) (y6 : List Int) (y7 : List Int) (y8 : List Stp), spec_l3Draw.x0 k x6 x38 x39 y0_0 y0_1 y2_0 y6 y7 y8 = (spec_l3Draw.l0 k x6 x38 x39 y0_0 y0_1 y2_0 y6 y7 y8).map (spec_l3Draw.en))
  | 0 => fun _ _ _ _ _ _ _ _ _ => by simp only [spec_l3Draw.l0, R.map_none]; rfl
  | k + 1 => by
    have ih0 := spec_l3Draw.link k
    · intro x6 x38 x39 y0_0 y0_1 y2_0 y6 y7 y8
      rw [spec_l3Draw.e0]
      simp only [spec_l3Draw.l0, R.map_ite, R.map_bind, R.map_none, R.map_some, R.wr64_eq, ← ih0]
theorem spec_l3Draw.sf (k : Nat) (a1 : Int) (l2_0 : List Int) (a2_1 : Int) : R.start Tryz.prog xhn spec_l3Draw.O 1 Tryz.f87 spec_l3Draw.fh k [.ptr 0 0, .int .i64 a1] [.box false [.imm (.I .u8 l2_0), .int .i64 a2_1]] = (spec_l3Draw.f k a1 l2_0 a2_1).map (spec_l3Draw.en) := by
  have ih0 := spec_l3Draw.link k
  rw [spec_l3Draw.ef]
  simp only [spec_l3Draw.f, R.map_ite, R.map_bind, R.map_none, R.map_some, R.wr64_eq, ← ih0]
theorem spec_l3Draw.ok (k : Nat) : spec_l3Draw.tw.Ok Tryz.prog k := by
  intro md hmd a r h
  refine fn_ok (H := xhn) (fh := spec_l3Draw.fh) (O := spec_l3Draw.O) (k := k) Tryz.func87 (by kernel_rfl) (by kernel_rfl) (fun j _ => (Tw.orc_sound spec_l13Rd_pick.dok (spec_l13Rd_pick.ok j) (fun _ => rfl) (Tw.orc_sound spec_l3Known.dok (spec_l3Known.ok j) (fun _ => rfl) (Tw.orc_sound spec_l3Some.dok (spec_l3Some.ok j) (fun _ => rfl) (Tw.orc_sound spec_l13Rd_of.dok (spec_l13Rd_of.ok j) (fun _ => rfl) (Tw.orc_sound spec_l13Rd_num.dok (spec_l13Rd_num.ok j) (fun _ => rfl) (Tw.orc_sound spec_l3Put.dok (spec_l3Put.ok j) (fun _ => rfl) noO_sound))))))) (by kernel_rfl) (m := 1) rfl ?_
  refine (spec_l3Draw.sf k a.1 a.2.1 a.2.2).trans ?_
  exact congrArg (Option.map _) h
def spec_l3Bad.f (a1_0 : Int) (l1_1 : List Int) (l1_2 : List Int) (l1_3 : List Stp) (l2_0 : List Int) (a2_1 : Int) : Option (Int × (List Int) × (List Int) × (List Stp) × (List Int) × Int) := ((spec_l13Rd_pick.f 36 l2_0 a2_1).bind fun t1 => (if t1.1 = 0 then ((spec_l13Rd_num.f ([0, 5, (-1), 1, 9223372036854775807]) t1.2.1 t1.2.2).bind fun t2 => (some (t2.1, l1_1, l1_2, l1_3, t2.2.1, t2.2.2))) else (if t1.1 = 1 then (if ([] : List Stp).length + l1_3.length ≤ 3518437208883 then ((spec_l13Rd_pick.f 2 t1.2.1 t1.2.2).bind fun t3 => ((spec_l13Rd_of.f ([(⟨#[97]⟩ : ByteArray), (⟨#[99]⟩ : ByteArray), (⟨#[]⟩ : ByteArray)]) t3.2.1 t3.2.2).bind fun t4 => ((spec_l13Rd_num.f ([0, 4, (-1)]) t4.2.1 t4.2.2).bind fun t5 => ((spec_l13Rd_num.f ([0, 4, (-1)]) t5.2.1 t5.2.2).bind fun t6 => (if (([] : List Stp) ++ l1_3).length < 3518437208883 then (some (a1_0, l1_1, l1_2, ((([] : List Stp) ++ l1_3) ++ [(⟨t3.1, t4.1, t5.1, t6.1⟩ : Stp)]), t6.2.1, t6.2.2)) else none))))) else none) else (if t1.1 = 2 then (if ([] : List Int).length + l1_1.length ≤ 17592186044416 then ((spec_l13Rd_num.f ([0, 4, (-1)]) t1.2.1 t1.2.2).bind fun t7 => (if (([] : List Int) ++ l1_1).length < 17592186044416 then (some (a1_0, ((([] : List Int) ++ l1_1) ++ [t7.1]), l1_2, l1_3, t7.2.1, t7.2.2)) else none)) else none) else (some (a1_0, l1_1, l1_2, l1_3, t1.2.1, t1.2.2))))))
def spec_l3Bad.en (r : Int × (List Int) × (List Int) × (List Stp) × (List Int) × Int) : Res := (.agg [.int .i64 r.1, .imm (.I .i64 r.2.1), .imm (.I .i64 r.2.2.1), .imm (.T r.2.2.2.1)], [.box false [.imm (.I .u8 r.2.2.2.2.1), .int .i64 r.2.2.2.2.2]])
def spec_l3Bad.dec : List AV → List R.Obj → Option (Int × (List Int) × (List Int) × (List Stp) × (List Int) × Int)
  | [.ptr 0 0, .agg [.int .i64 a1_0, .imm (.I .i64 l1_1), .imm (.I .i64 l1_2), .imm (.T l1_3)]], [.box false [.imm (.I .u8 l2_0), .int .i64 a2_1]] => some (a1_0, l1_1, l1_2, l1_3, l2_0, a2_1)
  | _, _ => none
def spec_l3Bad.tw : Tw := ⟨86, Int × (List Int) × (List Int) × (List Stp) × (List Int) × Int, Int × (List Int) × (List Int) × (List Stp) × (List Int) × Int, spec_l3Bad.dec, fun a => [.ptr 0 0, .agg [.int .i64 a.1, .imm (.I .i64 a.2.1), .imm (.I .i64 a.2.2.1), .imm (.T a.2.2.2.1)]], fun a => [.box false [.imm (.I .u8 a.2.2.2.2.1), .int .i64 a.2.2.2.2.2]], fun k a => spec_l3Bad.f a.1 a.2.1 a.2.2.1 a.2.2.2.1 a.2.2.2.2.1 a.2.2.2.2.2, fun a r => spec_l3Bad.en r, true⟩
theorem spec_l3Bad.dok : spec_l3Bad.tw.DecOk := by
  intro args hc a h
  have h : spec_l3Bad.dec args hc = some a := h
  unfold spec_l3Bad.dec at h
  split at h
  · cases h; exact ⟨rfl, rfl⟩
  · cases h
noncomputable def spec_l3Bad.O (k : Nat) : Oracle := (spec_l13Rd_pick.tw.orc k (spec_l13Rd_num.tw.orc k (spec_l13Rd_of.tw.orc k noO)))
def spec_l3Bad.fh : FH := ⟨fun i => match i with | _ => none, [(false, 3), (false, 3), (false, 75)], false⟩
set_option maxRecDepth 100000 in
theorem spec_l3Bad.ef (k : Nat) (a1_0 : Int) (l1_1 : List Int) (l1_2 : List Int) (l1_3 : List Stp) (l2_0 : List Int) (a2_1 : Int) : R.start Tryz.prog xhn spec_l3Bad.O 1 Tryz.f86 spec_l3Bad.fh k [.ptr 0 0, .agg [.int .i64 a1_0, .imm (.I .i64 l1_1), .imm (.I .i64 l1_2), .imm (.T l1_3)]] [.box false [.imm (.I .u8 l2_0), .int .i64 a2_1]] = ((spec_l13Rd_pick.f 36 l2_0 a2_1).bind fun t1 => (if t1.1 = 0 then ((spec_l13Rd_num.f ([0, 5, (-1), 1, 9223372036854775807]) t1.2.1 t1.2.2).bind fun t2 => (some (spec_l3Bad.en (t2.1, l1_1, l1_2, l1_3, t2.2.1, t2.2.2)))) else (if t1.1 = 1 then (if ([] : List Stp).length + l1_3.length ≤ 3518437208883 then ((spec_l13Rd_pick.f 2 t1.2.1 t1.2.2).bind fun t3 => ((spec_l13Rd_of.f ([(⟨#[97]⟩ : ByteArray), (⟨#[99]⟩ : ByteArray), (⟨#[]⟩ : ByteArray)]) t3.2.1 t3.2.2).bind fun t4 => ((spec_l13Rd_num.f ([0, 4, (-1)]) t4.2.1 t4.2.2).bind fun t5 => ((spec_l13Rd_num.f ([0, 4, (-1)]) t5.2.1 t5.2.2).bind fun t6 => (if (([] : List Stp) ++ l1_3).length < 3518437208883 then (some (spec_l3Bad.en (a1_0, l1_1, l1_2, ((([] : List Stp) ++ l1_3) ++ [(⟨t3.1, t4.1, t5.1, t6.1⟩ : Stp)]), t6.2.1, t6.2.2))) else none))))) else none) else (if t1.1 = 2 then (if ([] : List Int).length + l1_1.length ≤ 17592186044416 then ((spec_l13Rd_num.f ([0, 4, (-1)]) t1.2.1 t1.2.2).bind fun t7 => (if (([] : List Int) ++ l1_1).length < 17592186044416 then (some (spec_l3Bad.en (a1_0, ((([] : List Int) ++ l1_1) ++ [t7.1]), l1_2, l1_3, t7.2.1, t7.2.2))) else none)) else none) else (some (spec_l3Bad.en (a1_0, l1_1, l1_2, l1_3, t1.2.1, t1.2.2))))))) := by kernel_rfl
theorem spec_l3Bad.sf (k : Nat) (a1_0 : Int) (l1_1 : List Int) (l1_2 : List Int) (l1_3 : List Stp) (l2_0 : List Int) (a2_1 : Int) : R.start Tryz.prog xhn spec_l3Bad.O 1 Tryz.f86 spec_l3Bad.fh k [.ptr 0 0, .agg [.int .i64 a1_0, .imm (.I .i64 l1_1), .imm (.I .i64 l1_2), .imm (.T l1_3)]] [.box false [.imm (.I .u8 l2_0), .int .i64 a2_1]] = (spec_l3Bad.f a1_0 l1_1 l1_2 l1_3 l2_0 a2_1).map (spec_l3Bad.en) := by
  rw [spec_l3Bad.ef]
  simp only [spec_l3Bad.f, R.map_ite, R.map_bind, R.map_none, R.map_some, R.wr64_eq]
theorem spec_l3Bad.ok (k : Nat) : spec_l3Bad.tw.Ok Tryz.prog k := by
  intro md hmd a r h
  refine fn_ok (H := xhn) (fh := spec_l3Bad.fh) (O := spec_l3Bad.O) (k := k) Tryz.func86 (by kernel_rfl) (by kernel_rfl) (fun j _ => (Tw.orc_sound spec_l13Rd_pick.dok (spec_l13Rd_pick.ok j) (fun _ => rfl) (Tw.orc_sound spec_l13Rd_num.dok (spec_l13Rd_num.ok j) (fun _ => rfl) (Tw.orc_sound spec_l13Rd_of.dok (spec_l13Rd_of.ok j) (fun _ => rfl) noO_sound)))) (by kernel_rfl) (m := 1) rfl ?_
  refine (spec_l3Bad.sf k a.1 a.2.1 a.2.2.1 a.2.2.2.1 a.2.2.2.2.1 a.2.2.2.2.2).trans ?_
  exact congrArg (Option.map _) h
def spec_l3Any.f (k : Nat) (l1_0 : List Int) (a1_1 : Int) : Option (Int × (List Int) × (List Int) × (List Stp) × (List Int) × Int) := ((spec_l3Draw.f k 3 l1_0 a1_1).bind fun t1 => ((spec_l3Bad.f t1.1 t1.2.1 t1.2.2.1 t1.2.2.2.1 t1.2.2.2.2.1 t1.2.2.2.2.2).bind fun t2 => (some (t2.1, t2.2.1, t2.2.2.1, t2.2.2.2.1, t2.2.2.2.2.1, t2.2.2.2.2.2))))
def spec_l3Any.en (r : Int × (List Int) × (List Int) × (List Stp) × (List Int) × Int) : Res := (.agg [.int .i64 r.1, .imm (.I .i64 r.2.1), .imm (.I .i64 r.2.2.1), .imm (.T r.2.2.2.1)], [.box false [.imm (.I .u8 r.2.2.2.2.1), .int .i64 r.2.2.2.2.2]])
def spec_l3Any.dec : List AV → List R.Obj → Option ((List Int) × Int)
  | [.ptr 0 0], [.box false [.imm (.I .u8 l1_0), .int .i64 a1_1]] => some (l1_0, a1_1)
  | _, _ => none
def spec_l3Any.tw : Tw := ⟨47, (List Int) × Int, Int × (List Int) × (List Int) × (List Stp) × (List Int) × Int, spec_l3Any.dec, fun a => [.ptr 0 0], fun a => [.box false [.imm (.I .u8 a.1), .int .i64 a.2]], fun k a => spec_l3Any.f k a.1 a.2, fun a r => spec_l3Any.en r, true⟩
theorem spec_l3Any.dok : spec_l3Any.tw.DecOk := by
  intro args hc a h
  have h : spec_l3Any.dec args hc = some a := h
  unfold spec_l3Any.dec at h
  split at h
  · cases h; exact ⟨rfl, rfl⟩
  · cases h
noncomputable def spec_l3Any.O (k : Nat) : Oracle := (spec_l3Draw.tw.orc k (spec_l3Bad.tw.orc k noO))
def spec_l3Any.fh : FH := ⟨fun i => match i with | _ => none, [(false, 3), (false, 3), (false, 75)], false⟩
set_option maxRecDepth 100000 in
theorem spec_l3Any.ef (k : Nat) (l1_0 : List Int) (a1_1 : Int) : R.start Tryz.prog xhn spec_l3Any.O 1 Tryz.f47 spec_l3Any.fh k [.ptr 0 0] [.box false [.imm (.I .u8 l1_0), .int .i64 a1_1]] = ((spec_l3Draw.f k 3 l1_0 a1_1).bind fun t1 => ((spec_l3Bad.f t1.1 t1.2.1 t1.2.2.1 t1.2.2.2.1 t1.2.2.2.2.1 t1.2.2.2.2.2).bind fun t2 => (some (spec_l3Any.en (t2.1, t2.2.1, t2.2.2.1, t2.2.2.2.1, t2.2.2.2.2.1, t2.2.2.2.2.2))))) := by kernel_rfl
theorem spec_l3Any.sf (k : Nat) (l1_0 : List Int) (a1_1 : Int) : R.start Tryz.prog xhn spec_l3Any.O 1 Tryz.f47 spec_l3Any.fh k [.ptr 0 0] [.box false [.imm (.I .u8 l1_0), .int .i64 a1_1]] = (spec_l3Any.f k l1_0 a1_1).map (spec_l3Any.en) := by
  rw [spec_l3Any.ef]
  simp only [spec_l3Any.f, R.map_ite, R.map_bind, R.map_none, R.map_some, R.wr64_eq]
theorem spec_l3Any.ok (k : Nat) : spec_l3Any.tw.Ok Tryz.prog k := by
  intro md hmd a r h
  refine fn_ok (H := xhn) (fh := spec_l3Any.fh) (O := spec_l3Any.O) (k := k) Tryz.func47 (by kernel_rfl) (by kernel_rfl) (fun j _ => (Tw.orc_sound spec_l3Draw.dok (spec_l3Draw.ok j) (fun _ => rfl) (Tw.orc_sound spec_l3Bad.dok (spec_l3Bad.ok j) (fun _ => rfl) noO_sound))) (by kernel_rfl) (m := 1) rfl ?_
  refine (spec_l3Any.sf k a.1 a.2).trans ?_
  exact congrArg (Option.map _) h
mutual
def spec_l7Draw.l0 : Nat → Int → ByteArray → Int → Int → (List Int) → Int → Option (ByteArray × (List Int) × Int)
  | 0, _, _, _, _, _, _ => none
  | k + 1, x1, x5, x8, x9, y0_0, y0_1 => (if x9 < x8 then (if x1 > 0 then ((spec_l13Rd_pick.f 3 y0_0 y0_1).bind fun t2 => (if t2.1 = 0 then (if x5.size + 1 ≤ 9223372036854775807 then ((spec_l7Draw.f k (wrap64 (x1 - 1)) t2.2.1 t2.2.2).bind fun t3 => (if (x5 ++ (⟨#[40]⟩ : ByteArray)).size + t3.1.size ≤ 9223372036854775807 then (if ((x5 ++ (⟨#[40]⟩ : ByteArray)) ++ t3.1).size + 2 ≤ 9223372036854775807 then (spec_l7Draw.l0 k x1 (((x5 ++ (⟨#[40]⟩ : ByteArray)) ++ t3.1) ++ (⟨#[41, 35]⟩ : ByteArray)) x8 (wrap64 (x9 + 1)) t3.2.1 t3.2.2) else none) else none)) else none) else ((spec_l13Rd_of.f ([(⟨#[97]⟩ : ByteArray), (⟨#[98]⟩ : ByteArray)]) t2.2.1 t2.2.2).bind fun t4 => (if x5.size + t4.1.size ≤ 9223372036854775807 then (spec_l7Draw.l0 k x1 (x5 ++ t4.1) x8 (wrap64 (x9 + 1)) t4.2.1 t4.2.2) else none)))) else ((spec_l13Rd_of.f ([(⟨#[97]⟩ : ByteArray), (⟨#[98]⟩ : ByteArray)]) y0_0 y0_1).bind fun t5 => (if x5.size + t5.1.size ≤ 9223372036854775807 then (spec_l7Draw.l0 k x1 (x5 ++ t5.1) x8 (wrap64 (x9 + 1)) t5.2.1 t5.2.2) else none))) else (some (x5, y0_0, y0_1)))
def spec_l7Draw.f : Nat → Int → (List Int) → Int → Option (ByteArray × (List Int) × Int)
  | 0, _, _, _ => none
  | k + 1, a1, l2_0, a2_1 => ((spec_l13Rd_pick.f 3 l2_0 a2_1).bind fun t1 => (spec_l7Draw.l0 k a1 (⟨#[]⟩ : ByteArray) (wrap64 (1 + t1.1)) 0 t1.2.1 t1.2.2))
end
def spec_l7Draw.en (r : ByteArray × (List Int) × Int) : Res := (.str r.1, [.box false [.imm (.I .u8 r.2.1), .int .i64 r.2.2]])
def spec_l7Draw.dec : List AV → List R.Obj → Option (Int × (List Int) × Int)
  | [.ptr 0 0, .int .i64 a1], [.box false [.imm (.I .u8 l2_0), .int .i64 a2_1]] => some (a1, l2_0, a2_1)
  | _, _ => none
def spec_l7Draw.tw : Tw := ⟨50, Int × (List Int) × Int, ByteArray × (List Int) × Int, spec_l7Draw.dec, fun a => [.ptr 0 0, .int .i64 a.1], fun a => [.box false [.imm (.I .u8 a.2.1), .int .i64 a.2.2]], fun k a => spec_l7Draw.f k a.1 a.2.1 a.2.2, fun a r => spec_l7Draw.en r, true⟩
theorem spec_l7Draw.dok : spec_l7Draw.tw.DecOk := by
  intro args hc a h
  have h : spec_l7Draw.dec args hc = some a := h
  unfold spec_l7Draw.dec at h
  split at h
  · cases h; exact ⟨rfl, rfl⟩
  · cases h
noncomputable def spec_l7Draw.O (k : Nat) : Oracle := (spec_l13Rd_pick.tw.orc k (spec_l13Rd_of.tw.orc k (spec_l7Draw.tw.orc k noO)))
def spec_l7Draw.fh : FH := ⟨fun i => match i with | 3 => some [(0, 0), (1, 0), (5, 0), (8, 0), (9, 0)] | _ => none, [], false⟩
noncomputable def spec_l7Draw.x0 (k : Nat) (x1 : Int) (x5 : ByteArray) (x8 : Int) (x9 : Int) (y0_0 : List Int) (y0_1 : Int) : Option Res := R.exec Tryz.prog xhn spec_l7Draw.O 1 Tryz.f50 spec_l7Draw.fh k (R.point Tryz.f50 3) ⟨[(0, .ptr 0 0), (1, .int .i64 x1), (5, .str x5), (8, .int .i64 x8), (9, .int .i64 x9)], [(0, .box false [.imm (.I .u8 y0_0), .int .i64 y0_1])], 3⟩
set_option maxRecDepth 100000 in
theorem spec_l7Draw.e0 (k : Nat) (x1 : Int) (x5 : ByteArray) (x8 : Int) (x9 : Int) (y0_0 : List Int) (y0_1 : Int) : spec_l7Draw.x0 (k + 1) x1 x5 x8 x9 y0_0 y0_1 = (if x9 < x8 then (if x1 > 0 then ((spec_l13Rd_pick.f 3 y0_0 y0_1).bind fun t2 => (if t2.1 = 0 then (if x5.size + 1 ≤ 9223372036854775807 then ((spec_l7Draw.f k (wr64 (x1 - 1)) t2.2.1 t2.2.2).bind fun t3 => (if (x5 ++ (⟨#[40]⟩ : ByteArray)).size + t3.1.size ≤ 9223372036854775807 then (if ((x5 ++ (⟨#[40]⟩ : ByteArray)) ++ t3.1).size + 2 ≤ 9223372036854775807 then (spec_l7Draw.x0 k x1 (((x5 ++ (⟨#[40]⟩ : ByteArray)) ++ t3.1) ++ (⟨#[41, 35]⟩ : ByteArray)) x8 (wr64 (x9 + 1)) t3.2.1 t3.2.2) else none) else none)) else none) else ((spec_l13Rd_of.f ([(⟨#[97]⟩ : ByteArray), (⟨#[98]⟩ : ByteArray)]) t2.2.1 t2.2.2).bind fun t4 => (if x5.size + t4.1.size ≤ 9223372036854775807 then (spec_l7Draw.x0 k x1 (x5 ++ t4.1) x8 (wr64 (x9 + 1)) t4.2.1 t4.2.2) else none)))) else ((spec_l13Rd_of.f ([(⟨#[97]⟩ : ByteArray), (⟨#[98]⟩ : ByteArray)]) y0_0 y0_1).bind fun t5 => (if x5.size + t5.1.size ≤ 9223372036854775807 then (spec_l7Draw.x0 k x1 (x5 ++ t5.1) x8 (wr64 (x9 + 1)) t5.2.1 t5.2.2) else none))) else (some (spec_l7Draw.en (x5, y0_0, y0_1)))) := by kernel_rfl
set_option maxRecDepth 100000 in
theorem spec_l7Draw.ef (k : Nat) (a1 : Int) (l2_0 : List Int) (a2_1 : Int) : R.start Tryz.prog xhn spec_l7Draw.O 1 Tryz.f50 spec_l7Draw.fh k [.ptr 0 0, .int .i64 a1] [.box false [.imm (.I .u8 l2_0), .int .i64 a2_1]] = ((spec_l13Rd_pick.f 3 l2_0 a2_1).bind fun t1 => (spec_l7Draw.x0 k a1 (⟨#[]⟩ : ByteArray) (wr64 (1 + t1.1)) 0 t1.2.1 t1.2.2)) := by kernel_rfl
theorem spec_l7Draw.link : ∀ k, (∀ (x1 : Int) (x5 : ByteArray) (x8 : Int) (x9 : Int) (y0_0 : List Int) (y0_1 : Int), spec_l7Draw.x0 k x1 x5 x8 x9 y0_0 y0_1 = (spec_l7Draw.l0 k x1 x5 x8 x9 y0_0 y0_1).map (spec_l7Draw.en))
  | 0 => fun _ _ _ _ _ _ => by simp only [spec_l7Draw.l0, R.map_none]; rfl
  | k + 1 => by
    have ih0 := spec_l7Draw.link k
    · intro x1 x5 x8 x9 y0_0 y0_1
      rw [spec_l7Draw.e0]
      simp only [spec_l7Draw.l0, R.map_ite, R.map_bind, R.map_none, R.map_some, R.wr64_eq, ← ih0]
theorem spec_l7Draw.sf (k : Nat) (a1 : Int) (l2_0 : List Int) (a2_1 : Int) : R.start Tryz.prog xhn spec_l7Draw.O 1 Tryz.f50 spec_l7Draw.fh k [.ptr 0 0, .int .i64 a1] [.box false [.imm (.I .u8 l2_0), .int .i64 a2_1]] = (spec_l7Draw.f (k + 1) a1 l2_0 a2_1).map (spec_l7Draw.en) := by
  have ih0 := spec_l7Draw.link k
  rw [spec_l7Draw.ef]
  simp only [spec_l7Draw.f, R.map_ite, R.map_bind, R.map_none, R.map_some, R.wr64_eq, ← ih0]
theorem spec_l7Draw.ok : ∀ k, spec_l7Draw.tw.Ok Tryz.prog k := by
  intro k
  induction k using Nat.strongRecOn with
  | ind k ih =>
    cases k with
    | zero =>
      intro md hmd a r h
      have h : spec_l7Draw.f 0 a.1 a.2.1 a.2.2 = some r := h
      simp only [spec_l7Draw.f] at h
      cases h
    | succ k =>
      intro md hmd a r h
      refine fn_ok (H := xhn) (fh := spec_l7Draw.fh) (O := spec_l7Draw.O) (k := k) Tryz.func50 (by kernel_rfl) (by kernel_rfl) (fun j hj => (Tw.orc_sound spec_l13Rd_pick.dok (spec_l13Rd_pick.ok j) (fun _ => rfl) (Tw.orc_sound spec_l13Rd_of.dok (spec_l13Rd_of.ok j) (fun _ => rfl) (Tw.orc_sound spec_l7Draw.dok (ih j (by omega)) (fun _ => rfl) noO_sound)))) (by kernel_rfl) (m := 1) rfl ?_
      refine (spec_l7Draw.sf k a.1 a.2.1 a.2.2).trans ?_
      exact congrArg (Option.map _) h
def spec_l7Text.f (k : Nat) (l1_0 : List Int) (a1_1 : Int) : Option (ByteArray × (List Int) × Int) := ((spec_l13Rd_pick.f 3 l1_0 a1_1).bind fun t1 => ((spec_l7Draw.f k t1.1 t1.2.1 t1.2.2).bind fun t2 => ((spec_l13Rd_pick.f 12 t2.2.1 t2.2.2).bind fun t3 => (if t3.1 > 0 then (some (t2.1, t3.2.1, t3.2.2)) else ((spec_l13Rd_pick.f (t2.1.size : Int) t3.2.1 t3.2.2).bind fun t4 => (if 0 ≤ t4.1 then (if t4.1 ≤ (t2.1.size : Int) then ((spec_l13Rd_of.f ([(⟨#[]⟩ : ByteArray), (⟨#[40]⟩ : ByteArray), (⟨#[41]⟩ : ByteArray), (⟨#[35]⟩ : ByteArray), (⟨#[41, 35]⟩ : ByteArray), (⟨#[99]⟩ : ByteArray)]) t4.2.1 t4.2.2).bind fun t5 => (if (t2.1.extract 0 t4.1.toNat).size + t5.1.size ≤ 9223372036854775807 then ((spec_l13Rd_pick.f 2 t5.2.1 t5.2.2).bind fun t6 => (if 0 ≤ (wrap64 (t4.1 + t6.1)) then (if (wrap64 (t4.1 + t6.1)) ≤ (t2.1.size : Int) then (if (t2.1.size : Int) ≤ (t2.1.size : Int) then (if ((t2.1.extract 0 t4.1.toNat) ++ t5.1).size + (t2.1.extract (wrap64 (t4.1 + t6.1)).toNat t2.1.size).size ≤ 9223372036854775807 then (some ((((t2.1.extract 0 t4.1.toNat) ++ t5.1) ++ (t2.1.extract (wrap64 (t4.1 + t6.1)).toNat t2.1.size)), t6.2.1, t6.2.2)) else none) else none) else none) else none)) else none)) else none) else none))))))
def spec_l7Text.en (r : ByteArray × (List Int) × Int) : Res := (.str r.1, [.box false [.imm (.I .u8 r.2.1), .int .i64 r.2.2]])
def spec_l7Text.dec : List AV → List R.Obj → Option ((List Int) × Int)
  | [.ptr 0 0], [.box false [.imm (.I .u8 l1_0), .int .i64 a1_1]] => some (l1_0, a1_1)
  | _, _ => none
def spec_l7Text.tw : Tw := ⟨48, (List Int) × Int, ByteArray × (List Int) × Int, spec_l7Text.dec, fun a => [.ptr 0 0], fun a => [.box false [.imm (.I .u8 a.1), .int .i64 a.2]], fun k a => spec_l7Text.f k a.1 a.2, fun a r => spec_l7Text.en r, true⟩
theorem spec_l7Text.dok : spec_l7Text.tw.DecOk := by
  intro args hc a h
  have h : spec_l7Text.dec args hc = some a := h
  unfold spec_l7Text.dec at h
  split at h
  · cases h; exact ⟨rfl, rfl⟩
  · cases h
noncomputable def spec_l7Text.O (k : Nat) : Oracle := (spec_l13Rd_pick.tw.orc k (spec_l7Draw.tw.orc k (spec_l13Rd_of.tw.orc k noO)))
def spec_l7Text.fh : FH := ⟨fun i => match i with | _ => none, [], false⟩
set_option maxRecDepth 100000 in
theorem spec_l7Text.ef (k : Nat) (l1_0 : List Int) (a1_1 : Int) : R.start Tryz.prog xhn spec_l7Text.O 1 Tryz.f48 spec_l7Text.fh k [.ptr 0 0] [.box false [.imm (.I .u8 l1_0), .int .i64 a1_1]] = ((spec_l13Rd_pick.f 3 l1_0 a1_1).bind fun t1 => ((spec_l7Draw.f k t1.1 t1.2.1 t1.2.2).bind fun t2 => ((spec_l13Rd_pick.f 12 t2.2.1 t2.2.2).bind fun t3 => (if t3.1 > 0 then (some (spec_l7Text.en (t2.1, t3.2.1, t3.2.2))) else ((spec_l13Rd_pick.f (t2.1.size : Int) t3.2.1 t3.2.2).bind fun t4 => (if 0 ≤ t4.1 then (if t4.1 ≤ (t2.1.size : Int) then ((spec_l13Rd_of.f ([(⟨#[]⟩ : ByteArray), (⟨#[40]⟩ : ByteArray), (⟨#[41]⟩ : ByteArray), (⟨#[35]⟩ : ByteArray), (⟨#[41, 35]⟩ : ByteArray), (⟨#[99]⟩ : ByteArray)]) t4.2.1 t4.2.2).bind fun t5 => (if (t2.1.extract 0 t4.1.toNat).size + t5.1.size ≤ 9223372036854775807 then ((spec_l13Rd_pick.f 2 t5.2.1 t5.2.2).bind fun t6 => (if 0 ≤ (wr64 (t4.1 + t6.1)) then (if (wr64 (t4.1 + t6.1)) ≤ (t2.1.size : Int) then (if (t2.1.size : Int) ≤ (t2.1.size : Int) then (if ((t2.1.extract 0 t4.1.toNat) ++ t5.1).size + (t2.1.extract (wr64 (t4.1 + t6.1)).toNat t2.1.size).size ≤ 9223372036854775807 then (some (spec_l7Text.en ((((t2.1.extract 0 t4.1.toNat) ++ t5.1) ++ (t2.1.extract (wr64 (t4.1 + t6.1)).toNat t2.1.size)), t6.2.1, t6.2.2))) else none) else none) else none) else none)) else none)) else none) else none)))))) := by kernel_rfl
theorem spec_l7Text.sf (k : Nat) (l1_0 : List Int) (a1_1 : Int) : R.start Tryz.prog xhn spec_l7Text.O 1 Tryz.f48 spec_l7Text.fh k [.ptr 0 0] [.box false [.imm (.I .u8 l1_0), .int .i64 a1_1]] = (spec_l7Text.f k l1_0 a1_1).map (spec_l7Text.en) := by
  rw [spec_l7Text.ef]
  simp only [spec_l7Text.f, R.map_ite, R.map_bind, R.map_none, R.map_some, R.wr64_eq]
theorem spec_l7Text.ok (k : Nat) : spec_l7Text.tw.Ok Tryz.prog k := by
  intro md hmd a r h
  refine fn_ok (H := xhn) (fh := spec_l7Text.fh) (O := spec_l7Text.O) (k := k) Tryz.func48 (by kernel_rfl) (by kernel_rfl) (fun j _ => (Tw.orc_sound spec_l13Rd_pick.dok (spec_l13Rd_pick.ok j) (fun _ => rfl) (Tw.orc_sound spec_l7Draw.dok (spec_l7Draw.ok j) (fun _ => rfl) (Tw.orc_sound spec_l13Rd_of.dok (spec_l13Rd_of.ok j) (fun _ => rfl) noO_sound)))) (by kernel_rfl) (m := 1) rfl ?_
  refine (spec_l7Text.sf k a.1 a.2).trans ?_
  exact congrArg (Option.map _) h
mutual
def spec_l7End.l0 : Nat → ByteArray → Int → Int → Option (Int)
  | 0, _, _, _ => none
  | k + 1, x0, x1, x5 => (if x1 < (x0.size : Int) then (if 0 ≤ x1 then (if (btI x0 x1) = 41 then (if x1 = x5 then (some (-1)) else (some x1)) else (if (btI x0 x1) = 97 then (spec_l7End.l0 k x0 (wrap64 (x1 + 1)) x5) else (if (btI x0 x1) = 98 then (spec_l7End.l0 k x0 (wrap64 (x1 + 1)) x5) else (if (btI x0 x1) = 40 then ((spec_l7End.f k x0 (wrap64 (x1 + 1))).bind fun t1 => (if t1 < 0 then (some (-1)) else (if (wrap64 (t1 + 1)) ≥ (x0.size : Int) then (some (-1)) else (if 0 ≤ t1 then (if t1 < (x0.size : Int) then (if (btI x0 t1) = 41 then (if 0 ≤ (wrap64 (t1 + 1)) then (if (wrap64 (t1 + 1)) < (x0.size : Int) then (if (btI x0 (wrap64 (t1 + 1))) = 35 then (spec_l7End.l0 k x0 (wrap64 (t1 + 2)) x5) else (some (-1))) else none) else none) else (some (-1))) else none) else none)))) else (some (-1)))))) else none) else (if x1 = x5 then (some (-1)) else (some x1)))
def spec_l7End.f : Nat → ByteArray → Int → Option (Int)
  | 0, _, _ => none
  | k + 1, a0, a1 => (spec_l7End.l0 k a0 a1 a1)
end
def spec_l7End.en (r : Int) : Res := (.int .i64 r, [])
def spec_l7End.dec : List AV → List R.Obj → Option (ByteArray × Int)
  | [.str a0, .int .i64 a1], [] => some (a0, a1)
  | _, _ => none
def spec_l7End.tw : Tw := ⟨60, ByteArray × Int, Int, spec_l7End.dec, fun a => [.str a.1, .int .i64 a.2], fun a => [], fun k a => spec_l7End.f k a.1 a.2, fun a r => spec_l7End.en r, true⟩
theorem spec_l7End.dok : spec_l7End.tw.DecOk := by
  intro args hc a h
  have h : spec_l7End.dec args hc = some a := h
  unfold spec_l7End.dec at h
  split at h
  · cases h; exact ⟨rfl, rfl⟩
  · cases h
noncomputable def spec_l7End.O (k : Nat) : Oracle := (spec_l7End.tw.orc k noO)
def spec_l7End.fh : FH := ⟨fun i => match i with | 2 => some [(0, 0), (1, 0), (5, 0)] | _ => none, [], false⟩
noncomputable def spec_l7End.x0 (k : Nat) (x0 : ByteArray) (x1 : Int) (x5 : Int) : Option Res := R.exec Tryz.prog xhn spec_l7End.O 0 Tryz.f60 spec_l7End.fh k (R.point Tryz.f60 2) ⟨[(0, .str x0), (1, .int .i64 x1), (5, .int .i64 x5)], [], 2⟩
set_option maxRecDepth 100000 in
theorem spec_l7End.e0 (k : Nat) (x0 : ByteArray) (x1 : Int) (x5 : Int) : spec_l7End.x0 (k + 1) x0 x1 x5 = (if x1 < (x0.size : Int) then (if 0 ≤ x1 then (if (btI x0 x1) = 41 then (if x1 = x5 then (some (spec_l7End.en (-1))) else (some (spec_l7End.en x1))) else (if (btI x0 x1) = 97 then (spec_l7End.x0 k x0 (wr64 (x1 + 1)) x5) else (if (btI x0 x1) = 98 then (spec_l7End.x0 k x0 (wr64 (x1 + 1)) x5) else (if (btI x0 x1) = 40 then ((spec_l7End.f k x0 (wr64 (x1 + 1))).bind fun t1 => (if t1 < 0 then (some (spec_l7End.en (-1))) else (if (wr64 (t1 + 1)) ≥ (x0.size : Int) then (some (spec_l7End.en (-1))) else (if 0 ≤ t1 then (if t1 < (x0.size : Int) then (if (btI x0 t1) = 41 then (if 0 ≤ (wr64 (t1 + 1)) then (if (wr64 (t1 + 1)) < (x0.size : Int) then (if (btI x0 (wr64 (t1 + 1))) = 35 then (spec_l7End.x0 k x0 (wr64 (t1 + 2)) x5) else (some (spec_l7End.en (-1)))) else none) else none) else (some (spec_l7End.en (-1)))) else none) else none)))) else (some (spec_l7End.en (-1))))))) else none) else (if x1 = x5 then (some (spec_l7End.en (-1))) else (some (spec_l7End.en x1)))) := by
  refine Eq.trans ?_ (R.icong (fun h0 => (R.icong (fun h1 => (R.idropT (p := x1 < (x0.size : Int)) (z := none) h0 (R.icong (fun h2 => rfl) (fun h2 => (R.idropT (p := 0 ≤ x1) (z := none) h1 (R.idropT (p := x1 < (x0.size : Int)) (z := none) h0 (R.icong (fun h3 => rfl) (fun h3 => (R.idropT (p := 0 ≤ x1) (z := none) h1 (R.idropT (p := x1 < (x0.size : Int)) (z := none) h0 (R.icong (fun h4 => rfl) (fun h4 => (R.idropT (p := 0 ≤ x1) (z := none) h1 (R.idropT (p := x1 < (x0.size : Int)) (z := none) h0 rfl)))))))))))))) (fun h1 => rfl))) (fun h0 => rfl))
  kernel_rfl
set_option maxRecDepth 100000 in
theorem spec_l7End.ef (k : Nat) (a0 : ByteArray) (a1 : Int) : R.start Tryz.prog xhn spec_l7End.O 0 Tryz.f60 spec_l7End.fh k [.str a0, .int .i64 a1] [] = (spec_l7End.x0 k a0 a1 a1) := by kernel_rfl
theorem spec_l7End.link : ∀ k, (∀ (x0 : ByteArray) (x1 : Int) (x5 : Int), spec_l7End.x0 k x0 x1 x5 = (spec_l7End.l0 k x0 x1 x5).map (spec_l7End.en))
  | 0 => fun _ _ _ => by simp only [spec_l7End.l0, R.map_none]; rfl
  | k + 1 => by
    have ih0 := spec_l7End.link k
    · intro x0 x1 x5
      rw [spec_l7End.e0]
      simp only [spec_l7End.l0, R.map_ite, R.map_bind, R.map_none, R.map_some, R.wr64_eq, ← ih0]
theorem spec_l7End.sf (k : Nat) (a0 : ByteArray) (a1 : Int) : R.start Tryz.prog xhn spec_l7End.O 0 Tryz.f60 spec_l7End.fh k [.str a0, .int .i64 a1] [] = (spec_l7End.f (k + 1) a0 a1).map (spec_l7End.en) := by
  have ih0 := spec_l7End.link k
  rw [spec_l7End.ef]
  simp only [spec_l7End.f, R.map_ite, R.map_bind, R.map_none, R.map_some, R.wr64_eq, ← ih0]
theorem spec_l7End.ok : ∀ k, spec_l7End.tw.Ok Tryz.prog k := by
  intro k
  induction k using Nat.strongRecOn with
  | ind k ih =>
    cases k with
    | zero =>
      intro md hmd a r h
      have h : spec_l7End.f 0 a.1 a.2 = some r := h
      simp only [spec_l7End.f] at h
      cases h
    | succ k =>
      intro md hmd a r h
      refine fn_ok (H := xhn) (fh := spec_l7End.fh) (O := spec_l7End.O) (k := k) Tryz.func60 (by kernel_rfl) (by kernel_rfl) (fun j hj => (Tw.orc_sound spec_l7End.dok (ih j (by omega)) (fun _ => rfl) noO_sound)) (by kernel_rfl) (m := 0) rfl ?_
      refine (spec_l7End.sf k a.1 a.2).trans ?_
      exact congrArg (Option.map _) h
def spec_ExpressionValid.f (k : Nat) (a0 : ByteArray) : Option (Bool) := (if (a0.size : Int) ≤ 120 then ((spec_l7End.f k a0 0).bind fun t1 => (if t1 = (a0.size : Int) then (some (decide ((a0.size : Int) > 0))) else (some false))) else (some false))
def spec_ExpressionValid.en (r : Bool) : Res := (.lit r, [])
def spec_ExpressionValid.dec : List AV → List R.Obj → Option (ByteArray)
  | [.str a0], [] => some a0
  | _, _ => none
def spec_ExpressionValid.tw : Tw := ⟨27, ByteArray, Bool, spec_ExpressionValid.dec, fun a => [.str a], fun a => [], fun k a => spec_ExpressionValid.f k a, fun a r => spec_ExpressionValid.en r, true⟩
theorem spec_ExpressionValid.dok : spec_ExpressionValid.tw.DecOk := by
  intro args hc a h
  have h : spec_ExpressionValid.dec args hc = some a := h
  unfold spec_ExpressionValid.dec at h
  split at h
  · cases h; exact ⟨rfl, rfl⟩
  · cases h
noncomputable def spec_ExpressionValid.O (k : Nat) : Oracle := (spec_l7End.tw.orc k noO)
def spec_ExpressionValid.fh : FH := ⟨fun i => match i with | _ => none, [], false⟩
set_option maxRecDepth 100000 in
theorem spec_ExpressionValid.ef (k : Nat) (a0 : ByteArray) : R.start Tryz.prog xhn spec_ExpressionValid.O 0 Tryz.f27 spec_ExpressionValid.fh k [.str a0] [] = (if (a0.size : Int) ≤ 120 then ((spec_l7End.f k a0 0).bind fun t1 => (if t1 = (a0.size : Int) then (some (spec_ExpressionValid.en (decide ((a0.size : Int) > 0)))) else (some (spec_ExpressionValid.en false)))) else (some (spec_ExpressionValid.en false))) := by kernel_rfl
theorem spec_ExpressionValid.sf (k : Nat) (a0 : ByteArray) : R.start Tryz.prog xhn spec_ExpressionValid.O 0 Tryz.f27 spec_ExpressionValid.fh k [.str a0] [] = (spec_ExpressionValid.f k a0).map (spec_ExpressionValid.en) := by
  rw [spec_ExpressionValid.ef]
  simp only [spec_ExpressionValid.f, R.map_ite, R.map_bind, R.map_none, R.map_some, R.wr64_eq]
theorem spec_ExpressionValid.ok (k : Nat) : spec_ExpressionValid.tw.Ok Tryz.prog k := by
  intro md hmd a r h
  refine fn_ok (H := xhn) (fh := spec_ExpressionValid.fh) (O := spec_ExpressionValid.O) (k := k) Tryz.func27 (by kernel_rfl) (by kernel_rfl) (fun j _ => (Tw.orc_sound spec_l7End.dok (spec_l7End.ok j) (fun _ => rfl) noO_sound)) (by kernel_rfl) (m := 0) rfl ?_
  refine (spec_ExpressionValid.sf k a).trans ?_
  exact congrArg (Option.map _) h
def spec_l2Unit.l0 : Nat → Int → Int → Int → Int → (List Int) → Option (Int × (List Int))
  | 0, _, _, _, _, _ => none
  | k + 1, x0, x9, x10, y1_0, y3 => (if x10 < x9 then (if x0 = 0 then none else (if (wrap64 (x10.tdiv x0)) = (x10.tmod x0) then (if y3.length < 17592186044416 then (spec_l2Unit.l0 k x0 x9 (wrap64 (x10 + 1)) y1_0 (y3 ++ [0])) else none) else (if y3.length < 17592186044416 then (spec_l2Unit.l0 k x0 x9 (wrap64 (x10 + 1)) y1_0 (y3 ++ [1000000])) else none))) else (some (y1_0, y3)))
def spec_l2Unit.f (k : Nat) (a0 : Int) : Option (Int × (List Int)) := (spec_l2Unit.l0 k a0 (wrap64 (a0 * a0)) 0 a0 ([] : List Int))
def spec_l2Unit.en (r : Int × (List Int)) : Res := (.agg [.int .i64 r.1, .sl 0 0], [.arr 3 0 (.I .i64 r.2) false])
def spec_l2Unit.dec : List AV → List R.Obj → Option (Int)
  | [.int .i64 a0], [] => some a0
  | _, _ => none
def spec_l2Unit.tw : Tw := ⟨62, Int, Int × (List Int), spec_l2Unit.dec, fun a => [.int .i64 a], fun a => [], fun k a => spec_l2Unit.f k a, fun a r => spec_l2Unit.en r, true⟩
theorem spec_l2Unit.dok : spec_l2Unit.tw.DecOk := by
  intro args hc a h
  have h : spec_l2Unit.dec args hc = some a := h
  unfold spec_l2Unit.dec at h
  split at h
  · cases h; exact ⟨rfl, rfl⟩
  · cases h
noncomputable def spec_l2Unit.O (k : Nat) : Oracle := noO
def spec_l2Unit.fh : FH := ⟨fun i => match i with | 3 => some [(0, 0), (2, 0), (3, 0), (9, 0), (10, 0)] | _ => none, [(true, 3)], false⟩
noncomputable def spec_l2Unit.x0 (k : Nat) (x0 : Int) (x9 : Int) (x10 : Int) (y1_0 : Int) (y3 : List Int) : Option Res := R.exec Tryz.prog xhn spec_l2Unit.O 0 Tryz.f62 spec_l2Unit.fh k (R.point Tryz.f62 3) ⟨[(0, .int .i64 x0), (2, .ptr 0 0), (3, .ptr 1 0), (9, .int .i64 x9), (10, .int .i64 x10)], [(0, .box false [.int .i64 0, .sl 2 0]), (1, .box false [.int .i64 y1_0, .sl 3 0]), (2, .arr 3 0 (.I .i64 ([] : List Int)) false), (3, .arr 3 0 (.I .i64 y3) false)], 6⟩
set_option maxRecDepth 100000 in
theorem spec_l2Unit.e0 (k : Nat) (x0 : Int) (x9 : Int) (x10 : Int) (y1_0 : Int) (y3 : List Int) : spec_l2Unit.x0 (k + 1) x0 x9 x10 y1_0 y3 = (if x10 < x9 then (if x0 = 0 then none else (if (wr64 (x10.tdiv x0)) = (x10.tmod x0) then (if y3.length < 17592186044416 then (spec_l2Unit.x0 k x0 x9 (wr64 (x10 + 1)) y1_0 (y3 ++ [0])) else none) else (if y3.length < 17592186044416 then (spec_l2Unit.x0 k x0 x9 (wr64 (x10 + 1)) y1_0 (y3 ++ [1000000])) else none))) else (some (spec_l2Unit.en (y1_0, y3)))) := by
  refine Eq.trans ?_ (R.icong (fun h0 => (R.icong (fun h1 => rfl) (fun h1 => (R.idropF (p := x0 = 0) (z := none) h1 rfl)))) (fun h0 => rfl))
  kernel_rfl
set_option maxRecDepth 100000 in
theorem spec_l2Unit.ef (k : Nat) (a0 : Int) : R.start Tryz.prog xhn spec_l2Unit.O 0 Tryz.f62 spec_l2Unit.fh k [.int .i64 a0] [] = (spec_l2Unit.x0 k a0 (wr64 (a0 * a0)) 0 a0 ([] : List Int)) := by kernel_rfl
theorem spec_l2Unit.link : ∀ k, (∀ (x0 : Int) (x9 : Int) (x10 : Int) (y1_0 : Int) (y3 : List Int), spec_l2Unit.x0 k x0 x9 x10 y1_0 y3 = (spec_l2Unit.l0 k x0 x9 x10 y1_0 y3).map (spec_l2Unit.en))
  | 0 => fun _ _ _ _ _ => by simp only [spec_l2Unit.l0, R.map_none]; rfl
  | k + 1 => by
    have ih0 := spec_l2Unit.link k
    · intro x0 x9 x10 y1_0 y3
      rw [spec_l2Unit.e0]
      simp only [spec_l2Unit.l0, R.map_ite, R.map_bind, R.map_none, R.map_some, R.wr64_eq, ← ih0]
theorem spec_l2Unit.sf (k : Nat) (a0 : Int) : R.start Tryz.prog xhn spec_l2Unit.O 0 Tryz.f62 spec_l2Unit.fh k [.int .i64 a0] [] = (spec_l2Unit.f k a0).map (spec_l2Unit.en) := by
  have ih0 := spec_l2Unit.link k
  rw [spec_l2Unit.ef]
  simp only [spec_l2Unit.f, R.map_ite, R.map_bind, R.map_none, R.map_some, R.wr64_eq, ← ih0]
theorem spec_l2Unit.ok (k : Nat) : spec_l2Unit.tw.Ok Tryz.prog k := by
  intro md hmd a r h
  refine fn_ok (H := xhn) (fh := spec_l2Unit.fh) (O := spec_l2Unit.O) (k := k) Tryz.func62 (by kernel_rfl) (by kernel_rfl) (fun j _ => noO_sound) (by kernel_rfl) (m := 0) rfl ?_
  refine (spec_l2Unit.sf k a).trans ?_
  exact congrArg (Option.map _) h
def spec_l6Grades.l0 : Nat → (List Int) → Int → Int → Int → (List Int) → Option (Int × (List Int))
  | 0, _, _, _, _, _ => none
  | k + 1, x10, x11, x12, y1_0, y3 => (if x12 < x11 then (if 0 ≤ x12 then (if x12 < (x10.length : Int) then (if (rdI x10 x12) = 0 then (if y3.length < 17592186044416 then (spec_l6Grades.l0 k x10 x11 (wrap64 (x12 + 1)) y1_0 (y3 ++ [0])) else none) else (if (rdI x10 x12) = 1000000 then (if y3.length < 17592186044416 then (spec_l6Grades.l0 k x10 x11 (wrap64 (x12 + 1)) y1_0 (y3 ++ [3])) else none) else (if y3.length < 17592186044416 then (spec_l6Grades.l0 k x10 x11 (wrap64 (x12 + 1)) y1_0 (y3 ++ [1])) else none))) else none) else none) else (some (y1_0, y3)))
def spec_l6Grades.f (k : Nat) (a0_0 : Int) (l0_1 : List Int) : Option (Int × (List Int)) := (spec_l6Grades.l0 k l0_1 (l0_1.length : Int) 0 a0_0 ([] : List Int))
def spec_l6Grades.en (r : Int × (List Int)) : Res := (.agg [.int .i64 r.1, .sl 0 0], [.arr 3 0 (.I .i64 r.2) false])
def spec_l6Grades.dec : List AV → List R.Obj → Option (Int × (List Int))
  | [.agg [.int .i64 a0_0, .imm (.I .i64 l0_1)]], [] => some (a0_0, l0_1)
  | _, _ => none
def spec_l6Grades.tw : Tw := ⟨61, Int × (List Int), Int × (List Int), spec_l6Grades.dec, fun a => [.agg [.int .i64 a.1, .imm (.I .i64 a.2)]], fun a => [], fun k a => spec_l6Grades.f k a.1 a.2, fun a r => spec_l6Grades.en r, true⟩
theorem spec_l6Grades.dok : spec_l6Grades.tw.DecOk := by
  intro args hc a h
  have h : spec_l6Grades.dec args hc = some a := h
  unfold spec_l6Grades.dec at h
  split at h
  · cases h; exact ⟨rfl, rfl⟩
  · cases h
noncomputable def spec_l6Grades.O (k : Nat) : Oracle := noO
def spec_l6Grades.fh : FH := ⟨fun i => match i with | 3 => some [(2, 0), (3, 0), (10, 0), (11, 0), (12, 0)] | _ => none, [(true, 3)], false⟩
noncomputable def spec_l6Grades.x0 (k : Nat) (x10 : List Int) (x11 : Int) (x12 : Int) (y1_0 : Int) (y3 : List Int) : Option Res := R.exec Tryz.prog xhn spec_l6Grades.O 0 Tryz.f61 spec_l6Grades.fh k (R.point Tryz.f61 3) ⟨[(2, .ptr 0 0), (3, .ptr 1 0), (10, .imm (.I .i64 x10)), (11, .int .i64 x11), (12, .int .i64 x12)], [(0, .box false [.int .i64 0, .sl 2 0]), (1, .box false [.int .i64 y1_0, .sl 3 0]), (2, .arr 3 0 (.I .i64 ([] : List Int)) false), (3, .arr 3 0 (.I .i64 y3) false)], 6⟩
set_option maxRecDepth 100000 in
theorem spec_l6Grades.e0 (k : Nat) (x10 : List Int) (x11 : Int) (x12 : Int) (y1_0 : Int) (y3 : List Int) : spec_l6Grades.x0 (k + 1) x10 x11 x12 y1_0 y3 = (if x12 < x11 then (if 0 ≤ x12 then (if x12 < (x10.length : Int) then (if (rdI x10 x12) = 0 then (if y3.length < 17592186044416 then (spec_l6Grades.x0 k x10 x11 (wr64 (x12 + 1)) y1_0 (y3 ++ [0])) else none) else (if (rdI x10 x12) = 1000000 then (if y3.length < 17592186044416 then (spec_l6Grades.x0 k x10 x11 (wr64 (x12 + 1)) y1_0 (y3 ++ [3])) else none) else (if y3.length < 17592186044416 then (spec_l6Grades.x0 k x10 x11 (wr64 (x12 + 1)) y1_0 (y3 ++ [1])) else none))) else none) else none) else (some (spec_l6Grades.en (y1_0, y3)))) := by kernel_rfl
set_option maxRecDepth 100000 in
theorem spec_l6Grades.ef (k : Nat) (a0_0 : Int) (l0_1 : List Int) : R.start Tryz.prog xhn spec_l6Grades.O 0 Tryz.f61 spec_l6Grades.fh k [.agg [.int .i64 a0_0, .imm (.I .i64 l0_1)]] [] = (spec_l6Grades.x0 k l0_1 (l0_1.length : Int) 0 a0_0 ([] : List Int)) := by kernel_rfl
theorem spec_l6Grades.link : ∀ k, (∀ (x10 : List Int) (x11 : Int) (x12 : Int) (y1_0 : Int) (y3 : List Int), spec_l6Grades.x0 k x10 x11 x12 y1_0 y3 = (spec_l6Grades.l0 k x10 x11 x12 y1_0 y3).map (spec_l6Grades.en))
  | 0 => fun _ _ _ _ _ => by simp only [spec_l6Grades.l0, R.map_none]; rfl
  | k + 1 => by
    have ih0 := spec_l6Grades.link k
    · intro x10 x11 x12 y1_0 y3
      rw [spec_l6Grades.e0]
      simp only [spec_l6Grades.l0, R.map_ite, R.map_bind, R.map_none, R.map_some, R.wr64_eq, ← ih0]
theorem spec_l6Grades.sf (k : Nat) (a0_0 : Int) (l0_1 : List Int) : R.start Tryz.prog xhn spec_l6Grades.O 0 Tryz.f61 spec_l6Grades.fh k [.agg [.int .i64 a0_0, .imm (.I .i64 l0_1)]] [] = (spec_l6Grades.f k a0_0 l0_1).map (spec_l6Grades.en) := by
  have ih0 := spec_l6Grades.link k
  rw [spec_l6Grades.ef]
  simp only [spec_l6Grades.f, R.map_ite, R.map_bind, R.map_none, R.map_some, R.wr64_eq, ← ih0]
theorem spec_l6Grades.ok (k : Nat) : spec_l6Grades.tw.Ok Tryz.prog k := by
  intro md hmd a r h
  refine fn_ok (H := xhn) (fh := spec_l6Grades.fh) (O := spec_l6Grades.O) (k := k) Tryz.func61 (by kernel_rfl) (by kernel_rfl) (fun j _ => noO_sound) (by kernel_rfl) (m := 0) rfl ?_
  refine (spec_l6Grades.sf k a.1 a.2).trans ?_
  exact congrArg (Option.map _) h
def spec_l7Next.f (k : Nat) (a0 : ByteArray) : Option (ByteArray × Bool × ByteArray) := (if 0 < (a0.size : Int) then (if (btI a0 0) = 40 then ((spec_l7End.f k a0 1).bind fun t1 => (if 1 ≤ t1 then (if t1 ≤ (a0.size : Int) then (if 0 ≤ (wrap64 (t1 + 2)) then (if (wrap64 (t1 + 2)) ≤ (a0.size : Int) then (if (a0.size : Int) ≤ (a0.size : Int) then (some ((a0.extract 1 t1.toNat), true, (a0.extract (wrap64 (t1 + 2)).toNat a0.size))) else none) else none) else none) else none) else none)) else (if 1 ≤ (a0.size : Int) then (if (a0.size : Int) ≤ (a0.size : Int) then (some ((a0.extract 0 1), false, (a0.extract 1 a0.size))) else none) else none)) else none)
def spec_l7Next.en (r : ByteArray × Bool × ByteArray) : Res := (.tup [.str r.1, .lit r.2.1, .str r.2.2], [])
def spec_l7Next.dec : List AV → List R.Obj → Option (ByteArray)
  | [.str a0], [] => some a0
  | _, _ => none
def spec_l7Next.tw : Tw := ⟨63, ByteArray, ByteArray × Bool × ByteArray, spec_l7Next.dec, fun a => [.str a], fun a => [], fun k a => spec_l7Next.f k a, fun a r => spec_l7Next.en r, true⟩
theorem spec_l7Next.dok : spec_l7Next.tw.DecOk := by
  intro args hc a h
  have h : spec_l7Next.dec args hc = some a := h
  unfold spec_l7Next.dec at h
  split at h
  · cases h; exact ⟨rfl, rfl⟩
  · cases h
noncomputable def spec_l7Next.O (k : Nat) : Oracle := (spec_l7End.tw.orc k noO)
def spec_l7Next.fh : FH := ⟨fun i => match i with | _ => none, [], false⟩
set_option maxRecDepth 100000 in
theorem spec_l7Next.ef (k : Nat) (a0 : ByteArray) : R.start Tryz.prog xhn spec_l7Next.O 0 Tryz.f63 spec_l7Next.fh k [.str a0] [] = (if 0 < (a0.size : Int) then (if (btI a0 0) = 40 then ((spec_l7End.f k a0 1).bind fun t1 => (if 1 ≤ t1 then (if t1 ≤ (a0.size : Int) then (if 0 ≤ (wr64 (t1 + 2)) then (if (wr64 (t1 + 2)) ≤ (a0.size : Int) then (if (a0.size : Int) ≤ (a0.size : Int) then (some (spec_l7Next.en ((a0.extract 1 t1.toNat), true, (a0.extract (wr64 (t1 + 2)).toNat a0.size)))) else none) else none) else none) else none) else none)) else (if 1 ≤ (a0.size : Int) then (if (a0.size : Int) ≤ (a0.size : Int) then (some (spec_l7Next.en ((a0.extract 0 1), false, (a0.extract 1 a0.size)))) else none) else none)) else none) := by
  refine Eq.trans ?_ (R.icong (fun h0 => (R.icong (fun h1 => rfl) (fun h1 => (R.icong (fun h2 => (R.idropT (p := 1 ≤ (a0.size : Int)) (z := none) h2 rfl)) (fun h2 => rfl))))) (fun h0 => rfl))
  kernel_rfl
theorem spec_l7Next.sf (k : Nat) (a0 : ByteArray) : R.start Tryz.prog xhn spec_l7Next.O 0 Tryz.f63 spec_l7Next.fh k [.str a0] [] = (spec_l7Next.f k a0).map (spec_l7Next.en) := by
  rw [spec_l7Next.ef]
  simp only [spec_l7Next.f, R.map_ite, R.map_bind, R.map_none, R.map_some, R.wr64_eq]
theorem spec_l7Next.ok (k : Nat) : spec_l7Next.tw.Ok Tryz.prog k := by
  intro md hmd a r h
  refine fn_ok (H := xhn) (fh := spec_l7Next.fh) (O := spec_l7Next.O) (k := k) Tryz.func63 (by kernel_rfl) (by kernel_rfl) (fun j _ => (Tw.orc_sound spec_l7End.dok (spec_l7End.ok j) (fun _ => rfl) noO_sound)) (by kernel_rfl) (m := 0) rfl ?_
  refine (spec_l7Next.sf k a).trans ?_
  exact congrArg (Option.map _) h
mutual
def spec_l6Mul.l0 : Nat → Int → Int → Int → (List Int) → Int → (List Int) → Int → (List Int) → Option (Int × (List Int))
  | 0, _, _, _, _, _, _, _, _ => none
  | k + 1, x16, x17, y0_0, y0_1, y1_0, y1_1, y3_0, y5 => (if x17 < x16 then (spec_l6Mul.l1 k x17 3 x16 x17 y0_0 0 y0_0 y0_1 y1_0 y1_1 y3_0 y5) else (some (y3_0, y5)))
def spec_l6Mul.l1 : Nat → Int → Int → Int → Int → Int → Int → Int → (List Int) → Int → (List Int) → Int → (List Int) → Option (Int × (List Int))
  | 0, _, _, _, _, _, _, _, _, _, _, _, _ => none
  | k + 1, x6, x7, x16, x17, x21, x22, y0_0, y0_1, y1_0, y1_1, y3_0, y5 => (if x22 < x21 then (if y0_0 = 0 then none else (if 0 ≤ (wrap64 ((wrap64 ((wrap64 (x6.tdiv y0_0)) * y0_0)) + x22)) then (if (wrap64 ((wrap64 ((wrap64 (x6.tdiv y0_0)) * y0_0)) + x22)) < (y0_1.length : Int) then (if 0 ≤ (wrap64 ((wrap64 (x22 * y0_0)) + (x6.tmod y0_0))) then (if (wrap64 ((wrap64 (x22 * y0_0)) + (x6.tmod y0_0))) < (y1_1.length : Int) then (spec_l6Mul.l1 k x6 (mn x7 (mx (rdI y0_1 (wrap64 ((wrap64 ((wrap64 (x6.tdiv y0_0)) * y0_0)) + x22))) (rdI y1_1 (wrap64 ((wrap64 (x22 * y0_0)) + (x6.tmod y0_0)))))) x16 x17 x21 (wrap64 (x22 + 1)) y0_0 y0_1 y1_0 y1_1 y3_0 y5) else none) else none) else none) else none)) else (if y5.length < 17592186044416 then (spec_l6Mul.l0 k x16 (wrap64 (x17 + 1)) y0_0 y0_1 y1_0 y1_1 y3_0 (y5 ++ [x7])) else none))
end
def spec_l6Mul.f (k : Nat) (a0_0 : Int) (l0_1 : List Int) (a1_0 : Int) (l1_1 : List Int) : Option (Int × (List Int)) := (spec_l6Mul.l0 k (wrap64 (a0_0 * a0_0)) 0 a0_0 l0_1 a1_0 l1_1 a0_0 ([] : List Int))
def spec_l6Mul.en (r : Int × (List Int)) : Res := (.agg [.int .i64 r.1, .sl 0 0], [.arr 3 0 (.I .i64 r.2) false])
def spec_l6Mul.dec : List AV → List R.Obj → Option (Int × (List Int) × Int × (List Int))
  | [.agg [.int .i64 a0_0, .imm (.I .i64 l0_1)], .agg [.int .i64 a1_0, .imm (.I .i64 l1_1)]], [] => some (a0_0, l0_1, a1_0, l1_1)
  | _, _ => none
def spec_l6Mul.tw : Tw := ⟨67, Int × (List Int) × Int × (List Int), Int × (List Int), spec_l6Mul.dec, fun a => [.agg [.int .i64 a.1, .imm (.I .i64 a.2.1)], .agg [.int .i64 a.2.2.1, .imm (.I .i64 a.2.2.2)]], fun a => [], fun k a => spec_l6Mul.f k a.1 a.2.1 a.2.2.1 a.2.2.2, fun a r => spec_l6Mul.en r, true⟩
theorem spec_l6Mul.dok : spec_l6Mul.tw.DecOk := by
  intro args hc a h
  have h : spec_l6Mul.dec args hc = some a := h
  unfold spec_l6Mul.dec at h
  split at h
  · cases h; exact ⟨rfl, rfl⟩
  · cases h
noncomputable def spec_l6Mul.O (k : Nat) : Oracle := noO
def spec_l6Mul.fh : FH := ⟨fun i => match i with | 3 => some [(2, 0), (3, 0), (4, 0), (5, 0), (16, 0), (17, 0)] | 7 => some [(2, 0), (3, 0), (4, 0), (5, 0), (6, 0), (7, 0), (16, 0), (17, 0), (21, 0), (22, 0)] | _ => none, [(true, 3)], false⟩
noncomputable def spec_l6Mul.x0 (k : Nat) (x16 : Int) (x17 : Int) (y0_0 : Int) (y0_1 : List Int) (y1_0 : Int) (y1_1 : List Int) (y3_0 : Int) (y5 : List Int) : Option Res := R.exec Tryz.prog xhn spec_l6Mul.O 0 Tryz.f67 spec_l6Mul.fh k (R.point Tryz.f67 3) ⟨[(2, .ptr 0 0), (3, .ptr 1 0), (4, .ptr 2 0), (5, .ptr 3 0), (16, .int .i64 x16), (17, .int .i64 x17)], [(0, .box false [.int .i64 y0_0, .imm (.I .i64 y0_1)]), (1, .box false [.int .i64 y1_0, .imm (.I .i64 y1_1)]), (2, .box false [.int .i64 0, .sl 4 0]), (3, .box false [.int .i64 y3_0, .sl 5 0]), (4, .arr 3 0 (.I .i64 ([] : List Int)) false), (5, .arr 3 0 (.I .i64 y5) false)], 8⟩
noncomputable def spec_l6Mul.x1 (k : Nat) (x6 : Int) (x7 : Int) (x16 : Int) (x17 : Int) (x21 : Int) (x22 : Int) (y0_0 : Int) (y0_1 : List Int) (y1_0 : Int) (y1_1 : List Int) (y3_0 : Int) (y5 : List Int) : Option Res := R.exec Tryz.prog xhn spec_l6Mul.O 0 Tryz.f67 spec_l6Mul.fh k (R.point Tryz.f67 7) ⟨[(2, .ptr 0 0), (3, .ptr 1 0), (4, .ptr 2 0), (5, .ptr 3 0), (6, .int .i64 x6), (7, .int .i64 x7), (16, .int .i64 x16), (17, .int .i64 x17), (21, .int .i64 x21), (22, .int .i64 x22)], [(0, .box false [.int .i64 y0_0, .imm (.I .i64 y0_1)]), (1, .box false [.int .i64 y1_0, .imm (.I .i64 y1_1)]), (2, .box false [.int .i64 0, .sl 4 0]), (3, .box false [.int .i64 y3_0, .sl 5 0]), (4, .arr 3 0 (.I .i64 ([] : List Int)) false), (5, .arr 3 0 (.I .i64 y5) false)], 8⟩
set_option maxRecDepth 100000 in
theorem spec_l6Mul.e0 (k : Nat) (x16 : Int) (x17 : Int) (y0_0 : Int) (y0_1 : List Int) (y1_0 : Int) (y1_1 : List Int) (y3_0 : Int) (y5 : List Int) : spec_l6Mul.x0 (k + 1) x16 x17 y0_0 y0_1 y1_0 y1_1 y3_0 y5 = (if x17 < x16 then (spec_l6Mul.x1 k x17 3 x16 x17 y0_0 0 y0_0 y0_1 y1_0 y1_1 y3_0 y5) else (some (spec_l6Mul.en (y3_0, y5)))) := by kernel_rfl
set_option maxRecDepth 100000 in
theorem spec_l6Mul.e1 (k : Nat) (x6 : Int) (x7 : Int) (x16 : Int) (x17 : Int) (x21 : Int) (x22 : Int) (y0_0 : Int) (y0_1 : List Int) (y1_0 : Int) (y1_1 : List Int) (y3_0 : Int) (y5 : List Int) : spec_l6Mul.x1 (k + 1) x6 x7 x16 x17 x21 x22 y0_0 y0_1 y1_0 y1_1 y3_0 y5 = (if x22 < x21 then (if y0_0 = 0 then none else (if 0 ≤ (wr64 ((wr64 ((wr64 (x6.tdiv y0_0)) * y0_0)) + x22)) then (if (wr64 ((wr64 ((wr64 (x6.tdiv y0_0)) * y0_0)) + x22)) < (y0_1.length : Int) then (if 0 ≤ (wr64 ((wr64 (x22 * y0_0)) + (x6.tmod y0_0))) then (if (wr64 ((wr64 (x22 * y0_0)) + (x6.tmod y0_0))) < (y1_1.length : Int) then (spec_l6Mul.x1 k x6 (mn x7 (mx (rdI y0_1 (wr64 ((wr64 ((wr64 (x6.tdiv y0_0)) * y0_0)) + x22))) (rdI y1_1 (wr64 ((wr64 (x22 * y0_0)) + (x6.tmod y0_0)))))) x16 x17 x21 (wr64 (x22 + 1)) y0_0 y0_1 y1_0 y1_1 y3_0 y5) else none) else none) else none) else none)) else (if y5.length < 17592186044416 then (spec_l6Mul.x0 k x16 (wr64 (x17 + 1)) y0_0 y0_1 y1_0 y1_1 y3_0 (y5 ++ [x7])) else none)) := by
  refine Eq.trans ?_ (R.icong (fun h0 => (R.icong (fun h1 => rfl) (fun h1 => (R.icong (fun h2 => (R.icong (fun h3 => (R.idropF (p := y0_0 = 0) (z := none) h1 rfl)) (fun h3 => rfl))) (fun h2 => rfl))))) (fun h0 => rfl))
  kernel_rfl
set_option maxRecDepth 100000 in
theorem spec_l6Mul.ef (k : Nat) (a0_0 : Int) (l0_1 : List Int) (a1_0 : Int) (l1_1 : List Int) : R.start Tryz.prog xhn spec_l6Mul.O 0 Tryz.f67 spec_l6Mul.fh k [.agg [.int .i64 a0_0, .imm (.I .i64 l0_1)], .agg [.int .i64 a1_0, .imm (.I .i64 l1_1)]] [] = (spec_l6Mul.x0 k (wr64 (a0_0 * a0_0)) 0 a0_0 l0_1 a1_0 l1_1 a0_0 ([] : List Int)) := by kernel_rfl
theorem spec_l6Mul.link : ∀ k, (∀ (x16 : Int) (x17 : Int) (y0_0 : Int) (y0_1 : List Int) (y1_0 : Int) (y1_1 : List Int) (y3_0 : Int) (y5 : List Int), spec_l6Mul.x0 k x16 x17 y0_0 y0_1 y1_0 y1_1 y3_0 y5 = (spec_l6Mul.l0 k x16 x17 y0_0 y0_1 y1_0 y1_1 y3_0 y5).map (spec_l6Mul.en)) ∧ (∀ (x6 : Int) (x7 : Int) (x16 : Int) (x17 : Int) (x21 : Int) (x22 : Int) (y0_0 : Int) (y0_1 : List Int) (y1_0 : Int) (y1_1 : List Int) (y3_0 : Int) (y5 : List Int), spec_l6Mul.x1 k x6 x7 x16 x17 x21 x22 y0_0 y0_1 y1_0 y1_1 y3_0 y5 = (spec_l6Mul.l1 k x6 x7 x16 x17 x21 x22 y0_0 y0_1 y1_0 y1_1 y3_0 y5).map (spec_l6Mul.en))
  | 0 => ⟨fun _ _ _ _ _ _ _ _ => by simp only [spec_l6Mul.l0, R.map_none]; rfl, fun _ _ _ _ _ _ _ _ _ _ _ _ => by simp only [spec_l6Mul.l1, R.map_none]; rfl⟩
  | k + 1 => by
    obtain ⟨ih0, ih1⟩ := spec_l6Mul.link k
    refine ⟨?_, ?_⟩
    · intro x16 x17 y0_0 y0_1 y1_0 y1_1 y3_0 y5
      rw [spec_l6Mul.e0]
      simp only [spec_l6Mul.l0, R.map_ite, R.map_bind, R.map_none, R.map_some, R.wr64_eq, ← ih0, ← ih1]
    · intro x6 x7 x16 x17 x21 x22 y0_0 y0_1 y1_0 y1_1 y3_0 y5
      rw [spec_l6Mul.e1]
      simp only [spec_l6Mul.l1, R.map_ite, R.map_bind, R.map_none, R.map_some, R.wr64_eq, ← ih0, ← ih1]
theorem spec_l6Mul.sf (k : Nat) (a0_0 : Int) (l0_1 : List Int) (a1_0 : Int) (l1_1 : List Int) : R.start Tryz.prog xhn spec_l6Mul.O 0 Tryz.f67 spec_l6Mul.fh k [.agg [.int .i64 a0_0, .imm (.I .i64 l0_1)], .agg [.int .i64 a1_0, .imm (.I .i64 l1_1)]] [] = (spec_l6Mul.f k a0_0 l0_1 a1_0 l1_1).map (spec_l6Mul.en) := by
  obtain ⟨ih0, ih1⟩ := spec_l6Mul.link k
  rw [spec_l6Mul.ef]
  simp only [spec_l6Mul.f, R.map_ite, R.map_bind, R.map_none, R.map_some, R.wr64_eq, ← ih0, ← ih1]
theorem spec_l6Mul.ok (k : Nat) : spec_l6Mul.tw.Ok Tryz.prog k := by
  intro md hmd a r h
  refine fn_ok (H := xhn) (fh := spec_l6Mul.fh) (O := spec_l6Mul.O) (k := k) Tryz.func67 (by kernel_rfl) (by kernel_rfl) (fun j _ => noO_sound) (by kernel_rfl) (m := 0) rfl ?_
  refine (spec_l6Mul.sf k a.1 a.2.1 a.2.2.1 a.2.2.2).trans ?_
  exact congrArg (Option.map _) h
def spec_l2Same.l0 : Nat → (List Int) → (List Int) → Int → Int → Option (Bool)
  | 0, _, _, _, _ => none
  | k + 1, x0, x1, x10, x11 => (if x11 < x10 then (if 0 ≤ x11 then (if x11 < (x0.length : Int) then (if x11 < (x1.length : Int) then (if (rdI x0 x11) = (rdI x1 x11) then (spec_l2Same.l0 k x0 x1 x10 (wrap64 (x11 + 1))) else (some false)) else none) else none) else none) else (some (decide ((x0.length : Int) = (x1.length : Int)))))
def spec_l2Same.f (k : Nat) (l0 : List Int) (l1 : List Int) : Option (Bool) := (spec_l2Same.l0 k l0 l1 (mn (l0.length : Int) (l1.length : Int)) 0)
def spec_l2Same.en (r : Bool) : Res := (.lit r, [])
def spec_l2Same.dec : List AV → List R.Obj → Option ((List Int) × (List Int))
  | [.imm (.I .i64 l0), .imm (.I .i64 l1)], [] => some (l0, l1)
  | _, _ => none
def spec_l2Same.tw : Tw := ⟨97, (List Int) × (List Int), Bool, spec_l2Same.dec, fun a => [.imm (.I .i64 a.1), .imm (.I .i64 a.2)], fun a => [], fun k a => spec_l2Same.f k a.1 a.2, fun a r => spec_l2Same.en r, true⟩
theorem spec_l2Same.dok : spec_l2Same.tw.DecOk := by
  intro args hc a h
  have h : spec_l2Same.dec args hc = some a := h
  unfold spec_l2Same.dec at h
  split at h
  · cases h; exact ⟨rfl, rfl⟩
  · cases h
noncomputable def spec_l2Same.O (k : Nat) : Oracle := noO
def spec_l2Same.fh : FH := ⟨fun i => match i with | 2 => some [(0, 0), (1, 0), (10, 0), (11, 0)] | _ => none, [], false⟩
noncomputable def spec_l2Same.x0 (k : Nat) (x0 : List Int) (x1 : List Int) (x10 : Int) (x11 : Int) : Option Res := R.exec Tryz.prog xhn spec_l2Same.O 0 Tryz.f97 spec_l2Same.fh k (R.point Tryz.f97 2) ⟨[(0, .imm (.I .i64 x0)), (1, .imm (.I .i64 x1)), (10, .int .i64 x10), (11, .int .i64 x11)], [], 2⟩
set_option maxRecDepth 100000 in
theorem spec_l2Same.e0 (k : Nat) (x0 : List Int) (x1 : List Int) (x10 : Int) (x11 : Int) : spec_l2Same.x0 (k + 1) x0 x1 x10 x11 = (if x11 < x10 then (if 0 ≤ x11 then (if x11 < (x0.length : Int) then (if x11 < (x1.length : Int) then (if (rdI x0 x11) = (rdI x1 x11) then (spec_l2Same.x0 k x0 x1 x10 (wr64 (x11 + 1))) else (some (spec_l2Same.en false))) else none) else none) else none) else (some (spec_l2Same.en (decide ((x0.length : Int) = (x1.length : Int)))))) := by
  refine Eq.trans ?_ (R.icong (fun h0 => (R.icong (fun h1 => (R.icong (fun h2 => (R.idropT (p := 0 ≤ x11) (z := none) h1 rfl)) (fun h2 => rfl))) (fun h1 => rfl))) (fun h0 => rfl))
  kernel_rfl
set_option maxRecDepth 100000 in
theorem spec_l2Same.ef (k : Nat) (l0 : List Int) (l1 : List Int) : R.start Tryz.prog xhn spec_l2Same.O 0 Tryz.f97 spec_l2Same.fh k [.imm (.I .i64 l0), .imm (.I .i64 l1)] [] = (spec_l2Same.x0 k l0 l1 (mn (l0.length : Int) (l1.length : Int)) 0) := by kernel_rfl
theorem spec_l2Same.link : ∀ k, (∀ (x0 : List Int) (x1 : List Int) (x10 : Int) (x11 : Int), spec_l2Same.x0 k x0 x1 x10 x11 = (spec_l2Same.l0 k x0 x1 x10 x11).map (spec_l2Same.en))
  | 0 => fun _ _ _ _ => by simp only [spec_l2Same.l0, R.map_none]; rfl
  | k + 1 => by
    have ih0 := spec_l2Same.link k
    · intro x0 x1 x10 x11
      rw [spec_l2Same.e0]
      simp only [spec_l2Same.l0, R.map_ite, R.map_bind, R.map_none, R.map_some, R.wr64_eq, ← ih0]
theorem spec_l2Same.sf (k : Nat) (l0 : List Int) (l1 : List Int) : R.start Tryz.prog xhn spec_l2Same.O 0 Tryz.f97 spec_l2Same.fh k [.imm (.I .i64 l0), .imm (.I .i64 l1)] [] = (spec_l2Same.f k l0 l1).map (spec_l2Same.en) := by
  have ih0 := spec_l2Same.link k
  rw [spec_l2Same.ef]
  simp only [spec_l2Same.f, R.map_ite, R.map_bind, R.map_none, R.map_some, R.wr64_eq, ← ih0]
theorem spec_l2Same.ok (k : Nat) : spec_l2Same.tw.Ok Tryz.prog k := by
  intro md hmd a r h
  refine fn_ok (H := xhn) (fh := spec_l2Same.fh) (O := spec_l2Same.O) (k := k) Tryz.func97 (by kernel_rfl) (by kernel_rfl) (fun j _ => noO_sound) (by kernel_rfl) (m := 0) rfl ?_
  refine (spec_l2Same.sf k a.1 a.2).trans ?_
  exact congrArg (Option.map _) h
def spec_l6Idempotent.f (k : Nat) (a0_0 : Int) (l0_1 : List Int) : Option (Bool) := ((spec_l6Mul.f k a0_0 l0_1 a0_0 l0_1).bind fun t1 => ((spec_l2Same.f k t1.2 l0_1).bind fun t2 => (some t2)))
def spec_l6Idempotent.en (r : Bool) : Res := (.lit r, [])
def spec_l6Idempotent.dec : List AV → List R.Obj → Option (Int × (List Int))
  | [.agg [.int .i64 a0_0, .imm (.I .i64 l0_1)]], [] => some (a0_0, l0_1)
  | _, _ => none
def spec_l6Idempotent.tw : Tw := ⟨64, Int × (List Int), Bool, spec_l6Idempotent.dec, fun a => [.agg [.int .i64 a.1, .imm (.I .i64 a.2)]], fun a => [], fun k a => spec_l6Idempotent.f k a.1 a.2, fun a r => spec_l6Idempotent.en r, true⟩
theorem spec_l6Idempotent.dok : spec_l6Idempotent.tw.DecOk := by
  intro args hc a h
  have h : spec_l6Idempotent.dec args hc = some a := h
  unfold spec_l6Idempotent.dec at h
  split at h
  · cases h; exact ⟨rfl, rfl⟩
  · cases h
noncomputable def spec_l6Idempotent.O (k : Nat) : Oracle := (spec_l6Mul.tw.orc k (spec_l2Same.tw.orc k noO))
def spec_l6Idempotent.fh : FH := ⟨fun i => match i with | _ => none, [], false⟩
set_option maxRecDepth 100000 in
theorem spec_l6Idempotent.ef (k : Nat) (a0_0 : Int) (l0_1 : List Int) : R.start Tryz.prog xhn spec_l6Idempotent.O 0 Tryz.f64 spec_l6Idempotent.fh k [.agg [.int .i64 a0_0, .imm (.I .i64 l0_1)]] [] = ((spec_l6Mul.f k a0_0 l0_1 a0_0 l0_1).bind fun t1 => ((spec_l2Same.f k t1.2 l0_1).bind fun t2 => (some (spec_l6Idempotent.en t2)))) := by kernel_rfl
theorem spec_l6Idempotent.sf (k : Nat) (a0_0 : Int) (l0_1 : List Int) : R.start Tryz.prog xhn spec_l6Idempotent.O 0 Tryz.f64 spec_l6Idempotent.fh k [.agg [.int .i64 a0_0, .imm (.I .i64 l0_1)]] [] = (spec_l6Idempotent.f k a0_0 l0_1).map (spec_l6Idempotent.en) := by
  rw [spec_l6Idempotent.ef]
  simp only [spec_l6Idempotent.f, R.map_ite, R.map_bind, R.map_none, R.map_some, R.wr64_eq]
theorem spec_l6Idempotent.ok (k : Nat) : spec_l6Idempotent.tw.Ok Tryz.prog k := by
  intro md hmd a r h
  refine fn_ok (H := xhn) (fh := spec_l6Idempotent.fh) (O := spec_l6Idempotent.O) (k := k) Tryz.func64 (by kernel_rfl) (by kernel_rfl) (fun j _ => (Tw.orc_sound spec_l6Mul.dok (spec_l6Mul.ok j) (fun _ => rfl) (Tw.orc_sound spec_l2Same.dok (spec_l2Same.ok j) (fun _ => rfl) noO_sound))) (by kernel_rfl) (m := 0) rfl ?_
  refine (spec_l6Idempotent.sf k a.1 a.2).trans ?_
  exact congrArg (Option.map _) h
def spec_l6Again.f (a0 : Int) : Option (Int) := (if a0 = 1 then (some 2) else (some a0))
def spec_l6Again.en (r : Int) : Res := (.int .i64 r, [])
def spec_l6Again.dec : List AV → List R.Obj → Option (Int)
  | [.int .i64 a0], [] => some a0
  | _, _ => none
def spec_l6Again.tw : Tw := ⟨98, Int, Int, spec_l6Again.dec, fun a => [.int .i64 a], fun a => [], fun k a => spec_l6Again.f a, fun a r => spec_l6Again.en r, true⟩
theorem spec_l6Again.dok : spec_l6Again.tw.DecOk := by
  intro args hc a h
  have h : spec_l6Again.dec args hc = some a := h
  unfold spec_l6Again.dec at h
  split at h
  · cases h; exact ⟨rfl, rfl⟩
  · cases h
noncomputable def spec_l6Again.O (k : Nat) : Oracle := noO
def spec_l6Again.fh : FH := ⟨fun i => match i with | _ => none, [], false⟩
set_option maxRecDepth 100000 in
theorem spec_l6Again.ef (k : Nat) (a0 : Int) : R.start Tryz.prog xhn spec_l6Again.O 0 Tryz.f98 spec_l6Again.fh k [.int .i64 a0] [] = (if a0 = 1 then (some (spec_l6Again.en 2)) else (some (spec_l6Again.en a0))) := by kernel_rfl
theorem spec_l6Again.sf (k : Nat) (a0 : Int) : R.start Tryz.prog xhn spec_l6Again.O 0 Tryz.f98 spec_l6Again.fh k [.int .i64 a0] [] = (spec_l6Again.f a0).map (spec_l6Again.en) := by
  rw [spec_l6Again.ef]
  simp only [spec_l6Again.f, R.map_ite, R.map_bind, R.map_none, R.map_some, R.wr64_eq]
theorem spec_l6Again.ok (k : Nat) : spec_l6Again.tw.Ok Tryz.prog k := by
  intro md hmd a r h
  refine fn_ok (H := xhn) (fh := spec_l6Again.fh) (O := spec_l6Again.O) (k := k) Tryz.func98 (by kernel_rfl) (by kernel_rfl) (fun j _ => noO_sound) (by kernel_rfl) (m := 0) rfl ?_
  refine (spec_l6Again.sf k a).trans ?_
  exact congrArg (Option.map _) h
mutual
def spec_l6Stable.l0 : Nat → Int → Int → Int → (List Int) → Int → (List Int) → Option (Int × (List Int))
  | 0, _, _, _, _, _, _ => none
  | k + 1, x14, x15, y0_0, y0_1, y2_0, y4 => (if x15 < x14 then (spec_l6Stable.l1 k x15 3 x14 x15 y0_0 0 y0_0 y0_1 y2_0 y4) else (some (y2_0, y4)))
def spec_l6Stable.l1 : Nat → Int → Int → Int → Int → Int → Int → Int → (List Int) → Int → (List Int) → Option (Int × (List Int))
  | 0, _, _, _, _, _, _, _, _, _, _ => none
  | k + 1, x4, x5, x14, x15, x19, x20, y0_0, y0_1, y2_0, y4 => (if x20 < x19 then (if y0_0 = 0 then none else (if 0 ≤ (wrap64 ((wrap64 ((wrap64 (x4.tdiv y0_0)) * y0_0)) + x20)) then (if (wrap64 ((wrap64 ((wrap64 (x4.tdiv y0_0)) * y0_0)) + x20)) < (y0_1.length : Int) then (if 0 ≤ (wrap64 ((wrap64 (x20 * y0_0)) + x20)) then (if (wrap64 ((wrap64 (x20 * y0_0)) + x20)) < (y0_1.length : Int) then ((spec_l6Again.f (rdI y0_1 (wrap64 ((wrap64 (x20 * y0_0)) + x20)))).bind fun t1 => (if 0 ≤ (wrap64 ((wrap64 (x20 * y0_0)) + (x4.tmod y0_0))) then (if (wrap64 ((wrap64 (x20 * y0_0)) + (x4.tmod y0_0))) < (y0_1.length : Int) then (spec_l6Stable.l1 k x4 (mn x5 (mx (mx (rdI y0_1 (wrap64 ((wrap64 ((wrap64 (x4.tdiv y0_0)) * y0_0)) + x20))) t1) (rdI y0_1 (wrap64 ((wrap64 (x20 * y0_0)) + (x4.tmod y0_0)))))) x14 x15 x19 (wrap64 (x20 + 1)) y0_0 y0_1 y2_0 y4) else none) else none)) else none) else none) else none) else none)) else (if y4.length < 17592186044416 then (spec_l6Stable.l0 k x14 (wrap64 (x15 + 1)) y0_0 y0_1 y2_0 (y4 ++ [x5])) else none))
end
def spec_l6Stable.f (k : Nat) (a0_0 : Int) (l0_1 : List Int) : Option (Int × (List Int)) := (spec_l6Stable.l0 k (wrap64 (a0_0 * a0_0)) 0 a0_0 l0_1 a0_0 ([] : List Int))
def spec_l6Stable.en (r : Int × (List Int)) : Res := (.agg [.int .i64 r.1, .sl 0 0], [.arr 3 0 (.I .i64 r.2) false])
def spec_l6Stable.dec : List AV → List R.Obj → Option (Int × (List Int))
  | [.agg [.int .i64 a0_0, .imm (.I .i64 l0_1)]], [] => some (a0_0, l0_1)
  | _, _ => none
def spec_l6Stable.tw : Tw := ⟨65, Int × (List Int), Int × (List Int), spec_l6Stable.dec, fun a => [.agg [.int .i64 a.1, .imm (.I .i64 a.2)]], fun a => [], fun k a => spec_l6Stable.f k a.1 a.2, fun a r => spec_l6Stable.en r, true⟩
theorem spec_l6Stable.dok : spec_l6Stable.tw.DecOk := by
  intro args hc a h
  have h : spec_l6Stable.dec args hc = some a := h
  unfold spec_l6Stable.dec at h
  split at h
  · cases h; exact ⟨rfl, rfl⟩
  · cases h
noncomputable def spec_l6Stable.O (k : Nat) : Oracle := (spec_l6Again.tw.orc k noO)
def spec_l6Stable.fh : FH := ⟨fun i => match i with | 3 => some [(1, 0), (2, 0), (3, 0), (14, 0), (15, 0)] | 7 => some [(1, 0), (2, 0), (3, 0), (4, 0), (5, 0), (14, 0), (15, 0), (19, 0), (20, 0)] | _ => none, [(true, 3)], false⟩
noncomputable def spec_l6Stable.x0 (k : Nat) (x14 : Int) (x15 : Int) (y0_0 : Int) (y0_1 : List Int) (y2_0 : Int) (y4 : List Int) : Option Res := R.exec Tryz.prog xhn spec_l6Stable.O 0 Tryz.f65 spec_l6Stable.fh k (R.point Tryz.f65 3) ⟨[(1, .ptr 0 0), (2, .ptr 1 0), (3, .ptr 2 0), (14, .int .i64 x14), (15, .int .i64 x15)], [(0, .box false [.int .i64 y0_0, .imm (.I .i64 y0_1)]), (1, .box false [.int .i64 0, .sl 3 0]), (2, .box false [.int .i64 y2_0, .sl 4 0]), (3, .arr 3 0 (.I .i64 ([] : List Int)) false), (4, .arr 3 0 (.I .i64 y4) false)], 7⟩
noncomputable def spec_l6Stable.x1 (k : Nat) (x4 : Int) (x5 : Int) (x14 : Int) (x15 : Int) (x19 : Int) (x20 : Int) (y0_0 : Int) (y0_1 : List Int) (y2_0 : Int) (y4 : List Int) : Option Res := R.exec Tryz.prog xhn spec_l6Stable.O 0 Tryz.f65 spec_l6Stable.fh k (R.point Tryz.f65 7) ⟨[(1, .ptr 0 0), (2, .ptr 1 0), (3, .ptr 2 0), (4, .int .i64 x4), (5, .int .i64 x5), (14, .int .i64 x14), (15, .int .i64 x15), (19, .int .i64 x19), (20, .int .i64 x20)], [(0, .box false [.int .i64 y0_0, .imm (.I .i64 y0_1)]), (1, .box false [.int .i64 0, .sl 3 0]), (2, .box false [.int .i64 y2_0, .sl 4 0]), (3, .arr 3 0 (.I .i64 ([] : List Int)) false), (4, .arr 3 0 (.I .i64 y4) false)], 7⟩
set_option maxRecDepth 100000 in
theorem spec_l6Stable.e0 (k : Nat) (x14 : Int) (x15 : Int) (y0_0 : Int) (y0_1 : List Int) (y2_0 : Int) (y4 : List Int) : spec_l6Stable.x0 (k + 1) x14 x15 y0_0 y0_1 y2_0 y4 = (if x15 < x14 then (spec_l6Stable.x1 k x15 3 x14 x15 y0_0 0 y0_0 y0_1 y2_0 y4) else (some (spec_l6Stable.en (y2_0, y4)))) := by kernel_rfl
set_option maxRecDepth 100000 in
theorem spec_l6Stable.e1 (k : Nat) (x4 : Int) (x5 : Int) (x14 : Int) (x15 : Int) (x19 : Int) (x20 : Int) (y0_0 : Int) (y0_1 : List Int) (y2_0 : Int) (y4 : List Int) : spec_l6Stable.x1 (k + 1) x4 x5 x14 x15 x19 x20 y0_0 y0_1 y2_0 y4 = (if x20 < x19 then (if y0_0 = 0 then none else (if 0 ≤ (wr64 ((wr64 ((wr64 (x4.tdiv y0_0)) * y0_0)) + x20)) then (if (wr64 ((wr64 ((wr64 (x4.tdiv y0_0)) * y0_0)) + x20)) < (y0_1.length : Int) then (if 0 ≤ (wr64 ((wr64 (x20 * y0_0)) + x20)) then (if (wr64 ((wr64 (x20 * y0_0)) + x20)) < (y0_1.length : Int) then ((spec_l6Again.f (rdI y0_1 (wr64 ((wr64 (x20 * y0_0)) + x20)))).bind fun t1 => (if 0 ≤ (wr64 ((wr64 (x20 * y0_0)) + (x4.tmod y0_0))) then (if (wr64 ((wr64 (x20 * y0_0)) + (x4.tmod y0_0))) < (y0_1.length : Int) then (spec_l6Stable.x1 k x4 (mn x5 (mx (mx (rdI y0_1 (wr64 ((wr64 ((wr64 (x4.tdiv y0_0)) * y0_0)) + x20))) t1) (rdI y0_1 (wr64 ((wr64 (x20 * y0_0)) + (x4.tmod y0_0)))))) x14 x15 x19 (wr64 (x20 + 1)) y0_0 y0_1 y2_0 y4) else none) else none)) else none) else none) else none) else none)) else (if y4.length < 17592186044416 then (spec_l6Stable.x0 k x14 (wr64 (x15 + 1)) y0_0 y0_1 y2_0 (y4 ++ [x5])) else none)) := by
  refine Eq.trans ?_ (R.icong (fun h0 => (R.icong (fun h1 => rfl) (fun h1 => (R.icong (fun h2 => (R.icong (fun h3 => (R.icong (fun h4 => (R.icong (fun h5 => (R.bcong fun t1 => (R.idropF (p := y0_0 = 0) (z := none) h1 rfl))) (fun h5 => rfl))) (fun h4 => rfl))) (fun h3 => rfl))) (fun h2 => rfl))))) (fun h0 => rfl))
  kernel_rfl
set_option maxRecDepth 100000 in
theorem spec_l6Stable.ef (k : Nat) (a0_0 : Int) (l0_1 : List Int) : R.start Tryz.prog xhn spec_l6Stable.O 0 Tryz.f65 spec_l6Stable.fh k [.agg [.int .i64 a0_0, .imm (.I .i64 l0_1)]] [] = (spec_l6Stable.x0 k (wr64 (a0_0 * a0_0)) 0 a0_0 l0_1 a0_0 ([] : List Int)) := by kernel_rfl
theorem spec_l6Stable.link : ∀ k, (∀ (x14 : Int) (x15 : Int) (y0_0 : Int) (y0_1 : List Int) (y2_0 : Int) (y4 : List Int), spec_l6Stable.x0 k x14 x15 y0_0 y0_1 y2_0 y4 = (spec_l6Stable.l0 k x14 x15 y0_0 y0_1 y2_0 y4).map (spec_l6Stable.en)) ∧ (∀ (x4 : Int) (x5 : Int) (x14 : Int) (x15 : Int) (x19 : Int) (x20 : Int) (y0_0 : Int) (y0_1 : List Int) (y2_0 : Int) (y4 : List Int), spec_l6Stable.x1 k x4 x5 x14 x15 x19 x20 y0_0 y0_1 y2_0 y4 = (spec_l6Stable.l1 k x4 x5 x14 x15 x19 x20 y0_0 y0_1 y2_0 y4).map (spec_l6Stable.en))
  | 0 => ⟨fun _ _ _ _ _ _ => by simp only [spec_l6Stable.l0, R.map_none]; rfl, fun _ _ _ _ _ _ _ _ _ _ => by simp only [spec_l6Stable.l1, R.map_none]; rfl⟩
  | k + 1 => by
    obtain ⟨ih0, ih1⟩ := spec_l6Stable.link k
    refine ⟨?_, ?_⟩
    · intro x14 x15 y0_0 y0_1 y2_0 y4
      rw [spec_l6Stable.e0]
      simp only [spec_l6Stable.l0, R.map_ite, R.map_bind, R.map_none, R.map_some, R.wr64_eq, ← ih0, ← ih1]
    · intro x4 x5 x14 x15 x19 x20 y0_0 y0_1 y2_0 y4
      rw [spec_l6Stable.e1]
      simp only [spec_l6Stable.l1, R.map_ite, R.map_bind, R.map_none, R.map_some, R.wr64_eq, ← ih0, ← ih1]
theorem spec_l6Stable.sf (k : Nat) (a0_0 : Int) (l0_1 : List Int) : R.start Tryz.prog xhn spec_l6Stable.O 0 Tryz.f65 spec_l6Stable.fh k [.agg [.int .i64 a0_0, .imm (.I .i64 l0_1)]] [] = (spec_l6Stable.f k a0_0 l0_1).map (spec_l6Stable.en) := by
  obtain ⟨ih0, ih1⟩ := spec_l6Stable.link k
  rw [spec_l6Stable.ef]
  simp only [spec_l6Stable.f, R.map_ite, R.map_bind, R.map_none, R.map_some, R.wr64_eq, ← ih0, ← ih1]
theorem spec_l6Stable.ok (k : Nat) : spec_l6Stable.tw.Ok Tryz.prog k := by
  intro md hmd a r h
  refine fn_ok (H := xhn) (fh := spec_l6Stable.fh) (O := spec_l6Stable.O) (k := k) Tryz.func65 (by kernel_rfl) (by kernel_rfl) (fun j _ => (Tw.orc_sound spec_l6Again.dok (spec_l6Again.ok j) (fun _ => rfl) noO_sound)) (by kernel_rfl) (m := 0) rfl ?_
  refine (spec_l6Stable.sf k a.1 a.2).trans ?_
  exact congrArg (Option.map _) h
mutual
def spec_l3Matrix.l0 : Nat → ByteArray → Int → Int → Int → (List Int) → (List Int) → (List Stp) → Int → (List Int) → Option (Int × (List Int))
  | 0, _, _, _, _, _, _, _, _, _ => none
  | k + 1, x1, x15, x16, y0_0, y0_1, y0_2, y0_3, y2_0, y4 => (if x16 < x15 then (if y4.length < 17592186044416 then (spec_l3Matrix.l0 k x1 x15 (wrap64 (x16 + 1)) y0_0 y0_1 y0_2 y0_3 y2_0 (y4 ++ [1000000])) else none) else (spec_l3Matrix.l1 k x1 y0_3 (y0_3.length : Int) 0 y0_0 y0_1 y0_2 y0_3 y2_0 y4))
def spec_l3Matrix.l1 : Nat → ByteArray → (List Stp) → Int → Int → Int → (List Int) → (List Int) → (List Stp) → Int → (List Int) → Option (Int × (List Int))
  | 0, _, _, _, _, _, _, _, _, _, _ => none
  | k + 1, x1, x25, x26, x27, y0_0, y0_1, y0_2, y0_3, y2_0, y4 => (if x27 < x26 then (if 0 ≤ x27 then (if x27 < (x25.length : Int) then (if (rdT x25 x27).f1.toList = x1.toList then (if 0 ≤ (wrap64 ((wrap64 ((rdT x25 x27).f0 * y0_0)) + (rdT x25 x27).f2)) then (if (wrap64 ((wrap64 ((rdT x25 x27).f0 * y0_0)) + (rdT x25 x27).f2)) < (y4.length : Int) then (spec_l3Matrix.l1 k x1 x25 x26 (wrap64 (x27 + 1)) y0_0 y0_1 y0_2 y0_3 y2_0 (y4.set (wrap64 ((wrap64 ((rdT x25 x27).f0 * y0_0)) + (rdT x25 x27).f2)).toNat (rdT x25 x27).f3)) else none) else none) else (spec_l3Matrix.l1 k x1 x25 x26 (wrap64 (x27 + 1)) y0_0 y0_1 y0_2 y0_3 y2_0 y4)) else none) else none) else (some (y2_0, y4)))
end
def spec_l3Matrix.f (k : Nat) (a0_0 : Int) (l0_1 : List Int) (l0_2 : List Int) (l0_3 : List Stp) (a1 : ByteArray) : Option (Int × (List Int)) := (spec_l3Matrix.l0 k a1 (wrap64 (a0_0 * a0_0)) 0 a0_0 l0_1 l0_2 l0_3 a0_0 ([] : List Int))
def spec_l3Matrix.en (r : Int × (List Int)) : Res := (.agg [.int .i64 r.1, .sl 0 0], [.arr 3 0 (.I .i64 r.2) false])
def spec_l3Matrix.dec : List AV → List R.Obj → Option (Int × (List Int) × (List Int) × (List Stp) × ByteArray)
  | [.agg [.int .i64 a0_0, .imm (.I .i64 l0_1), .imm (.I .i64 l0_2), .imm (.T l0_3)], .str a1], [] => some (a0_0, l0_1, l0_2, l0_3, a1)
  | _, _ => none
def spec_l3Matrix.tw : Tw := ⟨66, Int × (List Int) × (List Int) × (List Stp) × ByteArray, Int × (List Int), spec_l3Matrix.dec, fun a => [.agg [.int .i64 a.1, .imm (.I .i64 a.2.1), .imm (.I .i64 a.2.2.1), .imm (.T a.2.2.2.1)], .str a.2.2.2.2], fun a => [], fun k a => spec_l3Matrix.f k a.1 a.2.1 a.2.2.1 a.2.2.2.1 a.2.2.2.2, fun a r => spec_l3Matrix.en r, true⟩
theorem spec_l3Matrix.dok : spec_l3Matrix.tw.DecOk := by
  intro args hc a h
  have h : spec_l3Matrix.dec args hc = some a := h
  unfold spec_l3Matrix.dec at h
  split at h
  · cases h; exact ⟨rfl, rfl⟩
  · cases h
noncomputable def spec_l3Matrix.O (k : Nat) : Oracle := noO
def spec_l3Matrix.fh : FH := ⟨fun i => match i with | 3 => some [(1, 0), (2, 0), (4, 0), (5, 0), (15, 0), (16, 0)] | 7 => some [(1, 0), (2, 0), (4, 0), (5, 0), (25, 0), (26, 0), (27, 0)] | _ => none, [(true, 3)], false⟩
noncomputable def spec_l3Matrix.x0 (k : Nat) (x1 : ByteArray) (x15 : Int) (x16 : Int) (y0_0 : Int) (y0_1 : List Int) (y0_2 : List Int) (y0_3 : List Stp) (y2_0 : Int) (y4 : List Int) : Option Res := R.exec Tryz.prog xhn spec_l3Matrix.O 0 Tryz.f66 spec_l3Matrix.fh k (R.point Tryz.f66 3) ⟨[(1, .str x1), (2, .ptr 0 0), (4, .ptr 1 0), (5, .ptr 2 0), (15, .int .i64 x15), (16, .int .i64 x16)], [(0, .box false [.int .i64 y0_0, .imm (.I .i64 y0_1), .imm (.I .i64 y0_2), .imm (.T y0_3)]), (1, .box false [.int .i64 0, .sl 3 0]), (2, .box false [.int .i64 y2_0, .sl 4 0]), (3, .arr 3 0 (.I .i64 ([] : List Int)) false), (4, .arr 3 0 (.I .i64 y4) false)], 7⟩
noncomputable def spec_l3Matrix.x1 (k : Nat) (x1 : ByteArray) (x25 : List Stp) (x26 : Int) (x27 : Int) (y0_0 : Int) (y0_1 : List Int) (y0_2 : List Int) (y0_3 : List Stp) (y2_0 : Int) (y4 : List Int) : Option Res := R.exec Tryz.prog xhn spec_l3Matrix.O 0 Tryz.f66 spec_l3Matrix.fh k (R.point Tryz.f66 7) ⟨[(1, .str x1), (2, .ptr 0 0), (4, .ptr 1 0), (5, .ptr 2 0), (25, .imm (.T x25)), (26, .int .i64 x26), (27, .int .i64 x27)], [(0, .box false [.int .i64 y0_0, .imm (.I .i64 y0_1), .imm (.I .i64 y0_2), .imm (.T y0_3)]), (1, .box false [.int .i64 0, .sl 3 0]), (2, .box false [.int .i64 y2_0, .sl 4 0]), (3, .arr 3 0 (.I .i64 ([] : List Int)) false), (4, .arr 3 0 (.I .i64 y4) false)], 7⟩
set_option maxRecDepth 100000 in
theorem spec_l3Matrix.e0 (k : Nat) (x1 : ByteArray) (x15 : Int) (x16 : Int) (y0_0 : Int) (y0_1 : List Int) (y0_2 : List Int) (y0_3 : List Stp) (y2_0 : Int) (y4 : List Int) : spec_l3Matrix.x0 (k + 1) x1 x15 x16 y0_0 y0_1 y0_2 y0_3 y2_0 y4 = (if x16 < x15 then (if y4.length < 17592186044416 then (spec_l3Matrix.x0 k x1 x15 (wr64 (x16 + 1)) y0_0 y0_1 y0_2 y0_3 y2_0 (y4 ++ [1000000])) else none) else (spec_l3Matrix.x1 k x1 y0_3 (y0_3.length : Int) 0 y0_0 y0_1 y0_2 y0_3 y2_0 y4)) := by kernel_rfl
set_option maxRecDepth 100000 in
theorem spec_l3Matrix.e1 (k : Nat) (x1 : ByteArray) (x25 : List Stp) (x26 : Int) (x27 : Int) (y0_0 : Int) (y0_1 : List Int) (y0_2 : List Int) (y0_3 : List Stp) (y2_0 : Int) (y4 : List Int) : spec_l3Matrix.x1 (k + 1) x1 x25 x26 x27 y0_0 y0_1 y0_2 y0_3 y2_0 y4 = (if x27 < x26 then (if 0 ≤ x27 then (if x27 < (x25.length : Int) then (if (rdT x25 x27).f1.toList = x1.toList then (if 0 ≤ (wr64 ((wr64 ((rdT x25 x27).f0 * y0_0)) + (rdT x25 x27).f2)) then (if (wr64 ((wr64 ((rdT x25 x27).f0 * y0_0)) + (rdT x25 x27).f2)) < (y4.length : Int) then (spec_l3Matrix.x1 k x1 x25 x26 (wr64 (x27 + 1)) y0_0 y0_1 y0_2 y0_3 y2_0 (y4.set (wr64 ((wr64 ((rdT x25 x27).f0 * y0_0)) + (rdT x25 x27).f2)).toNat (rdT x25 x27).f3)) else none) else none) else (spec_l3Matrix.x1 k x1 x25 x26 (wr64 (x27 + 1)) y0_0 y0_1 y0_2 y0_3 y2_0 y4)) else none) else none) else (some (spec_l3Matrix.en (y2_0, y4)))) := by kernel_rfl
set_option maxRecDepth 100000 in
theorem spec_l3Matrix.ef (k : Nat) (a0_0 : Int) (l0_1 : List Int) (l0_2 : List Int) (l0_3 : List Stp) (a1 : ByteArray) : R.start Tryz.prog xhn spec_l3Matrix.O 0 Tryz.f66 spec_l3Matrix.fh k [.agg [.int .i64 a0_0, .imm (.I .i64 l0_1), .imm (.I .i64 l0_2), .imm (.T l0_3)], .str a1] [] = (spec_l3Matrix.x0 k a1 (wr64 (a0_0 * a0_0)) 0 a0_0 l0_1 l0_2 l0_3 a0_0 ([] : List Int)) := by kernel_rfl
theorem spec_l3Matrix.link : ∀ k, (∀ (x1 : ByteArray) (x15 : Int) (x16 : Int) (y0_0 : Int) (y0_1 : List Int) (y0_2 : List Int) (y0_3 : List Stp) (y2_0 : Int) (y4 : List Int), spec_l3Matrix.x0 k x1 x15 x16 y0_0 y0_1 y0_2 y0_3 y2_0 y4 = (spec_l3Matrix.l0 k x1 x15 x16 y0_0 y0_1 y0_2 y0_3 y2_0 y4).map (spec_l3Matrix.en)) ∧ (∀ (x1 : ByteArray) (x25 : List Stp) (x26 : Int) (x27 : Int) (y0_0 : Int) (y0_1 : List Int) (y0_2 : List Int) (y0_3 : List Stp) (y2_0 : Int) (y4 : List Int), spec_l3Matrix.x1 k x1 x25 x26 x27 y0_0 y0_1 y0_2 y0_3 y2_0 y4 = (spec_l3Matrix.l1 k x1 x25 x26 x27 y0_0 y0_1 y0_2 y0_3 y2_0 y4).map (spec_l3Matrix.en))
  | 0 => ⟨fun _ _ _ _ _ _ _ _ _ => by simp only [spec_l3Matrix.l0, R.map_none]; rfl, fun _ _ _ _ _ _ _ _ _ _ => by simp only [spec_l3Matrix.l1, R.map_none]; rfl⟩
  | k + 1 => by
    obtain ⟨ih0, ih1⟩ := spec_l3Matrix.link k
    refine ⟨?_, ?_⟩
    · intro x1 x15 x16 y0_0 y0_1 y0_2 y0_3 y2_0 y4
      rw [spec_l3Matrix.e0]
      simp only [spec_l3Matrix.l0, R.map_ite, R.map_bind, R.map_none, R.map_some, R.wr64_eq, ← ih0, ← ih1]
    · intro x1 x25 x26 x27 y0_0 y0_1 y0_2 y0_3 y2_0 y4
      rw [spec_l3Matrix.e1]
      simp only [spec_l3Matrix.l1, R.map_ite, R.map_bind, R.map_none, R.map_some, R.wr64_eq, ← ih0, ← ih1]
theorem spec_l3Matrix.sf (k : Nat) (a0_0 : Int) (l0_1 : List Int) (l0_2 : List Int) (l0_3 : List Stp) (a1 : ByteArray) : R.start Tryz.prog xhn spec_l3Matrix.O 0 Tryz.f66 spec_l3Matrix.fh k [.agg [.int .i64 a0_0, .imm (.I .i64 l0_1), .imm (.I .i64 l0_2), .imm (.T l0_3)], .str a1] [] = (spec_l3Matrix.f k a0_0 l0_1 l0_2 l0_3 a1).map (spec_l3Matrix.en) := by
  obtain ⟨ih0, ih1⟩ := spec_l3Matrix.link k
  rw [spec_l3Matrix.ef]
  simp only [spec_l3Matrix.f, R.map_ite, R.map_bind, R.map_none, R.map_some, R.wr64_eq, ← ih0, ← ih1]
theorem spec_l3Matrix.ok (k : Nat) : spec_l3Matrix.tw.Ok Tryz.prog k := by
  intro md hmd a r h
  refine fn_ok (H := xhn) (fh := spec_l3Matrix.fh) (O := spec_l3Matrix.O) (k := k) Tryz.func66 (by kernel_rfl) (by kernel_rfl) (fun j _ => noO_sound) (by kernel_rfl) (m := 0) rfl ?_
  refine (spec_l3Matrix.sf k a.1 a.2.1 a.2.2.1 a.2.2.2.1 a.2.2.2.2).trans ?_
  exact congrArg (Option.map _) h
mutual
def spec_l7Value.l0 : Nat → ByteArray → Int → (List Int) → (List Int) → (List Stp) → Int → (List Int) → Option (Int × (List Int) × Bool)
  | 0, _, _, _, _, _, _, _ => none
  | k + 1, x1, y0_0, y0_1, y0_2, y0_3, y2_0, y4 => (if x1.toList = ([] : List UInt8) then (some (y2_0, y4, true)) else ((spec_l7Next.f k x1).bind fun t3 => (if t3.2.1 = true then ((spec_l7Value.f k y0_0 y0_1 y0_2 y0_3 t3.1).bind fun t4 => (if t4.2.2 = true then ((spec_l6Idempotent.f k t4.1 t4.2.1).bind fun t5 => (if t5 = true then ((spec_l6Stable.f k t4.1 t4.2.1).bind fun t6 => ((spec_l6Mul.f k y2_0 y4 t6.1 t6.2).bind fun t7 => (spec_l7Value.l0 k t3.2.2 y0_0 y0_1 y0_2 y0_3 t7.1 t7.2))) else (some (0, ([] : List Int), false)))) else (some (0, ([] : List Int), false)))) else ((spec_l3Matrix.f k y0_0 y0_1 y0_2 y0_3 t3.1).bind fun t8 => ((spec_l6Grades.f k t8.1 t8.2).bind fun t9 => ((spec_l6Mul.f k y2_0 y4 t9.1 t9.2).bind fun t10 => (spec_l7Value.l0 k t3.2.2 y0_0 y0_1 y0_2 y0_3 t10.1 t10.2)))))))
def spec_l7Value.f : Nat → Int → (List Int) → (List Int) → (List Stp) → ByteArray → Option (Int × (List Int) × Bool)
  | 0, _, _, _, _, _ => none
  | k + 1, a0_0, l0_1, l0_2, l0_3, a1 => ((spec_l2Unit.f k a0_0).bind fun t1 => ((spec_l6Grades.f k t1.1 t1.2).bind fun t2 => (spec_l7Value.l0 k a1 a0_0 l0_1 l0_2 l0_3 t2.1 t2.2)))
end
def spec_l7Value.en (r : Int × (List Int) × Bool) : Res := (.tup [.agg [.int .i64 r.1, .sl 0 0], .lit r.2.2], [.arr 3 0 (.I .i64 r.2.1) false])
def spec_l7Value.dec : List AV → List R.Obj → Option (Int × (List Int) × (List Int) × (List Stp) × ByteArray)
  | [.agg [.int .i64 a0_0, .imm (.I .i64 l0_1), .imm (.I .i64 l0_2), .imm (.T l0_3)], .str a1], [] => some (a0_0, l0_1, l0_2, l0_3, a1)
  | _, _ => none
def spec_l7Value.tw : Tw := ⟨28, Int × (List Int) × (List Int) × (List Stp) × ByteArray, Int × (List Int) × Bool, spec_l7Value.dec, fun a => [.agg [.int .i64 a.1, .imm (.I .i64 a.2.1), .imm (.I .i64 a.2.2.1), .imm (.T a.2.2.2.1)], .str a.2.2.2.2], fun a => [], fun k a => spec_l7Value.f k a.1 a.2.1 a.2.2.1 a.2.2.2.1 a.2.2.2.2, fun a r => spec_l7Value.en r, true⟩
theorem spec_l7Value.dok : spec_l7Value.tw.DecOk := by
  intro args hc a h
  have h : spec_l7Value.dec args hc = some a := h
  unfold spec_l7Value.dec at h
  split at h
  · cases h; exact ⟨rfl, rfl⟩
  · cases h
noncomputable def spec_l7Value.O (k : Nat) : Oracle := (spec_l2Unit.tw.orc k (spec_l6Grades.tw.orc k (spec_l7Next.tw.orc k (spec_l6Idempotent.tw.orc k (spec_l6Stable.tw.orc k (spec_l6Mul.tw.orc k (spec_l3Matrix.tw.orc k (spec_l7Value.tw.orc k noO))))))))
def spec_l7Value.fh : FH := ⟨fun i => match i with | 2 => some [(1, 0), (2, 0), (4, 0), (6, 0)] | _ => none, [(true, 3)], false⟩
noncomputable def spec_l7Value.x0 (k : Nat) (x1 : ByteArray) (y0_0 : Int) (y0_1 : List Int) (y0_2 : List Int) (y0_3 : List Stp) (y2_0 : Int) (y4 : List Int) : Option Res := R.exec Tryz.prog xhn spec_l7Value.O 0 Tryz.f28 spec_l7Value.fh k (R.point Tryz.f28 2) ⟨[(1, .str x1), (2, .ptr 0 0), (4, .ptr 1 0), (6, .ptr 2 0)], [(0, .box false [.int .i64 y0_0, .imm (.I .i64 y0_1), .imm (.I .i64 y0_2), .imm (.T y0_3)]), (1, .box false [.int .i64 0, .sl 3 0]), (2, .box false [.int .i64 y2_0, .sl 4 0]), (3, .arr 3 0 (.I .i64 ([] : List Int)) false), (4, .arr 3 0 (.I .i64 y4) false)], 7⟩
set_option maxRecDepth 100000 in
theorem spec_l7Value.e0 (k : Nat) (x1 : ByteArray) (y0_0 : Int) (y0_1 : List Int) (y0_2 : List Int) (y0_3 : List Stp) (y2_0 : Int) (y4 : List Int) : spec_l7Value.x0 (k + 1) x1 y0_0 y0_1 y0_2 y0_3 y2_0 y4 = (if x1.toList = ([] : List UInt8) then (some (spec_l7Value.en (y2_0, y4, true))) else ((spec_l7Next.f k x1).bind fun t3 => (if t3.2.1 = true then ((spec_l7Value.f k y0_0 y0_1 y0_2 y0_3 t3.1).bind fun t4 => (if t4.2.2 = true then ((spec_l6Idempotent.f k t4.1 t4.2.1).bind fun t5 => (if t5 = true then ((spec_l6Stable.f k t4.1 t4.2.1).bind fun t6 => ((spec_l6Mul.f k y2_0 y4 t6.1 t6.2).bind fun t7 => (spec_l7Value.x0 k t3.2.2 y0_0 y0_1 y0_2 y0_3 t7.1 t7.2))) else (some (spec_l7Value.en (0, ([] : List Int), false))))) else (some (spec_l7Value.en (0, ([] : List Int), false))))) else ((spec_l3Matrix.f k y0_0 y0_1 y0_2 y0_3 t3.1).bind fun t8 => ((spec_l6Grades.f k t8.1 t8.2).bind fun t9 => ((spec_l6Mul.f k y2_0 y4 t9.1 t9.2).bind fun t10 => (spec_l7Value.x0 k t3.2.2 y0_0 y0_1 y0_2 y0_3 t10.1 t10.2))))))) := by kernel_rfl
set_option maxRecDepth 100000 in
theorem spec_l7Value.ef (k : Nat) (a0_0 : Int) (l0_1 : List Int) (l0_2 : List Int) (l0_3 : List Stp) (a1 : ByteArray) : R.start Tryz.prog xhn spec_l7Value.O 0 Tryz.f28 spec_l7Value.fh k [.agg [.int .i64 a0_0, .imm (.I .i64 l0_1), .imm (.I .i64 l0_2), .imm (.T l0_3)], .str a1] [] = ((spec_l2Unit.f k a0_0).bind fun t1 => ((spec_l6Grades.f k t1.1 t1.2).bind fun t2 => (spec_l7Value.x0 k a1 a0_0 l0_1 l0_2 l0_3 t2.1 t2.2))) := by kernel_rfl
theorem spec_l7Value.link : ∀ k, (∀ (x1 : ByteArray) (y0_0 : Int) (y0_1 : List Int) (y0_2 : List Int) (y0_3 : List Stp) (y2_0 : Int) (y4 : List Int), spec_l7Value.x0 k x1 y0_0 y0_1 y0_2 y0_3 y2_0 y4 = (spec_l7Value.l0 k x1 y0_0 y0_1 y0_2 y0_3 y2_0 y4).map (spec_l7Value.en))
  | 0 => fun _ _ _ _ _ _ _ => by simp only [spec_l7Value.l0, R.map_none]; rfl
  | k + 1 => by
    have ih0 := spec_l7Value.link k
    · intro x1 y0_0 y0_1 y0_2 y0_3 y2_0 y4
      rw [spec_l7Value.e0]
      simp only [spec_l7Value.l0, R.map_ite, R.map_bind, R.map_none, R.map_some, R.wr64_eq, ← ih0]
theorem spec_l7Value.sf (k : Nat) (a0_0 : Int) (l0_1 : List Int) (l0_2 : List Int) (l0_3 : List Stp) (a1 : ByteArray) : R.start Tryz.prog xhn spec_l7Value.O 0 Tryz.f28 spec_l7Value.fh k [.agg [.int .i64 a0_0, .imm (.I .i64 l0_1), .imm (.I .i64 l0_2), .imm (.T l0_3)], .str a1] [] = (spec_l7Value.f (k + 1) a0_0 l0_1 l0_2 l0_3 a1).map (spec_l7Value.en) := by
  have ih0 := spec_l7Value.link k
  rw [spec_l7Value.ef]
  simp only [spec_l7Value.f, R.map_ite, R.map_bind, R.map_none, R.map_some, R.wr64_eq, ← ih0]
theorem spec_l7Value.ok : ∀ k, spec_l7Value.tw.Ok Tryz.prog k := by
  intro k
  induction k using Nat.strongRecOn with
  | ind k ih =>
    cases k with
    | zero =>
      intro md hmd a r h
      have h : spec_l7Value.f 0 a.1 a.2.1 a.2.2.1 a.2.2.2.1 a.2.2.2.2 = some r := h
      simp only [spec_l7Value.f] at h
      cases h
    | succ k =>
      intro md hmd a r h
      refine fn_ok (H := xhn) (fh := spec_l7Value.fh) (O := spec_l7Value.O) (k := k) Tryz.func28 (by kernel_rfl) (by kernel_rfl) (fun j hj => (Tw.orc_sound spec_l2Unit.dok (spec_l2Unit.ok j) (fun _ => rfl) (Tw.orc_sound spec_l6Grades.dok (spec_l6Grades.ok j) (fun _ => rfl) (Tw.orc_sound spec_l7Next.dok (spec_l7Next.ok j) (fun _ => rfl) (Tw.orc_sound spec_l6Idempotent.dok (spec_l6Idempotent.ok j) (fun _ => rfl) (Tw.orc_sound spec_l6Stable.dok (spec_l6Stable.ok j) (fun _ => rfl) (Tw.orc_sound spec_l6Mul.dok (spec_l6Mul.ok j) (fun _ => rfl) (Tw.orc_sound spec_l3Matrix.dok (spec_l3Matrix.ok j) (fun _ => rfl) (Tw.orc_sound spec_l7Value.dok (ih j (by omega)) (fun _ => rfl) noO_sound))))))))) (by kernel_rfl) (m := 0) rfl ?_
      refine (spec_l7Value.sf k a.1 a.2.1 a.2.2.1 a.2.2.2.1 a.2.2.2.2).trans ?_
      exact congrArg (Option.map _) h
def spec_ValueOf.f (k : Nat) (a0_0 : Int) (l0_1 : List Int) (l0_2 : List Int) (l0_3 : List Stp) (a1 : ByteArray) : Option (Int × (List Int) × Bool) := ((spec_AutomatonValid.f k a0_0 l0_1 l0_2 l0_3).bind fun t1 => (if t1 = true then ((spec_ExpressionValid.f k a1).bind fun t2 => (if t2 = true then ((spec_l7Value.f k a0_0 l0_1 l0_2 l0_3 a1).bind fun t3 => (some (t3.1, t3.2.1, t3.2.2))) else (some (0, ([] : List Int), false)))) else (some (0, ([] : List Int), false))))
def spec_ValueOf.en (r : Int × (List Int) × Bool) : Res := (.tup [.agg [.int .i64 r.1, .sl 0 0], .lit r.2.2], [.arr 3 0 (.I .i64 r.2.1) false])
def spec_ValueOf.dec : List AV → List R.Obj → Option (Int × (List Int) × (List Int) × (List Stp) × ByteArray)
  | [.agg [.int .i64 a0_0, .imm (.I .i64 l0_1), .imm (.I .i64 l0_2), .imm (.T l0_3)], .str a1], [] => some (a0_0, l0_1, l0_2, l0_3, a1)
  | _, _ => none
def spec_ValueOf.tw : Tw := ⟨7, Int × (List Int) × (List Int) × (List Stp) × ByteArray, Int × (List Int) × Bool, spec_ValueOf.dec, fun a => [.agg [.int .i64 a.1, .imm (.I .i64 a.2.1), .imm (.I .i64 a.2.2.1), .imm (.T a.2.2.2.1)], .str a.2.2.2.2], fun a => [], fun k a => spec_ValueOf.f k a.1 a.2.1 a.2.2.1 a.2.2.2.1 a.2.2.2.2, fun a r => spec_ValueOf.en r, true⟩
theorem spec_ValueOf.dok : spec_ValueOf.tw.DecOk := by
  intro args hc a h
  have h : spec_ValueOf.dec args hc = some a := h
  unfold spec_ValueOf.dec at h
  split at h
  · cases h; exact ⟨rfl, rfl⟩
  · cases h
noncomputable def spec_ValueOf.O (k : Nat) : Oracle := (spec_AutomatonValid.tw.orc k (spec_ExpressionValid.tw.orc k (spec_l7Value.tw.orc k noO)))
def spec_ValueOf.fh : FH := ⟨fun i => match i with | _ => none, [(true, 3)], false⟩
set_option maxRecDepth 100000 in
theorem spec_ValueOf.ef (k : Nat) (a0_0 : Int) (l0_1 : List Int) (l0_2 : List Int) (l0_3 : List Stp) (a1 : ByteArray) : R.start Tryz.prog xhn spec_ValueOf.O 0 Tryz.f7 spec_ValueOf.fh k [.agg [.int .i64 a0_0, .imm (.I .i64 l0_1), .imm (.I .i64 l0_2), .imm (.T l0_3)], .str a1] [] = ((spec_AutomatonValid.f k a0_0 l0_1 l0_2 l0_3).bind fun t1 => (if t1 = true then ((spec_ExpressionValid.f k a1).bind fun t2 => (if t2 = true then ((spec_l7Value.f k a0_0 l0_1 l0_2 l0_3 a1).bind fun t3 => (some (spec_ValueOf.en (t3.1, t3.2.1, t3.2.2)))) else (some (spec_ValueOf.en (0, ([] : List Int), false))))) else (some (spec_ValueOf.en (0, ([] : List Int), false))))) := by kernel_rfl
theorem spec_ValueOf.sf (k : Nat) (a0_0 : Int) (l0_1 : List Int) (l0_2 : List Int) (l0_3 : List Stp) (a1 : ByteArray) : R.start Tryz.prog xhn spec_ValueOf.O 0 Tryz.f7 spec_ValueOf.fh k [.agg [.int .i64 a0_0, .imm (.I .i64 l0_1), .imm (.I .i64 l0_2), .imm (.T l0_3)], .str a1] [] = (spec_ValueOf.f k a0_0 l0_1 l0_2 l0_3 a1).map (spec_ValueOf.en) := by
  rw [spec_ValueOf.ef]
  simp only [spec_ValueOf.f, R.map_ite, R.map_bind, R.map_none, R.map_some, R.wr64_eq]
theorem spec_ValueOf.ok (k : Nat) : spec_ValueOf.tw.Ok Tryz.prog k := by
  intro md hmd a r h
  refine fn_ok (H := xhn) (fh := spec_ValueOf.fh) (O := spec_ValueOf.O) (k := k) Tryz.func7 (by kernel_rfl) (by kernel_rfl) (fun j _ => (Tw.orc_sound spec_AutomatonValid.dok (spec_AutomatonValid.ok j) (fun _ => rfl) (Tw.orc_sound spec_ExpressionValid.dok (spec_ExpressionValid.ok j) (fun _ => rfl) (Tw.orc_sound spec_l7Value.dok (spec_l7Value.ok j) (fun _ => rfl) noO_sound)))) (by kernel_rfl) (m := 0) rfl ?_
  refine (spec_ValueOf.sf k a.1 a.2.1 a.2.2.1 a.2.2.2.1 a.2.2.2.2).trans ?_
  exact congrArg (Option.map _) h
def spec_l7Some.l0 : Nat → ByteArray → Int → (List Int) → Int → Int → (List Int) → (List Int) → (List Stp) → Option (Int × (List Int) × (List Int) × (List Stp) × ByteArray × (List Int) × Int)
  | 0, _, _, _, _, _, _, _, _ => none
  | k + 1, x5, x12, y0_0, y0_1, y2_0, y2_1, y2_2, y2_3 => (if x12 < 3 then ((spec_ValueOf.f k y2_0 y2_1 y2_2 y2_3 x5).bind fun t3 => (if t3.2.2 = true then (some (y2_0, y2_1, y2_2, y2_3, x5, y0_0, y0_1)) else ((spec_l13Rd_pick.f 4 y0_0 y0_1).bind fun t4 => (if t4.1 = 0 then (some (y2_0, y2_1, y2_2, y2_3, x5, t4.2.1, t4.2.2)) else ((spec_l13Rd_pick.f 3 t4.2.1 t4.2.2).bind fun t5 => ((spec_l7Draw.f k t5.1 t5.2.1 t5.2.2).bind fun t6 => (spec_l7Some.l0 k t6.1 (wrap64 (x12 + 1)) t6.2.1 t6.2.2 y2_0 y2_1 y2_2 y2_3))))))) else (some (y2_0, y2_1, y2_2, y2_3, x5, y0_0, y0_1)))
def spec_l7Some.f (k : Nat) (l1_0 : List Int) (a1_1 : Int) : Option (Int × (List Int) × (List Int) × (List Stp) × ByteArray × (List Int) × Int) := ((spec_l3Any.f k l1_0 a1_1).bind fun t1 => ((spec_l7Text.f k t1.2.2.2.2.1 t1.2.2.2.2.2).bind fun t2 => (spec_l7Some.l0 k t2.1 0 t2.2.1 t2.2.2 t1.1 t1.2.1 t1.2.2.1 t1.2.2.2.1)))
def spec_l7Some.en (r : Int × (List Int) × (List Int) × (List Stp) × ByteArray × (List Int) × Int) : Res := (.tup [.agg [.int .i64 r.1, .imm (.I .i64 r.2.1), .imm (.I .i64 r.2.2.1), .imm (.T r.2.2.2.1)], .str r.2.2.2.2.1], [.box false [.imm (.I .u8 r.2.2.2.2.2.1), .int .i64 r.2.2.2.2.2.2]])
def spec_l7Some.dec : List AV → List R.Obj → Option ((List Int) × Int)
  | [.ptr 0 0], [.box false [.imm (.I .u8 l1_0), .int .i64 a1_1]] => some (l1_0, a1_1)
  | _, _ => none
def spec_l7Some.tw : Tw := ⟨21, (List Int) × Int, Int × (List Int) × (List Int) × (List Stp) × ByteArray × (List Int) × Int, spec_l7Some.dec, fun a => [.ptr 0 0], fun a => [.box false [.imm (.I .u8 a.1), .int .i64 a.2]], fun k a => spec_l7Some.f k a.1 a.2, fun a r => spec_l7Some.en r, true⟩
theorem spec_l7Some.dok : spec_l7Some.tw.DecOk := by
  intro args hc a h
  have h : spec_l7Some.dec args hc = some a := h
  unfold spec_l7Some.dec at h
  split at h
  · cases h; exact ⟨rfl, rfl⟩
  · cases h
noncomputable def spec_l7Some.O (k : Nat) : Oracle := (spec_l3Any.tw.orc k (spec_l7Text.tw.orc k (spec_ValueOf.tw.orc k (spec_l13Rd_pick.tw.orc k (spec_l7Draw.tw.orc k noO)))))
def spec_l7Some.fh : FH := ⟨fun i => match i with | 4 => some [(0, 0), (2, 0), (4, 0), (5, 0), (12, 0)] | _ => none, [(false, 3), (false, 3), (false, 75)], false⟩
noncomputable def spec_l7Some.x0 (k : Nat) (x5 : ByteArray) (x12 : Int) (y0_0 : List Int) (y0_1 : Int) (y2_0 : Int) (y2_1 : List Int) (y2_2 : List Int) (y2_3 : List Stp) : Option Res := R.exec Tryz.prog xhn spec_l7Some.O 1 Tryz.f21 spec_l7Some.fh k (R.point Tryz.f21 4) ⟨[(0, .ptr 0 0), (2, .ptr 1 0), (4, .ptr 2 0), (5, .str x5), (12, .int .i64 x12)], [(0, .box false [.imm (.I .u8 y0_0), .int .i64 y0_1]), (1, .box false [.int .i64 0, .sl 3 0, .sl 4 0, .sl 5 0]), (2, .box false [.int .i64 y2_0, .imm (.I .i64 y2_1), .imm (.I .i64 y2_2), .imm (.T y2_3)]), (3, .arr 3 0 (.I .i64 ([] : List Int)) false), (4, .arr 3 0 (.I .i64 ([] : List Int)) false), (5, .arr 75 0 (.T ([] : List Stp)) false)], 8⟩
set_option maxRecDepth 100000 in
theorem spec_l7Some.e0 (k : Nat) (x5 : ByteArray) (x12 : Int) (y0_0 : List Int) (y0_1 : Int) (y2_0 : Int) (y2_1 : List Int) (y2_2 : List Int) (y2_3 : List Stp) : spec_l7Some.x0 (k + 1) x5 x12 y0_0 y0_1 y2_0 y2_1 y2_2 y2_3 = (if x12 < 3 then ((spec_ValueOf.f k y2_0 y2_1 y2_2 y2_3 x5).bind fun t3 => (if t3.2.2 = true then (some (spec_l7Some.en (y2_0, y2_1, y2_2, y2_3, x5, y0_0, y0_1))) else ((spec_l13Rd_pick.f 4 y0_0 y0_1).bind fun t4 => (if t4.1 = 0 then (some (spec_l7Some.en (y2_0, y2_1, y2_2, y2_3, x5, t4.2.1, t4.2.2))) else ((spec_l13Rd_pick.f 3 t4.2.1 t4.2.2).bind fun t5 => ((spec_l7Draw.f k t5.1 t5.2.1 t5.2.2).bind fun t6 => (spec_l7Some.x0 k t6.1 (wr64 (x12 + 1)) t6.2.1 t6.2.2 y2_0 y2_1 y2_2 y2_3))))))) else (some (spec_l7Some.en (y2_0, y2_1, y2_2, y2_3, x5, y0_0, y0_1)))) := by kernel_rfl
set_option maxRecDepth 100000 in
theorem spec_l7Some.ef (k : Nat) (l1_0 : List Int) (a1_1 : Int) : R.start Tryz.prog xhn spec_l7Some.O 1 Tryz.f21 spec_l7Some.fh k [.ptr 0 0] [.box false [.imm (.I .u8 l1_0), .int .i64 a1_1]] = ((spec_l3Any.f k l1_0 a1_1).bind fun t1 => ((spec_l7Text.f k t1.2.2.2.2.1 t1.2.2.2.2.2).bind fun t2 => (spec_l7Some.x0 k t2.1 0 t2.2.1 t2.2.2 t1.1 t1.2.1 t1.2.2.1 t1.2.2.2.1))) := by kernel_rfl
theorem spec_l7Some.link : ∀ k, (∀ (x5 : ByteArray) (x12 : Int) (y0_0 : List Int) (y0_1 : Int) (y2_0 : Int) (y2_1 : List Int) (y2_2 : List Int) (y2_3 : List Stp), spec_l7Some.x0 k x5 x12 y0_0 y0_1 y2_0 y2_1 y2_2 y2_3 = (spec_l7Some.l0 k x5 x12 y0_0 y0_1 y2_0 y2_1 y2_2 y2_3).map (spec_l7Some.en))
  | 0 => fun _ _ _ _ _ _ _ _ => by simp only [spec_l7Some.l0, R.map_none]; rfl
  | k + 1 => by
    have ih0 := spec_l7Some.link k
    · intro x5 x12 y0_0 y0_1 y2_0 y2_1 y2_2 y2_3
      rw [spec_l7Some.e0]
      simp only [spec_l7Some.l0, R.map_ite, R.map_bind, R.map_none, R.map_some, R.wr64_eq, ← ih0]
theorem spec_l7Some.sf (k : Nat) (l1_0 : List Int) (a1_1 : Int) : R.start Tryz.prog xhn spec_l7Some.O 1 Tryz.f21 spec_l7Some.fh k [.ptr 0 0] [.box false [.imm (.I .u8 l1_0), .int .i64 a1_1]] = (spec_l7Some.f k l1_0 a1_1).map (spec_l7Some.en) := by
  have ih0 := spec_l7Some.link k
  rw [spec_l7Some.ef]
  simp only [spec_l7Some.f, R.map_ite, R.map_bind, R.map_none, R.map_some, R.wr64_eq, ← ih0]
theorem spec_l7Some.ok (k : Nat) : spec_l7Some.tw.Ok Tryz.prog k := by
  intro md hmd a r h
  refine fn_ok (H := xhn) (fh := spec_l7Some.fh) (O := spec_l7Some.O) (k := k) Tryz.func21 (by kernel_rfl) (by kernel_rfl) (fun j _ => (Tw.orc_sound spec_l3Any.dok (spec_l3Any.ok j) (fun _ => rfl) (Tw.orc_sound spec_l7Text.dok (spec_l7Text.ok j) (fun _ => rfl) (Tw.orc_sound spec_ValueOf.dok (spec_ValueOf.ok j) (fun _ => rfl) (Tw.orc_sound spec_l13Rd_pick.dok (spec_l13Rd_pick.ok j) (fun _ => rfl) (Tw.orc_sound spec_l7Draw.dok (spec_l7Draw.ok j) (fun _ => rfl) noO_sound)))))) (by kernel_rfl) (m := 1) rfl ?_
  refine (spec_l7Some.sf k a.1 a.2).trans ?_
  exact congrArg (Option.map _) h
def spec_DrawGrowthOf.f (k : Nat) (l0 : List Int) : Option (Int × (List Int) × (List Int) × (List Stp) × ByteArray × Int) := ((spec_l13Open.f l0).bind fun t1 => ((spec_l7Some.f k t1.1 t1.2).bind fun t2 => ((spec_l13Rd_num.f ([3, 4, 2, 1, 0, 5, (-1), 21]) t2.2.2.2.2.2.1 t2.2.2.2.2.2.2).bind fun t3 => (some (t2.1, t2.2.1, t2.2.2.1, t2.2.2.2.1, t2.2.2.2.2.1, t3.1)))))
def spec_DrawGrowthOf.en (r : Int × (List Int) × (List Int) × (List Stp) × ByteArray × Int) : Res := (.tup [.agg [.int .i64 r.1, .imm (.I .i64 r.2.1), .imm (.I .i64 r.2.2.1), .imm (.T r.2.2.2.1)], .str r.2.2.2.2.1, .int .i64 r.2.2.2.2.2], [])
def spec_DrawGrowthOf.dec : List AV → List R.Obj → Option (List Int)
  | [.imm (.I .u8 l0)], [] => some l0
  | _, _ => none
def spec_DrawGrowthOf.tw : Tw := ⟨14, List Int, Int × (List Int) × (List Int) × (List Stp) × ByteArray × Int, spec_DrawGrowthOf.dec, fun a => [.imm (.I .u8 a)], fun a => [], fun k a => spec_DrawGrowthOf.f k a, fun a r => spec_DrawGrowthOf.en r, true⟩
theorem spec_DrawGrowthOf.dok : spec_DrawGrowthOf.tw.DecOk := by
  intro args hc a h
  have h : spec_DrawGrowthOf.dec args hc = some a := h
  unfold spec_DrawGrowthOf.dec at h
  split at h
  · cases h; exact ⟨rfl, rfl⟩
  · cases h
noncomputable def spec_DrawGrowthOf.O (k : Nat) : Oracle := (spec_l13Open.tw.orc k (spec_l7Some.tw.orc k (spec_l13Rd_num.tw.orc k noO)))
def spec_DrawGrowthOf.fh : FH := ⟨fun i => match i with | _ => none, [(false, 3), (false, 3), (false, 75)], false⟩
set_option maxRecDepth 100000 in
theorem spec_DrawGrowthOf.ef (k : Nat) (l0 : List Int) : R.start Tryz.prog xhn spec_DrawGrowthOf.O 0 Tryz.f14 spec_DrawGrowthOf.fh k [.imm (.I .u8 l0)] [] = ((spec_l13Open.f l0).bind fun t1 => ((spec_l7Some.f k t1.1 t1.2).bind fun t2 => ((spec_l13Rd_num.f ([3, 4, 2, 1, 0, 5, (-1), 21]) t2.2.2.2.2.2.1 t2.2.2.2.2.2.2).bind fun t3 => (some (spec_DrawGrowthOf.en (t2.1, t2.2.1, t2.2.2.1, t2.2.2.2.1, t2.2.2.2.2.1, t3.1)))))) := by kernel_rfl
theorem spec_DrawGrowthOf.sf (k : Nat) (l0 : List Int) : R.start Tryz.prog xhn spec_DrawGrowthOf.O 0 Tryz.f14 spec_DrawGrowthOf.fh k [.imm (.I .u8 l0)] [] = (spec_DrawGrowthOf.f k l0).map (spec_DrawGrowthOf.en) := by
  rw [spec_DrawGrowthOf.ef]
  simp only [spec_DrawGrowthOf.f, R.map_ite, R.map_bind, R.map_none, R.map_some, R.wr64_eq]
theorem spec_DrawGrowthOf.ok (k : Nat) : spec_DrawGrowthOf.tw.Ok Tryz.prog k := by
  intro md hmd a r h
  refine fn_ok (H := xhn) (fh := spec_DrawGrowthOf.fh) (O := spec_DrawGrowthOf.O) (k := k) Tryz.func14 (by kernel_rfl) (by kernel_rfl) (fun j _ => (Tw.orc_sound spec_l13Open.dok (spec_l13Open.ok j) (fun _ => rfl) (Tw.orc_sound spec_l7Some.dok (spec_l7Some.ok j) (fun _ => rfl) (Tw.orc_sound spec_l13Rd_num.dok (spec_l13Rd_num.ok j) (fun _ => rfl) noO_sound)))) (by kernel_rfl) (m := 0) rfl ?_
  refine (spec_DrawGrowthOf.sf k a).trans ?_
  exact congrArg (Option.map _) h
def impl_statesOk.l0 : Nat → (List Int) → Int → (List Int) → Int → Int → Option (Bool)
  | 0, _, _, _, _, _ => none
  | k + 1, x0, x1, x7, x8, x9 => (if x9 < x8 then (if 0 ≤ x9 then (if x9 < (x7.length : Int) then (if (rdI x7 x9) < 0 then (some false) else (if (rdI x7 x9) ≥ x1 then (some false) else (if x9 > 0 then (if 0 ≤ (wrap64 (x9 - 1)) then (if (wrap64 (x9 - 1)) < (x0.length : Int) then (if (rdI x0 (wrap64 (x9 - 1))) ≥ (rdI x7 x9) then (some false) else (impl_statesOk.l0 k x0 x1 x7 x8 (wrap64 (x9 + 1)))) else none) else none) else (impl_statesOk.l0 k x0 x1 x7 x8 (wrap64 (x9 + 1)))))) else none) else none) else (some true))
def impl_statesOk.f (k : Nat) (l0 : List Int) (a1 : Int) : Option (Bool) := (impl_statesOk.l0 k l0 a1 l0 (l0.length : Int) 0)
def impl_statesOk.en (r : Bool) : Res := (.lit r, [])
def impl_statesOk.dec : List AV → List R.Obj → Option ((List Int) × Int)
  | [.imm (.I .i64 l0), .int .i64 a1], [] => some (l0, a1)
  | _, _ => none
def impl_statesOk.tw : Tw := ⟨52, (List Int) × Int, Bool, impl_statesOk.dec, fun a => [.imm (.I .i64 a.1), .int .i64 a.2], fun a => [], fun k a => impl_statesOk.f k a.1 a.2, fun a r => impl_statesOk.en r, true⟩
theorem impl_statesOk.dok : impl_statesOk.tw.DecOk := by
  intro args hc a h
  have h : impl_statesOk.dec args hc = some a := h
  unfold impl_statesOk.dec at h
  split at h
  · cases h; exact ⟨rfl, rfl⟩
  · cases h
noncomputable def impl_statesOk.O (k : Nat) : Oracle := noO
def impl_statesOk.fh : FH := ⟨fun i => match i with | 2 => some [(0, 0), (1, 0), (7, 0), (8, 0), (9, 0)] | _ => none, [], false⟩
noncomputable def impl_statesOk.x0 (k : Nat) (x0 : List Int) (x1 : Int) (x7 : List Int) (x8 : Int) (x9 : Int) : Option Res := R.exec Tryz.prog xhn impl_statesOk.O 0 Tryz.f52 impl_statesOk.fh k (R.point Tryz.f52 2) ⟨[(0, .imm (.I .i64 x0)), (1, .int .i64 x1), (7, .imm (.I .i64 x7)), (8, .int .i64 x8), (9, .int .i64 x9)], [], 2⟩
set_option maxRecDepth 100000 in
theorem impl_statesOk.e0 (k : Nat) (x0 : List Int) (x1 : Int) (x7 : List Int) (x8 : Int) (x9 : Int) : impl_statesOk.x0 (k + 1) x0 x1 x7 x8 x9 = (if x9 < x8 then (if 0 ≤ x9 then (if x9 < (x7.length : Int) then (if (rdI x7 x9) < 0 then (some (impl_statesOk.en false)) else (if (rdI x7 x9) ≥ x1 then (some (impl_statesOk.en false)) else (if x9 > 0 then (if 0 ≤ (wr64 (x9 - 1)) then (if (wr64 (x9 - 1)) < (x0.length : Int) then (if (rdI x0 (wr64 (x9 - 1))) ≥ (rdI x7 x9) then (some (impl_statesOk.en false)) else (impl_statesOk.x0 k x0 x1 x7 x8 (wr64 (x9 + 1)))) else none) else none) else (impl_statesOk.x0 k x0 x1 x7 x8 (wr64 (x9 + 1)))))) else none) else none) else (some (impl_statesOk.en true))) := by kernel_rfl
set_option maxRecDepth 100000 in
theorem impl_statesOk.ef (k : Nat) (l0 : List Int) (a1 : Int) : R.start Tryz.prog xhn impl_statesOk.O 0 Tryz.f52 impl_statesOk.fh k [.imm (.I .i64 l0), .int .i64 a1] [] = (impl_statesOk.x0 k l0 a1 l0 (l0.length : Int) 0) := by kernel_rfl
theorem impl_statesOk.link : ∀ k, (∀ (x0 : List Int) (x1 : Int) (x7 : List Int) (x8 : Int) (x9 : Int), impl_statesOk.x0 k x0 x1 x7 x8 x9 = (impl_statesOk.l0 k x0 x1 x7 x8 x9).map (impl_statesOk.en))
  | 0 => fun _ _ _ _ _ => by simp only [impl_statesOk.l0, R.map_none]; rfl
  | k + 1 => by
    have ih0 := impl_statesOk.link k
    · intro x0 x1 x7 x8 x9
      rw [impl_statesOk.e0]
      simp only [impl_statesOk.l0, R.map_ite, R.map_bind, R.map_none, R.map_some, R.wr64_eq, ← ih0]
theorem impl_statesOk.sf (k : Nat) (l0 : List Int) (a1 : Int) : R.start Tryz.prog xhn impl_statesOk.O 0 Tryz.f52 impl_statesOk.fh k [.imm (.I .i64 l0), .int .i64 a1] [] = (impl_statesOk.f k l0 a1).map (impl_statesOk.en) := by
  have ih0 := impl_statesOk.link k
  rw [impl_statesOk.ef]
  simp only [impl_statesOk.f, R.map_ite, R.map_bind, R.map_none, R.map_some, R.wr64_eq, ← ih0]
theorem impl_statesOk.ok (k : Nat) : impl_statesOk.tw.Ok Tryz.prog k := by
  intro md hmd a r h
  refine fn_ok (H := xhn) (fh := impl_statesOk.fh) (O := impl_statesOk.O) (k := k) Tryz.func52 (by kernel_rfl) (by kernel_rfl) (fun j _ => noO_sound) (by kernel_rfl) (m := 0) rfl ?_
  refine (impl_statesOk.sf k a.1 a.2).trans ?_
  exact congrArg (Option.map _) h
def cmp_isNaN_int.f (a0 : Int) : Option (Bool) := (some (!decide (a0 = a0)))
def cmp_isNaN_int.en (r : Bool) : Res := (.lit r, [])
def cmp_isNaN_int.dec : List AV → List R.Obj → Option (Int)
  | [.int .i64 a0], [] => some a0
  | _, _ => none
def cmp_isNaN_int.tw : Tw := ⟨111, Int, Bool, cmp_isNaN_int.dec, fun a => [.int .i64 a], fun a => [], fun k a => cmp_isNaN_int.f a, fun a r => cmp_isNaN_int.en r, true⟩
theorem cmp_isNaN_int.dok : cmp_isNaN_int.tw.DecOk := by
  intro args hc a h
  have h : cmp_isNaN_int.dec args hc = some a := h
  unfold cmp_isNaN_int.dec at h
  split at h
  · cases h; exact ⟨rfl, rfl⟩
  · cases h
noncomputable def cmp_isNaN_int.O (k : Nat) : Oracle := noO
def cmp_isNaN_int.fh : FH := ⟨fun i => match i with | _ => none, [], false⟩
set_option maxRecDepth 100000 in
theorem cmp_isNaN_int.ef (k : Nat) (a0 : Int) : R.start Tryz.prog xhn cmp_isNaN_int.O 0 Tryz.f111 cmp_isNaN_int.fh k [.int .i64 a0] [] = (some (cmp_isNaN_int.en (!decide (a0 = a0)))) := by kernel_rfl
theorem cmp_isNaN_int.sf (k : Nat) (a0 : Int) : R.start Tryz.prog xhn cmp_isNaN_int.O 0 Tryz.f111 cmp_isNaN_int.fh k [.int .i64 a0] [] = (cmp_isNaN_int.f a0).map (cmp_isNaN_int.en) := by
  rw [cmp_isNaN_int.ef]
  simp only [cmp_isNaN_int.f, R.map_ite, R.map_bind, R.map_none, R.map_some, R.wr64_eq]
theorem cmp_isNaN_int.ok (k : Nat) : cmp_isNaN_int.tw.Ok Tryz.prog k := by
  intro md hmd a r h
  refine fn_ok (H := xhn) (fh := cmp_isNaN_int.fh) (O := cmp_isNaN_int.O) (k := k) Tryz.func111 (by kernel_rfl) (by kernel_rfl) (fun j _ => noO_sound) (by kernel_rfl) (m := 0) rfl ?_
  refine (cmp_isNaN_int.sf k a).trans ?_
  exact congrArg (Option.map _) h
def cmp_Compare_int.f (a0 : Int) (a1 : Int) : Option (Int) := ((cmp_isNaN_int.f a0).bind fun t1 => ((cmp_isNaN_int.f a1).bind fun t2 => (if t1 = true then (if t2 = true then (some 0) else (some (-1))) else (if t2 = true then (some 1) else (if a0 < a1 then (some (-1)) else (if a0 > a1 then (some 1) else (some 0)))))))
def cmp_Compare_int.en (r : Int) : Res := (.int .i64 r, [])
def cmp_Compare_int.dec : List AV → List R.Obj → Option (Int × Int)
  | [.int .i64 a0, .int .i64 a1], [] => some (a0, a1)
  | _, _ => none
def cmp_Compare_int.tw : Tw := ⟨91, Int × Int, Int, cmp_Compare_int.dec, fun a => [.int .i64 a.1, .int .i64 a.2], fun a => [], fun k a => cmp_Compare_int.f a.1 a.2, fun a r => cmp_Compare_int.en r, true⟩
theorem cmp_Compare_int.dok : cmp_Compare_int.tw.DecOk := by
  intro args hc a h
  have h : cmp_Compare_int.dec args hc = some a := h
  unfold cmp_Compare_int.dec at h
  split at h
  · cases h; exact ⟨rfl, rfl⟩
  · cases h
noncomputable def cmp_Compare_int.O (k : Nat) : Oracle := (cmp_isNaN_int.tw.orc k noO)
def cmp_Compare_int.fh : FH := ⟨fun i => match i with | _ => none, [], false⟩
set_option maxRecDepth 100000 in
theorem cmp_Compare_int.ef (k : Nat) (a0 : Int) (a1 : Int) : R.start Tryz.prog xhn cmp_Compare_int.O 0 Tryz.f91 cmp_Compare_int.fh k [.int .i64 a0, .int .i64 a1] [] = ((cmp_isNaN_int.f a0).bind fun t1 => ((cmp_isNaN_int.f a1).bind fun t2 => (if t1 = true then (if t2 = true then (some (cmp_Compare_int.en 0)) else (some (cmp_Compare_int.en (-1)))) else (if t2 = true then (some (cmp_Compare_int.en 1)) else (if a0 < a1 then (some (cmp_Compare_int.en (-1))) else (if a0 > a1 then (some (cmp_Compare_int.en 1)) else (some (cmp_Compare_int.en 0)))))))) := by kernel_rfl
theorem cmp_Compare_int.sf (k : Nat) (a0 : Int) (a1 : Int) : R.start Tryz.prog xhn cmp_Compare_int.O 0 Tryz.f91 cmp_Compare_int.fh k [.int .i64 a0, .int .i64 a1] [] = (cmp_Compare_int.f a0 a1).map (cmp_Compare_int.en) := by
  rw [cmp_Compare_int.ef]
  simp only [cmp_Compare_int.f, R.map_ite, R.map_bind, R.map_none, R.map_some, R.wr64_eq]
theorem cmp_Compare_int.ok (k : Nat) : cmp_Compare_int.tw.Ok Tryz.prog k := by
  intro md hmd a r h
  refine fn_ok (H := xhn) (fh := cmp_Compare_int.fh) (O := cmp_Compare_int.O) (k := k) Tryz.func91 (by kernel_rfl) (by kernel_rfl) (fun j _ => (Tw.orc_sound cmp_isNaN_int.dok (cmp_isNaN_int.ok j) (fun _ => rfl) noO_sound)) (by kernel_rfl) (m := 0) rfl ?_
  refine (cmp_Compare_int.sf k a.1 a.2).trans ?_
  exact congrArg (Option.map _) h
def bytealg_CompareString.f (a0 a1 : ByteArray) : Option Int := some (Lib.compareBytes a0.data.toList a1.data.toList)
def bytealg_CompareString.dec : List AV → List R.Obj → Option (ByteArray × ByteArray)
  | [.str a0, .str a1], [] => some (a0, a1)
  | _, _ => none
def bytealg_CompareString.tw : Tw := ⟨112, ByteArray × ByteArray, Int, bytealg_CompareString.dec, fun a => [.str a.1, .str a.2], fun a => [], fun k a => bytealg_CompareString.f a.1 a.2, fun a r => (.int .i64 r, []), true⟩
theorem bytealg_CompareString.dok : bytealg_CompareString.tw.DecOk := by
  intro args hc a h
  have h : bytealg_CompareString.dec args hc = some a := h
  unfold bytealg_CompareString.dec at h
  split at h
  · cases h; exact ⟨rfl, rfl⟩
  · cases h
set_option maxRecDepth 100000 in
set_option maxHeartbeats 8000000 in
theorem bytealg_CompareString.calls (a0 a1 : ByteArray) (w : World) : Calls Tryz.prog 112 #[.string a0, .string a1] w fun e w' => e = .returned (.int .i64 (Lib.compareBytes a0.data.toList a1.data.toList)) ∧ w' = w := by
  go_enter Tryz.func112, Tryz.ntmps112
  go_wp2
  rw [run_callFunc_extern Tryz.func119 (by kernel_rfl) (by kernel_rfl) (by kernel_rfl) (e := Extern.BytealgCompare.compare) (by kernel_rfl), Lib.run_compareString]
  simp only [Result.andThen]
  rw [Oper.upon_value]
  go_wp2
  go_ret
  exact ⟨rfl, rfl⟩
theorem bytealg_CompareString.ok (k : Nat) : bytealg_CompareString.tw.Ok Tryz.prog k := by
  intro md hmd a r h
  obtain rfl := Option.some.inj (show some _ = some r from h)
  refine ⟨callable_of Tryz.func112 (by kernel_rfl) (by kernel_rfl), fun w M I vs E => ?_⟩
  have e : vs = #[.string a.1, .string a.2] := two_of E.len (fun q => (E.args 0 _ _ rfl q).str_inv) (fun q => (E.args 1 _ _ rfl q).str_inv)
  subst e
  refine (bytealg_CompareString.calls a.1 a.2 w).mono fun e w' => ?_
  rintro ⟨rfl, rfl⟩
  exact ⟨_, M, rfl, (E.rel md).weaken (fun κ q => q.elim), .closed (.int _ _)⟩
def strings_Compare.f (a0 : ByteArray) (a1 : ByteArray) : Option (Int) := ((bytealg_CompareString.f a0 a1).bind fun t1 => (some t1))
def strings_Compare.en (r : Int) : Res := (.int .i64 r, [])
def strings_Compare.dec : List AV → List R.Obj → Option (ByteArray × ByteArray)
  | [.str a0, .str a1], [] => some (a0, a1)
  | _, _ => none
def strings_Compare.tw : Tw := ⟨92, ByteArray × ByteArray, Int, strings_Compare.dec, fun a => [.str a.1, .str a.2], fun a => [], fun k a => strings_Compare.f a.1 a.2, fun a r => strings_Compare.en r, true⟩
theorem strings_Compare.dok : strings_Compare.tw.DecOk := by
  intro args hc a h
  have h : strings_Compare.dec args hc = some a := h
  unfold strings_Compare.dec at h
  split at h
  · cases h; exact ⟨rfl, rfl⟩
  · cases h
noncomputable def strings_Compare.O (k : Nat) : Oracle := (bytealg_CompareString.tw.orc k noO)
def strings_Compare.fh : FH := ⟨fun i => match i with | _ => none, [], false⟩
set_option maxRecDepth 100000 in
theorem strings_Compare.ef (k : Nat) (a0 : ByteArray) (a1 : ByteArray) : R.start Tryz.prog xhn strings_Compare.O 0 Tryz.f92 strings_Compare.fh k [.str a0, .str a1] [] = ((bytealg_CompareString.f a0 a1).bind fun t1 => (some (strings_Compare.en t1))) := by kernel_rfl
theorem strings_Compare.sf (k : Nat) (a0 : ByteArray) (a1 : ByteArray) : R.start Tryz.prog xhn strings_Compare.O 0 Tryz.f92 strings_Compare.fh k [.str a0, .str a1] [] = (strings_Compare.f a0 a1).map (strings_Compare.en) := by
  rw [strings_Compare.ef]
  simp only [strings_Compare.f, R.map_ite, R.map_bind, R.map_none, R.map_some, R.wr64_eq]
theorem strings_Compare.ok (k : Nat) : strings_Compare.tw.Ok Tryz.prog k := by
  intro md hmd a r h
  refine fn_ok (H := xhn) (fh := strings_Compare.fh) (O := strings_Compare.O) (k := k) Tryz.func92 (by kernel_rfl) (by kernel_rfl) (fun j _ => (Tw.orc_sound bytealg_CompareString.dok (bytealg_CompareString.ok j) (fun _ => rfl) noO_sound)) (by kernel_rfl) (m := 0) rfl ?_
  refine (strings_Compare.sf k a.1 a.2).trans ?_
  exact congrArg (Option.map _) h
def cmp_Or_int.l0 : Nat → (List Int) → Int → Int → Option (Int)
  | 0, _, _, _ => none
  | k + 1, x6, x7, x8 => (if x8 < x7 then (if 0 ≤ x8 then (if x8 < (x6.length : Int) then (if (rdI x6 x8) = 0 then (cmp_Or_int.l0 k x6 x7 (wrap64 (x8 + 1))) else (some (rdI x6 x8))) else none) else none) else (some 0))
def cmp_Or_int.f (k : Nat) (l0 : List Int) : Option (Int) := (cmp_Or_int.l0 k l0 (l0.length : Int) 0)
def cmp_Or_int.en (r : Int) : Res := (.int .i64 r, [])
def cmp_Or_int.dec : List AV → List R.Obj → Option (List Int)
  | [.imm (.I .i64 l0)], [] => some l0
  | _, _ => none
def cmp_Or_int.tw : Tw := ⟨90, List Int, Int, cmp_Or_int.dec, fun a => [.imm (.I .i64 a)], fun a => [], fun k a => cmp_Or_int.f k a, fun a r => cmp_Or_int.en r, true⟩
theorem cmp_Or_int.dok : cmp_Or_int.tw.DecOk := by
  intro args hc a h
  have h : cmp_Or_int.dec args hc = some a := h
  unfold cmp_Or_int.dec at h
  split at h
  · cases h; exact ⟨rfl, rfl⟩
  · cases h
noncomputable def cmp_Or_int.O (k : Nat) : Oracle := noO
def cmp_Or_int.fh : FH := ⟨fun i => match i with | 3 => some [(3, 0), (6, 0), (7, 0), (8, 0)] | _ => none, [], false⟩
noncomputable def cmp_Or_int.x0 (k : Nat) (x6 : List Int) (x7 : Int) (x8 : Int) : Option Res := R.exec Tryz.prog xhn cmp_Or_int.O 0 Tryz.f90 cmp_Or_int.fh k (R.point Tryz.f90 3) ⟨[(3, .int .i64 0), (6, .imm (.I .i64 x6)), (7, .int .i64 x7), (8, .int .i64 x8)], [], 2⟩
set_option maxRecDepth 100000 in
theorem cmp_Or_int.e0 (k : Nat) (x6 : List Int) (x7 : Int) (x8 : Int) : cmp_Or_int.x0 (k + 1) x6 x7 x8 = (if x8 < x7 then (if 0 ≤ x8 then (if x8 < (x6.length : Int) then (if (rdI x6 x8) = 0 then (cmp_Or_int.x0 k x6 x7 (wr64 (x8 + 1))) else (some (cmp_Or_int.en (rdI x6 x8)))) else none) else none) else (some (cmp_Or_int.en 0))) := by kernel_rfl
set_option maxRecDepth 100000 in
theorem cmp_Or_int.ef (k : Nat) (l0 : List Int) : R.start Tryz.prog xhn cmp_Or_int.O 0 Tryz.f90 cmp_Or_int.fh k [.imm (.I .i64 l0)] [] = (cmp_Or_int.x0 k l0 (l0.length : Int) 0) := by kernel_rfl
theorem cmp_Or_int.link : ∀ k, (∀ (x6 : List Int) (x7 : Int) (x8 : Int), cmp_Or_int.x0 k x6 x7 x8 = (cmp_Or_int.l0 k x6 x7 x8).map (cmp_Or_int.en))
  | 0 => fun _ _ _ => by simp only [cmp_Or_int.l0, R.map_none]; rfl
  | k + 1 => by
    have ih0 := cmp_Or_int.link k
    · intro x6 x7 x8
      rw [cmp_Or_int.e0]
      simp only [cmp_Or_int.l0, R.map_ite, R.map_bind, R.map_none, R.map_some, R.wr64_eq, ← ih0]
theorem cmp_Or_int.sf (k : Nat) (l0 : List Int) : R.start Tryz.prog xhn cmp_Or_int.O 0 Tryz.f90 cmp_Or_int.fh k [.imm (.I .i64 l0)] [] = (cmp_Or_int.f k l0).map (cmp_Or_int.en) := by
  have ih0 := cmp_Or_int.link k
  rw [cmp_Or_int.ef]
  simp only [cmp_Or_int.f, R.map_ite, R.map_bind, R.map_none, R.map_some, R.wr64_eq, ← ih0]
theorem cmp_Or_int.ok (k : Nat) : cmp_Or_int.tw.Ok Tryz.prog k := by
  intro md hmd a r h
  refine fn_ok (H := xhn) (fh := cmp_Or_int.fh) (O := cmp_Or_int.O) (k := k) Tryz.func90 (by kernel_rfl) (by kernel_rfl) (fun j _ => noO_sound) (by kernel_rfl) (m := 0) rfl ?_
  refine (cmp_Or_int.sf k a).trans ?_
  exact congrArg (Option.map _) h
def impl_stepOrder.f (k : Nat) (a0_0 : Int) (a0_1 : ByteArray) (a0_2 : Int) (a0_3 : Int) (a1_0 : Int) (a1_1 : ByteArray) (a1_2 : Int) (a1_3 : Int) : Option (Int) := ((cmp_Compare_int.f a0_0 a1_0).bind fun t1 => ((strings_Compare.f a0_1 a1_1).bind fun t2 => ((cmp_Compare_int.f a0_2 a1_2).bind fun t3 => ((cmp_Or_int.f k ([t1, t2, t3])).bind fun t4 => (some t4)))))
def impl_stepOrder.en (r : Int) : Res := (.int .i64 r, [])
def impl_stepOrder.dec : List AV → List R.Obj → Option (Int × ByteArray × Int × Int × Int × ByteArray × Int × Int)
  | [.agg [.int .i64 a0_0, .str a0_1, .int .i64 a0_2, .int .i64 a0_3], .agg [.int .i64 a1_0, .str a1_1, .int .i64 a1_2, .int .i64 a1_3]], [] => some (a0_0, a0_1, a0_2, a0_3, a1_0, a1_1, a1_2, a1_3)
  | _, _ => none
def impl_stepOrder.tw : Tw := ⟨53, Int × ByteArray × Int × Int × Int × ByteArray × Int × Int, Int, impl_stepOrder.dec, fun a => [.agg [.int .i64 a.1, .str a.2.1, .int .i64 a.2.2.1, .int .i64 a.2.2.2.1], .agg [.int .i64 a.2.2.2.2.1, .str a.2.2.2.2.2.1, .int .i64 a.2.2.2.2.2.2.1, .int .i64 a.2.2.2.2.2.2.2]], fun a => [], fun k a => impl_stepOrder.f k a.1 a.2.1 a.2.2.1 a.2.2.2.1 a.2.2.2.2.1 a.2.2.2.2.2.1 a.2.2.2.2.2.2.1 a.2.2.2.2.2.2.2, fun a r => impl_stepOrder.en r, true⟩
theorem impl_stepOrder.dok : impl_stepOrder.tw.DecOk := by
  intro args hc a h
  have h : impl_stepOrder.dec args hc = some a := h
  unfold impl_stepOrder.dec at h
  split at h
  · cases h; exact ⟨rfl, rfl⟩
  · cases h
noncomputable def impl_stepOrder.O (k : Nat) : Oracle := (cmp_Compare_int.tw.orc k (strings_Compare.tw.orc k (cmp_Or_int.tw.orc k noO)))
def impl_stepOrder.fh : FH := ⟨fun i => match i with | _ => none, [], false⟩
set_option maxRecDepth 100000 in
theorem impl_stepOrder.ef (k : Nat) (a0_0 : Int) (a0_1 : ByteArray) (a0_2 : Int) (a0_3 : Int) (a1_0 : Int) (a1_1 : ByteArray) (a1_2 : Int) (a1_3 : Int) : R.start Tryz.prog xhn impl_stepOrder.O 0 Tryz.f53 impl_stepOrder.fh k [.agg [.int .i64 a0_0, .str a0_1, .int .i64 a0_2, .int .i64 a0_3], .agg [.int .i64 a1_0, .str a1_1, .int .i64 a1_2, .int .i64 a1_3]] [] = ((cmp_Compare_int.f a0_0 a1_0).bind fun t1 => ((strings_Compare.f a0_1 a1_1).bind fun t2 => ((cmp_Compare_int.f a0_2 a1_2).bind fun t3 => ((cmp_Or_int.f k ([t1, t2, t3])).bind fun t4 => (some (impl_stepOrder.en t4)))))) := by kernel_rfl
theorem impl_stepOrder.sf (k : Nat) (a0_0 : Int) (a0_1 : ByteArray) (a0_2 : Int) (a0_3 : Int) (a1_0 : Int) (a1_1 : ByteArray) (a1_2 : Int) (a1_3 : Int) : R.start Tryz.prog xhn impl_stepOrder.O 0 Tryz.f53 impl_stepOrder.fh k [.agg [.int .i64 a0_0, .str a0_1, .int .i64 a0_2, .int .i64 a0_3], .agg [.int .i64 a1_0, .str a1_1, .int .i64 a1_2, .int .i64 a1_3]] [] = (impl_stepOrder.f k a0_0 a0_1 a0_2 a0_3 a1_0 a1_1 a1_2 a1_3).map (impl_stepOrder.en) := by
  rw [impl_stepOrder.ef]
  simp only [impl_stepOrder.f, R.map_ite, R.map_bind, R.map_none, R.map_some, R.wr64_eq]
theorem impl_stepOrder.ok (k : Nat) : impl_stepOrder.tw.Ok Tryz.prog k := by
  intro md hmd a r h
  refine fn_ok (H := xhn) (fh := impl_stepOrder.fh) (O := impl_stepOrder.O) (k := k) Tryz.func53 (by kernel_rfl) (by kernel_rfl) (fun j _ => (Tw.orc_sound cmp_Compare_int.dok (cmp_Compare_int.ok j) (fun _ => rfl) (Tw.orc_sound strings_Compare.dok (strings_Compare.ok j) (fun _ => rfl) (Tw.orc_sound cmp_Or_int.dok (cmp_Or_int.ok j) (fun _ => rfl) noO_sound)))) (by kernel_rfl) (m := 0) rfl ?_
  refine (impl_stepOrder.sf k a.1 a.2.1 a.2.2.1 a.2.2.2.1 a.2.2.2.2.1 a.2.2.2.2.2.1 a.2.2.2.2.2.2.1 a.2.2.2.2.2.2.2).trans ?_
  exact congrArg (Option.map _) h
def impl_AutomatonValid.l0 : Nat → (List Stp) → Int → Int → Int → (List Int) → (List Int) → (List Stp) → Option (Bool)
  | 0, _, _, _, _, _, _, _ => none
  | k + 1, x36, x37, x38, y0_0, y0_1, y0_2, y0_3 => (if x38 < x37 then (if 0 ≤ x38 then (if x38 < (x36.length : Int) then (if (rdT x36 x38).f0 < 0 then (some false) else (if (rdT x36 x38).f0 ≥ y0_0 then (some false) else (if (rdT x36 x38).f2 < 0 then (some false) else (if (rdT x36 x38).f2 ≥ y0_0 then (some false) else (if (rdT x36 x38).f1.toList = ([97] : List UInt8) then (if (rdT x36 x38).f3 < 0 then (some false) else (if (rdT x36 x38).f3 > 3 then (some false) else (if x38 > 0 then (if 0 ≤ (wrap64 (x38 - 1)) then (if (wrap64 (x38 - 1)) < (y0_3.length : Int) then ((impl_stepOrder.f k ((rdT y0_3 (wrap64 (x38 - 1))).f0) ((rdT y0_3 (wrap64 (x38 - 1))).f1) ((rdT y0_3 (wrap64 (x38 - 1))).f2) ((rdT y0_3 (wrap64 (x38 - 1))).f3) ((rdT x36 x38).f0) ((rdT x36 x38).f1) ((rdT x36 x38).f2) ((rdT x36 x38).f3)).bind fun t3 => (if t3 ≥ 0 then (some false) else (impl_AutomatonValid.l0 k x36 x37 (wrap64 (x38 + 1)) y0_0 y0_1 y0_2 y0_3))) else none) else none) else (impl_AutomatonValid.l0 k x36 x37 (wrap64 (x38 + 1)) y0_0 y0_1 y0_2 y0_3)))) else (if (rdT x36 x38).f1.toList = ([98] : List UInt8) then (if (rdT x36 x38).f3 < 0 then (some false) else (if (rdT x36 x38).f3 > 3 then (some false) else (if x38 > 0 then (if 0 ≤ (wrap64 (x38 - 1)) then (if (wrap64 (x38 - 1)) < (y0_3.length : Int) then ((impl_stepOrder.f k ((rdT y0_3 (wrap64 (x38 - 1))).f0) ((rdT y0_3 (wrap64 (x38 - 1))).f1) ((rdT y0_3 (wrap64 (x38 - 1))).f2) ((rdT y0_3 (wrap64 (x38 - 1))).f3) ((rdT x36 x38).f0) ((rdT x36 x38).f1) ((rdT x36 x38).f2) ((rdT x36 x38).f3)).bind fun t4 => (if t4 ≥ 0 then (some false) else (impl_AutomatonValid.l0 k x36 x37 (wrap64 (x38 + 1)) y0_0 y0_1 y0_2 y0_3))) else none) else none) else (impl_AutomatonValid.l0 k x36 x37 (wrap64 (x38 + 1)) y0_0 y0_1 y0_2 y0_3)))) else (some false))))))) else none) else none) else (some true))
def impl_AutomatonValid.f (k : Nat) (a0_0 : Int) (l0_1 : List Int) (l0_2 : List Int) (l0_3 : List Stp) : Option (Bool) := (if a0_0 < 1 then (some false) else (if a0_0 > 4 then (some false) else (if (l0_3.length : Int) > 24 then (some false) else ((impl_statesOk.f k l0_1 a0_0).bind fun t1 => (if t1 = true then ((impl_statesOk.f k l0_2 a0_0).bind fun t2 => (if t2 = true then (impl_AutomatonValid.l0 k l0_3 (l0_3.length : Int) 0 a0_0 l0_1 l0_2 l0_3) else (some false))) else (some false))))))
def impl_AutomatonValid.en (r : Bool) : Res := (.lit r, [])
def impl_AutomatonValid.dec : List AV → List R.Obj → Option (Int × (List Int) × (List Int) × (List Stp))
  | [.agg [.int .i64 a0_0, .imm (.I .i64 l0_1), .imm (.I .i64 l0_2), .imm (.T l0_3)]], [] => some (a0_0, l0_1, l0_2, l0_3)
  | _, _ => none
def impl_AutomatonValid.tw : Tw := ⟨24, Int × (List Int) × (List Int) × (List Stp), Bool, impl_AutomatonValid.dec, fun a => [.agg [.int .i64 a.1, .imm (.I .i64 a.2.1), .imm (.I .i64 a.2.2.1), .imm (.T a.2.2.2)]], fun a => [], fun k a => impl_AutomatonValid.f k a.1 a.2.1 a.2.2.1 a.2.2.2, fun a r => impl_AutomatonValid.en r, true⟩
theorem impl_AutomatonValid.dok : impl_AutomatonValid.tw.DecOk := by
  intro args hc a h
  have h : impl_AutomatonValid.dec args hc = some a := h
  unfold impl_AutomatonValid.dec at h
  split at h
  · cases h; exact ⟨rfl, rfl⟩
  · cases h
noncomputable def impl_AutomatonValid.O (k : Nat) : Oracle := (impl_statesOk.tw.orc k (impl_stepOrder.tw.orc k noO))
def impl_AutomatonValid.fh : FH := ⟨fun i => match i with | 4 => some [(1, 0), (36, 0), (37, 0), (38, 0)] | _ => none, [], false⟩
noncomputable def impl_AutomatonValid.x0 (k : Nat) (x36 : List Stp) (x37 : Int) (x38 : Int) (y0_0 : Int) (y0_1 : List Int) (y0_2 : List Int) (y0_3 : List Stp) : Option Res := R.exec Tryz.prog xhn impl_AutomatonValid.O 0 Tryz.f24 impl_AutomatonValid.fh k (R.point Tryz.f24 4) ⟨[(1, .ptr 0 0), (36, .imm (.T x36)), (37, .int .i64 x37), (38, .int .i64 x38)], [(0, .box false [.int .i64 y0_0, .imm (.I .i64 y0_1), .imm (.I .i64 y0_2), .imm (.T y0_3)])], 3⟩
set_option maxRecDepth 100000 in
theorem impl_AutomatonValid.e0 (k : Nat) (x36 : List Stp) (x37 : Int) (x38 : Int) (y0_0 : Int) (y0_1 : List Int) (y0_2 : List Int) (y0_3 : List Stp) : impl_AutomatonValid.x0 (k + 1) x36 x37 x38 y0_0 y0_1 y0_2 y0_3 = (if x38 < x37 then (if 0 ≤ x38 then (if x38 < (x36.length : Int) then (if (rdT x36 x38).f0 < 0 then (some (impl_AutomatonValid.en false)) else (if (rdT x36 x38).f0 ≥ y0_0 then (some (impl_AutomatonValid.en false)) else (if (rdT x36 x38).f2 < 0 then (some (impl_AutomatonValid.en false)) else (if (rdT x36 x38).f2 ≥ y0_0 then (some (impl_AutomatonValid.en false)) else (if (rdT x36 x38).f1.toList = ([97] : List UInt8) then (if (rdT x36 x38).f3 < 0 then (some (impl_AutomatonValid.en false)) else (if (rdT x36 x38).f3 > 3 then (some (impl_AutomatonValid.en false)) else (if x38 > 0 then (if 0 ≤ (wr64 (x38 - 1)) then (if (wr64 (x38 - 1)) < (y0_3.length : Int) then ((impl_stepOrder.f k ((rdT y0_3 (wr64 (x38 - 1))).f0) ((rdT y0_3 (wr64 (x38 - 1))).f1) ((rdT y0_3 (wr64 (x38 - 1))).f2) ((rdT y0_3 (wr64 (x38 - 1))).f3) ((rdT x36 x38).f0) ((rdT x36 x38).f1) ((rdT x36 x38).f2) ((rdT x36 x38).f3)).bind fun t3 => (if t3 ≥ 0 then (some (impl_AutomatonValid.en false)) else (impl_AutomatonValid.x0 k x36 x37 (wr64 (x38 + 1)) y0_0 y0_1 y0_2 y0_3))) else none) else none) else (impl_AutomatonValid.x0 k x36 x37 (wr64 (x38 + 1)) y0_0 y0_1 y0_2 y0_3)))) else (if (rdT x36 x38).f1.toList = ([98] : List UInt8) then (if (rdT x36 x38).f3 < 0 then (some (impl_AutomatonValid.en false)) else (if (rdT x36 x38).f3 > 3 then (some (impl_AutomatonValid.en false)) else (if x38 > 0 then (if 0 ≤ (wr64 (x38 - 1)) then (if (wr64 (x38 - 1)) < (y0_3.length : Int) then ((impl_stepOrder.f k ((rdT y0_3 (wr64 (x38 - 1))).f0) ((rdT y0_3 (wr64 (x38 - 1))).f1) ((rdT y0_3 (wr64 (x38 - 1))).f2) ((rdT y0_3 (wr64 (x38 - 1))).f3) ((rdT x36 x38).f0) ((rdT x36 x38).f1) ((rdT x36 x38).f2) ((rdT x36 x38).f3)).bind fun t4 => (if t4 ≥ 0 then (some (impl_AutomatonValid.en false)) else (impl_AutomatonValid.x0 k x36 x37 (wr64 (x38 + 1)) y0_0 y0_1 y0_2 y0_3))) else none) else none) else (impl_AutomatonValid.x0 k x36 x37 (wr64 (x38 + 1)) y0_0 y0_1 y0_2 y0_3)))) else (some (impl_AutomatonValid.en false)))))))) else none) else none) else (some (impl_AutomatonValid.en true))) := by kernel_rfl
set_option maxRecDepth 100000 in
theorem impl_AutomatonValid.ef (k : Nat) (a0_0 : Int) (l0_1 : List Int) (l0_2 : List Int) (l0_3 : List Stp) : R.start Tryz.prog xhn impl_AutomatonValid.O 0 Tryz.f24 impl_AutomatonValid.fh k [.agg [.int .i64 a0_0, .imm (.I .i64 l0_1), .imm (.I .i64 l0_2), .imm (.T l0_3)]] [] = (if a0_0 < 1 then (some (impl_AutomatonValid.en false)) else (if a0_0 > 4 then (some (impl_AutomatonValid.en false)) else (if (l0_3.length : Int) > 24 then (some (impl_AutomatonValid.en false)) else ((impl_statesOk.f k l0_1 a0_0).bind fun t1 => (if t1 = true then ((impl_statesOk.f k l0_2 a0_0).bind fun t2 => (if t2 = true then (impl_AutomatonValid.x0 k l0_3 (l0_3.length : Int) 0 a0_0 l0_1 l0_2 l0_3) else (some (impl_AutomatonValid.en false)))) else (some (impl_AutomatonValid.en false))))))) := by kernel_rfl
theorem impl_AutomatonValid.link : ∀ k, (∀ (x36 : List Stp) (x37 : Int) (x38 : Int) (y0_0 : Int) (y0_1 : List Int) (y0_2 : List Int) (y0_3 : List Stp), impl_AutomatonValid.x0 k x36 x37 x38 y0_0 y0_1 y0_2 y0_3 = (impl_AutomatonValid.l0 k x36 x37 x38 y0_0 y0_1 y0_2 y0_3).map (impl_AutomatonValid.en))
  | 0 => fun _ _ _ _ _ _ _ => by simp only [impl_AutomatonValid.l0, R.map_none]; rfl
  | k + 1 => by
    have ih0 := impl_AutomatonValid.link k
    · intro x36 x37 x38 y0_0 y0_1 y0_2 y0_3
      rw [impl_AutomatonValid.e0]
      simp only [impl_AutomatonValid.l0, R.map_ite, R.map_bind, R.map_none, R.map_some, R.wr64_eq, ← ih0]
theorem impl_AutomatonValid.sf (k : Nat) (a0_0 : Int) (l0_1 : List Int) (l0_2 : List Int) (l0_3 : List Stp) : R.start Tryz.prog xhn impl_AutomatonValid.O 0 Tryz.f24 impl_AutomatonValid.fh k [.agg [.int .i64 a0_0, .imm (.I .i64 l0_1), .imm (.I .i64 l0_2), .imm (.T l0_3)]] [] = (impl_AutomatonValid.f k a0_0 l0_1 l0_2 l0_3).map (impl_AutomatonValid.en) := by
  have ih0 := impl_AutomatonValid.link k
  rw [impl_AutomatonValid.ef]
  simp only [impl_AutomatonValid.f, R.map_ite, R.map_bind, R.map_none, R.map_some, R.wr64_eq, ← ih0]
theorem impl_AutomatonValid.ok (k : Nat) : impl_AutomatonValid.tw.Ok Tryz.prog k := by
  intro md hmd a r h
  refine fn_ok (H := xhn) (fh := impl_AutomatonValid.fh) (O := impl_AutomatonValid.O) (k := k) Tryz.func24 (by kernel_rfl) (by kernel_rfl) (fun j _ => (Tw.orc_sound impl_statesOk.dok (impl_statesOk.ok j) (fun _ => rfl) (Tw.orc_sound impl_stepOrder.dok (impl_stepOrder.ok j) (fun _ => rfl) noO_sound))) (by kernel_rfl) (m := 0) rfl ?_
  refine (impl_AutomatonValid.sf k a.1 a.2.1 a.2.2.1 a.2.2.2).trans ?_
  exact congrArg (Option.map _) h
def stringslite_HasPrefix.f (a0 : ByteArray) (a1 : ByteArray) : Option (Bool) := (if (a0.size : Int) ≥ (a1.size : Int) then (if 0 ≤ (a1.size : Int) then (if (a1.size : Int) ≤ (a0.size : Int) then (some (decide ((a0.extract 0 (a1.size : Int).toNat).toList = a1.toList))) else none) else none) else (some false))
def stringslite_HasPrefix.en (r : Bool) : Res := (.lit r, [])
def stringslite_HasPrefix.dec : List AV → List R.Obj → Option (ByteArray × ByteArray)
  | [.str a0, .str a1], [] => some (a0, a1)
  | _, _ => none
def stringslite_HasPrefix.tw : Tw := ⟨110, ByteArray × ByteArray, Bool, stringslite_HasPrefix.dec, fun a => [.str a.1, .str a.2], fun a => [], fun k a => stringslite_HasPrefix.f a.1 a.2, fun a r => stringslite_HasPrefix.en r, true⟩
theorem stringslite_HasPrefix.dok : stringslite_HasPrefix.tw.DecOk := by
  intro args hc a h
  have h : stringslite_HasPrefix.dec args hc = some a := h
  unfold stringslite_HasPrefix.dec at h
  split at h
  · cases h; exact ⟨rfl, rfl⟩
  · cases h
noncomputable def stringslite_HasPrefix.O (k : Nat) : Oracle := noO
def stringslite_HasPrefix.fh : FH := ⟨fun i => match i with | _ => none, [], false⟩
set_option maxRecDepth 100000 in
theorem stringslite_HasPrefix.ef (k : Nat) (a0 : ByteArray) (a1 : ByteArray) : R.start Tryz.prog xhn stringslite_HasPrefix.O 0 Tryz.f110 stringslite_HasPrefix.fh k [.str a0, .str a1] [] = (if (a0.size : Int) ≥ (a1.size : Int) then (if 0 ≤ (a1.size : Int) then (if (a1.size : Int) ≤ (a0.size : Int) then (some (stringslite_HasPrefix.en (decide ((a0.extract 0 (a1.size : Int).toNat).toList = a1.toList)))) else none) else none) else (some (stringslite_HasPrefix.en false))) := by kernel_rfl
theorem stringslite_HasPrefix.sf (k : Nat) (a0 : ByteArray) (a1 : ByteArray) : R.start Tryz.prog xhn stringslite_HasPrefix.O 0 Tryz.f110 stringslite_HasPrefix.fh k [.str a0, .str a1] [] = (stringslite_HasPrefix.f a0 a1).map (stringslite_HasPrefix.en) := by
  rw [stringslite_HasPrefix.ef]
  simp only [stringslite_HasPrefix.f, R.map_ite, R.map_bind, R.map_none, R.map_some, R.wr64_eq]
theorem stringslite_HasPrefix.ok (k : Nat) : stringslite_HasPrefix.tw.Ok Tryz.prog k := by
  intro md hmd a r h
  refine fn_ok (H := xhn) (fh := stringslite_HasPrefix.fh) (O := stringslite_HasPrefix.O) (k := k) Tryz.func110 (by kernel_rfl) (by kernel_rfl) (fun j _ => noO_sound) (by kernel_rfl) (m := 0) rfl ?_
  refine (stringslite_HasPrefix.sf k a.1 a.2).trans ?_
  exact congrArg (Option.map _) h
def strings_HasPrefix.f (a0 : ByteArray) (a1 : ByteArray) : Option (Bool) := ((stringslite_HasPrefix.f a0 a1).bind fun t1 => (some t1))
def strings_HasPrefix.en (r : Bool) : Res := (.lit r, [])
def strings_HasPrefix.dec : List AV → List R.Obj → Option (ByteArray × ByteArray)
  | [.str a0, .str a1], [] => some (a0, a1)
  | _, _ => none
def strings_HasPrefix.tw : Tw := ⟨89, ByteArray × ByteArray, Bool, strings_HasPrefix.dec, fun a => [.str a.1, .str a.2], fun a => [], fun k a => strings_HasPrefix.f a.1 a.2, fun a r => strings_HasPrefix.en r, true⟩
theorem strings_HasPrefix.dok : strings_HasPrefix.tw.DecOk := by
  intro args hc a h
  have h : strings_HasPrefix.dec args hc = some a := h
  unfold strings_HasPrefix.dec at h
  split at h
  · cases h; exact ⟨rfl, rfl⟩
  · cases h
noncomputable def strings_HasPrefix.O (k : Nat) : Oracle := (stringslite_HasPrefix.tw.orc k noO)
def strings_HasPrefix.fh : FH := ⟨fun i => match i with | _ => none, [], false⟩
set_option maxRecDepth 100000 in
theorem strings_HasPrefix.ef (k : Nat) (a0 : ByteArray) (a1 : ByteArray) : R.start Tryz.prog xhn strings_HasPrefix.O 0 Tryz.f89 strings_HasPrefix.fh k [.str a0, .str a1] [] = ((stringslite_HasPrefix.f a0 a1).bind fun t1 => (some (strings_HasPrefix.en t1))) := by kernel_rfl
theorem strings_HasPrefix.sf (k : Nat) (a0 : ByteArray) (a1 : ByteArray) : R.start Tryz.prog xhn strings_HasPrefix.O 0 Tryz.f89 strings_HasPrefix.fh k [.str a0, .str a1] [] = (strings_HasPrefix.f a0 a1).map (strings_HasPrefix.en) := by
  rw [strings_HasPrefix.ef]
  simp only [strings_HasPrefix.f, R.map_ite, R.map_bind, R.map_none, R.map_some, R.wr64_eq]
theorem strings_HasPrefix.ok (k : Nat) : strings_HasPrefix.tw.Ok Tryz.prog k := by
  intro md hmd a r h
  refine fn_ok (H := xhn) (fh := strings_HasPrefix.fh) (O := strings_HasPrefix.O) (k := k) Tryz.func89 (by kernel_rfl) (by kernel_rfl) (fun j _ => (Tw.orc_sound stringslite_HasPrefix.dok (stringslite_HasPrefix.ok j) (fun _ => rfl) noO_sound)) (by kernel_rfl) (m := 0) rfl ?_
  refine (strings_HasPrefix.sf k a.1 a.2).trans ?_
  exact congrArg (Option.map _) h
mutual
def impl_readParts.l0 : Nat → ByteArray → (List Part) → Option ((List Part) × ByteArray)
  | 0, _, _ => none
  | k + 1, x0, y0 => (if x0.toList = ([] : List UInt8) then (some (y0, x0)) else (if 0 < (x0.size : Int) then (if (btI x0 0) = 97 then (if 1 ≤ (x0.size : Int) then (if y0.length < 3518437208883 then (if (x0.size : Int) ≤ (x0.size : Int) then (impl_readParts.l0 k (x0.extract 1 x0.size) (y0 ++ [(⟨(x0.extract 0 1), ([] : List Part)⟩ : Part)])) else none) else none) else none) else (if (btI x0 0) = 98 then (if 1 ≤ (x0.size : Int) then (if y0.length < 3518437208883 then (if (x0.size : Int) ≤ (x0.size : Int) then (impl_readParts.l0 k (x0.extract 1 x0.size) (y0 ++ [(⟨(x0.extract 0 1), ([] : List Part)⟩ : Part)])) else none) else none) else none) else (if (btI x0 0) = 40 then (if 1 ≤ (x0.size : Int) then (if (x0.size : Int) ≤ (x0.size : Int) then ((impl_readParts.f k (x0.extract 1 x0.size)).bind fun t3 => (if (t3.1.length : Int) > 0 then ((strings_HasPrefix.f t3.2 (⟨#[41, 35]⟩ : ByteArray)).bind fun t4 => (if t4 = true then (if y0.length < 3518437208883 then (if 2 ≤ (t3.2.size : Int) then (if (t3.2.size : Int) ≤ (t3.2.size : Int) then (impl_readParts.l0 k (t3.2.extract 2 t3.2.size) (y0 ++ [(⟨(⟨#[]⟩ : ByteArray), t3.1⟩ : Part)])) else none) else none) else none) else (some (y0, x0)))) else (some (y0, x0)))) else none) else none) else (some (y0, x0))))) else none))
def impl_readParts.f : Nat → ByteArray → Option ((List Part) × ByteArray)
  | 0, _ => none
  | k + 1, a0 => (impl_readParts.l0 k a0 ([] : List Part))
end
def impl_readParts.en (r : (List Part) × ByteArray) : Res := (.tup [.sl 0 0, .str r.2], [.arr 78 0 (.P r.1) false])
def impl_readParts.dec : List AV → List R.Obj → Option (ByteArray)
  | [.str a0], [] => some a0
  | _, _ => none
def impl_readParts.tw : Tw := ⟨51, ByteArray, (List Part) × ByteArray, impl_readParts.dec, fun a => [.str a], fun a => [], fun k a => impl_readParts.f k a, fun a r => impl_readParts.en r, true⟩
theorem impl_readParts.dok : impl_readParts.tw.DecOk := by
  intro args hc a h
  have h : impl_readParts.dec args hc = some a := h
  unfold impl_readParts.dec at h
  split at h
  · cases h; exact ⟨rfl, rfl⟩
  · cases h
noncomputable def impl_readParts.O (k : Nat) : Oracle := (strings_HasPrefix.tw.orc k (impl_readParts.tw.orc k noO))
def impl_readParts.fh : FH := ⟨fun i => match i with | 2 => some [(0, 0), (4, 0)] | _ => none, [(true, 78)], false⟩
noncomputable def impl_readParts.x0 (k : Nat) (x0 : ByteArray) (y0 : List Part) : Option Res := R.exec Tryz.prog xhn impl_readParts.O 0 Tryz.f51 impl_readParts.fh k (R.point Tryz.f51 2) ⟨[(0, .str x0), (4, .sl 0 0)], [(0, .arr 78 0 (.P y0) false)], 3⟩
set_option maxRecDepth 100000 in
theorem impl_readParts.e0 (k : Nat) (x0 : ByteArray) (y0 : List Part) : impl_readParts.x0 (k + 1) x0 y0 = (if x0.toList = ([] : List UInt8) then (some (impl_readParts.en (y0, x0))) else (if 0 < (x0.size : Int) then (if (btI x0 0) = 97 then (if 1 ≤ (x0.size : Int) then (if y0.length < 3518437208883 then (if (x0.size : Int) ≤ (x0.size : Int) then (impl_readParts.x0 k (x0.extract 1 x0.size) (y0 ++ [(⟨(x0.extract 0 1), ([] : List Part)⟩ : Part)])) else none) else none) else none) else (if (btI x0 0) = 98 then (if 1 ≤ (x0.size : Int) then (if y0.length < 3518437208883 then (if (x0.size : Int) ≤ (x0.size : Int) then (impl_readParts.x0 k (x0.extract 1 x0.size) (y0 ++ [(⟨(x0.extract 0 1), ([] : List Part)⟩ : Part)])) else none) else none) else none) else (if (btI x0 0) = 40 then (if 1 ≤ (x0.size : Int) then (if (x0.size : Int) ≤ (x0.size : Int) then ((impl_readParts.f k (x0.extract 1 x0.size)).bind fun t3 => (if (t3.1.length : Int) > 0 then ((strings_HasPrefix.f t3.2 (⟨#[41, 35]⟩ : ByteArray)).bind fun t4 => (if t4 = true then (if y0.length < 3518437208883 then (if 2 ≤ (t3.2.size : Int) then (if (t3.2.size : Int) ≤ (t3.2.size : Int) then (impl_readParts.x0 k (t3.2.extract 2 t3.2.size) (y0 ++ [(⟨(⟨#[]⟩ : ByteArray), t3.1⟩ : Part)])) else none) else none) else none) else (some (impl_readParts.en (y0, x0))))) else (some (impl_readParts.en (y0, x0))))) else none) else none) else (some (impl_readParts.en (y0, x0)))))) else none)) := by
  refine Eq.trans ?_ (R.icong (fun h0 => rfl) (fun h0 => (R.icong (fun h1 => (R.icong (fun h2 => (R.idropT (p := (btI x0 0) = 97) (z := (if (btI x0 0) = 40 then (if 1 ≤ (x0.size : Int) then (if (x0.size : Int) ≤ (x0.size : Int) then ((impl_readParts.f k (x0.extract 1 x0.size)).bind fun t1 => (if (t1.1.length : Int) > 0 then ((strings_HasPrefix.f t1.2 (⟨#[41, 35]⟩ : ByteArray)).bind fun t2 => (if t2 = true then (if y0.length < 3518437208883 then (if 2 ≤ (t1.2.size : Int) then (if (t1.2.size : Int) ≤ (t1.2.size : Int) then (impl_readParts.x0 k (t1.2.extract 2 t1.2.size) (y0 ++ [(⟨(⟨#[]⟩ : ByteArray), t1.1⟩ : Part)])) else none) else none) else none) else (some (impl_readParts.en (y0, x0))))) else (some (impl_readParts.en (y0, x0))))) else none) else none) else (some (impl_readParts.en (y0, x0))))) h2 (R.icong (fun h3 => (R.icong (fun h4 => (R.idropT (p := 1 ≤ (x0.size : Int)) (z := none) h3 rfl)) (fun h4 => rfl))) (fun h3 => rfl)))) (fun h2 => (R.icong (fun h3 => (R.icong (fun h4 => (R.icong (fun h5 => (R.idropT (p := 1 ≤ (x0.size : Int)) (z := none) h4 rfl)) (fun h5 => rfl))) (fun h4 => rfl))) (fun h3 => rfl))))) (fun h1 => rfl))))
  kernel_rfl
set_option maxRecDepth 100000 in
theorem impl_readParts.ef (k : Nat) (a0 : ByteArray) : R.start Tryz.prog xhn impl_readParts.O 0 Tryz.f51 impl_readParts.fh k [.str a0] [] = (impl_readParts.x0 k a0 ([] : List Part)) := by kernel_rfl
theorem impl_readParts.link : ∀ k, (∀ (x0 : ByteArray) (y0 : List Part), impl_readParts.x0 k x0 y0 = (impl_readParts.l0 k x0 y0).map (impl_readParts.en))
  | 0 => fun _ _ => by simp only [impl_readParts.l0, R.map_none]; rfl
  | k + 1 => by
    have ih0 := impl_readParts.link k
    · intro x0 y0
      rw [impl_readParts.e0]
      simp only [impl_readParts.l0, R.map_ite, R.map_bind, R.map_none, R.map_some, R.wr64_eq, ← ih0]
theorem impl_readParts.sf (k : Nat) (a0 : ByteArray) : R.start Tryz.prog xhn impl_readParts.O 0 Tryz.f51 impl_readParts.fh k [.str a0] [] = (impl_readParts.f (k + 1) a0).map (impl_readParts.en) := by
  have ih0 := impl_readParts.link k
  rw [impl_readParts.ef]
  simp only [impl_readParts.f, R.map_ite, R.map_bind, R.map_none, R.map_some, R.wr64_eq, ← ih0]
theorem impl_readParts.ok : ∀ k, impl_readParts.tw.Ok Tryz.prog k := by
  intro k
  induction k using Nat.strongRecOn with
  | ind k ih =>
    cases k with
    | zero =>
      intro md hmd a r h
      have h : impl_readParts.f 0 a = some r := h
      simp only [impl_readParts.f] at h
      cases h
    | succ k =>
      intro md hmd a r h
      refine fn_ok (H := xhn) (fh := impl_readParts.fh) (O := impl_readParts.O) (k := k) Tryz.func51 (by kernel_rfl) (by kernel_rfl) (fun j hj => (Tw.orc_sound strings_HasPrefix.dok (strings_HasPrefix.ok j) (fun _ => rfl) (Tw.orc_sound impl_readParts.dok (ih j (by omega)) (fun _ => rfl) noO_sound))) (by kernel_rfl) (m := 0) rfl ?_
      refine (impl_readParts.sf k a).trans ?_
      exact congrArg (Option.map _) h
def impl_parts.f (k : Nat) (a0 : ByteArray) : Option ((List Part) × Bool) := (if (a0.size : Int) > 120 then (some (([] : List Part), false)) else ((impl_readParts.f k a0).bind fun t1 => (if (t1.1.length : Int) > 0 then (some (t1.1, (decide (t1.2.toList = ([] : List UInt8))))) else (some (t1.1, false)))))
def impl_parts.en (r : (List Part) × Bool) : Res := (.tup [.sl 0 0, .lit r.2], [.arr 78 0 (.P r.1) false])
def impl_parts.dec : List AV → List R.Obj → Option (ByteArray)
  | [.str a0], [] => some a0
  | _, _ => none
def impl_parts.tw : Tw := ⟨23, ByteArray, (List Part) × Bool, impl_parts.dec, fun a => [.str a], fun a => [], fun k a => impl_parts.f k a, fun a r => impl_parts.en r, true⟩
theorem impl_parts.dok : impl_parts.tw.DecOk := by
  intro args hc a h
  have h : impl_parts.dec args hc = some a := h
  unfold impl_parts.dec at h
  split at h
  · cases h; exact ⟨rfl, rfl⟩
  · cases h
noncomputable def impl_parts.O (k : Nat) : Oracle := (impl_readParts.tw.orc k noO)
def impl_parts.fh : FH := ⟨fun i => match i with | _ => none, [(true, 78)], false⟩
set_option maxRecDepth 100000 in
theorem impl_parts.ef (k : Nat) (a0 : ByteArray) : R.start Tryz.prog xhn impl_parts.O 0 Tryz.f23 impl_parts.fh k [.str a0] [] = (if (a0.size : Int) > 120 then (some (impl_parts.en (([] : List Part), false))) else ((impl_readParts.f k a0).bind fun t1 => (if (t1.1.length : Int) > 0 then (some (impl_parts.en (t1.1, (decide (t1.2.toList = ([] : List UInt8)))))) else (some (impl_parts.en (t1.1, false)))))) := by kernel_rfl
theorem impl_parts.sf (k : Nat) (a0 : ByteArray) : R.start Tryz.prog xhn impl_parts.O 0 Tryz.f23 impl_parts.fh k [.str a0] [] = (impl_parts.f k a0).map (impl_parts.en) := by
  rw [impl_parts.ef]
  simp only [impl_parts.f, R.map_ite, R.map_bind, R.map_none, R.map_some, R.wr64_eq]
theorem impl_parts.ok (k : Nat) : impl_parts.tw.Ok Tryz.prog k := by
  intro md hmd a r h
  refine fn_ok (H := xhn) (fh := impl_parts.fh) (O := impl_parts.O) (k := k) Tryz.func23 (by kernel_rfl) (by kernel_rfl) (fun j _ => (Tw.orc_sound impl_readParts.dok (impl_readParts.ok j) (fun _ => rfl) noO_sound)) (by kernel_rfl) (m := 0) rfl ?_
  refine (impl_parts.sf k a).trans ?_
  exact congrArg (Option.map _) h
def impl_ExpressionValid.f (k : Nat) (a0 : ByteArray) : Option (Bool) := ((impl_parts.f k a0).bind fun t1 => (some t1.2))
def impl_ExpressionValid.en (r : Bool) : Res := (.lit r, [])
def impl_ExpressionValid.dec : List AV → List R.Obj → Option (ByteArray)
  | [.str a0], [] => some a0
  | _, _ => none
def impl_ExpressionValid.tw : Tw := ⟨40, ByteArray, Bool, impl_ExpressionValid.dec, fun a => [.str a], fun a => [], fun k a => impl_ExpressionValid.f k a, fun a r => impl_ExpressionValid.en r, true⟩
theorem impl_ExpressionValid.dok : impl_ExpressionValid.tw.DecOk := by
  intro args hc a h
  have h : impl_ExpressionValid.dec args hc = some a := h
  unfold impl_ExpressionValid.dec at h
  split at h
  · cases h; exact ⟨rfl, rfl⟩
  · cases h
noncomputable def impl_ExpressionValid.O (k : Nat) : Oracle := (impl_parts.tw.orc k noO)
def impl_ExpressionValid.fh : FH := ⟨fun i => match i with | _ => none, [], false⟩
set_option maxRecDepth 100000 in
theorem impl_ExpressionValid.ef (k : Nat) (a0 : ByteArray) : R.start Tryz.prog xhn impl_ExpressionValid.O 0 Tryz.f40 impl_ExpressionValid.fh k [.str a0] [] = ((impl_parts.f k a0).bind fun t1 => (some (impl_ExpressionValid.en t1.2))) := by kernel_rfl
theorem impl_ExpressionValid.sf (k : Nat) (a0 : ByteArray) : R.start Tryz.prog xhn impl_ExpressionValid.O 0 Tryz.f40 impl_ExpressionValid.fh k [.str a0] [] = (impl_ExpressionValid.f k a0).map (impl_ExpressionValid.en) := by
  rw [impl_ExpressionValid.ef]
  simp only [impl_ExpressionValid.f, R.map_ite, R.map_bind, R.map_none, R.map_some, R.wr64_eq]
theorem impl_ExpressionValid.ok (k : Nat) : impl_ExpressionValid.tw.Ok Tryz.prog k := by
  intro md hmd a r h
  refine fn_ok (H := xhn) (fh := impl_ExpressionValid.fh) (O := impl_ExpressionValid.O) (k := k) Tryz.func40 (by kernel_rfl) (by kernel_rfl) (fun j _ => (Tw.orc_sound impl_parts.dok (impl_parts.ok j) (fun _ => rfl) noO_sound)) (by kernel_rfl) (m := 0) rfl ?_
  refine (impl_ExpressionValid.sf k a).trans ?_
  exact congrArg (Option.map _) h
def strings_Repeat.f (a0 : ByteArray) (a1 : Int) : Option (ByteArray) := if 0 ≤ a1 ∧ a1 ≤ 9223372036854775807 ∧ a0.size * a1.toNat ≤ 140737488355328 then some ⟨(Lib.repeatL a0.data.toList a1.toNat).toArray⟩ else none
def strings_Repeat.dec : List AV → List R.Obj → Option (ByteArray × Int)
  | [.str a0, .int .i64 a1], [] => some (a0, a1)
  | _, _ => none
def strings_Repeat.tw : Tw := ⟨68, ByteArray × Int, ByteArray, strings_Repeat.dec, fun a => [.str a.1, .int .i64 a.2], fun a => [], fun k a => strings_Repeat.f a.1 a.2, fun a r => (.str r, []), false⟩
theorem strings_Repeat.dok : strings_Repeat.tw.DecOk := by
  intro args hc a h
  have h : strings_Repeat.dec args hc = some a := h
  unfold strings_Repeat.dec at h
  split at h
  · cases h; exact ⟨rfl, rfl⟩
  · cases h
theorem strings_Repeat.ok (k : Nat) : strings_Repeat.tw.Ok Tryz.prog k := by
  intro md hmd a r h
  have h : strings_Repeat.f a.1 a.2 = some r := h
  refine ⟨callable_of Tryz.func68 (by kernel_rfl) (by kernel_rfl), fun w M I vs E => ?_⟩
  have e : vs = #[.string a.1, .int .i64 a.2] := two_of E.len (fun q => (E.args 0 _ _ rfl q).str_inv) (fun q => (E.args 1 _ _ rfl q).int_inv)
  subst e
  unfold strings_Repeat.f at h
  by_cases g : 0 ≤ a.2 ∧ a.2 ≤ 9223372036854775807 ∧ a.1.size * a.2.toNat ≤ 140737488355328
  · rw [if_pos g] at h
    obtain rfl := Option.some.inj h
    have e : a.2 = (a.2.toNat : Int) := by omega
    have c := Tryz.strings_Repeat a.1 a.2.toNat w (by omega) g.2.2
    rw [← e] at c
    refine c.mono fun e w' => ?_
    rintro ⟨rfl, hB⟩
    exact ext_pure (.str _) hB (fun q => Bool.noConfusion (show false = true from hmd q))
  · rw [if_neg g] at h
    cases h
end Go.Proofs.YtfgoojnblomonaaGreat.V
end
