import Derived.Test.YthnjbjihphbcpaaGreatQFnWordMatrix2
import Derived.Test.YthnjbjihphbcpaaGreatQFnWordMatrix4
import Derived.Test.YthnjbjihphbcpaaGreatProg
import Derived.WalkKit
import Derived.ProofKit
import Derived.Lib.Bytealg
section
set_option linter.unusedVariables false
set_option linter.unusedSimpArgs false
namespace Go.Proofs.YthnjbjihphbcpaaGreat.V
open Go Go.Proofs.YthnjbjihphbcpaaGreat.R Go.RowKit
def xhn : R.Hints := ⟨fun e => match e with | 3 => some (.I .i64) | 5 => some (.I .u8) | 9 => some .S | 23 => some .L | 77 => some .T | _ => none, fun f => match f with | 33 => 1 | 45 => 2 | 60 => 1 | 69 => 1 | 70 => 1 | 82 => 1 | 106 => 2 | 107 => 2 | 108 => 1 | 109 => 1 | 110 => 1 | 111 => 1 | 133 => 1 | _ => 0⟩
def spec_l13Open.f (l0 : List Int) : Option ((List Int) × Int) := (if (l0.length : Int) > 2000 then (if 2000 ≤ (l0.length : Int) then (some (((l0.drop 0).take (2000 - 0)), 0)) else none) else (some (l0, 0)))
def spec_l13Open.en (r : (List Int) × Int) : Res := (.ptr 0 0, [.box false [.imm (.I .u8 r.1), .int .i64 r.2]])
def spec_l13Open.dec : List AV → List R.Obj → Option (List Int)
  | [.imm (.I .u8 l0)], [] => some l0
  | _, _ => none
def spec_l13Open.tw : Tw := ⟨34, List Int, (List Int) × Int, spec_l13Open.dec, fun a => [.imm (.I .u8 a)], fun a => [], fun k a => spec_l13Open.f a, fun a r => spec_l13Open.en r, true⟩
theorem spec_l13Open.dok : spec_l13Open.tw.DecOk := by
  intro args hc a h
  have h : spec_l13Open.dec args hc = some a := h
  unfold spec_l13Open.dec at h
  split at h
  · cases h; exact ⟨rfl, rfl⟩
  · cases h
noncomputable def spec_l13Open.O (k : Nat) : Oracle := noO
def spec_l13Open.fh : FH := ⟨fun i => match i with | _ => none, [], false⟩
set_option maxRecDepth 100000 in
theorem spec_l13Open.ef (k : Nat) (l0 : List Int) : R.start Tryz.prog xhn spec_l13Open.O 0 Tryz.f34 spec_l13Open.fh k [.imm (.I .u8 l0)] [] = (if (l0.length : Int) > 2000 then (if 2000 ≤ (l0.length : Int) then (some (spec_l13Open.en (((l0.drop 0).take (2000 - 0)), 0))) else none) else (some (spec_l13Open.en (l0, 0)))) := by kernel_rfl
theorem spec_l13Open.sf (k : Nat) (l0 : List Int) : R.start Tryz.prog xhn spec_l13Open.O 0 Tryz.f34 spec_l13Open.fh k [.imm (.I .u8 l0)] [] = (spec_l13Open.f l0).map (spec_l13Open.en) := by
  rw [spec_l13Open.ef]
  simp only [spec_l13Open.f, R.map_ite, R.map_bind, R.map_none, R.map_some, R.wr64_eq]
theorem spec_l13Open.ok (k : Nat) : spec_l13Open.tw.Ok Tryz.prog k := by
  intro md hmd a r h
  refine fn_ok (H := xhn) (fh := spec_l13Open.fh) (O := spec_l13Open.O) (k := k) Tryz.func34 (by kernel_rfl) (by kernel_rfl) (fun j _ => noO_sound) (by kernel_rfl) (m := 0) rfl ?_
  refine (spec_l13Open.sf k a).trans ?_
  exact congrArg (Option.map _) h
def spec_l13Rd_pick.f (a1 : Int) (l2_0 : List Int) (a2_1 : Int) : Option (Int × (List Int) × Int) := (if a1 < 1 then (some (0, l2_0, (wrap64 (a2_1 + 1)))) else (if (l2_0.length : Int) = 0 then (some (0, l2_0, (wrap64 (a2_1 + 1)))) else (if (wrap64 ((wrap64 (a2_1 + 1)) - 1)) < (l2_0.length : Int) then (if 0 ≤ (wrap64 ((wrap64 (a2_1 + 1)) - 1)) then (if a1 = 0 then none else (some (((wrap64 ((rdI l2_0 (wrap64 ((wrap64 (a2_1 + 1)) - 1))))).tmod a1), l2_0, (wrap64 (a2_1 + 1))))) else none) else (if 0 ≤ ((wrap64 ((wrap64 (a2_1 + 1)) - 1)).tmod (l2_0.length : Int)) then (if ((wrap64 ((wrap64 (a2_1 + 1)) - 1)).tmod (l2_0.length : Int)) < (l2_0.length : Int) then (if 0 ≤ ((wrap64 ((wrap64 ((wrap64 ((wrap64 (a2_1 + 1)) - 1)) * 7)) + 3)).tmod (l2_0.length : Int)) then (if ((wrap64 ((wrap64 ((wrap64 ((wrap64 (a2_1 + 1)) - 1)) * 7)) + 3)).tmod (l2_0.length : Int)) < (l2_0.length : Int) then (if a1 = 0 then none else (some (((xorK .i64 (wrap64 ((wrap64 ((wrap64 ((wrap64 ((wrap64 ((rdI l2_0 ((wrap64 ((wrap64 (a2_1 + 1)) - 1)).tmod (l2_0.length : Int))))) * 131)) + (wrap64 ((wrap64 ((rdI l2_0 ((wrap64 ((wrap64 ((wrap64 ((wrap64 (a2_1 + 1)) - 1)) * 7)) + 3)).tmod (l2_0.length : Int))))) * 1117)))) + (wrap64 ((wrap64 ((wrap64 (a2_1 + 1)) - 1)) * 29)))) + (wrap64 ((wrap64 ((wrap64 ((wrap64 (a2_1 + 1)) - 1)).tdiv (l2_0.length : Int))) * 53)))) (wrap64 ((wrap64 ((wrap64 ((wrap64 ((wrap64 ((wrap64 ((rdI l2_0 ((wrap64 ((wrap64 (a2_1 + 1)) - 1)).tmod (l2_0.length : Int))))) * 131)) + (wrap64 ((wrap64 ((rdI l2_0 ((wrap64 ((wrap64 ((wrap64 ((wrap64 (a2_1 + 1)) - 1)) * 7)) + 3)).tmod (l2_0.length : Int))))) * 1117)))) + (wrap64 ((wrap64 ((wrap64 (a2_1 + 1)) - 1)) * 29)))) + (wrap64 ((wrap64 ((wrap64 ((wrap64 (a2_1 + 1)) - 1)).tdiv (l2_0.length : Int))) * 53)))).tdiv 64))).tmod a1), l2_0, (wrap64 (a2_1 + 1))))) else none) else none) else none) else none))))
def spec_l13Rd_pick.en (r : Int × (List Int) × Int) : Res := (.int .i64 r.1, [.box false [.imm (.I .u8 r.2.1), .int .i64 r.2.2]])
def spec_l13Rd_pick.dec : List AV → List R.Obj → Option (Int × (List Int) × Int)
  | [.ptr 0 0, .int .i64 a1], [.box false [.imm (.I .u8 l2_0), .int .i64 a2_1]] => some (a1, l2_0, a2_1)
  | _, _ => none
def spec_l13Rd_pick.tw : Tw := ⟨82, Int × (List Int) × Int, Int × (List Int) × Int, spec_l13Rd_pick.dec, fun a => [.ptr 0 0, .int .i64 a.1], fun a => [.box false [.imm (.I .u8 a.2.1), .int .i64 a.2.2]], fun k a => spec_l13Rd_pick.f a.1 a.2.1 a.2.2, fun a r => spec_l13Rd_pick.en r, true⟩
theorem spec_l13Rd_pick.dok : spec_l13Rd_pick.tw.DecOk := by
  intro args hc a h
  have h : spec_l13Rd_pick.dec args hc = some a := h
  unfold spec_l13Rd_pick.dec at h
  split at h
  · cases h; exact ⟨rfl, rfl⟩
  · cases h
noncomputable def spec_l13Rd_pick.O (k : Nat) : Oracle := noO
def spec_l13Rd_pick.fh : FH := ⟨fun i => match i with | _ => none, [], false⟩
set_option maxRecDepth 100000 in
theorem spec_l13Rd_pick.ef (k : Nat) (a1 : Int) (l2_0 : List Int) (a2_1 : Int) : R.start Tryz.prog xhn spec_l13Rd_pick.O 1 Tryz.f82 spec_l13Rd_pick.fh k [.ptr 0 0, .int .i64 a1] [.box false [.imm (.I .u8 l2_0), .int .i64 a2_1]] = (if a1 < 1 then (some (spec_l13Rd_pick.en (0, l2_0, (wr64 (a2_1 + 1))))) else (if (l2_0.length : Int) = 0 then (some (spec_l13Rd_pick.en (0, l2_0, (wr64 (a2_1 + 1))))) else (if (wr64 ((wr64 (a2_1 + 1)) - 1)) < (l2_0.length : Int) then (if 0 ≤ (wr64 ((wr64 (a2_1 + 1)) - 1)) then (if a1 = 0 then none else (some (spec_l13Rd_pick.en (((wr64 ((rdI l2_0 (wr64 ((wr64 (a2_1 + 1)) - 1))))).tmod a1), l2_0, (wr64 (a2_1 + 1)))))) else none) else (if 0 ≤ ((wr64 ((wr64 (a2_1 + 1)) - 1)).tmod (l2_0.length : Int)) then (if ((wr64 ((wr64 (a2_1 + 1)) - 1)).tmod (l2_0.length : Int)) < (l2_0.length : Int) then (if 0 ≤ ((wr64 ((wr64 ((wr64 ((wr64 (a2_1 + 1)) - 1)) * 7)) + 3)).tmod (l2_0.length : Int)) then (if ((wr64 ((wr64 ((wr64 ((wr64 (a2_1 + 1)) - 1)) * 7)) + 3)).tmod (l2_0.length : Int)) < (l2_0.length : Int) then (if a1 = 0 then none else (some (spec_l13Rd_pick.en (((xorK .i64 (wr64 ((wr64 ((wr64 ((wr64 ((wr64 ((rdI l2_0 ((wr64 ((wr64 (a2_1 + 1)) - 1)).tmod (l2_0.length : Int))))) * 131)) + (wr64 ((wr64 ((rdI l2_0 ((wr64 ((wr64 ((wr64 ((wr64 (a2_1 + 1)) - 1)) * 7)) + 3)).tmod (l2_0.length : Int))))) * 1117)))) + (wr64 ((wr64 ((wr64 (a2_1 + 1)) - 1)) * 29)))) + (wr64 ((wr64 ((wr64 ((wr64 (a2_1 + 1)) - 1)).tdiv (l2_0.length : Int))) * 53)))) (wr64 ((wr64 ((wr64 ((wr64 ((wr64 ((wr64 ((rdI l2_0 ((wr64 ((wr64 (a2_1 + 1)) - 1)).tmod (l2_0.length : Int))))) * 131)) + (wr64 ((wr64 ((rdI l2_0 ((wr64 ((wr64 ((wr64 ((wr64 (a2_1 + 1)) - 1)) * 7)) + 3)).tmod (l2_0.length : Int))))) * 1117)))) + (wr64 ((wr64 ((wr64 (a2_1 + 1)) - 1)) * 29)))) + (wr64 ((wr64 ((wr64 ((wr64 (a2_1 + 1)) - 1)).tdiv (l2_0.length : Int))) * 53)))).tdiv 64))).tmod a1), l2_0, (wr64 (a2_1 + 1)))))) else none) else none) else none) else none)))) := by
  refine Eq.trans ?_ (R.icong (fun h0 => rfl) (fun h0 => (R.icong (fun h1 => rfl) (fun h1 => (R.icong (fun h2 => (R.icong (fun h3 => (R.idropT (p := (wr64 ((wr64 (a2_1 + 1)) - 1)) < (l2_0.length : Int)) (z := none) h2 rfl)) (fun h3 => rfl))) (fun h2 => (R.idropF (p := (l2_0.length : Int) = 0) (z := none) h1 (R.icong (fun h3 => (R.icong (fun h4 => (R.idropF (p := (l2_0.length : Int) = 0) (z := none) h1 (R.icong (fun h5 => (R.icong (fun h6 => (R.idropF (p := (l2_0.length : Int) = 0) (z := none) h1 rfl)) (fun h6 => rfl))) (fun h5 => rfl)))) (fun h4 => rfl))) (fun h3 => rfl)))))))))
  kernel_rfl
theorem spec_l13Rd_pick.sf (k : Nat) (a1 : Int) (l2_0 : List Int) (a2_1 : Int) : R.start Tryz.prog xhn spec_l13Rd_pick.O 1 Tryz.f82 spec_l13Rd_pick.fh k [.ptr 0 0, .int .i64 a1] [.box false [.imm (.I .u8 l2_0), .int .i64 a2_1]] = (spec_l13Rd_pick.f a1 l2_0 a2_1).map (spec_l13Rd_pick.en) := by
  rw [spec_l13Rd_pick.ef]
  simp only [spec_l13Rd_pick.f, R.map_ite, R.map_bind, R.map_none, R.map_some, R.wr64_eq]
theorem spec_l13Rd_pick.ok (k : Nat) : spec_l13Rd_pick.tw.Ok Tryz.prog k := by
  intro md hmd a r h
  refine fn_ok (H := xhn) (fh := spec_l13Rd_pick.fh) (O := spec_l13Rd_pick.O) (k := k) Tryz.func82 (by kernel_rfl) (by kernel_rfl) (fun j _ => noO_sound) (by kernel_rfl) (m := 1) rfl ?_
  refine (spec_l13Rd_pick.sf k a.1 a.2.1 a.2.2).trans ?_
  exact congrArg (Option.map _) h
def spec_l13Cut.l0 : Nat → ByteArray → Int → (List ByteArray) → Int → Int → Option (List ByteArray)
  | 0, _, _, _, _, _ => none
  | k + 1, x0, x1, y0, x6, x7 => (if x7 ≤ (x0.size : Int) then (if x7 = (x0.size : Int) then (if 0 ≤ x6 then (if x6 ≤ x7 then (if y0.length < 8796093022208 then (spec_l13Cut.l0 k x0 x1 (y0 ++ [(x0.extract x6.toNat x7.toNat)]) (wrap64 (x7 + 1)) (wrap64 (x7 + 1))) else none) else none) else none) else (if 0 ≤ x7 then (if x7 < (x0.size : Int) then (if (btI x0 x7) = x1 then (if 0 ≤ x6 then (if x6 ≤ x7 then (if y0.length < 8796093022208 then (spec_l13Cut.l0 k x0 x1 (y0 ++ [(x0.extract x6.toNat x7.toNat)]) (wrap64 (x7 + 1)) (wrap64 (x7 + 1))) else none) else none) else none) else (spec_l13Cut.l0 k x0 x1 y0 x6 (wrap64 (x7 + 1)))) else none) else none)) else (some y0))
def spec_l13Cut.f (k : Nat) (a0 : ByteArray) (a1 : Int) : Option (List ByteArray) := (spec_l13Cut.l0 k a0 a1 ([] : List ByteArray) 0 0)
def spec_l13Cut.en (r : List ByteArray) : Res := (.sl 0 0, [.arr 9 0 (.S r) false])
def spec_l13Cut.dec : List AV → List R.Obj → Option (ByteArray × Int)
  | [.str a0, .int .u8 a1], [] => some (a0, a1)
  | _, _ => none
def spec_l13Cut.tw : Tw := ⟨175, ByteArray × Int, List ByteArray, spec_l13Cut.dec, fun a => [.str a.1, .int .u8 a.2], fun a => [], fun k a => spec_l13Cut.f k a.1 a.2, fun a r => spec_l13Cut.en r, true⟩
theorem spec_l13Cut.dok : spec_l13Cut.tw.DecOk := by
  intro args hc a h
  have h : spec_l13Cut.dec args hc = some a := h
  unfold spec_l13Cut.dec at h
  split at h
  · cases h; exact ⟨rfl, rfl⟩
  · cases h
noncomputable def spec_l13Cut.O (k : Nat) : Oracle := noO
def spec_l13Cut.fh : FH := ⟨fun i => match i with | 4 => some [(0, 0), (1, 0), (5, 0), (6, 0), (7, 0)] | _ => none, [(true, 9)], false⟩
noncomputable def spec_l13Cut.x0 (k : Nat) (x0 : ByteArray) (x1 : Int) (y0 : List ByteArray) (x6 : Int) (x7 : Int) : Option Res := R.exec Tryz.prog xhn spec_l13Cut.O 0 Tryz.f175 spec_l13Cut.fh k (R.point Tryz.f175 4) ⟨[(0, .str x0), (1, .int .u8 x1), (5, .sl 0 0), (6, .int .i64 x6), (7, .int .i64 x7)], [(0, .arr 9 0 (.S y0) false)], 3⟩
set_option maxRecDepth 100000 in
theorem spec_l13Cut.e0 (k : Nat) (x0 : ByteArray) (x1 : Int) (y0 : List ByteArray) (x6 : Int) (x7 : Int) : spec_l13Cut.x0 (k + 1) x0 x1 y0 x6 x7 = (if x7 ≤ (x0.size : Int) then (if x7 = (x0.size : Int) then (if 0 ≤ x6 then (if x6 ≤ x7 then (if y0.length < 8796093022208 then (spec_l13Cut.x0 k x0 x1 (y0 ++ [(x0.extract x6.toNat x7.toNat)]) (wr64 (x7 + 1)) (wr64 (x7 + 1))) else none) else none) else none) else (if 0 ≤ x7 then (if x7 < (x0.size : Int) then (if (btI x0 x7) = x1 then (if 0 ≤ x6 then (if x6 ≤ x7 then (if y0.length < 8796093022208 then (spec_l13Cut.x0 k x0 x1 (y0 ++ [(x0.extract x6.toNat x7.toNat)]) (wr64 (x7 + 1)) (wr64 (x7 + 1))) else none) else none) else none) else (spec_l13Cut.x0 k x0 x1 y0 x6 (wr64 (x7 + 1)))) else none) else none)) else (some (spec_l13Cut.en y0))) := by
  refine Eq.trans ?_ (R.icong (fun h0 => (R.icong (fun h1 => (R.icong (fun h2 => (R.icong (fun h3 => (R.idropT (p := x7 ≤ (x0.size : Int)) (z := none) h0 rfl)) (fun h3 => rfl))) (fun h2 => rfl))) (fun h1 => (R.icong (fun h2 => (R.icong (fun h3 => (R.icong (fun h4 => (R.icong (fun h5 => (R.icong (fun h6 => (R.idropT (p := x7 ≤ (x0.size : Int)) (z := none) h0 rfl)) (fun h6 => rfl))) (fun h5 => rfl))) (fun h4 => rfl))) (fun h3 => rfl))) (fun h2 => rfl))))) (fun h0 => rfl))
  kernel_rfl
set_option maxRecDepth 100000 in
theorem spec_l13Cut.ef (k : Nat) (a0 : ByteArray) (a1 : Int) : R.start Tryz.prog xhn spec_l13Cut.O 0 Tryz.f175 spec_l13Cut.fh k [.str a0, .int .u8 a1] [] = (spec_l13Cut.x0 k a0 a1 ([] : List ByteArray) 0 0) := by kernel_rfl
theorem spec_l13Cut.link : ∀ k, (∀ (x0 : ByteArray) (x1 : Int) (y0 : List ByteArray) (x6 : Int) (x7 : Int), spec_l13Cut.x0 k x0 x1 y0 x6 x7 = (spec_l13Cut.l0 k x0 x1 y0 x6 x7).map (spec_l13Cut.en))
  | 0 => fun _ _ _ _ _ => by simp only [spec_l13Cut.l0, R.map_none]; rfl
  | k + 1 => by
    have ih0 := spec_l13Cut.link k
    · intro x0 x1 y0 x6 x7
      rw [spec_l13Cut.e0]
      simp only [spec_l13Cut.l0, R.map_ite, R.map_bind, R.map_none, R.map_some, R.wr64_eq, ← ih0]
theorem spec_l13Cut.sf (k : Nat) (a0 : ByteArray) (a1 : Int) : R.start Tryz.prog xhn spec_l13Cut.O 0 Tryz.f175 spec_l13Cut.fh k [.str a0, .int .u8 a1] [] = (spec_l13Cut.f k a0 a1).map (spec_l13Cut.en) := by
  have ih0 := spec_l13Cut.link k
  rw [spec_l13Cut.ef]
  simp only [spec_l13Cut.f, R.map_ite, R.map_bind, R.map_none, R.map_some, R.wr64_eq, ← ih0]
theorem spec_l13Cut.ok (k : Nat) : spec_l13Cut.tw.Ok Tryz.prog k := by
  intro md hmd a r h
  refine fn_ok (H := xhn) (fh := spec_l13Cut.fh) (O := spec_l13Cut.O) (k := k) Tryz.func175 (by kernel_rfl) (by kernel_rfl) (fun j _ => noO_sound) (by kernel_rfl) (m := 0) rfl ?_
  refine (spec_l13Cut.sf k a.1 a.2).trans ?_
  exact congrArg (Option.map _) h
def spec_l13Num.l0 : Nat → ByteArray → Bool → Int → Int → Option (Int × Bool)
  | 0, _, _, _, _ => none
  | k + 1, x0, x4, x5, x6 => (if x6 < (x0.size : Int) then (if 0 ≤ x6 then (if (btI x0 x6) < 48 then (some (0, false)) else (if (btI x0 x6) > 57 then (some (0, false)) else (spec_l13Num.l0 k x0 x4 (wrap64 ((wrap64 (x5 * 10)) + (wrap64 ((((btI x0 x6) - 48) % 256))))) (wrap64 (x6 + 1))))) else none) else (if x4 = true then (some ((wrap64 (0 - x5)), true)) else (some (x5, true))))
def spec_l13Num.f (k : Nat) (a0 : ByteArray) : Option (Int × Bool) := (if (a0.size : Int) > 0 then (if 0 < (a0.size : Int) then (if (btI a0 0) = 45 then (if 1 ≤ (a0.size : Int) then (if (a0.size : Int) ≤ (a0.size : Int) then (if ((a0.extract 1 a0.size).size : Int) = 0 then (some (0, false)) else (if ((a0.extract 1 a0.size).size : Int) > 17 then (some (0, false)) else (if 0 < ((a0.extract 1 a0.size).size : Int) then (if (btI (a0.extract 1 a0.size) 0) = 48 then (if ((a0.extract 1 a0.size).size : Int) > 1 then (some (0, false)) else (some (0, false))) else (spec_l13Num.l0 k (a0.extract 1 a0.size) (decide ((btI a0 0) = 45)) 0 0)) else none))) else none) else none) else (if (a0.size : Int) = 0 then (some (0, false)) else (if (a0.size : Int) > 17 then (some (0, false)) else (if (btI a0 0) = 48 then (if (a0.size : Int) > 1 then (some (0, false)) else (spec_l13Num.l0 k a0 (decide ((btI a0 0) = 45)) 0 0)) else (spec_l13Num.l0 k a0 (decide ((btI a0 0) = 45)) 0 0))))) else none) else (if (a0.size : Int) = 0 then (some (0, false)) else (if (a0.size : Int) > 17 then (some (0, false)) else (if 0 < (a0.size : Int) then (if (btI a0 0) = 48 then (if (a0.size : Int) > 1 then (some (0, false)) else (spec_l13Num.l0 k a0 false 0 0)) else (spec_l13Num.l0 k a0 false 0 0)) else none))))
def spec_l13Num.en (r : Int × Bool) : Res := (.tup [.int .i64 r.1, .lit r.2], [])
def spec_l13Num.dec : List AV → List R.Obj → Option (ByteArray)
  | [.str a0], [] => some a0
  | _, _ => none
def spec_l13Num.tw : Tw := ⟨176, ByteArray, Int × Bool, spec_l13Num.dec, fun a => [.str a], fun a => [], fun k a => spec_l13Num.f k a, fun a r => spec_l13Num.en r, true⟩
theorem spec_l13Num.dok : spec_l13Num.tw.DecOk := by
  intro args hc a h
  have h : spec_l13Num.dec args hc = some a := h
  unfold spec_l13Num.dec at h
  split at h
  · cases h; exact ⟨rfl, rfl⟩
  · cases h
noncomputable def spec_l13Num.O (k : Nat) : Oracle := noO
def spec_l13Num.fh : FH := ⟨fun i => match i with | 8 => some [(0, 0), (4, 0), (5, 0), (6, 0)] | _ => none, [], false⟩
noncomputable def spec_l13Num.x0 (k : Nat) (x0 : ByteArray) (x4 : Bool) (x5 : Int) (x6 : Int) : Option Res := R.exec Tryz.prog xhn spec_l13Num.O 0 Tryz.f176 spec_l13Num.fh k (R.point Tryz.f176 8) ⟨[(0, .str x0), (4, .lit x4), (5, .int .i64 x5), (6, .int .i64 x6)], [], 2⟩
set_option maxRecDepth 100000 in
theorem spec_l13Num.e0 (k : Nat) (x0 : ByteArray) (x4 : Bool) (x5 : Int) (x6 : Int) : spec_l13Num.x0 (k + 1) x0 x4 x5 x6 = (if x6 < (x0.size : Int) then (if 0 ≤ x6 then (if (btI x0 x6) < 48 then (some (spec_l13Num.en (0, false))) else (if (btI x0 x6) > 57 then (some (spec_l13Num.en (0, false))) else (spec_l13Num.x0 k x0 x4 (wr64 ((wr64 (x5 * 10)) + (wr64 ((((btI x0 x6) - 48) % 256))))) (wr64 (x6 + 1))))) else none) else (if x4 = true then (some (spec_l13Num.en ((wr64 (0 - x5)), true))) else (some (spec_l13Num.en (x5, true))))) := by
  refine Eq.trans ?_ (R.icong (fun h0 => (R.icong (fun h1 => (R.idropT (p := x6 < (x0.size : Int)) (z := none) h0 (R.icong (fun h2 => rfl) (fun h2 => (R.idropT (p := 0 ≤ x6) (z := none) h1 (R.idropT (p := x6 < (x0.size : Int)) (z := none) h0 (R.icong (fun h3 => rfl) (fun h3 => (R.idropT (p := 0 ≤ x6) (z := none) h1 (R.idropT (p := x6 < (x0.size : Int)) (z := none) h0 rfl)))))))))) (fun h1 => rfl))) (fun h0 => rfl))
  kernel_rfl
set_option maxRecDepth 100000 in
theorem spec_l13Num.ef (k : Nat) (a0 : ByteArray) : R.start Tryz.prog xhn spec_l13Num.O 0 Tryz.f176 spec_l13Num.fh k [.str a0] [] = (if (a0.size : Int) > 0 then (if 0 < (a0.size : Int) then (if (btI a0 0) = 45 then (if 1 ≤ (a0.size : Int) then (if (a0.size : Int) ≤ (a0.size : Int) then (if ((a0.extract 1 a0.size).size : Int) = 0 then (some (spec_l13Num.en (0, false))) else (if ((a0.extract 1 a0.size).size : Int) > 17 then (some (spec_l13Num.en (0, false))) else (if 0 < ((a0.extract 1 a0.size).size : Int) then (if (btI (a0.extract 1 a0.size) 0) = 48 then (if ((a0.extract 1 a0.size).size : Int) > 1 then (some (spec_l13Num.en (0, false))) else (some (spec_l13Num.en (0, false)))) else (spec_l13Num.x0 k (a0.extract 1 a0.size) (decide ((btI a0 0) = 45)) 0 0)) else none))) else none) else none) else (if (a0.size : Int) = 0 then (some (spec_l13Num.en (0, false))) else (if (a0.size : Int) > 17 then (some (spec_l13Num.en (0, false))) else (if (btI a0 0) = 48 then (if (a0.size : Int) > 1 then (some (spec_l13Num.en (0, false))) else (spec_l13Num.x0 k a0 (decide ((btI a0 0) = 45)) 0 0)) else (spec_l13Num.x0 k a0 (decide ((btI a0 0) = 45)) 0 0))))) else none) else (if (a0.size : Int) = 0 then (some (spec_l13Num.en (0, false))) else (if (a0.size : Int) > 17 then (some (spec_l13Num.en (0, false))) else (if 0 < (a0.size : Int) then (if (btI a0 0) = 48 then (if (a0.size : Int) > 1 then (some (spec_l13Num.en (0, false))) else (spec_l13Num.x0 k a0 false 0 0)) else (spec_l13Num.x0 k a0 false 0 0)) else none)))) := by
  refine Eq.trans ?_ (R.icong (fun h0 => (R.icong (fun h1 => (R.icong (fun h2 => (R.icong (fun h3 => (R.icong (fun h4 => (R.icong (fun h5 => rfl) (fun h5 => (R.icong (fun h6 => rfl) (fun h6 => (R.icong (fun h7 => (R.icong (fun h8 => (R.icong (fun h9 => rfl) (fun h9 => (R.idropT (p := (btI a0 0) = 45) (z := (spec_l13Num.x0 k (a0.extract 1 a0.size) (decide ((btI a0 0) = 45)) 0 0)) h2 rfl)))) (fun h8 => rfl))) (fun h7 => rfl))))))) (fun h4 => rfl))) (fun h3 => rfl))) (fun h2 => (R.icong (fun h3 => rfl) (fun h3 => (R.icong (fun h4 => rfl) (fun h4 => (R.idropT (p := 0 < (a0.size : Int)) (z := none) h1 (R.icong (fun h5 => (R.icong (fun h6 => rfl) (fun h6 => (R.idropF (p := (btI a0 0) = 45) (z := (some (spec_l13Num.en (0, false)))) h2 rfl)))) (fun h5 => rfl)))))))))) (fun h1 => rfl))) (fun h0 => rfl))
  kernel_rfl
theorem spec_l13Num.link : ∀ k, (∀ (x0 : ByteArray) (x4 : Bool) (x5 : Int) (x6 : Int), spec_l13Num.x0 k x0 x4 x5 x6 = (spec_l13Num.l0 k x0 x4 x5 x6).map (spec_l13Num.en))
  | 0 => fun _ _ _ _ => by simp only [spec_l13Num.l0, R.map_none]; rfl
  | k + 1 => by
    have ih0 := spec_l13Num.link k
    · intro x0 x4 x5 x6
      rw [spec_l13Num.e0]
      simp only [spec_l13Num.l0, R.map_ite, R.map_bind, R.map_none, R.map_some, R.wr64_eq, ← ih0]
theorem spec_l13Num.sf (k : Nat) (a0 : ByteArray) : R.start Tryz.prog xhn spec_l13Num.O 0 Tryz.f176 spec_l13Num.fh k [.str a0] [] = (spec_l13Num.f k a0).map (spec_l13Num.en) := by
  have ih0 := spec_l13Num.link k
  rw [spec_l13Num.ef]
  simp only [spec_l13Num.f, R.map_ite, R.map_bind, R.map_none, R.map_some, R.wr64_eq, ← ih0]
theorem spec_l13Num.ok (k : Nat) : spec_l13Num.tw.Ok Tryz.prog k := by
  intro md hmd a r h
  refine fn_ok (H := xhn) (fh := spec_l13Num.fh) (O := spec_l13Num.O) (k := k) Tryz.func176 (by kernel_rfl) (by kernel_rfl) (fun j _ => noO_sound) (by kernel_rfl) (m := 0) rfl ?_
  refine (spec_l13Num.sf k a).trans ?_
  exact congrArg (Option.map _) h
def spec_l3Read.l0 : Nat → (List Int) → (List ByteArray) → Int → Int → Option ((List Int) × Bool)
  | 0, _, _, _, _ => none
  | k + 1, y0, y1, x15, x16 => (if x16 < x15 then (if 0 ≤ x16 then (if x16 < (y1.length : Int) then ((spec_l13Num.f k (rdS y1 x16)).bind fun t2 => (if t2.2 = true then (if y0.length < 17592186044416 then (spec_l3Read.l0 k (y0 ++ [t2.1]) y1 x15 (wrap64 (x16 + 1))) else none) else (some (([] : List Int), false)))) else none) else none) else (some (y0, true)))
def spec_l3Read.f (k : Nat) (a0 : ByteArray) : Option ((List Int) × Bool) := (if a0.toList = ([] : List UInt8) then (some (([] : List Int), true)) else ((spec_l13Cut.f k a0 32).bind fun t1 => (spec_l3Read.l0 k ([] : List Int) t1 (t1.length : Int) 0)))
def spec_l3Read.en (r : (List Int) × Bool) : Res := (.tup [.sl 0 0, .lit r.2], [.arr 3 0 (.I .i64 r.1) false])
def spec_l3Read.dec : List AV → List R.Obj → Option (ByteArray)
  | [.str a0], [] => some a0
  | _, _ => none
def spec_l3Read.tw : Tw := ⟨177, ByteArray, (List Int) × Bool, spec_l3Read.dec, fun a => [.str a], fun a => [], fun k a => spec_l3Read.f k a, fun a r => spec_l3Read.en r, true⟩
theorem spec_l3Read.dok : spec_l3Read.tw.DecOk := by
  intro args hc a h
  have h : spec_l3Read.dec args hc = some a := h
  unfold spec_l3Read.dec at h
  split at h
  · cases h; exact ⟨rfl, rfl⟩
  · cases h
noncomputable def spec_l3Read.O (k : Nat) : Oracle := (spec_l13Cut.tw.orc k (spec_l13Num.tw.orc k noO))
def spec_l3Read.fh : FH := ⟨fun i => match i with | 5 => some [(4, 0), (14, 0), (15, 0), (16, 0)] | _ => none, [(true, 3)], false⟩
noncomputable def spec_l3Read.x0 (k : Nat) (y0 : List Int) (y1 : List ByteArray) (x15 : Int) (x16 : Int) : Option Res := R.exec Tryz.prog xhn spec_l3Read.O 0 Tryz.f177 spec_l3Read.fh k (R.point Tryz.f177 5) ⟨[(4, .sl 0 0), (14, .sl 1 0), (15, .int .i64 x15), (16, .int .i64 x16)], [(0, .arr 3 0 (.I .i64 y0) false), (1, .arr 9 0 (.S y1) false)], 4⟩
set_option maxRecDepth 100000 in
theorem spec_l3Read.e0 (k : Nat) (y0 : List Int) (y1 : List ByteArray) (x15 : Int) (x16 : Int) : spec_l3Read.x0 (k + 1) y0 y1 x15 x16 = (if x16 < x15 then (if 0 ≤ x16 then (if x16 < (y1.length : Int) then ((spec_l13Num.f k (rdS y1 x16)).bind fun t2 => (if t2.2 = true then (if y0.length < 17592186044416 then (spec_l3Read.x0 k (y0 ++ [t2.1]) y1 x15 (wr64 (x16 + 1))) else none) else (some (spec_l3Read.en (([] : List Int), false))))) else none) else none) else (some (spec_l3Read.en (y0, true)))) := by kernel_rfl
set_option maxRecDepth 100000 in
theorem spec_l3Read.ef (k : Nat) (a0 : ByteArray) : R.start Tryz.prog xhn spec_l3Read.O 0 Tryz.f177 spec_l3Read.fh k [.str a0] [] = (if a0.toList = ([] : List UInt8) then (some (spec_l3Read.en (([] : List Int), true))) else ((spec_l13Cut.f k a0 32).bind fun t1 => (spec_l3Read.x0 k ([] : List Int) t1 (t1.length : Int) 0))) := by kernel_rfl
theorem spec_l3Read.link : ∀ k, (∀ (y0 : List Int) (y1 : List ByteArray) (x15 : Int) (x16 : Int), spec_l3Read.x0 k y0 y1 x15 x16 = (spec_l3Read.l0 k y0 y1 x15 x16).map (spec_l3Read.en))
  | 0 => fun _ _ _ _ => by simp only [spec_l3Read.l0, R.map_none]; rfl
  | k + 1 => by
    have ih0 := spec_l3Read.link k
    · intro y0 y1 x15 x16
      rw [spec_l3Read.e0]
      simp only [spec_l3Read.l0, R.map_ite, R.map_bind, R.map_none, R.map_some, R.wr64_eq, ← ih0]
theorem spec_l3Read.sf (k : Nat) (a0 : ByteArray) : R.start Tryz.prog xhn spec_l3Read.O 0 Tryz.f177 spec_l3Read.fh k [.str a0] [] = (spec_l3Read.f k a0).map (spec_l3Read.en) := by
  have ih0 := spec_l3Read.link k
  rw [spec_l3Read.ef]
  simp only [spec_l3Read.f, R.map_ite, R.map_bind, R.map_none, R.map_some, R.wr64_eq, ← ih0]
theorem spec_l3Read.ok (k : Nat) : spec_l3Read.tw.Ok Tryz.prog k := by
  intro md hmd a r h
  refine fn_ok (H := xhn) (fh := spec_l3Read.fh) (O := spec_l3Read.O) (k := k) Tryz.func177 (by kernel_rfl) (by kernel_rfl) (fun j _ => (Tw.orc_sound spec_l13Cut.dok (spec_l13Cut.ok j) (fun _ => rfl) (Tw.orc_sound spec_l13Num.dok (spec_l13Num.ok j) (fun _ => rfl) noO_sound))) (by kernel_rfl) (m := 0) rfl ?_
  refine (spec_l3Read.sf k a).trans ?_
  exact congrArg (Option.map _) h
def spec_l1In.f (a0 : Int) (a1 : Int) (a2 : Int) : Option (Bool) := (if a0 ≥ a1 then (some (decide (a0 ≤ a2))) else (some false))
def spec_l1In.en (r : Bool) : Res := (.lit r, [])
def spec_l1In.dec : List AV → List R.Obj → Option (Int × Int × Int)
  | [.int .i64 a0, .int .i64 a1, .int .i64 a2], [] => some (a0, a1, a2)
  | _, _ => none
def spec_l1In.tw : Tw := ⟨62, Int × Int × Int, Bool, spec_l1In.dec, fun a => [.int .i64 a.1, .int .i64 a.2.1, .int .i64 a.2.2], fun a => [], fun k a => spec_l1In.f a.1 a.2.1 a.2.2, fun a r => spec_l1In.en r, true⟩
theorem spec_l1In.dok : spec_l1In.tw.DecOk := by
  intro args hc a h
  have h : spec_l1In.dec args hc = some a := h
  unfold spec_l1In.dec at h
  split at h
  · cases h; exact ⟨rfl, rfl⟩
  · cases h
noncomputable def spec_l1In.O (k : Nat) : Oracle := noO
def spec_l1In.fh : FH := ⟨fun i => match i with | _ => none, [], false⟩
set_option maxRecDepth 100000 in
theorem spec_l1In.ef (k : Nat) (a0 : Int) (a1 : Int) (a2 : Int) : R.start Tryz.prog xhn spec_l1In.O 0 Tryz.f62 spec_l1In.fh k [.int .i64 a0, .int .i64 a1, .int .i64 a2] [] = (if a0 ≥ a1 then (some (spec_l1In.en (decide (a0 ≤ a2)))) else (some (spec_l1In.en false))) := by kernel_rfl
theorem spec_l1In.sf (k : Nat) (a0 : Int) (a1 : Int) (a2 : Int) : R.start Tryz.prog xhn spec_l1In.O 0 Tryz.f62 spec_l1In.fh k [.int .i64 a0, .int .i64 a1, .int .i64 a2] [] = (spec_l1In.f a0 a1 a2).map (spec_l1In.en) := by
  rw [spec_l1In.ef]
  simp only [spec_l1In.f, R.map_ite, R.map_bind, R.map_none, R.map_some, R.wr64_eq]
theorem spec_l1In.ok (k : Nat) : spec_l1In.tw.Ok Tryz.prog k := by
  intro md hmd a r h
  refine fn_ok (H := xhn) (fh := spec_l1In.fh) (O := spec_l1In.O) (k := k) Tryz.func62 (by kernel_rfl) (by kernel_rfl) (fun j _ => noO_sound) (by kernel_rfl) (m := 0) rfl ?_
  refine (spec_l1In.sf k a.1 a.2.1 a.2.2).trans ?_
  exact congrArg (Option.map _) h
def spec_l3Marks.l0 : Nat → Int → (List Int) → (List Int) → Int → Int → Option (Bool)
  | 0, _, _, _, _, _ => none
  | k + 1, x0, x1, x7, x8, x9 => (if x9 < x8 then (if 0 ≤ x9 then (if x9 < (x7.length : Int) then ((spec_l1In.f (rdI x7 x9) 0 (wrap64 (x0 - 1))).bind fun t1 => (if t1 = true then (if x9 > 0 then (if 0 ≤ (wrap64 (x9 - 1)) then (if (wrap64 (x9 - 1)) < (x1.length : Int) then (if (rdI x1 (wrap64 (x9 - 1))) ≥ (rdI x7 x9) then (some false) else (spec_l3Marks.l0 k x0 x1 x7 x8 (wrap64 (x9 + 1)))) else none) else none) else (spec_l3Marks.l0 k x0 x1 x7 x8 (wrap64 (x9 + 1)))) else (some false))) else none) else none) else (some true))
def spec_l3Marks.f (k : Nat) (a0 : Int) (l1 : List Int) : Option (Bool) := (spec_l3Marks.l0 k a0 l1 l1 (l1.length : Int) 0)
def spec_l3Marks.en (r : Bool) : Res := (.lit r, [])
def spec_l3Marks.dec : List AV → List R.Obj → Option (Int × (List Int))
  | [.int .i64 a0, .imm (.I .i64 l1)], [] => some (a0, l1)
  | _, _ => none
def spec_l3Marks.tw : Tw := ⟨88, Int × (List Int), Bool, spec_l3Marks.dec, fun a => [.int .i64 a.1, .imm (.I .i64 a.2)], fun a => [], fun k a => spec_l3Marks.f k a.1 a.2, fun a r => spec_l3Marks.en r, true⟩
theorem spec_l3Marks.dok : spec_l3Marks.tw.DecOk := by
  intro args hc a h
  have h : spec_l3Marks.dec args hc = some a := h
  unfold spec_l3Marks.dec at h
  split at h
  · cases h; exact ⟨rfl, rfl⟩
  · cases h
noncomputable def spec_l3Marks.O (k : Nat) : Oracle := (spec_l1In.tw.orc k noO)
def spec_l3Marks.fh : FH := ⟨fun i => match i with | 2 => some [(0, 0), (1, 0), (7, 0), (8, 0), (9, 0)] | _ => none, [], false⟩
noncomputable def spec_l3Marks.x0 (k : Nat) (x0 : Int) (x1 : List Int) (x7 : List Int) (x8 : Int) (x9 : Int) : Option Res := R.exec Tryz.prog xhn spec_l3Marks.O 0 Tryz.f88 spec_l3Marks.fh k (R.point Tryz.f88 2) ⟨[(0, .int .i64 x0), (1, .imm (.I .i64 x1)), (7, .imm (.I .i64 x7)), (8, .int .i64 x8), (9, .int .i64 x9)], [], 2⟩
set_option maxRecDepth 100000 in
theorem spec_l3Marks.e0 (k : Nat) (x0 : Int) (x1 : List Int) (x7 : List Int) (x8 : Int) (x9 : Int) : spec_l3Marks.x0 (k + 1) x0 x1 x7 x8 x9 = (if x9 < x8 then (if 0 ≤ x9 then (if x9 < (x7.length : Int) then ((spec_l1In.f (rdI x7 x9) 0 (wr64 (x0 - 1))).bind fun t1 => (if t1 = true then (if x9 > 0 then (if 0 ≤ (wr64 (x9 - 1)) then (if (wr64 (x9 - 1)) < (x1.length : Int) then (if (rdI x1 (wr64 (x9 - 1))) ≥ (rdI x7 x9) then (some (spec_l3Marks.en false)) else (spec_l3Marks.x0 k x0 x1 x7 x8 (wr64 (x9 + 1)))) else none) else none) else (spec_l3Marks.x0 k x0 x1 x7 x8 (wr64 (x9 + 1)))) else (some (spec_l3Marks.en false)))) else none) else none) else (some (spec_l3Marks.en true))) := by kernel_rfl
set_option maxRecDepth 100000 in
theorem spec_l3Marks.ef (k : Nat) (a0 : Int) (l1 : List Int) : R.start Tryz.prog xhn spec_l3Marks.O 0 Tryz.f88 spec_l3Marks.fh k [.int .i64 a0, .imm (.I .i64 l1)] [] = (spec_l3Marks.x0 k a0 l1 l1 (l1.length : Int) 0) := by kernel_rfl
theorem spec_l3Marks.link : ∀ k, (∀ (x0 : Int) (x1 : List Int) (x7 : List Int) (x8 : Int) (x9 : Int), spec_l3Marks.x0 k x0 x1 x7 x8 x9 = (spec_l3Marks.l0 k x0 x1 x7 x8 x9).map (spec_l3Marks.en))
  | 0 => fun _ _ _ _ _ => by simp only [spec_l3Marks.l0, R.map_none]; rfl
  | k + 1 => by
    have ih0 := spec_l3Marks.link k
    · intro x0 x1 x7 x8 x9
      rw [spec_l3Marks.e0]
      simp only [spec_l3Marks.l0, R.map_ite, R.map_bind, R.map_none, R.map_some, R.wr64_eq, ← ih0]
theorem spec_l3Marks.sf (k : Nat) (a0 : Int) (l1 : List Int) : R.start Tryz.prog xhn spec_l3Marks.O 0 Tryz.f88 spec_l3Marks.fh k [.int .i64 a0, .imm (.I .i64 l1)] [] = (spec_l3Marks.f k a0 l1).map (spec_l3Marks.en) := by
  have ih0 := spec_l3Marks.link k
  rw [spec_l3Marks.ef]
  simp only [spec_l3Marks.f, R.map_ite, R.map_bind, R.map_none, R.map_some, R.wr64_eq, ← ih0]
theorem spec_l3Marks.ok (k : Nat) : spec_l3Marks.tw.Ok Tryz.prog k := by
  intro md hmd a r h
  refine fn_ok (H := xhn) (fh := spec_l3Marks.fh) (O := spec_l3Marks.O) (k := k) Tryz.func88 (by kernel_rfl) (by kernel_rfl) (fun j _ => (Tw.orc_sound spec_l1In.dok (spec_l1In.ok j) (fun _ => rfl) noO_sound)) (by kernel_rfl) (m := 0) rfl ?_
  refine (spec_l3Marks.sf k a.1 a.2).trans ?_
  exact congrArg (Option.map _) h
def spec_l3Step.f (a0 : Int) (a1_0 : Int) (a1_1 : ByteArray) (a1_2 : Int) (a1_3 : Int) : Option (Bool) := ((spec_l1In.f a1_0 0 (wrap64 (a0 - 1))).bind fun t1 => (if t1 = true then ((spec_l1In.f a1_2 0 (wrap64 (a0 - 1))).bind fun t2 => (if t2 = true then ((spec_l1In.f a1_3 0 3).bind fun t3 => (if t3 = true then (if a1_1.toList = ([97] : List UInt8) then (some true) else (some (decide (a1_1.toList = ([98] : List UInt8))))) else (some false))) else (some false))) else (some false)))
def spec_l3Step.en (r : Bool) : Res := (.lit r, [])
def spec_l3Step.dec : List AV → List R.Obj → Option (Int × Int × ByteArray × Int × Int)
  | [.int .i64 a0, .agg [.int .i64 a1_0, .str a1_1, .int .i64 a1_2, .int .i64 a1_3]], [] => some (a0, a1_0, a1_1, a1_2, a1_3)
  | _, _ => none
def spec_l3Step.tw : Tw := ⟨89, Int × Int × ByteArray × Int × Int, Bool, spec_l3Step.dec, fun a => [.int .i64 a.1, .agg [.int .i64 a.2.1, .str a.2.2.1, .int .i64 a.2.2.2.1, .int .i64 a.2.2.2.2]], fun a => [], fun k a => spec_l3Step.f a.1 a.2.1 a.2.2.1 a.2.2.2.1 a.2.2.2.2, fun a r => spec_l3Step.en r, true⟩
theorem spec_l3Step.dok : spec_l3Step.tw.DecOk := by
  intro args hc a h
  have h : spec_l3Step.dec args hc = some a := h
  unfold spec_l3Step.dec at h
  split at h
  · cases h; exact ⟨rfl, rfl⟩
  · cases h
noncomputable def spec_l3Step.O (k : Nat) : Oracle := (spec_l1In.tw.orc k noO)
def spec_l3Step.fh : FH := ⟨fun i => match i with | _ => none, [], false⟩
set_option maxRecDepth 100000 in
theorem spec_l3Step.ef (k : Nat) (a0 : Int) (a1_0 : Int) (a1_1 : ByteArray) (a1_2 : Int) (a1_3 : Int) : R.start Tryz.prog xhn spec_l3Step.O 0 Tryz.f89 spec_l3Step.fh k [.int .i64 a0, .agg [.int .i64 a1_0, .str a1_1, .int .i64 a1_2, .int .i64 a1_3]] [] = ((spec_l1In.f a1_0 0 (wr64 (a0 - 1))).bind fun t1 => (if t1 = true then ((spec_l1In.f a1_2 0 (wr64 (a0 - 1))).bind fun t2 => (if t2 = true then ((spec_l1In.f a1_3 0 3).bind fun t3 => (if t3 = true then (if a1_1.toList = ([97] : List UInt8) then (some (spec_l3Step.en true)) else (some (spec_l3Step.en (decide (a1_1.toList = ([98] : List UInt8)))))) else (some (spec_l3Step.en false)))) else (some (spec_l3Step.en false)))) else (some (spec_l3Step.en false)))) := by kernel_rfl
theorem spec_l3Step.sf (k : Nat) (a0 : Int) (a1_0 : Int) (a1_1 : ByteArray) (a1_2 : Int) (a1_3 : Int) : R.start Tryz.prog xhn spec_l3Step.O 0 Tryz.f89 spec_l3Step.fh k [.int .i64 a0, .agg [.int .i64 a1_0, .str a1_1, .int .i64 a1_2, .int .i64 a1_3]] [] = (spec_l3Step.f a0 a1_0 a1_1 a1_2 a1_3).map (spec_l3Step.en) := by
  rw [spec_l3Step.ef]
  simp only [spec_l3Step.f, R.map_ite, R.map_bind, R.map_none, R.map_some, R.wr64_eq]
theorem spec_l3Step.ok (k : Nat) : spec_l3Step.tw.Ok Tryz.prog k := by
  intro md hmd a r h
  refine fn_ok (H := xhn) (fh := spec_l3Step.fh) (O := spec_l3Step.O) (k := k) Tryz.func89 (by kernel_rfl) (by kernel_rfl) (fun j _ => (Tw.orc_sound spec_l1In.dok (spec_l1In.ok j) (fun _ => rfl) noO_sound)) (by kernel_rfl) (m := 0) rfl ?_
  refine (spec_l3Step.sf k a.1 a.2.1 a.2.2.1 a.2.2.2.1 a.2.2.2.2).trans ?_
  exact congrArg (Option.map _) h
def spec_l3Before.f (a0_0 : Int) (a0_1 : ByteArray) (a0_2 : Int) (a0_3 : Int) (a1_0 : Int) (a1_1 : ByteArray) (a1_2 : Int) (a1_3 : Int) : Option (Bool) := (if a0_0 = a1_0 then (if a0_1.toList = a1_1.toList then (some (decide (a0_2 < a1_2))) else (some (Op.bytesLess a0_1.toList a1_1.toList))) else (some (decide (a0_0 < a1_0))))
def spec_l3Before.en (r : Bool) : Res := (.lit r, [])
def spec_l3Before.dec : List AV → List R.Obj → Option (Int × ByteArray × Int × Int × Int × ByteArray × Int × Int)
  | [.agg [.int .i64 a0_0, .str a0_1, .int .i64 a0_2, .int .i64 a0_3], .agg [.int .i64 a1_0, .str a1_1, .int .i64 a1_2, .int .i64 a1_3]], [] => some (a0_0, a0_1, a0_2, a0_3, a1_0, a1_1, a1_2, a1_3)
  | _, _ => none
def spec_l3Before.tw : Tw := ⟨90, Int × ByteArray × Int × Int × Int × ByteArray × Int × Int, Bool, spec_l3Before.dec, fun a => [.agg [.int .i64 a.1, .str a.2.1, .int .i64 a.2.2.1, .int .i64 a.2.2.2.1], .agg [.int .i64 a.2.2.2.2.1, .str a.2.2.2.2.2.1, .int .i64 a.2.2.2.2.2.2.1, .int .i64 a.2.2.2.2.2.2.2]], fun a => [], fun k a => spec_l3Before.f a.1 a.2.1 a.2.2.1 a.2.2.2.1 a.2.2.2.2.1 a.2.2.2.2.2.1 a.2.2.2.2.2.2.1 a.2.2.2.2.2.2.2, fun a r => spec_l3Before.en r, true⟩
theorem spec_l3Before.dok : spec_l3Before.tw.DecOk := by
  intro args hc a h
  have h : spec_l3Before.dec args hc = some a := h
  unfold spec_l3Before.dec at h
  split at h
  · cases h; exact ⟨rfl, rfl⟩
  · cases h
noncomputable def spec_l3Before.O (k : Nat) : Oracle := noO
def spec_l3Before.fh : FH := ⟨fun i => match i with | _ => none, [], false⟩
set_option maxRecDepth 100000 in
theorem spec_l3Before.ef (k : Nat) (a0_0 : Int) (a0_1 : ByteArray) (a0_2 : Int) (a0_3 : Int) (a1_0 : Int) (a1_1 : ByteArray) (a1_2 : Int) (a1_3 : Int) : R.start Tryz.prog xhn spec_l3Before.O 0 Tryz.f90 spec_l3Before.fh k [.agg [.int .i64 a0_0, .str a0_1, .int .i64 a0_2, .int .i64 a0_3], .agg [.int .i64 a1_0, .str a1_1, .int .i64 a1_2, .int .i64 a1_3]] [] = (if a0_0 = a1_0 then (if a0_1.toList = a1_1.toList then (some (spec_l3Before.en (decide (a0_2 < a1_2)))) else (some (spec_l3Before.en (Op.bytesLess a0_1.toList a1_1.toList)))) else (some (spec_l3Before.en (decide (a0_0 < a1_0))))) := by kernel_rfl
theorem spec_l3Before.sf (k : Nat) (a0_0 : Int) (a0_1 : ByteArray) (a0_2 : Int) (a0_3 : Int) (a1_0 : Int) (a1_1 : ByteArray) (a1_2 : Int) (a1_3 : Int) : R.start Tryz.prog xhn spec_l3Before.O 0 Tryz.f90 spec_l3Before.fh k [.agg [.int .i64 a0_0, .str a0_1, .int .i64 a0_2, .int .i64 a0_3], .agg [.int .i64 a1_0, .str a1_1, .int .i64 a1_2, .int .i64 a1_3]] [] = (spec_l3Before.f a0_0 a0_1 a0_2 a0_3 a1_0 a1_1 a1_2 a1_3).map (spec_l3Before.en) := by
  rw [spec_l3Before.ef]
  simp only [spec_l3Before.f, R.map_ite, R.map_bind, R.map_none, R.map_some, R.wr64_eq]
theorem spec_l3Before.ok (k : Nat) : spec_l3Before.tw.Ok Tryz.prog k := by
  intro md hmd a r h
  refine fn_ok (H := xhn) (fh := spec_l3Before.fh) (O := spec_l3Before.O) (k := k) Tryz.func90 (by kernel_rfl) (by kernel_rfl) (fun j _ => noO_sound) (by kernel_rfl) (m := 0) rfl ?_
  refine (spec_l3Before.sf k a.1 a.2.1 a.2.2.1 a.2.2.2.1 a.2.2.2.2.1 a.2.2.2.2.2.1 a.2.2.2.2.2.2.1 a.2.2.2.2.2.2.2).trans ?_
  exact congrArg (Option.map _) h
def spec_AutomatonValid.l0 : Nat → (List Stp) → Int → Int → Int → (List Int) → (List Int) → (List Stp) → Option (Bool)
  | 0, _, _, _, _, _, _, _ => none
  | k + 1, x32, x33, x34, y0_0, y0_1, y0_2, y0_3 => (if x34 < x33 then (if 0 ≤ x34 then (if x34 < (x32.length : Int) then ((spec_l3Step.f y0_0 ((rdT x32 x34).f0) ((rdT x32 x34).f1) ((rdT x32 x34).f2) ((rdT x32 x34).f3)).bind fun t4 => (if t4 = true then (if x34 > 0 then (if 0 ≤ (wrap64 (x34 - 1)) then (if (wrap64 (x34 - 1)) < (y0_3.length : Int) then ((spec_l3Before.f ((rdT y0_3 (wrap64 (x34 - 1))).f0) ((rdT y0_3 (wrap64 (x34 - 1))).f1) ((rdT y0_3 (wrap64 (x34 - 1))).f2) ((rdT y0_3 (wrap64 (x34 - 1))).f3) ((rdT x32 x34).f0) ((rdT x32 x34).f1) ((rdT x32 x34).f2) ((rdT x32 x34).f3)).bind fun t5 => (if t5 = true then (spec_AutomatonValid.l0 k x32 x33 (wrap64 (x34 + 1)) y0_0 y0_1 y0_2 y0_3) else (some false))) else none) else none) else (spec_AutomatonValid.l0 k x32 x33 (wrap64 (x34 + 1)) y0_0 y0_1 y0_2 y0_3)) else (some false))) else none) else none) else (some true))
def spec_AutomatonValid.f (k : Nat) (a0_0 : Int) (l0_1 : List Int) (l0_2 : List Int) (l0_3 : List Stp) : Option (Bool) := ((spec_l1In.f a0_0 1 4).bind fun t1 => (if t1 = true then ((spec_l3Marks.f k a0_0 l0_1).bind fun t2 => (if t2 = true then ((spec_l3Marks.f k a0_0 l0_2).bind fun t3 => (if t3 = true then (if (l0_3.length : Int) > 24 then (some false) else (spec_AutomatonValid.l0 k l0_3 (l0_3.length : Int) 0 a0_0 l0_1 l0_2 l0_3)) else (some false))) else (some false))) else (some false)))
def spec_AutomatonValid.en (r : Bool) : Res := (.lit r, [])
def spec_AutomatonValid.dec : List AV → List R.Obj → Option (Int × (List Int) × (List Int) × (List Stp))
  | [.agg [.int .i64 a0_0, .imm (.I .i64 l0_1), .imm (.I .i64 l0_2), .imm (.T l0_3)]], [] => some (a0_0, l0_1, l0_2, l0_3)
  | _, _ => none
def spec_AutomatonValid.tw : Tw := ⟨51, Int × (List Int) × (List Int) × (List Stp), Bool, spec_AutomatonValid.dec, fun a => [.agg [.int .i64 a.1, .imm (.I .i64 a.2.1), .imm (.I .i64 a.2.2.1), .imm (.T a.2.2.2)]], fun a => [], fun k a => spec_AutomatonValid.f k a.1 a.2.1 a.2.2.1 a.2.2.2, fun a r => spec_AutomatonValid.en r, true⟩
theorem spec_AutomatonValid.dok : spec_AutomatonValid.tw.DecOk := by
  intro args hc a h
  have h : spec_AutomatonValid.dec args hc = some a := h
  unfold spec_AutomatonValid.dec at h
  split at h
  · cases h; exact ⟨rfl, rfl⟩
  · cases h
noncomputable def spec_AutomatonValid.O (k : Nat) : Oracle := (spec_l1In.tw.orc k (spec_l3Marks.tw.orc k (spec_l3Step.tw.orc k (spec_l3Before.tw.orc k noO))))
def spec_AutomatonValid.fh : FH := ⟨fun i => match i with | 4 => some [(1, 0), (32, 0), (33, 0), (34, 0)] | _ => none, [], false⟩
noncomputable def spec_AutomatonValid.x0 (k : Nat) (x32 : List Stp) (x33 : Int) (x34 : Int) (y0_0 : Int) (y0_1 : List Int) (y0_2 : List Int) (y0_3 : List Stp) : Option Res := R.exec Tryz.prog xhn spec_AutomatonValid.O 0 Tryz.f51 spec_AutomatonValid.fh k (R.point Tryz.f51 4) ⟨[(1, .ptr 0 0), (32, .imm (.T x32)), (33, .int .i64 x33), (34, .int .i64 x34)], [(0, .box false [.int .i64 y0_0, .imm (.I .i64 y0_1), .imm (.I .i64 y0_2), .imm (.T y0_3)])], 3⟩
set_option maxRecDepth 100000 in
theorem spec_AutomatonValid.e0 (k : Nat) (x32 : List Stp) (x33 : Int) (x34 : Int) (y0_0 : Int) (y0_1 : List Int) (y0_2 : List Int) (y0_3 : List Stp) : spec_AutomatonValid.x0 (k + 1) x32 x33 x34 y0_0 y0_1 y0_2 y0_3 = (if x34 < x33 then (if 0 ≤ x34 then (if x34 < (x32.length : Int) then ((spec_l3Step.f y0_0 ((rdT x32 x34).f0) ((rdT x32 x34).f1) ((rdT x32 x34).f2) ((rdT x32 x34).f3)).bind fun t4 => (if t4 = true then (if x34 > 0 then (if 0 ≤ (wr64 (x34 - 1)) then (if (wr64 (x34 - 1)) < (y0_3.length : Int) then ((spec_l3Before.f ((rdT y0_3 (wr64 (x34 - 1))).f0) ((rdT y0_3 (wr64 (x34 - 1))).f1) ((rdT y0_3 (wr64 (x34 - 1))).f2) ((rdT y0_3 (wr64 (x34 - 1))).f3) ((rdT x32 x34).f0) ((rdT x32 x34).f1) ((rdT x32 x34).f2) ((rdT x32 x34).f3)).bind fun t5 => (if t5 = true then (spec_AutomatonValid.x0 k x32 x33 (wr64 (x34 + 1)) y0_0 y0_1 y0_2 y0_3) else (some (spec_AutomatonValid.en false)))) else none) else none) else (spec_AutomatonValid.x0 k x32 x33 (wr64 (x34 + 1)) y0_0 y0_1 y0_2 y0_3)) else (some (spec_AutomatonValid.en false)))) else none) else none) else (some (spec_AutomatonValid.en true))) := by kernel_rfl
set_option maxRecDepth 100000 in
theorem spec_AutomatonValid.ef (k : Nat) (a0_0 : Int) (l0_1 : List Int) (l0_2 : List Int) (l0_3 : List Stp) : R.start Tryz.prog xhn spec_AutomatonValid.O 0 Tryz.f51 spec_AutomatonValid.fh k [.agg [.int .i64 a0_0, .imm (.I .i64 l0_1), .imm (.I .i64 l0_2), .imm (.T l0_3)]] [] = ((spec_l1In.f a0_0 1 4).bind fun t1 => (if t1 = true then ((spec_l3Marks.f k a0_0 l0_1).bind fun t2 => (if t2 = true then ((spec_l3Marks.f k a0_0 l0_2).bind fun t3 => (if t3 = true then (if (l0_3.length : Int) > 24 then (some (spec_AutomatonValid.en false)) else (spec_AutomatonValid.x0 k l0_3 (l0_3.length : Int) 0 a0_0 l0_1 l0_2 l0_3)) else (some (spec_AutomatonValid.en false)))) else (some (spec_AutomatonValid.en false)))) else (some (spec_AutomatonValid.en false)))) := by kernel_rfl
theorem spec_AutomatonValid.link : ∀ k, (∀ (x32 : List Stp) (x33 : Int) (x34 : Int) (y0_0 : Int) (y0_1 : List Int) (y0_2 : List Int) (y0_3 : List Stp), spec_AutomatonValid.x0 k x32 x33 x34 y0_0 y0_1 y0_2 y0_3 = (spec_AutomatonValid.l0 k x32 x33 x34 y0_0 y0_1 y0_2 y0_3).map (spec_AutomatonValid.en))
  | 0 => fun _ _ _ _ _ _ _ => by simp only [spec_AutomatonValid.l0, R.map_none]; rfl
  | k + 1 => by
    have ih0 := spec_AutomatonValid.link k
    · intro x32 x33 x34 y0_0 y0_1 y0_2 y0_3
      rw [spec_AutomatonValid.e0]
      simp only [spec_AutomatonValid.l0, R.map_ite, R.map_bind, R.map_none, R.map_some, R.wr64_eq, ← ih0]
theorem spec_AutomatonValid.sf (k : Nat) (a0_0 : Int) (l0_1 : List Int) (l0_2 : List Int) (l0_3 : List Stp) : R.start Tryz.prog xhn spec_AutomatonValid.O 0 Tryz.f51 spec_AutomatonValid.fh k [.agg [.int .i64 a0_0, .imm (.I .i64 l0_1), .imm (.I .i64 l0_2), .imm (.T l0_3)]] [] = (spec_AutomatonValid.f k a0_0 l0_1 l0_2 l0_3).map (spec_AutomatonValid.en) := by
  have ih0 := spec_AutomatonValid.link k
  rw [spec_AutomatonValid.ef]
  simp only [spec_AutomatonValid.f, R.map_ite, R.map_bind, R.map_none, R.map_some, R.wr64_eq, ← ih0]
theorem spec_AutomatonValid.ok (k : Nat) : spec_AutomatonValid.tw.Ok Tryz.prog k := by
  intro md hmd a r h
  refine fn_ok (H := xhn) (fh := spec_AutomatonValid.fh) (O := spec_AutomatonValid.O) (k := k) Tryz.func51 (by kernel_rfl) (by kernel_rfl) (fun j _ => (Tw.orc_sound spec_l1In.dok (spec_l1In.ok j) (fun _ => rfl) (Tw.orc_sound spec_l3Marks.dok (spec_l3Marks.ok j) (fun _ => rfl) (Tw.orc_sound spec_l3Step.dok (spec_l3Step.ok j) (fun _ => rfl) (Tw.orc_sound spec_l3Before.dok (spec_l3Before.ok j) (fun _ => rfl) noO_sound))))) (by kernel_rfl) (m := 0) rfl ?_
  refine (spec_AutomatonValid.sf k a.1 a.2.1 a.2.2.1 a.2.2.2).trans ?_
  exact congrArg (Option.map _) h
def spec_ParseAutomaton.l0 : Nat → Bool → (List ByteArray) → Int → Int → Int → (List Int) → (List Int) → (List Stp) → Option (Int × (List Int) × (List Int) × (List Stp) × Bool)
  | 0, _, _, _, _, _, _, _, _ => none
  | k + 1, x12, y2, x68, x69, y1_0, y6, y7, y8 => (if x69 < x68 then (if 0 ≤ x69 then (if x69 < (y2.length : Int) then (if ((rdS y2 x69).size : Int) = 5 then (if 3 < ((rdS y2 x69).size : Int) then (if (btI (rdS y2 x69) 3) = 58 then (if 1 ≤ ((rdS y2 x69).size : Int) then ((spec_l13Num.f k ((rdS y2 x69).extract 0 1)).bind fun t9 => (if 3 ≤ ((rdS y2 x69).size : Int) then ((spec_l13Num.f k ((rdS y2 x69).extract 2 3)).bind fun t10 => (if 4 ≤ ((rdS y2 x69).size : Int) then (if ((rdS y2 x69).size : Int) ≤ ((rdS y2 x69).size : Int) then ((spec_l13Num.f k ((rdS y2 x69).extract 4 (rdS y2 x69).size)).bind fun t11 => (if x12 = true then (if t9.2 = true then (if t10.2 = true then (if 2 ≤ ((rdS y2 x69).size : Int) then (if y8.length < 3518437208883 then (spec_ParseAutomaton.l0 k t11.2 y2 x68 (wrap64 (x69 + 1)) y1_0 y6 y7 (y8 ++ [(⟨t9.1, ((rdS y2 x69).extract 1 2), t10.1, t11.1⟩ : Stp)])) else none) else none) else (if 2 ≤ ((rdS y2 x69).size : Int) then (if y8.length < 3518437208883 then (spec_ParseAutomaton.l0 k false y2 x68 (wrap64 (x69 + 1)) y1_0 y6 y7 (y8 ++ [(⟨t9.1, ((rdS y2 x69).extract 1 2), t10.1, t11.1⟩ : Stp)])) else none) else none)) else (if 2 ≤ ((rdS y2 x69).size : Int) then (if y8.length < 3518437208883 then (spec_ParseAutomaton.l0 k false y2 x68 (wrap64 (x69 + 1)) y1_0 y6 y7 (y8 ++ [(⟨t9.1, ((rdS y2 x69).extract 1 2), t10.1, t11.1⟩ : Stp)])) else none) else none)) else (if 2 ≤ ((rdS y2 x69).size : Int) then (if y8.length < 3518437208883 then (spec_ParseAutomaton.l0 k false y2 x68 (wrap64 (x69 + 1)) y1_0 y6 y7 (y8 ++ [(⟨t9.1, ((rdS y2 x69).extract 1 2), t10.1, t11.1⟩ : Stp)])) else none) else none))) else none) else none)) else none)) else none) else (some (0, ([] : List Int), ([] : List Int), ([] : List Stp), false))) else none) else (some (0, ([] : List Int), ([] : List Int), ([] : List Stp), false))) else none) else none) else (if x12 = true then ((spec_AutomatonValid.f k y1_0 y6 y7 y8).bind fun t12 => (if t12 = true then (some (y1_0, y6, y7, y8, true)) else (some (0, ([] : List Int), ([] : List Int), ([] : List Stp), false)))) else (some (0, ([] : List Int), ([] : List Int), ([] : List Stp), false))))
def spec_ParseAutomaton.f (k : Nat) (a0 : ByteArray) : Option (Int × (List Int) × (List Int) × (List Stp) × Bool) := ((spec_l13Cut.f k a0 59).bind fun t1 => (if (t1.length : Int) = 4 then (if 0 < (t1.length : Int) then ((spec_l13Num.f k (rdS t1 0)).bind fun t2 => (if 1 < (t1.length : Int) then ((spec_l3Read.f k (rdS t1 1)).bind fun t3 => (if 2 < (t1.length : Int) then ((spec_l3Read.f k (rdS t1 2)).bind fun t4 => (if t2.2 = true then (if t3.2 = true then (if 3 < (t1.length : Int) then (if (rdS t1 3).toList = ([] : List UInt8) then (if t4.2 = true then ((spec_AutomatonValid.f k t2.1 t3.1 t4.1 ([] : List Stp)).bind fun t5 => (if t5 = true then (some (t2.1, t3.1, t4.1, ([] : List Stp), true)) else (some (0, ([] : List Int), ([] : List Int), ([] : List Stp), false)))) else (some (0, ([] : List Int), ([] : List Int), ([] : List Stp), false))) else ((spec_l13Cut.f k (rdS t1 3) 32).bind fun t6 => (spec_ParseAutomaton.l0 k t4.2 t6 (t6.length : Int) 0 t2.1 t3.1 t4.1 ([] : List Stp)))) else none) else (if 3 < (t1.length : Int) then (if (rdS t1 3).toList = ([] : List UInt8) then (some (0, ([] : List Int), ([] : List Int), ([] : List Stp), false)) else ((spec_l13Cut.f k (rdS t1 3) 32).bind fun t7 => (spec_ParseAutomaton.l0 k false t7 (t7.length : Int) 0 t2.1 t3.1 t4.1 ([] : List Stp)))) else none)) else (if 3 < (t1.length : Int) then (if (rdS t1 3).toList = ([] : List UInt8) then (some (0, ([] : List Int), ([] : List Int), ([] : List Stp), false)) else ((spec_l13Cut.f k (rdS t1 3) 32).bind fun t8 => (spec_ParseAutomaton.l0 k false t8 (t8.length : Int) 0 t2.1 t3.1 t4.1 ([] : List Stp)))) else none))) else none)) else none)) else none) else (some (0, ([] : List Int), ([] : List Int), ([] : List Stp), false))))
def spec_ParseAutomaton.en (r : Int × (List Int) × (List Int) × (List Stp) × Bool) : Res := (.tup [.agg [.int .i64 r.1, .sl 0 0, .sl 1 0, .sl 2 0], .lit r.2.2.2.2], [.arr 3 0 (.I .i64 r.2.1) false, .arr 3 0 (.I .i64 r.2.2.1) false, .arr 77 0 (.T r.2.2.2.1) false])
def spec_ParseAutomaton.dec : List AV → List R.Obj → Option (ByteArray)
  | [.str a0], [] => some a0
  | _, _ => none
def spec_ParseAutomaton.tw : Tw := ⟨162, ByteArray, Int × (List Int) × (List Int) × (List Stp) × Bool, spec_ParseAutomaton.dec, fun a => [.str a], fun a => [], fun k a => spec_ParseAutomaton.f k a, fun a r => spec_ParseAutomaton.en r, true⟩
theorem spec_ParseAutomaton.dok : spec_ParseAutomaton.tw.DecOk := by
  intro args hc a h
  have h : spec_ParseAutomaton.dec args hc = some a := h
  unfold spec_ParseAutomaton.dec at h
  split at h
  · cases h; exact ⟨rfl, rfl⟩
  · cases h
noncomputable def spec_ParseAutomaton.O (k : Nat) : Oracle := (spec_l13Cut.tw.orc k (spec_l13Num.tw.orc k (spec_l3Read.tw.orc k (spec_AutomatonValid.tw.orc k noO))))
def spec_ParseAutomaton.fh : FH := ⟨fun i => match i with | 11 => some [(2, 0), (11, 0), (12, 0), (67, 0), (68, 0), (69, 0)] | _ => none, [(true, 3), (true, 3), (true, 77)], false⟩
noncomputable def spec_ParseAutomaton.x0 (k : Nat) (x12 : Bool) (y2 : List ByteArray) (x68 : Int) (x69 : Int) (y1_0 : Int) (y6 : List Int) (y7 : List Int) (y8 : List Stp) : Option Res := R.exec Tryz.prog xhn spec_ParseAutomaton.O 0 Tryz.f162 spec_ParseAutomaton.fh k (R.point Tryz.f162 11) ⟨[(2, .ptr 0 0), (11, .ptr 1 0), (12, .lit x12), (67, .sl 2 0), (68, .int .i64 x68), (69, .int .i64 x69)], [(0, .box false [.int .i64 0, .sl 3 0, .sl 4 0, .sl 5 0]), (1, .box false [.int .i64 y1_0, .sl 6 0, .sl 7 0, .sl 8 0]), (2, .arr 9 0 (.S y2) false), (3, .arr 3 0 (.I .i64 ([] : List Int)) false), (4, .arr 3 0 (.I .i64 ([] : List Int)) false), (5, .arr 77 0 (.T ([] : List Stp)) false), (6, .arr 3 0 (.I .i64 y6) false), (7, .arr 3 0 (.I .i64 y7) false), (8, .arr 77 0 (.T y8) false)], 11⟩
set_option maxRecDepth 100000 in
theorem spec_ParseAutomaton.e0 (k : Nat) (x12 : Bool) (y2 : List ByteArray) (x68 : Int) (x69 : Int) (y1_0 : Int) (y6 : List Int) (y7 : List Int) (y8 : List Stp) : spec_ParseAutomaton.x0 (k + 1) x12 y2 x68 x69 y1_0 y6 y7 y8 = (if x69 < x68 then (if 0 ≤ x69 then (if x69 < (y2.length : Int) then (if ((rdS y2 x69).size : Int) = 5 then (if 3 < ((rdS y2 x69).size : Int) then (if (btI (rdS y2 x69) 3) = 58 then (if 1 ≤ ((rdS y2 x69).size : Int) then ((spec_l13Num.f k ((rdS y2 x69).extract 0 1)).bind fun t9 => (if 3 ≤ ((rdS y2 x69).size : Int) then ((spec_l13Num.f k ((rdS y2 x69).extract 2 3)).bind fun t10 => (if 4 ≤ ((rdS y2 x69).size : Int) then (if ((rdS y2 x69).size : Int) ≤ ((rdS y2 x69).size : Int) then ((spec_l13Num.f k ((rdS y2 x69).extract 4 (rdS y2 x69).size)).bind fun t11 => (if x12 = true then (if t9.2 = true then (if t10.2 = true then (if 2 ≤ ((rdS y2 x69).size : Int) then (if y8.length < 3518437208883 then (spec_ParseAutomaton.x0 k t11.2 y2 x68 (wr64 (x69 + 1)) y1_0 y6 y7 (y8 ++ [(⟨t9.1, ((rdS y2 x69).extract 1 2), t10.1, t11.1⟩ : Stp)])) else none) else none) else (if 2 ≤ ((rdS y2 x69).size : Int) then (if y8.length < 3518437208883 then (spec_ParseAutomaton.x0 k false y2 x68 (wr64 (x69 + 1)) y1_0 y6 y7 (y8 ++ [(⟨t9.1, ((rdS y2 x69).extract 1 2), t10.1, t11.1⟩ : Stp)])) else none) else none)) else (if 2 ≤ ((rdS y2 x69).size : Int) then (if y8.length < 3518437208883 then (spec_ParseAutomaton.x0 k false y2 x68 (wr64 (x69 + 1)) y1_0 y6 y7 (y8 ++ [(⟨t9.1, ((rdS y2 x69).extract 1 2), t10.1, t11.1⟩ : Stp)])) else none) else none)) else (if 2 ≤ ((rdS y2 x69).size : Int) then (if y8.length < 3518437208883 then (spec_ParseAutomaton.x0 k false y2 x68 (wr64 (x69 + 1)) y1_0 y6 y7 (y8 ++ [(⟨t9.1, ((rdS y2 x69).extract 1 2), t10.1, t11.1⟩ : Stp)])) else none) else none))) else none) else none)) else none)) else none) else (some (spec_ParseAutomaton.en (0, ([] : List Int), ([] : List Int), ([] : List Stp), false)))) else none) else (some (spec_ParseAutomaton.en (0, ([] : List Int), ([] : List Int), ([] : List Stp), false)))) else none) else none) else (if x12 = true then ((spec_AutomatonValid.f k y1_0 y6 y7 y8).bind fun t12 => (if t12 = true then (some (spec_ParseAutomaton.en (y1_0, y6, y7, y8, true))) else (some (spec_ParseAutomaton.en (0, ([] : List Int), ([] : List Int), ([] : List Stp), false))))) else (some (spec_ParseAutomaton.en (0, ([] : List Int), ([] : List Int), ([] : List Stp), false))))) := by kernel_rfl
set_option maxRecDepth 100000 in
theorem spec_ParseAutomaton.ef (k : Nat) (a0 : ByteArray) : R.start Tryz.prog xhn spec_ParseAutomaton.O 0 Tryz.f162 spec_ParseAutomaton.fh k [.str a0] [] = ((spec_l13Cut.f k a0 59).bind fun t1 => (if (t1.length : Int) = 4 then (if 0 < (t1.length : Int) then ((spec_l13Num.f k (rdS t1 0)).bind fun t2 => (if 1 < (t1.length : Int) then ((spec_l3Read.f k (rdS t1 1)).bind fun t3 => (if 2 < (t1.length : Int) then ((spec_l3Read.f k (rdS t1 2)).bind fun t4 => (if t2.2 = true then (if t3.2 = true then (if 3 < (t1.length : Int) then (if (rdS t1 3).toList = ([] : List UInt8) then (if t4.2 = true then ((spec_AutomatonValid.f k t2.1 t3.1 t4.1 ([] : List Stp)).bind fun t5 => (if t5 = true then (some (spec_ParseAutomaton.en (t2.1, t3.1, t4.1, ([] : List Stp), true))) else (some (spec_ParseAutomaton.en (0, ([] : List Int), ([] : List Int), ([] : List Stp), false))))) else (some (spec_ParseAutomaton.en (0, ([] : List Int), ([] : List Int), ([] : List Stp), false)))) else ((spec_l13Cut.f k (rdS t1 3) 32).bind fun t6 => (spec_ParseAutomaton.x0 k t4.2 t6 (t6.length : Int) 0 t2.1 t3.1 t4.1 ([] : List Stp)))) else none) else (if 3 < (t1.length : Int) then (if (rdS t1 3).toList = ([] : List UInt8) then (some (spec_ParseAutomaton.en (0, ([] : List Int), ([] : List Int), ([] : List Stp), false))) else ((spec_l13Cut.f k (rdS t1 3) 32).bind fun t7 => (spec_ParseAutomaton.x0 k false t7 (t7.length : Int) 0 t2.1 t3.1 t4.1 ([] : List Stp)))) else none)) else (if 3 < (t1.length : Int) then (if (rdS t1 3).toList = ([] : List UInt8) then (some (spec_ParseAutomaton.en (0, ([] : List Int), ([] : List Int), ([] : List Stp), false))) else ((spec_l13Cut.f k (rdS t1 3) 32).bind fun t8 => (spec_ParseAutomaton.x0 k false t8 (t8.length : Int) 0 t2.1 t3.1 t4.1 ([] : List Stp)))) else none))) else none)) else none)) else none) else (some (spec_ParseAutomaton.en (0, ([] : List Int), ([] : List Int), ([] : List Stp), false))))) := by
  refine Eq.trans ?_ (R.bcong fun t1 => (R.icong (fun h0 => (R.icong (fun h1 => (R.bcong fun t2 => (R.icong (fun h2 => (R.bcong fun t3 => (R.icong (fun h3 => (R.bcong fun t4 => (R.icong (fun h4 => (R.icong (fun h5 => (R.icong (fun h6 => (R.icong (fun h7 => rfl) (fun h7 => (R.idropT (p := 3 < (t1.length : Int)) (z := none) h6 rfl)))) (fun h6 => rfl))) (fun h5 => (R.icong (fun h6 => (R.icong (fun h7 => rfl) (fun h7 => (R.idropT (p := 3 < (t1.length : Int)) (z := none) h6 rfl)))) (fun h6 => rfl))))) (fun h4 => (R.icong (fun h5 => (R.icong (fun h6 => rfl) (fun h6 => (R.idropT (p := 3 < (t1.length : Int)) (z := none) h5 rfl)))) (fun h5 => rfl)))))) (fun h3 => rfl)))) (fun h2 => rfl)))) (fun h1 => rfl))) (fun h0 => rfl)))
  kernel_rfl
theorem spec_ParseAutomaton.link : ∀ k, (∀ (x12 : Bool) (y2 : List ByteArray) (x68 : Int) (x69 : Int) (y1_0 : Int) (y6 : List Int) (y7 : List Int) (y8 : List Stp), spec_ParseAutomaton.x0 k x12 y2 x68 x69 y1_0 y6 y7 y8 = (spec_ParseAutomaton.l0 k x12 y2 x68 x69 y1_0 y6 y7 y8).map (spec_ParseAutomaton.en))
  | 0 => fun _ _ _ _ _ _ _ _ => by simp only [spec_ParseAutomaton.l0, R.map_none]; rfl
  | k + 1 => by
    have ih0 := spec_ParseAutomaton.link k
    · intro x12 y2 x68 x69 y1_0 y6 y7 y8
      rw [spec_ParseAutomaton.e0]
      simp only [spec_ParseAutomaton.l0, R.map_ite, R.map_bind, R.map_none, R.map_some, R.wr64_eq, ← ih0]
theorem spec_ParseAutomaton.sf (k : Nat) (a0 : ByteArray) : R.start Tryz.prog xhn spec_ParseAutomaton.O 0 Tryz.f162 spec_ParseAutomaton.fh k [.str a0] [] = (spec_ParseAutomaton.f k a0).map (spec_ParseAutomaton.en) := by
  have ih0 := spec_ParseAutomaton.link k
  rw [spec_ParseAutomaton.ef]
  simp only [spec_ParseAutomaton.f, R.map_ite, R.map_bind, R.map_none, R.map_some, R.wr64_eq, ← ih0]
theorem spec_ParseAutomaton.ok (k : Nat) : spec_ParseAutomaton.tw.Ok Tryz.prog k := by
  intro md hmd a r h
  refine fn_ok (H := xhn) (fh := spec_ParseAutomaton.fh) (O := spec_ParseAutomaton.O) (k := k) Tryz.func162 (by kernel_rfl) (by kernel_rfl) (fun j _ => (Tw.orc_sound spec_l13Cut.dok (spec_l13Cut.ok j) (fun _ => rfl) (Tw.orc_sound spec_l13Num.dok (spec_l13Num.ok j) (fun _ => rfl) (Tw.orc_sound spec_l3Read.dok (spec_l3Read.ok j) (fun _ => rfl) (Tw.orc_sound spec_AutomatonValid.dok (spec_AutomatonValid.ok j) (fun _ => rfl) noO_sound))))) (by kernel_rfl) (m := 0) rfl ?_
  refine (spec_ParseAutomaton.sf k a).trans ?_
  exact congrArg (Option.map _) h
def spec_l3Known.f (k : Nat) (a0 : Int) : Option (Int × (List Int) × (List Int) × (List Stp)) := (if ([(⟨#[49, 59, 48, 59, 48, 59, 48, 97, 48, 58, 49, 32, 48, 98, 48, 58, 48]⟩ : ByteArray), (⟨#[50, 59, 48, 59, 49, 59, 48, 97, 48, 58, 48, 32, 48, 97, 49, 58, 49, 32, 49, 98, 49, 58, 48]⟩ : ByteArray), (⟨#[50, 59, 48, 32, 49, 59, 48, 32, 49, 59, 48, 97, 48, 58, 49, 32, 48, 98, 48, 58, 48, 32, 49, 97, 49, 58, 48, 32, 49, 98, 49, 58, 49]⟩ : ByteArray), (⟨#[51, 59, 48, 59, 48, 32, 50, 59, 48, 97, 48, 58, 48, 32, 48, 97, 49, 58, 48, 32, 48, 98, 48, 58, 49, 32, 49, 97, 49, 58, 49, 32, 49, 98, 50, 58, 48, 32, 50, 97, 50, 58, 48, 32, 50, 98, 50, 58, 48]⟩ : ByteArray), (⟨#[50, 59, 48, 59, 48, 59, 48, 97, 49, 58, 49, 32, 49, 98, 48, 58, 48]⟩ : ByteArray), (⟨#[51, 59, 48, 59, 50, 59, 48, 97, 48, 58, 48, 32, 48, 98, 48, 58, 48, 32, 48, 98, 49, 58, 48, 32, 49, 97, 49, 58, 49, 32, 49, 98, 50, 58, 48, 32, 50, 97, 50, 58, 48, 32, 50, 98, 50, 58, 48]⟩ : ByteArray), (⟨#[49, 59, 48, 59, 48, 59, 48, 97, 48, 58, 48]⟩ : ByteArray), (⟨#[50, 59, 48, 59, 48, 32, 49, 59, 48, 97, 48, 58, 48, 32, 48, 98, 49, 58, 49, 32, 49, 97, 48, 58, 48, 32, 49, 98, 49, 58, 48]⟩ : ByteArray), (⟨#[50, 59, 48, 59, 49, 59, 48, 97, 49, 58, 50, 32, 49, 97, 49, 58, 48, 32, 49, 98, 48, 58, 49]⟩ : ByteArray)].length : Int) = 0 then none else (if 0 ≤ (a0.tmod ([(⟨#[49, 59, 48, 59, 48, 59, 48, 97, 48, 58, 49, 32, 48, 98, 48, 58, 48]⟩ : ByteArray), (⟨#[50, 59, 48, 59, 49, 59, 48, 97, 48, 58, 48, 32, 48, 97, 49, 58, 49, 32, 49, 98, 49, 58, 48]⟩ : ByteArray), (⟨#[50, 59, 48, 32, 49, 59, 48, 32, 49, 59, 48, 97, 48, 58, 49, 32, 48, 98, 48, 58, 48, 32, 49, 97, 49, 58, 48, 32, 49, 98, 49, 58, 49]⟩ : ByteArray), (⟨#[51, 59, 48, 59, 48, 32, 50, 59, 48, 97, 48, 58, 48, 32, 48, 97, 49, 58, 48, 32, 48, 98, 48, 58, 49, 32, 49, 97, 49, 58, 49, 32, 49, 98, 50, 58, 48, 32, 50, 97, 50, 58, 48, 32, 50, 98, 50, 58, 48]⟩ : ByteArray), (⟨#[50, 59, 48, 59, 48, 59, 48, 97, 49, 58, 49, 32, 49, 98, 48, 58, 48]⟩ : ByteArray), (⟨#[51, 59, 48, 59, 50, 59, 48, 97, 48, 58, 48, 32, 48, 98, 48, 58, 48, 32, 48, 98, 49, 58, 48, 32, 49, 97, 49, 58, 49, 32, 49, 98, 50, 58, 48, 32, 50, 97, 50, 58, 48, 32, 50, 98, 50, 58, 48]⟩ : ByteArray), (⟨#[49, 59, 48, 59, 48, 59, 48, 97, 48, 58, 48]⟩ : ByteArray), (⟨#[50, 59, 48, 59, 48, 32, 49, 59, 48, 97, 48, 58, 48, 32, 48, 98, 49, 58, 49, 32, 49, 97, 48, 58, 48, 32, 49, 98, 49, 58, 48]⟩ : ByteArray), (⟨#[50, 59, 48, 59, 49, 59, 48, 97, 49, 58, 50, 32, 49, 97, 49, 58, 48, 32, 49, 98, 48, 58, 49]⟩ : ByteArray)].length : Int)) then (if (a0.tmod ([(⟨#[49, 59, 48, 59, 48, 59, 48, 97, 48, 58, 49, 32, 48, 98, 48, 58, 48]⟩ : ByteArray), (⟨#[50, 59, 48, 59, 49, 59, 48, 97, 48, 58, 48, 32, 48, 97, 49, 58, 49, 32, 49, 98, 49, 58, 48]⟩ : ByteArray), (⟨#[50, 59, 48, 32, 49, 59, 48, 32, 49, 59, 48, 97, 48, 58, 49, 32, 48, 98, 48, 58, 48, 32, 49, 97, 49, 58, 48, 32, 49, 98, 49, 58, 49]⟩ : ByteArray), (⟨#[51, 59, 48, 59, 48, 32, 50, 59, 48, 97, 48, 58, 48, 32, 48, 97, 49, 58, 48, 32, 48, 98, 48, 58, 49, 32, 49, 97, 49, 58, 49, 32, 49, 98, 50, 58, 48, 32, 50, 97, 50, 58, 48, 32, 50, 98, 50, 58, 48]⟩ : ByteArray), (⟨#[50, 59, 48, 59, 48, 59, 48, 97, 49, 58, 49, 32, 49, 98, 48, 58, 48]⟩ : ByteArray), (⟨#[51, 59, 48, 59, 50, 59, 48, 97, 48, 58, 48, 32, 48, 98, 48, 58, 48, 32, 48, 98, 49, 58, 48, 32, 49, 97, 49, 58, 49, 32, 49, 98, 50, 58, 48, 32, 50, 97, 50, 58, 48, 32, 50, 98, 50, 58, 48]⟩ : ByteArray), (⟨#[49, 59, 48, 59, 48, 59, 48, 97, 48, 58, 48]⟩ : ByteArray), (⟨#[50, 59, 48, 59, 48, 32, 49, 59, 48, 97, 48, 58, 48, 32, 48, 98, 49, 58, 49, 32, 49, 97, 48, 58, 48, 32, 49, 98, 49, 58, 48]⟩ : ByteArray), (⟨#[50, 59, 48, 59, 49, 59, 48, 97, 49, 58, 50, 32, 49, 97, 49, 58, 48, 32, 49, 98, 48, 58, 49]⟩ : ByteArray)].length : Int)) < ([(⟨#[49, 59, 48, 59, 48, 59, 48, 97, 48, 58, 49, 32, 48, 98, 48, 58, 48]⟩ : ByteArray), (⟨#[50, 59, 48, 59, 49, 59, 48, 97, 48, 58, 48, 32, 48, 97, 49, 58, 49, 32, 49, 98, 49, 58, 48]⟩ : ByteArray), (⟨#[50, 59, 48, 32, 49, 59, 48, 32, 49, 59, 48, 97, 48, 58, 49, 32, 48, 98, 48, 58, 48, 32, 49, 97, 49, 58, 48, 32, 49, 98, 49, 58, 49]⟩ : ByteArray), (⟨#[51, 59, 48, 59, 48, 32, 50, 59, 48, 97, 48, 58, 48, 32, 48, 97, 49, 58, 48, 32, 48, 98, 48, 58, 49, 32, 49, 97, 49, 58, 49, 32, 49, 98, 50, 58, 48, 32, 50, 97, 50, 58, 48, 32, 50, 98, 50, 58, 48]⟩ : ByteArray), (⟨#[50, 59, 48, 59, 48, 59, 48, 97, 49, 58, 49, 32, 49, 98, 48, 58, 48]⟩ : ByteArray), (⟨#[51, 59, 48, 59, 50, 59, 48, 97, 48, 58, 48, 32, 48, 98, 48, 58, 48, 32, 48, 98, 49, 58, 48, 32, 49, 97, 49, 58, 49, 32, 49, 98, 50, 58, 48, 32, 50, 97, 50, 58, 48, 32, 50, 98, 50, 58, 48]⟩ : ByteArray), (⟨#[49, 59, 48, 59, 48, 59, 48, 97, 48, 58, 48]⟩ : ByteArray), (⟨#[50, 59, 48, 59, 48, 32, 49, 59, 48, 97, 48, 58, 48, 32, 48, 98, 49, 58, 49, 32, 49, 97, 48, 58, 48, 32, 49, 98, 49, 58, 48]⟩ : ByteArray), (⟨#[50, 59, 48, 59, 49, 59, 48, 97, 49, 58, 50, 32, 49, 97, 49, 58, 48, 32, 49, 98, 48, 58, 49]⟩ : ByteArray)].length : Int) then ((spec_ParseAutomaton.f k (rdS [(⟨#[49, 59, 48, 59, 48, 59, 48, 97, 48, 58, 49, 32, 48, 98, 48, 58, 48]⟩ : ByteArray), (⟨#[50, 59, 48, 59, 49, 59, 48, 97, 48, 58, 48, 32, 48, 97, 49, 58, 49, 32, 49, 98, 49, 58, 48]⟩ : ByteArray), (⟨#[50, 59, 48, 32, 49, 59, 48, 32, 49, 59, 48, 97, 48, 58, 49, 32, 48, 98, 48, 58, 48, 32, 49, 97, 49, 58, 48, 32, 49, 98, 49, 58, 49]⟩ : ByteArray), (⟨#[51, 59, 48, 59, 48, 32, 50, 59, 48, 97, 48, 58, 48, 32, 48, 97, 49, 58, 48, 32, 48, 98, 48, 58, 49, 32, 49, 97, 49, 58, 49, 32, 49, 98, 50, 58, 48, 32, 50, 97, 50, 58, 48, 32, 50, 98, 50, 58, 48]⟩ : ByteArray), (⟨#[50, 59, 48, 59, 48, 59, 48, 97, 49, 58, 49, 32, 49, 98, 48, 58, 48]⟩ : ByteArray), (⟨#[51, 59, 48, 59, 50, 59, 48, 97, 48, 58, 48, 32, 48, 98, 48, 58, 48, 32, 48, 98, 49, 58, 48, 32, 49, 97, 49, 58, 49, 32, 49, 98, 50, 58, 48, 32, 50, 97, 50, 58, 48, 32, 50, 98, 50, 58, 48]⟩ : ByteArray), (⟨#[49, 59, 48, 59, 48, 59, 48, 97, 48, 58, 48]⟩ : ByteArray), (⟨#[50, 59, 48, 59, 48, 32, 49, 59, 48, 97, 48, 58, 48, 32, 48, 98, 49, 58, 49, 32, 49, 97, 48, 58, 48, 32, 49, 98, 49, 58, 48]⟩ : ByteArray), (⟨#[50, 59, 48, 59, 49, 59, 48, 97, 49, 58, 50, 32, 49, 97, 49, 58, 48, 32, 49, 98, 48, 58, 49]⟩ : ByteArray)] (a0.tmod ([(⟨#[49, 59, 48, 59, 48, 59, 48, 97, 48, 58, 49, 32, 48, 98, 48, 58, 48]⟩ : ByteArray), (⟨#[50, 59, 48, 59, 49, 59, 48, 97, 48, 58, 48, 32, 48, 97, 49, 58, 49, 32, 49, 98, 49, 58, 48]⟩ : ByteArray), (⟨#[50, 59, 48, 32, 49, 59, 48, 32, 49, 59, 48, 97, 48, 58, 49, 32, 48, 98, 48, 58, 48, 32, 49, 97, 49, 58, 48, 32, 49, 98, 49, 58, 49]⟩ : ByteArray), (⟨#[51, 59, 48, 59, 48, 32, 50, 59, 48, 97, 48, 58, 48, 32, 48, 97, 49, 58, 48, 32, 48, 98, 48, 58, 49, 32, 49, 97, 49, 58, 49, 32, 49, 98, 50, 58, 48, 32, 50, 97, 50, 58, 48, 32, 50, 98, 50, 58, 48]⟩ : ByteArray), (⟨#[50, 59, 48, 59, 48, 59, 48, 97, 49, 58, 49, 32, 49, 98, 48, 58, 48]⟩ : ByteArray), (⟨#[51, 59, 48, 59, 50, 59, 48, 97, 48, 58, 48, 32, 48, 98, 48, 58, 48, 32, 48, 98, 49, 58, 48, 32, 49, 97, 49, 58, 49, 32, 49, 98, 50, 58, 48, 32, 50, 97, 50, 58, 48, 32, 50, 98, 50, 58, 48]⟩ : ByteArray), (⟨#[49, 59, 48, 59, 48, 59, 48, 97, 48, 58, 48]⟩ : ByteArray), (⟨#[50, 59, 48, 59, 48, 32, 49, 59, 48, 97, 48, 58, 48, 32, 48, 98, 49, 58, 49, 32, 49, 97, 48, 58, 48, 32, 49, 98, 49, 58, 48]⟩ : ByteArray), (⟨#[50, 59, 48, 59, 49, 59, 48, 97, 49, 58, 50, 32, 49, 97, 49, 58, 48, 32, 49, 98, 48, 58, 49]⟩ : ByteArray)].length : Int)))).bind fun t1 => (some (t1.1, t1.2.1, t1.2.2.1, t1.2.2.2.1))) else none) else none))
def spec_l3Known.en (r : Int × (List Int) × (List Int) × (List Stp)) : Res := (.agg [.int .i64 r.1, .sl 0 0, .sl 1 0, .sl 2 0], [.arr 3 0 (.I .i64 r.2.1) false, .arr 3 0 (.I .i64 r.2.2.1) false, .arr 77 0 (.T r.2.2.2) false])
def spec_l3Known.dec : List AV → List R.Obj → Option (Int)
  | [.int .i64 a0], [] => some a0
  | _, _ => none
def spec_l3Known.tw : Tw := ⟨132, Int, Int × (List Int) × (List Int) × (List Stp), spec_l3Known.dec, fun a => [.int .i64 a], fun a => [], fun k a => spec_l3Known.f k a, fun a r => spec_l3Known.en r, true⟩
theorem spec_l3Known.dok : spec_l3Known.tw.DecOk := by
  intro args hc a h
  have h : spec_l3Known.dec args hc = some a := h
  unfold spec_l3Known.dec at h
  split at h
  · cases h; exact ⟨rfl, rfl⟩
  · cases h
noncomputable def spec_l3Known.O (k : Nat) : Oracle := (spec_ParseAutomaton.tw.orc k noO)
def spec_l3Known.fh : FH := ⟨fun i => match i with | _ => none, [(true, 3), (true, 3), (true, 77)], false⟩
set_option maxRecDepth 100000 in
theorem spec_l3Known.ef (k : Nat) (a0 : Int) : R.start Tryz.prog xhn spec_l3Known.O 0 Tryz.f132 spec_l3Known.fh k [.int .i64 a0] [] = (if ([(⟨#[49, 59, 48, 59, 48, 59, 48, 97, 48, 58, 49, 32, 48, 98, 48, 58, 48]⟩ : ByteArray), (⟨#[50, 59, 48, 59, 49, 59, 48, 97, 48, 58, 48, 32, 48, 97, 49, 58, 49, 32, 49, 98, 49, 58, 48]⟩ : ByteArray), (⟨#[50, 59, 48, 32, 49, 59, 48, 32, 49, 59, 48, 97, 48, 58, 49, 32, 48, 98, 48, 58, 48, 32, 49, 97, 49, 58, 48, 32, 49, 98, 49, 58, 49]⟩ : ByteArray), (⟨#[51, 59, 48, 59, 48, 32, 50, 59, 48, 97, 48, 58, 48, 32, 48, 97, 49, 58, 48, 32, 48, 98, 48, 58, 49, 32, 49, 97, 49, 58, 49, 32, 49, 98, 50, 58, 48, 32, 50, 97, 50, 58, 48, 32, 50, 98, 50, 58, 48]⟩ : ByteArray), (⟨#[50, 59, 48, 59, 48, 59, 48, 97, 49, 58, 49, 32, 49, 98, 48, 58, 48]⟩ : ByteArray), (⟨#[51, 59, 48, 59, 50, 59, 48, 97, 48, 58, 48, 32, 48, 98, 48, 58, 48, 32, 48, 98, 49, 58, 48, 32, 49, 97, 49, 58, 49, 32, 49, 98, 50, 58, 48, 32, 50, 97, 50, 58, 48, 32, 50, 98, 50, 58, 48]⟩ : ByteArray), (⟨#[49, 59, 48, 59, 48, 59, 48, 97, 48, 58, 48]⟩ : ByteArray), (⟨#[50, 59, 48, 59, 48, 32, 49, 59, 48, 97, 48, 58, 48, 32, 48, 98, 49, 58, 49, 32, 49, 97, 48, 58, 48, 32, 49, 98, 49, 58, 48]⟩ : ByteArray), (⟨#[50, 59, 48, 59, 49, 59, 48, 97, 49, 58, 50, 32, 49, 97, 49, 58, 48, 32, 49, 98, 48, 58, 49]⟩ : ByteArray)].length : Int) = 0 then none else (if 0 ≤ (a0.tmod ([(⟨#[49, 59, 48, 59, 48, 59, 48, 97, 48, 58, 49, 32, 48, 98, 48, 58, 48]⟩ : ByteArray), (⟨#[50, 59, 48, 59, 49, 59, 48, 97, 48, 58, 48, 32, 48, 97, 49, 58, 49, 32, 49, 98, 49, 58, 48]⟩ : ByteArray), (⟨#[50, 59, 48, 32, 49, 59, 48, 32, 49, 59, 48, 97, 48, 58, 49, 32, 48, 98, 48, 58, 48, 32, 49, 97, 49, 58, 48, 32, 49, 98, 49, 58, 49]⟩ : ByteArray), (⟨#[51, 59, 48, 59, 48, 32, 50, 59, 48, 97, 48, 58, 48, 32, 48, 97, 49, 58, 48, 32, 48, 98, 48, 58, 49, 32, 49, 97, 49, 58, 49, 32, 49, 98, 50, 58, 48, 32, 50, 97, 50, 58, 48, 32, 50, 98, 50, 58, 48]⟩ : ByteArray), (⟨#[50, 59, 48, 59, 48, 59, 48, 97, 49, 58, 49, 32, 49, 98, 48, 58, 48]⟩ : ByteArray), (⟨#[51, 59, 48, 59, 50, 59, 48, 97, 48, 58, 48, 32, 48, 98, 48, 58, 48, 32, 48, 98, 49, 58, 48, 32, 49, 97, 49, 58, 49, 32, 49, 98, 50, 58, 48, 32, 50, 97, 50, 58, 48, 32, 50, 98, 50, 58, 48]⟩ : ByteArray), (⟨#[49, 59, 48, 59, 48, 59, 48, 97, 48, 58, 48]⟩ : ByteArray), (⟨#[50, 59, 48, 59, 48, 32, 49, 59, 48, 97, 48, 58, 48, 32, 48, 98, 49, 58, 49, 32, 49, 97, 48, 58, 48, 32, 49, 98, 49, 58, 48]⟩ : ByteArray), (⟨#[50, 59, 48, 59, 49, 59, 48, 97, 49, 58, 50, 32, 49, 97, 49, 58, 48, 32, 49, 98, 48, 58, 49]⟩ : ByteArray)].length : Int)) then (if (a0.tmod ([(⟨#[49, 59, 48, 59, 48, 59, 48, 97, 48, 58, 49, 32, 48, 98, 48, 58, 48]⟩ : ByteArray), (⟨#[50, 59, 48, 59, 49, 59, 48, 97, 48, 58, 48, 32, 48, 97, 49, 58, 49, 32, 49, 98, 49, 58, 48]⟩ : ByteArray), (⟨#[50, 59, 48, 32, 49, 59, 48, 32, 49, 59, 48, 97, 48, 58, 49, 32, 48, 98, 48, 58, 48, 32, 49, 97, 49, 58, 48, 32, 49, 98, 49, 58, 49]⟩ : ByteArray), (⟨#[51, 59, 48, 59, 48, 32, 50, 59, 48, 97, 48, 58, 48, 32, 48, 97, 49, 58, 48, 32, 48, 98, 48, 58, 49, 32, 49, 97, 49, 58, 49, 32, 49, 98, 50, 58, 48, 32, 50, 97, 50, 58, 48, 32, 50, 98, 50, 58, 48]⟩ : ByteArray), (⟨#[50, 59, 48, 59, 48, 59, 48, 97, 49, 58, 49, 32, 49, 98, 48, 58, 48]⟩ : ByteArray), (⟨#[51, 59, 48, 59, 50, 59, 48, 97, 48, 58, 48, 32, 48, 98, 48, 58, 48, 32, 48, 98, 49, 58, 48, 32, 49, 97, 49, 58, 49, 32, 49, 98, 50, 58, 48, 32, 50, 97, 50, 58, 48, 32, 50, 98, 50, 58, 48]⟩ : ByteArray), (⟨#[49, 59, 48, 59, 48, 59, 48, 97, 48, 58, 48]⟩ : ByteArray), (⟨#[50, 59, 48, 59, 48, 32, 49, 59, 48, 97, 48, 58, 48, 32, 48, 98, 49, 58, 49, 32, 49, 97, 48, 58, 48, 32, 49, 98, 49, 58, 48]⟩ : ByteArray), (⟨#[50, 59, 48, 59, 49, 59, 48, 97, 49, 58, 50, 32, 49, 97, 49, 58, 48, 32, 49, 98, 48, 58, 49]⟩ : ByteArray)].length : Int)) < ([(⟨#[49, 59, 48, 59, 48, 59, 48, 97, 48, 58, 49, 32, 48, 98, 48, 58, 48]⟩ : ByteArray), (⟨#[50, 59, 48, 59, 49, 59, 48, 97, 48, 58, 48, 32, 48, 97, 49, 58, 49, 32, 49, 98, 49, 58, 48]⟩ : ByteArray), (⟨#[50, 59, 48, 32, 49, 59, 48, 32, 49, 59, 48, 97, 48, 58, 49, 32, 48, 98, 48, 58, 48, 32, 49, 97, 49, 58, 48, 32, 49, 98, 49, 58, 49]⟩ : ByteArray), (⟨#[51, 59, 48, 59, 48, 32, 50, 59, 48, 97, 48, 58, 48, 32, 48, 97, 49, 58, 48, 32, 48, 98, 48, 58, 49, 32, 49, 97, 49, 58, 49, 32, 49, 98, 50, 58, 48, 32, 50, 97, 50, 58, 48, 32, 50, 98, 50, 58, 48]⟩ : ByteArray), (⟨#[50, 59, 48, 59, 48, 59, 48, 97, 49, 58, 49, 32, 49, 98, 48, 58, 48]⟩ : ByteArray), (⟨#[51, 59, 48, 59, 50, 59, 48, 97, 48, 58, 48, 32, 48, 98, 48, 58, 48, 32, 48, 98, 49, 58, 48, 32, 49, 97, 49, 58, 49, 32, 49, 98, 50, 58, 48, 32, 50, 97, 50, 58, 48, 32, 50, 98, 50, 58, 48]⟩ : ByteArray), (⟨#[49, 59, 48, 59, 48, 59, 48, 97, 48, 58, 48]⟩ : ByteArray), (⟨#[50, 59, 48, 59, 48, 32, 49, 59, 48, 97, 48, 58, 48, 32, 48, 98, 49, 58, 49, 32, 49, 97, 48, 58, 48, 32, 49, 98, 49, 58, 48]⟩ : ByteArray), (⟨#[50, 59, 48, 59, 49, 59, 48, 97, 49, 58, 50, 32, 49, 97, 49, 58, 48, 32, 49, 98, 48, 58, 49]⟩ : ByteArray)].length : Int) then ((spec_ParseAutomaton.f k (rdS [(⟨#[49, 59, 48, 59, 48, 59, 48, 97, 48, 58, 49, 32, 48, 98, 48, 58, 48]⟩ : ByteArray), (⟨#[50, 59, 48, 59, 49, 59, 48, 97, 48, 58, 48, 32, 48, 97, 49, 58, 49, 32, 49, 98, 49, 58, 48]⟩ : ByteArray), (⟨#[50, 59, 48, 32, 49, 59, 48, 32, 49, 59, 48, 97, 48, 58, 49, 32, 48, 98, 48, 58, 48, 32, 49, 97, 49, 58, 48, 32, 49, 98, 49, 58, 49]⟩ : ByteArray), (⟨#[51, 59, 48, 59, 48, 32, 50, 59, 48, 97, 48, 58, 48, 32, 48, 97, 49, 58, 48, 32, 48, 98, 48, 58, 49, 32, 49, 97, 49, 58, 49, 32, 49, 98, 50, 58, 48, 32, 50, 97, 50, 58, 48, 32, 50, 98, 50, 58, 48]⟩ : ByteArray), (⟨#[50, 59, 48, 59, 48, 59, 48, 97, 49, 58, 49, 32, 49, 98, 48, 58, 48]⟩ : ByteArray), (⟨#[51, 59, 48, 59, 50, 59, 48, 97, 48, 58, 48, 32, 48, 98, 48, 58, 48, 32, 48, 98, 49, 58, 48, 32, 49, 97, 49, 58, 49, 32, 49, 98, 50, 58, 48, 32, 50, 97, 50, 58, 48, 32, 50, 98, 50, 58, 48]⟩ : ByteArray), (⟨#[49, 59, 48, 59, 48, 59, 48, 97, 48, 58, 48]⟩ : ByteArray), (⟨#[50, 59, 48, 59, 48, 32, 49, 59, 48, 97, 48, 58, 48, 32, 48, 98, 49, 58, 49, 32, 49, 97, 48, 58, 48, 32, 49, 98, 49, 58, 48]⟩ : ByteArray), (⟨#[50, 59, 48, 59, 49, 59, 48, 97, 49, 58, 50, 32, 49, 97, 49, 58, 48, 32, 49, 98, 48, 58, 49]⟩ : ByteArray)] (a0.tmod ([(⟨#[49, 59, 48, 59, 48, 59, 48, 97, 48, 58, 49, 32, 48, 98, 48, 58, 48]⟩ : ByteArray), (⟨#[50, 59, 48, 59, 49, 59, 48, 97, 48, 58, 48, 32, 48, 97, 49, 58, 49, 32, 49, 98, 49, 58, 48]⟩ : ByteArray), (⟨#[50, 59, 48, 32, 49, 59, 48, 32, 49, 59, 48, 97, 48, 58, 49, 32, 48, 98, 48, 58, 48, 32, 49, 97, 49, 58, 48, 32, 49, 98, 49, 58, 49]⟩ : ByteArray), (⟨#[51, 59, 48, 59, 48, 32, 50, 59, 48, 97, 48, 58, 48, 32, 48, 97, 49, 58, 48, 32, 48, 98, 48, 58, 49, 32, 49, 97, 49, 58, 49, 32, 49, 98, 50, 58, 48, 32, 50, 97, 50, 58, 48, 32, 50, 98, 50, 58, 48]⟩ : ByteArray), (⟨#[50, 59, 48, 59, 48, 59, 48, 97, 49, 58, 49, 32, 49, 98, 48, 58, 48]⟩ : ByteArray), (⟨#[51, 59, 48, 59, 50, 59, 48, 97, 48, 58, 48, 32, 48, 98, 48, 58, 48, 32, 48, 98, 49, 58, 48, 32, 49, 97, 49, 58, 49, 32, 49, 98, 50, 58, 48, 32, 50, 97, 50, 58, 48, 32, 50, 98, 50, 58, 48]⟩ : ByteArray), (⟨#[49, 59, 48, 59, 48, 59, 48, 97, 48, 58, 48]⟩ : ByteArray), (⟨#[50, 59, 48, 59, 48, 32, 49, 59, 48, 97, 48, 58, 48, 32, 48, 98, 49, 58, 49, 32, 49, 97, 48, 58, 48, 32, 49, 98, 49, 58, 48]⟩ : ByteArray), (⟨#[50, 59, 48, 59, 49, 59, 48, 97, 49, 58, 50, 32, 49, 97, 49, 58, 48, 32, 49, 98, 48, 58, 49]⟩ : ByteArray)].length : Int)))).bind fun t1 => (some (spec_l3Known.en (t1.1, t1.2.1, t1.2.2.1, t1.2.2.2.1)))) else none) else none)) := by kernel_rfl
theorem spec_l3Known.sf (k : Nat) (a0 : Int) : R.start Tryz.prog xhn spec_l3Known.O 0 Tryz.f132 spec_l3Known.fh k [.int .i64 a0] [] = (spec_l3Known.f k a0).map (spec_l3Known.en) := by
  rw [spec_l3Known.ef]
  simp only [spec_l3Known.f, R.map_ite, R.map_bind, R.map_none, R.map_some, R.wr64_eq]
theorem spec_l3Known.ok (k : Nat) : spec_l3Known.tw.Ok Tryz.prog k := by
  intro md hmd a r h
  refine fn_ok (H := xhn) (fh := spec_l3Known.fh) (O := spec_l3Known.O) (k := k) Tryz.func132 (by kernel_rfl) (by kernel_rfl) (fun j _ => (Tw.orc_sound spec_ParseAutomaton.dok (spec_ParseAutomaton.ok j) (fun _ => rfl) noO_sound)) (by kernel_rfl) (m := 0) rfl ?_
  refine (spec_l3Known.sf k a).trans ?_
  exact congrArg (Option.map _) h
def spec_l3Some.l0 : Nat → (List Int) → Int → Int → (List Int) → Int → Option ((List Int) × (List Int) × Int)
  | 0, _, _, _, _, _ => none
  | k + 1, y1, x8, x9, y0_0, y0_1 => (if x9 < x8 then ((spec_l13Rd_pick.f 2 y0_0 y0_1).bind fun t1 => (if t1.1 = 0 then (if y1.length < 17592186044416 then (spec_l3Some.l0 k (y1 ++ [x9]) x8 (wrap64 (x9 + 1)) t1.2.1 t1.2.2) else none) else (spec_l3Some.l0 k y1 x8 (wrap64 (x9 + 1)) t1.2.1 t1.2.2))) else (some (y1, y0_0, y0_1)))
def spec_l3Some.f (k : Nat) (a1 : Int) (l2_0 : List Int) (a2_1 : Int) : Option ((List Int) × (List Int) × Int) := (spec_l3Some.l0 k ([] : List Int) a1 0 l2_0 a2_1)
def spec_l3Some.en (r : (List Int) × (List Int) × Int) : Res := (.sl 1 0, [.box false [.imm (.I .u8 r.2.1), .int .i64 r.2.2], .arr 3 0 (.I .i64 r.1) false])
def spec_l3Some.dec : List AV → List R.Obj → Option (Int × (List Int) × Int)
  | [.ptr 0 0, .int .i64 a1], [.box false [.imm (.I .u8 l2_0), .int .i64 a2_1]] => some (a1, l2_0, a2_1)
  | _, _ => none
def spec_l3Some.tw : Tw := ⟨133, Int × (List Int) × Int, (List Int) × (List Int) × Int, spec_l3Some.dec, fun a => [.ptr 0 0, .int .i64 a.1], fun a => [.box false [.imm (.I .u8 a.2.1), .int .i64 a.2.2]], fun k a => spec_l3Some.f k a.1 a.2.1 a.2.2, fun a r => spec_l3Some.en r, true⟩
theorem spec_l3Some.dok : spec_l3Some.tw.DecOk := by
  intro args hc a h
  have h : spec_l3Some.dec args hc = some a := h
  unfold spec_l3Some.dec at h
  split at h
  · cases h; exact ⟨rfl, rfl⟩
  · cases h
noncomputable def spec_l3Some.O (k : Nat) : Oracle := (spec_l13Rd_pick.tw.orc k noO)
def spec_l3Some.fh : FH := ⟨fun i => match i with | 3 => some [(0, 0), (5, 0), (8, 0), (9, 0)] | _ => none, [(true, 3)], false⟩
noncomputable def spec_l3Some.x0 (k : Nat) (y1 : List Int) (x8 : Int) (x9 : Int) (y0_0 : List Int) (y0_1 : Int) : Option Res := R.exec Tryz.prog xhn spec_l3Some.O 1 Tryz.f133 spec_l3Some.fh k (R.point Tryz.f133 3) ⟨[(0, .ptr 0 0), (5, .sl 1 0), (8, .int .i64 x8), (9, .int .i64 x9)], [(0, .box false [.imm (.I .u8 y0_0), .int .i64 y0_1]), (1, .arr 3 0 (.I .i64 y1) false)], 4⟩
set_option maxRecDepth 100000 in
theorem spec_l3Some.e0 (k : Nat) (y1 : List Int) (x8 : Int) (x9 : Int) (y0_0 : List Int) (y0_1 : Int) : spec_l3Some.x0 (k + 1) y1 x8 x9 y0_0 y0_1 = (if x9 < x8 then ((spec_l13Rd_pick.f 2 y0_0 y0_1).bind fun t1 => (if t1.1 = 0 then (if y1.length < 17592186044416 then (spec_l3Some.x0 k (y1 ++ [x9]) x8 (wr64 (x9 + 1)) t1.2.1 t1.2.2) else none) else (spec_l3Some.x0 k y1 x8 (wr64 (x9 + 1)) t1.2.1 t1.2.2))) else (some (spec_l3Some.en (y1, y0_0, y0_1)))) := by kernel_rfl
set_option maxRecDepth 100000 in
theorem spec_l3Some.ef (k : Nat) (a1 : Int) (l2_0 : List Int) (a2_1 : Int) : R.start Tryz.prog xhn spec_l3Some.O 1 Tryz.f133 spec_l3Some.fh k [.ptr 0 0, .int .i64 a1] [.box false [.imm (.I .u8 l2_0), .int .i64 a2_1]] = (spec_l3Some.x0 k ([] : List Int) a1 0 l2_0 a2_1) := by kernel_rfl
theorem spec_l3Some.link : ∀ k, (∀ (y1 : List Int) (x8 : Int) (x9 : Int) (y0_0 : List Int) (y0_1 : Int), spec_l3Some.x0 k y1 x8 x9 y0_0 y0_1 = (spec_l3Some.l0 k y1 x8 x9 y0_0 y0_1).map (spec_l3Some.en))
  | 0 => fun _ _ _ _ _ => by simp only [spec_l3Some.l0, R.map_none]; rfl
  | k + 1 => by
    have ih0 := spec_l3Some.link k
    · intro y1 x8 x9 y0_0 y0_1
      rw [spec_l3Some.e0]
      simp only [spec_l3Some.l0, R.map_ite, R.map_bind, R.map_none, R.map_some, R.wr64_eq, ← ih0]
theorem spec_l3Some.sf (k : Nat) (a1 : Int) (l2_0 : List Int) (a2_1 : Int) : R.start Tryz.prog xhn spec_l3Some.O 1 Tryz.f133 spec_l3Some.fh k [.ptr 0 0, .int .i64 a1] [.box false [.imm (.I .u8 l2_0), .int .i64 a2_1]] = (spec_l3Some.f k a1 l2_0 a2_1).map (spec_l3Some.en) := by
  have ih0 := spec_l3Some.link k
  rw [spec_l3Some.ef]
  simp only [spec_l3Some.f, R.map_ite, R.map_bind, R.map_none, R.map_some, R.wr64_eq, ← ih0]
theorem spec_l3Some.ok (k : Nat) : spec_l3Some.tw.Ok Tryz.prog k := by
  intro md hmd a r h
  refine fn_ok (H := xhn) (fh := spec_l3Some.fh) (O := spec_l3Some.O) (k := k) Tryz.func133 (by kernel_rfl) (by kernel_rfl) (fun j _ => (Tw.orc_sound spec_l13Rd_pick.dok (spec_l13Rd_pick.ok j) (fun _ => rfl) noO_sound)) (by kernel_rfl) (m := 1) rfl ?_
  refine (spec_l3Some.sf k a.1 a.2.1 a.2.2).trans ?_
  exact congrArg (Option.map _) h
def spec_l13Rd_of.f (l1 : List ByteArray) (l2_0 : List Int) (a2_1 : Int) : Option (ByteArray × (List Int) × Int) := ((spec_l13Rd_pick.f (l1.length : Int) l2_0 a2_1).bind fun t1 => (if 0 ≤ t1.1 then (if t1.1 < (l1.length : Int) then (some ((rdS l1 t1.1), t1.2.1, t1.2.2)) else none) else none))
def spec_l13Rd_of.en (r : ByteArray × (List Int) × Int) : Res := (.str r.1, [.box false [.imm (.I .u8 r.2.1), .int .i64 r.2.2]])
def spec_l13Rd_of.dec : List AV → List R.Obj → Option ((List ByteArray) × (List Int) × Int)
  | [.ptr 0 0, .imm (.S l1)], [.box false [.imm (.I .u8 l2_0), .int .i64 a2_1]] => some (l1, l2_0, a2_1)
  | _, _ => none
def spec_l13Rd_of.tw : Tw := ⟨111, (List ByteArray) × (List Int) × Int, ByteArray × (List Int) × Int, spec_l13Rd_of.dec, fun a => [.ptr 0 0, .imm (.S a.1)], fun a => [.box false [.imm (.I .u8 a.2.1), .int .i64 a.2.2]], fun k a => spec_l13Rd_of.f a.1 a.2.1 a.2.2, fun a r => spec_l13Rd_of.en r, true⟩
theorem spec_l13Rd_of.dok : spec_l13Rd_of.tw.DecOk := by
  intro args hc a h
  have h : spec_l13Rd_of.dec args hc = some a := h
  unfold spec_l13Rd_of.dec at h
  split at h
  · cases h; exact ⟨rfl, rfl⟩
  · cases h
noncomputable def spec_l13Rd_of.O (k : Nat) : Oracle := (spec_l13Rd_pick.tw.orc k noO)
def spec_l13Rd_of.fh : FH := ⟨fun i => match i with | _ => none, [], false⟩
set_option maxRecDepth 100000 in
theorem spec_l13Rd_of.ef (k : Nat) (l1 : List ByteArray) (l2_0 : List Int) (a2_1 : Int) : R.start Tryz.prog xhn spec_l13Rd_of.O 1 Tryz.f111 spec_l13Rd_of.fh k [.ptr 0 0, .imm (.S l1)] [.box false [.imm (.I .u8 l2_0), .int .i64 a2_1]] = ((spec_l13Rd_pick.f (l1.length : Int) l2_0 a2_1).bind fun t1 => (if 0 ≤ t1.1 then (if t1.1 < (l1.length : Int) then (some (spec_l13Rd_of.en ((rdS l1 t1.1), t1.2.1, t1.2.2))) else none) else none)) := by kernel_rfl
theorem spec_l13Rd_of.sf (k : Nat) (l1 : List ByteArray) (l2_0 : List Int) (a2_1 : Int) : R.start Tryz.prog xhn spec_l13Rd_of.O 1 Tryz.f111 spec_l13Rd_of.fh k [.ptr 0 0, .imm (.S l1)] [.box false [.imm (.I .u8 l2_0), .int .i64 a2_1]] = (spec_l13Rd_of.f l1 l2_0 a2_1).map (spec_l13Rd_of.en) := by
  rw [spec_l13Rd_of.ef]
  simp only [spec_l13Rd_of.f, R.map_ite, R.map_bind, R.map_none, R.map_some, R.wr64_eq]
theorem spec_l13Rd_of.ok (k : Nat) : spec_l13Rd_of.tw.Ok Tryz.prog k := by
  intro md hmd a r h
  refine fn_ok (H := xhn) (fh := spec_l13Rd_of.fh) (O := spec_l13Rd_of.O) (k := k) Tryz.func111 (by kernel_rfl) (by kernel_rfl) (fun j _ => (Tw.orc_sound spec_l13Rd_pick.dok (spec_l13Rd_pick.ok j) (fun _ => rfl) noO_sound)) (by kernel_rfl) (m := 1) rfl ?_
  refine (spec_l13Rd_of.sf k a.1 a.2.1 a.2.2).trans ?_
  exact congrArg (Option.map _) h
def spec_l13Rd_num.f (l1 : List Int) (l2_0 : List Int) (a2_1 : Int) : Option (Int × (List Int) × Int) := ((spec_l13Rd_pick.f (l1.length : Int) l2_0 a2_1).bind fun t1 => (if 0 ≤ t1.1 then (if t1.1 < (l1.length : Int) then (some ((rdI l1 t1.1), t1.2.1, t1.2.2)) else none) else none))
def spec_l13Rd_num.en (r : Int × (List Int) × Int) : Res := (.int .i64 r.1, [.box false [.imm (.I .u8 r.2.1), .int .i64 r.2.2]])
def spec_l13Rd_num.dec : List AV → List R.Obj → Option ((List Int) × (List Int) × Int)
  | [.ptr 0 0, .imm (.I .i64 l1)], [.box false [.imm (.I .u8 l2_0), .int .i64 a2_1]] => some (l1, l2_0, a2_1)
  | _, _ => none
def spec_l13Rd_num.tw : Tw := ⟨60, (List Int) × (List Int) × Int, Int × (List Int) × Int, spec_l13Rd_num.dec, fun a => [.ptr 0 0, .imm (.I .i64 a.1)], fun a => [.box false [.imm (.I .u8 a.2.1), .int .i64 a.2.2]], fun k a => spec_l13Rd_num.f a.1 a.2.1 a.2.2, fun a r => spec_l13Rd_num.en r, true⟩
theorem spec_l13Rd_num.dok : spec_l13Rd_num.tw.DecOk := by
  intro args hc a h
  have h : spec_l13Rd_num.dec args hc = some a := h
  unfold spec_l13Rd_num.dec at h
  split at h
  · cases h; exact ⟨rfl, rfl⟩
  · cases h
noncomputable def spec_l13Rd_num.O (k : Nat) : Oracle := (spec_l13Rd_pick.tw.orc k noO)
def spec_l13Rd_num.fh : FH := ⟨fun i => match i with | _ => none, [], false⟩
set_option maxRecDepth 100000 in
theorem spec_l13Rd_num.ef (k : Nat) (l1 : List Int) (l2_0 : List Int) (a2_1 : Int) : R.start Tryz.prog xhn spec_l13Rd_num.O 1 Tryz.f60 spec_l13Rd_num.fh k [.ptr 0 0, .imm (.I .i64 l1)] [.box false [.imm (.I .u8 l2_0), .int .i64 a2_1]] = ((spec_l13Rd_pick.f (l1.length : Int) l2_0 a2_1).bind fun t1 => (if 0 ≤ t1.1 then (if t1.1 < (l1.length : Int) then (some (spec_l13Rd_num.en ((rdI l1 t1.1), t1.2.1, t1.2.2))) else none) else none)) := by kernel_rfl
theorem spec_l13Rd_num.sf (k : Nat) (l1 : List Int) (l2_0 : List Int) (a2_1 : Int) : R.start Tryz.prog xhn spec_l13Rd_num.O 1 Tryz.f60 spec_l13Rd_num.fh k [.ptr 0 0, .imm (.I .i64 l1)] [.box false [.imm (.I .u8 l2_0), .int .i64 a2_1]] = (spec_l13Rd_num.f l1 l2_0 a2_1).map (spec_l13Rd_num.en) := by
  rw [spec_l13Rd_num.ef]
  simp only [spec_l13Rd_num.f, R.map_ite, R.map_bind, R.map_none, R.map_some, R.wr64_eq]
theorem spec_l13Rd_num.ok (k : Nat) : spec_l13Rd_num.tw.Ok Tryz.prog k := by
  intro md hmd a r h
  refine fn_ok (H := xhn) (fh := spec_l13Rd_num.fh) (O := spec_l13Rd_num.O) (k := k) Tryz.func60 (by kernel_rfl) (by kernel_rfl) (fun j _ => (Tw.orc_sound spec_l13Rd_pick.dok (spec_l13Rd_pick.ok j) (fun _ => rfl) noO_sound)) (by kernel_rfl) (m := 1) rfl ?_
  refine (spec_l13Rd_num.sf k a.1 a.2.1 a.2.2).trans ?_
  exact congrArg (Option.map _) h
def spec_l3Put.l0 : Nat → (List Stp) → Int → Int → ByteArray → Int → Int → Option (List Stp)
  | 0, _, _, _, _, _, _ => none
  | k + 1, x0, x5, y0_0, y0_1, y0_2, y0_3 => (if x5 < (x0.length : Int) then (if 0 ≤ x5 then ((spec_l3Before.f ((rdT x0 x5).f0) ((rdT x0 x5).f1) ((rdT x0 x5).f2) ((rdT x0 x5).f3) y0_0 y0_1 y0_2 y0_3).bind fun t1 => (if t1 = true then (spec_l3Put.l0 k x0 (wrap64 (x5 + 1)) y0_0 y0_1 y0_2 y0_3) else ((spec_l3Before.f y0_0 y0_1 y0_2 y0_3 ((rdT x0 x5).f0) ((rdT x0 x5).f1) ((rdT x0 x5).f2) ((rdT x0 x5).f3)).bind fun t2 => (if t2 = true then (if x5 ≤ (x0.length : Int) then (if ([] : List Stp).length + ((x0.drop 0).take (x5.toNat - 0)).length ≤ 3518437208883 then (if (([] : List Stp) ++ ((x0.drop 0).take (x5.toNat - 0))).length < 3518437208883 then (if (x0.length : Int) ≤ (x0.length : Int) then (if ((([] : List Stp) ++ ((x0.drop 0).take (x5.toNat - 0))) ++ [(⟨y0_0, y0_1, y0_2, y0_3⟩ : Stp)]).length + ((x0.drop x5.toNat).take (x0.length - x5.toNat)).length ≤ 3518437208883 then (some (((([] : List Stp) ++ ((x0.drop 0).take (x5.toNat - 0))) ++ [(⟨y0_0, y0_1, y0_2, y0_3⟩ : Stp)]) ++ ((x0.drop x5.toNat).take (x0.length - x5.toNat)))) else none) else none) else none) else none) else none) else (if ([] : List Stp).length + x0.length ≤ 3518437208883 then (if x5 < ((([] : List Stp) ++ x0).length : Int) then (some ((([] : List Stp) ++ x0).set x5.toNat (⟨(rdT (([] : List Stp) ++ x0) x5).f0, (rdT (([] : List Stp) ++ x0) x5).f1, (rdT (([] : List Stp) ++ x0) x5).f2, (mn (rdT (([] : List Stp) ++ x0) x5).f3 y0_3)⟩ : Stp))) else none) else none))))) else none) else (if 0 ≤ x5 then (if x5 ≤ (x0.length : Int) then (if ([] : List Stp).length + ((x0.drop 0).take (x5.toNat - 0)).length ≤ 3518437208883 then (if (([] : List Stp) ++ ((x0.drop 0).take (x5.toNat - 0))).length < 3518437208883 then (if (x0.length : Int) ≤ (x0.length : Int) then (if ((([] : List Stp) ++ ((x0.drop 0).take (x5.toNat - 0))) ++ [(⟨y0_0, y0_1, y0_2, y0_3⟩ : Stp)]).length + ((x0.drop x5.toNat).take (x0.length - x5.toNat)).length ≤ 3518437208883 then (some (((([] : List Stp) ++ ((x0.drop 0).take (x5.toNat - 0))) ++ [(⟨y0_0, y0_1, y0_2, y0_3⟩ : Stp)]) ++ ((x0.drop x5.toNat).take (x0.length - x5.toNat)))) else none) else none) else none) else none) else none) else none))
def spec_l3Put.f (k : Nat) (l0 : List Stp) (a1_0 : Int) (a1_1 : ByteArray) (a1_2 : Int) (a1_3 : Int) : Option (List Stp) := (spec_l3Put.l0 k l0 0 a1_0 a1_1 a1_2 a1_3)
def spec_l3Put.en (r : List Stp) : Res := (.sl 0 0, [.arr 77 0 (.T r) false])
def spec_l3Put.dec : List AV → List R.Obj → Option ((List Stp) × Int × ByteArray × Int × Int)
  | [.imm (.T l0), .agg [.int .i64 a1_0, .str a1_1, .int .i64 a1_2, .int .i64 a1_3]], [] => some (l0, a1_0, a1_1, a1_2, a1_3)
  | _, _ => none
def spec_l3Put.tw : Tw := ⟨134, (List Stp) × Int × ByteArray × Int × Int, List Stp, spec_l3Put.dec, fun a => [.imm (.T a.1), .agg [.int .i64 a.2.1, .str a.2.2.1, .int .i64 a.2.2.2.1, .int .i64 a.2.2.2.2]], fun a => [], fun k a => spec_l3Put.f k a.1 a.2.1 a.2.2.1 a.2.2.2.1 a.2.2.2.2, fun a r => spec_l3Put.en r, true⟩
theorem spec_l3Put.dok : spec_l3Put.tw.DecOk := by
  intro args hc a h
  have h : spec_l3Put.dec args hc = some a := h
  unfold spec_l3Put.dec at h
  split at h
  · cases h; exact ⟨rfl, rfl⟩
  · cases h
noncomputable def spec_l3Put.O (k : Nat) : Oracle := (spec_l3Before.tw.orc k noO)
def spec_l3Put.fh : FH := ⟨fun i => match i with | 2 => some [(0, 0), (3, 0), (5, 0)] | _ => none, [(true, 77)], false⟩
noncomputable def spec_l3Put.x0 (k : Nat) (x0 : List Stp) (x5 : Int) (y0_0 : Int) (y0_1 : ByteArray) (y0_2 : Int) (y0_3 : Int) : Option Res := R.exec Tryz.prog xhn spec_l3Put.O 0 Tryz.f134 spec_l3Put.fh k (R.point Tryz.f134 2) ⟨[(0, .imm (.T x0)), (3, .ptr 0 0), (5, .int .i64 x5)], [(0, .box false [.int .i64 y0_0, .str y0_1, .int .i64 y0_2, .int .i64 y0_3])], 3⟩
set_option maxRecDepth 100000 in
theorem spec_l3Put.e0 (k : Nat) (x0 : List Stp) (x5 : Int) (y0_0 : Int) (y0_1 : ByteArray) (y0_2 : Int) (y0_3 : Int) : spec_l3Put.x0 (k + 1) x0 x5 y0_0 y0_1 y0_2 y0_3 = (if x5 < (x0.length : Int) then (if 0 ≤ x5 then ((spec_l3Before.f ((rdT x0 x5).f0) ((rdT x0 x5).f1) ((rdT x0 x5).f2) ((rdT x0 x5).f3) y0_0 y0_1 y0_2 y0_3).bind fun t1 => (if t1 = true then (spec_l3Put.x0 k x0 (wr64 (x5 + 1)) y0_0 y0_1 y0_2 y0_3) else ((spec_l3Before.f y0_0 y0_1 y0_2 y0_3 ((rdT x0 x5).f0) ((rdT x0 x5).f1) ((rdT x0 x5).f2) ((rdT x0 x5).f3)).bind fun t2 => (if t2 = true then (if x5 ≤ (x0.length : Int) then (if ([] : List Stp).length + ((x0.drop 0).take (x5.toNat - 0)).length ≤ 3518437208883 then (if (([] : List Stp) ++ ((x0.drop 0).take (x5.toNat - 0))).length < 3518437208883 then (if (x0.length : Int) ≤ (x0.length : Int) then (if ((([] : List Stp) ++ ((x0.drop 0).take (x5.toNat - 0))) ++ [(⟨y0_0, y0_1, y0_2, y0_3⟩ : Stp)]).length + ((x0.drop x5.toNat).take (x0.length - x5.toNat)).length ≤ 3518437208883 then (some (spec_l3Put.en (((([] : List Stp) ++ ((x0.drop 0).take (x5.toNat - 0))) ++ [(⟨y0_0, y0_1, y0_2, y0_3⟩ : Stp)]) ++ ((x0.drop x5.toNat).take (x0.length - x5.toNat))))) else none) else none) else none) else none) else none) else (if ([] : List Stp).length + x0.length ≤ 3518437208883 then (if x5 < ((([] : List Stp) ++ x0).length : Int) then (some (spec_l3Put.en ((([] : List Stp) ++ x0).set x5.toNat (⟨(rdT (([] : List Stp) ++ x0) x5).f0, (rdT (([] : List Stp) ++ x0) x5).f1, (rdT (([] : List Stp) ++ x0) x5).f2, (mn (rdT (([] : List Stp) ++ x0) x5).f3 y0_3)⟩ : Stp)))) else none) else none))))) else none) else (if 0 ≤ x5 then (if x5 ≤ (x0.length : Int) then (if ([] : List Stp).length + ((x0.drop 0).take (x5.toNat - 0)).length ≤ 3518437208883 then (if (([] : List Stp) ++ ((x0.drop 0).take (x5.toNat - 0))).length < 3518437208883 then (if (x0.length : Int) ≤ (x0.length : Int) then (if ((([] : List Stp) ++ ((x0.drop 0).take (x5.toNat - 0))) ++ [(⟨y0_0, y0_1, y0_2, y0_3⟩ : Stp)]).length + ((x0.drop x5.toNat).take (x0.length - x5.toNat)).length ≤ 3518437208883 then (some (spec_l3Put.en (((([] : List Stp) ++ ((x0.drop 0).take (x5.toNat - 0))) ++ [(⟨y0_0, y0_1, y0_2, y0_3⟩ : Stp)]) ++ ((x0.drop x5.toNat).take (x0.length - x5.toNat))))) else none) else none) else none) else none) else none) else none)) := by
  refine Eq.trans ?_ (R.icong (fun h0 => (R.icong (fun h1 => (R.idropT (p := x5 < (x0.length : Int)) (z := none) h0 (R.bcong fun t1 => (R.icong (fun h2 => rfl) (fun h2 => (R.idropT (p := x5 < (x0.length : Int)) (z := (if 0 ≤ x5 then (if x5 ≤ (x0.length : Int) then (if ([] : List Stp).length + ((x0.drop 0).take (x5.toNat - 0)).length ≤ 3518437208883 then (if (([] : List Stp) ++ ((x0.drop 0).take (x5.toNat - 0))).length < 3518437208883 then (if 0 ≤ x5 then (if x5 ≤ (x0.length : Int) then (if (x0.length : Int) ≤ (x0.length : Int) then (if ((([] : List Stp) ++ ((x0.drop 0).take (x5.toNat - 0))) ++ [(⟨y0_0, y0_1, y0_2, y0_3⟩ : Stp)]).length + ((x0.drop x5.toNat).take (x0.length - x5.toNat)).length ≤ 3518437208883 then (some (spec_l3Put.en (((([] : List Stp) ++ ((x0.drop 0).take (x5.toNat - 0))) ++ [(⟨y0_0, y0_1, y0_2, y0_3⟩ : Stp)]) ++ ((x0.drop x5.toNat).take (x0.length - x5.toNat))))) else none) else none) else none) else none) else none) else none) else none) else none)) h0 (R.idropT (p := 0 ≤ x5) (z := none) h1 (R.idropT (p := x5 < (x0.length : Int)) (z := none) h0 (R.bcong fun t2 => (R.icong (fun h3 => (R.idropT (p := 0 ≤ x5) (z := none) h1 (R.icong (fun h4 => (R.icong (fun h5 => (R.icong (fun h6 => (R.idropT (p := 0 ≤ x5) (z := none) h1 (R.idropT (p := x5 ≤ (x0.length : Int)) (z := none) h4 rfl))) (fun h6 => rfl))) (fun h5 => rfl))) (fun h4 => rfl)))) (fun h3 => (R.icong (fun h4 => (R.idropT (p := 0 ≤ x5) (z := none) h1 (R.icong (fun h5 => (R.idropT (p := 0 ≤ x5) (z := none) h1 (R.idropT (p := x5 < ((([] : List Stp) ++ x0).length : Int)) (z := none) h5 rfl))) (fun h5 => rfl)))) (fun h4 => rfl))))))))))))) (fun h1 => rfl))) (fun h0 => (R.idropF (p := x5 < (x0.length : Int)) (z := (if 0 ≤ x5 then (if x5 < (x0.length : Int) then ((spec_l3Before.f y0_0 y0_1 y0_2 y0_3 ((rdT x0 x5).f0) ((rdT x0 x5).f1) ((rdT x0 x5).f2) ((rdT x0 x5).f3)).bind fun t3 => (if t3 = true then (if 0 ≤ x5 then (if x5 ≤ (x0.length : Int) then (if ([] : List Stp).length + ((x0.drop 0).take (x5.toNat - 0)).length ≤ 3518437208883 then (if (([] : List Stp) ++ ((x0.drop 0).take (x5.toNat - 0))).length < 3518437208883 then (if 0 ≤ x5 then (if x5 ≤ (x0.length : Int) then (if (x0.length : Int) ≤ (x0.length : Int) then (if ((([] : List Stp) ++ ((x0.drop 0).take (x5.toNat - 0))) ++ [(⟨y0_0, y0_1, y0_2, y0_3⟩ : Stp)]).length + ((x0.drop x5.toNat).take (x0.length - x5.toNat)).length ≤ 3518437208883 then (some (spec_l3Put.en (((([] : List Stp) ++ ((x0.drop 0).take (x5.toNat - 0))) ++ [(⟨y0_0, y0_1, y0_2, y0_3⟩ : Stp)]) ++ ((x0.drop x5.toNat).take (x0.length - x5.toNat))))) else none) else none) else none) else none) else none) else none) else none) else none) else (if ([] : List Stp).length + x0.length ≤ 3518437208883 then (if 0 ≤ x5 then (if x5 < ((([] : List Stp) ++ x0).length : Int) then (if 0 ≤ x5 then (if x5 < ((([] : List Stp) ++ x0).length : Int) then (some (spec_l3Put.en ((([] : List Stp) ++ x0).set x5.toNat (⟨(rdT (([] : List Stp) ++ x0) x5).f0, (rdT (([] : List Stp) ++ x0) x5).f1, (rdT (([] : List Stp) ++ x0) x5).f2, (mn (rdT (([] : List Stp) ++ x0) x5).f3 y0_3)⟩ : Stp)))) else none) else none) else none) else none) else none))) else none) else none)) h0 (R.icong (fun h1 => (R.icong (fun h2 => (R.icong (fun h3 => (R.icong (fun h4 => (R.idropT (p := 0 ≤ x5) (z := none) h1 (R.idropT (p := x5 ≤ (x0.length : Int)) (z := none) h2 rfl))) (fun h4 => rfl))) (fun h3 => rfl))) (fun h2 => rfl))) (fun h1 => rfl)))))
  kernel_rfl
set_option maxRecDepth 100000 in
theorem spec_l3Put.ef (k : Nat) (l0 : List Stp) (a1_0 : Int) (a1_1 : ByteArray) (a1_2 : Int) (a1_3 : Int) : R.start Tryz.prog xhn spec_l3Put.O 0 Tryz.f134 spec_l3Put.fh k [.imm (.T l0), .agg [.int .i64 a1_0, .str a1_1, .int .i64 a1_2, .int .i64 a1_3]] [] = (spec_l3Put.x0 k l0 0 a1_0 a1_1 a1_2 a1_3) := by kernel_rfl
theorem spec_l3Put.link : ∀ k, (∀ (x0 : List Stp) (x5 : Int) (y0_0 : Int) (y0_1 : ByteArray) (y0_2 : Int) (y0_3 : Int), spec_l3Put.x0 k x0 x5 y0_0 y0_1 y0_2 y0_3 = (spec_l3Put.l0 k x0 x5 y0_0 y0_1 y0_2 y0_3).map (spec_l3Put.en))
  | 0 => fun _ _ _ _ _ _ => by simp only [spec_l3Put.l0, R.map_none]; rfl
  | k + 1 => by
    have ih0 := spec_l3Put.link k
    · intro x0 x5 y0_0 y0_1 y0_2 y0_3
      rw [spec_l3Put.e0]
      simp only [spec_l3Put.l0, R.map_ite, R.map_bind, R.map_none, R.map_some, R.wr64_eq, ← ih0]
theorem spec_l3Put.sf (k : Nat) (l0 : List Stp) (a1_0 : Int) (a1_1 : ByteArray) (a1_2 : Int) (a1_3 : Int) : R.start Tryz.prog xhn spec_l3Put.O 0 Tryz.f134 spec_l3Put.fh k [.imm (.T l0), .agg [.int .i64 a1_0, .str a1_1, .int .i64 a1_2, .int .i64 a1_3]] [] = (spec_l3Put.f k l0 a1_0 a1_1 a1_2 a1_3).map (spec_l3Put.en) := by
  have ih0 := spec_l3Put.link k
  rw [spec_l3Put.ef]
  simp only [spec_l3Put.f, R.map_ite, R.map_bind, R.map_none, R.map_some, R.wr64_eq, ← ih0]
theorem spec_l3Put.ok (k : Nat) : spec_l3Put.tw.Ok Tryz.prog k := by
  intro md hmd a r h
  refine fn_ok (H := xhn) (fh := spec_l3Put.fh) (O := spec_l3Put.O) (k := k) Tryz.func134 (by kernel_rfl) (by kernel_rfl) (fun j _ => (Tw.orc_sound spec_l3Before.dok (spec_l3Before.ok j) (fun _ => rfl) noO_sound)) (by kernel_rfl) (m := 0) rfl ?_
  refine (spec_l3Put.sf k a.1 a.2.1 a.2.2.1 a.2.2.2.1 a.2.2.2.2).trans ?_
  exact congrArg (Option.map _) h
def spec_l3Draw.l0 : Nat → Int → Int → Int → (List Int) → Int → Int → (List Int) → (List Int) → (List Stp) → Option (Int × (List Int) × (List Int) × (List Stp) × (List Int) × Int)
  | 0, _, _, _, _, _, _, _, _, _ => none
  | k + 1, x6, x38, x39, y0_0, y0_1, y2_0, y6, y7, y8 => (if x39 < x38 then ((spec_l13Rd_pick.f x6 y0_0 y0_1).bind fun t12 => ((spec_l13Rd_of.f ([(⟨#[97]⟩ : ByteArray), (⟨#[98]⟩ : ByteArray)]) t12.2.1 t12.2.2).bind fun t13 => ((spec_l13Rd_pick.f x6 t13.2.1 t13.2.2).bind fun t14 => ((spec_l13Rd_num.f ([0, 1, 0, 1, 2, 0]) t14.2.1 t14.2.2).bind fun t15 => ((spec_l3Put.f k y8 t12.1 t13.1 t14.1 t15.1).bind fun t16 => (spec_l3Draw.l0 k x6 x38 (wrap64 (x39 + 1)) t15.2.1 t15.2.2 y2_0 y6 y7 t16)))))) else (some (y2_0, y6, y7, y8, y0_0, y0_1)))
def spec_l3Draw.f (k : Nat) (a1 : Int) (l2_0 : List Int) (a2_1 : Int) : Option (Int × (List Int) × (List Int) × (List Stp) × (List Int) × Int) := ((spec_l13Rd_pick.f 3 l2_0 a2_1).bind fun t1 => (if t1.1 = 0 then ((spec_l13Rd_pick.f 9 t1.2.1 t1.2.2).bind fun t2 => ((spec_l3Known.f k t2.1).bind fun t3 => (if t3.1 ≤ a1 then (some (t3.1, t3.2.1, t3.2.2.1, t3.2.2.2, t2.2.1, t2.2.2)) else ((spec_l13Rd_pick.f a1 t2.2.1 t2.2.2).bind fun t4 => ((spec_l3Some.f k (wrap64 (1 + t4.1)) t4.2.1 t4.2.2).bind fun t5 => ((spec_l3Some.f k (wrap64 (1 + t4.1)) t5.2.1 t5.2.2).bind fun t6 => ((spec_l13Rd_pick.f (wrap64 ((wrap64 (2 * (wrap64 (1 + t4.1)))) + 1)) t6.2.1 t6.2.2).bind fun t7 => (spec_l3Draw.l0 k (wrap64 (1 + t4.1)) (wrap64 (1 + t7.1)) 0 t7.2.1 t7.2.2 (wrap64 (1 + t4.1)) t5.1 t6.1 ([] : List Stp))))))))) else ((spec_l13Rd_pick.f a1 t1.2.1 t1.2.2).bind fun t8 => ((spec_l3Some.f k (wrap64 (1 + t8.1)) t8.2.1 t8.2.2).bind fun t9 => ((spec_l3Some.f k (wrap64 (1 + t8.1)) t9.2.1 t9.2.2).bind fun t10 => ((spec_l13Rd_pick.f (wrap64 ((wrap64 (2 * (wrap64 (1 + t8.1)))) + 1)) t10.2.1 t10.2.2).bind fun t11 => (spec_l3Draw.l0 k (wrap64 (1 + t8.1)) (wrap64 (1 + t11.1)) 0 t11.2.1 t11.2.2 (wrap64 (1 + t8.1)) t9.1 t10.1 ([] : List Stp))))))))
def spec_l3Draw.en (r : Int × (List Int) × (List Int) × (List Stp) × (List Int) × Int) : Res := (.agg [.int .i64 r.1, .sl 1 0, .sl 2 0, .sl 3 0], [.box false [.imm (.I .u8 r.2.2.2.2.1), .int .i64 r.2.2.2.2.2], .arr 3 0 (.I .i64 r.2.1) false, .arr 3 0 (.I .i64 r.2.2.1) false, .arr 77 0 (.T r.2.2.2.1) false])
def spec_l3Draw.dec : List AV → List R.Obj → Option (Int × (List Int) × Int)
  | [.ptr 0 0, .int .i64 a1], [.box false [.imm (.I .u8 l2_0), .int .i64 a2_1]] => some (a1, l2_0, a2_1)
  | _, _ => none
def spec_l3Draw.tw : Tw := ⟨109, Int × (List Int) × Int, Int × (List Int) × (List Int) × (List Stp) × (List Int) × Int, spec_l3Draw.dec, fun a => [.ptr 0 0, .int .i64 a.1], fun a => [.box false [.imm (.I .u8 a.2.1), .int .i64 a.2.2]], fun k a => spec_l3Draw.f k a.1 a.2.1 a.2.2, fun a r => spec_l3Draw.en r, true⟩
theorem spec_l3Draw.dok : spec_l3Draw.tw.DecOk := by
  intro args hc a h
  have h : spec_l3Draw.dec args hc = some a := h
  unfold spec_l3Draw.dec at h
  split at h
  · cases h; exact ⟨rfl, rfl⟩
  · cases h
noncomputable def spec_l3Draw.O (k : Nat) : Oracle := (spec_l13Rd_pick.tw.orc k (spec_l3Known.tw.orc k (spec_l3Some.tw.orc k (spec_l13Rd_of.tw.orc k (spec_l13Rd_num.tw.orc k (spec_l3Put.tw.orc k noO))))))
def spec_l3Draw.fh : FH := ⟨fun i => match i with | 8 => some [(0, 0), (4, 0), (6, 0), (7, 0), (38, 0), (39, 0)] | _ => none, [(true, 3), (true, 3), (true, 77)], false⟩
noncomputable def spec_l3Draw.x0 (k : Nat) (x6 : Int) (x38 : Int) (x39 : Int) (y0_0 : List Int) (y0_1 : Int) (y2_0 : Int) (y6 : List Int) (y7 : List Int) (y8 : List Stp) : Option Res := R.exec Tryz.prog xhn spec_l3Draw.O 1 Tryz.f109 spec_l3Draw.fh k (R.point Tryz.f109 8) ⟨[(0, .ptr 0 0), (4, .ptr 1 0), (6, .int .i64 x6), (7, .ptr 2 0), (38, .int .i64 x38), (39, .int .i64 x39)], [(0, .box false [.imm (.I .u8 y0_0), .int .i64 y0_1]), (1, .box false [.int .i64 0, .sl 3 0, .sl 4 0, .sl 5 0]), (2, .box false [.int .i64 y2_0, .sl 6 0, .sl 7 0, .sl 8 0]), (3, .arr 3 0 (.I .i64 ([] : List Int)) false), (4, .arr 3 0 (.I .i64 ([] : List Int)) false), (5, .arr 77 0 (.T ([] : List Stp)) false), (6, .arr 3 0 (.I .i64 y6) false), (7, .arr 3 0 (.I .i64 y7) false), (8, .arr 77 0 (.T y8) false)], 11⟩
set_option maxRecDepth 100000 in
theorem spec_l3Draw.e0 (k : Nat) (x6 : Int) (x38 : Int) (x39 : Int) (y0_0 : List Int) (y0_1 : Int) (y2_0 : Int) (y6 : List Int) (y7 : List Int) (y8 : List Stp) : spec_l3Draw.x0 (k + 1) x6 x38 x39 y0_0 y0_1 y2_0 y6 y7 y8 = (if x39 < x38 then ((spec_l13Rd_pick.f x6 y0_0 y0_1).bind fun t12 => ((spec_l13Rd_of.f ([(⟨#[97]⟩ : ByteArray), (⟨#[98]⟩ : ByteArray)]) t12.2.1 t12.2.2).bind fun t13 => ((spec_l13Rd_pick.f x6 t13.2.1 t13.2.2).bind fun t14 => ((spec_l13Rd_num.f ([0, 1, 0, 1, 2, 0]) t14.2.1 t14.2.2).bind fun t15 => ((spec_l3Put.f k y8 t12.1 t13.1 t14.1 t15.1).bind fun t16 => (spec_l3Draw.x0 k x6 x38 (wr64 (x39 + 1)) t15.2.1 t15.2.2 y2_0 y6 y7 t16)))))) else (some (spec_l3Draw.en (y2_0, y6, y7, y8, y0_0, y0_1)))) := by kernel_rfl
set_option maxRecDepth 100000 in
theorem spec_l3Draw.ef (k : Nat) (a1 : Int) (l2_0 : List Int) (a2_1 : Int) : R.start Tryz.prog xhn spec_l3Draw.O 1 Tryz.f109 spec_l3Draw.fh k [.ptr 0 0, .int .i64 a1] [.box false [.imm (.I .u8 l2_0), .int .i64 a2_1]] = ((spec_l13Rd_pick.f 3 l2_0 a2_1).bind fun t1 => (if t1.1 = 0 then ((spec_l13Rd_pick.f 9 t1.2.1 t1.2.2).bind fun t2 => ((spec_l3Known.f k t2.1).bind fun t3 => (if t3.1 ≤ a1 then (some (spec_l3Draw.en (t3.1, t3.2.1, t3.2.2.1, t3.2.2.2, t2.2.1, t2.2.2))) else ((spec_l13Rd_pick.f a1 t2.2.1 t2.2.2).bind fun t4 => ((spec_l3Some.f k (wr64 (1 + t4.1)) t4.2.1 t4.2.2).bind fun t5 => ((spec_l3Some.f k (wr64 (1 + t4.1)) t5.2.1 t5.2.2).bind fun t6 => ((spec_l13Rd_pick.f (wr64 ((wr64 (2 * (wr64 (1 + t4.1)))) + 1)) t6.2.1 t6.2.2).bind fun t7 => (spec_l3Draw.x0 k (wr64 (1 + t4.1)) (wr64 (1 + t7.1)) 0 t7.2.1 t7.2.2 (wr64 (1 + t4.1)) t5.1 t6.1 ([] : List Stp))))))))) else ((spec_l13Rd_pick.f a1 t1.2.1 t1.2.2).bind fun t8 => ((spec_l3Some.f k (wr64 (1 + t8.1)) t8.2.1 t8.2.2).bind fun t9 => ((spec_l3Some.f k (wr64 (1 + t8.1)) t9.2.1 t9.2.2).bind fun t10 => ((spec_l13Rd_pick.f (wr64 ((wr64 (2 * (wr64 (1 + t8.1)))) + 1)) t10.2.1 t10.2.2).bind fun t11 => (spec_l3Draw.x0 k (wr64 (1 + t8.1)) (wr64 (1 + t11.1)) 0 t11.2.1 t11.2.2 (wr64 (1 + t8.1)) t9.1 t10.1 ([] : List Stp)))))))) := by kernel_rfl
theorem spec_l3Draw.link : ∀ k, (∀ (x6 : Int) (x38 : Int) (x39 : Int) (y0_0 : List Int) (y0_1 : Int) (y2_0 : Int) (y6 : List Int) (y7 : List Int) (y8 : List Stp), spec_l3Draw.x0 k x6 x38 x39 y0_0 y0_1 y2_0 y6 y7 y8 = (spec_l3Draw.l0 k x6 x38 x39 y0_0 y0_1 y2_0 y6 y7 y8).map (spec_l3Draw.en))
  | 0 => fun _ _ _ _ _ _ _ _ _ => by simp only [spec_l3Draw.l0, R.map_none]; rfl
  | k + 1 => by
    have ih0 := spec_l3Draw.link k
    · intro x6 x38 x39 y0_0 y0_1 y2_0 y6 y7 y8
      rw [spec_l3Draw.e0]
      simp only [spec_l3Draw.l0, R.map_ite, R.map_bind, R.map_none, R.map_some, R.wr64_eq, ← ih0]
theorem spec_l3Draw.sf (k : Nat) (a1 : Int) (l2_0 : List Int) (a2_1 : Int) : R.start Tryz.prog xhn spec_l3Draw.O 1 Tryz.f109 spec_l3Draw.fh k [.ptr 0 0, .int .i64 a1] [.box false [.imm (.I .u8 l2_0), .int .i64 a2_1]] = (spec_l3Draw.f k a1 l2_0 a2_1).map (spec_l3Draw.en) := by
  have ih0 := spec_l3Draw.link k
  rw [spec_l3Draw.ef]
  simp only [spec_l3Draw.f, R.map_ite, R.map_bind, R.map_none, R.map_some, R.wr64_eq, ← ih0]
theorem spec_l3Draw.ok (k : Nat) : spec_l3Draw.tw.Ok Tryz.prog k := by
  intro md hmd a r h
  refine fn_ok (H := xhn) (fh := spec_l3Draw.fh) (O := spec_l3Draw.O) (k := k) Tryz.func109 (by kernel_rfl) (by kernel_rfl) (fun j _ => (Tw.orc_sound spec_l13Rd_pick.dok (spec_l13Rd_pick.ok j) (fun _ => rfl) (Tw.orc_sound spec_l3Known.dok (spec_l3Known.ok j) (fun _ => rfl) (Tw.orc_sound spec_l3Some.dok (spec_l3Some.ok j) (fun _ => rfl) (Tw.orc_sound spec_l13Rd_of.dok (spec_l13Rd_of.ok j) (fun _ => rfl) (Tw.orc_sound spec_l13Rd_num.dok (spec_l13Rd_num.ok j) (fun _ => rfl) (Tw.orc_sound spec_l3Put.dok (spec_l3Put.ok j) (fun _ => rfl) noO_sound))))))) (by kernel_rfl) (m := 1) rfl ?_
  refine (spec_l3Draw.sf k a.1 a.2.1 a.2.2).trans ?_
  exact congrArg (Option.map _) h
def spec_l3Bad.f (a1_0 : Int) (l1_1 : List Int) (l1_2 : List Int) (l1_3 : List Stp) (l2_0 : List Int) (a2_1 : Int) : Option (Int × (List Int) × (List Int) × (List Stp) × (List Int) × Int) := ((spec_l13Rd_pick.f 36 l2_0 a2_1).bind fun t1 => (if t1.1 = 0 then ((spec_l13Rd_num.f ([0, 5, (-1), 1, 9223372036854775807]) t1.2.1 t1.2.2).bind fun t2 => (some (t2.1, l1_1, l1_2, l1_3, t2.2.1, t2.2.2))) else (if t1.1 = 1 then (if ([] : List Stp).length + l1_3.length ≤ 3518437208883 then ((spec_l13Rd_pick.f 2 t1.2.1 t1.2.2).bind fun t3 => ((spec_l13Rd_of.f ([(⟨#[97]⟩ : ByteArray), (⟨#[99]⟩ : ByteArray), (⟨#[]⟩ : ByteArray)]) t3.2.1 t3.2.2).bind fun t4 => ((spec_l13Rd_num.f ([0, 4, (-1)]) t4.2.1 t4.2.2).bind fun t5 => ((spec_l13Rd_num.f ([0, 4, (-1)]) t5.2.1 t5.2.2).bind fun t6 => (if (([] : List Stp) ++ l1_3).length < 3518437208883 then (some (a1_0, l1_1, l1_2, ((([] : List Stp) ++ l1_3) ++ [(⟨t3.1, t4.1, t5.1, t6.1⟩ : Stp)]), t6.2.1, t6.2.2)) else none))))) else none) else (if t1.1 = 2 then (if ([] : List Int).length + l1_1.length ≤ 17592186044416 then ((spec_l13Rd_num.f ([0, 4, (-1)]) t1.2.1 t1.2.2).bind fun t7 => (if (([] : List Int) ++ l1_1).length < 17592186044416 then (some (a1_0, ((([] : List Int) ++ l1_1) ++ [t7.1]), l1_2, l1_3, t7.2.1, t7.2.2)) else none)) else none) else (some (a1_0, l1_1, l1_2, l1_3, t1.2.1, t1.2.2))))))
def spec_l3Bad.en (r : Int × (List Int) × (List Int) × (List Stp) × (List Int) × Int) : Res := (.agg [.int .i64 r.1, .imm (.I .i64 r.2.1), .imm (.I .i64 r.2.2.1), .imm (.T r.2.2.2.1)], [.box false [.imm (.I .u8 r.2.2.2.2.1), .int .i64 r.2.2.2.2.2]])
def spec_l3Bad.dec : List AV → List R.Obj → Option (Int × (List Int) × (List Int) × (List Stp) × (List Int) × Int)
  | [.ptr 0 0, .agg [.int .i64 a1_0, .imm (.I .i64 l1_1), .imm (.I .i64 l1_2), .imm (.T l1_3)]], [.box false [.imm (.I .u8 l2_0), .int .i64 a2_1]] => some (a1_0, l1_1, l1_2, l1_3, l2_0, a2_1)
  | _, _ => none
def spec_l3Bad.tw : Tw := ⟨108, Int × (List Int) × (List Int) × (List Stp) × (List Int) × Int, Int × (List Int) × (List Int) × (List Stp) × (List Int) × Int, spec_l3Bad.dec, fun a => [.ptr 0 0, .agg [.int .i64 a.1, .imm (.I .i64 a.2.1), .imm (.I .i64 a.2.2.1), .imm (.T a.2.2.2.1)]], fun a => [.box false [.imm (.I .u8 a.2.2.2.2.1), .int .i64 a.2.2.2.2.2]], fun k a => spec_l3Bad.f a.1 a.2.1 a.2.2.1 a.2.2.2.1 a.2.2.2.2.1 a.2.2.2.2.2, fun a r => spec_l3Bad.en r, true⟩
theorem spec_l3Bad.dok : spec_l3Bad.tw.DecOk := by
  intro args hc a h
  have h : spec_l3Bad.dec args hc = some a := h
  unfold spec_l3Bad.dec at h
  split at h
  · cases h; exact ⟨rfl, rfl⟩
  · cases h
noncomputable def spec_l3Bad.O (k : Nat) : Oracle := (spec_l13Rd_pick.tw.orc k (spec_l13Rd_num.tw.orc k (spec_l13Rd_of.tw.orc k noO)))
def spec_l3Bad.fh : FH := ⟨fun i => match i with | _ => none, [(false, 3), (false, 3), (false, 77)], false⟩
set_option maxRecDepth 100000 in
theorem spec_l3Bad.ef (k : Nat) (a1_0 : Int) (l1_1 : List Int) (l1_2 : List Int) (l1_3 : List Stp) (l2_0 : List Int) (a2_1 : Int) : R.start Tryz.prog xhn spec_l3Bad.O 1 Tryz.f108 spec_l3Bad.fh k [.ptr 0 0, .agg [.int .i64 a1_0, .imm (.I .i64 l1_1), .imm (.I .i64 l1_2), .imm (.T l1_3)]] [.box false [.imm (.I .u8 l2_0), .int .i64 a2_1]] = ((spec_l13Rd_pick.f 36 l2_0 a2_1).bind fun t1 => (if t1.1 = 0 then ((spec_l13Rd_num.f ([0, 5, (-1), 1, 9223372036854775807]) t1.2.1 t1.2.2).bind fun t2 => (some (spec_l3Bad.en (t2.1, l1_1, l1_2, l1_3, t2.2.1, t2.2.2)))) else (if t1.1 = 1 then (if ([] : List Stp).length + l1_3.length ≤ 3518437208883 then ((spec_l13Rd_pick.f 2 t1.2.1 t1.2.2).bind fun t3 => ((spec_l13Rd_of.f ([(⟨#[97]⟩ : ByteArray), (⟨#[99]⟩ : ByteArray), (⟨#[]⟩ : ByteArray)]) t3.2.1 t3.2.2).bind fun t4 => ((spec_l13Rd_num.f ([0, 4, (-1)]) t4.2.1 t4.2.2).bind fun t5 => ((spec_l13Rd_num.f ([0, 4, (-1)]) t5.2.1 t5.2.2).bind fun t6 => (if (([] : List Stp) ++ l1_3).length < 3518437208883 then (some (spec_l3Bad.en (a1_0, l1_1, l1_2, ((([] : List Stp) ++ l1_3) ++ [(⟨t3.1, t4.1, t5.1, t6.1⟩ : Stp)]), t6.2.1, t6.2.2))) else none))))) else none) else (if t1.1 = 2 then (if ([] : List Int).length + l1_1.length ≤ 17592186044416 then ((spec_l13Rd_num.f ([0, 4, (-1)]) t1.2.1 t1.2.2).bind fun t7 => (if (([] : List Int) ++ l1_1).length < 17592186044416 then (some (spec_l3Bad.en (a1_0, ((([] : List Int) ++ l1_1) ++ [t7.1]), l1_2, l1_3, t7.2.1, t7.2.2))) else none)) else none) else (some (spec_l3Bad.en (a1_0, l1_1, l1_2, l1_3, t1.2.1, t1.2.2))))))) := by kernel_rfl
theorem spec_l3Bad.sf (k : Nat) (a1_0 : Int) (l1_1 : List Int) (l1_2 : List Int) (l1_3 : List Stp) (l2_0 : List Int) (a2_1 : Int) : R.start Tryz.prog xhn spec_l3Bad.O 1 Tryz.f108 spec_l3Bad.fh k [.ptr 0 0, .agg [.int .i64 a1_0, .imm (.I .i64 l1_1), .imm (.I .i64 l1_2), .imm (.T l1_3)]] [.box false [.imm (.I .u8 l2_0), .int .i64 a2_1]] = (spec_l3Bad.f a1_0 l1_1 l1_2 l1_3 l2_0 a2_1).map (spec_l3Bad.en) := by
  rw [spec_l3Bad.ef]
  simp only [spec_l3Bad.f, R.map_ite, R.map_bind, R.map_none, R.map_some, R.wr64_eq]
theorem spec_l3Bad.ok (k : Nat) : spec_l3Bad.tw.Ok Tryz.prog k := by
  intro md hmd a r h
  refine fn_ok (H := xhn) (fh := spec_l3Bad.fh) (O := spec_l3Bad.O) (k := k) Tryz.func108 (by kernel_rfl) (by kernel_rfl) (fun j _ => (Tw.orc_sound spec_l13Rd_pick.dok (spec_l13Rd_pick.ok j) (fun _ => rfl) (Tw.orc_sound spec_l13Rd_num.dok (spec_l13Rd_num.ok j) (fun _ => rfl) (Tw.orc_sound spec_l13Rd_of.dok (spec_l13Rd_of.ok j) (fun _ => rfl) noO_sound)))) (by kernel_rfl) (m := 1) rfl ?_
  refine (spec_l3Bad.sf k a.1 a.2.1 a.2.2.1 a.2.2.2.1 a.2.2.2.2.1 a.2.2.2.2.2).trans ?_
  exact congrArg (Option.map _) h
def spec_l3Any.f (k : Nat) (l1_0 : List Int) (a1_1 : Int) : Option (Int × (List Int) × (List Int) × (List Stp) × (List Int) × Int) := ((spec_l3Draw.f k 3 l1_0 a1_1).bind fun t1 => ((spec_l3Bad.f t1.1 t1.2.1 t1.2.2.1 t1.2.2.2.1 t1.2.2.2.2.1 t1.2.2.2.2.2).bind fun t2 => (some (t2.1, t2.2.1, t2.2.2.1, t2.2.2.2.1, t2.2.2.2.2.1, t2.2.2.2.2.2))))
def spec_l3Any.en (r : Int × (List Int) × (List Int) × (List Stp) × (List Int) × Int) : Res := (.agg [.int .i64 r.1, .imm (.I .i64 r.2.1), .imm (.I .i64 r.2.2.1), .imm (.T r.2.2.2.1)], [.box false [.imm (.I .u8 r.2.2.2.2.1), .int .i64 r.2.2.2.2.2]])
def spec_l3Any.dec : List AV → List R.Obj → Option ((List Int) × Int)
  | [.ptr 0 0], [.box false [.imm (.I .u8 l1_0), .int .i64 a1_1]] => some (l1_0, a1_1)
  | _, _ => none
def spec_l3Any.tw : Tw := ⟨69, (List Int) × Int, Int × (List Int) × (List Int) × (List Stp) × (List Int) × Int, spec_l3Any.dec, fun a => [.ptr 0 0], fun a => [.box false [.imm (.I .u8 a.1), .int .i64 a.2]], fun k a => spec_l3Any.f k a.1 a.2, fun a r => spec_l3Any.en r, true⟩
theorem spec_l3Any.dok : spec_l3Any.tw.DecOk := by
  intro args hc a h
  have h : spec_l3Any.dec args hc = some a := h
  unfold spec_l3Any.dec at h
  split at h
  · cases h; exact ⟨rfl, rfl⟩
  · cases h
noncomputable def spec_l3Any.O (k : Nat) : Oracle := (spec_l3Draw.tw.orc k (spec_l3Bad.tw.orc k noO))
def spec_l3Any.fh : FH := ⟨fun i => match i with | _ => none, [(false, 3), (false, 3), (false, 77)], false⟩
set_option maxRecDepth 100000 in
theorem spec_l3Any.ef (k : Nat) (l1_0 : List Int) (a1_1 : Int) : R.start Tryz.prog xhn spec_l3Any.O 1 Tryz.f69 spec_l3Any.fh k [.ptr 0 0] [.box false [.imm (.I .u8 l1_0), .int .i64 a1_1]] = ((spec_l3Draw.f k 3 l1_0 a1_1).bind fun t1 => ((spec_l3Bad.f t1.1 t1.2.1 t1.2.2.1 t1.2.2.2.1 t1.2.2.2.2.1 t1.2.2.2.2.2).bind fun t2 => (some (spec_l3Any.en (t2.1, t2.2.1, t2.2.2.1, t2.2.2.2.1, t2.2.2.2.2.1, t2.2.2.2.2.2))))) := by kernel_rfl
theorem spec_l3Any.sf (k : Nat) (l1_0 : List Int) (a1_1 : Int) : R.start Tryz.prog xhn spec_l3Any.O 1 Tryz.f69 spec_l3Any.fh k [.ptr 0 0] [.box false [.imm (.I .u8 l1_0), .int .i64 a1_1]] = (spec_l3Any.f k l1_0 a1_1).map (spec_l3Any.en) := by
  rw [spec_l3Any.ef]
  simp only [spec_l3Any.f, R.map_ite, R.map_bind, R.map_none, R.map_some, R.wr64_eq]
theorem spec_l3Any.ok (k : Nat) : spec_l3Any.tw.Ok Tryz.prog k := by
  intro md hmd a r h
  refine fn_ok (H := xhn) (fh := spec_l3Any.fh) (O := spec_l3Any.O) (k := k) Tryz.func69 (by kernel_rfl) (by kernel_rfl) (fun j _ => (Tw.orc_sound spec_l3Draw.dok (spec_l3Draw.ok j) (fun _ => rfl) (Tw.orc_sound spec_l3Bad.dok (spec_l3Bad.ok j) (fun _ => rfl) noO_sound))) (by kernel_rfl) (m := 1) rfl ?_
  refine (spec_l3Any.sf k a.1 a.2).trans ?_
  exact congrArg (Option.map _) h
def spec_l4Draw.l0 : Nat → ByteArray → Int → Int → (List Int) → Int → Option (ByteArray × (List Int) × Int)
  | 0, _, _, _, _, _ => none
  | k + 1, x5, x9, x10, y0_0, y0_1 => (if x10 < x9 then ((spec_l13Rd_of.f ([(⟨#[97]⟩ : ByteArray), (⟨#[98]⟩ : ByteArray)]) y0_0 y0_1).bind fun t2 => (if x5.size + t2.1.size ≤ 9223372036854775807 then (spec_l4Draw.l0 k (x5 ++ t2.1) x9 (wrap64 (x10 + 1)) t2.2.1 t2.2.2) else none)) else (some (x5, y0_0, y0_1)))
def spec_l4Draw.f (k : Nat) (a1 : Int) (l2_0 : List Int) (a2_1 : Int) : Option (ByteArray × (List Int) × Int) := ((spec_l13Rd_pick.f (wrap64 (a1 + 1)) l2_0 a2_1).bind fun t1 => (spec_l4Draw.l0 k (⟨#[]⟩ : ByteArray) t1.1 0 t1.2.1 t1.2.2))
def spec_l4Draw.en (r : ByteArray × (List Int) × Int) : Res := (.str r.1, [.box false [.imm (.I .u8 r.2.1), .int .i64 r.2.2]])
def spec_l4Draw.dec : List AV → List R.Obj → Option (Int × (List Int) × Int)
  | [.ptr 0 0, .int .i64 a1], [.box false [.imm (.I .u8 l2_0), .int .i64 a2_1]] => some (a1, l2_0, a2_1)
  | _, _ => none
def spec_l4Draw.tw : Tw := ⟨110, Int × (List Int) × Int, ByteArray × (List Int) × Int, spec_l4Draw.dec, fun a => [.ptr 0 0, .int .i64 a.1], fun a => [.box false [.imm (.I .u8 a.2.1), .int .i64 a.2.2]], fun k a => spec_l4Draw.f k a.1 a.2.1 a.2.2, fun a r => spec_l4Draw.en r, true⟩
theorem spec_l4Draw.dok : spec_l4Draw.tw.DecOk := by
  intro args hc a h
  have h : spec_l4Draw.dec args hc = some a := h
  unfold spec_l4Draw.dec at h
  split at h
  · cases h; exact ⟨rfl, rfl⟩
  · cases h
noncomputable def spec_l4Draw.O (k : Nat) : Oracle := (spec_l13Rd_pick.tw.orc k (spec_l13Rd_of.tw.orc k noO))
def spec_l4Draw.fh : FH := ⟨fun i => match i with | 3 => some [(0, 0), (5, 0), (9, 0), (10, 0)] | _ => none, [], false⟩
noncomputable def spec_l4Draw.x0 (k : Nat) (x5 : ByteArray) (x9 : Int) (x10 : Int) (y0_0 : List Int) (y0_1 : Int) : Option Res := R.exec Tryz.prog xhn spec_l4Draw.O 1 Tryz.f110 spec_l4Draw.fh k (R.point Tryz.f110 3) ⟨[(0, .ptr 0 0), (5, .str x5), (9, .int .i64 x9), (10, .int .i64 x10)], [(0, .box false [.imm (.I .u8 y0_0), .int .i64 y0_1])], 3⟩
set_option maxRecDepth 100000 in
theorem spec_l4Draw.e0 (k : Nat) (x5 : ByteArray) (x9 : Int) (x10 : Int) (y0_0 : List Int) (y0_1 : Int) : spec_l4Draw.x0 (k + 1) x5 x9 x10 y0_0 y0_1 = (if x10 < x9 then ((spec_l13Rd_of.f ([(⟨#[97]⟩ : ByteArray), (⟨#[98]⟩ : ByteArray)]) y0_0 y0_1).bind fun t2 => (if x5.size + t2.1.size ≤ 9223372036854775807 then (spec_l4Draw.x0 k (x5 ++ t2.1) x9 (wr64 (x10 + 1)) t2.2.1 t2.2.2) else none)) else (some (spec_l4Draw.en (x5, y0_0, y0_1)))) := by kernel_rfl
set_option maxRecDepth 100000 in
theorem spec_l4Draw.ef (k : Nat) (a1 : Int) (l2_0 : List Int) (a2_1 : Int) : R.start Tryz.prog xhn spec_l4Draw.O 1 Tryz.f110 spec_l4Draw.fh k [.ptr 0 0, .int .i64 a1] [.box false [.imm (.I .u8 l2_0), .int .i64 a2_1]] = ((spec_l13Rd_pick.f (wr64 (a1 + 1)) l2_0 a2_1).bind fun t1 => (spec_l4Draw.x0 k (⟨#[]⟩ : ByteArray) t1.1 0 t1.2.1 t1.2.2)) := by kernel_rfl
theorem spec_l4Draw.link : ∀ k, (∀ (x5 : ByteArray) (x9 : Int) (x10 : Int) (y0_0 : List Int) (y0_1 : Int), spec_l4Draw.x0 k x5 x9 x10 y0_0 y0_1 = (spec_l4Draw.l0 k x5 x9 x10 y0_0 y0_1).map (spec_l4Draw.en))
  | 0 => fun _ _ _ _ _ => by simp only [spec_l4Draw.l0, R.map_none]; rfl
  | k + 1 => by
    have ih0 := spec_l4Draw.link k
    · intro x5 x9 x10 y0_0 y0_1
      rw [spec_l4Draw.e0]
      simp only [spec_l4Draw.l0, R.map_ite, R.map_bind, R.map_none, R.map_some, R.wr64_eq, ← ih0]
theorem spec_l4Draw.sf (k : Nat) (a1 : Int) (l2_0 : List Int) (a2_1 : Int) : R.start Tryz.prog xhn spec_l4Draw.O 1 Tryz.f110 spec_l4Draw.fh k [.ptr 0 0, .int .i64 a1] [.box false [.imm (.I .u8 l2_0), .int .i64 a2_1]] = (spec_l4Draw.f k a1 l2_0 a2_1).map (spec_l4Draw.en) := by
  have ih0 := spec_l4Draw.link k
  rw [spec_l4Draw.ef]
  simp only [spec_l4Draw.f, R.map_ite, R.map_bind, R.map_none, R.map_some, R.wr64_eq, ← ih0]
theorem spec_l4Draw.ok (k : Nat) : spec_l4Draw.tw.Ok Tryz.prog k := by
  intro md hmd a r h
  refine fn_ok (H := xhn) (fh := spec_l4Draw.fh) (O := spec_l4Draw.O) (k := k) Tryz.func110 (by kernel_rfl) (by kernel_rfl) (fun j _ => (Tw.orc_sound spec_l13Rd_pick.dok (spec_l13Rd_pick.ok j) (fun _ => rfl) (Tw.orc_sound spec_l13Rd_of.dok (spec_l13Rd_of.ok j) (fun _ => rfl) noO_sound))) (by kernel_rfl) (m := 1) rfl ?_
  refine (spec_l4Draw.sf k a.1 a.2.1 a.2.2).trans ?_
  exact congrArg (Option.map _) h
def spec_l4Word.f (k : Nat) (l1_0 : List Int) (a1_1 : Int) : Option (ByteArray × (List Int) × Int) := ((spec_l13Rd_pick.f 24 l1_0 a1_1).bind fun t1 => (if t1.1 = 0 then ((spec_l4Draw.f k 4 t1.2.1 t1.2.2).bind fun t2 => ((spec_l13Rd_of.f ([(⟨#[99]⟩ : ByteArray), (⟨#[32]⟩ : ByteArray), (⟨#[65]⟩ : ByteArray)]) t2.2.1 t2.2.2).bind fun t3 => (if t2.1.size + t3.1.size ≤ 9223372036854775807 then (some ((t2.1 ++ t3.1), t3.2.1, t3.2.2)) else none))) else ((spec_l4Draw.f k 9 t1.2.1 t1.2.2).bind fun t4 => (some (t4.1, t4.2.1, t4.2.2)))))
def spec_l4Word.en (r : ByteArray × (List Int) × Int) : Res := (.str r.1, [.box false [.imm (.I .u8 r.2.1), .int .i64 r.2.2]])
def spec_l4Word.dec : List AV → List R.Obj → Option ((List Int) × Int)
  | [.ptr 0 0], [.box false [.imm (.I .u8 l1_0), .int .i64 a1_1]] => some (l1_0, a1_1)
  | _, _ => none
def spec_l4Word.tw : Tw := ⟨70, (List Int) × Int, ByteArray × (List Int) × Int, spec_l4Word.dec, fun a => [.ptr 0 0], fun a => [.box false [.imm (.I .u8 a.1), .int .i64 a.2]], fun k a => spec_l4Word.f k a.1 a.2, fun a r => spec_l4Word.en r, true⟩
theorem spec_l4Word.dok : spec_l4Word.tw.DecOk := by
  intro args hc a h
  have h : spec_l4Word.dec args hc = some a := h
  unfold spec_l4Word.dec at h
  split at h
  · cases h; exact ⟨rfl, rfl⟩
  · cases h
noncomputable def spec_l4Word.O (k : Nat) : Oracle := (spec_l13Rd_pick.tw.orc k (spec_l4Draw.tw.orc k (spec_l13Rd_of.tw.orc k noO)))
def spec_l4Word.fh : FH := ⟨fun i => match i with | _ => none, [], false⟩
set_option maxRecDepth 100000 in
theorem spec_l4Word.ef (k : Nat) (l1_0 : List Int) (a1_1 : Int) : R.start Tryz.prog xhn spec_l4Word.O 1 Tryz.f70 spec_l4Word.fh k [.ptr 0 0] [.box false [.imm (.I .u8 l1_0), .int .i64 a1_1]] = ((spec_l13Rd_pick.f 24 l1_0 a1_1).bind fun t1 => (if t1.1 = 0 then ((spec_l4Draw.f k 4 t1.2.1 t1.2.2).bind fun t2 => ((spec_l13Rd_of.f ([(⟨#[99]⟩ : ByteArray), (⟨#[32]⟩ : ByteArray), (⟨#[65]⟩ : ByteArray)]) t2.2.1 t2.2.2).bind fun t3 => (if t2.1.size + t3.1.size ≤ 9223372036854775807 then (some (spec_l4Word.en ((t2.1 ++ t3.1), t3.2.1, t3.2.2))) else none))) else ((spec_l4Draw.f k 9 t1.2.1 t1.2.2).bind fun t4 => (some (spec_l4Word.en (t4.1, t4.2.1, t4.2.2)))))) := by kernel_rfl
theorem spec_l4Word.sf (k : Nat) (l1_0 : List Int) (a1_1 : Int) : R.start Tryz.prog xhn spec_l4Word.O 1 Tryz.f70 spec_l4Word.fh k [.ptr 0 0] [.box false [.imm (.I .u8 l1_0), .int .i64 a1_1]] = (spec_l4Word.f k l1_0 a1_1).map (spec_l4Word.en) := by
  rw [spec_l4Word.ef]
  simp only [spec_l4Word.f, R.map_ite, R.map_bind, R.map_none, R.map_some, R.wr64_eq]
theorem spec_l4Word.ok (k : Nat) : spec_l4Word.tw.Ok Tryz.prog k := by
  intro md hmd a r h
  refine fn_ok (H := xhn) (fh := spec_l4Word.fh) (O := spec_l4Word.O) (k := k) Tryz.func70 (by kernel_rfl) (by kernel_rfl) (fun j _ => (Tw.orc_sound spec_l13Rd_pick.dok (spec_l13Rd_pick.ok j) (fun _ => rfl) (Tw.orc_sound spec_l4Draw.dok (spec_l4Draw.ok j) (fun _ => rfl) (Tw.orc_sound spec_l13Rd_of.dok (spec_l13Rd_of.ok j) (fun _ => rfl) noO_sound)))) (by kernel_rfl) (m := 1) rfl ?_
  refine (spec_l4Word.sf k a.1 a.2).trans ?_
  exact congrArg (Option.map _) h
def spec_l4Some.f (k : Nat) (l1_0 : List Int) (a1_1 : Int) : Option (Int × (List Int) × (List Int) × (List Stp) × ByteArray × (List Int) × Int) := ((spec_l3Any.f k l1_0 a1_1).bind fun t1 => ((spec_l4Word.f k t1.2.2.2.2.1 t1.2.2.2.2.2).bind fun t2 => (some (t1.1, t1.2.1, t1.2.2.1, t1.2.2.2.1, t2.1, t2.2.1, t2.2.2))))
def spec_l4Some.en (r : Int × (List Int) × (List Int) × (List Stp) × ByteArray × (List Int) × Int) : Res := (.tup [.agg [.int .i64 r.1, .imm (.I .i64 r.2.1), .imm (.I .i64 r.2.2.1), .imm (.T r.2.2.2.1)], .str r.2.2.2.2.1], [.box false [.imm (.I .u8 r.2.2.2.2.2.1), .int .i64 r.2.2.2.2.2.2]])
def spec_l4Some.dec : List AV → List R.Obj → Option ((List Int) × Int)
  | [.ptr 0 0], [.box false [.imm (.I .u8 l1_0), .int .i64 a1_1]] => some (l1_0, a1_1)
  | _, _ => none
def spec_l4Some.tw : Tw := ⟨33, (List Int) × Int, Int × (List Int) × (List Int) × (List Stp) × ByteArray × (List Int) × Int, spec_l4Some.dec, fun a => [.ptr 0 0], fun a => [.box false [.imm (.I .u8 a.1), .int .i64 a.2]], fun k a => spec_l4Some.f k a.1 a.2, fun a r => spec_l4Some.en r, true⟩
theorem spec_l4Some.dok : spec_l4Some.tw.DecOk := by
  intro args hc a h
  have h : spec_l4Some.dec args hc = some a := h
  unfold spec_l4Some.dec at h
  split at h
  · cases h; exact ⟨rfl, rfl⟩
  · cases h
noncomputable def spec_l4Some.O (k : Nat) : Oracle := (spec_l3Any.tw.orc k (spec_l4Word.tw.orc k noO))
def spec_l4Some.fh : FH := ⟨fun i => match i with | _ => none, [(false, 3), (false, 3), (false, 77)], false⟩
set_option maxRecDepth 100000 in
theorem spec_l4Some.ef (k : Nat) (l1_0 : List Int) (a1_1 : Int) : R.start Tryz.prog xhn spec_l4Some.O 1 Tryz.f33 spec_l4Some.fh k [.ptr 0 0] [.box false [.imm (.I .u8 l1_0), .int .i64 a1_1]] = ((spec_l3Any.f k l1_0 a1_1).bind fun t1 => ((spec_l4Word.f k t1.2.2.2.2.1 t1.2.2.2.2.2).bind fun t2 => (some (spec_l4Some.en (t1.1, t1.2.1, t1.2.2.1, t1.2.2.2.1, t2.1, t2.2.1, t2.2.2))))) := by kernel_rfl
theorem spec_l4Some.sf (k : Nat) (l1_0 : List Int) (a1_1 : Int) : R.start Tryz.prog xhn spec_l4Some.O 1 Tryz.f33 spec_l4Some.fh k [.ptr 0 0] [.box false [.imm (.I .u8 l1_0), .int .i64 a1_1]] = (spec_l4Some.f k l1_0 a1_1).map (spec_l4Some.en) := by
  rw [spec_l4Some.ef]
  simp only [spec_l4Some.f, R.map_ite, R.map_bind, R.map_none, R.map_some, R.wr64_eq]
theorem spec_l4Some.ok (k : Nat) : spec_l4Some.tw.Ok Tryz.prog k := by
  intro md hmd a r h
  refine fn_ok (H := xhn) (fh := spec_l4Some.fh) (O := spec_l4Some.O) (k := k) Tryz.func33 (by kernel_rfl) (by kernel_rfl) (fun j _ => (Tw.orc_sound spec_l3Any.dok (spec_l3Any.ok j) (fun _ => rfl) (Tw.orc_sound spec_l4Word.dok (spec_l4Word.ok j) (fun _ => rfl) noO_sound))) (by kernel_rfl) (m := 1) rfl ?_
  refine (spec_l4Some.sf k a.1 a.2).trans ?_
  exact congrArg (Option.map _) h
def spec_DrawWordMatrix.f (k : Nat) (l0 : List Int) : Option (Int × (List Int) × (List Int) × (List Stp) × ByteArray) := ((spec_l13Open.f l0).bind fun t1 => ((spec_l4Some.f k t1.1 t1.2).bind fun t2 => (some (t2.1, t2.2.1, t2.2.2.1, t2.2.2.2.1, t2.2.2.2.2.1))))
def spec_DrawWordMatrix.en (r : Int × (List Int) × (List Int) × (List Stp) × ByteArray) : Res := (.tup [.agg [.int .i64 r.1, .imm (.I .i64 r.2.1), .imm (.I .i64 r.2.2.1), .imm (.T r.2.2.2.1)], .str r.2.2.2.2], [])
def spec_DrawWordMatrix.dec : List AV → List R.Obj → Option (List Int)
  | [.imm (.I .u8 l0)], [] => some l0
  | _, _ => none
def spec_DrawWordMatrix.tw : Tw := ⟨7, List Int, Int × (List Int) × (List Int) × (List Stp) × ByteArray, spec_DrawWordMatrix.dec, fun a => [.imm (.I .u8 a)], fun a => [], fun k a => spec_DrawWordMatrix.f k a, fun a r => spec_DrawWordMatrix.en r, true⟩
theorem spec_DrawWordMatrix.dok : spec_DrawWordMatrix.tw.DecOk := by
  intro args hc a h
  have h : spec_DrawWordMatrix.dec args hc = some a := h
  unfold spec_DrawWordMatrix.dec at h
  split at h
  · cases h; exact ⟨rfl, rfl⟩
  · cases h
noncomputable def spec_DrawWordMatrix.O (k : Nat) : Oracle := (spec_l13Open.tw.orc k (spec_l4Some.tw.orc k noO))
def spec_DrawWordMatrix.fh : FH := ⟨fun i => match i with | _ => none, [(false, 3), (false, 3), (false, 77)], false⟩
set_option maxRecDepth 100000 in
theorem spec_DrawWordMatrix.ef (k : Nat) (l0 : List Int) : R.start Tryz.prog xhn spec_DrawWordMatrix.O 0 Tryz.f7 spec_DrawWordMatrix.fh k [.imm (.I .u8 l0)] [] = ((spec_l13Open.f l0).bind fun t1 => ((spec_l4Some.f k t1.1 t1.2).bind fun t2 => (some (spec_DrawWordMatrix.en (t2.1, t2.2.1, t2.2.2.1, t2.2.2.2.1, t2.2.2.2.2.1))))) := by kernel_rfl
theorem spec_DrawWordMatrix.sf (k : Nat) (l0 : List Int) : R.start Tryz.prog xhn spec_DrawWordMatrix.O 0 Tryz.f7 spec_DrawWordMatrix.fh k [.imm (.I .u8 l0)] [] = (spec_DrawWordMatrix.f k l0).map (spec_DrawWordMatrix.en) := by
  rw [spec_DrawWordMatrix.ef]
  simp only [spec_DrawWordMatrix.f, R.map_ite, R.map_bind, R.map_none, R.map_some, R.wr64_eq]
theorem spec_DrawWordMatrix.ok (k : Nat) : spec_DrawWordMatrix.tw.Ok Tryz.prog k := by
  intro md hmd a r h
  refine fn_ok (H := xhn) (fh := spec_DrawWordMatrix.fh) (O := spec_DrawWordMatrix.O) (k := k) Tryz.func7 (by kernel_rfl) (by kernel_rfl) (fun j _ => (Tw.orc_sound spec_l13Open.dok (spec_l13Open.ok j) (fun _ => rfl) (Tw.orc_sound spec_l4Some.dok (spec_l4Some.ok j) (fun _ => rfl) noO_sound))) (by kernel_rfl) (m := 0) rfl ?_
  refine (spec_DrawWordMatrix.sf k a).trans ?_
  exact congrArg (Option.map _) h
def impl_statesOk.l0 : Nat → (List Int) → Int → (List Int) → Int → Int → Option (Bool)
  | 0, _, _, _, _, _ => none
  | k + 1, x0, x1, x7, x8, x9 => (if x9 < x8 then (if 0 ≤ x9 then (if x9 < (x7.length : Int) then (if (rdI x7 x9) < 0 then (some false) else (if (rdI x7 x9) ≥ x1 then (some false) else (if x9 > 0 then (if 0 ≤ (wrap64 (x9 - 1)) then (if (wrap64 (x9 - 1)) < (x0.length : Int) then (if (rdI x0 (wrap64 (x9 - 1))) ≥ (rdI x7 x9) then (some false) else (impl_statesOk.l0 k x0 x1 x7 x8 (wrap64 (x9 + 1)))) else none) else none) else (impl_statesOk.l0 k x0 x1 x7 x8 (wrap64 (x9 + 1)))))) else none) else none) else (some true))
def impl_statesOk.f (k : Nat) (l0 : List Int) (a1 : Int) : Option (Bool) := (impl_statesOk.l0 k l0 a1 l0 (l0.length : Int) 0)
def impl_statesOk.en (r : Bool) : Res := (.lit r, [])
def impl_statesOk.dec : List AV → List R.Obj → Option ((List Int) × Int)
  | [.imm (.I .i64 l0), .int .i64 a1], [] => some (l0, a1)
  | _, _ => none
def impl_statesOk.tw : Tw := ⟨71, (List Int) × Int, Bool, impl_statesOk.dec, fun a => [.imm (.I .i64 a.1), .int .i64 a.2], fun a => [], fun k a => impl_statesOk.f k a.1 a.2, fun a r => impl_statesOk.en r, true⟩
theorem impl_statesOk.dok : impl_statesOk.tw.DecOk := by
  intro args hc a h
  have h : impl_statesOk.dec args hc = some a := h
  unfold impl_statesOk.dec at h
  split at h
  · cases h; exact ⟨rfl, rfl⟩
  · cases h
noncomputable def impl_statesOk.O (k : Nat) : Oracle := noO
def impl_statesOk.fh : FH := ⟨fun i => match i with | 2 => some [(0, 0), (1, 0), (7, 0), (8, 0), (9, 0)] | _ => none, [], false⟩
noncomputable def impl_statesOk.x0 (k : Nat) (x0 : List Int) (x1 : Int) (x7 : List Int) (x8 : Int) (x9 : Int) : Option Res := R.exec Tryz.prog xhn impl_statesOk.O 0 Tryz.f71 impl_statesOk.fh k (R.point Tryz.f71 2) ⟨[(0, .imm (.I .i64 x0)), (1, .int .i64 x1), (7, .imm (.I .i64 x7)), (8, .int .i64 x8), (9, .int .i64 x9)], [], 2⟩
set_option maxRecDepth 100000 in
theorem impl_statesOk.e0 (k : Nat) (x0 : List Int) (x1 : Int) (x7 : List Int) (x8 : Int) (x9 : Int) : impl_statesOk.x0 (k + 1) x0 x1 x7 x8 x9 = (if x9 < x8 then (if 0 ≤ x9 then (if x9 < (x7.length : Int) then (if (rdI x7 x9) < 0 then (some (impl_statesOk.en false)) else (if (rdI x7 x9) ≥ x1 then (some (impl_statesOk.en false)) else (if x9 > 0 then (if 0 ≤ (wr64 (x9 - 1)) then (if (wr64 (x9 - 1)) < (x0.length : Int) then (if (rdI x0 (wr64 (x9 - 1))) ≥ (rdI x7 x9) then (some (impl_statesOk.en false)) else (impl_statesOk.x0 k x0 x1 x7 x8 (wr64 (x9 + 1)))) else none) else none) else (impl_statesOk.x0 k x0 x1 x7 x8 (wr64 (x9 + 1)))))) else none) else none) else (some (impl_statesOk.en true))) := by kernel_rfl
set_option maxRecDepth 100000 in
theorem impl_statesOk.ef (k : Nat) (l0 : List Int) (a1 : Int) : R.start Tryz.prog xhn impl_statesOk.O 0 Tryz.f71 impl_statesOk.fh k [.imm (.I .i64 l0), .int .i64 a1] [] = (impl_statesOk.x0 k l0 a1 l0 (l0.length : Int) 0) := by kernel_rfl
theorem impl_statesOk.link : ∀ k, (∀ (x0 : List Int) (x1 : Int) (x7 : List Int) (x8 : Int) (x9 : Int), impl_statesOk.x0 k x0 x1 x7 x8 x9 = (impl_statesOk.l0 k x0 x1 x7 x8 x9).map (impl_statesOk.en))
  | 0 => fun _ _ _ _ _ => by simp only [impl_statesOk.l0, R.map_none]; rfl
  | k + 1 => by
    have ih0 := impl_statesOk.link k
    · intro x0 x1 x7 x8 x9
      rw [impl_statesOk.e0]
      simp only [impl_statesOk.l0, R.map_ite, R.map_bind, R.map_none, R.map_some, R.wr64_eq, ← ih0]
theorem impl_statesOk.sf (k : Nat) (l0 : List Int) (a1 : Int) : R.start Tryz.prog xhn impl_statesOk.O 0 Tryz.f71 impl_statesOk.fh k [.imm (.I .i64 l0), .int .i64 a1] [] = (impl_statesOk.f k l0 a1).map (impl_statesOk.en) := by
  have ih0 := impl_statesOk.link k
  rw [impl_statesOk.ef]
  simp only [impl_statesOk.f, R.map_ite, R.map_bind, R.map_none, R.map_some, R.wr64_eq, ← ih0]
theorem impl_statesOk.ok (k : Nat) : impl_statesOk.tw.Ok Tryz.prog k := by
  intro md hmd a r h
  refine fn_ok (H := xhn) (fh := impl_statesOk.fh) (O := impl_statesOk.O) (k := k) Tryz.func71 (by kernel_rfl) (by kernel_rfl) (fun j _ => noO_sound) (by kernel_rfl) (m := 0) rfl ?_
  refine (impl_statesOk.sf k a.1 a.2).trans ?_
  exact congrArg (Option.map _) h
def cmp_isNaN_int.f (a0 : Int) : Option (Bool) := (some (!decide (a0 = a0)))
def cmp_isNaN_int.en (r : Bool) : Res := (.lit r, [])
def cmp_isNaN_int.dec : List AV → List R.Obj → Option (Int)
  | [.int .i64 a0], [] => some a0
  | _, _ => none
def cmp_isNaN_int.tw : Tw := ⟨135, Int, Bool, cmp_isNaN_int.dec, fun a => [.int .i64 a], fun a => [], fun k a => cmp_isNaN_int.f a, fun a r => cmp_isNaN_int.en r, true⟩
theorem cmp_isNaN_int.dok : cmp_isNaN_int.tw.DecOk := by
  intro args hc a h
  have h : cmp_isNaN_int.dec args hc = some a := h
  unfold cmp_isNaN_int.dec at h
  split at h
  · cases h; exact ⟨rfl, rfl⟩
  · cases h
noncomputable def cmp_isNaN_int.O (k : Nat) : Oracle := noO
def cmp_isNaN_int.fh : FH := ⟨fun i => match i with | _ => none, [], false⟩
set_option maxRecDepth 100000 in
theorem cmp_isNaN_int.ef (k : Nat) (a0 : Int) : R.start Tryz.prog xhn cmp_isNaN_int.O 0 Tryz.f135 cmp_isNaN_int.fh k [.int .i64 a0] [] = (some (cmp_isNaN_int.en (!decide (a0 = a0)))) := by kernel_rfl
theorem cmp_isNaN_int.sf (k : Nat) (a0 : Int) : R.start Tryz.prog xhn cmp_isNaN_int.O 0 Tryz.f135 cmp_isNaN_int.fh k [.int .i64 a0] [] = (cmp_isNaN_int.f a0).map (cmp_isNaN_int.en) := by
  rw [cmp_isNaN_int.ef]
  simp only [cmp_isNaN_int.f, R.map_ite, R.map_bind, R.map_none, R.map_some, R.wr64_eq]
theorem cmp_isNaN_int.ok (k : Nat) : cmp_isNaN_int.tw.Ok Tryz.prog k := by
  intro md hmd a r h
  refine fn_ok (H := xhn) (fh := cmp_isNaN_int.fh) (O := cmp_isNaN_int.O) (k := k) Tryz.func135 (by kernel_rfl) (by kernel_rfl) (fun j _ => noO_sound) (by kernel_rfl) (m := 0) rfl ?_
  refine (cmp_isNaN_int.sf k a).trans ?_
  exact congrArg (Option.map _) h
def cmp_Compare_int.f (a0 : Int) (a1 : Int) : Option (Int) := ((cmp_isNaN_int.f a0).bind fun t1 => ((cmp_isNaN_int.f a1).bind fun t2 => (if t1 = true then (if t2 = true then (some 0) else (some (-1))) else (if t2 = true then (some 1) else (if a0 < a1 then (some (-1)) else (if a0 > a1 then (some 1) else (some 0)))))))
def cmp_Compare_int.en (r : Int) : Res := (.int .i64 r, [])
def cmp_Compare_int.dec : List AV → List R.Obj → Option (Int × Int)
  | [.int .i64 a0, .int .i64 a1], [] => some (a0, a1)
  | _, _ => none
def cmp_Compare_int.tw : Tw := ⟨113, Int × Int, Int, cmp_Compare_int.dec, fun a => [.int .i64 a.1, .int .i64 a.2], fun a => [], fun k a => cmp_Compare_int.f a.1 a.2, fun a r => cmp_Compare_int.en r, true⟩
theorem cmp_Compare_int.dok : cmp_Compare_int.tw.DecOk := by
  intro args hc a h
  have h : cmp_Compare_int.dec args hc = some a := h
  unfold cmp_Compare_int.dec at h
  split at h
  · cases h; exact ⟨rfl, rfl⟩
  · cases h
noncomputable def cmp_Compare_int.O (k : Nat) : Oracle := (cmp_isNaN_int.tw.orc k noO)
def cmp_Compare_int.fh : FH := ⟨fun i => match i with | _ => none, [], false⟩
set_option maxRecDepth 100000 in
theorem cmp_Compare_int.ef (k : Nat) (a0 : Int) (a1 : Int) : R.start Tryz.prog xhn cmp_Compare_int.O 0 Tryz.f113 cmp_Compare_int.fh k [.int .i64 a0, .int .i64 a1] [] = ((cmp_isNaN_int.f a0).bind fun t1 => ((cmp_isNaN_int.f a1).bind fun t2 => (if t1 = true then (if t2 = true then (some (cmp_Compare_int.en 0)) else (some (cmp_Compare_int.en (-1)))) else (if t2 = true then (some (cmp_Compare_int.en 1)) else (if a0 < a1 then (some (cmp_Compare_int.en (-1))) else (if a0 > a1 then (some (cmp_Compare_int.en 1)) else (some (cmp_Compare_int.en 0)))))))) := by kernel_rfl
theorem cmp_Compare_int.sf (k : Nat) (a0 : Int) (a1 : Int) : R.start Tryz.prog xhn cmp_Compare_int.O 0 Tryz.f113 cmp_Compare_int.fh k [.int .i64 a0, .int .i64 a1] [] = (cmp_Compare_int.f a0 a1).map (cmp_Compare_int.en) := by
  rw [cmp_Compare_int.ef]
  simp only [cmp_Compare_int.f, R.map_ite, R.map_bind, R.map_none, R.map_some, R.wr64_eq]
theorem cmp_Compare_int.ok (k : Nat) : cmp_Compare_int.tw.Ok Tryz.prog k := by
  intro md hmd a r h
  refine fn_ok (H := xhn) (fh := cmp_Compare_int.fh) (O := cmp_Compare_int.O) (k := k) Tryz.func113 (by kernel_rfl) (by kernel_rfl) (fun j _ => (Tw.orc_sound cmp_isNaN_int.dok (cmp_isNaN_int.ok j) (fun _ => rfl) noO_sound)) (by kernel_rfl) (m := 0) rfl ?_
  refine (cmp_Compare_int.sf k a.1 a.2).trans ?_
  exact congrArg (Option.map _) h
def bytealg_CompareString.f (a0 a1 : ByteArray) : Option Int := some (Lib.compareBytes a0.data.toList a1.data.toList)
def bytealg_CompareString.dec : List AV → List R.Obj → Option (ByteArray × ByteArray)
  | [.str a0, .str a1], [] => some (a0, a1)
  | _, _ => none
def bytealg_CompareString.tw : Tw := ⟨136, ByteArray × ByteArray, Int, bytealg_CompareString.dec, fun a => [.str a.1, .str a.2], fun a => [], fun k a => bytealg_CompareString.f a.1 a.2, fun a r => (.int .i64 r, []), true⟩
theorem bytealg_CompareString.dok : bytealg_CompareString.tw.DecOk := by
  intro args hc a h
  have h : bytealg_CompareString.dec args hc = some a := h
  unfold bytealg_CompareString.dec at h
  split at h
  · cases h; exact ⟨rfl, rfl⟩
  · cases h
set_option maxRecDepth 100000 in
set_option maxHeartbeats 8000000 in
theorem bytealg_CompareString.calls (a0 a1 : ByteArray) (w : World) : Calls Tryz.prog 136 #[.string a0, .string a1] w fun e w' => e = .returned (.int .i64 (Lib.compareBytes a0.data.toList a1.data.toList)) ∧ w' = w := by
  go_enter Tryz.func136, Tryz.ntmps136
  go_wp2
  rw [run_callFunc_extern Tryz.func163 (by kernel_rfl) (by kernel_rfl) (by kernel_rfl) (e := Extern.BytealgCompare.compare) (by kernel_rfl), Lib.run_compareString]
  simp only [Result.andThen]
  rw [Oper.upon_value]
  go_wp2
  go_ret
  exact ⟨rfl, rfl⟩
theorem bytealg_CompareString.ok (k : Nat) : bytealg_CompareString.tw.Ok Tryz.prog k := by
  intro md hmd a r h
  obtain rfl := Option.some.inj (show some _ = some r from h)
  refine ⟨callable_of Tryz.func136 (by kernel_rfl) (by kernel_rfl), fun w M I vs E => ?_⟩
  have e : vs = #[.string a.1, .string a.2] := two_of E.len (fun q => (E.args 0 _ _ rfl q).str_inv) (fun q => (E.args 1 _ _ rfl q).str_inv)
  subst e
  refine (bytealg_CompareString.calls a.1 a.2 w).mono fun e w' => ?_
  rintro ⟨rfl, rfl⟩
  exact ⟨_, M, rfl, (E.rel md).weaken (fun κ q => q.elim), .closed (.int _ _)⟩
def strings_Compare.f (a0 : ByteArray) (a1 : ByteArray) : Option (Int) := ((bytealg_CompareString.f a0 a1).bind fun t1 => (some t1))
def strings_Compare.en (r : Int) : Res := (.int .i64 r, [])
def strings_Compare.dec : List AV → List R.Obj → Option (ByteArray × ByteArray)
  | [.str a0, .str a1], [] => some (a0, a1)
  | _, _ => none
def strings_Compare.tw : Tw := ⟨114, ByteArray × ByteArray, Int, strings_Compare.dec, fun a => [.str a.1, .str a.2], fun a => [], fun k a => strings_Compare.f a.1 a.2, fun a r => strings_Compare.en r, true⟩
theorem strings_Compare.dok : strings_Compare.tw.DecOk := by
  intro args hc a h
  have h : strings_Compare.dec args hc = some a := h
  unfold strings_Compare.dec at h
  split at h
  · cases h; exact ⟨rfl, rfl⟩
  · cases h
noncomputable def strings_Compare.O (k : Nat) : Oracle := (bytealg_CompareString.tw.orc k noO)
def strings_Compare.fh : FH := ⟨fun i => match i with | _ => none, [], false⟩
set_option maxRecDepth 100000 in
theorem strings_Compare.ef (k : Nat) (a0 : ByteArray) (a1 : ByteArray) : R.start Tryz.prog xhn strings_Compare.O 0 Tryz.f114 strings_Compare.fh k [.str a0, .str a1] [] = ((bytealg_CompareString.f a0 a1).bind fun t1 => (some (strings_Compare.en t1))) := by kernel_rfl
theorem strings_Compare.sf (k : Nat) (a0 : ByteArray) (a1 : ByteArray) : R.start Tryz.prog xhn strings_Compare.O 0 Tryz.f114 strings_Compare.fh k [.str a0, .str a1] [] = (strings_Compare.f a0 a1).map (strings_Compare.en) := by
  rw [strings_Compare.ef]
  simp only [strings_Compare.f, R.map_ite, R.map_bind, R.map_none, R.map_some, R.wr64_eq]
theorem strings_Compare.ok (k : Nat) : strings_Compare.tw.Ok Tryz.prog k := by
  intro md hmd a r h
  refine fn_ok (H := xhn) (fh := strings_Compare.fh) (O := strings_Compare.O) (k := k) Tryz.func114 (by kernel_rfl) (by kernel_rfl) (fun j _ => (Tw.orc_sound bytealg_CompareString.dok (bytealg_CompareString.ok j) (fun _ => rfl) noO_sound)) (by kernel_rfl) (m := 0) rfl ?_
  refine (strings_Compare.sf k a.1 a.2).trans ?_
  exact congrArg (Option.map _) h
def cmp_Or_int.l0 : Nat → (List Int) → Int → Int → Option (Int)
  | 0, _, _, _ => none
  | k + 1, x6, x7, x8 => (if x8 < x7 then (if 0 ≤ x8 then (if x8 < (x6.length : Int) then (if (rdI x6 x8) = 0 then (cmp_Or_int.l0 k x6 x7 (wrap64 (x8 + 1))) else (some (rdI x6 x8))) else none) else none) else (some 0))
def cmp_Or_int.f (k : Nat) (l0 : List Int) : Option (Int) := (cmp_Or_int.l0 k l0 (l0.length : Int) 0)
def cmp_Or_int.en (r : Int) : Res := (.int .i64 r, [])
def cmp_Or_int.dec : List AV → List R.Obj → Option (List Int)
  | [.imm (.I .i64 l0)], [] => some l0
  | _, _ => none
def cmp_Or_int.tw : Tw := ⟨112, List Int, Int, cmp_Or_int.dec, fun a => [.imm (.I .i64 a)], fun a => [], fun k a => cmp_Or_int.f k a, fun a r => cmp_Or_int.en r, true⟩
theorem cmp_Or_int.dok : cmp_Or_int.tw.DecOk := by
  intro args hc a h
  have h : cmp_Or_int.dec args hc = some a := h
  unfold cmp_Or_int.dec at h
  split at h
  · cases h; exact ⟨rfl, rfl⟩
  · cases h
noncomputable def cmp_Or_int.O (k : Nat) : Oracle := noO
def cmp_Or_int.fh : FH := ⟨fun i => match i with | 3 => some [(3, 0), (6, 0), (7, 0), (8, 0)] | _ => none, [], false⟩
noncomputable def cmp_Or_int.x0 (k : Nat) (x6 : List Int) (x7 : Int) (x8 : Int) : Option Res := R.exec Tryz.prog xhn cmp_Or_int.O 0 Tryz.f112 cmp_Or_int.fh k (R.point Tryz.f112 3) ⟨[(3, .int .i64 0), (6, .imm (.I .i64 x6)), (7, .int .i64 x7), (8, .int .i64 x8)], [], 2⟩
set_option maxRecDepth 100000 in
theorem cmp_Or_int.e0 (k : Nat) (x6 : List Int) (x7 : Int) (x8 : Int) : cmp_Or_int.x0 (k + 1) x6 x7 x8 = (if x8 < x7 then (if 0 ≤ x8 then (if x8 < (x6.length : Int) then (if (rdI x6 x8) = 0 then (cmp_Or_int.x0 k x6 x7 (wr64 (x8 + 1))) else (some (cmp_Or_int.en (rdI x6 x8)))) else none) else none) else (some (cmp_Or_int.en 0))) := by kernel_rfl
set_option maxRecDepth 100000 in
theorem cmp_Or_int.ef (k : Nat) (l0 : List Int) : R.start Tryz.prog xhn cmp_Or_int.O 0 Tryz.f112 cmp_Or_int.fh k [.imm (.I .i64 l0)] [] = (cmp_Or_int.x0 k l0 (l0.length : Int) 0) := by kernel_rfl
theorem cmp_Or_int.link : ∀ k, (∀ (x6 : List Int) (x7 : Int) (x8 : Int), cmp_Or_int.x0 k x6 x7 x8 = (cmp_Or_int.l0 k x6 x7 x8).map (cmp_Or_int.en))
  | 0 => fun _ _ _ => by simp only [cmp_Or_int.l0, R.map_none]; rfl
  | k + 1 => by
    have ih0 := cmp_Or_int.link k
    · intro x6 x7 x8
      rw [cmp_Or_int.e0]
      simp only [cmp_Or_int.l0, R.map_ite, R.map_bind, R.map_none, R.map_some, R.wr64_eq, ← ih0]
theorem cmp_Or_int.sf (k : Nat) (l0 : List Int) : R.start Tryz.prog xhn cmp_Or_int.O 0 Tryz.f112 cmp_Or_int.fh k [.imm (.I .i64 l0)] [] = (cmp_Or_int.f k l0).map (cmp_Or_int.en) := by
  have ih0 := cmp_Or_int.link k
  rw [cmp_Or_int.ef]
  simp only [cmp_Or_int.f, R.map_ite, R.map_bind, R.map_none, R.map_some, R.wr64_eq, ← ih0]
theorem cmp_Or_int.ok (k : Nat) : cmp_Or_int.tw.Ok Tryz.prog k := by
  intro md hmd a r h
  refine fn_ok (H := xhn) (fh := cmp_Or_int.fh) (O := cmp_Or_int.O) (k := k) Tryz.func112 (by kernel_rfl) (by kernel_rfl) (fun j _ => noO_sound) (by kernel_rfl) (m := 0) rfl ?_
  refine (cmp_Or_int.sf k a).trans ?_
  exact congrArg (Option.map _) h
def impl_stepOrder.f (k : Nat) (a0_0 : Int) (a0_1 : ByteArray) (a0_2 : Int) (a0_3 : Int) (a1_0 : Int) (a1_1 : ByteArray) (a1_2 : Int) (a1_3 : Int) : Option (Int) := ((cmp_Compare_int.f a0_0 a1_0).bind fun t1 => ((strings_Compare.f a0_1 a1_1).bind fun t2 => ((cmp_Compare_int.f a0_2 a1_2).bind fun t3 => ((cmp_Or_int.f k ([t1, t2, t3])).bind fun t4 => (some t4)))))
def impl_stepOrder.en (r : Int) : Res := (.int .i64 r, [])
def impl_stepOrder.dec : List AV → List R.Obj → Option (Int × ByteArray × Int × Int × Int × ByteArray × Int × Int)
  | [.agg [.int .i64 a0_0, .str a0_1, .int .i64 a0_2, .int .i64 a0_3], .agg [.int .i64 a1_0, .str a1_1, .int .i64 a1_2, .int .i64 a1_3]], [] => some (a0_0, a0_1, a0_2, a0_3, a1_0, a1_1, a1_2, a1_3)
  | _, _ => none
def impl_stepOrder.tw : Tw := ⟨72, Int × ByteArray × Int × Int × Int × ByteArray × Int × Int, Int, impl_stepOrder.dec, fun a => [.agg [.int .i64 a.1, .str a.2.1, .int .i64 a.2.2.1, .int .i64 a.2.2.2.1], .agg [.int .i64 a.2.2.2.2.1, .str a.2.2.2.2.2.1, .int .i64 a.2.2.2.2.2.2.1, .int .i64 a.2.2.2.2.2.2.2]], fun a => [], fun k a => impl_stepOrder.f k a.1 a.2.1 a.2.2.1 a.2.2.2.1 a.2.2.2.2.1 a.2.2.2.2.2.1 a.2.2.2.2.2.2.1 a.2.2.2.2.2.2.2, fun a r => impl_stepOrder.en r, true⟩
theorem impl_stepOrder.dok : impl_stepOrder.tw.DecOk := by
  intro args hc a h
  have h : impl_stepOrder.dec args hc = some a := h
  unfold impl_stepOrder.dec at h
  split at h
  · cases h; exact ⟨rfl, rfl⟩
  · cases h
noncomputable def impl_stepOrder.O (k : Nat) : Oracle := (cmp_Compare_int.tw.orc k (strings_Compare.tw.orc k (cmp_Or_int.tw.orc k noO)))
def impl_stepOrder.fh : FH := ⟨fun i => match i with | _ => none, [], false⟩
set_option maxRecDepth 100000 in
theorem impl_stepOrder.ef (k : Nat) (a0_0 : Int) (a0_1 : ByteArray) (a0_2 : Int) (a0_3 : Int) (a1_0 : Int) (a1_1 : ByteArray) (a1_2 : Int) (a1_3 : Int) : R.start Tryz.prog xhn impl_stepOrder.O 0 Tryz.f72 impl_stepOrder.fh k [.agg [.int .i64 a0_0, .str a0_1, .int .i64 a0_2, .int .i64 a0_3], .agg [.int .i64 a1_0, .str a1_1, .int .i64 a1_2, .int .i64 a1_3]] [] = ((cmp_Compare_int.f a0_0 a1_0).bind fun t1 => ((strings_Compare.f a0_1 a1_1).bind fun t2 => ((cmp_Compare_int.f a0_2 a1_2).bind fun t3 => ((cmp_Or_int.f k ([t1, t2, t3])).bind fun t4 => (some (impl_stepOrder.en t4)))))) := by kernel_rfl
theorem impl_stepOrder.sf (k : Nat) (a0_0 : Int) (a0_1 : ByteArray) (a0_2 : Int) (a0_3 : Int) (a1_0 : Int) (a1_1 : ByteArray) (a1_2 : Int) (a1_3 : Int) : R.start Tryz.prog xhn impl_stepOrder.O 0 Tryz.f72 impl_stepOrder.fh k [.agg [.int .i64 a0_0, .str a0_1, .int .i64 a0_2, .int .i64 a0_3], .agg [.int .i64 a1_0, .str a1_1, .int .i64 a1_2, .int .i64 a1_3]] [] = (impl_stepOrder.f k a0_0 a0_1 a0_2 a0_3 a1_0 a1_1 a1_2 a1_3).map (impl_stepOrder.en) := by
  rw [impl_stepOrder.ef]
  simp only [impl_stepOrder.f, R.map_ite, R.map_bind, R.map_none, R.map_some, R.wr64_eq]
theorem impl_stepOrder.ok (k : Nat) : impl_stepOrder.tw.Ok Tryz.prog k := by
  intro md hmd a r h
  refine fn_ok (H := xhn) (fh := impl_stepOrder.fh) (O := impl_stepOrder.O) (k := k) Tryz.func72 (by kernel_rfl) (by kernel_rfl) (fun j _ => (Tw.orc_sound cmp_Compare_int.dok (cmp_Compare_int.ok j) (fun _ => rfl) (Tw.orc_sound strings_Compare.dok (strings_Compare.ok j) (fun _ => rfl) (Tw.orc_sound cmp_Or_int.dok (cmp_Or_int.ok j) (fun _ => rfl) noO_sound)))) (by kernel_rfl) (m := 0) rfl ?_
  refine (impl_stepOrder.sf k a.1 a.2.1 a.2.2.1 a.2.2.2.1 a.2.2.2.2.1 a.2.2.2.2.2.1 a.2.2.2.2.2.2.1 a.2.2.2.2.2.2.2).trans ?_
  exact congrArg (Option.map _) h
def impl_AutomatonValid.l0 : Nat → (List Stp) → Int → Int → Int → (List Int) → (List Int) → (List Stp) → Option (Bool)
  | 0, _, _, _, _, _, _, _ => none
  | k + 1, x36, x37, x38, y0_0, y0_1, y0_2, y0_3 => (if x38 < x37 then (if 0 ≤ x38 then (if x38 < (x36.length : Int) then (if (rdT x36 x38).f0 < 0 then (some false) else (if (rdT x36 x38).f0 ≥ y0_0 then (some false) else (if (rdT x36 x38).f2 < 0 then (some false) else (if (rdT x36 x38).f2 ≥ y0_0 then (some false) else (if (rdT x36 x38).f1.toList = ([97] : List UInt8) then (if (rdT x36 x38).f3 < 0 then (some false) else (if (rdT x36 x38).f3 > 3 then (some false) else (if x38 > 0 then (if 0 ≤ (wrap64 (x38 - 1)) then (if (wrap64 (x38 - 1)) < (y0_3.length : Int) then ((impl_stepOrder.f k ((rdT y0_3 (wrap64 (x38 - 1))).f0) ((rdT y0_3 (wrap64 (x38 - 1))).f1) ((rdT y0_3 (wrap64 (x38 - 1))).f2) ((rdT y0_3 (wrap64 (x38 - 1))).f3) ((rdT x36 x38).f0) ((rdT x36 x38).f1) ((rdT x36 x38).f2) ((rdT x36 x38).f3)).bind fun t3 => (if t3 ≥ 0 then (some false) else (impl_AutomatonValid.l0 k x36 x37 (wrap64 (x38 + 1)) y0_0 y0_1 y0_2 y0_3))) else none) else none) else (impl_AutomatonValid.l0 k x36 x37 (wrap64 (x38 + 1)) y0_0 y0_1 y0_2 y0_3)))) else (if (rdT x36 x38).f1.toList = ([98] : List UInt8) then (if (rdT x36 x38).f3 < 0 then (some false) else (if (rdT x36 x38).f3 > 3 then (some false) else (if x38 > 0 then (if 0 ≤ (wrap64 (x38 - 1)) then (if (wrap64 (x38 - 1)) < (y0_3.length : Int) then ((impl_stepOrder.f k ((rdT y0_3 (wrap64 (x38 - 1))).f0) ((rdT y0_3 (wrap64 (x38 - 1))).f1) ((rdT y0_3 (wrap64 (x38 - 1))).f2) ((rdT y0_3 (wrap64 (x38 - 1))).f3) ((rdT x36 x38).f0) ((rdT x36 x38).f1) ((rdT x36 x38).f2) ((rdT x36 x38).f3)).bind fun t4 => (if t4 ≥ 0 then (some false) else (impl_AutomatonValid.l0 k x36 x37 (wrap64 (x38 + 1)) y0_0 y0_1 y0_2 y0_3))) else none) else none) else (impl_AutomatonValid.l0 k x36 x37 (wrap64 (x38 + 1)) y0_0 y0_1 y0_2 y0_3)))) else (some false))))))) else none) else none) else (some true))
def impl_AutomatonValid.f (k : Nat) (a0_0 : Int) (l0_1 : List Int) (l0_2 : List Int) (l0_3 : List Stp) : Option (Bool) := (if a0_0 < 1 then (some false) else (if a0_0 > 4 then (some false) else (if (l0_3.length : Int) > 24 then (some false) else ((impl_statesOk.f k l0_1 a0_0).bind fun t1 => (if t1 = true then ((impl_statesOk.f k l0_2 a0_0).bind fun t2 => (if t2 = true then (impl_AutomatonValid.l0 k l0_3 (l0_3.length : Int) 0 a0_0 l0_1 l0_2 l0_3) else (some false))) else (some false))))))
def impl_AutomatonValid.en (r : Bool) : Res := (.lit r, [])
def impl_AutomatonValid.dec : List AV → List R.Obj → Option (Int × (List Int) × (List Int) × (List Stp))
  | [.agg [.int .i64 a0_0, .imm (.I .i64 l0_1), .imm (.I .i64 l0_2), .imm (.T l0_3)]], [] => some (a0_0, l0_1, l0_2, l0_3)
  | _, _ => none
def impl_AutomatonValid.tw : Tw := ⟨35, Int × (List Int) × (List Int) × (List Stp), Bool, impl_AutomatonValid.dec, fun a => [.agg [.int .i64 a.1, .imm (.I .i64 a.2.1), .imm (.I .i64 a.2.2.1), .imm (.T a.2.2.2)]], fun a => [], fun k a => impl_AutomatonValid.f k a.1 a.2.1 a.2.2.1 a.2.2.2, fun a r => impl_AutomatonValid.en r, true⟩
theorem impl_AutomatonValid.dok : impl_AutomatonValid.tw.DecOk := by
  intro args hc a h
  have h : impl_AutomatonValid.dec args hc = some a := h
  unfold impl_AutomatonValid.dec at h
  split at h
  · cases h; exact ⟨rfl, rfl⟩
  · cases h
noncomputable def impl_AutomatonValid.O (k : Nat) : Oracle := (impl_statesOk.tw.orc k (impl_stepOrder.tw.orc k noO))
def impl_AutomatonValid.fh : FH := ⟨fun i => match i with | 4 => some [(1, 0), (36, 0), (37, 0), (38, 0)] | _ => none, [], false⟩
noncomputable def impl_AutomatonValid.x0 (k : Nat) (x36 : List Stp) (x37 : Int) (x38 : Int) (y0_0 : Int) (y0_1 : List Int) (y0_2 : List Int) (y0_3 : List Stp) : Option Res := R.exec Tryz.prog xhn impl_AutomatonValid.O 0 Tryz.f35 impl_AutomatonValid.fh k (R.point Tryz.f35 4) ⟨[(1, .ptr 0 0), (36, .imm (.T x36)), (37, .int .i64 x37), (38, .int .i64 x38)], [(0, .box false [.int .i64 y0_0, .imm (.I .i64 y0_1), .imm (.I .i64 y0_2), .imm (.T y0_3)])], 3⟩
set_option maxRecDepth 100000 in
theorem impl_AutomatonValid.e0 (k : Nat) (x36 : List Stp) (x37 : Int) (x38 : Int) (y0_0 : Int) (y0_1 : List Int) (y0_2 : List Int) (y0_3 : List Stp) : impl_AutomatonValid.x0 (k + 1) x36 x37 x38 y0_0 y0_1 y0_2 y0_3 = (if x38 < x37 then (if 0 ≤ x38 then (if x38 < (x36.length : Int) then (if (rdT x36 x38).f0 < 0 then (some (impl_AutomatonValid.en false)) else (if (rdT x36 x38).f0 ≥ y0_0 then (some (impl_AutomatonValid.en false)) else (if (rdT x36 x38).f2 < 0 then (some (impl_AutomatonValid.en false)) else (if (rdT x36 x38).f2 ≥ y0_0 then (some (impl_AutomatonValid.en false)) else (if (rdT x36 x38).f1.toList = ([97] : List UInt8) then (if (rdT x36 x38).f3 < 0 then (some (impl_AutomatonValid.en false)) else (if (rdT x36 x38).f3 > 3 then (some (impl_AutomatonValid.en false)) else (if x38 > 0 then (if 0 ≤ (wr64 (x38 - 1)) then (if (wr64 (x38 - 1)) < (y0_3.length : Int) then ((impl_stepOrder.f k ((rdT y0_3 (wr64 (x38 - 1))).f0) ((rdT y0_3 (wr64 (x38 - 1))).f1) ((rdT y0_3 (wr64 (x38 - 1))).f2) ((rdT y0_3 (wr64 (x38 - 1))).f3) ((rdT x36 x38).f0) ((rdT x36 x38).f1) ((rdT x36 x38).f2) ((rdT x36 x38).f3)).bind fun t3 => (if t3 ≥ 0 then (some (impl_AutomatonValid.en false)) else (impl_AutomatonValid.x0 k x36 x37 (wr64 (x38 + 1)) y0_0 y0_1 y0_2 y0_3))) else none) else none) else (impl_AutomatonValid.x0 k x36 x37 (wr64 (x38 + 1)) y0_0 y0_1 y0_2 y0_3)))) else (if (rdT x36 x38).f1.toList = ([98] : List UInt8) then (if (rdT x36 x38).f3 < 0 then (some (impl_AutomatonValid.en false)) else (if (rdT x36 x38).f3 > 3 then (some (impl_AutomatonValid.en false)) else (if x38 > 0 then (if 0 ≤ (wr64 (x38 - 1)) then (if (wr64 (x38 - 1)) < (y0_3.length : Int) then ((impl_stepOrder.f k ((rdT y0_3 (wr64 (x38 - 1))).f0) ((rdT y0_3 (wr64 (x38 - 1))).f1) ((rdT y0_3 (wr64 (x38 - 1))).f2) ((rdT y0_3 (wr64 (x38 - 1))).f3) ((rdT x36 x38).f0) ((rdT x36 x38).f1) ((rdT x36 x38).f2) ((rdT x36 x38).f3)).bind fun t4 => (if t4 ≥ 0 then (some (impl_AutomatonValid.en false)) else (impl_AutomatonValid.x0 k x36 x37 (wr64 (x38 + 1)) y0_0 y0_1 y0_2 y0_3))) else none) else none) else (impl_AutomatonValid.x0 k x36 x37 (wr64 (x38 + 1)) y0_0 y0_1 y0_2 y0_3)))) else (some (impl_AutomatonValid.en false)))))))) else none) else none) else (some (impl_AutomatonValid.en true))) := by kernel_rfl
set_option maxRecDepth 100000 in
theorem impl_AutomatonValid.ef (k : Nat) (a0_0 : Int) (l0_1 : List Int) (l0_2 : List Int) (l0_3 : List Stp) : R.start Tryz.prog xhn impl_AutomatonValid.O 0 Tryz.f35 impl_AutomatonValid.fh k [.agg [.int .i64 a0_0, .imm (.I .i64 l0_1), .imm (.I .i64 l0_2), .imm (.T l0_3)]] [] = (if a0_0 < 1 then (some (impl_AutomatonValid.en false)) else (if a0_0 > 4 then (some (impl_AutomatonValid.en false)) else (if (l0_3.length : Int) > 24 then (some (impl_AutomatonValid.en false)) else ((impl_statesOk.f k l0_1 a0_0).bind fun t1 => (if t1 = true then ((impl_statesOk.f k l0_2 a0_0).bind fun t2 => (if t2 = true then (impl_AutomatonValid.x0 k l0_3 (l0_3.length : Int) 0 a0_0 l0_1 l0_2 l0_3) else (some (impl_AutomatonValid.en false)))) else (some (impl_AutomatonValid.en false))))))) := by kernel_rfl
theorem impl_AutomatonValid.link : ∀ k, (∀ (x36 : List Stp) (x37 : Int) (x38 : Int) (y0_0 : Int) (y0_1 : List Int) (y0_2 : List Int) (y0_3 : List Stp), impl_AutomatonValid.x0 k x36 x37 x38 y0_0 y0_1 y0_2 y0_3 = (impl_AutomatonValid.l0 k x36 x37 x38 y0_0 y0_1 y0_2 y0_3).map (impl_AutomatonValid.en))
  | 0 => fun _ _ _ _ _ _ _ => by simp only [impl_AutomatonValid.l0, R.map_none]; rfl
  | k + 1 => by
    have ih0 := impl_AutomatonValid.link k
    · intro x36 x37 x38 y0_0 y0_1 y0_2 y0_3
      rw [impl_AutomatonValid.e0]
      simp only [impl_AutomatonValid.l0, R.map_ite, R.map_bind, R.map_none, R.map_some, R.wr64_eq, ← ih0]
theorem impl_AutomatonValid.sf (k : Nat) (a0_0 : Int) (l0_1 : List Int) (l0_2 : List Int) (l0_3 : List Stp) : R.start Tryz.prog xhn impl_AutomatonValid.O 0 Tryz.f35 impl_AutomatonValid.fh k [.agg [.int .i64 a0_0, .imm (.I .i64 l0_1), .imm (.I .i64 l0_2), .imm (.T l0_3)]] [] = (impl_AutomatonValid.f k a0_0 l0_1 l0_2 l0_3).map (impl_AutomatonValid.en) := by
  have ih0 := impl_AutomatonValid.link k
  rw [impl_AutomatonValid.ef]
  simp only [impl_AutomatonValid.f, R.map_ite, R.map_bind, R.map_none, R.map_some, R.wr64_eq, ← ih0]
theorem impl_AutomatonValid.ok (k : Nat) : impl_AutomatonValid.tw.Ok Tryz.prog k := by
  intro md hmd a r h
  refine fn_ok (H := xhn) (fh := impl_AutomatonValid.fh) (O := impl_AutomatonValid.O) (k := k) Tryz.func35 (by kernel_rfl) (by kernel_rfl) (fun j _ => (Tw.orc_sound impl_statesOk.dok (impl_statesOk.ok j) (fun _ => rfl) (Tw.orc_sound impl_stepOrder.dok (impl_stepOrder.ok j) (fun _ => rfl) noO_sound))) (by kernel_rfl) (m := 0) rfl ?_
  refine (impl_AutomatonValid.sf k a.1 a.2.1 a.2.2.1 a.2.2.2).trans ?_
  exact congrArg (Option.map _) h
def impl_WordValid.l0 : Nat → ByteArray → Int → Int → Option (Bool)
  | 0, _, _, _ => none
  | k + 1, x0, x5, x6 => (if x6 < x5 then (if 0 ≤ x6 then (if x6 < (x0.size : Int) then (if (btI x0 x6) = 97 then (impl_WordValid.l0 k x0 x5 (wrap64 (x6 + 1))) else (if (btI x0 x6) = 98 then (impl_WordValid.l0 k x0 x5 (wrap64 (x6 + 1))) else (some false))) else none) else none) else (some (decide ((x0.size : Int) ≤ 1000))))
def impl_WordValid.f (k : Nat) (a0 : ByteArray) : Option (Bool) := (impl_WordValid.l0 k a0 (a0.size : Int) 0)
def impl_WordValid.en (r : Bool) : Res := (.lit r, [])
def impl_WordValid.dec : List AV → List R.Obj → Option (ByteArray)
  | [.str a0], [] => some a0
  | _, _ => none
def impl_WordValid.tw : Tw := ⟨30, ByteArray, Bool, impl_WordValid.dec, fun a => [.str a], fun a => [], fun k a => impl_WordValid.f k a, fun a r => impl_WordValid.en r, true⟩
theorem impl_WordValid.dok : impl_WordValid.tw.DecOk := by
  intro args hc a h
  have h : impl_WordValid.dec args hc = some a := h
  unfold impl_WordValid.dec at h
  split at h
  · cases h; exact ⟨rfl, rfl⟩
  · cases h
noncomputable def impl_WordValid.O (k : Nat) : Oracle := noO
def impl_WordValid.fh : FH := ⟨fun i => match i with | 2 => some [(0, 0), (5, 0), (6, 0)] | _ => none, [], false⟩
noncomputable def impl_WordValid.x0 (k : Nat) (x0 : ByteArray) (x5 : Int) (x6 : Int) : Option Res := R.exec Tryz.prog xhn impl_WordValid.O 0 Tryz.f30 impl_WordValid.fh k (R.point Tryz.f30 2) ⟨[(0, .str x0), (5, .int .i64 x5), (6, .int .i64 x6)], [], 2⟩
set_option maxRecDepth 100000 in
theorem impl_WordValid.e0 (k : Nat) (x0 : ByteArray) (x5 : Int) (x6 : Int) : impl_WordValid.x0 (k + 1) x0 x5 x6 = (if x6 < x5 then (if 0 ≤ x6 then (if x6 < (x0.size : Int) then (if (btI x0 x6) = 97 then (impl_WordValid.x0 k x0 x5 (wr64 (x6 + 1))) else (if (btI x0 x6) = 98 then (impl_WordValid.x0 k x0 x5 (wr64 (x6 + 1))) else (some (impl_WordValid.en false)))) else none) else none) else (some (impl_WordValid.en (decide ((x0.size : Int) ≤ 1000))))) := by
  refine Eq.trans ?_ (R.icong (fun h0 => (R.icong (fun h1 => (R.icong (fun h2 => (R.icong (fun h3 => rfl) (fun h3 => (R.idropT (p := 0 ≤ x6) (z := none) h1 (R.idropT (p := x6 < (x0.size : Int)) (z := none) h2 rfl))))) (fun h2 => rfl))) (fun h1 => rfl))) (fun h0 => rfl))
  kernel_rfl
set_option maxRecDepth 100000 in
theorem impl_WordValid.ef (k : Nat) (a0 : ByteArray) : R.start Tryz.prog xhn impl_WordValid.O 0 Tryz.f30 impl_WordValid.fh k [.str a0] [] = (impl_WordValid.x0 k a0 (a0.size : Int) 0) := by kernel_rfl
theorem impl_WordValid.link : ∀ k, (∀ (x0 : ByteArray) (x5 : Int) (x6 : Int), impl_WordValid.x0 k x0 x5 x6 = (impl_WordValid.l0 k x0 x5 x6).map (impl_WordValid.en))
  | 0 => fun _ _ _ => by simp only [impl_WordValid.l0, R.map_none]; rfl
  | k + 1 => by
    have ih0 := impl_WordValid.link k
    · intro x0 x5 x6
      rw [impl_WordValid.e0]
      simp only [impl_WordValid.l0, R.map_ite, R.map_bind, R.map_none, R.map_some, R.wr64_eq, ← ih0]
theorem impl_WordValid.sf (k : Nat) (a0 : ByteArray) : R.start Tryz.prog xhn impl_WordValid.O 0 Tryz.f30 impl_WordValid.fh k [.str a0] [] = (impl_WordValid.f k a0).map (impl_WordValid.en) := by
  have ih0 := impl_WordValid.link k
  rw [impl_WordValid.ef]
  simp only [impl_WordValid.f, R.map_ite, R.map_bind, R.map_none, R.map_some, R.wr64_eq, ← ih0]
theorem impl_WordValid.ok (k : Nat) : impl_WordValid.tw.Ok Tryz.prog k := by
  intro md hmd a r h
  refine fn_ok (H := xhn) (fh := impl_WordValid.fh) (O := impl_WordValid.O) (k := k) Tryz.func30 (by kernel_rfl) (by kernel_rfl) (fun j _ => noO_sound) (by kernel_rfl) (m := 0) rfl ?_
  refine (impl_WordValid.sf k a).trans ?_
  exact congrArg (Option.map _) h
def impl_UnitMatrix_1.f (a0 : Int) (a1 : Int) : Option (Int) := (if a0 = a1 then (some 0) else (some 1000000))
def impl_UnitMatrix_1.en (r : Int) : Res := (.int .i64 r, [])
def impl_UnitMatrix_1.dec : List AV → List R.Obj → Option (Int × Int)
  | [.int .i64 a0, .int .i64 a1], [] => some (a0, a1)
  | _, _ => none
def impl_UnitMatrix_1.tw : Tw := ⟨73, Int × Int, Int, impl_UnitMatrix_1.dec, fun a => [.int .i64 a.1, .int .i64 a.2], fun a => [], fun k a => impl_UnitMatrix_1.f a.1 a.2, fun a r => impl_UnitMatrix_1.en r, true⟩
theorem impl_UnitMatrix_1.dok : impl_UnitMatrix_1.tw.DecOk := by
  intro args hc a h
  have h : impl_UnitMatrix_1.dec args hc = some a := h
  unfold impl_UnitMatrix_1.dec at h
  split at h
  · cases h; exact ⟨rfl, rfl⟩
  · cases h
noncomputable def impl_UnitMatrix_1.O (k : Nat) : Oracle := noO
def impl_UnitMatrix_1.fh : FH := ⟨fun i => match i with | _ => none, [], false⟩
set_option maxRecDepth 100000 in
theorem impl_UnitMatrix_1.ef (k : Nat) (a0 : Int) (a1 : Int) : R.start Tryz.prog xhn impl_UnitMatrix_1.O 0 Tryz.f73 impl_UnitMatrix_1.fh k [.int .i64 a0, .int .i64 a1] [] = (if a0 = a1 then (some (impl_UnitMatrix_1.en 0)) else (some (impl_UnitMatrix_1.en 1000000))) := by kernel_rfl
theorem impl_UnitMatrix_1.sf (k : Nat) (a0 : Int) (a1 : Int) : R.start Tryz.prog xhn impl_UnitMatrix_1.O 0 Tryz.f73 impl_UnitMatrix_1.fh k [.int .i64 a0, .int .i64 a1] [] = (impl_UnitMatrix_1.f a0 a1).map (impl_UnitMatrix_1.en) := by
  rw [impl_UnitMatrix_1.ef]
  simp only [impl_UnitMatrix_1.f, R.map_ite, R.map_bind, R.map_none, R.map_some, R.wr64_eq]
theorem impl_UnitMatrix_1.ok (k : Nat) : impl_UnitMatrix_1.tw.Ok Tryz.prog k := by
  intro md hmd a r h
  refine fn_ok (H := xhn) (fh := impl_UnitMatrix_1.fh) (O := impl_UnitMatrix_1.O) (k := k) Tryz.func73 (by kernel_rfl) (by kernel_rfl) (fun j _ => noO_sound) (by kernel_rfl) (m := 0) rfl ?_
  refine (impl_UnitMatrix_1.sf k a.1 a.2).trans ?_
  exact congrArg (Option.map _) h
mutual
def impl_filled.l0 : Nat → Int → Int → Int → Int → (List Int) → Option (Int × (List Int))
  | 0, _, _, _, _, _ => none
  | k + 1, x0, x10, x11, y1_0, y3 => (if x11 < x10 then (impl_filled.l1 k x0 x11 x10 x11 x0 0 y1_0 y3) else (some (y1_0, y3)))
def impl_filled.l1 : Nat → Int → Int → Int → Int → Int → Int → Int → (List Int) → Option (Int × (List Int))
  | 0, _, _, _, _, _, _, _, _ => none
  | k + 1, x0, x6, x10, x11, x14, x15, y1_0, y3 => (if x15 < x14 then ((impl_UnitMatrix_1.f x6 x15).bind fun t1 => (if y3.length < 17592186044416 then (impl_filled.l1 k x0 x6 x10 x11 x14 (wrap64 (x15 + 1)) y1_0 (y3 ++ [t1])) else none)) else (impl_filled.l0 k x0 x10 (wrap64 (x11 + 1)) y1_0 y3))
end
def impl_filled.f (k : Nat) (a0 : Int) : Option (Int × (List Int)) := (impl_filled.l0 k a0 a0 0 a0 ([] : List Int))
def impl_filled.en (r : Int × (List Int)) : Res := (.agg [.int .i64 r.1, .sl 0 0], [.arr 3 0 (.I .i64 r.2) false])
def impl_filled.dec : List AV → List R.Obj → Option (Int)
  | [.int .i64 a0, .clo 73 []], [] => some a0
  | _, _ => none
def impl_filled.tw : Tw := ⟨41, Int, Int × (List Int), impl_filled.dec, fun a => [.int .i64 a, .clo 73 []], fun a => [], fun k a => impl_filled.f k a, fun a r => impl_filled.en r, true⟩
theorem impl_filled.dok : impl_filled.tw.DecOk := by
  intro args hc a h
  have h : impl_filled.dec args hc = some a := h
  unfold impl_filled.dec at h
  split at h
  · cases h; exact ⟨rfl, rfl⟩
  · cases h
noncomputable def impl_filled.O (k : Nat) : Oracle := (impl_UnitMatrix_1.tw.orc k noO)
def impl_filled.fh : FH := ⟨fun i => match i with | 3 => some [(0, 0), (1, 0), (4, 0), (5, 0), (10, 0), (11, 0)] | 6 => some [(0, 0), (1, 0), (4, 0), (5, 0), (6, 0), (10, 0), (11, 0), (14, 0), (15, 0)] | _ => none, [(true, 3)], false⟩
noncomputable def impl_filled.x0 (k : Nat) (x0 : Int) (x10 : Int) (x11 : Int) (y1_0 : Int) (y3 : List Int) : Option Res := R.exec Tryz.prog xhn impl_filled.O 0 Tryz.f41 impl_filled.fh k (R.point Tryz.f41 3) ⟨[(0, .int .i64 x0), (1, .clo 73 []), (4, .ptr 0 0), (5, .ptr 1 0), (10, .int .i64 x10), (11, .int .i64 x11)], [(0, .box false [.int .i64 0, .sl 2 0]), (1, .box false [.int .i64 y1_0, .sl 3 0]), (2, .arr 3 0 (.I .i64 ([] : List Int)) false), (3, .arr 3 0 (.I .i64 y3) false)], 6⟩
noncomputable def impl_filled.x1 (k : Nat) (x0 : Int) (x6 : Int) (x10 : Int) (x11 : Int) (x14 : Int) (x15 : Int) (y1_0 : Int) (y3 : List Int) : Option Res := R.exec Tryz.prog xhn impl_filled.O 0 Tryz.f41 impl_filled.fh k (R.point Tryz.f41 6) ⟨[(0, .int .i64 x0), (1, .clo 73 []), (4, .ptr 0 0), (5, .ptr 1 0), (6, .int .i64 x6), (10, .int .i64 x10), (11, .int .i64 x11), (14, .int .i64 x14), (15, .int .i64 x15)], [(0, .box false [.int .i64 0, .sl 2 0]), (1, .box false [.int .i64 y1_0, .sl 3 0]), (2, .arr 3 0 (.I .i64 ([] : List Int)) false), (3, .arr 3 0 (.I .i64 y3) false)], 6⟩
set_option maxRecDepth 100000 in
theorem impl_filled.e0 (k : Nat) (x0 : Int) (x10 : Int) (x11 : Int) (y1_0 : Int) (y3 : List Int) : impl_filled.x0 (k + 1) x0 x10 x11 y1_0 y3 = (if x11 < x10 then (impl_filled.x1 k x0 x11 x10 x11 x0 0 y1_0 y3) else (some (impl_filled.en (y1_0, y3)))) := by kernel_rfl
set_option maxRecDepth 100000 in
theorem impl_filled.e1 (k : Nat) (x0 : Int) (x6 : Int) (x10 : Int) (x11 : Int) (x14 : Int) (x15 : Int) (y1_0 : Int) (y3 : List Int) : impl_filled.x1 (k + 1) x0 x6 x10 x11 x14 x15 y1_0 y3 = (if x15 < x14 then ((impl_UnitMatrix_1.f x6 x15).bind fun t1 => (if y3.length < 17592186044416 then (impl_filled.x1 k x0 x6 x10 x11 x14 (wr64 (x15 + 1)) y1_0 (y3 ++ [t1])) else none)) else (impl_filled.x0 k x0 x10 (wr64 (x11 + 1)) y1_0 y3)) := by kernel_rfl
set_option maxRecDepth 100000 in
theorem impl_filled.ef (k : Nat) (a0 : Int) : R.start Tryz.prog xhn impl_filled.O 0 Tryz.f41 impl_filled.fh k [.int .i64 a0, .clo 73 []] [] = (impl_filled.x0 k a0 a0 0 a0 ([] : List Int)) := by kernel_rfl
theorem impl_filled.link : ∀ k, (∀ (x0 : Int) (x10 : Int) (x11 : Int) (y1_0 : Int) (y3 : List Int), impl_filled.x0 k x0 x10 x11 y1_0 y3 = (impl_filled.l0 k x0 x10 x11 y1_0 y3).map (impl_filled.en)) ∧ (∀ (x0 : Int) (x6 : Int) (x10 : Int) (x11 : Int) (x14 : Int) (x15 : Int) (y1_0 : Int) (y3 : List Int), impl_filled.x1 k x0 x6 x10 x11 x14 x15 y1_0 y3 = (impl_filled.l1 k x0 x6 x10 x11 x14 x15 y1_0 y3).map (impl_filled.en))
  | 0 => ⟨fun _ _ _ _ _ => by simp only [impl_filled.l0, R.map_none]; rfl, fun _ _ _ _ _ _ _ _ => by simp only [impl_filled.l1, R.map_none]; rfl⟩
  | k + 1 => by
    obtain ⟨ih0, ih1⟩ := impl_filled.link k
    refine ⟨?_, ?_⟩
    · intro x0 x10 x11 y1_0 y3
      rw [impl_filled.e0]
      simp only [impl_filled.l0, R.map_ite, R.map_bind, R.map_none, R.map_some, R.wr64_eq, ← ih0, ← ih1]
    · intro x0 x6 x10 x11 x14 x15 y1_0 y3
      rw [impl_filled.e1]
      simp only [impl_filled.l1, R.map_ite, R.map_bind, R.map_none, R.map_some, R.wr64_eq, ← ih0, ← ih1]
theorem impl_filled.sf (k : Nat) (a0 : Int) : R.start Tryz.prog xhn impl_filled.O 0 Tryz.f41 impl_filled.fh k [.int .i64 a0, .clo 73 []] [] = (impl_filled.f k a0).map (impl_filled.en) := by
  obtain ⟨ih0, ih1⟩ := impl_filled.link k
  rw [impl_filled.ef]
  simp only [impl_filled.f, R.map_ite, R.map_bind, R.map_none, R.map_some, R.wr64_eq, ← ih0, ← ih1]
theorem impl_filled.ok (k : Nat) : impl_filled.tw.Ok Tryz.prog k := by
  intro md hmd a r h
  refine fn_ok (H := xhn) (fh := impl_filled.fh) (O := impl_filled.O) (k := k) Tryz.func41 (by kernel_rfl) (by kernel_rfl) (fun j _ => (Tw.orc_sound impl_UnitMatrix_1.dok (impl_UnitMatrix_1.ok j) (fun _ => rfl) noO_sound)) (by kernel_rfl) (m := 0) rfl ?_
  refine (impl_filled.sf k a).trans ?_
  exact congrArg (Option.map _) h
def impl_UnitMatrix.f (k : Nat) (a0 : Int) : Option (Int × (List Int) × Bool) := (if a0 < 1 then (some (0, ([] : List Int), false)) else (if a0 > 4 then (some (0, ([] : List Int), false)) else ((impl_filled.f k a0).bind fun t1 => (some (t1.1, t1.2, true)))))
def impl_UnitMatrix.en (r : Int × (List Int) × Bool) : Res := (.tup [.agg [.int .i64 r.1, .sl 0 0], .lit r.2.2], [.arr 3 0 (.I .i64 r.2.1) false])
def impl_UnitMatrix.dec : List AV → List R.Obj → Option (Int)
  | [.int .i64 a0], [] => some a0
  | _, _ => none
def impl_UnitMatrix.tw : Tw := ⟨36, Int, Int × (List Int) × Bool, impl_UnitMatrix.dec, fun a => [.int .i64 a], fun a => [], fun k a => impl_UnitMatrix.f k a, fun a r => impl_UnitMatrix.en r, true⟩
theorem impl_UnitMatrix.dok : impl_UnitMatrix.tw.DecOk := by
  intro args hc a h
  have h : impl_UnitMatrix.dec args hc = some a := h
  unfold impl_UnitMatrix.dec at h
  split at h
  · cases h; exact ⟨rfl, rfl⟩
  · cases h
noncomputable def impl_UnitMatrix.O (k : Nat) : Oracle := (impl_filled.tw.orc k noO)
def impl_UnitMatrix.fh : FH := ⟨fun i => match i with | _ => none, [(true, 3)], false⟩
set_option maxRecDepth 100000 in
theorem impl_UnitMatrix.ef (k : Nat) (a0 : Int) : R.start Tryz.prog xhn impl_UnitMatrix.O 0 Tryz.f36 impl_UnitMatrix.fh k [.int .i64 a0] [] = (if a0 < 1 then (some (impl_UnitMatrix.en (0, ([] : List Int), false))) else (if a0 > 4 then (some (impl_UnitMatrix.en (0, ([] : List Int), false))) else ((impl_filled.f k a0).bind fun t1 => (some (impl_UnitMatrix.en (t1.1, t1.2, true)))))) := by kernel_rfl
theorem impl_UnitMatrix.sf (k : Nat) (a0 : Int) : R.start Tryz.prog xhn impl_UnitMatrix.O 0 Tryz.f36 impl_UnitMatrix.fh k [.int .i64 a0] [] = (impl_UnitMatrix.f k a0).map (impl_UnitMatrix.en) := by
  rw [impl_UnitMatrix.ef]
  simp only [impl_UnitMatrix.f, R.map_ite, R.map_bind, R.map_none, R.map_some, R.wr64_eq]
theorem impl_UnitMatrix.ok (k : Nat) : impl_UnitMatrix.tw.Ok Tryz.prog k := by
  intro md hmd a r h
  refine fn_ok (H := xhn) (fh := impl_UnitMatrix.fh) (O := impl_UnitMatrix.O) (k := k) Tryz.func36 (by kernel_rfl) (by kernel_rfl) (fun j _ => (Tw.orc_sound impl_filled.dok (impl_filled.ok j) (fun _ => rfl) noO_sound)) (by kernel_rfl) (m := 0) rfl ?_
  refine (impl_UnitMatrix.sf k a).trans ?_
  exact congrArg (Option.map _) h
def impl_StepMatrix_1.f (a0 : Int) (a1 : Int) : Option (Int) := (some 1000000)
def impl_StepMatrix_1.en (r : Int) : Res := (.int .i64 r, [])
def impl_StepMatrix_1.dec : List AV → List R.Obj → Option (Int × Int)
  | [.int .i64 a0, .int .i64 a1], [] => some (a0, a1)
  | _, _ => none
def impl_StepMatrix_1.tw : Tw := ⟨74, Int × Int, Int, impl_StepMatrix_1.dec, fun a => [.int .i64 a.1, .int .i64 a.2], fun a => [], fun k a => impl_StepMatrix_1.f a.1 a.2, fun a r => impl_StepMatrix_1.en r, true⟩
theorem impl_StepMatrix_1.dok : impl_StepMatrix_1.tw.DecOk := by
  intro args hc a h
  have h : impl_StepMatrix_1.dec args hc = some a := h
  unfold impl_StepMatrix_1.dec at h
  split at h
  · cases h; exact ⟨rfl, rfl⟩
  · cases h
noncomputable def impl_StepMatrix_1.O (k : Nat) : Oracle := noO
def impl_StepMatrix_1.fh : FH := ⟨fun i => match i with | _ => none, [], false⟩
set_option maxRecDepth 100000 in
theorem impl_StepMatrix_1.ef (k : Nat) (a0 : Int) (a1 : Int) : R.start Tryz.prog xhn impl_StepMatrix_1.O 0 Tryz.f74 impl_StepMatrix_1.fh k [.int .i64 a0, .int .i64 a1] [] = (some (impl_StepMatrix_1.en 1000000)) := by kernel_rfl
theorem impl_StepMatrix_1.sf (k : Nat) (a0 : Int) (a1 : Int) : R.start Tryz.prog xhn impl_StepMatrix_1.O 0 Tryz.f74 impl_StepMatrix_1.fh k [.int .i64 a0, .int .i64 a1] [] = (impl_StepMatrix_1.f a0 a1).map (impl_StepMatrix_1.en) := by
  rw [impl_StepMatrix_1.ef]
  simp only [impl_StepMatrix_1.f, R.map_ite, R.map_bind, R.map_none, R.map_some, R.wr64_eq]
theorem impl_StepMatrix_1.ok (k : Nat) : impl_StepMatrix_1.tw.Ok Tryz.prog k := by
  intro md hmd a r h
  refine fn_ok (H := xhn) (fh := impl_StepMatrix_1.fh) (O := impl_StepMatrix_1.O) (k := k) Tryz.func74 (by kernel_rfl) (by kernel_rfl) (fun j _ => noO_sound) (by kernel_rfl) (m := 0) rfl ?_
  refine (impl_StepMatrix_1.sf k a.1 a.2).trans ?_
  exact congrArg (Option.map _) h
mutual
def impl_filled_b.l0 : Nat → Int → Int → Int → Int → (List Int) → Option (Int × (List Int))
  | 0, _, _, _, _, _ => none
  | k + 1, x0, x10, x11, y1_0, y3 => (if x11 < x10 then (impl_filled_b.l1 k x0 x11 x10 x11 x0 0 y1_0 y3) else (some (y1_0, y3)))
def impl_filled_b.l1 : Nat → Int → Int → Int → Int → Int → Int → Int → (List Int) → Option (Int × (List Int))
  | 0, _, _, _, _, _, _, _, _ => none
  | k + 1, x0, x6, x10, x11, x14, x15, y1_0, y3 => (if x15 < x14 then ((impl_StepMatrix_1.f x6 x15).bind fun t1 => (if y3.length < 17592186044416 then (impl_filled_b.l1 k x0 x6 x10 x11 x14 (wrap64 (x15 + 1)) y1_0 (y3 ++ [t1])) else none)) else (impl_filled_b.l0 k x0 x10 (wrap64 (x11 + 1)) y1_0 y3))
end
def impl_filled_b.f (k : Nat) (a0 : Int) : Option (Int × (List Int)) := (impl_filled_b.l0 k a0 a0 0 a0 ([] : List Int))
def impl_filled_b.en (r : Int × (List Int)) : Res := (.agg [.int .i64 r.1, .sl 0 0], [.arr 3 0 (.I .i64 r.2) false])
def impl_filled_b.dec : List AV → List R.Obj → Option (Int)
  | [.int .i64 a0, .clo 74 []], [] => some a0
  | _, _ => none
def impl_filled_b.tw : Tw := ⟨41, Int, Int × (List Int), impl_filled_b.dec, fun a => [.int .i64 a, .clo 74 []], fun a => [], fun k a => impl_filled_b.f k a, fun a r => impl_filled_b.en r, true⟩
theorem impl_filled_b.dok : impl_filled_b.tw.DecOk := by
  intro args hc a h
  have h : impl_filled_b.dec args hc = some a := h
  unfold impl_filled_b.dec at h
  split at h
  · cases h; exact ⟨rfl, rfl⟩
  · cases h
noncomputable def impl_filled_b.O (k : Nat) : Oracle := (impl_StepMatrix_1.tw.orc k noO)
def impl_filled_b.fh : FH := ⟨fun i => match i with | 3 => some [(0, 0), (1, 0), (4, 0), (5, 0), (10, 0), (11, 0)] | 6 => some [(0, 0), (1, 0), (4, 0), (5, 0), (6, 0), (10, 0), (11, 0), (14, 0), (15, 0)] | _ => none, [(true, 3)], false⟩
noncomputable def impl_filled_b.x0 (k : Nat) (x0 : Int) (x10 : Int) (x11 : Int) (y1_0 : Int) (y3 : List Int) : Option Res := R.exec Tryz.prog xhn impl_filled_b.O 0 Tryz.f41 impl_filled_b.fh k (R.point Tryz.f41 3) ⟨[(0, .int .i64 x0), (1, .clo 74 []), (4, .ptr 0 0), (5, .ptr 1 0), (10, .int .i64 x10), (11, .int .i64 x11)], [(0, .box false [.int .i64 0, .sl 2 0]), (1, .box false [.int .i64 y1_0, .sl 3 0]), (2, .arr 3 0 (.I .i64 ([] : List Int)) false), (3, .arr 3 0 (.I .i64 y3) false)], 6⟩
noncomputable def impl_filled_b.x1 (k : Nat) (x0 : Int) (x6 : Int) (x10 : Int) (x11 : Int) (x14 : Int) (x15 : Int) (y1_0 : Int) (y3 : List Int) : Option Res := R.exec Tryz.prog xhn impl_filled_b.O 0 Tryz.f41 impl_filled_b.fh k (R.point Tryz.f41 6) ⟨[(0, .int .i64 x0), (1, .clo 74 []), (4, .ptr 0 0), (5, .ptr 1 0), (6, .int .i64 x6), (10, .int .i64 x10), (11, .int .i64 x11), (14, .int .i64 x14), (15, .int .i64 x15)], [(0, .box false [.int .i64 0, .sl 2 0]), (1, .box false [.int .i64 y1_0, .sl 3 0]), (2, .arr 3 0 (.I .i64 ([] : List Int)) false), (3, .arr 3 0 (.I .i64 y3) false)], 6⟩
set_option maxRecDepth 100000 in
theorem impl_filled_b.e0 (k : Nat) (x0 : Int) (x10 : Int) (x11 : Int) (y1_0 : Int) (y3 : List Int) : impl_filled_b.x0 (k + 1) x0 x10 x11 y1_0 y3 = (if x11 < x10 then (impl_filled_b.x1 k x0 x11 x10 x11 x0 0 y1_0 y3) else (some (impl_filled_b.en (y1_0, y3)))) := by kernel_rfl
set_option maxRecDepth 100000 in
theorem impl_filled_b.e1 (k : Nat) (x0 : Int) (x6 : Int) (x10 : Int) (x11 : Int) (x14 : Int) (x15 : Int) (y1_0 : Int) (y3 : List Int) : impl_filled_b.x1 (k + 1) x0 x6 x10 x11 x14 x15 y1_0 y3 = (if x15 < x14 then ((impl_StepMatrix_1.f x6 x15).bind fun t1 => (if y3.length < 17592186044416 then (impl_filled_b.x1 k x0 x6 x10 x11 x14 (wr64 (x15 + 1)) y1_0 (y3 ++ [t1])) else none)) else (impl_filled_b.x0 k x0 x10 (wr64 (x11 + 1)) y1_0 y3)) := by kernel_rfl
set_option maxRecDepth 100000 in
theorem impl_filled_b.ef (k : Nat) (a0 : Int) : R.start Tryz.prog xhn impl_filled_b.O 0 Tryz.f41 impl_filled_b.fh k [.int .i64 a0, .clo 74 []] [] = (impl_filled_b.x0 k a0 a0 0 a0 ([] : List Int)) := by kernel_rfl
theorem impl_filled_b.link : ∀ k, (∀ (x0 : Int) (x10 : Int) (x11 : Int) (y1_0 : Int) (y3 : List Int), impl_filled_b.x0 k x0 x10 x11 y1_0 y3 = (impl_filled_b.l0 k x0 x10 x11 y1_0 y3).map (impl_filled_b.en)) ∧ (∀ (x0 : Int) (x6 : Int) (x10 : Int) (x11 : Int) (x14 : Int) (x15 : Int) (y1_0 : Int) (y3 : List Int), impl_filled_b.x1 k x0 x6 x10 x11 x14 x15 y1_0 y3 = (impl_filled_b.l1 k x0 x6 x10 x11 x14 x15 y1_0 y3).map (impl_filled_b.en))
  | 0 => ⟨fun _ _ _ _ _ => by simp only [impl_filled_b.l0, R.map_none]; rfl, fun _ _ _ _ _ _ _ _ => by simp only [impl_filled_b.l1, R.map_none]; rfl⟩
  | k + 1 => by
    obtain ⟨ih0, ih1⟩ := impl_filled_b.link k
    refine ⟨?_, ?_⟩
    · intro x0 x10 x11 y1_0 y3
      rw [impl_filled_b.e0]
      simp only [impl_filled_b.l0, R.map_ite, R.map_bind, R.map_none, R.map_some, R.wr64_eq, ← ih0, ← ih1]
    · intro x0 x6 x10 x11 x14 x15 y1_0 y3
      rw [impl_filled_b.e1]
      simp only [impl_filled_b.l1, R.map_ite, R.map_bind, R.map_none, R.map_some, R.wr64_eq, ← ih0, ← ih1]
theorem impl_filled_b.sf (k : Nat) (a0 : Int) : R.start Tryz.prog xhn impl_filled_b.O 0 Tryz.f41 impl_filled_b.fh k [.int .i64 a0, .clo 74 []] [] = (impl_filled_b.f k a0).map (impl_filled_b.en) := by
  obtain ⟨ih0, ih1⟩ := impl_filled_b.link k
  rw [impl_filled_b.ef]
  simp only [impl_filled_b.f, R.map_ite, R.map_bind, R.map_none, R.map_some, R.wr64_eq, ← ih0, ← ih1]
theorem impl_filled_b.ok (k : Nat) : impl_filled_b.tw.Ok Tryz.prog k := by
  intro md hmd a r h
  refine fn_ok (H := xhn) (fh := impl_filled_b.fh) (O := impl_filled_b.O) (k := k) Tryz.func41 (by kernel_rfl) (by kernel_rfl) (fun j _ => (Tw.orc_sound impl_StepMatrix_1.dok (impl_StepMatrix_1.ok j) (fun _ => rfl) noO_sound)) (by kernel_rfl) (m := 0) rfl ?_
  refine (impl_filled_b.sf k a).trans ?_
  exact congrArg (Option.map _) h
end Go.Proofs.YthnjbjihphbcpaaGreat.V
end
