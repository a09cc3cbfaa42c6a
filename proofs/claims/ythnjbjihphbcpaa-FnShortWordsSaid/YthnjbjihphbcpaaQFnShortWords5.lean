import Derived.Test.YthnjbjihphbcpaaQFnShortWords2
import Derived.Test.YthnjbjihphbcpaaQFnShortWords4
import Derived.Test.YthnjbjihphbcpaaProg
import Derived.WalkKit
import Derived.ProofKit
import Derived.Lib.Bytealg
section
set_option linter.unusedVariables false
set_option linter.unusedSimpArgs false
namespace Go.Proofs.Ythnjbjihphbcpaa.V
open Go Go.Proofs.Ythnjbjihphbcpaa.R Go.RowKit
def xhn : R.Hints := ⟨fun e => match e with | 3 => some (.I .i64) | 9 => some .S | 23 => some .L | 89 => some .T | _ => none, fun f => match f with | 23 => 1 | 24 => 1 | 50 => 1 | 51 => 1 | 52 => 1 | 76 => 1 | 77 => 1 | 79 => 1 | _ => 0⟩
def spec_l13Open.f (l0 : List Int) : Option ((List Int) × Int) := (if (l0.length : Int) > 2000 then (if 2000 ≤ (l0.length : Int) then (some (((l0.drop 0).take (2000 - 0)), 0)) else none) else (some (l0, 0)))
def spec_l13Open.en (r : (List Int) × Int) : Res := (.ptr 0 0, [.box false [.imm (.I .u8 r.1), .int .i64 r.2]])
def spec_l13Open.dec : List AV → List R.Obj → Option (List Int)
  | [.imm (.I .u8 l0)], [] => some l0
  | _, _ => none
def spec_l13Open.tw : Tw := ⟨22, List Int, (List Int) × Int, spec_l13Open.dec, fun a => [.imm (.I .u8 a)], fun a => [], fun k a => spec_l13Open.f a, fun a r => spec_l13Open.en r, true⟩
theorem spec_l13Open.dok : spec_l13Open.tw.DecOk := by
  intro args hc a h
  have h : spec_l13Open.dec args hc = some a := h
  unfold spec_l13Open.dec at h
  split at h
  · cases h; exact ⟨rfl, rfl⟩
  · cases h
noncomputable def spec_l13Open.O (k : Nat) : Oracle := noO
def spec_l13Open.fh : FH := ⟨fun i => match i with | _ => none, [], false⟩
set_option maxRecDepth 100000 in
theorem spec_l13Open.ef (k : Nat) (l0 : List Int) : R.start Try.prog xhn spec_l13Open.O 0 Try.f22 spec_l13Open.fh k [.imm (.I .u8 l0)] [] = (if (l0.length : Int) > 2000 then (if 2000 ≤ (l0.length : Int) then (some (spec_l13Open.en (((l0.drop 0).take (2000 - 0)), 0))) else none) else (some (spec_l13Open.en (l0, 0)))) := by kernel_rfl
theorem spec_l13Open.sf (k : Nat) (l0 : List Int) : R.start Try.prog xhn spec_l13Open.O 0 Try.f22 spec_l13Open.fh k [.imm (.I .u8 l0)] [] = (spec_l13Open.f l0).map (spec_l13Open.en) := by
  rw [spec_l13Open.ef]
  simp only [spec_l13Open.f, R.map_ite, R.map_bind, R.map_none, R.map_some, R.wr64_eq]
theorem spec_l13Open.ok (k : Nat) : spec_l13Open.tw.Ok Try.prog k := by
  intro md hmd a r h
  refine fn_ok (H := xhn) (fh := spec_l13Open.fh) (O := spec_l13Open.O) (k := k) Try.func22 (by kernel_rfl) (by kernel_rfl) (fun j _ => noO_sound) (by kernel_rfl) (m := 0) rfl ?_
  refine (spec_l13Open.sf k a).trans ?_
  exact congrArg (Option.map _) h
def spec_l13Rd_pick.f (a1 : Int) (l2_0 : List Int) (a2_1 : Int) : Option (Int × (List Int) × Int) := (if a1 < 1 then (some (0, l2_0, (wrap64 (a2_1 + 1)))) else (if (l2_0.length : Int) = 0 then (some (0, l2_0, (wrap64 (a2_1 + 1)))) else (if (wrap64 ((wrap64 (a2_1 + 1)) - 1)) < (l2_0.length : Int) then (if 0 ≤ (wrap64 ((wrap64 (a2_1 + 1)) - 1)) then (if a1 = 0 then none else (some (((wrap64 ((rdI l2_0 (wrap64 ((wrap64 (a2_1 + 1)) - 1))))).tmod a1), l2_0, (wrap64 (a2_1 + 1))))) else none) else (if 0 ≤ ((wrap64 ((wrap64 (a2_1 + 1)) - 1)).tmod (l2_0.length : Int)) then (if ((wrap64 ((wrap64 (a2_1 + 1)) - 1)).tmod (l2_0.length : Int)) < (l2_0.length : Int) then (if 0 ≤ ((wrap64 ((wrap64 ((wrap64 ((wrap64 (a2_1 + 1)) - 1)) * 7)) + 3)).tmod (l2_0.length : Int)) then (if ((wrap64 ((wrap64 ((wrap64 ((wrap64 (a2_1 + 1)) - 1)) * 7)) + 3)).tmod (l2_0.length : Int)) < (l2_0.length : Int) then (if a1 = 0 then none else (some (((xorK .i64 (wrap64 ((wrap64 ((wrap64 ((wrap64 ((wrap64 ((rdI l2_0 ((wrap64 ((wrap64 (a2_1 + 1)) - 1)).tmod (l2_0.length : Int))))) * 131)) + (wrap64 ((wrap64 ((rdI l2_0 ((wrap64 ((wrap64 ((wrap64 ((wrap64 (a2_1 + 1)) - 1)) * 7)) + 3)).tmod (l2_0.length : Int))))) * 1117)))) + (wrap64 ((wrap64 ((wrap64 (a2_1 + 1)) - 1)) * 29)))) + (wrap64 ((wrap64 ((wrap64 ((wrap64 (a2_1 + 1)) - 1)).tdiv (l2_0.length : Int))) * 53)))) (wrap64 ((wrap64 ((wrap64 ((wrap64 ((wrap64 ((wrap64 ((rdI l2_0 ((wrap64 ((wrap64 (a2_1 + 1)) - 1)).tmod (l2_0.length : Int))))) * 131)) + (wrap64 ((wrap64 ((rdI l2_0 ((wrap64 ((wrap64 ((wrap64 ((wrap64 (a2_1 + 1)) - 1)) * 7)) + 3)).tmod (l2_0.length : Int))))) * 1117)))) + (wrap64 ((wrap64 ((wrap64 (a2_1 + 1)) - 1)) * 29)))) + (wrap64 ((wrap64 ((wrap64 ((wrap64 (a2_1 + 1)) - 1)).tdiv (l2_0.length : Int))) * 53)))).tdiv 64))).tmod a1), l2_0, (wrap64 (a2_1 + 1))))) else none) else none) else none) else none))))
def spec_l13Rd_pick.en (r : Int × (List Int) × Int) : Res := (.int .i64 r.1, [.box false [.imm (.I .u8 r.2.1), .int .i64 r.2.2]])
def spec_l13Rd_pick.dec : List AV → List R.Obj → Option (Int × (List Int) × Int)
  | [.ptr 0 0, .int .i64 a1], [.box false [.imm (.I .u8 l2_0), .int .i64 a2_1]] => some (a1, l2_0, a2_1)
  | _, _ => none
def spec_l13Rd_pick.tw : Tw := ⟨76, Int × (List Int) × Int, Int × (List Int) × Int, spec_l13Rd_pick.dec, fun a => [.ptr 0 0, .int .i64 a.1], fun a => [.box false [.imm (.I .u8 a.2.1), .int .i64 a.2.2]], fun k a => spec_l13Rd_pick.f a.1 a.2.1 a.2.2, fun a r => spec_l13Rd_pick.en r, true⟩
theorem spec_l13Rd_pick.dok : spec_l13Rd_pick.tw.DecOk := by
  intro args hc a h
  have h : spec_l13Rd_pick.dec args hc = some a := h
  unfold spec_l13Rd_pick.dec at h
  split at h
  · cases h; exact ⟨rfl, rfl⟩
  · cases h
noncomputable def spec_l13Rd_pick.O (k : Nat) : Oracle := noO
def spec_l13Rd_pick.fh : FH := ⟨fun i => match i with | _ => none, [], false⟩
set_option maxRecDepth 100000 in
theorem spec_l13Rd_pick.ef (k : Nat) (a1 : Int) (l2_0 : List Int) (a2_1 : Int) : R.start Try.prog xhn spec_l13Rd_pick.O 1 Try.f76 spec_l13Rd_pick.fh k [.ptr 0 0, .int .i64 a1] [.box false [.imm (.I .u8 l2_0), .int .i64 a2_1]] = (if a1 < 1 then (some (spec_l13Rd_pick.en (0, l2_0, (wr64 (a2_1 + 1))))) else (if (l2_0.length : Int) = 0 then (some (spec_l13Rd_pick.en (0, l2_0, (wr64 (a2_1 + 1))))) else (if (wr64 ((wr64 (a2_1 + 1)) - 1)) < (l2_0.length : Int) then (if 0 ≤ (wr64 ((wr64 (a2_1 + 1)) - 1)) then (if a1 = 0 then none else (some (spec_l13Rd_pick.en (((wr64 ((rdI l2_0 (wr64 ((wr64 (a2_1 + 1)) - 1))))).tmod a1), l2_0, (wr64 (a2_1 + 1)))))) else none) else (if 0 ≤ ((wr64 ((wr64 (a2_1 + 1)) - 1)).tmod (l2_0.length : Int)) then (if ((wr64 ((wr64 (a2_1 + 1)) - 1)).tmod (l2_0.length : Int)) < (l2_0.length : Int) then (if 0 ≤ ((wr64 ((wr64 ((wr64 ((wr64 (a2_1 + 1)) - 1)) * 7)) + 3)).tmod (l2_0.length : Int)) then (if ((wr64 ((wr64 ((wr64 ((wr64 (a2_1 + 1)) - 1)) * 7)) + 3)).tmod (l2_0.length : Int)) < (l2_0.length : Int) then (if a1 = 0 then none else (some (spec_l13Rd_pick.en (((xorK .i64 (wr64 ((wr64 ((wr64 ((wr64 ((wr64 ((rdI l2_0 ((wr64 ((wr64 (a2_1 + 1)) - 1)).tmod (l2_0.length : Int))))) * 131)) + (wr64 ((wr64 ((rdI l2_0 ((wr64 ((wr64 ((wr64 ((wr64 (a2_1 + 1)) - 1)) * 7)) + 3)).tmod (l2_0.length : Int))))) * 1117)))) + (wr64 ((wr64 ((wr64 (a2_1 + 1)) - 1)) * 29)))) + (wr64 ((wr64 ((wr64 ((wr64 (a2_1 + 1)) - 1)).tdiv (l2_0.length : Int))) * 53)))) (wr64 ((wr64 ((wr64 ((wr64 ((wr64 ((wr64 ((rdI l2_0 ((wr64 ((wr64 (a2_1 + 1)) - 1)).tmod (l2_0.length : Int))))) * 131)) + (wr64 ((wr64 ((rdI l2_0 ((wr64 ((wr64 ((wr64 ((wr64 (a2_1 + 1)) - 1)) * 7)) + 3)).tmod (l2_0.length : Int))))) * 1117)))) + (wr64 ((wr64 ((wr64 (a2_1 + 1)) - 1)) * 29)))) + (wr64 ((wr64 ((wr64 ((wr64 (a2_1 + 1)) - 1)).tdiv (l2_0.length : Int))) * 53)))).tdiv 64))).tmod a1), l2_0, (wr64 (a2_1 + 1)))))) else none) else none) else none) else none)))) := by
  refine Eq.trans ?_ (R.icong (fun h0 => rfl) (fun h0 => (R.icong (fun h1 => rfl) (fun h1 => (R.icong (fun h2 => (R.icong (fun h3 => (R.idropT (p := (wr64 ((wr64 (a2_1 + 1)) - 1)) < (l2_0.length : Int)) (z := none) h2 rfl)) (fun h3 => rfl))) (fun h2 => (R.idropF (p := (l2_0.length : Int) = 0) (z := none) h1 (R.icong (fun h3 => (R.icong (fun h4 => (R.idropF (p := (l2_0.length : Int) = 0) (z := none) h1 (R.icong (fun h5 => (R.icong (fun h6 => (R.idropF (p := (l2_0.length : Int) = 0) (z := none) h1 rfl)) (fun h6 => rfl))) (fun h5 => rfl)))) (fun h4 => rfl))) (fun h3 => rfl)))))))))
  kernel_rfl
theorem spec_l13Rd_pick.sf (k : Nat) (a1 : Int) (l2_0 : List Int) (a2_1 : Int) : R.start Try.prog xhn spec_l13Rd_pick.O 1 Try.f76 spec_l13Rd_pick.fh k [.ptr 0 0, .int .i64 a1] [.box false [.imm (.I .u8 l2_0), .int .i64 a2_1]] = (spec_l13Rd_pick.f a1 l2_0 a2_1).map (spec_l13Rd_pick.en) := by
  rw [spec_l13Rd_pick.ef]
  simp only [spec_l13Rd_pick.f, R.map_ite, R.map_bind, R.map_none, R.map_some, R.wr64_eq]
theorem spec_l13Rd_pick.ok (k : Nat) : spec_l13Rd_pick.tw.Ok Try.prog k := by
  intro md hmd a r h
  refine fn_ok (H := xhn) (fh := spec_l13Rd_pick.fh) (O := spec_l13Rd_pick.O) (k := k) Try.func76 (by kernel_rfl) (by kernel_rfl) (fun j _ => noO_sound) (by kernel_rfl) (m := 1) rfl ?_
  refine (spec_l13Rd_pick.sf k a.1 a.2.1 a.2.2).trans ?_
  exact congrArg (Option.map _) h
def spec_l13Cut.l0 : Nat → ByteArray → Int → (List ByteArray) → Int → Int → Option (List ByteArray)
  | 0, _, _, _, _, _ => none
  | k + 1, x0, x1, y0, x6, x7 => (if x7 ≤ (x0.size : Int) then (if x7 = (x0.size : Int) then (if 0 ≤ x6 then (if x6 ≤ x7 then (if y0.length < 8796093022208 then (spec_l13Cut.l0 k x0 x1 (y0 ++ [(x0.extract x6.toNat x7.toNat)]) (wrap64 (x7 + 1)) (wrap64 (x7 + 1))) else none) else none) else none) else (if 0 ≤ x7 then (if x7 < (x0.size : Int) then (if (btI x0 x7) = x1 then (if 0 ≤ x6 then (if x6 ≤ x7 then (if y0.length < 8796093022208 then (spec_l13Cut.l0 k x0 x1 (y0 ++ [(x0.extract x6.toNat x7.toNat)]) (wrap64 (x7 + 1)) (wrap64 (x7 + 1))) else none) else none) else none) else (spec_l13Cut.l0 k x0 x1 y0 x6 (wrap64 (x7 + 1)))) else none) else none)) else (some y0))
def spec_l13Cut.f (k : Nat) (a0 : ByteArray) (a1 : Int) : Option (List ByteArray) := (spec_l13Cut.l0 k a0 a1 ([] : List ByteArray) 0 0)
def spec_l13Cut.en (r : List ByteArray) : Res := (.sl 0 0, [.arr 9 0 (.S r) false])
def spec_l13Cut.dec : List AV → List R.Obj → Option (ByteArray × Int)
  | [.str a0, .int .u8 a1], [] => some (a0, a1)
  | _, _ => none
def spec_l13Cut.tw : Tw := ⟨119, ByteArray × Int, List ByteArray, spec_l13Cut.dec, fun a => [.str a.1, .int .u8 a.2], fun a => [], fun k a => spec_l13Cut.f k a.1 a.2, fun a r => spec_l13Cut.en r, true⟩
theorem spec_l13Cut.dok : spec_l13Cut.tw.DecOk := by
  intro args hc a h
  have h : spec_l13Cut.dec args hc = some a := h
  unfold spec_l13Cut.dec at h
  split at h
  · cases h; exact ⟨rfl, rfl⟩
  · cases h
noncomputable def spec_l13Cut.O (k : Nat) : Oracle := noO
def spec_l13Cut.fh : FH := ⟨fun i => match i with | 4 => some [(0, 0), (1, 0), (5, 0), (6, 0), (7, 0)] | _ => none, [(true, 9)], false⟩
noncomputable def spec_l13Cut.x0 (k : Nat) (x0 : ByteArray) (x1 : Int) (y0 : List ByteArray) (x6 : Int) (x7 : Int) : Option Res := R.exec Try.prog xhn spec_l13Cut.O 0 Try.f119 spec_l13Cut.fh k (R.point Try.f119 4) ⟨[(0, .str x0), (1, .int .u8 x1), (5, .sl 0 0), (6, .int .i64 x6), (7, .int .i64 x7)], [(0, .arr 9 0 (.S y0) false)], 3⟩
set_option maxRecDepth 100000 in
theorem spec_l13Cut.e0 (k : Nat) (x0 : ByteArray) (x1 : Int) (y0 : List ByteArray) (x6 : Int) (x7 : Int) : spec_l13Cut.x0 (k + 1) x0 x1 y0 x6 x7 = (if x7 ≤ (x0.size : Int) then (if x7 = (x0.size : Int) then (if 0 ≤ x6 then (if x6 ≤ x7 then (if y0.length < 8796093022208 then (spec_l13Cut.x0 k x0 x1 (y0 ++ [(x0.extract x6.toNat x7.toNat)]) (wr64 (x7 + 1)) (wr64 (x7 + 1))) else none) else none) else none) else (if 0 ≤ x7 then (if x7 < (x0.size : Int) then (if (btI x0 x7) = x1 then (if 0 ≤ x6 then (if x6 ≤ x7 then (if y0.length < 8796093022208 then (spec_l13Cut.x0 k x0 x1 (y0 ++ [(x0.extract x6.toNat x7.toNat)]) (wr64 (x7 + 1)) (wr64 (x7 + 1))) else none) else none) else none) else (spec_l13Cut.x0 k x0 x1 y0 x6 (wr64 (x7 + 1)))) else none) else none)) else (some (spec_l13Cut.en y0))) := by
  refine Eq.trans ?_ (R.icong (fun h0 => (R.icong (fun h1 => (R.icong (fun h2 => (R.icong (fun h3 => (R.idropT (p := x7 ≤ (x0.size : Int)) (z := none) h0 rfl)) (fun h3 => rfl))) (fun h2 => rfl))) (fun h1 => (R.icong (fun h2 => (R.icong (fun h3 => (R.icong (fun h4 => (R.icong (fun h5 => (R.icong (fun h6 => (R.idropT (p := x7 ≤ (x0.size : Int)) (z := none) h0 rfl)) (fun h6 => rfl))) (fun h5 => rfl))) (fun h4 => rfl))) (fun h3 => rfl))) (fun h2 => rfl))))) (fun h0 => rfl))
  kernel_rfl
set_option maxRecDepth 100000 in
theorem spec_l13Cut.ef (k : Nat) (a0 : ByteArray) (a1 : Int) : R.start Try.prog xhn spec_l13Cut.O 0 Try.f119 spec_l13Cut.fh k [.str a0, .int .u8 a1] [] = (spec_l13Cut.x0 k a0 a1 ([] : List ByteArray) 0 0) := by kernel_rfl
theorem spec_l13Cut.link : ∀ k, (∀ (x0 : ByteArray) (x1 : Int) (y0 : List ByteArray) (x6 : Int) (x7 : Int), spec_l13Cut.x0 k x0 x1 y0 x6 x7 = (spec_l13Cut.l0 k x0 x1 y0 x6 x7).map (spec_l13Cut.en))
  | 0 => fun _ _ _ _ _ => by simp only [spec_l13Cut.l0, R.map_none]; rfl
  | k + 1 => by
    have ih0 := spec_l13Cut.link k
    · intro x0 x1 y0 x6 x7
      rw [spec_l13Cut.e0]
      simp only [spec_l13Cut.l0, R.map_ite, R.map_bind, R.map_none, R.map_some, R.wr64_eq, ← ih0]
theorem spec_l13Cut.sf (k : Nat) (a0 : ByteArray) (a1 : Int) : R.start Try.prog xhn spec_l13Cut.O 0 Try.f119 spec_l13Cut.fh k [.str a0, .int .u8 a1] [] = (spec_l13Cut.f k a0 a1).map (spec_l13Cut.en) := by
  have ih0 := spec_l13Cut.link k
  rw [spec_l13Cut.ef]
  simp only [spec_l13Cut.f, R.map_ite, R.map_bind, R.map_none, R.map_some, R.wr64_eq, ← ih0]
theorem spec_l13Cut.ok (k : Nat) : spec_l13Cut.tw.Ok Try.prog k := by
  intro md hmd a r h
  refine fn_ok (H := xhn) (fh := spec_l13Cut.fh) (O := spec_l13Cut.O) (k := k) Try.func119 (by kernel_rfl) (by kernel_rfl) (fun j _ => noO_sound) (by kernel_rfl) (m := 0) rfl ?_
  refine (spec_l13Cut.sf k a.1 a.2).trans ?_
  exact congrArg (Option.map _) h
def spec_l13Num.l0 : Nat → ByteArray → Bool → Int → Int → Option (Int × Bool)
  | 0, _, _, _, _ => none
  | k + 1, x0, x4, x5, x6 => (if x6 < (x0.size : Int) then (if 0 ≤ x6 then (if (btI x0 x6) < 48 then (some (0, false)) else (if (btI x0 x6) > 57 then (some (0, false)) else (spec_l13Num.l0 k x0 x4 (wrap64 ((wrap64 (x5 * 10)) + (wrap64 ((((btI x0 x6) - 48) % 256))))) (wrap64 (x6 + 1))))) else none) else (if x4 = true then (some ((wrap64 (0 - x5)), true)) else (some (x5, true))))
def spec_l13Num.f (k : Nat) (a0 : ByteArray) : Option (Int × Bool) := (if (a0.size : Int) > 0 then (if 0 < (a0.size : Int) then (if (btI a0 0) = 45 then (if 1 ≤ (a0.size : Int) then (if (a0.size : Int) ≤ (a0.size : Int) then (if ((a0.extract 1 a0.size).size : Int) = 0 then (some (0, false)) else (if ((a0.extract 1 a0.size).size : Int) > 17 then (some (0, false)) else (if 0 < ((a0.extract 1 a0.size).size : Int) then (if (btI (a0.extract 1 a0.size) 0) = 48 then (if ((a0.extract 1 a0.size).size : Int) > 1 then (some (0, false)) else (some (0, false))) else (spec_l13Num.l0 k (a0.extract 1 a0.size) (decide ((btI a0 0) = 45)) 0 0)) else none))) else none) else none) else (if (a0.size : Int) = 0 then (some (0, false)) else (if (a0.size : Int) > 17 then (some (0, false)) else (if (btI a0 0) = 48 then (if (a0.size : Int) > 1 then (some (0, false)) else (spec_l13Num.l0 k a0 (decide ((btI a0 0) = 45)) 0 0)) else (spec_l13Num.l0 k a0 (decide ((btI a0 0) = 45)) 0 0))))) else none) else (if (a0.size : Int) = 0 then (some (0, false)) else (if (a0.size : Int) > 17 then (some (0, false)) else (if 0 < (a0.size : Int) then (if (btI a0 0) = 48 then (if (a0.size : Int) > 1 then (some (0, false)) else (spec_l13Num.l0 k a0 false 0 0)) else (spec_l13Num.l0 k a0 false 0 0)) else none))))
def spec_l13Num.en (r : Int × Bool) : Res := (.tup [.int .i64 r.1, .lit r.2], [])
def spec_l13Num.dec : List AV → List R.Obj → Option (ByteArray)
  | [.str a0], [] => some a0
  | _, _ => none
def spec_l13Num.tw : Tw := ⟨120, ByteArray, Int × Bool, spec_l13Num.dec, fun a => [.str a], fun a => [], fun k a => spec_l13Num.f k a, fun a r => spec_l13Num.en r, true⟩
theorem spec_l13Num.dok : spec_l13Num.tw.DecOk := by
  intro args hc a h
  have h : spec_l13Num.dec args hc = some a := h
  unfold spec_l13Num.dec at h
  split at h
  · cases h; exact ⟨rfl, rfl⟩
  · cases h
noncomputable def spec_l13Num.O (k : Nat) : Oracle := noO
def spec_l13Num.fh : FH := ⟨fun i => match i with | 8 => some [(0, 0), (4, 0), (5, 0), (6, 0)] | _ => none, [], false⟩
noncomputable def spec_l13Num.x0 (k : Nat) (x0 : ByteArray) (x4 : Bool) (x5 : Int) (x6 : Int) : Option Res := R.exec Try.prog xhn spec_l13Num.O 0 Try.f120 spec_l13Num.fh k (R.point Try.f120 8) ⟨[(0, .str x0), (4, .lit x4), (5, .int .i64 x5), (6, .int .i64 x6)], [], 2⟩
set_option maxRecDepth 100000 in
theorem spec_l13Num.e0 (k : Nat) (x0 : ByteArray) (x4 : Bool) (x5 : Int) (x6 : Int) : spec_l13Num.x0 (k + 1) x0 x4 x5 x6 = (if x6 < (x0.size : Int) then (if 0 ≤ x6 then (if (btI x0 x6) < 48 then (some (spec_l13Num.en (0, false))) else (if (btI x0 x6) > 57 then (some (spec_l13Num.en (0, false))) else (spec_l13Num.x0 k x0 x4 (wr64 ((wr64 (x5 * 10)) + (wr64 ((((btI x0 x6) - 48) % 256))))) (wr64 (x6 + 1))))) else none) else (if x4 = true then (some (spec_l13Num.en ((wr64 (0 - x5)), true))) else (some (spec_l13Num.en (x5, true))))) := by
  refine Eq.trans ?_ (R.icong (fun h0 => (R.icong (fun h1 => (R.idropT (p := x6 < (x0.size : Int)) (z := none) h0 (R.icong (fun h2 => rfl) (fun h2 => (R.idropT (p := 0 ≤ x6) (z := none) h1 (R.idropT (p := x6 < (x0.size : Int)) (z := none) h0 (R.icong (fun h3 => rfl) (fun h3 => (R.idropT (p := 0 ≤ x6) (z := none) h1 (R.idropT (p := x6 < (x0.size : Int)) (z := none) h0 rfl)))))))))) (fun h1 => rfl))) (fun h0 => rfl))
  kernel_rfl
set_option maxRecDepth 100000 in
theorem spec_l13Num.ef (k : Nat) (a0 : ByteArray) : R.start Try.prog xhn spec_l13Num.O 0 Try.f120 spec_l13Num.fh k [.str a0] [] = (if (a0.size : Int) > 0 then (if 0 < (a0.size : Int) then (if (btI a0 0) = 45 then (if 1 ≤ (a0.size : Int) then (if (a0.size : Int) ≤ (a0.size : Int) then (if ((a0.extract 1 a0.size).size : Int) = 0 then (some (spec_l13Num.en (0, false))) else (if ((a0.extract 1 a0.size).size : Int) > 17 then (some (spec_l13Num.en (0, false))) else (if 0 < ((a0.extract 1 a0.size).size : Int) then (if (btI (a0.extract 1 a0.size) 0) = 48 then (if ((a0.extract 1 a0.size).size : Int) > 1 then (some (spec_l13Num.en (0, false))) else (some (spec_l13Num.en (0, false)))) else (spec_l13Num.x0 k (a0.extract 1 a0.size) (decide ((btI a0 0) = 45)) 0 0)) else none))) else none) else none) else (if (a0.size : Int) = 0 then (some (spec_l13Num.en (0, false))) else (if (a0.size : Int) > 17 then (some (spec_l13Num.en (0, false))) else (if (btI a0 0) = 48 then (if (a0.size : Int) > 1 then (some (spec_l13Num.en (0, false))) else (spec_l13Num.x0 k a0 (decide ((btI a0 0) = 45)) 0 0)) else (spec_l13Num.x0 k a0 (decide ((btI a0 0) = 45)) 0 0))))) else none) else (if (a0.size : Int) = 0 then (some (spec_l13Num.en (0, false))) else (if (a0.size : Int) > 17 then (some (spec_l13Num.en (0, false))) else (if 0 < (a0.size : Int) then (if (btI a0 0) = 48 then (if (a0.size : Int) > 1 then (some (spec_l13Num.en (0, false))) else (spec_l13Num.x0 k a0 false 0 0)) else (spec_l13Num.x0 k a0 false 0 0)) else none)))) := by
  refine Eq.trans ?_ (R.icong (fun h0 => (R.icong (fun h1 => (R.icong (fun h2 => (R.icong (fun h3 => (R.icong (fun h4 => (R.icong (fun h5 => rfl) (fun h5 => (R.icong (fun h6 => rfl) (fun h6 => (R.icong (fun h7 => (R.icong (fun h8 => (R.icong (fun h9 => rfl) (fun h9 => (R.idropT (p := (btI a0 0) = 45) (z := (spec_l13Num.x0 k (a0.extract 1 a0.size) (decide ((btI a0 0) = 45)) 0 0)) h2 rfl)))) (fun h8 => rfl))) (fun h7 => rfl))))))) (fun h4 => rfl))) (fun h3 => rfl))) (fun h2 => (R.icong (fun h3 => rfl) (fun h3 => (R.icong (fun h4 => rfl) (fun h4 => (R.idropT (p := 0 < (a0.size : Int)) (z := none) h1 (R.icong (fun h5 => (R.icong (fun h6 => rfl) (fun h6 => (R.idropF (p := (btI a0 0) = 45) (z := (some (spec_l13Num.en (0, false)))) h2 rfl)))) (fun h5 => rfl)))))))))) (fun h1 => rfl))) (fun h0 => rfl))
  kernel_rfl
theorem spec_l13Num.link : ∀ k, (∀ (x0 : ByteArray) (x4 : Bool) (x5 : Int) (x6 : Int), spec_l13Num.x0 k x0 x4 x5 x6 = (spec_l13Num.l0 k x0 x4 x5 x6).map (spec_l13Num.en))
  | 0 => fun _ _ _ _ => by simp only [spec_l13Num.l0, R.map_none]; rfl
  | k + 1 => by
    have ih0 := spec_l13Num.link k
    · intro x0 x4 x5 x6
      rw [spec_l13Num.e0]
      simp only [spec_l13Num.l0, R.map_ite, R.map_bind, R.map_none, R.map_some, R.wr64_eq, ← ih0]
theorem spec_l13Num.sf (k : Nat) (a0 : ByteArray) : R.start Try.prog xhn spec_l13Num.O 0 Try.f120 spec_l13Num.fh k [.str a0] [] = (spec_l13Num.f k a0).map (spec_l13Num.en) := by
  have ih0 := spec_l13Num.link k
  rw [spec_l13Num.ef]
  simp only [spec_l13Num.f, R.map_ite, R.map_bind, R.map_none, R.map_some, R.wr64_eq, ← ih0]
theorem spec_l13Num.ok (k : Nat) : spec_l13Num.tw.Ok Try.prog k := by
  intro md hmd a r h
  refine fn_ok (H := xhn) (fh := spec_l13Num.fh) (O := spec_l13Num.O) (k := k) Try.func120 (by kernel_rfl) (by kernel_rfl) (fun j _ => noO_sound) (by kernel_rfl) (m := 0) rfl ?_
  refine (spec_l13Num.sf k a).trans ?_
  exact congrArg (Option.map _) h
def spec_l3Read.l0 : Nat → (List Int) → (List ByteArray) → Int → Int → Option ((List Int) × Bool)
  | 0, _, _, _, _ => none
  | k + 1, y0, y1, x15, x16 => (if x16 < x15 then (if 0 ≤ x16 then (if x16 < (y1.length : Int) then ((spec_l13Num.f k (rdS y1 x16)).bind fun t2 => (if t2.2 = true then (if y0.length < 17592186044416 then (spec_l3Read.l0 k (y0 ++ [t2.1]) y1 x15 (wrap64 (x16 + 1))) else none) else (some (([] : List Int), false)))) else none) else none) else (some (y0, true)))
def spec_l3Read.f (k : Nat) (a0 : ByteArray) : Option ((List Int) × Bool) := (if a0.toList = ([] : List UInt8) then (some (([] : List Int), true)) else ((spec_l13Cut.f k a0 32).bind fun t1 => (spec_l3Read.l0 k ([] : List Int) t1 (t1.length : Int) 0)))
def spec_l3Read.en (r : (List Int) × Bool) : Res := (.tup [.sl 0 0, .lit r.2], [.arr 3 0 (.I .i64 r.1) false])
def spec_l3Read.dec : List AV → List R.Obj → Option (ByteArray)
  | [.str a0], [] => some a0
  | _, _ => none
def spec_l3Read.tw : Tw := ⟨121, ByteArray, (List Int) × Bool, spec_l3Read.dec, fun a => [.str a], fun a => [], fun k a => spec_l3Read.f k a, fun a r => spec_l3Read.en r, true⟩
theorem spec_l3Read.dok : spec_l3Read.tw.DecOk := by
  intro args hc a h
  have h : spec_l3Read.dec args hc = some a := h
  unfold spec_l3Read.dec at h
  split at h
  · cases h; exact ⟨rfl, rfl⟩
  · cases h
noncomputable def spec_l3Read.O (k : Nat) : Oracle := (spec_l13Cut.tw.orc k (spec_l13Num.tw.orc k noO))
def spec_l3Read.fh : FH := ⟨fun i => match i with | 5 => some [(4, 0), (14, 0), (15, 0), (16, 0)] | _ => none, [(true, 3)], false⟩
noncomputable def spec_l3Read.x0 (k : Nat) (y0 : List Int) (y1 : List ByteArray) (x15 : Int) (x16 : Int) : Option Res := R.exec Try.prog xhn spec_l3Read.O 0 Try.f121 spec_l3Read.fh k (R.point Try.f121 5) ⟨[(4, .sl 0 0), (14, .sl 1 0), (15, .int .i64 x15), (16, .int .i64 x16)], [(0, .arr 3 0 (.I .i64 y0) false), (1, .arr 9 0 (.S y1) false)], 4⟩
set_option maxRecDepth 100000 in
theorem spec_l3Read.e0 (k : Nat) (y0 : List Int) (y1 : List ByteArray) (x15 : Int) (x16 : Int) : spec_l3Read.x0 (k + 1) y0 y1 x15 x16 = (if x16 < x15 then (if 0 ≤ x16 then (if x16 < (y1.length : Int) then ((spec_l13Num.f k (rdS y1 x16)).bind fun t2 => (if t2.2 = true then (if y0.length < 17592186044416 then (spec_l3Read.x0 k (y0 ++ [t2.1]) y1 x15 (wr64 (x16 + 1))) else none) else (some (spec_l3Read.en (([] : List Int), false))))) else none) else none) else (some (spec_l3Read.en (y0, true)))) := by kernel_rfl
set_option maxRecDepth 100000 in
theorem spec_l3Read.ef (k : Nat) (a0 : ByteArray) : R.start Try.prog xhn spec_l3Read.O 0 Try.f121 spec_l3Read.fh k [.str a0] [] = (if a0.toList = ([] : List UInt8) then (some (spec_l3Read.en (([] : List Int), true))) else ((spec_l13Cut.f k a0 32).bind fun t1 => (spec_l3Read.x0 k ([] : List Int) t1 (t1.length : Int) 0))) := by kernel_rfl
theorem spec_l3Read.link : ∀ k, (∀ (y0 : List Int) (y1 : List ByteArray) (x15 : Int) (x16 : Int), spec_l3Read.x0 k y0 y1 x15 x16 = (spec_l3Read.l0 k y0 y1 x15 x16).map (spec_l3Read.en))
  | 0 => fun _ _ _ _ => by simp only [spec_l3Read.l0, R.map_none]; rfl
  | k + 1 => by
    have ih0 := spec_l3Read.link k
    · intro y0 y1 x15 x16
      rw [spec_l3Read.e0]
      simp only [spec_l3Read.l0, R.map_ite, R.map_bind, R.map_none, R.map_some, R.wr64_eq, ← ih0]
theorem spec_l3Read.sf (k : Nat) (a0 : ByteArray) : R.start Try.prog xhn spec_l3Read.O 0 Try.f121 spec_l3Read.fh k [.str a0] [] = (spec_l3Read.f k a0).map (spec_l3Read.en) := by
  have ih0 := spec_l3Read.link k
  rw [spec_l3Read.ef]
  simp only [spec_l3Read.f, R.map_ite, R.map_bind, R.map_none, R.map_some, R.wr64_eq, ← ih0]
theorem spec_l3Read.ok (k : Nat) : spec_l3Read.tw.Ok Try.prog k := by
  intro md hmd a r h
  refine fn_ok (H := xhn) (fh := spec_l3Read.fh) (O := spec_l3Read.O) (k := k) Try.func121 (by kernel_rfl) (by kernel_rfl) (fun j _ => (Tw.orc_sound spec_l13Cut.dok (spec_l13Cut.ok j) (fun _ => rfl) (Tw.orc_sound spec_l13Num.dok (spec_l13Num.ok j) (fun _ => rfl) noO_sound))) (by kernel_rfl) (m := 0) rfl ?_
  refine (spec_l3Read.sf k a).trans ?_
  exact congrArg (Option.map _) h
def spec_l1In.f (a0 : Int) (a1 : Int) (a2 : Int) : Option (Bool) := (if a0 ≥ a1 then (some (decide (a0 ≤ a2))) else (some false))
def spec_l1In.en (r : Bool) : Res := (.lit r, [])
def spec_l1In.dec : List AV → List R.Obj → Option (Int × Int × Int)
  | [.int .i64 a0, .int .i64 a1, .int .i64 a2], [] => some (a0, a1, a2)
  | _, _ => none
def spec_l1In.tw : Tw := ⟨26, Int × Int × Int, Bool, spec_l1In.dec, fun a => [.int .i64 a.1, .int .i64 a.2.1, .int .i64 a.2.2], fun a => [], fun k a => spec_l1In.f a.1 a.2.1 a.2.2, fun a r => spec_l1In.en r, true⟩
theorem spec_l1In.dok : spec_l1In.tw.DecOk := by
  intro args hc a h
  have h : spec_l1In.dec args hc = some a := h
  unfold spec_l1In.dec at h
  split at h
  · cases h; exact ⟨rfl, rfl⟩
  · cases h
noncomputable def spec_l1In.O (k : Nat) : Oracle := noO
def spec_l1In.fh : FH := ⟨fun i => match i with | _ => none, [], false⟩
set_option maxRecDepth 100000 in
theorem spec_l1In.ef (k : Nat) (a0 : Int) (a1 : Int) (a2 : Int) : R.start Try.prog xhn spec_l1In.O 0 Try.f26 spec_l1In.fh k [.int .i64 a0, .int .i64 a1, .int .i64 a2] [] = (if a0 ≥ a1 then (some (spec_l1In.en (decide (a0 ≤ a2)))) else (some (spec_l1In.en false))) := by kernel_rfl
theorem spec_l1In.sf (k : Nat) (a0 : Int) (a1 : Int) (a2 : Int) : R.start Try.prog xhn spec_l1In.O 0 Try.f26 spec_l1In.fh k [.int .i64 a0, .int .i64 a1, .int .i64 a2] [] = (spec_l1In.f a0 a1 a2).map (spec_l1In.en) := by
  rw [spec_l1In.ef]
  simp only [spec_l1In.f, R.map_ite, R.map_bind, R.map_none, R.map_some, R.wr64_eq]
theorem spec_l1In.ok (k : Nat) : spec_l1In.tw.Ok Try.prog k := by
  intro md hmd a r h
  refine fn_ok (H := xhn) (fh := spec_l1In.fh) (O := spec_l1In.O) (k := k) Try.func26 (by kernel_rfl) (by kernel_rfl) (fun j _ => noO_sound) (by kernel_rfl) (m := 0) rfl ?_
  refine (spec_l1In.sf k a.1 a.2.1 a.2.2).trans ?_
  exact congrArg (Option.map _) h
def spec_l3Marks.l0 : Nat → Int → (List Int) → (List Int) → Int → Int → Option (Bool)
  | 0, _, _, _, _, _ => none
  | k + 1, x0, x1, x7, x8, x9 => (if x9 < x8 then (if 0 ≤ x9 then (if x9 < (x7.length : Int) then ((spec_l1In.f (rdI x7 x9) 0 (wrap64 (x0 - 1))).bind fun t1 => (if t1 = true then (if x9 > 0 then (if 0 ≤ (wrap64 (x9 - 1)) then (if (wrap64 (x9 - 1)) < (x1.length : Int) then (if (rdI x1 (wrap64 (x9 - 1))) ≥ (rdI x7 x9) then (some false) else (spec_l3Marks.l0 k x0 x1 x7 x8 (wrap64 (x9 + 1)))) else none) else none) else (spec_l3Marks.l0 k x0 x1 x7 x8 (wrap64 (x9 + 1)))) else (some false))) else none) else none) else (some true))
def spec_l3Marks.f (k : Nat) (a0 : Int) (l1 : List Int) : Option (Bool) := (spec_l3Marks.l0 k a0 l1 l1 (l1.length : Int) 0)
def spec_l3Marks.en (r : Bool) : Res := (.lit r, [])
def spec_l3Marks.dec : List AV → List R.Obj → Option (Int × (List Int))
  | [.int .i64 a0, .imm (.I .i64 l1)], [] => some (a0, l1)
  | _, _ => none
def spec_l3Marks.tw : Tw := ⟨53, Int × (List Int), Bool, spec_l3Marks.dec, fun a => [.int .i64 a.1, .imm (.I .i64 a.2)], fun a => [], fun k a => spec_l3Marks.f k a.1 a.2, fun a r => spec_l3Marks.en r, true⟩
theorem spec_l3Marks.dok : spec_l3Marks.tw.DecOk := by
  intro args hc a h
  have h : spec_l3Marks.dec args hc = some a := h
  unfold spec_l3Marks.dec at h
  split at h
  · cases h; exact ⟨rfl, rfl⟩
  · cases h
noncomputable def spec_l3Marks.O (k : Nat) : Oracle := (spec_l1In.tw.orc k noO)
def spec_l3Marks.fh : FH := ⟨fun i => match i with | 2 => some [(0, 0), (1, 0), (7, 0), (8, 0), (9, 0)] | _ => none, [], false⟩
noncomputable def spec_l3Marks.x0 (k : Nat) (x0 : Int) (x1 : List Int) (x7 : List Int) (x8 : Int) (x9 : Int) : Option Res := R.exec Try.prog xhn spec_l3Marks.O 0 Try.f53 spec_l3Marks.fh k (R.point Try.f53 2) ⟨[(0, .int .i64 x0), (1, .imm (.I .i64 x1)), (7, .imm (.I .i64 x7)), (8, .int .i64 x8), (9, .int .i64 x9)], [], 2⟩
set_option maxRecDepth 100000 in
theorem spec_l3Marks.e0 (k : Nat) (x0 : Int) (x1 : List Int) (x7 : List Int) (x8 : Int) (x9 : Int) : spec_l3Marks.x0 (k + 1) x0 x1 x7 x8 x9 = (if x9 < x8 then (if 0 ≤ x9 then (if x9 < (x7.length : Int) then ((spec_l1In.f (rdI x7 x9) 0 (wr64 (x0 - 1))).bind fun t1 => (if t1 = true then (if x9 > 0 then (if 0 ≤ (wr64 (x9 - 1)) then (if (wr64 (x9 - 1)) < (x1.length : Int) then (if (rdI x1 (wr64 (x9 - 1))) ≥ (rdI x7 x9) then (some (spec_l3Marks.en false)) else (spec_l3Marks.x0 k x0 x1 x7 x8 (wr64 (x9 + 1)))) else none) else none) else (spec_l3Marks.x0 k x0 x1 x7 x8 (wr64 (x9 + 1)))) else (some (spec_l3Marks.en false)))) else none) else none) else (some (spec_l3Marks.en true))) := by kernel_rfl
set_option maxRecDepth 100000 in
theorem spec_l3Marks.ef (k : Nat) (a0 : Int) (l1 : List Int) : R.start Try.prog xhn spec_l3Marks.O 0 Try.f53 spec_l3Marks.fh k [.int .i64 a0, .imm (.I .i64 l1)] [] = (spec_l3Marks.x0 k a0 l1 l1 (l1.length : Int) 0) := by kernel_rfl
theorem spec_l3Marks.link : ∀ k, (∀ (x0 : Int) (x1 : List Int) (x7 : List Int) (x8 : Int) (x9 : Int), spec_l3Marks.x0 k x0 x1 x7 x8 x9 = (spec_l3Marks.l0 k x0 x1 x7 x8 x9).map (spec_l3Marks.en))
  | 0 => fun _ _ _ _ _ => by simp only [spec_l3Marks.l0, R.map_none]; rfl
  | k + 1 => by
    have ih0 := spec_l3Marks.link k
    · intro x0 x1 x7 x8 x9
      rw [spec_l3Marks.e0]
      simp only [spec_l3Marks.l0, R.map_ite, R.map_bind, R.map_none, R.map_some, R.wr64_eq, ← ih0]
theorem spec_l3Marks.sf (k : Nat) (a0 : Int) (l1 : List Int) : R.start Try.prog xhn spec_l3Marks.O 0 Try.f53 spec_l3Marks.fh k [.int .i64 a0, .imm (.I .i64 l1)] [] = (spec_l3Marks.f k a0 l1).map (spec_l3Marks.en) := by
  have ih0 := spec_l3Marks.link k
  rw [spec_l3Marks.ef]
  simp only [spec_l3Marks.f, R.map_ite, R.map_bind, R.map_none, R.map_some, R.wr64_eq, ← ih0]
theorem spec_l3Marks.ok (k : Nat) : spec_l3Marks.tw.Ok Try.prog k := by
  intro md hmd a r h
  refine fn_ok (H := xhn) (fh := spec_l3Marks.fh) (O := spec_l3Marks.O) (k := k) Try.func53 (by kernel_rfl) (by kernel_rfl) (fun j _ => (Tw.orc_sound spec_l1In.dok (spec_l1In.ok j) (fun _ => rfl) noO_sound)) (by kernel_rfl) (m := 0) rfl ?_
  refine (spec_l3Marks.sf k a.1 a.2).trans ?_
  exact congrArg (Option.map _) h
def spec_l3Step.f (a0 : Int) (a1_0 : Int) (a1_1 : ByteArray) (a1_2 : Int) (a1_3 : Int) : Option (Bool) := ((spec_l1In.f a1_0 0 (wrap64 (a0 - 1))).bind fun t1 => (if t1 = true then ((spec_l1In.f a1_2 0 (wrap64 (a0 - 1))).bind fun t2 => (if t2 = true then ((spec_l1In.f a1_3 0 3).bind fun t3 => (if t3 = true then (if a1_1.toList = ([97] : List UInt8) then (some true) else (some (decide (a1_1.toList = ([98] : List UInt8))))) else (some false))) else (some false))) else (some false)))
def spec_l3Step.en (r : Bool) : Res := (.lit r, [])
def spec_l3Step.dec : List AV → List R.Obj → Option (Int × Int × ByteArray × Int × Int)
  | [.int .i64 a0, .agg [.int .i64 a1_0, .str a1_1, .int .i64 a1_2, .int .i64 a1_3]], [] => some (a0, a1_0, a1_1, a1_2, a1_3)
  | _, _ => none
def spec_l3Step.tw : Tw := ⟨54, Int × Int × ByteArray × Int × Int, Bool, spec_l3Step.dec, fun a => [.int .i64 a.1, .agg [.int .i64 a.2.1, .str a.2.2.1, .int .i64 a.2.2.2.1, .int .i64 a.2.2.2.2]], fun a => [], fun k a => spec_l3Step.f a.1 a.2.1 a.2.2.1 a.2.2.2.1 a.2.2.2.2, fun a r => spec_l3Step.en r, true⟩
theorem spec_l3Step.dok : spec_l3Step.tw.DecOk := by
  intro args hc a h
  have h : spec_l3Step.dec args hc = some a := h
  unfold spec_l3Step.dec at h
  split at h
  · cases h; exact ⟨rfl, rfl⟩
  · cases h
noncomputable def spec_l3Step.O (k : Nat) : Oracle := (spec_l1In.tw.orc k noO)
def spec_l3Step.fh : FH := ⟨fun i => match i with | _ => none, [], false⟩
set_option maxRecDepth 100000 in
theorem spec_l3Step.ef (k : Nat) (a0 : Int) (a1_0 : Int) (a1_1 : ByteArray) (a1_2 : Int) (a1_3 : Int) : R.start Try.prog xhn spec_l3Step.O 0 Try.f54 spec_l3Step.fh k [.int .i64 a0, .agg [.int .i64 a1_0, .str a1_1, .int .i64 a1_2, .int .i64 a1_3]] [] = ((spec_l1In.f a1_0 0 (wr64 (a0 - 1))).bind fun t1 => (if t1 = true then ((spec_l1In.f a1_2 0 (wr64 (a0 - 1))).bind fun t2 => (if t2 = true then ((spec_l1In.f a1_3 0 3).bind fun t3 => (if t3 = true then (if a1_1.toList = ([97] : List UInt8) then (some (spec_l3Step.en true)) else (some (spec_l3Step.en (decide (a1_1.toList = ([98] : List UInt8)))))) else (some (spec_l3Step.en false)))) else (some (spec_l3Step.en false)))) else (some (spec_l3Step.en false)))) := by kernel_rfl
theorem spec_l3Step.sf (k : Nat) (a0 : Int) (a1_0 : Int) (a1_1 : ByteArray) (a1_2 : Int) (a1_3 : Int) : R.start Try.prog xhn spec_l3Step.O 0 Try.f54 spec_l3Step.fh k [.int .i64 a0, .agg [.int .i64 a1_0, .str a1_1, .int .i64 a1_2, .int .i64 a1_3]] [] = (spec_l3Step.f a0 a1_0 a1_1 a1_2 a1_3).map (spec_l3Step.en) := by
  rw [spec_l3Step.ef]
  simp only [spec_l3Step.f, R.map_ite, R.map_bind, R.map_none, R.map_some, R.wr64_eq]
theorem spec_l3Step.ok (k : Nat) : spec_l3Step.tw.Ok Try.prog k := by
  intro md hmd a r h
  refine fn_ok (H := xhn) (fh := spec_l3Step.fh) (O := spec_l3Step.O) (k := k) Try.func54 (by kernel_rfl) (by kernel_rfl) (fun j _ => (Tw.orc_sound spec_l1In.dok (spec_l1In.ok j) (fun _ => rfl) noO_sound)) (by kernel_rfl) (m := 0) rfl ?_
  refine (spec_l3Step.sf k a.1 a.2.1 a.2.2.1 a.2.2.2.1 a.2.2.2.2).trans ?_
  exact congrArg (Option.map _) h
def spec_l3Before.f (a0_0 : Int) (a0_1 : ByteArray) (a0_2 : Int) (a0_3 : Int) (a1_0 : Int) (a1_1 : ByteArray) (a1_2 : Int) (a1_3 : Int) : Option (Bool) := (if a0_0 = a1_0 then (if a0_1.toList = a1_1.toList then (some (decide (a0_2 < a1_2))) else (some (Op.bytesLess a0_1.toList a1_1.toList))) else (some (decide (a0_0 < a1_0))))
def spec_l3Before.en (r : Bool) : Res := (.lit r, [])
def spec_l3Before.dec : List AV → List R.Obj → Option (Int × ByteArray × Int × Int × Int × ByteArray × Int × Int)
  | [.agg [.int .i64 a0_0, .str a0_1, .int .i64 a0_2, .int .i64 a0_3], .agg [.int .i64 a1_0, .str a1_1, .int .i64 a1_2, .int .i64 a1_3]], [] => some (a0_0, a0_1, a0_2, a0_3, a1_0, a1_1, a1_2, a1_3)
  | _, _ => none
def spec_l3Before.tw : Tw := ⟨55, Int × ByteArray × Int × Int × Int × ByteArray × Int × Int, Bool, spec_l3Before.dec, fun a => [.agg [.int .i64 a.1, .str a.2.1, .int .i64 a.2.2.1, .int .i64 a.2.2.2.1], .agg [.int .i64 a.2.2.2.2.1, .str a.2.2.2.2.2.1, .int .i64 a.2.2.2.2.2.2.1, .int .i64 a.2.2.2.2.2.2.2]], fun a => [], fun k a => spec_l3Before.f a.1 a.2.1 a.2.2.1 a.2.2.2.1 a.2.2.2.2.1 a.2.2.2.2.2.1 a.2.2.2.2.2.2.1 a.2.2.2.2.2.2.2, fun a r => spec_l3Before.en r, true⟩
theorem spec_l3Before.dok : spec_l3Before.tw.DecOk := by
  intro args hc a h
  have h : spec_l3Before.dec args hc = some a := h
  unfold spec_l3Before.dec at h
  split at h
  · cases h; exact ⟨rfl, rfl⟩
  · cases h
noncomputable def spec_l3Before.O (k : Nat) : Oracle := noO
def spec_l3Before.fh : FH := ⟨fun i => match i with | _ => none, [], false⟩
set_option maxRecDepth 100000 in
theorem spec_l3Before.ef (k : Nat) (a0_0 : Int) (a0_1 : ByteArray) (a0_2 : Int) (a0_3 : Int) (a1_0 : Int) (a1_1 : ByteArray) (a1_2 : Int) (a1_3 : Int) : R.start Try.prog xhn spec_l3Before.O 0 Try.f55 spec_l3Before.fh k [.agg [.int .i64 a0_0, .str a0_1, .int .i64 a0_2, .int .i64 a0_3], .agg [.int .i64 a1_0, .str a1_1, .int .i64 a1_2, .int .i64 a1_3]] [] = (if a0_0 = a1_0 then (if a0_1.toList = a1_1.toList then (some (spec_l3Before.en (decide (a0_2 < a1_2)))) else (some (spec_l3Before.en (Op.bytesLess a0_1.toList a1_1.toList)))) else (some (spec_l3Before.en (decide (a0_0 < a1_0))))) := by kernel_rfl
theorem spec_l3Before.sf (k : Nat) (a0_0 : Int) (a0_1 : ByteArray) (a0_2 : Int) (a0_3 : Int) (a1_0 : Int) (a1_1 : ByteArray) (a1_2 : Int) (a1_3 : Int) : R.start Try.prog xhn spec_l3Before.O 0 Try.f55 spec_l3Before.fh k [.agg [.int .i64 a0_0, .str a0_1, .int .i64 a0_2, .int .i64 a0_3], .agg [.int .i64 a1_0, .str a1_1, .int .i64 a1_2, .int .i64 a1_3]] [] = (spec_l3Before.f a0_0 a0_1 a0_2 a0_3 a1_0 a1_1 a1_2 a1_3).map (spec_l3Before.en) := by
  rw [spec_l3Before.ef]
  simp only [spec_l3Before.f, R.map_ite, R.map_bind, R.map_none, R.map_some, R.wr64_eq]
theorem spec_l3Before.ok (k : Nat) : spec_l3Before.tw.Ok Try.prog k := by
  intro md hmd a r h
  refine fn_ok (H := xhn) (fh := spec_l3Before.fh) (O := spec_l3Before.O) (k := k) Try.func55 (by kernel_rfl) (by kernel_rfl) (fun j _ => noO_sound) (by kernel_rfl) (m := 0) rfl ?_
  refine (spec_l3Before.sf k a.1 a.2.1 a.2.2.1 a.2.2.2.1 a.2.2.2.2.1 a.2.2.2.2.2.1 a.2.2.2.2.2.2.1 a.2.2.2.2.2.2.2).trans ?_
  exact congrArg (Option.map _) h
def spec_AutomatonValid.l0 : Nat → (List Stp) → Int → Int → Int → (List Int) → (List Int) → (List Stp) → Option (Bool)
  | 0, _, _, _, _, _, _, _ => none
  | k + 1, x32, x33, x34, y0_0, y0_1, y0_2, y0_3 => (if x34 < x33 then (if 0 ≤ x34 then (if x34 < (x32.length : Int) then ((spec_l3Step.f y0_0 ((rdT x32 x34).f0) ((rdT x32 x34).f1) ((rdT x32 x34).f2) ((rdT x32 x34).f3)).bind fun t4 => (if t4 = true then (if x34 > 0 then (if 0 ≤ (wrap64 (x34 - 1)) then (if (wrap64 (x34 - 1)) < (y0_3.length : Int) then ((spec_l3Before.f ((rdT y0_3 (wrap64 (x34 - 1))).f0) ((rdT y0_3 (wrap64 (x34 - 1))).f1) ((rdT y0_3 (wrap64 (x34 - 1))).f2) ((rdT y0_3 (wrap64 (x34 - 1))).f3) ((rdT x32 x34).f0) ((rdT x32 x34).f1) ((rdT x32 x34).f2) ((rdT x32 x34).f3)).bind fun t5 => (if t5 = true then (spec_AutomatonValid.l0 k x32 x33 (wrap64 (x34 + 1)) y0_0 y0_1 y0_2 y0_3) else (some false))) else none) else none) else (spec_AutomatonValid.l0 k x32 x33 (wrap64 (x34 + 1)) y0_0 y0_1 y0_2 y0_3)) else (some false))) else none) else none) else (some true))
def spec_AutomatonValid.f (k : Nat) (a0_0 : Int) (l0_1 : List Int) (l0_2 : List Int) (l0_3 : List Stp) : Option (Bool) := ((spec_l1In.f a0_0 1 4).bind fun t1 => (if t1 = true then ((spec_l3Marks.f k a0_0 l0_1).bind fun t2 => (if t2 = true then ((spec_l3Marks.f k a0_0 l0_2).bind fun t3 => (if t3 = true then (if (l0_3.length : Int) > 24 then (some false) else (spec_AutomatonValid.l0 k l0_3 (l0_3.length : Int) 0 a0_0 l0_1 l0_2 l0_3)) else (some false))) else (some false))) else (some false)))
def spec_AutomatonValid.en (r : Bool) : Res := (.lit r, [])
def spec_AutomatonValid.dec : List AV → List R.Obj → Option (Int × (List Int) × (List Int) × (List Stp))
  | [.agg [.int .i64 a0_0, .imm (.I .i64 l0_1), .imm (.I .i64 l0_2), .imm (.T l0_3)]], [] => some (a0_0, l0_1, l0_2, l0_3)
  | _, _ => none
def spec_AutomatonValid.tw : Tw := ⟨25, Int × (List Int) × (List Int) × (List Stp), Bool, spec_AutomatonValid.dec, fun a => [.agg [.int .i64 a.1, .imm (.I .i64 a.2.1), .imm (.I .i64 a.2.2.1), .imm (.T a.2.2.2)]], fun a => [], fun k a => spec_AutomatonValid.f k a.1 a.2.1 a.2.2.1 a.2.2.2, fun a r => spec_AutomatonValid.en r, true⟩
theorem spec_AutomatonValid.dok : spec_AutomatonValid.tw.DecOk := by
  intro args hc a h
  have h : spec_AutomatonValid.dec args hc = some a := h
  unfold spec_AutomatonValid.dec at h
  split at h
  · cases h; exact ⟨rfl, rfl⟩
  · cases h
noncomputable def spec_AutomatonValid.O (k : Nat) : Oracle := (spec_l1In.tw.orc k (spec_l3Marks.tw.orc k (spec_l3Step.tw.orc k (spec_l3Before.tw.orc k noO))))
def spec_AutomatonValid.fh : FH := ⟨fun i => match i with | 4 => some [(1, 0), (32, 0), (33, 0), (34, 0)] | _ => none, [], false⟩
noncomputable def spec_AutomatonValid.x0 (k : Nat) (x32 : List Stp) (x33 : Int) (x34 : Int) (y0_0 : Int) (y0_1 : List Int) (y0_2 : List Int) (y0_3 : List Stp) : Option Res := R.exec Try.prog xhn spec_AutomatonValid.O 0 Try.f25 spec_AutomatonValid.fh k (R.point Try.f25 4) ⟨[(1, .ptr 0 0), (32, .imm (.T x32)), (33, .int .i64 x33), (34, .int .i64 x34)], [(0, .box false [.int .i64 y0_0, .imm (.I .i64 y0_1), .imm (.I .i64 y0_2), .imm (.T y0_3)])], 3⟩
set_option maxRecDepth 100000 in
theorem spec_AutomatonValid.e0 (k : Nat) (x32 : List Stp) (x33 : Int) (x34 : Int) (y0_0 : Int) (y0_1 : List Int) (y0_2 : List Int) (y0_3 : List Stp) : spec_AutomatonValid.x0 (k + 1) x32 x33 x34 y0_0 y0_1 y0_2 y0_3 = (if x34 < x33 then (if 0 ≤ x34 then (if x34 < (x32.length : Int) then ((spec_l3Step.f y0_0 ((rdT x32 x34).f0) ((rdT x32 x34).f1) ((rdT x32 x34).f2) ((rdT x32 x34).f3)).bind fun t4 => (if t4 = true then (if x34 > 0 then (if 0 ≤ (wr64 (x34 - 1)) then (if (wr64 (x34 - 1)) < (y0_3.length : Int) then ((spec_l3Before.f ((rdT y0_3 (wr64 (x34 - 1))).f0) ((rdT y0_3 (wr64 (x34 - 1))).f1) ((rdT y0_3 (wr64 (x34 - 1))).f2) ((rdT y0_3 (wr64 (x34 - 1))).f3) ((rdT x32 x34).f0) ((rdT x32 x34).f1) ((rdT x32 x34).f2) ((rdT x32 x34).f3)).bind fun t5 => (if t5 = true then (spec_AutomatonValid.x0 k x32 x33 (wr64 (x34 + 1)) y0_0 y0_1 y0_2 y0_3) else (some (spec_AutomatonValid.en false)))) else none) else none) else (spec_AutomatonValid.x0 k x32 x33 (wr64 (x34 + 1)) y0_0 y0_1 y0_2 y0_3)) else (some (spec_AutomatonValid.en false)))) else none) else none) else (some (spec_AutomatonValid.en true))) := by kernel_rfl
set_option maxRecDepth 100000 in
theorem spec_AutomatonValid.ef (k : Nat) (a0_0 : Int) (l0_1 : List Int) (l0_2 : List Int) (l0_3 : List Stp) : R.start Try.prog xhn spec_AutomatonValid.O 0 Try.f25 spec_AutomatonValid.fh k [.agg [.int .i64 a0_0, .imm (.I .i64 l0_1), .imm (.I .i64 l0_2), .imm (.T l0_3)]] [] = ((spec_l1In.f a0_0 1 4).bind fun t1 => (if t1 = true then ((spec_l3Marks.f k a0_0 l0_1).bind fun t2 => (if t2 = true then ((spec_l3Marks.f k a0_0 l0_2).bind fun t3 => (if t3 = true then (if (l0_3.length : Int) > 24 then (some (spec_AutomatonValid.en false)) else (spec_AutomatonValid.x0 k l0_3 (l0_3.length : Int) 0 a0_0 l0_1 l0_2 l0_3)) else (some (spec_AutomatonValid.en false)))) else (some (spec_AutomatonValid.en false)))) else (some (spec_AutomatonValid.en false)))) := by kernel_rfl
theorem spec_AutomatonValid.link : ∀ k, (∀ (x32 : List Stp) (x33 : Int) (x34 : Int) (y0_0 : Int) (y0_1 : List Int) (y0_2 : List Int) (y0_3 : List Stp), spec_AutomatonValid.x0 k x32 x33 x34 y0_0 y0_1 y0_2 y0_3 = (spec_AutomatonValid.l0 k x32 x33 x34 y0_0 y0_1 y0_2 y0_3).map (spec_AutomatonValid.en))
  | 0 => fun _ _ _ _ _ _ _ => by simp only [spec_AutomatonValid.l0, R.map_none]; rfl
  | k + 1 => by
    have ih0 := spec_AutomatonValid.link k
    · intro x32 x33 x34 y0_0 y0_1 y0_2 y0_3
      rw [spec_AutomatonValid.e0]
      simp only [spec_AutomatonValid.l0, R.map_ite, R.map_bind, R.map_none, R.map_some, R.wr64_eq, ← ih0]
theorem spec_AutomatonValid.sf (k : Nat) (a0_0 : Int) (l0_1 : List Int) (l0_2 : List Int) (l0_3 : List Stp) : R.start Try.prog xhn spec_AutomatonValid.O 0 Try.f25 spec_AutomatonValid.fh k [.agg [.int .i64 a0_0, .imm (.I .i64 l0_1), .imm (.I .i64 l0_2), .imm (.T l0_3)]] [] = (spec_AutomatonValid.f k a0_0 l0_1 l0_2 l0_3).map (spec_AutomatonValid.en) := by
  have ih0 := spec_AutomatonValid.link k
  rw [spec_AutomatonValid.ef]
  simp only [spec_AutomatonValid.f, R.map_ite, R.map_bind, R.map_none, R.map_some, R.wr64_eq, ← ih0]
theorem spec_AutomatonValid.ok (k : Nat) : spec_AutomatonValid.tw.Ok Try.prog k := by
  intro md hmd a r h
  refine fn_ok (H := xhn) (fh := spec_AutomatonValid.fh) (O := spec_AutomatonValid.O) (k := k) Try.func25 (by kernel_rfl) (by kernel_rfl) (fun j _ => (Tw.orc_sound spec_l1In.dok (spec_l1In.ok j) (fun _ => rfl) (Tw.orc_sound spec_l3Marks.dok (spec_l3Marks.ok j) (fun _ => rfl) (Tw.orc_sound spec_l3Step.dok (spec_l3Step.ok j) (fun _ => rfl) (Tw.orc_sound spec_l3Before.dok (spec_l3Before.ok j) (fun _ => rfl) noO_sound))))) (by kernel_rfl) (m := 0) rfl ?_
  refine (spec_AutomatonValid.sf k a.1 a.2.1 a.2.2.1 a.2.2.2).trans ?_
  exact congrArg (Option.map _) h
def spec_ParseAutomaton.l0 : Nat → Bool → (List ByteArray) → Int → Int → Int → (List Int) → (List Int) → (List Stp) → Option (Int × (List Int) × (List Int) × (List Stp) × Bool)
  | 0, _, _, _, _, _, _, _, _ => none
  | k + 1, x12, y2, x68, x69, y1_0, y6, y7, y8 => (if x69 < x68 then (if 0 ≤ x69 then (if x69 < (y2.length : Int) then (if ((rdS y2 x69).size : Int) = 5 then (if 3 < ((rdS y2 x69).size : Int) then (if (btI (rdS y2 x69) 3) = 58 then (if 1 ≤ ((rdS y2 x69).size : Int) then ((spec_l13Num.f k ((rdS y2 x69).extract 0 1)).bind fun t9 => (if 3 ≤ ((rdS y2 x69).size : Int) then ((spec_l13Num.f k ((rdS y2 x69).extract 2 3)).bind fun t10 => (if 4 ≤ ((rdS y2 x69).size : Int) then (if ((rdS y2 x69).size : Int) ≤ ((rdS y2 x69).size : Int) then ((spec_l13Num.f k ((rdS y2 x69).extract 4 (rdS y2 x69).size)).bind fun t11 => (if x12 = true then (if t9.2 = true then (if t10.2 = true then (if 2 ≤ ((rdS y2 x69).size : Int) then (if y8.length < 3518437208883 then (spec_ParseAutomaton.l0 k t11.2 y2 x68 (wrap64 (x69 + 1)) y1_0 y6 y7 (y8 ++ [(⟨t9.1, ((rdS y2 x69).extract 1 2), t10.1, t11.1⟩ : Stp)])) else none) else none) else (if 2 ≤ ((rdS y2 x69).size : Int) then (if y8.length < 3518437208883 then (spec_ParseAutomaton.l0 k false y2 x68 (wrap64 (x69 + 1)) y1_0 y6 y7 (y8 ++ [(⟨t9.1, ((rdS y2 x69).extract 1 2), t10.1, t11.1⟩ : Stp)])) else none) else none)) else (if 2 ≤ ((rdS y2 x69).size : Int) then (if y8.length < 3518437208883 then (spec_ParseAutomaton.l0 k false y2 x68 (wrap64 (x69 + 1)) y1_0 y6 y7 (y8 ++ [(⟨t9.1, ((rdS y2 x69).extract 1 2), t10.1, t11.1⟩ : Stp)])) else none) else none)) else (if 2 ≤ ((rdS y2 x69).size : Int) then (if y8.length < 3518437208883 then (spec_ParseAutomaton.l0 k false y2 x68 (wrap64 (x69 + 1)) y1_0 y6 y7 (y8 ++ [(⟨t9.1, ((rdS y2 x69).extract 1 2), t10.1, t11.1⟩ : Stp)])) else none) else none))) else none) else none)) else none)) else none) else (some (0, ([] : List Int), ([] : List Int), ([] : List Stp), false))) else none) else (some (0, ([] : List Int), ([] : List Int), ([] : List Stp), false))) else none) else none) else (if x12 = true then ((spec_AutomatonValid.f k y1_0 y6 y7 y8).bind fun t12 => (if t12 = true then (some (y1_0, y6, y7, y8, true)) else (some (0, ([] : List Int), ([] : List Int), ([] : List Stp), false)))) else (some (0, ([] : List Int), ([] : List Int), ([] : List Stp), false))))
def spec_ParseAutomaton.f (k : Nat) (a0 : ByteArray) : Option (Int × (List Int) × (List Int) × (List Stp) × Bool) := ((spec_l13Cut.f k a0 59).bind fun t1 => (if (t1.length : Int) = 4 then (if 0 < (t1.length : Int) then ((spec_l13Num.f k (rdS t1 0)).bind fun t2 => (if 1 < (t1.length : Int) then ((spec_l3Read.f k (rdS t1 1)).bind fun t3 => (if 2 < (t1.length : Int) then ((spec_l3Read.f k (rdS t1 2)).bind fun t4 => (if t2.2 = true then (if t3.2 = true then (if 3 < (t1.length : Int) then (if (rdS t1 3).toList = ([] : List UInt8) then (if t4.2 = true then ((spec_AutomatonValid.f k t2.1 t3.1 t4.1 ([] : List Stp)).bind fun t5 => (if t5 = true then (some (t2.1, t3.1, t4.1, ([] : List Stp), true)) else (some (0, ([] : List Int), ([] : List Int), ([] : List Stp), false)))) else (some (0, ([] : List Int), ([] : List Int), ([] : List Stp), false))) else ((spec_l13Cut.f k (rdS t1 3) 32).bind fun t6 => (spec_ParseAutomaton.l0 k t4.2 t6 (t6.length : Int) 0 t2.1 t3.1 t4.1 ([] : List Stp)))) else none) else (if 3 < (t1.length : Int) then (if (rdS t1 3).toList = ([] : List UInt8) then (some (0, ([] : List Int), ([] : List Int), ([] : List Stp), false)) else ((spec_l13Cut.f k (rdS t1 3) 32).bind fun t7 => (spec_ParseAutomaton.l0 k false t7 (t7.length : Int) 0 t2.1 t3.1 t4.1 ([] : List Stp)))) else none)) else (if 3 < (t1.length : Int) then (if (rdS t1 3).toList = ([] : List UInt8) then (some (0, ([] : List Int), ([] : List Int), ([] : List Stp), false)) else ((spec_l13Cut.f k (rdS t1 3) 32).bind fun t8 => (spec_ParseAutomaton.l0 k false t8 (t8.length : Int) 0 t2.1 t3.1 t4.1 ([] : List Stp)))) else none))) else none)) else none)) else none) else (some (0, ([] : List Int), ([] : List Int), ([] : List Stp), false))))
def spec_ParseAutomaton.en (r : Int × (List Int) × (List Int) × (List Stp) × Bool) : Res := (.tup [.agg [.int .i64 r.1, .sl 0 0, .sl 1 0, .sl 2 0], .lit r.2.2.2.2], [.arr 3 0 (.I .i64 r.2.1) false, .arr 3 0 (.I .i64 r.2.2.1) false, .arr 89 0 (.T r.2.2.2.1) false])
def spec_ParseAutomaton.dec : List AV → List R.Obj → Option (ByteArray)
  | [.str a0], [] => some a0
  | _, _ => none
def spec_ParseAutomaton.tw : Tw := ⟨103, ByteArray, Int × (List Int) × (List Int) × (List Stp) × Bool, spec_ParseAutomaton.dec, fun a => [.str a], fun a => [], fun k a => spec_ParseAutomaton.f k a, fun a r => spec_ParseAutomaton.en r, true⟩
theorem spec_ParseAutomaton.dok : spec_ParseAutomaton.tw.DecOk := by
  intro args hc a h
  have h : spec_ParseAutomaton.dec args hc = some a := h
  unfold spec_ParseAutomaton.dec at h
  split at h
  · cases h; exact ⟨rfl, rfl⟩
  · cases h
noncomputable def spec_ParseAutomaton.O (k : Nat) : Oracle := (spec_l13Cut.tw.orc k (spec_l13Num.tw.orc k (spec_l3Read.tw.orc k (spec_AutomatonValid.tw.orc k noO))))
def spec_ParseAutomaton.fh : FH := ⟨fun i => match i with | 11 => some [(2, 0), (11, 0), (12, 0), (67, 0), (68, 0), (69, 0)] | _ => none, [(true, 3), (true, 3), (true, 89)], false⟩
noncomputable def spec_ParseAutomaton.x0 (k : Nat) (x12 : Bool) (y2 : List ByteArray) (x68 : Int) (x69 : Int) (y1_0 : Int) (y6 : List Int) (y7 : List Int) (y8 : List Stp) : Option Res := R.exec Try.prog xhn spec_ParseAutomaton.O 0 Try.f103 spec_ParseAutomaton.fh k (R.point Try.f103 11) ⟨[(2, .ptr 0 0), (11, .ptr 1 0), (12, .lit x12), (67, .sl 2 0), (68, .int .i64 x68), (69, .int .i64 x69)], [(0, .box false [.int .i64 0, .sl 3 0, .sl 4 0, .sl 5 0]), (1, .box false [.int .i64 y1_0, .sl 6 0, .sl 7 0, .sl 8 0]), (2, .arr 9 0 (.S y2) false), (3, .arr 3 0 (.I .i64 ([] : List Int)) false), (4, .arr 3 0 (.I .i64 ([] : List Int)) false), (5, .arr 89 0 (.T ([] : List Stp)) false), (6, .arr 3 0 (.I .i64 y6) false), (7, .arr 3 0 (.I .i64 y7) false), (8, .arr 89 0 (.T y8) false)], 11⟩
set_option maxRecDepth 100000 in
theorem spec_ParseAutomaton.e0 (k : Nat) (x12 : Bool) (y2 : List ByteArray) (x68 : Int) (x69 : Int) (y1_0 : Int) (y6 : List Int) (y7 : List Int) (y8 : List Stp) : spec_ParseAutomaton.x0 (k + 1) x12 y2 x68 x69 y1_0 y6 y7 y8 = (if x69 < x68 then (if 0 ≤ x69 then (if x69 < (y2.length : Int) then (if ((rdS y2 x69).size : Int) = 5 then (if 3 < ((rdS y2 x69).size : Int) then (if (btI (rdS y2 x69) 3) = 58 then (if 1 ≤ ((rdS y2 x69).size : Int) then ((spec_l13Num.f k ((rdS y2 x69).extract 0 1)).bind fun t9 => (if 3 ≤ ((rdS y2 x69).size : Int) then ((spec_l13Num.f k ((rdS y2 x69).extract 2 3)).bind fun t10 => (if 4 ≤ ((rdS y2 x69).size : Int) then (if ((rdS y2 x69).size : Int) ≤ ((rdS y2 x69).size : Int) then ((spec_l13Num.f k ((rdS y2 x69).extract 4 (rdS y2 x69).size)).bind fun t11 => (if x12 = true then (if t9.2 = true then (if t10.2 = true then (if 2 ≤ ((rdS y2 x69).size : Int) then (if y8.length < 3518437208883 then (spec_ParseAutomaton.x0 k t11.2 y2 x68 (wr64 (x69 + 1)) y1_0 y6 y7 (y8 ++ [(⟨t9.1, ((rdS y2 x69).extract 1 2), t10.1, t11.1⟩ : Stp)])) else none) else none) else (if 2 ≤ ((rdS y2 x69).size : Int) then (if y8.length < 3518437208883 then (spec_ParseAutomaton.x0 k false y2 x68 (wr64 (x69 + 1)) y1_0 y6 y7 (y8 ++ [(⟨t9.1, ((rdS y2 x69).extract 1 2), t10.1, t11.1⟩ : Stp)])) else none) else none)) else (if 2 ≤ ((rdS y2 x69).size : Int) then (if y8.length < 3518437208883 then (spec_ParseAutomaton.x0 k false y2 x68 (wr64 (x69 + 1)) y1_0 y6 y7 (y8 ++ [(⟨t9.1, ((rdS y2 x69).extract 1 2), t10.1, t11.1⟩ : Stp)])) else none) else none)) else (if 2 ≤ ((rdS y2 x69).size : Int) then (if y8.length < 3518437208883 then (spec_ParseAutomaton.x0 k false y2 x68 (wr64 (x69 + 1)) y1_0 y6 y7 (y8 ++ [(⟨t9.1, ((rdS y2 x69).extract 1 2), t10.1, t11.1⟩ : Stp)])) else none) else none))) else none) else none)) else none)) else none) else (some (spec_ParseAutomaton.en (0, ([] : List Int), ([] : List Int), ([] : List Stp), false)))) else none) else (some (spec_ParseAutomaton.en (0, ([] : List Int), ([] : List Int), ([] : List Stp), false)))) else none) else none) else (if x12 = true then ((spec_AutomatonValid.f k y1_0 y6 y7 y8).bind fun t12 => (if t12 = true then (some (spec_ParseAutomaton.en (y1_0, y6, y7, y8, true))) else (some (spec_ParseAutomaton.en (0, ([] : List Int), ([] : List Int), ([] : List Stp), false))))) else (some (spec_ParseAutomaton.en (0, ([] : List Int), ([] : List Int), ([] : List Stp), false))))) := by kernel_rfl
set_option maxRecDepth 100000 in
theorem spec_ParseAutomaton.ef (k : Nat) (a0 : ByteArray) : R.start Try.prog xhn spec_ParseAutomaton.O 0 Try.f103 spec_ParseAutomaton.fh k [.str a0] [] = ((spec_l13Cut.f k a0 59).bind fun t1 => (if (t1.length : Int) = 4 then (if 0 < (t1.length : Int) then ((spec_l13Num.f k (rdS t1 0)).bind fun t2 => (if 1 < (t1.length : Int) then ((spec_l3Read.f k (rdS t1 1)).bind fun t3 => (if 2 < (t1.length : Int) then ((spec_l3Read.f k (rdS t1 2)).bind fun t4 => (if t2.2 = true then (if t3.2 = true then (if 3 < (t1.length : Int) then (if (rdS t1 3).toList = ([] : List UInt8) then (if t4.2 = true then ((spec_AutomatonValid.f k t2.1 t3.1 t4.1 ([] : List Stp)).bind fun t5 => (if t5 = true then (some (spec_ParseAutomaton.en (t2.1, t3.1, t4.1, ([] : List Stp), true))) else (some (spec_ParseAutomaton.en (0, ([] : List Int), ([] : List Int), ([] : List Stp), false))))) else (some (spec_ParseAutomaton.en (0, ([] : List Int), ([] : List Int), ([] : List Stp), false)))) else ((spec_l13Cut.f k (rdS t1 3) 32).bind fun t6 => (spec_ParseAutomaton.x0 k t4.2 t6 (t6.length : Int) 0 t2.1 t3.1 t4.1 ([] : List Stp)))) else none) else (if 3 < (t1.length : Int) then (if (rdS t1 3).toList = ([] : List UInt8) then (some (spec_ParseAutomaton.en (0, ([] : List Int), ([] : List Int), ([] : List Stp), false))) else ((spec_l13Cut.f k (rdS t1 3) 32).bind fun t7 => (spec_ParseAutomaton.x0 k false t7 (t7.length : Int) 0 t2.1 t3.1 t4.1 ([] : List Stp)))) else none)) else (if 3 < (t1.length : Int) then (if (rdS t1 3).toList = ([] : List UInt8) then (some (spec_ParseAutomaton.en (0, ([] : List Int), ([] : List Int), ([] : List Stp), false))) else ((spec_l13Cut.f k (rdS t1 3) 32).bind fun t8 => (spec_ParseAutomaton.x0 k false t8 (t8.length : Int) 0 t2.1 t3.1 t4.1 ([] : List Stp)))) else none))) else none)) else none)) else none) else (some (spec_ParseAutomaton.en (0, ([] : List Int), ([] : List Int), ([] : List Stp), false))))) := by
  refine Eq.trans ?_ (R.bcong fun t1 => (R.icong (fun h0 => (R.icong (fun h1 => (R.bcong fun t2 => (R.icong (fun h2 => (R.bcong fun t3 => (R.icong (fun h3 => (R.bcong fun t4 => (R.icong (fun h4 => (R.icong (fun h5 => (R.icong (fun h6 => (R.icong (fun h7 => rfl) (fun h7 => (R.idropT (p := 3 < (t1.length : Int)) (z := none) h6 rfl)))) (fun h6 => rfl))) (fun h5 => (R.icong (fun h6 => (R.icong (fun h7 => rfl) (fun h7 => (R.idropT (p := 3 < (t1.length : Int)) (z := none) h6 rfl)))) (fun h6 => rfl))))) (fun h4 => (R.icong (fun h5 => (R.icong (fun h6 => rfl) (fun h6 => (R.idropT (p := 3 < (t1.length : Int)) (z := none) h5 rfl)))) (fun h5 => rfl)))))) (fun h3 => rfl)))) (fun h2 => rfl)))) (fun h1 => rfl))) (fun h0 => rfl)))
  kernel_rfl
theorem spec_ParseAutomaton.link : ∀ k, (∀ (x12 : Bool) (y2 : List ByteArray) (x68 : Int) (x69 : Int) (y1_0 : Int) (y6 : List Int) (y7 : List Int) (y8 : List Stp), spec_ParseAutomaton.x0 k x12 y2 x68 x69 y1_0 y6 y7 y8 = (spec_ParseAutomaton.l0 k x12 y2 x68 x69 y1_0 y6 y7 y8).map (spec_ParseAutomaton.en))
  | 0 => fun _ _ _ _ _ _ _ _ => by simp only [spec_ParseAutomaton.l0, R.map_none]; rfl
  | k + 1 => by
    have ih0 := spec_ParseAutomaton.link k
    · intro x12 y2 x68 x69 y1_0 y6 y7 y8
      rw [spec_ParseAutomaton.e0]
      simp only [spec_ParseAutomaton.l0, R.map_ite, R.map_bind, R.map_none, R.map_some, R.wr64_eq, ← ih0]
theorem spec_ParseAutomaton.sf (k : Nat) (a0 : ByteArray) : R.start Try.prog xhn spec_ParseAutomaton.O 0 Try.f103 spec_ParseAutomaton.fh k [.str a0] [] = (spec_ParseAutomaton.f k a0).map (spec_ParseAutomaton.en) := by
  have ih0 := spec_ParseAutomaton.link k
  rw [spec_ParseAutomaton.ef]
  simp only [spec_ParseAutomaton.f, R.map_ite, R.map_bind, R.map_none, R.map_some, R.wr64_eq, ← ih0]
theorem spec_ParseAutomaton.ok (k : Nat) : spec_ParseAutomaton.tw.Ok Try.prog k := by
  intro md hmd a r h
  refine fn_ok (H := xhn) (fh := spec_ParseAutomaton.fh) (O := spec_ParseAutomaton.O) (k := k) Try.func103 (by kernel_rfl) (by kernel_rfl) (fun j _ => (Tw.orc_sound spec_l13Cut.dok (spec_l13Cut.ok j) (fun _ => rfl) (Tw.orc_sound spec_l13Num.dok (spec_l13Num.ok j) (fun _ => rfl) (Tw.orc_sound spec_l3Read.dok (spec_l3Read.ok j) (fun _ => rfl) (Tw.orc_sound spec_AutomatonValid.dok (spec_AutomatonValid.ok j) (fun _ => rfl) noO_sound))))) (by kernel_rfl) (m := 0) rfl ?_
  refine (spec_ParseAutomaton.sf k a).trans ?_
  exact congrArg (Option.map _) h
def spec_l3Known.f (k : Nat) (a0 : Int) : Option (Int × (List Int) × (List Int) × (List Stp)) := (if ([(⟨#[49, 59, 48, 59, 48, 59, 48, 97, 48, 58, 49, 32, 48, 98, 48, 58, 48]⟩ : ByteArray), (⟨#[50, 59, 48, 59, 49, 59, 48, 97, 48, 58, 48, 32, 48, 97, 49, 58, 49, 32, 49, 98, 49, 58, 48]⟩ : ByteArray), (⟨#[50, 59, 48, 32, 49, 59, 48, 32, 49, 59, 48, 97, 48, 58, 49, 32, 48, 98, 48, 58, 48, 32, 49, 97, 49, 58, 48, 32, 49, 98, 49, 58, 49]⟩ : ByteArray), (⟨#[51, 59, 48, 59, 48, 32, 50, 59, 48, 97, 48, 58, 48, 32, 48, 97, 49, 58, 48, 32, 48, 98, 48, 58, 49, 32, 49, 97, 49, 58, 49, 32, 49, 98, 50, 58, 48, 32, 50, 97, 50, 58, 48, 32, 50, 98, 50, 58, 48]⟩ : ByteArray), (⟨#[50, 59, 48, 59, 48, 59, 48, 97, 49, 58, 49, 32, 49, 98, 48, 58, 48]⟩ : ByteArray), (⟨#[51, 59, 48, 59, 50, 59, 48, 97, 48, 58, 48, 32, 48, 98, 48, 58, 48, 32, 48, 98, 49, 58, 48, 32, 49, 97, 49, 58, 49, 32, 49, 98, 50, 58, 48, 32, 50, 97, 50, 58, 48, 32, 50, 98, 50, 58, 48]⟩ : ByteArray), (⟨#[49, 59, 48, 59, 48, 59, 48, 97, 48, 58, 48]⟩ : ByteArray), (⟨#[50, 59, 48, 59, 48, 32, 49, 59, 48, 97, 48, 58, 48, 32, 48, 98, 49, 58, 49, 32, 49, 97, 48, 58, 48, 32, 49, 98, 49, 58, 48]⟩ : ByteArray), (⟨#[50, 59, 48, 59, 49, 59, 48, 97, 49, 58, 50, 32, 49, 97, 49, 58, 48, 32, 49, 98, 48, 58, 49]⟩ : ByteArray)].length : Int) = 0 then none else (if 0 ≤ (a0.tmod ([(⟨#[49, 59, 48, 59, 48, 59, 48, 97, 48, 58, 49, 32, 48, 98, 48, 58, 48]⟩ : ByteArray), (⟨#[50, 59, 48, 59, 49, 59, 48, 97, 48, 58, 48, 32, 48, 97, 49, 58, 49, 32, 49, 98, 49, 58, 48]⟩ : ByteArray), (⟨#[50, 59, 48, 32, 49, 59, 48, 32, 49, 59, 48, 97, 48, 58, 49, 32, 48, 98, 48, 58, 48, 32, 49, 97, 49, 58, 48, 32, 49, 98, 49, 58, 49]⟩ : ByteArray), (⟨#[51, 59, 48, 59, 48, 32, 50, 59, 48, 97, 48, 58, 48, 32, 48, 97, 49, 58, 48, 32, 48, 98, 48, 58, 49, 32, 49, 97, 49, 58, 49, 32, 49, 98, 50, 58, 48, 32, 50, 97, 50, 58, 48, 32, 50, 98, 50, 58, 48]⟩ : ByteArray), (⟨#[50, 59, 48, 59, 48, 59, 48, 97, 49, 58, 49, 32, 49, 98, 48, 58, 48]⟩ : ByteArray), (⟨#[51, 59, 48, 59, 50, 59, 48, 97, 48, 58, 48, 32, 48, 98, 48, 58, 48, 32, 48, 98, 49, 58, 48, 32, 49, 97, 49, 58, 49, 32, 49, 98, 50, 58, 48, 32, 50, 97, 50, 58, 48, 32, 50, 98, 50, 58, 48]⟩ : ByteArray), (⟨#[49, 59, 48, 59, 48, 59, 48, 97, 48, 58, 48]⟩ : ByteArray), (⟨#[50, 59, 48, 59, 48, 32, 49, 59, 48, 97, 48, 58, 48, 32, 48, 98, 49, 58, 49, 32, 49, 97, 48, 58, 48, 32, 49, 98, 49, 58, 48]⟩ : ByteArray), (⟨#[50, 59, 48, 59, 49, 59, 48, 97, 49, 58, 50, 32, 49, 97, 49, 58, 48, 32, 49, 98, 48, 58, 49]⟩ : ByteArray)].length : Int)) then (if (a0.tmod ([(⟨#[49, 59, 48, 59, 48, 59, 48, 97, 48, 58, 49, 32, 48, 98, 48, 58, 48]⟩ : ByteArray), (⟨#[50, 59, 48, 59, 49, 59, 48, 97, 48, 58, 48, 32, 48, 97, 49, 58, 49, 32, 49, 98, 49, 58, 48]⟩ : ByteArray), (⟨#[50, 59, 48, 32, 49, 59, 48, 32, 49, 59, 48, 97, 48, 58, 49, 32, 48, 98, 48, 58, 48, 32, 49, 97, 49, 58, 48, 32, 49, 98, 49, 58, 49]⟩ : ByteArray), (⟨#[51, 59, 48, 59, 48, 32, 50, 59, 48, 97, 48, 58, 48, 32, 48, 97, 49, 58, 48, 32, 48, 98, 48, 58, 49, 32, 49, 97, 49, 58, 49, 32, 49, 98, 50, 58, 48, 32, 50, 97, 50, 58, 48, 32, 50, 98, 50, 58, 48]⟩ : ByteArray), (⟨#[50, 59, 48, 59, 48, 59, 48, 97, 49, 58, 49, 32, 49, 98, 48, 58, 48]⟩ : ByteArray), (⟨#[51, 59, 48, 59, 50, 59, 48, 97, 48, 58, 48, 32, 48, 98, 48, 58, 48, 32, 48, 98, 49, 58, 48, 32, 49, 97, 49, 58, 49, 32, 49, 98, 50, 58, 48, 32, 50, 97, 50, 58, 48, 32, 50, 98, 50, 58, 48]⟩ : ByteArray), (⟨#[49, 59, 48, 59, 48, 59, 48, 97, 48, 58, 48]⟩ : ByteArray), (⟨#[50, 59, 48, 59, 48, 32, 49, 59, 48, 97, 48, 58, 48, 32, 48, 98, 49, 58, 49, 32, 49, 97, 48, 58, 48, 32, 49, 98, 49, 58, 48]⟩ : ByteArray), (⟨#[50, 59, 48, 59, 49, 59, 48, 97, 49, 58, 50, 32, 49, 97, 49, 58, 48, 32, 49, 98, 48, 58, 49]⟩ : ByteArray)].length : Int)) < ([(⟨#[49, 59, 48, 59, 48, 59, 48, 97, 48, 58, 49, 32, 48, 98, 48, 58, 48]⟩ : ByteArray), (⟨#[50, 59, 48, 59, 49, 59, 48, 97, 48, 58, 48, 32, 48, 97, 49, 58, 49, 32, 49, 98, 49, 58, 48]⟩ : ByteArray), (⟨#[50, 59, 48, 32, 49, 59, 48, 32, 49, 59, 48, 97, 48, 58, 49, 32, 48, 98, 48, 58, 48, 32, 49, 97, 49, 58, 48, 32, 49, 98, 49, 58, 49]⟩ : ByteArray), (⟨#[51, 59, 48, 59, 48, 32, 50, 59, 48, 97, 48, 58, 48, 32, 48, 97, 49, 58, 48, 32, 48, 98, 48, 58, 49, 32, 49, 97, 49, 58, 49, 32, 49, 98, 50, 58, 48, 32, 50, 97, 50, 58, 48, 32, 50, 98, 50, 58, 48]⟩ : ByteArray), (⟨#[50, 59, 48, 59, 48, 59, 48, 97, 49, 58, 49, 32, 49, 98, 48, 58, 48]⟩ : ByteArray), (⟨#[51, 59, 48, 59, 50, 59, 48, 97, 48, 58, 48, 32, 48, 98, 48, 58, 48, 32, 48, 98, 49, 58, 48, 32, 49, 97, 49, 58, 49, 32, 49, 98, 50, 58, 48, 32, 50, 97, 50, 58, 48, 32, 50, 98, 50, 58, 48]⟩ : ByteArray), (⟨#[49, 59, 48, 59, 48, 59, 48, 97, 48, 58, 48]⟩ : ByteArray), (⟨#[50, 59, 48, 59, 48, 32, 49, 59, 48, 97, 48, 58, 48, 32, 48, 98, 49, 58, 49, 32, 49, 97, 48, 58, 48, 32, 49, 98, 49, 58, 48]⟩ : ByteArray), (⟨#[50, 59, 48, 59, 49, 59, 48, 97, 49, 58, 50, 32, 49, 97, 49, 58, 48, 32, 49, 98, 48, 58, 49]⟩ : ByteArray)].length : Int) then ((spec_ParseAutomaton.f k (rdS [(⟨#[49, 59, 48, 59, 48, 59, 48, 97, 48, 58, 49, 32, 48, 98, 48, 58, 48]⟩ : ByteArray), (⟨#[50, 59, 48, 59, 49, 59, 48, 97, 48, 58, 48, 32, 48, 97, 49, 58, 49, 32, 49, 98, 49, 58, 48]⟩ : ByteArray), (⟨#[50, 59, 48, 32, 49, 59, 48, 32, 49, 59, 48, 97, 48, 58, 49, 32, 48, 98, 48, 58, 48, 32, 49, 97, 49, 58, 48, 32, 49, 98, 49, 58, 49]⟩ : ByteArray), (⟨#[51, 59, 48, 59, 48, 32, 50, 59, 48, 97, 48, 58, 48, 32, 48, 97, 49, 58, 48, 32, 48, 98, 48, 58, 49, 32, 49, 97, 49, 58, 49, 32, 49, 98, 50, 58, 48, 32, 50, 97, 50, 58, 48, 32, 50, 98, 50, 58, 48]⟩ : ByteArray), (⟨#[50, 59, 48, 59, 48, 59, 48, 97, 49, 58, 49, 32, 49, 98, 48, 58, 48]⟩ : ByteArray), (⟨#[51, 59, 48, 59, 50, 59, 48, 97, 48, 58, 48, 32, 48, 98, 48, 58, 48, 32, 48, 98, 49, 58, 48, 32, 49, 97, 49, 58, 49, 32, 49, 98, 50, 58, 48, 32, 50, 97, 50, 58, 48, 32, 50, 98, 50, 58, 48]⟩ : ByteArray), (⟨#[49, 59, 48, 59, 48, 59, 48, 97, 48, 58, 48]⟩ : ByteArray), (⟨#[50, 59, 48, 59, 48, 32, 49, 59, 48, 97, 48, 58, 48, 32, 48, 98, 49, 58, 49, 32, 49, 97, 48, 58, 48, 32, 49, 98, 49, 58, 48]⟩ : ByteArray), (⟨#[50, 59, 48, 59, 49, 59, 48, 97, 49, 58, 50, 32, 49, 97, 49, 58, 48, 32, 49, 98, 48, 58, 49]⟩ : ByteArray)] (a0.tmod ([(⟨#[49, 59, 48, 59, 48, 59, 48, 97, 48, 58, 49, 32, 48, 98, 48, 58, 48]⟩ : ByteArray), (⟨#[50, 59, 48, 59, 49, 59, 48, 97, 48, 58, 48, 32, 48, 97, 49, 58, 49, 32, 49, 98, 49, 58, 48]⟩ : ByteArray), (⟨#[50, 59, 48, 32, 49, 59, 48, 32, 49, 59, 48, 97, 48, 58, 49, 32, 48, 98, 48, 58, 48, 32, 49, 97, 49, 58, 48, 32, 49, 98, 49, 58, 49]⟩ : ByteArray), (⟨#[51, 59, 48, 59, 48, 32, 50, 59, 48, 97, 48, 58, 48, 32, 48, 97, 49, 58, 48, 32, 48, 98, 48, 58, 49, 32, 49, 97, 49, 58, 49, 32, 49, 98, 50, 58, 48, 32, 50, 97, 50, 58, 48, 32, 50, 98, 50, 58, 48]⟩ : ByteArray), (⟨#[50, 59, 48, 59, 48, 59, 48, 97, 49, 58, 49, 32, 49, 98, 48, 58, 48]⟩ : ByteArray), (⟨#[51, 59, 48, 59, 50, 59, 48, 97, 48, 58, 48, 32, 48, 98, 48, 58, 48, 32, 48, 98, 49, 58, 48, 32, 49, 97, 49, 58, 49, 32, 49, 98, 50, 58, 48, 32, 50, 97, 50, 58, 48, 32, 50, 98, 50, 58, 48]⟩ : ByteArray), (⟨#[49, 59, 48, 59, 48, 59, 48, 97, 48, 58, 48]⟩ : ByteArray), (⟨#[50, 59, 48, 59, 48, 32, 49, 59, 48, 97, 48, 58, 48, 32, 48, 98, 49, 58, 49, 32, 49, 97, 48, 58, 48, 32, 49, 98, 49, 58, 48]⟩ : ByteArray), (⟨#[50, 59, 48, 59, 49, 59, 48, 97, 49, 58, 50, 32, 49, 97, 49, 58, 48, 32, 49, 98, 48, 58, 49]⟩ : ByteArray)].length : Int)))).bind fun t1 => (some (t1.1, t1.2.1, t1.2.2.1, t1.2.2.2.1))) else none) else none))
def spec_l3Known.en (r : Int × (List Int) × (List Int) × (List Stp)) : Res := (.agg [.int .i64 r.1, .sl 0 0, .sl 1 0, .sl 2 0], [.arr 3 0 (.I .i64 r.2.1) false, .arr 3 0 (.I .i64 r.2.2.1) false, .arr 89 0 (.T r.2.2.2) false])
def spec_l3Known.dec : List AV → List R.Obj → Option (Int)
  | [.int .i64 a0], [] => some a0
  | _, _ => none
def spec_l3Known.tw : Tw := ⟨78, Int, Int × (List Int) × (List Int) × (List Stp), spec_l3Known.dec, fun a => [.int .i64 a], fun a => [], fun k a => spec_l3Known.f k a, fun a r => spec_l3Known.en r, true⟩
theorem spec_l3Known.dok : spec_l3Known.tw.DecOk := by
  intro args hc a h
  have h : spec_l3Known.dec args hc = some a := h
  unfold spec_l3Known.dec at h
  split at h
  · cases h; exact ⟨rfl, rfl⟩
  · cases h
noncomputable def spec_l3Known.O (k : Nat) : Oracle := (spec_ParseAutomaton.tw.orc k noO)
def spec_l3Known.fh : FH := ⟨fun i => match i with | _ => none, [(true, 3), (true, 3), (true, 89)], false⟩
set_option maxRecDepth 100000 in
theorem spec_l3Known.ef (k : Nat) (a0 : Int) : R.start Try.prog xhn spec_l3Known.O 0 Try.f78 spec_l3Known.fh k [.int .i64 a0] [] = (if ([(⟨#[49, 59, 48, 59, 48, 59, 48, 97, 48, 58, 49, 32, 48, 98, 48, 58, 48]⟩ : ByteArray), (⟨#[50, 59, 48, 59, 49, 59, 48, 97, 48, 58, 48, 32, 48, 97, 49, 58, 49, 32, 49, 98, 49, 58, 48]⟩ : ByteArray), (⟨#[50, 59, 48, 32, 49, 59, 48, 32, 49, 59, 48, 97, 48, 58, 49, 32, 48, 98, 48, 58, 48, 32, 49, 97, 49, 58, 48, 32, 49, 98, 49, 58, 49]⟩ : ByteArray), (⟨#[51, 59, 48, 59, 48, 32, 50, 59, 48, 97, 48, 58, 48, 32, 48, 97, 49, 58, 48, 32, 48, 98, 48, 58, 49, 32, 49, 97, 49, 58, 49, 32, 49, 98, 50, 58, 48, 32, 50, 97, 50, 58, 48, 32, 50, 98, 50, 58, 48]⟩ : ByteArray), (⟨#[50, 59, 48, 59, 48, 59, 48, 97, 49, 58, 49, 32, 49, 98, 48, 58, 48]⟩ : ByteArray), (⟨#[51, 59, 48, 59, 50, 59, 48, 97, 48, 58, 48, 32, 48, 98, 48, 58, 48, 32, 48, 98, 49, 58, 48, 32, 49, 97, 49, 58, 49, 32, 49, 98, 50, 58, 48, 32, 50, 97, 50, 58, 48, 32, 50, 98, 50, 58, 48]⟩ : ByteArray), (⟨#[49, 59, 48, 59, 48, 59, 48, 97, 48, 58, 48]⟩ : ByteArray), (⟨#[50, 59, 48, 59, 48, 32, 49, 59, 48, 97, 48, 58, 48, 32, 48, 98, 49, 58, 49, 32, 49, 97, 48, 58, 48, 32, 49, 98, 49, 58, 48]⟩ : ByteArray), (⟨#[50, 59, 48, 59, 49, 59, 48, 97, 49, 58, 50, 32, 49, 97, 49, 58, 48, 32, 49, 98, 48, 58, 49]⟩ : ByteArray)].length : Int) = 0 then none else (if 0 ≤ (a0.tmod ([(⟨#[49, 59, 48, 59, 48, 59, 48, 97, 48, 58, 49, 32, 48, 98, 48, 58, 48]⟩ : ByteArray), (⟨#[50, 59, 48, 59, 49, 59, 48, 97, 48, 58, 48, 32, 48, 97, 49, 58, 49, 32, 49, 98, 49, 58, 48]⟩ : ByteArray), (⟨#[50, 59, 48, 32, 49, 59, 48, 32, 49, 59, 48, 97, 48, 58, 49, 32, 48, 98, 48, 58, 48, 32, 49, 97, 49, 58, 48, 32, 49, 98, 49, 58, 49]⟩ : ByteArray), (⟨#[51, 59, 48, 59, 48, 32, 50, 59, 48, 97, 48, 58, 48, 32, 48, 97, 49, 58, 48, 32, 48, 98, 48, 58, 49, 32, 49, 97, 49, 58, 49, 32, 49, 98, 50, 58, 48, 32, 50, 97, 50, 58, 48, 32, 50, 98, 50, 58, 48]⟩ : ByteArray), (⟨#[50, 59, 48, 59, 48, 59, 48, 97, 49, 58, 49, 32, 49, 98, 48, 58, 48]⟩ : ByteArray), (⟨#[51, 59, 48, 59, 50, 59, 48, 97, 48, 58, 48, 32, 48, 98, 48, 58, 48, 32, 48, 98, 49, 58, 48, 32, 49, 97, 49, 58, 49, 32, 49, 98, 50, 58, 48, 32, 50, 97, 50, 58, 48, 32, 50, 98, 50, 58, 48]⟩ : ByteArray), (⟨#[49, 59, 48, 59, 48, 59, 48, 97, 48, 58, 48]⟩ : ByteArray), (⟨#[50, 59, 48, 59, 48, 32, 49, 59, 48, 97, 48, 58, 48, 32, 48, 98, 49, 58, 49, 32, 49, 97, 48, 58, 48, 32, 49, 98, 49, 58, 48]⟩ : ByteArray), (⟨#[50, 59, 48, 59, 49, 59, 48, 97, 49, 58, 50, 32, 49, 97, 49, 58, 48, 32, 49, 98, 48, 58, 49]⟩ : ByteArray)].length : Int)) then (if (a0.tmod ([(⟨#[49, 59, 48, 59, 48, 59, 48, 97, 48, 58, 49, 32, 48, 98, 48, 58, 48]⟩ : ByteArray), (⟨#[50, 59, 48, 59, 49, 59, 48, 97, 48, 58, 48, 32, 48, 97, 49, 58, 49, 32, 49, 98, 49, 58, 48]⟩ : ByteArray), (⟨#[50, 59, 48, 32, 49, 59, 48, 32, 49, 59, 48, 97, 48, 58, 49, 32, 48, 98, 48, 58, 48, 32, 49, 97, 49, 58, 48, 32, 49, 98, 49, 58, 49]⟩ : ByteArray), (⟨#[51, 59, 48, 59, 48, 32, 50, 59, 48, 97, 48, 58, 48, 32, 48, 97, 49, 58, 48, 32, 48, 98, 48, 58, 49, 32, 49, 97, 49, 58, 49, 32, 49, 98, 50, 58, 48, 32, 50, 97, 50, 58, 48, 32, 50, 98, 50, 58, 48]⟩ : ByteArray), (⟨#[50, 59, 48, 59, 48, 59, 48, 97, 49, 58, 49, 32, 49, 98, 48, 58, 48]⟩ : ByteArray), (⟨#[51, 59, 48, 59, 50, 59, 48, 97, 48, 58, 48, 32, 48, 98, 48, 58, 48, 32, 48, 98, 49, 58, 48, 32, 49, 97, 49, 58, 49, 32, 49, 98, 50, 58, 48, 32, 50, 97, 50, 58, 48, 32, 50, 98, 50, 58, 48]⟩ : ByteArray), (⟨#[49, 59, 48, 59, 48, 59, 48, 97, 48, 58, 48]⟩ : ByteArray), (⟨#[50, 59, 48, 59, 48, 32, 49, 59, 48, 97, 48, 58, 48, 32, 48, 98, 49, 58, 49, 32, 49, 97, 48, 58, 48, 32, 49, 98, 49, 58, 48]⟩ : ByteArray), (⟨#[50, 59, 48, 59, 49, 59, 48, 97, 49, 58, 50, 32, 49, 97, 49, 58, 48, 32, 49, 98, 48, 58, 49]⟩ : ByteArray)].length : Int)) < ([(⟨#[49, 59, 48, 59, 48, 59, 48, 97, 48, 58, 49, 32, 48, 98, 48, 58, 48]⟩ : ByteArray), (⟨#[50, 59, 48, 59, 49, 59, 48, 97, 48, 58, 48, 32, 48, 97, 49, 58, 49, 32, 49, 98, 49, 58, 48]⟩ : ByteArray), (⟨#[50, 59, 48, 32, 49, 59, 48, 32, 49, 59, 48, 97, 48, 58, 49, 32, 48, 98, 48, 58, 48, 32, 49, 97, 49, 58, 48, 32, 49, 98, 49, 58, 49]⟩ : ByteArray), (⟨#[51, 59, 48, 59, 48, 32, 50, 59, 48, 97, 48, 58, 48, 32, 48, 97, 49, 58, 48, 32, 48, 98, 48, 58, 49, 32, 49, 97, 49, 58, 49, 32, 49, 98, 50, 58, 48, 32, 50, 97, 50, 58, 48, 32, 50, 98, 50, 58, 48]⟩ : ByteArray), (⟨#[50, 59, 48, 59, 48, 59, 48, 97, 49, 58, 49, 32, 49, 98, 48, 58, 48]⟩ : ByteArray), (⟨#[51, 59, 48, 59, 50, 59, 48, 97, 48, 58, 48, 32, 48, 98, 48, 58, 48, 32, 48, 98, 49, 58, 48, 32, 49, 97, 49, 58, 49, 32, 49, 98, 50, 58, 48, 32, 50, 97, 50, 58, 48, 32, 50, 98, 50, 58, 48]⟩ : ByteArray), (⟨#[49, 59, 48, 59, 48, 59, 48, 97, 48, 58, 48]⟩ : ByteArray), (⟨#[50, 59, 48, 59, 48, 32, 49, 59, 48, 97, 48, 58, 48, 32, 48, 98, 49, 58, 49, 32, 49, 97, 48, 58, 48, 32, 49, 98, 49, 58, 48]⟩ : ByteArray), (⟨#[50, 59, 48, 59, 49, 59, 48, 97, 49, 58, 50, 32, 49, 97, 49, 58, 48, 32, 49, 98, 48, 58, 49]⟩ : ByteArray)].length : Int) then ((spec_ParseAutomaton.f k (rdS [(⟨#[49, 59, 48, 59, 48, 59, 48, 97, 48, 58, 49, 32, 48, 98, 48, 58, 48]⟩ : ByteArray), (⟨#[50, 59, 48, 59, 49, 59, 48, 97, 48, 58, 48, 32, 48, 97, 49, 58, 49, 32, 49, 98, 49, 58, 48]⟩ : ByteArray), (⟨#[50, 59, 48, 32, 49, 59, 48, 32, 49, 59, 48, 97, 48, 58, 49, 32, 48, 98, 48, 58, 48, 32, 49, 97, 49, 58, 48, 32, 49, 98, 49, 58, 49]⟩ : ByteArray), (⟨#[51, 59, 48, 59, 48, 32, 50, 59, 48, 97, 48, 58, 48, 32, 48, 97, 49, 58, 48, 32, 48, 98, 48, 58, 49, 32, 49, 97, 49, 58, 49, 32, 49, 98, 50, 58, 48, 32, 50, 97, 50, 58, 48, 32, 50, 98, 50, 58, 48]⟩ : ByteArray), (⟨#[50, 59, 48, 59, 48, 59, 48, 97, 49, 58, 49, 32, 49, 98, 48, 58, 48]⟩ : ByteArray), (⟨#[51, 59, 48, 59, 50, 59, 48, 97, 48, 58, 48, 32, 48, 98, 48, 58, 48, 32, 48, 98, 49, 58, 48, 32, 49, 97, 49, 58, 49, 32, 49, 98, 50, 58, 48, 32, 50, 97, 50, 58, 48, 32, 50, 98, 50, 58, 48]⟩ : ByteArray), (⟨#[49, 59, 48, 59, 48, 59, 48, 97, 48, 58, 48]⟩ : ByteArray), (⟨#[50, 59, 48, 59, 48, 32, 49, 59, 48, 97, 48, 58, 48, 32, 48, 98, 49, 58, 49, 32, 49, 97, 48, 58, 48, 32, 49, 98, 49, 58, 48]⟩ : ByteArray), (⟨#[50, 59, 48, 59, 49, 59, 48, 97, 49, 58, 50, 32, 49, 97, 49, 58, 48, 32, 49, 98, 48, 58, 49]⟩ : ByteArray)] (a0.tmod ([(⟨#[49, 59, 48, 59, 48, 59, 48, 97, 48, 58, 49, 32, 48, 98, 48, 58, 48]⟩ : ByteArray), (⟨#[50, 59, 48, 59, 49, 59, 48, 97, 48, 58, 48, 32, 48, 97, 49, 58, 49, 32, 49, 98, 49, 58, 48]⟩ : ByteArray), (⟨#[50, 59, 48, 32, 49, 59, 48, 32, 49, 59, 48, 97, 48, 58, 49, 32, 48, 98, 48, 58, 48, 32, 49, 97, 49, 58, 48, 32, 49, 98, 49, 58, 49]⟩ : ByteArray), (⟨#[51, 59, 48, 59, 48, 32, 50, 59, 48, 97, 48, 58, 48, 32, 48, 97, 49, 58, 48, 32, 48, 98, 48, 58, 49, 32, 49, 97, 49, 58, 49, 32, 49, 98, 50, 58, 48, 32, 50, 97, 50, 58, 48, 32, 50, 98, 50, 58, 48]⟩ : ByteArray), (⟨#[50, 59, 48, 59, 48, 59, 48, 97, 49, 58, 49, 32, 49, 98, 48, 58, 48]⟩ : ByteArray), (⟨#[51, 59, 48, 59, 50, 59, 48, 97, 48, 58, 48, 32, 48, 98, 48, 58, 48, 32, 48, 98, 49, 58, 48, 32, 49, 97, 49, 58, 49, 32, 49, 98, 50, 58, 48, 32, 50, 97, 50, 58, 48, 32, 50, 98, 50, 58, 48]⟩ : ByteArray), (⟨#[49, 59, 48, 59, 48, 59, 48, 97, 48, 58, 48]⟩ : ByteArray), (⟨#[50, 59, 48, 59, 48, 32, 49, 59, 48, 97, 48, 58, 48, 32, 48, 98, 49, 58, 49, 32, 49, 97, 48, 58, 48, 32, 49, 98, 49, 58, 48]⟩ : ByteArray), (⟨#[50, 59, 48, 59, 49, 59, 48, 97, 49, 58, 50, 32, 49, 97, 49, 58, 48, 32, 49, 98, 48, 58, 49]⟩ : ByteArray)].length : Int)))).bind fun t1 => (some (spec_l3Known.en (t1.1, t1.2.1, t1.2.2.1, t1.2.2.2.1)))) else none) else none)) := by kernel_rfl
theorem spec_l3Known.sf (k : Nat) (a0 : Int) : R.start Try.prog xhn spec_l3Known.O 0 Try.f78 spec_l3Known.fh k [.int .i64 a0] [] = (spec_l3Known.f k a0).map (spec_l3Known.en) := by
  rw [spec_l3Known.ef]
  simp only [spec_l3Known.f, R.map_ite, R.map_bind, R.map_none, R.map_some, R.wr64_eq]
theorem spec_l3Known.ok (k : Nat) : spec_l3Known.tw.Ok Try.prog k := by
  intro md hmd a r h
  refine fn_ok (H := xhn) (fh := spec_l3Known.fh) (O := spec_l3Known.O) (k := k) Try.func78 (by kernel_rfl) (by kernel_rfl) (fun j _ => (Tw.orc_sound spec_ParseAutomaton.dok (spec_ParseAutomaton.ok j) (fun _ => rfl) noO_sound)) (by kernel_rfl) (m := 0) rfl ?_
  refine (spec_l3Known.sf k a).trans ?_
  exact congrArg (Option.map _) h
def spec_l3Some.l0 : Nat → (List Int) → Int → Int → (List Int) → Int → Option ((List Int) × (List Int) × Int)
  | 0, _, _, _, _, _ => none
  | k + 1, y1, x8, x9, y0_0, y0_1 => (if x9 < x8 then ((spec_l13Rd_pick.f 2 y0_0 y0_1).bind fun t1 => (if t1.1 = 0 then (if y1.length < 17592186044416 then (spec_l3Some.l0 k (y1 ++ [x9]) x8 (wrap64 (x9 + 1)) t1.2.1 t1.2.2) else none) else (spec_l3Some.l0 k y1 x8 (wrap64 (x9 + 1)) t1.2.1 t1.2.2))) else (some (y1, y0_0, y0_1)))
def spec_l3Some.f (k : Nat) (a1 : Int) (l2_0 : List Int) (a2_1 : Int) : Option ((List Int) × (List Int) × Int) := (spec_l3Some.l0 k ([] : List Int) a1 0 l2_0 a2_1)
def spec_l3Some.en (r : (List Int) × (List Int) × Int) : Res := (.sl 1 0, [.box false [.imm (.I .u8 r.2.1), .int .i64 r.2.2], .arr 3 0 (.I .i64 r.1) false])
def spec_l3Some.dec : List AV → List R.Obj → Option (Int × (List Int) × Int)
  | [.ptr 0 0, .int .i64 a1], [.box false [.imm (.I .u8 l2_0), .int .i64 a2_1]] => some (a1, l2_0, a2_1)
  | _, _ => none
def spec_l3Some.tw : Tw := ⟨79, Int × (List Int) × Int, (List Int) × (List Int) × Int, spec_l3Some.dec, fun a => [.ptr 0 0, .int .i64 a.1], fun a => [.box false [.imm (.I .u8 a.2.1), .int .i64 a.2.2]], fun k a => spec_l3Some.f k a.1 a.2.1 a.2.2, fun a r => spec_l3Some.en r, true⟩
theorem spec_l3Some.dok : spec_l3Some.tw.DecOk := by
  intro args hc a h
  have h : spec_l3Some.dec args hc = some a := h
  unfold spec_l3Some.dec at h
  split at h
  · cases h; exact ⟨rfl, rfl⟩
  · cases h
noncomputable def spec_l3Some.O (k : Nat) : Oracle := (spec_l13Rd_pick.tw.orc k noO)
def spec_l3Some.fh : FH := ⟨fun i => match i with | 3 => some [(0, 0), (5, 0), (8, 0), (9, 0)] | _ => none, [(true, 3)], false⟩
noncomputable def spec_l3Some.x0 (k : Nat) (y1 : List Int) (x8 : Int) (x9 : Int) (y0_0 : List Int) (y0_1 : Int) : Option Res := R.exec Try.prog xhn spec_l3Some.O 1 Try.f79 spec_l3Some.fh k (R.point Try.f79 3) ⟨[(0, .ptr 0 0), (5, .sl 1 0), (8, .int .i64 x8), (9, .int .i64 x9)], [(0, .box false [.imm (.I .u8 y0_0), .int .i64 y0_1]), (1, .arr 3 0 (.I .i64 y1) false)], 4⟩
set_option maxRecDepth 100000 in
theorem spec_l3Some.e0 (k : Nat) (y1 : List Int) (x8 : Int) (x9 : Int) (y0_0 : List Int) (y0_1 : Int) : spec_l3Some.x0 (k + 1) y1 x8 x9 y0_0 y0_1 = (if x9 < x8 then ((spec_l13Rd_pick.f 2 y0_0 y0_1).bind fun t1 => (if t1.1 = 0 then (if y1.length < 17592186044416 then (spec_l3Some.x0 k (y1 ++ [x9]) x8 (wr64 (x9 + 1)) t1.2.1 t1.2.2) else none) else (spec_l3Some.x0 k y1 x8 (wr64 (x9 + 1)) t1.2.1 t1.2.2))) else (some (spec_l3Some.en (y1, y0_0, y0_1)))) := by kernel_rfl
set_option maxRecDepth 100000 in
theorem spec_l3Some.ef (k : Nat) (a1 : Int) (l2_0 : List Int) (a2_1 : Int) : R.start Try.prog xhn spec_l3Some.O 1 Try.f79 spec_l3Some.fh k [.ptr 0 0, .int .i64 a1] [.box false [.imm (.I .u8 l2_0), .int .i64 a2_1]] = (spec_l3Some.x0 k ([] : List Int) a1 0 l2_0 a2_1) := by kernel_rfl
theorem spec_l3Some.link : ∀ k, (∀ (y1 : List Int) (x8 : Int) (x9 : Int) (y0_0 : List Int) (y0_1 : Int), spec_l3Some.x0 k y1 x8 x9 y0_0 y0_1 = (spec_l3Some.l0 k y1 x8 x9 y0_0 y0_1).map (spec_l3Some.en))
  | 0 => fun _ _ _ _ _ => by simp only [spec_l3Some.l0, R.map_none]; rfl
  | k + 1 => by
    have ih0 := spec_l3Some.link k
    · intro y1 x8 x9 y0_0 y0_1
      rw [spec_l3Some.e0]
      simp only [spec_l3Some.l0, R.map_ite, R.map_bind, R.map_none, R.map_some, R.wr64_eq, ← ih0]
theorem spec_l3Some.sf (k : Nat) (a1 : Int) (l2_0 : List Int) (a2_1 : Int) : R.start Try.prog xhn spec_l3Some.O 1 Try.f79 spec_l3Some.fh k [.ptr 0 0, .int .i64 a1] [.box false [.imm (.I .u8 l2_0), .int .i64 a2_1]] = (spec_l3Some.f k a1 l2_0 a2_1).map (spec_l3Some.en) := by
  have ih0 := spec_l3Some.link k
  rw [spec_l3Some.ef]
  simp only [spec_l3Some.f, R.map_ite, R.map_bind, R.map_none, R.map_some, R.wr64_eq, ← ih0]
theorem spec_l3Some.ok (k : Nat) : spec_l3Some.tw.Ok Try.prog k := by
  intro md hmd a r h
  refine fn_ok (H := xhn) (fh := spec_l3Some.fh) (O := spec_l3Some.O) (k := k) Try.func79 (by kernel_rfl) (by kernel_rfl) (fun j _ => (Tw.orc_sound spec_l13Rd_pick.dok (spec_l13Rd_pick.ok j) (fun _ => rfl) noO_sound)) (by kernel_rfl) (m := 1) rfl ?_
  refine (spec_l3Some.sf k a.1 a.2.1 a.2.2).trans ?_
  exact congrArg (Option.map _) h
def spec_l13Rd_of.f (l1 : List ByteArray) (l2_0 : List Int) (a2_1 : Int) : Option (ByteArray × (List Int) × Int) := ((spec_l13Rd_pick.f (l1.length : Int) l2_0 a2_1).bind fun t1 => (if 0 ≤ t1.1 then (if t1.1 < (l1.length : Int) then (some ((rdS l1 t1.1), t1.2.1, t1.2.2)) else none) else none))
def spec_l13Rd_of.en (r : ByteArray × (List Int) × Int) : Res := (.str r.1, [.box false [.imm (.I .u8 r.2.1), .int .i64 r.2.2]])
def spec_l13Rd_of.dec : List AV → List R.Obj → Option ((List ByteArray) × (List Int) × Int)
  | [.ptr 0 0, .imm (.S l1)], [.box false [.imm (.I .u8 l2_0), .int .i64 a2_1]] => some (l1, l2_0, a2_1)
  | _, _ => none
def spec_l13Rd_of.tw : Tw := ⟨77, (List ByteArray) × (List Int) × Int, ByteArray × (List Int) × Int, spec_l13Rd_of.dec, fun a => [.ptr 0 0, .imm (.S a.1)], fun a => [.box false [.imm (.I .u8 a.2.1), .int .i64 a.2.2]], fun k a => spec_l13Rd_of.f a.1 a.2.1 a.2.2, fun a r => spec_l13Rd_of.en r, true⟩
theorem spec_l13Rd_of.dok : spec_l13Rd_of.tw.DecOk := by
  intro args hc a h
  have h : spec_l13Rd_of.dec args hc = some a := h
  unfold spec_l13Rd_of.dec at h
  split at h
  · cases h; exact ⟨rfl, rfl⟩
  · cases h
noncomputable def spec_l13Rd_of.O (k : Nat) : Oracle := (spec_l13Rd_pick.tw.orc k noO)
def spec_l13Rd_of.fh : FH := ⟨fun i => match i with | _ => none, [], false⟩
set_option maxRecDepth 100000 in
theorem spec_l13Rd_of.ef (k : Nat) (l1 : List ByteArray) (l2_0 : List Int) (a2_1 : Int) : R.start Try.prog xhn spec_l13Rd_of.O 1 Try.f77 spec_l13Rd_of.fh k [.ptr 0 0, .imm (.S l1)] [.box false [.imm (.I .u8 l2_0), .int .i64 a2_1]] = ((spec_l13Rd_pick.f (l1.length : Int) l2_0 a2_1).bind fun t1 => (if 0 ≤ t1.1 then (if t1.1 < (l1.length : Int) then (some (spec_l13Rd_of.en ((rdS l1 t1.1), t1.2.1, t1.2.2))) else none) else none)) := by kernel_rfl
theorem spec_l13Rd_of.sf (k : Nat) (l1 : List ByteArray) (l2_0 : List Int) (a2_1 : Int) : R.start Try.prog xhn spec_l13Rd_of.O 1 Try.f77 spec_l13Rd_of.fh k [.ptr 0 0, .imm (.S l1)] [.box false [.imm (.I .u8 l2_0), .int .i64 a2_1]] = (spec_l13Rd_of.f l1 l2_0 a2_1).map (spec_l13Rd_of.en) := by
  rw [spec_l13Rd_of.ef]
  simp only [spec_l13Rd_of.f, R.map_ite, R.map_bind, R.map_none, R.map_some, R.wr64_eq]
theorem spec_l13Rd_of.ok (k : Nat) : spec_l13Rd_of.tw.Ok Try.prog k := by
  intro md hmd a r h
  refine fn_ok (H := xhn) (fh := spec_l13Rd_of.fh) (O := spec_l13Rd_of.O) (k := k) Try.func77 (by kernel_rfl) (by kernel_rfl) (fun j _ => (Tw.orc_sound spec_l13Rd_pick.dok (spec_l13Rd_pick.ok j) (fun _ => rfl) noO_sound)) (by kernel_rfl) (m := 1) rfl ?_
  refine (spec_l13Rd_of.sf k a.1 a.2.1 a.2.2).trans ?_
  exact congrArg (Option.map _) h
def spec_l13Rd_num.f (l1 : List Int) (l2_0 : List Int) (a2_1 : Int) : Option (Int × (List Int) × Int) := ((spec_l13Rd_pick.f (l1.length : Int) l2_0 a2_1).bind fun t1 => (if 0 ≤ t1.1 then (if t1.1 < (l1.length : Int) then (some ((rdI l1 t1.1), t1.2.1, t1.2.2)) else none) else none))
def spec_l13Rd_num.en (r : Int × (List Int) × Int) : Res := (.int .i64 r.1, [.box false [.imm (.I .u8 r.2.1), .int .i64 r.2.2]])
def spec_l13Rd_num.dec : List AV → List R.Obj → Option ((List Int) × (List Int) × Int)
  | [.ptr 0 0, .imm (.I .i64 l1)], [.box false [.imm (.I .u8 l2_0), .int .i64 a2_1]] => some (l1, l2_0, a2_1)
  | _, _ => none
def spec_l13Rd_num.tw : Tw := ⟨52, (List Int) × (List Int) × Int, Int × (List Int) × Int, spec_l13Rd_num.dec, fun a => [.ptr 0 0, .imm (.I .i64 a.1)], fun a => [.box false [.imm (.I .u8 a.2.1), .int .i64 a.2.2]], fun k a => spec_l13Rd_num.f a.1 a.2.1 a.2.2, fun a r => spec_l13Rd_num.en r, true⟩
theorem spec_l13Rd_num.dok : spec_l13Rd_num.tw.DecOk := by
  intro args hc a h
  have h : spec_l13Rd_num.dec args hc = some a := h
  unfold spec_l13Rd_num.dec at h
  split at h
  · cases h; exact ⟨rfl, rfl⟩
  · cases h
noncomputable def spec_l13Rd_num.O (k : Nat) : Oracle := (spec_l13Rd_pick.tw.orc k noO)
def spec_l13Rd_num.fh : FH := ⟨fun i => match i with | _ => none, [], false⟩
set_option maxRecDepth 100000 in
theorem spec_l13Rd_num.ef (k : Nat) (l1 : List Int) (l2_0 : List Int) (a2_1 : Int) : R.start Try.prog xhn spec_l13Rd_num.O 1 Try.f52 spec_l13Rd_num.fh k [.ptr 0 0, .imm (.I .i64 l1)] [.box false [.imm (.I .u8 l2_0), .int .i64 a2_1]] = ((spec_l13Rd_pick.f (l1.length : Int) l2_0 a2_1).bind fun t1 => (if 0 ≤ t1.1 then (if t1.1 < (l1.length : Int) then (some (spec_l13Rd_num.en ((rdI l1 t1.1), t1.2.1, t1.2.2))) else none) else none)) := by kernel_rfl
theorem spec_l13Rd_num.sf (k : Nat) (l1 : List Int) (l2_0 : List Int) (a2_1 : Int) : R.start Try.prog xhn spec_l13Rd_num.O 1 Try.f52 spec_l13Rd_num.fh k [.ptr 0 0, .imm (.I .i64 l1)] [.box false [.imm (.I .u8 l2_0), .int .i64 a2_1]] = (spec_l13Rd_num.f l1 l2_0 a2_1).map (spec_l13Rd_num.en) := by
  rw [spec_l13Rd_num.ef]
  simp only [spec_l13Rd_num.f, R.map_ite, R.map_bind, R.map_none, R.map_some, R.wr64_eq]
theorem spec_l13Rd_num.ok (k : Nat) : spec_l13Rd_num.tw.Ok Try.prog k := by
  intro md hmd a r h
  refine fn_ok (H := xhn) (fh := spec_l13Rd_num.fh) (O := spec_l13Rd_num.O) (k := k) Try.func52 (by kernel_rfl) (by kernel_rfl) (fun j _ => (Tw.orc_sound spec_l13Rd_pick.dok (spec_l13Rd_pick.ok j) (fun _ => rfl) noO_sound)) (by kernel_rfl) (m := 1) rfl ?_
  refine (spec_l13Rd_num.sf k a.1 a.2.1 a.2.2).trans ?_
  exact congrArg (Option.map _) h
def spec_l3Put.l0 : Nat → (List Stp) → Int → Int → ByteArray → Int → Int → Option (List Stp)
  | 0, _, _, _, _, _, _ => none
  | k + 1, x0, x5, y0_0, y0_1, y0_2, y0_3 => (if x5 < (x0.length : Int) then (if 0 ≤ x5 then ((spec_l3Before.f ((rdT x0 x5).f0) ((rdT x0 x5).f1) ((rdT x0 x5).f2) ((rdT x0 x5).f3) y0_0 y0_1 y0_2 y0_3).bind fun t1 => (if t1 = true then (spec_l3Put.l0 k x0 (wrap64 (x5 + 1)) y0_0 y0_1 y0_2 y0_3) else ((spec_l3Before.f y0_0 y0_1 y0_2 y0_3 ((rdT x0 x5).f0) ((rdT x0 x5).f1) ((rdT x0 x5).f2) ((rdT x0 x5).f3)).bind fun t2 => (if t2 = true then (if x5 ≤ (x0.length : Int) then (if ([] : List Stp).length + ((x0.drop 0).take (x5.toNat - 0)).length ≤ 3518437208883 then (if (([] : List Stp) ++ ((x0.drop 0).take (x5.toNat - 0))).length < 3518437208883 then (if (x0.length : Int) ≤ (x0.length : Int) then (if ((([] : List Stp) ++ ((x0.drop 0).take (x5.toNat - 0))) ++ [(⟨y0_0, y0_1, y0_2, y0_3⟩ : Stp)]).length + ((x0.drop x5.toNat).take (x0.length - x5.toNat)).length ≤ 3518437208883 then (some (((([] : List Stp) ++ ((x0.drop 0).take (x5.toNat - 0))) ++ [(⟨y0_0, y0_1, y0_2, y0_3⟩ : Stp)]) ++ ((x0.drop x5.toNat).take (x0.length - x5.toNat)))) else none) else none) else none) else none) else none) else (if ([] : List Stp).length + x0.length ≤ 3518437208883 then (if x5 < ((([] : List Stp) ++ x0).length : Int) then (some ((([] : List Stp) ++ x0).set x5.toNat (⟨(rdT (([] : List Stp) ++ x0) x5).f0, (rdT (([] : List Stp) ++ x0) x5).f1, (rdT (([] : List Stp) ++ x0) x5).f2, (mn (rdT (([] : List Stp) ++ x0) x5).f3 y0_3)⟩ : Stp))) else none) else none))))) else none) else (if 0 ≤ x5 then (if x5 ≤ (x0.length : Int) then (if ([] : List Stp).length + ((x0.drop 0).take (x5.toNat - 0)).length ≤ 3518437208883 then (if (([] : List Stp) ++ ((x0.drop 0).take (x5.toNat - 0))).length < 3518437208883 then (if (x0.length : Int) ≤ (x0.length : Int) then (if ((([] : List Stp) ++ ((x0.drop 0).take (x5.toNat - 0))) ++ [(⟨y0_0, y0_1, y0_2, y0_3⟩ : Stp)]).length + ((x0.drop x5.toNat).take (x0.length - x5.toNat)).length ≤ 3518437208883 then (some (((([] : List Stp) ++ ((x0.drop 0).take (x5.toNat - 0))) ++ [(⟨y0_0, y0_1, y0_2, y0_3⟩ : Stp)]) ++ ((x0.drop x5.toNat).take (x0.length - x5.toNat)))) else none) else none) else none) else none) else none) else none))
def spec_l3Put.f (k : Nat) (l0 : List Stp) (a1_0 : Int) (a1_1 : ByteArray) (a1_2 : Int) (a1_3 : Int) : Option (List Stp) := (spec_l3Put.l0 k l0 0 a1_0 a1_1 a1_2 a1_3)
def spec_l3Put.en (r : List Stp) : Res := (.sl 0 0, [.arr 89 0 (.T r) false])
def spec_l3Put.dec : List AV → List R.Obj → Option ((List Stp) × Int × ByteArray × Int × Int)
  | [.imm (.T l0), .agg [.int .i64 a1_0, .str a1_1, .int .i64 a1_2, .int .i64 a1_3]], [] => some (l0, a1_0, a1_1, a1_2, a1_3)
  | _, _ => none
def spec_l3Put.tw : Tw := ⟨80, (List Stp) × Int × ByteArray × Int × Int, List Stp, spec_l3Put.dec, fun a => [.imm (.T a.1), .agg [.int .i64 a.2.1, .str a.2.2.1, .int .i64 a.2.2.2.1, .int .i64 a.2.2.2.2]], fun a => [], fun k a => spec_l3Put.f k a.1 a.2.1 a.2.2.1 a.2.2.2.1 a.2.2.2.2, fun a r => spec_l3Put.en r, true⟩
theorem spec_l3Put.dok : spec_l3Put.tw.DecOk := by
  intro args hc a h
  have h : spec_l3Put.dec args hc = some a := h
  unfold spec_l3Put.dec at h
  split at h
  · cases h; exact ⟨rfl, rfl⟩
  · cases h
noncomputable def spec_l3Put.O (k : Nat) : Oracle := (spec_l3Before.tw.orc k noO)
def spec_l3Put.fh : FH := ⟨fun i => match i with | 2 => some [(0, 0), (3, 0), (5, 0)] | _ => none, [(true, 89)], false⟩
noncomputable def spec_l3Put.x0 (k : Nat) (x0 : List Stp) (x5 : Int) (y0_0 : Int) (y0_1 : ByteArray) (y0_2 : Int) (y0_3 : Int) : Option Res := R.exec Try.prog xhn spec_l3Put.O 0 Try.f80 spec_l3Put.fh k (R.point Try.f80 2) ⟨[(0, .imm (.T x0)), (3, .ptr 0 0), (5, .int .i64 x5)], [(0, .box false [.int .i64 y0_0, .str y0_1, .int .i64 y0_2, .int .i64 y0_3])], 3⟩
set_option maxRecDepth 100000 in
theorem spec_l3Put.e0 (k : Nat) (x0 : List Stp) (x5 : Int) (y0_0 : Int) (y0_1 : ByteArray) (y0_2 : Int) (y0_3 : Int) : spec_l3Put.x0 (k + 1) x0 x5 y0_0 y0_1 y0_2 y0_3 = (if x5 < (x0.length : Int) then (if 0 ≤ x5 then ((spec_l3Before.f ((rdT x0 x5).f0) ((rdT x0 x5).f1) ((rdT x0 x5).f2) ((rdT x0 x5).f3) y0_0 y0_1 y0_2 y0_3).bind fun t1 => (if t1 = true then (spec_l3Put.x0 k x0 (wr64 (x5 + 1)) y0_0 y0_1 y0_2 y0_3) else ((spec_l3Before.f y0_0 y0_1 y0_2 y0_3 ((rdT x0 x5).f0) ((rdT x0 x5).f1) ((rdT x0 x5).f2) ((rdT x0 x5).f3)).bind fun t2 => (if t2 = true then (if x5 ≤ (x0.length : Int) then (if ([] : List Stp).length + ((x0.drop 0).take (x5.toNat - 0)).length ≤ 3518437208883 then (if (([] : List Stp) ++ ((x0.drop 0).take (x5.toNat - 0))).length < 3518437208883 then (if (x0.length : Int) ≤ (x0.length : Int) then (if ((([] : List Stp) ++ ((x0.drop 0).take (x5.toNat - 0))) ++ [(⟨y0_0, y0_1, y0_2, y0_3⟩ : Stp)]).length + ((x0.drop x5.toNat).take (x0.length - x5.toNat)).length ≤ 3518437208883 then (some (spec_l3Put.en (((([] : List Stp) ++ ((x0.drop 0).take (x5.toNat - 0))) ++ [(⟨y0_0, y0_1, y0_2, y0_3⟩ : Stp)]) ++ ((x0.drop x5.toNat).take (x0.length - x5.toNat))))) else none) else none) else none) else none) else none) else (if ([] : List Stp).length + x0.length ≤ 3518437208883 then (if x5 < ((([] : List Stp) ++ x0).length : Int) then (some (spec_l3Put.en ((([] : List Stp) ++ x0).set x5.toNat (⟨(rdT (([] : List Stp) ++ x0) x5).f0, (rdT (([] : List Stp) ++ x0) x5).f1, (rdT (([] : List Stp) ++ x0) x5).f2, (mn (rdT (([] : List Stp) ++ x0) x5).f3 y0_3)⟩ : Stp)))) else none) else none))))) else none) else (if 0 ≤ x5 then (if x5 ≤ (x0.length : Int) then (if ([] : List Stp).length + ((x0.drop 0).take (x5.toNat - 0)).length ≤ 3518437208883 then (if (([] : List Stp) ++ ((x0.drop 0).take (x5.toNat - 0))).length < 3518437208883 then (if (x0.length : Int) ≤ (x0.length : Int) then (if ((([] : List Stp) ++ ((x0.drop 0).take (x5.toNat - 0))) ++ [(⟨y0_0, y0_1, y0_2, y0_3⟩ : Stp)]).length + ((x0.drop x5.toNat).take (x0.length - x5.toNat)).length ≤ 3518437208883 then (some (spec_l3Put.en (((([] : List Stp) ++ ((x0.drop 0).take (x5.toNat - 0))) ++ [(⟨y0_0, y0_1, y0_2, y0_3⟩ : Stp)]) ++ ((x0.drop x5.toNat).take (x0.length - x5.toNat))))) else none) else none) else none) else none) else none) else none)) := by
  refine Eq.trans ?_ (R.icong (fun h0 => (R.icong (fun h1 => (R.idropT (p := x5 < (x0.length : Int)) (z := none) h0 (R.bcong fun t1 => (R.icong (fun h2 => rfl) (fun h2 => (R.idropT (p := x5 < (x0.length : Int)) (z := (if 0 ≤ x5 then (if x5 ≤ (x0.length : Int) then (if ([] : List Stp).length + ((x0.drop 0).take (x5.toNat - 0)).length ≤ 3518437208883 then (if (([] : List Stp) ++ ((x0.drop 0).take (x5.toNat - 0))).length < 3518437208883 then (if 0 ≤ x5 then (if x5 ≤ (x0.length : Int) then (if (x0.length : Int) ≤ (x0.length : Int) then (if ((([] : List Stp) ++ ((x0.drop 0).take (x5.toNat - 0))) ++ [(⟨y0_0, y0_1, y0_2, y0_3⟩ : Stp)]).length + ((x0.drop x5.toNat).take (x0.length - x5.toNat)).length ≤ 3518437208883 then (some (spec_l3Put.en (((([] : List Stp) ++ ((x0.drop 0).take (x5.toNat - 0))) ++ [(⟨y0_0, y0_1, y0_2, y0_3⟩ : Stp)]) ++ ((x0.drop x5.toNat).take (x0.length - x5.toNat))))) else none) else none) else none) else none) else none) else none) else none) else none)) h0 (R.idropT (p := 0 ≤ x5) (z := none) h1 (R.idropT (p := x5 < (x0.length : Int)) (z := none) h0 (R.bcong fun t2 => (R.icong (fun h3 => (R.idropT (p := 0 ≤ x5) (z := none) h1 (R.icong (fun h4 => (R.icong (fun h5 => (R.icong (fun h6 => (R.idropT (p := 0 ≤ x5) (z := none) h1 (R.idropT (p := x5 ≤ (x0.length : Int)) (z := none) h4 rfl))) (fun h6 => rfl))) (fun h5 => rfl))) (fun h4 => rfl)))) (fun h3 => (R.icong (fun h4 => (R.idropT (p := 0 ≤ x5) (z := none) h1 (R.icong (fun h5 => (R.idropT (p := 0 ≤ x5) (z := none) h1 (R.idropT (p := x5 < ((([] : List Stp) ++ x0).length : Int)) (z := none) h5 rfl))) (fun h5 => rfl)))) (fun h4 => rfl))))))))))))) (fun h1 => rfl))) (fun h0 => (R.idropF (p := x5 < (x0.length : Int)) (z := (if 0 ≤ x5 then (if x5 < (x0.length : Int) then ((spec_l3Before.f y0_0 y0_1 y0_2 y0_3 ((rdT x0 x5).f0) ((rdT x0 x5).f1) ((rdT x0 x5).f2) ((rdT x0 x5).f3)).bind fun t3 => (if t3 = true then (if 0 ≤ x5 then (if x5 ≤ (x0.length : Int) then (if ([] : List Stp).length + ((x0.drop 0).take (x5.toNat - 0)).length ≤ 3518437208883 then (if (([] : List Stp) ++ ((x0.drop 0).take (x5.toNat - 0))).length < 3518437208883 then (if 0 ≤ x5 then (if x5 ≤ (x0.length : Int) then (if (x0.length : Int) ≤ (x0.length : Int) then (if ((([] : List Stp) ++ ((x0.drop 0).take (x5.toNat - 0))) ++ [(⟨y0_0, y0_1, y0_2, y0_3⟩ : Stp)]).length + ((x0.drop x5.toNat).take (x0.length - x5.toNat)).length ≤ 3518437208883 then (some (spec_l3Put.en (((([] : List Stp) ++ ((x0.drop 0).take (x5.toNat - 0))) ++ [(⟨y0_0, y0_1, y0_2, y0_3⟩ : Stp)]) ++ ((x0.drop x5.toNat).take (x0.length - x5.toNat))))) else none) else none) else none) else none) else none) else none) else none) else none) else (if ([] : List Stp).length + x0.length ≤ 3518437208883 then (if 0 ≤ x5 then (if x5 < ((([] : List Stp) ++ x0).length : Int) then (if 0 ≤ x5 then (if x5 < ((([] : List Stp) ++ x0).length : Int) then (some (spec_l3Put.en ((([] : List Stp) ++ x0).set x5.toNat (⟨(rdT (([] : List Stp) ++ x0) x5).f0, (rdT (([] : List Stp) ++ x0) x5).f1, (rdT (([] : List Stp) ++ x0) x5).f2, (mn (rdT (([] : List Stp) ++ x0) x5).f3 y0_3)⟩ : Stp)))) else none) else none) else none) else none) else none))) else none) else none)) h0 (R.icong (fun h1 => (R.icong (fun h2 => (R.icong (fun h3 => (R.icong (fun h4 => (R.idropT (p := 0 ≤ x5) (z := none) h1 (R.idropT (p := x5 ≤ (x0.length : Int)) (z := none) h2 rfl))) (fun h4 => rfl))) (fun h3 => rfl))) (fun h2 => rfl))) (fun h1 => rfl)))))
  kernel_rfl
set_option maxRecDepth 100000 in
theorem spec_l3Put.ef (k : Nat) (l0 : List Stp) (a1_0 : Int) (a1_1 : ByteArray) (a1_2 : Int) (a1_3 : Int) : R.start Try.prog xhn spec_l3Put.O 0 Try.f80 spec_l3Put.fh k [.imm (.T l0), .agg [.int .i64 a1_0, .str a1_1, .int .i64 a1_2, .int .i64 a1_3]] [] = (spec_l3Put.x0 k l0 0 a1_0 a1_1 a1_2 a1_3) := by kernel_rfl
theorem spec_l3Put.link : ∀ k, (∀ (x0 : List Stp) (x5 : Int) (y0_0 : Int) (y0_1 : ByteArray) (y0_2 : Int) (y0_3 : Int), spec_l3Put.x0 k x0 x5 y0_0 y0_1 y0_2 y0_3 = (spec_l3Put.l0 k x0 x5 y0_0 y0_1 y0_2 y0_3).map (spec_l3Put.en))
  | 0 => fun _ _ _ _ _ _ => by simp only [spec_l3Put.l0, R.map_none]; rfl
  | k + 1 => by
    have ih0 := spec_l3Put.link k
    · intro x0 x5 y0_0 y0_1 y0_2 y0_3
      rw [spec_l3Put.e0]
      simp only [spec_l3Put.l0, R.map_ite, R.map_bind, R.map_none, R.map_some, R.wr64_eq, ← ih0]
theorem spec_l3Put.sf (k : Nat) (l0 : List Stp) (a1_0 : Int) (a1_1 : ByteArray) (a1_2 : Int) (a1_3 : Int) : R.start Try.prog xhn spec_l3Put.O 0 Try.f80 spec_l3Put.fh k [.imm (.T l0), .agg [.int .i64 a1_0, .str a1_1, .int .i64 a1_2, .int .i64 a1_3]] [] = (spec_l3Put.f k l0 a1_0 a1_1 a1_2 a1_3).map (spec_l3Put.en) := by
  have ih0 := spec_l3Put.link k
  rw [spec_l3Put.ef]
  simp only [spec_l3Put.f, R.map_ite, R.map_bind, R.map_none, R.map_some, R.wr64_eq, ← ih0]
theorem spec_l3Put.ok (k : Nat) : spec_l3Put.tw.Ok Try.prog k := by
  intro md hmd a r h
  refine fn_ok (H := xhn) (fh := spec_l3Put.fh) (O := spec_l3Put.O) (k := k) Try.func80 (by kernel_rfl) (by kernel_rfl) (fun j _ => (Tw.orc_sound spec_l3Before.dok (spec_l3Before.ok j) (fun _ => rfl) noO_sound)) (by kernel_rfl) (m := 0) rfl ?_
  refine (spec_l3Put.sf k a.1 a.2.1 a.2.2.1 a.2.2.2.1 a.2.2.2.2).trans ?_
  exact congrArg (Option.map _) h
def spec_l3Draw.l0 : Nat → Int → Int → Int → (List Int) → Int → Int → (List Int) → (List Int) → (List Stp) → Option (Int × (List Int) × (List Int) × (List Stp) × (List Int) × Int)
  | 0, _, _, _, _, _, _, _, _, _ => none
  | k + 1, x6, x38, x39, y0_0, y0_1, y2_0, y6, y7, y8 => (if x39 < x38 then ((spec_l13Rd_pick.f x6 y0_0 y0_1).bind fun t12 => ((spec_l13Rd_of.f ([(⟨#[97]⟩ : ByteArray), (⟨#[98]⟩ : ByteArray)]) t12.2.1 t12.2.2).bind fun t13 => ((spec_l13Rd_pick.f x6 t13.2.1 t13.2.2).bind fun t14 => ((spec_l13Rd_num.f ([0, 1, 0, 1, 2, 0]) t14.2.1 t14.2.2).bind fun t15 => ((spec_l3Put.f k y8 t12.1 t13.1 t14.1 t15.1).bind fun t16 => (spec_l3Draw.l0 k x6 x38 (wrap64 (x39 + 1)) t15.2.1 t15.2.2 y2_0 y6 y7 t16)))))) else (some (y2_0, y6, y7, y8, y0_0, y0_1)))
def spec_l3Draw.f (k : Nat) (a1 : Int) (l2_0 : List Int) (a2_1 : Int) : Option (Int × (List Int) × (List Int) × (List Stp) × (List Int) × Int) := ((spec_l13Rd_pick.f 3 l2_0 a2_1).bind fun t1 => (if t1.1 = 0 then ((spec_l13Rd_pick.f 9 t1.2.1 t1.2.2).bind fun t2 => ((spec_l3Known.f k t2.1).bind fun t3 => (if t3.1 ≤ a1 then (some (t3.1, t3.2.1, t3.2.2.1, t3.2.2.2, t2.2.1, t2.2.2)) else ((spec_l13Rd_pick.f a1 t2.2.1 t2.2.2).bind fun t4 => ((spec_l3Some.f k (wrap64 (1 + t4.1)) t4.2.1 t4.2.2).bind fun t5 => ((spec_l3Some.f k (wrap64 (1 + t4.1)) t5.2.1 t5.2.2).bind fun t6 => ((spec_l13Rd_pick.f (wrap64 ((wrap64 (2 * (wrap64 (1 + t4.1)))) + 1)) t6.2.1 t6.2.2).bind fun t7 => (spec_l3Draw.l0 k (wrap64 (1 + t4.1)) (wrap64 (1 + t7.1)) 0 t7.2.1 t7.2.2 (wrap64 (1 + t4.1)) t5.1 t6.1 ([] : List Stp))))))))) else ((spec_l13Rd_pick.f a1 t1.2.1 t1.2.2).bind fun t8 => ((spec_l3Some.f k (wrap64 (1 + t8.1)) t8.2.1 t8.2.2).bind fun t9 => ((spec_l3Some.f k (wrap64 (1 + t8.1)) t9.2.1 t9.2.2).bind fun t10 => ((spec_l13Rd_pick.f (wrap64 ((wrap64 (2 * (wrap64 (1 + t8.1)))) + 1)) t10.2.1 t10.2.2).bind fun t11 => (spec_l3Draw.l0 k (wrap64 (1 + t8.1)) (wrap64 (1 + t11.1)) 0 t11.2.1 t11.2.2 (wrap64 (1 + t8.1)) t9.1 t10.1 ([] : List Stp))))))))
def spec_l3Draw.en (r : Int × (List Int) × (List Int) × (List Stp) × (List Int) × Int) : Res := (.agg [.int .i64 r.1, .sl 1 0, .sl 2 0, .sl 3 0], [.box false [.imm (.I .u8 r.2.2.2.2.1), .int .i64 r.2.2.2.2.2], .arr 3 0 (.I .i64 r.2.1) false, .arr 3 0 (.I .i64 r.2.2.1) false, .arr 89 0 (.T r.2.2.2.1) false])
def spec_l3Draw.dec : List AV → List R.Obj → Option (Int × (List Int) × Int)
  | [.ptr 0 0, .int .i64 a1], [.box false [.imm (.I .u8 l2_0), .int .i64 a2_1]] => some (a1, l2_0, a2_1)
  | _, _ => none
def spec_l3Draw.tw : Tw := ⟨51, Int × (List Int) × Int, Int × (List Int) × (List Int) × (List Stp) × (List Int) × Int, spec_l3Draw.dec, fun a => [.ptr 0 0, .int .i64 a.1], fun a => [.box false [.imm (.I .u8 a.2.1), .int .i64 a.2.2]], fun k a => spec_l3Draw.f k a.1 a.2.1 a.2.2, fun a r => spec_l3Draw.en r, true⟩
theorem spec_l3Draw.dok : spec_l3Draw.tw.DecOk := by
  intro args hc a h
  have h : spec_l3Draw.dec args hc = some a := h
  unfold spec_l3Draw.dec at h
  split at h
  · cases h; exact ⟨rfl, rfl⟩
  · cases h
noncomputable def spec_l3Draw.O (k : Nat) : Oracle := (spec_l13Rd_pick.tw.orc k (spec_l3Known.tw.orc k (spec_l3Some.tw.orc k (spec_l13Rd_of.tw.orc k (spec_l13Rd_num.tw.orc k (spec_l3Put.tw.orc k noO))))))
def spec_l3Draw.fh : FH := ⟨fun i => match i with | 8 => some [(0, 0), (4, 0), (6, 0), (7, 0), (38, 0), (39, 0)] | _ => none, [(true, 3), (true, 3), (true, 89)], false⟩
noncomputable def spec_l3Draw.x0 (k : Nat) (x6 : Int) (x38 : Int) (x39 : Int) (y0_0 : List Int) (y0_1 : Int) (y2_0 : Int) (y6 : List Int) (y7 : List Int) (y8 : List Stp) : Option Res := R.exec Try.prog xhn spec_l3Draw.O 1 Try.f51 spec_l3Draw.fh k (R.point Try.f51 8) ⟨[(0, .ptr 0 0), (4, .ptr 1 0), (6, .int .i64 x6), (7, .ptr 2 0), (38, .int .i64 x38), (39, .int .i64 x39)], [(0, .box false [.imm (.I .u8 y0_0), .int .i64 y0_1]), (1, .box false [.int .i64 0, .sl 3 0, .sl 4 0, .sl 5 0]), (2, .box false [.int .i64 y2_0, .sl 6 0, .sl 7 0, .sl 8 0]), (3, .arr 3 0 (.I .i64 ([] : List Int)) false), (4, .arr 3 0 (.I .i64 ([] : List Int)) false), (5, .arr 89 0 (.T ([] : List Stp)) false), (6, .arr 3 0 (.I .i64 y6) false), (7, .arr 3 0 (.I .i64 y7) false), (8, .arr 89 0 (.T y8) false)], 11⟩
set_option maxRecDepth 100000 in
theorem spec_l3Draw.e0 (k : Nat) (x6 : Int) (x38 : Int) (x39 : Int) (y0_0 : List Int) (y0_1 : Int) (y2_0 : Int) (y6 : List Int) (y7 : List Int) (y8 : List Stp) : spec_l3Draw.x0 (k + 1) x6 x38 x39 y0_0 y0_1 y2_0 y6 y7 y8 = (if x39 < x38 then ((spec_l13Rd_pick.f x6 y0_0 y0_1).bind fun t12 => ((spec_l13Rd_of.f ([(⟨#[97]⟩ : ByteArray), (⟨#[98]⟩ : ByteArray)]) t12.2.1 t12.2.2).bind fun t13 => ((spec_l13Rd_pick.f x6 t13.2.1 t13.2.2).bind fun t14 => ((spec_l13Rd_num.f ([0, 1, 0, 1, 2, 0]) t14.2.1 t14.2.2).bind fun t15 => ((spec_l3Put.f k y8 t12.1 t13.1 t14.1 t15.1).bind fun t16 => (spec_l3Draw.x0 k x6 x38 (wr64 (x39 + 1)) t15.2.1 t15.2.2 y2_0 y6 y7 t16)))))) else (some (spec_l3Draw.en (y2_0, y6, y7, y8, y0_0, y0_1)))) := by kernel_rfl
set_option maxRecDepth 100000 in
theorem spec_l3Draw.ef (k : Nat) (a1 : Int) (l2_0 : List Int) (a2_1 : Int) : R.start Try.prog xhn spec_l3Draw.O 1 Try.f51 spec_l3Draw.fh k [.ptr 0 0, .int .i64 a1] [.box false [.imm (.I .u8 l2_0), .int .i64 a2_1]] = ((spec_l13Rd_pick.f 3 l2_0 a2_1).bind fun t1 => (if t1.1 = 0 then ((spec_l13Rd_pick.f 9 t1.2.1 t1.2.2).bind fun t2 => ((spec_l3Known.f k t2.1).bind fun t3 => (if t3.1 ≤ a1 then (some (spec_l3Draw.en (t3.1, t3.2.1, t3.2.2.1, t3.2.2.2, t2.2.1, t2.2.2))) else ((spec_l13Rd_pick.f a1 t2.2.1 t2.2.2).bind fun t4 => ((spec_l3Some.f k (wr64 (1 + t4.1)) t4.2.1 t4.2.2).bind fun t5 => ((spec_l3Some.f k (wr64 (1 + t4.1)) t5.2.1 t5.2.2).bind fun t6 => ((spec_l13Rd_pick.f (wr64 ((wr64 (2 * (wr64 (1 + t4.1)))) + 1)) t6.2.1 t6.2.2).bind fun t7 => (spec_l3Draw.x0 k (wr64 (1 + t4.1)) (wr64 (1 + t7.1)) 0 t7.2.1 t7.2.2 (wr64 (1 + t4.1)) t5.1 t6.1 ([] : List Stp))))))))) else ((spec_l13Rd_pick.f a1 t1.2.1 t1.2.2).bind fun t8 => ((spec_l3Some.f k (wr64 (1 + t8.1)) t8.2.1 t8.2.2).bind fun t9 => ((spec_l3Some.f k (wr64 (1 + t8.1)) t9.2.1 t9.2.2).bind fun t10 => ((spec_l13Rd_pick.f (wr64 ((wr64 (2 * (wr64 (1 + t8.1)))) + 1)) t10.2.1 t10.2.2).bind fun t11 => (spec_l3Draw.x0 k (wr64 (1 + t8.1)) (wr64 (1 + t11.1)) 0 t11.2.1 t11.2.2 (wr64 (1 + t8.1)) t9.1 t10.1 ([] : List Stp)))))))) := by kernel_rfl
theorem spec_l3Draw.link : ∀ k, (∀ (x6 : Int) (x38 : Int) (x39 : Int) (y0_0 : List Int) (y0_1 : Int) (y2_0 : Int) (y6 : List Int) (y7 : List Int) (y8 : List Stp), spec_l3Draw.x0 k x6 x38 x39 y0_0 y0_1 y2_0 y6 y7 y8 = (spec_l3Draw.l0 k x6 x38 x39 y0_0 y0_1 y2_0 y6 y7 y8).map (spec_l3Draw.en))
  | 0 => fun _ _ _ _ _ _ _ _ _ => by simp only [spec_l3Draw.l0, R.map_none]; rfl
  | k + 1 => by
    have ih0 := spec_l3Draw.link k
    · intro x6 x38 x39 y0_0 y0_1 y2_0 y6 y7 y8
      rw [spec_l3Draw.e0]
      simp only [spec_l3Draw.l0, R.map_ite, R.map_bind, R.map_none, R.map_some, R.wr64_eq, ← ih0]
theorem spec_l3Draw.sf (k : Nat) (a1 : Int) (l2_0 : List Int) (a2_1 : Int) : R.start Try.prog xhn spec_l3Draw.O 1 Try.f51 spec_l3Draw.fh k [.ptr 0 0, .int .i64 a1] [.box false [.imm (.I .u8 l2_0), .int .i64 a2_1]] = (spec_l3Draw.f k a1 l2_0 a2_1).map (spec_l3Draw.en) := by
  have ih0 := spec_l3Draw.link k
  rw [spec_l3Draw.ef]
  simp only [spec_l3Draw.f, R.map_ite, R.map_bind, R.map_none, R.map_some, R.wr64_eq, ← ih0]
theorem spec_l3Draw.ok (k : Nat) : spec_l3Draw.tw.Ok Try.prog k := by
  intro md hmd a r h
  refine fn_ok (H := xhn) (fh := spec_l3Draw.fh) (O := spec_l3Draw.O) (k := k) Try.func51 (by kernel_rfl) (by kernel_rfl) (fun j _ => (Tw.orc_sound spec_l13Rd_pick.dok (spec_l13Rd_pick.ok j) (fun _ => rfl) (Tw.orc_sound spec_l3Known.dok (spec_l3Known.ok j) (fun _ => rfl) (Tw.orc_sound spec_l3Some.dok (spec_l3Some.ok j) (fun _ => rfl) (Tw.orc_sound spec_l13Rd_of.dok (spec_l13Rd_of.ok j) (fun _ => rfl) (Tw.orc_sound spec_l13Rd_num.dok (spec_l13Rd_num.ok j) (fun _ => rfl) (Tw.orc_sound spec_l3Put.dok (spec_l3Put.ok j) (fun _ => rfl) noO_sound))))))) (by kernel_rfl) (m := 1) rfl ?_
  refine (spec_l3Draw.sf k a.1 a.2.1 a.2.2).trans ?_
  exact congrArg (Option.map _) h
def spec_l3Bad.f (a1_0 : Int) (l1_1 : List Int) (l1_2 : List Int) (l1_3 : List Stp) (l2_0 : List Int) (a2_1 : Int) : Option (Int × (List Int) × (List Int) × (List Stp) × (List Int) × Int) := ((spec_l13Rd_pick.f 36 l2_0 a2_1).bind fun t1 => (if t1.1 = 0 then ((spec_l13Rd_num.f ([0, 5, (-1), 1, 9223372036854775807]) t1.2.1 t1.2.2).bind fun t2 => (some (t2.1, l1_1, l1_2, l1_3, t2.2.1, t2.2.2))) else (if t1.1 = 1 then (if ([] : List Stp).length + l1_3.length ≤ 3518437208883 then ((spec_l13Rd_pick.f 2 t1.2.1 t1.2.2).bind fun t3 => ((spec_l13Rd_of.f ([(⟨#[97]⟩ : ByteArray), (⟨#[99]⟩ : ByteArray), (⟨#[]⟩ : ByteArray)]) t3.2.1 t3.2.2).bind fun t4 => ((spec_l13Rd_num.f ([0, 4, (-1)]) t4.2.1 t4.2.2).bind fun t5 => ((spec_l13Rd_num.f ([0, 4, (-1)]) t5.2.1 t5.2.2).bind fun t6 => (if (([] : List Stp) ++ l1_3).length < 3518437208883 then (some (a1_0, l1_1, l1_2, ((([] : List Stp) ++ l1_3) ++ [(⟨t3.1, t4.1, t5.1, t6.1⟩ : Stp)]), t6.2.1, t6.2.2)) else none))))) else none) else (if t1.1 = 2 then (if ([] : List Int).length + l1_1.length ≤ 17592186044416 then ((spec_l13Rd_num.f ([0, 4, (-1)]) t1.2.1 t1.2.2).bind fun t7 => (if (([] : List Int) ++ l1_1).length < 17592186044416 then (some (a1_0, ((([] : List Int) ++ l1_1) ++ [t7.1]), l1_2, l1_3, t7.2.1, t7.2.2)) else none)) else none) else (some (a1_0, l1_1, l1_2, l1_3, t1.2.1, t1.2.2))))))
def spec_l3Bad.en (r : Int × (List Int) × (List Int) × (List Stp) × (List Int) × Int) : Res := (.agg [.int .i64 r.1, .imm (.I .i64 r.2.1), .imm (.I .i64 r.2.2.1), .imm (.T r.2.2.2.1)], [.box false [.imm (.I .u8 r.2.2.2.2.1), .int .i64 r.2.2.2.2.2]])
def spec_l3Bad.dec : List AV → List R.Obj → Option (Int × (List Int) × (List Int) × (List Stp) × (List Int) × Int)
  | [.ptr 0 0, .agg [.int .i64 a1_0, .imm (.I .i64 l1_1), .imm (.I .i64 l1_2), .imm (.T l1_3)]], [.box false [.imm (.I .u8 l2_0), .int .i64 a2_1]] => some (a1_0, l1_1, l1_2, l1_3, l2_0, a2_1)
  | _, _ => none
def spec_l3Bad.tw : Tw := ⟨50, Int × (List Int) × (List Int) × (List Stp) × (List Int) × Int, Int × (List Int) × (List Int) × (List Stp) × (List Int) × Int, spec_l3Bad.dec, fun a => [.ptr 0 0, .agg [.int .i64 a.1, .imm (.I .i64 a.2.1), .imm (.I .i64 a.2.2.1), .imm (.T a.2.2.2.1)]], fun a => [.box false [.imm (.I .u8 a.2.2.2.2.1), .int .i64 a.2.2.2.2.2]], fun k a => spec_l3Bad.f a.1 a.2.1 a.2.2.1 a.2.2.2.1 a.2.2.2.2.1 a.2.2.2.2.2, fun a r => spec_l3Bad.en r, true⟩
theorem spec_l3Bad.dok : spec_l3Bad.tw.DecOk := by
  intro args hc a h
  have h : spec_l3Bad.dec args hc = some a := h
  unfold spec_l3Bad.dec at h
  split at h
  · cases h; exact ⟨rfl, rfl⟩
  · cases h
noncomputable def spec_l3Bad.O (k : Nat) : Oracle := (spec_l13Rd_pick.tw.orc k (spec_l13Rd_num.tw.orc k (spec_l13Rd_of.tw.orc k noO)))
def spec_l3Bad.fh : FH := ⟨fun i => match i with | _ => none, [(false, 3), (false, 3), (false, 89)], false⟩
set_option maxRecDepth 100000 in
theorem spec_l3Bad.ef (k : Nat) (a1_0 : Int) (l1_1 : List Int) (l1_2 : List Int) (l1_3 : List Stp) (l2_0 : List Int) (a2_1 : Int) : R.start Try.prog xhn spec_l3Bad.O 1 Try.f50 spec_l3Bad.fh k [.ptr 0 0, .agg [.int .i64 a1_0, .imm (.I .i64 l1_1), .imm (.I .i64 l1_2), .imm (.T l1_3)]] [.box false [.imm (.I .u8 l2_0), .int .i64 a2_1]] = ((spec_l13Rd_pick.f 36 l2_0 a2_1).bind fun t1 => (if t1.1 = 0 then ((spec_l13Rd_num.f ([0, 5, (-1), 1, 9223372036854775807]) t1.2.1 t1.2.2).bind fun t2 => (some (spec_l3Bad.en (t2.1, l1_1, l1_2, l1_3, t2.2.1, t2.2.2)))) else (if t1.1 = 1 then (if ([] : List Stp).length + l1_3.length ≤ 3518437208883 then ((spec_l13Rd_pick.f 2 t1.2.1 t1.2.2).bind fun t3 => ((spec_l13Rd_of.f ([(⟨#[97]⟩ : ByteArray), (⟨#[99]⟩ : ByteArray), (⟨#[]⟩ : ByteArray)]) t3.2.1 t3.2.2).bind fun t4 => ((spec_l13Rd_num.f ([0, 4, (-1)]) t4.2.1 t4.2.2).bind fun t5 => ((spec_l13Rd_num.f ([0, 4, (-1)]) t5.2.1 t5.2.2).bind fun t6 => (if (([] : List Stp) ++ l1_3).length < 3518437208883 then (some (spec_l3Bad.en (a1_0, l1_1, l1_2, ((([] : List Stp) ++ l1_3) ++ [(⟨t3.1, t4.1, t5.1, t6.1⟩ : Stp)]), t6.2.1, t6.2.2))) else none))))) else none) else (if t1.1 = 2 then (if ([] : List Int).length + l1_1.length ≤ 17592186044416 then ((spec_l13Rd_num.f ([0, 4, (-1)]) t1.2.1 t1.2.2).bind fun t7 => (if (([] : List Int) ++ l1_1).length < 17592186044416 then (some (spec_l3Bad.en (a1_0, ((([] : List Int) ++ l1_1) ++ [t7.1]), l1_2, l1_3, t7.2.1, t7.2.2))) else none)) else none) else (some (spec_l3Bad.en (a1_0, l1_1, l1_2, l1_3, t1.2.1, t1.2.2))))))) := by kernel_rfl
theorem spec_l3Bad.sf (k : Nat) (a1_0 : Int) (l1_1 : List Int) (l1_2 : List Int) (l1_3 : List Stp) (l2_0 : List Int) (a2_1 : Int) : R.start Try.prog xhn spec_l3Bad.O 1 Try.f50 spec_l3Bad.fh k [.ptr 0 0, .agg [.int .i64 a1_0, .imm (.I .i64 l1_1), .imm (.I .i64 l1_2), .imm (.T l1_3)]] [.box false [.imm (.I .u8 l2_0), .int .i64 a2_1]] = (spec_l3Bad.f a1_0 l1_1 l1_2 l1_3 l2_0 a2_1).map (spec_l3Bad.en) := by
  rw [spec_l3Bad.ef]
  simp only [spec_l3Bad.f, R.map_ite, R.map_bind, R.map_none, R.map_some, R.wr64_eq]
theorem spec_l3Bad.ok (k : Nat) : spec_l3Bad.tw.Ok Try.prog k := by
  intro md hmd a r h
  refine fn_ok (H := xhn) (fh := spec_l3Bad.fh) (O := spec_l3Bad.O) (k := k) Try.func50 (by kernel_rfl) (by kernel_rfl) (fun j _ => (Tw.orc_sound spec_l13Rd_pick.dok (spec_l13Rd_pick.ok j) (fun _ => rfl) (Tw.orc_sound spec_l13Rd_num.dok (spec_l13Rd_num.ok j) (fun _ => rfl) (Tw.orc_sound spec_l13Rd_of.dok (spec_l13Rd_of.ok j) (fun _ => rfl) noO_sound)))) (by kernel_rfl) (m := 1) rfl ?_
  refine (spec_l3Bad.sf k a.1 a.2.1 a.2.2.1 a.2.2.2.1 a.2.2.2.2.1 a.2.2.2.2.2).trans ?_
  exact congrArg (Option.map _) h
def spec_l3Any.f (k : Nat) (l1_0 : List Int) (a1_1 : Int) : Option (Int × (List Int) × (List Int) × (List Stp) × (List Int) × Int) := ((spec_l3Draw.f k 3 l1_0 a1_1).bind fun t1 => ((spec_l3Bad.f t1.1 t1.2.1 t1.2.2.1 t1.2.2.2.1 t1.2.2.2.2.1 t1.2.2.2.2.2).bind fun t2 => (some (t2.1, t2.2.1, t2.2.2.1, t2.2.2.2.1, t2.2.2.2.2.1, t2.2.2.2.2.2))))
def spec_l3Any.en (r : Int × (List Int) × (List Int) × (List Stp) × (List Int) × Int) : Res := (.agg [.int .i64 r.1, .imm (.I .i64 r.2.1), .imm (.I .i64 r.2.2.1), .imm (.T r.2.2.2.1)], [.box false [.imm (.I .u8 r.2.2.2.2.1), .int .i64 r.2.2.2.2.2]])
def spec_l3Any.dec : List AV → List R.Obj → Option ((List Int) × Int)
  | [.ptr 0 0], [.box false [.imm (.I .u8 l1_0), .int .i64 a1_1]] => some (l1_0, a1_1)
  | _, _ => none
def spec_l3Any.tw : Tw := ⟨23, (List Int) × Int, Int × (List Int) × (List Int) × (List Stp) × (List Int) × Int, spec_l3Any.dec, fun a => [.ptr 0 0], fun a => [.box false [.imm (.I .u8 a.1), .int .i64 a.2]], fun k a => spec_l3Any.f k a.1 a.2, fun a r => spec_l3Any.en r, true⟩
theorem spec_l3Any.dok : spec_l3Any.tw.DecOk := by
  intro args hc a h
  have h : spec_l3Any.dec args hc = some a := h
  unfold spec_l3Any.dec at h
  split at h
  · cases h; exact ⟨rfl, rfl⟩
  · cases h
noncomputable def spec_l3Any.O (k : Nat) : Oracle := (spec_l3Draw.tw.orc k (spec_l3Bad.tw.orc k noO))
def spec_l3Any.fh : FH := ⟨fun i => match i with | _ => none, [(false, 3), (false, 3), (false, 89)], false⟩
set_option maxRecDepth 100000 in
theorem spec_l3Any.ef (k : Nat) (l1_0 : List Int) (a1_1 : Int) : R.start Try.prog xhn spec_l3Any.O 1 Try.f23 spec_l3Any.fh k [.ptr 0 0] [.box false [.imm (.I .u8 l1_0), .int .i64 a1_1]] = ((spec_l3Draw.f k 3 l1_0 a1_1).bind fun t1 => ((spec_l3Bad.f t1.1 t1.2.1 t1.2.2.1 t1.2.2.2.1 t1.2.2.2.2.1 t1.2.2.2.2.2).bind fun t2 => (some (spec_l3Any.en (t2.1, t2.2.1, t2.2.2.1, t2.2.2.2.1, t2.2.2.2.2.1, t2.2.2.2.2.2))))) := by kernel_rfl
theorem spec_l3Any.sf (k : Nat) (l1_0 : List Int) (a1_1 : Int) : R.start Try.prog xhn spec_l3Any.O 1 Try.f23 spec_l3Any.fh k [.ptr 0 0] [.box false [.imm (.I .u8 l1_0), .int .i64 a1_1]] = (spec_l3Any.f k l1_0 a1_1).map (spec_l3Any.en) := by
  rw [spec_l3Any.ef]
  simp only [spec_l3Any.f, R.map_ite, R.map_bind, R.map_none, R.map_some, R.wr64_eq]
theorem spec_l3Any.ok (k : Nat) : spec_l3Any.tw.Ok Try.prog k := by
  intro md hmd a r h
  refine fn_ok (H := xhn) (fh := spec_l3Any.fh) (O := spec_l3Any.O) (k := k) Try.func23 (by kernel_rfl) (by kernel_rfl) (fun j _ => (Tw.orc_sound spec_l3Draw.dok (spec_l3Draw.ok j) (fun _ => rfl) (Tw.orc_sound spec_l3Bad.dok (spec_l3Bad.ok j) (fun _ => rfl) noO_sound))) (by kernel_rfl) (m := 1) rfl ?_
  refine (spec_l3Any.sf k a.1 a.2).trans ?_
  exact congrArg (Option.map _) h
def spec_l4Short.f (l1_0 : List Int) (a1_1 : Int) : Option (Int × (List Int) × Int) := ((spec_l13Rd_num.f ([3, 2, 4, 1, 0, 5, (-1), 8]) l1_0 a1_1).bind fun t1 => (some (t1.1, t1.2.1, t1.2.2)))
def spec_l4Short.en (r : Int × (List Int) × Int) : Res := (.int .i64 r.1, [.box false [.imm (.I .u8 r.2.1), .int .i64 r.2.2]])
def spec_l4Short.dec : List AV → List R.Obj → Option ((List Int) × Int)
  | [.ptr 0 0], [.box false [.imm (.I .u8 l1_0), .int .i64 a1_1]] => some (l1_0, a1_1)
  | _, _ => none
def spec_l4Short.tw : Tw := ⟨24, (List Int) × Int, Int × (List Int) × Int, spec_l4Short.dec, fun a => [.ptr 0 0], fun a => [.box false [.imm (.I .u8 a.1), .int .i64 a.2]], fun k a => spec_l4Short.f a.1 a.2, fun a r => spec_l4Short.en r, true⟩
theorem spec_l4Short.dok : spec_l4Short.tw.DecOk := by
  intro args hc a h
  have h : spec_l4Short.dec args hc = some a := h
  unfold spec_l4Short.dec at h
  split at h
  · cases h; exact ⟨rfl, rfl⟩
  · cases h
noncomputable def spec_l4Short.O (k : Nat) : Oracle := (spec_l13Rd_num.tw.orc k noO)
def spec_l4Short.fh : FH := ⟨fun i => match i with | _ => none, [], false⟩
set_option maxRecDepth 100000 in
theorem spec_l4Short.ef (k : Nat) (l1_0 : List Int) (a1_1 : Int) : R.start Try.prog xhn spec_l4Short.O 1 Try.f24 spec_l4Short.fh k [.ptr 0 0] [.box false [.imm (.I .u8 l1_0), .int .i64 a1_1]] = ((spec_l13Rd_num.f ([3, 2, 4, 1, 0, 5, (-1), 8]) l1_0 a1_1).bind fun t1 => (some (spec_l4Short.en (t1.1, t1.2.1, t1.2.2)))) := by kernel_rfl
theorem spec_l4Short.sf (k : Nat) (l1_0 : List Int) (a1_1 : Int) : R.start Try.prog xhn spec_l4Short.O 1 Try.f24 spec_l4Short.fh k [.ptr 0 0] [.box false [.imm (.I .u8 l1_0), .int .i64 a1_1]] = (spec_l4Short.f l1_0 a1_1).map (spec_l4Short.en) := by
  rw [spec_l4Short.ef]
  simp only [spec_l4Short.f, R.map_ite, R.map_bind, R.map_none, R.map_some, R.wr64_eq]
theorem spec_l4Short.ok (k : Nat) : spec_l4Short.tw.Ok Try.prog k := by
  intro md hmd a r h
  refine fn_ok (H := xhn) (fh := spec_l4Short.fh) (O := spec_l4Short.O) (k := k) Try.func24 (by kernel_rfl) (by kernel_rfl) (fun j _ => (Tw.orc_sound spec_l13Rd_num.dok (spec_l13Rd_num.ok j) (fun _ => rfl) noO_sound)) (by kernel_rfl) (m := 1) rfl ?_
  refine (spec_l4Short.sf k a.1 a.2).trans ?_
  exact congrArg (Option.map _) h
def spec_DrawCostliestWord.f (k : Nat) (l0 : List Int) : Option (Int × (List Int) × (List Int) × (List Stp) × Int) := ((spec_l13Open.f l0).bind fun t1 => ((spec_l3Any.f k t1.1 t1.2).bind fun t2 => ((spec_l4Short.f t2.2.2.2.2.1 t2.2.2.2.2.2).bind fun t3 => (some (t2.1, t2.2.1, t2.2.2.1, t2.2.2.2.1, t3.1)))))
def spec_DrawCostliestWord.en (r : Int × (List Int) × (List Int) × (List Stp) × Int) : Res := (.tup [.agg [.int .i64 r.1, .imm (.I .i64 r.2.1), .imm (.I .i64 r.2.2.1), .imm (.T r.2.2.2.1)], .int .i64 r.2.2.2.2], [])
def spec_DrawCostliestWord.dec : List AV → List R.Obj → Option (List Int)
  | [.imm (.I .u8 l0)], [] => some l0
  | _, _ => none
def spec_DrawCostliestWord.tw : Tw := ⟨5, List Int, Int × (List Int) × (List Int) × (List Stp) × Int, spec_DrawCostliestWord.dec, fun a => [.imm (.I .u8 a)], fun a => [], fun k a => spec_DrawCostliestWord.f k a, fun a r => spec_DrawCostliestWord.en r, true⟩
theorem spec_DrawCostliestWord.dok : spec_DrawCostliestWord.tw.DecOk := by
  intro args hc a h
  have h : spec_DrawCostliestWord.dec args hc = some a := h
  unfold spec_DrawCostliestWord.dec at h
  split at h
  · cases h; exact ⟨rfl, rfl⟩
  · cases h
noncomputable def spec_DrawCostliestWord.O (k : Nat) : Oracle := (spec_l13Open.tw.orc k (spec_l3Any.tw.orc k (spec_l4Short.tw.orc k noO)))
def spec_DrawCostliestWord.fh : FH := ⟨fun i => match i with | _ => none, [(false, 3), (false, 3), (false, 89)], false⟩
set_option maxRecDepth 100000 in
theorem spec_DrawCostliestWord.ef (k : Nat) (l0 : List Int) : R.start Try.prog xhn spec_DrawCostliestWord.O 0 Try.f5 spec_DrawCostliestWord.fh k [.imm (.I .u8 l0)] [] = ((spec_l13Open.f l0).bind fun t1 => ((spec_l3Any.f k t1.1 t1.2).bind fun t2 => ((spec_l4Short.f t2.2.2.2.2.1 t2.2.2.2.2.2).bind fun t3 => (some (spec_DrawCostliestWord.en (t2.1, t2.2.1, t2.2.2.1, t2.2.2.2.1, t3.1)))))) := by kernel_rfl
theorem spec_DrawCostliestWord.sf (k : Nat) (l0 : List Int) : R.start Try.prog xhn spec_DrawCostliestWord.O 0 Try.f5 spec_DrawCostliestWord.fh k [.imm (.I .u8 l0)] [] = (spec_DrawCostliestWord.f k l0).map (spec_DrawCostliestWord.en) := by
  rw [spec_DrawCostliestWord.ef]
  simp only [spec_DrawCostliestWord.f, R.map_ite, R.map_bind, R.map_none, R.map_some, R.wr64_eq]
theorem spec_DrawCostliestWord.ok (k : Nat) : spec_DrawCostliestWord.tw.Ok Try.prog k := by
  intro md hmd a r h
  refine fn_ok (H := xhn) (fh := spec_DrawCostliestWord.fh) (O := spec_DrawCostliestWord.O) (k := k) Try.func5 (by kernel_rfl) (by kernel_rfl) (fun j _ => (Tw.orc_sound spec_l13Open.dok (spec_l13Open.ok j) (fun _ => rfl) (Tw.orc_sound spec_l3Any.dok (spec_l3Any.ok j) (fun _ => rfl) (Tw.orc_sound spec_l4Short.dok (spec_l4Short.ok j) (fun _ => rfl) noO_sound)))) (by kernel_rfl) (m := 0) rfl ?_
  refine (spec_DrawCostliestWord.sf k a).trans ?_
  exact congrArg (Option.map _) h
mutual
def impl_ShortWords.l0 : Nat → Int → (List ByteArray) → Int → Option ((List ByteArray) × Bool)
  | 0, _, _, _ => none
  | k + 1, x0, y0, x5 => (if 0 ≤ (wrap64 ((y0.length : Int) - 1)) then (if (wrap64 ((y0.length : Int) - 1)) < (y0.length : Int) then (if ((rdS y0 (wrap64 ((y0.length : Int) - 1))).size : Int) < x0 then (if 0 ≤ x5 then (if x5 ≤ (y0.length : Int) then (if (y0.length : Int) ≤ (y0.length : Int) then (impl_ShortWords.l1 k x0 y0 (y0.length : Int) ((y0.drop x5.toNat).take (y0.length - x5.toNat)) (((y0.drop x5.toNat).take (y0.length - x5.toNat)).length : Int) 0) else none) else none) else none) else (some (y0, true))) else none) else none)
def impl_ShortWords.l1 : Nat → Int → (List ByteArray) → Int → (List ByteArray) → Int → Int → Option ((List ByteArray) × Bool)
  | 0, _, _, _, _, _, _ => none
  | k + 1, x0, y0, x6, x30, x31, x32 => (if x32 < x31 then (if 0 ≤ x32 then (if x32 < (x30.length : Int) then (if (rdS x30 x32).size + 1 ≤ 9223372036854775807 then (if y0.length + [((rdS x30 x32) ++ (⟨#[97]⟩ : ByteArray)), ((rdS x30 x32) ++ (⟨#[98]⟩ : ByteArray))].length ≤ 8796093022208 then (impl_ShortWords.l1 k x0 (y0 ++ [((rdS x30 x32) ++ (⟨#[97]⟩ : ByteArray)), ((rdS x30 x32) ++ (⟨#[98]⟩ : ByteArray))]) x6 x30 x31 (wrap64 (x32 + 1))) else none) else none) else none) else none) else (impl_ShortWords.l0 k x0 y0 x6))
end
def impl_ShortWords.f (k : Nat) (a0 : Int) : Option ((List ByteArray) × Bool) := (if a0 < 0 then (some (([] : List ByteArray), false)) else (if a0 > 7 then (some (([] : List ByteArray), false)) else (impl_ShortWords.l0 k a0 ([(⟨#[]⟩ : ByteArray)]) 0)))
def impl_ShortWords.en (r : (List ByteArray) × Bool) : Res := (.tup [.imm (.S r.1), .lit r.2], [])
def impl_ShortWords.dec : List AV → List R.Obj → Option (Int)
  | [.int .i64 a0], [] => some a0
  | _, _ => none
def impl_ShortWords.tw : Tw := ⟨9, Int, (List ByteArray) × Bool, impl_ShortWords.dec, fun a => [.int .i64 a], fun a => [], fun k a => impl_ShortWords.f k a, fun a r => impl_ShortWords.en r, true⟩
theorem impl_ShortWords.dok : impl_ShortWords.tw.DecOk := by
  intro args hc a h
  have h : impl_ShortWords.dec args hc = some a := h
  unfold impl_ShortWords.dec at h
  split at h
  · cases h; exact ⟨rfl, rfl⟩
  · cases h
noncomputable def impl_ShortWords.O (k : Nat) : Oracle := noO
def impl_ShortWords.fh : FH := ⟨fun i => match i with | 5 => some [(0, 0), (4, 2), (5, 0)] | 8 => some [(0, 0), (4, 0), (6, 0), (30, 0), (31, 0), (32, 0)] | _ => none, [(false, 9)], false⟩
noncomputable def impl_ShortWords.x0 (k : Nat) (x0 : Int) (y0 : List ByteArray) (x5 : Int) : Option Res := R.exec Try.prog xhn impl_ShortWords.O 0 Try.f9 impl_ShortWords.fh k (R.point Try.f9 5) ⟨[(0, .int .i64 x0), (4, .sl 0 0), (5, .int .i64 x5)], [(0, .arr 9 0 (.S y0) true)], 3⟩
noncomputable def impl_ShortWords.x1 (k : Nat) (x0 : Int) (y0 : List ByteArray) (x6 : Int) (x30 : List ByteArray) (x31 : Int) (x32 : Int) : Option Res := R.exec Try.prog xhn impl_ShortWords.O 0 Try.f9 impl_ShortWords.fh k (R.point Try.f9 8) ⟨[(0, .int .i64 x0), (4, .sl 0 0), (6, .int .i64 x6), (30, .imm (.S x30)), (31, .int .i64 x31), (32, .int .i64 x32)], [(0, .arr 9 0 (.S y0) true)], 3⟩
set_option maxRecDepth 100000 in
theorem impl_ShortWords.e0 (k : Nat) (x0 : Int) (y0 : List ByteArray) (x5 : Int) : impl_ShortWords.x0 (k + 1) x0 y0 x5 = (if 0 ≤ (wr64 ((y0.length : Int) - 1)) then (if (wr64 ((y0.length : Int) - 1)) < (y0.length : Int) then (if ((rdS y0 (wr64 ((y0.length : Int) - 1))).size : Int) < x0 then (if 0 ≤ x5 then (if x5 ≤ (y0.length : Int) then (if (y0.length : Int) ≤ (y0.length : Int) then (impl_ShortWords.x1 k x0 y0 (y0.length : Int) ((y0.drop x5.toNat).take (y0.length - x5.toNat)) (((y0.drop x5.toNat).take (y0.length - x5.toNat)).length : Int) 0) else none) else none) else none) else (some (impl_ShortWords.en (y0, true)))) else none) else none) := by kernel_rfl
set_option maxRecDepth 100000 in
theorem impl_ShortWords.e1 (k : Nat) (x0 : Int) (y0 : List ByteArray) (x6 : Int) (x30 : List ByteArray) (x31 : Int) (x32 : Int) : impl_ShortWords.x1 (k + 1) x0 y0 x6 x30 x31 x32 = (if x32 < x31 then (if 0 ≤ x32 then (if x32 < (x30.length : Int) then (if (rdS x30 x32).size + 1 ≤ 9223372036854775807 then (if y0.length + [((rdS x30 x32) ++ (⟨#[97]⟩ : ByteArray)), ((rdS x30 x32) ++ (⟨#[98]⟩ : ByteArray))].length ≤ 8796093022208 then (impl_ShortWords.x1 k x0 (y0 ++ [((rdS x30 x32) ++ (⟨#[97]⟩ : ByteArray)), ((rdS x30 x32) ++ (⟨#[98]⟩ : ByteArray))]) x6 x30 x31 (wr64 (x32 + 1))) else none) else none) else none) else none) else (impl_ShortWords.x0 k x0 y0 x6)) := by
  refine Eq.trans ?_ (R.icong (fun h0 => (R.icong (fun h1 => (R.icong (fun h2 => (R.icong (fun h3 => (R.idropT (p := (rdS x30 x32).size + 1 ≤ 9223372036854775807) (z := none) h3 rfl)) (fun h3 => rfl))) (fun h2 => rfl))) (fun h1 => rfl))) (fun h0 => rfl))
  kernel_rfl
set_option maxRecDepth 100000 in
theorem impl_ShortWords.ef (k : Nat) (a0 : Int) : R.start Try.prog xhn impl_ShortWords.O 0 Try.f9 impl_ShortWords.fh k [.int .i64 a0] [] = (if a0 < 0 then (some (impl_ShortWords.en (([] : List ByteArray), false))) else (if a0 > 7 then (some (impl_ShortWords.en (([] : List ByteArray), false))) else (impl_ShortWords.x0 k a0 ([(⟨#[]⟩ : ByteArray)]) 0))) := by kernel_rfl
theorem impl_ShortWords.link : ∀ k, (∀ (x0 : Int) (y0 : List ByteArray) (x5 : Int), impl_ShortWords.x0 k x0 y0 x5 = (impl_ShortWords.l0 k x0 y0 x5).map (impl_ShortWords.en)) ∧ (∀ (x0 : Int) (y0 : List ByteArray) (x6 : Int) (x30 : List ByteArray) (x31 : Int) (x32 : Int), impl_ShortWords.x1 k x0 y0 x6 x30 x31 x32 = (impl_ShortWords.l1 k x0 y0 x6 x30 x31 x32).map (impl_ShortWords.en))
  | 0 => ⟨fun _ _ _ => by simp only [impl_ShortWords.l0, R.map_none]; rfl, fun _ _ _ _ _ _ => by simp only [impl_ShortWords.l1, R.map_none]; rfl⟩
  | k + 1 => by
    obtain ⟨ih0, ih1⟩ := impl_ShortWords.link k
    refine ⟨?_, ?_⟩
    · intro x0 y0 x5
      rw [impl_ShortWords.e0]
      simp only [impl_ShortWords.l0, R.map_ite, R.map_bind, R.map_none, R.map_some, R.wr64_eq, ← ih0, ← ih1]
    · intro x0 y0 x6 x30 x31 x32
      rw [impl_ShortWords.e1]
      simp only [impl_ShortWords.l1, R.map_ite, R.map_bind, R.map_none, R.map_some, R.wr64_eq, ← ih0, ← ih1]
theorem impl_ShortWords.sf (k : Nat) (a0 : Int) : R.start Try.prog xhn impl_ShortWords.O 0 Try.f9 impl_ShortWords.fh k [.int .i64 a0] [] = (impl_ShortWords.f k a0).map (impl_ShortWords.en) := by
  obtain ⟨ih0, ih1⟩ := impl_ShortWords.link k
  rw [impl_ShortWords.ef]
  simp only [impl_ShortWords.f, R.map_ite, R.map_bind, R.map_none, R.map_some, R.wr64_eq, ← ih0, ← ih1]
theorem impl_ShortWords.ok (k : Nat) : impl_ShortWords.tw.Ok Try.prog k := by
  intro md hmd a r h
  refine fn_ok (H := xhn) (fh := impl_ShortWords.fh) (O := impl_ShortWords.O) (k := k) Try.func9 (by kernel_rfl) (by kernel_rfl) (fun j _ => noO_sound) (by kernel_rfl) (m := 0) rfl ?_
  refine (impl_ShortWords.sf k a).trans ?_
  exact congrArg (Option.map _) h
def impl_statesOk.l0 : Nat → (List Int) → Int → (List Int) → Int → Int → Option (Bool)
  | 0, _, _, _, _, _ => none
  | k + 1, x0, x1, x7, x8, x9 => (if x9 < x8 then (if 0 ≤ x9 then (if x9 < (x7.length : Int) then (if (rdI x7 x9) < 0 then (some false) else (if (rdI x7 x9) ≥ x1 then (some false) else (if x9 > 0 then (if 0 ≤ (wrap64 (x9 - 1)) then (if (wrap64 (x9 - 1)) < (x0.length : Int) then (if (rdI x0 (wrap64 (x9 - 1))) ≥ (rdI x7 x9) then (some false) else (impl_statesOk.l0 k x0 x1 x7 x8 (wrap64 (x9 + 1)))) else none) else none) else (impl_statesOk.l0 k x0 x1 x7 x8 (wrap64 (x9 + 1)))))) else none) else none) else (some true))
def impl_statesOk.f (k : Nat) (l0 : List Int) (a1 : Int) : Option (Bool) := (impl_statesOk.l0 k l0 a1 l0 (l0.length : Int) 0)
def impl_statesOk.en (r : Bool) : Res := (.lit r, [])
def impl_statesOk.dec : List AV → List R.Obj → Option ((List Int) × Int)
  | [.imm (.I .i64 l0), .int .i64 a1], [] => some (l0, a1)
  | _, _ => none
def impl_statesOk.tw : Tw := ⟨58, (List Int) × Int, Bool, impl_statesOk.dec, fun a => [.imm (.I .i64 a.1), .int .i64 a.2], fun a => [], fun k a => impl_statesOk.f k a.1 a.2, fun a r => impl_statesOk.en r, true⟩
theorem impl_statesOk.dok : impl_statesOk.tw.DecOk := by
  intro args hc a h
  have h : impl_statesOk.dec args hc = some a := h
  unfold impl_statesOk.dec at h
  split at h
  · cases h; exact ⟨rfl, rfl⟩
  · cases h
noncomputable def impl_statesOk.O (k : Nat) : Oracle := noO
def impl_statesOk.fh : FH := ⟨fun i => match i with | 2 => some [(0, 0), (1, 0), (7, 0), (8, 0), (9, 0)] | _ => none, [], false⟩
noncomputable def impl_statesOk.x0 (k : Nat) (x0 : List Int) (x1 : Int) (x7 : List Int) (x8 : Int) (x9 : Int) : Option Res := R.exec Try.prog xhn impl_statesOk.O 0 Try.f58 impl_statesOk.fh k (R.point Try.f58 2) ⟨[(0, .imm (.I .i64 x0)), (1, .int .i64 x1), (7, .imm (.I .i64 x7)), (8, .int .i64 x8), (9, .int .i64 x9)], [], 2⟩
set_option maxRecDepth 100000 in
theorem impl_statesOk.e0 (k : Nat) (x0 : List Int) (x1 : Int) (x7 : List Int) (x8 : Int) (x9 : Int) : impl_statesOk.x0 (k + 1) x0 x1 x7 x8 x9 = (if x9 < x8 then (if 0 ≤ x9 then (if x9 < (x7.length : Int) then (if (rdI x7 x9) < 0 then (some (impl_statesOk.en false)) else (if (rdI x7 x9) ≥ x1 then (some (impl_statesOk.en false)) else (if x9 > 0 then (if 0 ≤ (wr64 (x9 - 1)) then (if (wr64 (x9 - 1)) < (x0.length : Int) then (if (rdI x0 (wr64 (x9 - 1))) ≥ (rdI x7 x9) then (some (impl_statesOk.en false)) else (impl_statesOk.x0 k x0 x1 x7 x8 (wr64 (x9 + 1)))) else none) else none) else (impl_statesOk.x0 k x0 x1 x7 x8 (wr64 (x9 + 1)))))) else none) else none) else (some (impl_statesOk.en true))) := by kernel_rfl
set_option maxRecDepth 100000 in
theorem impl_statesOk.ef (k : Nat) (l0 : List Int) (a1 : Int) : R.start Try.prog xhn impl_statesOk.O 0 Try.f58 impl_statesOk.fh k [.imm (.I .i64 l0), .int .i64 a1] [] = (impl_statesOk.x0 k l0 a1 l0 (l0.length : Int) 0) := by kernel_rfl
theorem impl_statesOk.link : ∀ k, (∀ (x0 : List Int) (x1 : Int) (x7 : List Int) (x8 : Int) (x9 : Int), impl_statesOk.x0 k x0 x1 x7 x8 x9 = (impl_statesOk.l0 k x0 x1 x7 x8 x9).map (impl_statesOk.en))
  | 0 => fun _ _ _ _ _ => by simp only [impl_statesOk.l0, R.map_none]; rfl
  | k + 1 => by
    have ih0 := impl_statesOk.link k
    · intro x0 x1 x7 x8 x9
      rw [impl_statesOk.e0]
      simp only [impl_statesOk.l0, R.map_ite, R.map_bind, R.map_none, R.map_some, R.wr64_eq, ← ih0]
theorem impl_statesOk.sf (k : Nat) (l0 : List Int) (a1 : Int) : R.start Try.prog xhn impl_statesOk.O 0 Try.f58 impl_statesOk.fh k [.imm (.I .i64 l0), .int .i64 a1] [] = (impl_statesOk.f k l0 a1).map (impl_statesOk.en) := by
  have ih0 := impl_statesOk.link k
  rw [impl_statesOk.ef]
  simp only [impl_statesOk.f, R.map_ite, R.map_bind, R.map_none, R.map_some, R.wr64_eq, ← ih0]
theorem impl_statesOk.ok (k : Nat) : impl_statesOk.tw.Ok Try.prog k := by
  intro md hmd a r h
  refine fn_ok (H := xhn) (fh := impl_statesOk.fh) (O := impl_statesOk.O) (k := k) Try.func58 (by kernel_rfl) (by kernel_rfl) (fun j _ => noO_sound) (by kernel_rfl) (m := 0) rfl ?_
  refine (impl_statesOk.sf k a.1 a.2).trans ?_
  exact congrArg (Option.map _) h
def cmp_isNaN_int.f (a0 : Int) : Option (Bool) := (some (!decide (a0 = a0)))
def cmp_isNaN_int.en (r : Bool) : Res := (.lit r, [])
def cmp_isNaN_int.dec : List AV → List R.Obj → Option (Int)
  | [.int .i64 a0], [] => some a0
  | _, _ => none
def cmp_isNaN_int.tw : Tw := ⟨105, Int, Bool, cmp_isNaN_int.dec, fun a => [.int .i64 a], fun a => [], fun k a => cmp_isNaN_int.f a, fun a r => cmp_isNaN_int.en r, true⟩
theorem cmp_isNaN_int.dok : cmp_isNaN_int.tw.DecOk := by
  intro args hc a h
  have h : cmp_isNaN_int.dec args hc = some a := h
  unfold cmp_isNaN_int.dec at h
  split at h
  · cases h; exact ⟨rfl, rfl⟩
  · cases h
noncomputable def cmp_isNaN_int.O (k : Nat) : Oracle := noO
def cmp_isNaN_int.fh : FH := ⟨fun i => match i with | _ => none, [], false⟩
set_option maxRecDepth 100000 in
theorem cmp_isNaN_int.ef (k : Nat) (a0 : Int) : R.start Try.prog xhn cmp_isNaN_int.O 0 Try.f105 cmp_isNaN_int.fh k [.int .i64 a0] [] = (some (cmp_isNaN_int.en (!decide (a0 = a0)))) := by kernel_rfl
theorem cmp_isNaN_int.sf (k : Nat) (a0 : Int) : R.start Try.prog xhn cmp_isNaN_int.O 0 Try.f105 cmp_isNaN_int.fh k [.int .i64 a0] [] = (cmp_isNaN_int.f a0).map (cmp_isNaN_int.en) := by
  rw [cmp_isNaN_int.ef]
  simp only [cmp_isNaN_int.f, R.map_ite, R.map_bind, R.map_none, R.map_some, R.wr64_eq]
theorem cmp_isNaN_int.ok (k : Nat) : cmp_isNaN_int.tw.Ok Try.prog k := by
  intro md hmd a r h
  refine fn_ok (H := xhn) (fh := cmp_isNaN_int.fh) (O := cmp_isNaN_int.O) (k := k) Try.func105 (by kernel_rfl) (by kernel_rfl) (fun j _ => noO_sound) (by kernel_rfl) (m := 0) rfl ?_
  refine (cmp_isNaN_int.sf k a).trans ?_
  exact congrArg (Option.map _) h
def cmp_Compare_int.f (a0 : Int) (a1 : Int) : Option (Int) := ((cmp_isNaN_int.f a0).bind fun t1 => ((cmp_isNaN_int.f a1).bind fun t2 => (if t1 = true then (if t2 = true then (some 0) else (some (-1))) else (if t2 = true then (some 1) else (if a0 < a1 then (some (-1)) else (if a0 > a1 then (some 1) else (some 0)))))))
def cmp_Compare_int.en (r : Int) : Res := (.int .i64 r, [])
def cmp_Compare_int.dec : List AV → List R.Obj → Option (Int × Int)
  | [.int .i64 a0, .int .i64 a1], [] => some (a0, a1)
  | _, _ => none
def cmp_Compare_int.tw : Tw := ⟨85, Int × Int, Int, cmp_Compare_int.dec, fun a => [.int .i64 a.1, .int .i64 a.2], fun a => [], fun k a => cmp_Compare_int.f a.1 a.2, fun a r => cmp_Compare_int.en r, true⟩
theorem cmp_Compare_int.dok : cmp_Compare_int.tw.DecOk := by
  intro args hc a h
  have h : cmp_Compare_int.dec args hc = some a := h
  unfold cmp_Compare_int.dec at h
  split at h
  · cases h; exact ⟨rfl, rfl⟩
  · cases h
noncomputable def cmp_Compare_int.O (k : Nat) : Oracle := (cmp_isNaN_int.tw.orc k noO)
def cmp_Compare_int.fh : FH := ⟨fun i => match i with | _ => none, [], false⟩
set_option maxRecDepth 100000 in
theorem cmp_Compare_int.ef (k : Nat) (a0 : Int) (a1 : Int) : R.start Try.prog xhn cmp_Compare_int.O 0 Try.f85 cmp_Compare_int.fh k [.int .i64 a0, .int .i64 a1] [] = ((cmp_isNaN_int.f a0).bind fun t1 => ((cmp_isNaN_int.f a1).bind fun t2 => (if t1 = true then (if t2 = true then (some (cmp_Compare_int.en 0)) else (some (cmp_Compare_int.en (-1)))) else (if t2 = true then (some (cmp_Compare_int.en 1)) else (if a0 < a1 then (some (cmp_Compare_int.en (-1))) else (if a0 > a1 then (some (cmp_Compare_int.en 1)) else (some (cmp_Compare_int.en 0)))))))) := by kernel_rfl
theorem cmp_Compare_int.sf (k : Nat) (a0 : Int) (a1 : Int) : R.start Try.prog xhn cmp_Compare_int.O 0 Try.f85 cmp_Compare_int.fh k [.int .i64 a0, .int .i64 a1] [] = (cmp_Compare_int.f a0 a1).map (cmp_Compare_int.en) := by
  rw [cmp_Compare_int.ef]
  simp only [cmp_Compare_int.f, R.map_ite, R.map_bind, R.map_none, R.map_some, R.wr64_eq]
theorem cmp_Compare_int.ok (k : Nat) : cmp_Compare_int.tw.Ok Try.prog k := by
  intro md hmd a r h
  refine fn_ok (H := xhn) (fh := cmp_Compare_int.fh) (O := cmp_Compare_int.O) (k := k) Try.func85 (by kernel_rfl) (by kernel_rfl) (fun j _ => (Tw.orc_sound cmp_isNaN_int.dok (cmp_isNaN_int.ok j) (fun _ => rfl) noO_sound)) (by kernel_rfl) (m := 0) rfl ?_
  refine (cmp_Compare_int.sf k a.1 a.2).trans ?_
  exact congrArg (Option.map _) h
def bytealg_CompareString.f (a0 a1 : ByteArray) : Option Int := some (Lib.compareBytes a0.data.toList a1.data.toList)
def bytealg_CompareString.dec : List AV → List R.Obj → Option (ByteArray × ByteArray)
  | [.str a0, .str a1], [] => some (a0, a1)
  | _, _ => none
def bytealg_CompareString.tw : Tw := ⟨106, ByteArray × ByteArray, Int, bytealg_CompareString.dec, fun a => [.str a.1, .str a.2], fun a => [], fun k a => bytealg_CompareString.f a.1 a.2, fun a r => (.int .i64 r, []), true⟩
theorem bytealg_CompareString.dok : bytealg_CompareString.tw.DecOk := by
  intro args hc a h
  have h : bytealg_CompareString.dec args hc = some a := h
  unfold bytealg_CompareString.dec at h
  split at h
  · cases h; exact ⟨rfl, rfl⟩
  · cases h
set_option maxRecDepth 100000 in
set_option maxHeartbeats 8000000 in
theorem bytealg_CompareString.calls (a0 a1 : ByteArray) (w : World) : Calls Try.prog 106 #[.string a0, .string a1] w fun e w' => e = .returned (.int .i64 (Lib.compareBytes a0.data.toList a1.data.toList)) ∧ w' = w := by
  go_enter Try.func106, Try.ntmps106
  go_wp2
  rw [run_callFunc_extern Try.func122 (by kernel_rfl) (by kernel_rfl) (by kernel_rfl) (e := Extern.BytealgCompare.compare) (by kernel_rfl), Lib.run_compareString]
  simp only [Result.andThen]
  rw [Oper.upon_value]
  go_wp2
  go_ret
  exact ⟨rfl, rfl⟩
theorem bytealg_CompareString.ok (k : Nat) : bytealg_CompareString.tw.Ok Try.prog k := by
  intro md hmd a r h
  obtain rfl := Option.some.inj (show some _ = some r from h)
  refine ⟨callable_of Try.func106 (by kernel_rfl) (by kernel_rfl), fun w M I vs E => ?_⟩
  have e : vs = #[.string a.1, .string a.2] := two_of E.len (fun q => (E.args 0 _ _ rfl q).str_inv) (fun q => (E.args 1 _ _ rfl q).str_inv)
  subst e
  refine (bytealg_CompareString.calls a.1 a.2 w).mono fun e w' => ?_
  rintro ⟨rfl, rfl⟩
  exact ⟨_, M, rfl, (E.rel md).weaken (fun κ q => q.elim), .closed (.int _ _)⟩
def strings_Compare.f (a0 : ByteArray) (a1 : ByteArray) : Option (Int) := ((bytealg_CompareString.f a0 a1).bind fun t1 => (some t1))
def strings_Compare.en (r : Int) : Res := (.int .i64 r, [])
def strings_Compare.dec : List AV → List R.Obj → Option (ByteArray × ByteArray)
  | [.str a0, .str a1], [] => some (a0, a1)
  | _, _ => none
def strings_Compare.tw : Tw := ⟨86, ByteArray × ByteArray, Int, strings_Compare.dec, fun a => [.str a.1, .str a.2], fun a => [], fun k a => strings_Compare.f a.1 a.2, fun a r => strings_Compare.en r, true⟩
theorem strings_Compare.dok : strings_Compare.tw.DecOk := by
  intro args hc a h
  have h : strings_Compare.dec args hc = some a := h
  unfold strings_Compare.dec at h
  split at h
  · cases h; exact ⟨rfl, rfl⟩
  · cases h
noncomputable def strings_Compare.O (k : Nat) : Oracle := (bytealg_CompareString.tw.orc k noO)
def strings_Compare.fh : FH := ⟨fun i => match i with | _ => none, [], false⟩
set_option maxRecDepth 100000 in
theorem strings_Compare.ef (k : Nat) (a0 : ByteArray) (a1 : ByteArray) : R.start Try.prog xhn strings_Compare.O 0 Try.f86 strings_Compare.fh k [.str a0, .str a1] [] = ((bytealg_CompareString.f a0 a1).bind fun t1 => (some (strings_Compare.en t1))) := by kernel_rfl
theorem strings_Compare.sf (k : Nat) (a0 : ByteArray) (a1 : ByteArray) : R.start Try.prog xhn strings_Compare.O 0 Try.f86 strings_Compare.fh k [.str a0, .str a1] [] = (strings_Compare.f a0 a1).map (strings_Compare.en) := by
  rw [strings_Compare.ef]
  simp only [strings_Compare.f, R.map_ite, R.map_bind, R.map_none, R.map_some, R.wr64_eq]
theorem strings_Compare.ok (k : Nat) : strings_Compare.tw.Ok Try.prog k := by
  intro md hmd a r h
  refine fn_ok (H := xhn) (fh := strings_Compare.fh) (O := strings_Compare.O) (k := k) Try.func86 (by kernel_rfl) (by kernel_rfl) (fun j _ => (Tw.orc_sound bytealg_CompareString.dok (bytealg_CompareString.ok j) (fun _ => rfl) noO_sound)) (by kernel_rfl) (m := 0) rfl ?_
  refine (strings_Compare.sf k a.1 a.2).trans ?_
  exact congrArg (Option.map _) h
def cmp_Or_int.l0 : Nat → (List Int) → Int → Int → Option (Int)
  | 0, _, _, _ => none
  | k + 1, x6, x7, x8 => (if x8 < x7 then (if 0 ≤ x8 then (if x8 < (x6.length : Int) then (if (rdI x6 x8) = 0 then (cmp_Or_int.l0 k x6 x7 (wrap64 (x8 + 1))) else (some (rdI x6 x8))) else none) else none) else (some 0))
def cmp_Or_int.f (k : Nat) (l0 : List Int) : Option (Int) := (cmp_Or_int.l0 k l0 (l0.length : Int) 0)
def cmp_Or_int.en (r : Int) : Res := (.int .i64 r, [])
def cmp_Or_int.dec : List AV → List R.Obj → Option (List Int)
  | [.imm (.I .i64 l0)], [] => some l0
  | _, _ => none
def cmp_Or_int.tw : Tw := ⟨84, List Int, Int, cmp_Or_int.dec, fun a => [.imm (.I .i64 a)], fun a => [], fun k a => cmp_Or_int.f k a, fun a r => cmp_Or_int.en r, true⟩
theorem cmp_Or_int.dok : cmp_Or_int.tw.DecOk := by
  intro args hc a h
  have h : cmp_Or_int.dec args hc = some a := h
  unfold cmp_Or_int.dec at h
  split at h
  · cases h; exact ⟨rfl, rfl⟩
  · cases h
noncomputable def cmp_Or_int.O (k : Nat) : Oracle := noO
def cmp_Or_int.fh : FH := ⟨fun i => match i with | 3 => some [(3, 0), (6, 0), (7, 0), (8, 0)] | _ => none, [], false⟩
noncomputable def cmp_Or_int.x0 (k : Nat) (x6 : List Int) (x7 : Int) (x8 : Int) : Option Res := R.exec Try.prog xhn cmp_Or_int.O 0 Try.f84 cmp_Or_int.fh k (R.point Try.f84 3) ⟨[(3, .int .i64 0), (6, .imm (.I .i64 x6)), (7, .int .i64 x7), (8, .int .i64 x8)], [], 2⟩
set_option maxRecDepth 100000 in
theorem cmp_Or_int.e0 (k : Nat) (x6 : List Int) (x7 : Int) (x8 : Int) : cmp_Or_int.x0 (k + 1) x6 x7 x8 = (if x8 < x7 then (if 0 ≤ x8 then (if x8 < (x6.length : Int) then (if (rdI x6 x8) = 0 then (cmp_Or_int.x0 k x6 x7 (wr64 (x8 + 1))) else (some (cmp_Or_int.en (rdI x6 x8)))) else none) else none) else (some (cmp_Or_int.en 0))) := by kernel_rfl
set_option maxRecDepth 100000 in
theorem cmp_Or_int.ef (k : Nat) (l0 : List Int) : R.start Try.prog xhn cmp_Or_int.O 0 Try.f84 cmp_Or_int.fh k [.imm (.I .i64 l0)] [] = (cmp_Or_int.x0 k l0 (l0.length : Int) 0) := by kernel_rfl
theorem cmp_Or_int.link : ∀ k, (∀ (x6 : List Int) (x7 : Int) (x8 : Int), cmp_Or_int.x0 k x6 x7 x8 = (cmp_Or_int.l0 k x6 x7 x8).map (cmp_Or_int.en))
  | 0 => fun _ _ _ => by simp only [cmp_Or_int.l0, R.map_none]; rfl
  | k + 1 => by
    have ih0 := cmp_Or_int.link k
    · intro x6 x7 x8
      rw [cmp_Or_int.e0]
      simp only [cmp_Or_int.l0, R.map_ite, R.map_bind, R.map_none, R.map_some, R.wr64_eq, ← ih0]
theorem cmp_Or_int.sf (k : Nat) (l0 : List Int) : R.start Try.prog xhn cmp_Or_int.O 0 Try.f84 cmp_Or_int.fh k [.imm (.I .i64 l0)] [] = (cmp_Or_int.f k l0).map (cmp_Or_int.en) := by
  have ih0 := cmp_Or_int.link k
  rw [cmp_Or_int.ef]
  simp only [cmp_Or_int.f, R.map_ite, R.map_bind, R.map_none, R.map_some, R.wr64_eq, ← ih0]
theorem cmp_Or_int.ok (k : Nat) : cmp_Or_int.tw.Ok Try.prog k := by
  intro md hmd a r h
  refine fn_ok (H := xhn) (fh := cmp_Or_int.fh) (O := cmp_Or_int.O) (k := k) Try.func84 (by kernel_rfl) (by kernel_rfl) (fun j _ => noO_sound) (by kernel_rfl) (m := 0) rfl ?_
  refine (cmp_Or_int.sf k a).trans ?_
  exact congrArg (Option.map _) h
def impl_stepOrder.f (k : Nat) (a0_0 : Int) (a0_1 : ByteArray) (a0_2 : Int) (a0_3 : Int) (a1_0 : Int) (a1_1 : ByteArray) (a1_2 : Int) (a1_3 : Int) : Option (Int) := ((cmp_Compare_int.f a0_0 a1_0).bind fun t1 => ((strings_Compare.f a0_1 a1_1).bind fun t2 => ((cmp_Compare_int.f a0_2 a1_2).bind fun t3 => ((cmp_Or_int.f k ([t1, t2, t3])).bind fun t4 => (some t4)))))
def impl_stepOrder.en (r : Int) : Res := (.int .i64 r, [])
def impl_stepOrder.dec : List AV → List R.Obj → Option (Int × ByteArray × Int × Int × Int × ByteArray × Int × Int)
  | [.agg [.int .i64 a0_0, .str a0_1, .int .i64 a0_2, .int .i64 a0_3], .agg [.int .i64 a1_0, .str a1_1, .int .i64 a1_2, .int .i64 a1_3]], [] => some (a0_0, a0_1, a0_2, a0_3, a1_0, a1_1, a1_2, a1_3)
  | _, _ => none
def impl_stepOrder.tw : Tw := ⟨59, Int × ByteArray × Int × Int × Int × ByteArray × Int × Int, Int, impl_stepOrder.dec, fun a => [.agg [.int .i64 a.1, .str a.2.1, .int .i64 a.2.2.1, .int .i64 a.2.2.2.1], .agg [.int .i64 a.2.2.2.2.1, .str a.2.2.2.2.2.1, .int .i64 a.2.2.2.2.2.2.1, .int .i64 a.2.2.2.2.2.2.2]], fun a => [], fun k a => impl_stepOrder.f k a.1 a.2.1 a.2.2.1 a.2.2.2.1 a.2.2.2.2.1 a.2.2.2.2.2.1 a.2.2.2.2.2.2.1 a.2.2.2.2.2.2.2, fun a r => impl_stepOrder.en r, true⟩
theorem impl_stepOrder.dok : impl_stepOrder.tw.DecOk := by
  intro args hc a h
  have h : impl_stepOrder.dec args hc = some a := h
  unfold impl_stepOrder.dec at h
  split at h
  · cases h; exact ⟨rfl, rfl⟩
  · cases h
noncomputable def impl_stepOrder.O (k : Nat) : Oracle := (cmp_Compare_int.tw.orc k (strings_Compare.tw.orc k (cmp_Or_int.tw.orc k noO)))
def impl_stepOrder.fh : FH := ⟨fun i => match i with | _ => none, [], false⟩
set_option maxRecDepth 100000 in
theorem impl_stepOrder.ef (k : Nat) (a0_0 : Int) (a0_1 : ByteArray) (a0_2 : Int) (a0_3 : Int) (a1_0 : Int) (a1_1 : ByteArray) (a1_2 : Int) (a1_3 : Int) : R.start Try.prog xhn impl_stepOrder.O 0 Try.f59 impl_stepOrder.fh k [.agg [.int .i64 a0_0, .str a0_1, .int .i64 a0_2, .int .i64 a0_3], .agg [.int .i64 a1_0, .str a1_1, .int .i64 a1_2, .int .i64 a1_3]] [] = ((cmp_Compare_int.f a0_0 a1_0).bind fun t1 => ((strings_Compare.f a0_1 a1_1).bind fun t2 => ((cmp_Compare_int.f a0_2 a1_2).bind fun t3 => ((cmp_Or_int.f k ([t1, t2, t3])).bind fun t4 => (some (impl_stepOrder.en t4)))))) := by kernel_rfl
theorem impl_stepOrder.sf (k : Nat) (a0_0 : Int) (a0_1 : ByteArray) (a0_2 : Int) (a0_3 : Int) (a1_0 : Int) (a1_1 : ByteArray) (a1_2 : Int) (a1_3 : Int) : R.start Try.prog xhn impl_stepOrder.O 0 Try.f59 impl_stepOrder.fh k [.agg [.int .i64 a0_0, .str a0_1, .int .i64 a0_2, .int .i64 a0_3], .agg [.int .i64 a1_0, .str a1_1, .int .i64 a1_2, .int .i64 a1_3]] [] = (impl_stepOrder.f k a0_0 a0_1 a0_2 a0_3 a1_0 a1_1 a1_2 a1_3).map (impl_stepOrder.en) := by
  rw [impl_stepOrder.ef]
  simp only [impl_stepOrder.f, R.map_ite, R.map_bind, R.map_none, R.map_some, R.wr64_eq]
theorem impl_stepOrder.ok (k : Nat) : impl_stepOrder.tw.Ok Try.prog k := by
  intro md hmd a r h
  refine fn_ok (H := xhn) (fh := impl_stepOrder.fh) (O := impl_stepOrder.O) (k := k) Try.func59 (by kernel_rfl) (by kernel_rfl) (fun j _ => (Tw.orc_sound cmp_Compare_int.dok (cmp_Compare_int.ok j) (fun _ => rfl) (Tw.orc_sound strings_Compare.dok (strings_Compare.ok j) (fun _ => rfl) (Tw.orc_sound cmp_Or_int.dok (cmp_Or_int.ok j) (fun _ => rfl) noO_sound)))) (by kernel_rfl) (m := 0) rfl ?_
  refine (impl_stepOrder.sf k a.1 a.2.1 a.2.2.1 a.2.2.2.1 a.2.2.2.2.1 a.2.2.2.2.2.1 a.2.2.2.2.2.2.1 a.2.2.2.2.2.2.2).trans ?_
  exact congrArg (Option.map _) h
def impl_AutomatonValid.l0 : Nat → (List Stp) → Int → Int → Int → (List Int) → (List Int) → (List Stp) → Option (Bool)
  | 0, _, _, _, _, _, _, _ => none
  | k + 1, x36, x37, x38, y0_0, y0_1, y0_2, y0_3 => (if x38 < x37 then (if 0 ≤ x38 then (if x38 < (x36.length : Int) then (if (rdT x36 x38).f0 < 0 then (some false) else (if (rdT x36 x38).f0 ≥ y0_0 then (some false) else (if (rdT x36 x38).f2 < 0 then (some false) else (if (rdT x36 x38).f2 ≥ y0_0 then (some false) else (if (rdT x36 x38).f1.toList = ([97] : List UInt8) then (if (rdT x36 x38).f3 < 0 then (some false) else (if (rdT x36 x38).f3 > 3 then (some false) else (if x38 > 0 then (if 0 ≤ (wrap64 (x38 - 1)) then (if (wrap64 (x38 - 1)) < (y0_3.length : Int) then ((impl_stepOrder.f k ((rdT y0_3 (wrap64 (x38 - 1))).f0) ((rdT y0_3 (wrap64 (x38 - 1))).f1) ((rdT y0_3 (wrap64 (x38 - 1))).f2) ((rdT y0_3 (wrap64 (x38 - 1))).f3) ((rdT x36 x38).f0) ((rdT x36 x38).f1) ((rdT x36 x38).f2) ((rdT x36 x38).f3)).bind fun t3 => (if t3 ≥ 0 then (some false) else (impl_AutomatonValid.l0 k x36 x37 (wrap64 (x38 + 1)) y0_0 y0_1 y0_2 y0_3))) else none) else none) else (impl_AutomatonValid.l0 k x36 x37 (wrap64 (x38 + 1)) y0_0 y0_1 y0_2 y0_3)))) else (if (rdT x36 x38).f1.toList = ([98] : List UInt8) then (if (rdT x36 x38).f3 < 0 then (some false) else (if (rdT x36 x38).f3 > 3 then (some false) else (if x38 > 0 then (if 0 ≤ (wrap64 (x38 - 1)) then (if (wrap64 (x38 - 1)) < (y0_3.length : Int) then ((impl_stepOrder.f k ((rdT y0_3 (wrap64 (x38 - 1))).f0) ((rdT y0_3 (wrap64 (x38 - 1))).f1) ((rdT y0_3 (wrap64 (x38 - 1))).f2) ((rdT y0_3 (wrap64 (x38 - 1))).f3) ((rdT x36 x38).f0) ((rdT x36 x38).f1) ((rdT x36 x38).f2) ((rdT x36 x38).f3)).bind fun t4 => (if t4 ≥ 0 then (some false) else (impl_AutomatonValid.l0 k x36 x37 (wrap64 (x38 + 1)) y0_0 y0_1 y0_2 y0_3))) else none) else none) else (impl_AutomatonValid.l0 k x36 x37 (wrap64 (x38 + 1)) y0_0 y0_1 y0_2 y0_3)))) else (some false))))))) else none) else none) else (some true))
def impl_AutomatonValid.f (k : Nat) (a0_0 : Int) (l0_1 : List Int) (l0_2 : List Int) (l0_3 : List Stp) : Option (Bool) := (if a0_0 < 1 then (some false) else (if a0_0 > 4 then (some false) else (if (l0_3.length : Int) > 24 then (some false) else ((impl_statesOk.f k l0_1 a0_0).bind fun t1 => (if t1 = true then ((impl_statesOk.f k l0_2 a0_0).bind fun t2 => (if t2 = true then (impl_AutomatonValid.l0 k l0_3 (l0_3.length : Int) 0 a0_0 l0_1 l0_2 l0_3) else (some false))) else (some false))))))
def impl_AutomatonValid.en (r : Bool) : Res := (.lit r, [])
def impl_AutomatonValid.dec : List AV → List R.Obj → Option (Int × (List Int) × (List Int) × (List Stp))
  | [.agg [.int .i64 a0_0, .imm (.I .i64 l0_1), .imm (.I .i64 l0_2), .imm (.T l0_3)]], [] => some (a0_0, l0_1, l0_2, l0_3)
  | _, _ => none
def impl_AutomatonValid.tw : Tw := ⟨29, Int × (List Int) × (List Int) × (List Stp), Bool, impl_AutomatonValid.dec, fun a => [.agg [.int .i64 a.1, .imm (.I .i64 a.2.1), .imm (.I .i64 a.2.2.1), .imm (.T a.2.2.2)]], fun a => [], fun k a => impl_AutomatonValid.f k a.1 a.2.1 a.2.2.1 a.2.2.2, fun a r => impl_AutomatonValid.en r, true⟩
theorem impl_AutomatonValid.dok : impl_AutomatonValid.tw.DecOk := by
  intro args hc a h
  have h : impl_AutomatonValid.dec args hc = some a := h
  unfold impl_AutomatonValid.dec at h
  split at h
  · cases h; exact ⟨rfl, rfl⟩
  · cases h
noncomputable def impl_AutomatonValid.O (k : Nat) : Oracle := (impl_statesOk.tw.orc k (impl_stepOrder.tw.orc k noO))
def impl_AutomatonValid.fh : FH := ⟨fun i => match i with | 4 => some [(1, 0), (36, 0), (37, 0), (38, 0)] | _ => none, [], false⟩
noncomputable def impl_AutomatonValid.x0 (k : Nat) (x36 : List Stp) (x37 : Int) (x38 : Int) (y0_0 : Int) (y0_1 : List Int) (y0_2 : List Int) (y0_3 : List Stp) : Option Res := R.exec Try.prog xhn impl_AutomatonValid.O 0 Try.f29 impl_AutomatonValid.fh k (R.point Try.f29 4) ⟨[(1, .ptr 0 0), (36, .imm (.T x36)), (37, .int .i64 x37), (38, .int .i64 x38)], [(0, .box false [.int .i64 y0_0, .imm (.I .i64 y0_1), .imm (.I .i64 y0_2), .imm (.T y0_3)])], 3⟩
set_option maxRecDepth 100000 in
theorem impl_AutomatonValid.e0 (k : Nat) (x36 : List Stp) (x37 : Int) (x38 : Int) (y0_0 : Int) (y0_1 : List Int) (y0_2 : List Int) (y0_3 : List Stp) : impl_AutomatonValid.x0 (k + 1) x36 x37 x38 y0_0 y0_1 y0_2 y0_3 = (if x38 < x37 then (if 0 ≤ x38 then (if x38 < (x36.length : Int) then (if (rdT x36 x38).f0 < 0 then (some (impl_AutomatonValid.en false)) else (if (rdT x36 x38).f0 ≥ y0_0 then (some (impl_AutomatonValid.en false)) else (if (rdT x36 x38).f2 < 0 then (some (impl_AutomatonValid.en false)) else (if (rdT x36 x38).f2 ≥ y0_0 then (some (impl_AutomatonValid.en false)) else (if (rdT x36 x38).f1.toList = ([97] : List UInt8) then (if (rdT x36 x38).f3 < 0 then (some (impl_AutomatonValid.en false)) else (if (rdT x36 x38).f3 > 3 then (some (impl_AutomatonValid.en false)) else (if x38 > 0 then (if 0 ≤ (wr64 (x38 - 1)) then (if (wr64 (x38 - 1)) < (y0_3.length : Int) then ((impl_stepOrder.f k ((rdT y0_3 (wr64 (x38 - 1))).f0) ((rdT y0_3 (wr64 (x38 - 1))).f1) ((rdT y0_3 (wr64 (x38 - 1))).f2) ((rdT y0_3 (wr64 (x38 - 1))).f3) ((rdT x36 x38).f0) ((rdT x36 x38).f1) ((rdT x36 x38).f2) ((rdT x36 x38).f3)).bind fun t3 => (if t3 ≥ 0 then (some (impl_AutomatonValid.en false)) else (impl_AutomatonValid.x0 k x36 x37 (wr64 (x38 + 1)) y0_0 y0_1 y0_2 y0_3))) else none) else none) else (impl_AutomatonValid.x0 k x36 x37 (wr64 (x38 + 1)) y0_0 y0_1 y0_2 y0_3)))) else (if (rdT x36 x38).f1.toList = ([98] : List UInt8) then (if (rdT x36 x38).f3 < 0 then (some (impl_AutomatonValid.en false)) else (if (rdT x36 x38).f3 > 3 then (some (impl_AutomatonValid.en false)) else (if x38 > 0 then (if 0 ≤ (wr64 (x38 - 1)) then (if (wr64 (x38 - 1)) < (y0_3.length : Int) then ((impl_stepOrder.f k ((rdT y0_3 (wr64 (x38 - 1))).f0) ((rdT y0_3 (wr64 (x38 - 1))).f1) ((rdT y0_3 (wr64 (x38 - 1))).f2) ((rdT y0_3 (wr64 (x38 - 1))).f3) ((rdT x36 x38).f0) ((rdT x36 x38).f1) ((rdT x36 x38).f2) ((rdT x36 x38).f3)).bind fun t4 => (if t4 ≥ 0 then (some (impl_AutomatonValid.en false)) else (impl_AutomatonValid.x0 k x36 x37 (wr64 (x38 + 1)) y0_0 y0_1 y0_2 y0_3))) else none) else none) else (impl_AutomatonValid.x0 k x36 x37 (wr64 (x38 + 1)) y0_0 y0_1 y0_2 y0_3)))) else (some (impl_AutomatonValid.en false)))))))) else none) else none) else (some (impl_AutomatonValid.en true))) := by kernel_rfl
set_option maxRecDepth 100000 in
theorem impl_AutomatonValid.ef (k : Nat) (a0_0 : Int) (l0_1 : List Int) (l0_2 : List Int) (l0_3 : List Stp) : R.start Try.prog xhn impl_AutomatonValid.O 0 Try.f29 impl_AutomatonValid.fh k [.agg [.int .i64 a0_0, .imm (.I .i64 l0_1), .imm (.I .i64 l0_2), .imm (.T l0_3)]] [] = (if a0_0 < 1 then (some (impl_AutomatonValid.en false)) else (if a0_0 > 4 then (some (impl_AutomatonValid.en false)) else (if (l0_3.length : Int) > 24 then (some (impl_AutomatonValid.en false)) else ((impl_statesOk.f k l0_1 a0_0).bind fun t1 => (if t1 = true then ((impl_statesOk.f k l0_2 a0_0).bind fun t2 => (if t2 = true then (impl_AutomatonValid.x0 k l0_3 (l0_3.length : Int) 0 a0_0 l0_1 l0_2 l0_3) else (some (impl_AutomatonValid.en false)))) else (some (impl_AutomatonValid.en false))))))) := by kernel_rfl
theorem impl_AutomatonValid.link : ∀ k, (∀ (x36 : List Stp) (x37 : Int) (x38 : Int) (y0_0 : Int) (y0_1 : List Int) (y0_2 : List Int) (y0_3 : List Stp), impl_AutomatonValid.x0 k x36 x37 x38 y0_0 y0_1 y0_2 y0_3 = (impl_AutomatonValid.l0 k x36 x37 x38 y0_0 y0_1 y0_2 y0_3).map (impl_AutomatonValid.en))
  | 0 => fun _ _ _ _ _ _ _ => by simp only [impl_AutomatonValid.l0, R.map_none]; rfl
  | k + 1 => by
    have ih0 := impl_AutomatonValid.link k
    · intro x36 x37 x38 y0_0 y0_1 y0_2 y0_3
      rw [impl_AutomatonValid.e0]
      simp only [impl_AutomatonValid.l0, R.map_ite, R.map_bind, R.map_none, R.map_some, R.wr64_eq, ← ih0]
theorem impl_AutomatonValid.sf (k : Nat) (a0_0 : Int) (l0_1 : List Int) (l0_2 : List Int) (l0_3 : List Stp) : R.start Try.prog xhn impl_AutomatonValid.O 0 Try.f29 impl_AutomatonValid.fh k [.agg [.int .i64 a0_0, .imm (.I .i64 l0_1), .imm (.I .i64 l0_2), .imm (.T l0_3)]] [] = (impl_AutomatonValid.f k a0_0 l0_1 l0_2 l0_3).map (impl_AutomatonValid.en) := by
  have ih0 := impl_AutomatonValid.link k
  rw [impl_AutomatonValid.ef]
  simp only [impl_AutomatonValid.f, R.map_ite, R.map_bind, R.map_none, R.map_some, R.wr64_eq, ← ih0]
theorem impl_AutomatonValid.ok (k : Nat) : impl_AutomatonValid.tw.Ok Try.prog k := by
  intro md hmd a r h
  refine fn_ok (H := xhn) (fh := impl_AutomatonValid.fh) (O := impl_AutomatonValid.O) (k := k) Try.func29 (by kernel_rfl) (by kernel_rfl) (fun j _ => (Tw.orc_sound impl_statesOk.dok (impl_statesOk.ok j) (fun _ => rfl) (Tw.orc_sound impl_stepOrder.dok (impl_stepOrder.ok j) (fun _ => rfl) noO_sound))) (by kernel_rfl) (m := 0) rfl ?_
  refine (impl_AutomatonValid.sf k a.1 a.2.1 a.2.2.1 a.2.2.2).trans ?_
  exact congrArg (Option.map _) h
def impl_WordValid.l0 : Nat → ByteArray → Int → Int → Option (Bool)
  | 0, _, _, _ => none
  | k + 1, x0, x5, x6 => (if x6 < x5 then (if 0 ≤ x6 then (if x6 < (x0.size : Int) then (if (btI x0 x6) = 97 then (impl_WordValid.l0 k x0 x5 (wrap64 (x6 + 1))) else (if (btI x0 x6) = 98 then (impl_WordValid.l0 k x0 x5 (wrap64 (x6 + 1))) else (some false))) else none) else none) else (some (decide ((x0.size : Int) ≤ 1000))))
def impl_WordValid.f (k : Nat) (a0 : ByteArray) : Option (Bool) := (impl_WordValid.l0 k a0 (a0.size : Int) 0)
def impl_WordValid.en (r : Bool) : Res := (.lit r, [])
def impl_WordValid.dec : List AV → List R.Obj → Option (ByteArray)
  | [.str a0], [] => some a0
  | _, _ => none
def impl_WordValid.tw : Tw := ⟨30, ByteArray, Bool, impl_WordValid.dec, fun a => [.str a], fun a => [], fun k a => impl_WordValid.f k a, fun a r => impl_WordValid.en r, true⟩
theorem impl_WordValid.dok : impl_WordValid.tw.DecOk := by
  intro args hc a h
  have h : impl_WordValid.dec args hc = some a := h
  unfold impl_WordValid.dec at h
  split at h
  · cases h; exact ⟨rfl, rfl⟩
  · cases h
noncomputable def impl_WordValid.O (k : Nat) : Oracle := noO
def impl_WordValid.fh : FH := ⟨fun i => match i with | 2 => some [(0, 0), (5, 0), (6, 0)] | _ => none, [], false⟩
noncomputable def impl_WordValid.x0 (k : Nat) (x0 : ByteArray) (x5 : Int) (x6 : Int) : Option Res := R.exec Try.prog xhn impl_WordValid.O 0 Try.f30 impl_WordValid.fh k (R.point Try.f30 2) ⟨[(0, .str x0), (5, .int .i64 x5), (6, .int .i64 x6)], [], 2⟩
set_option maxRecDepth 100000 in
theorem impl_WordValid.e0 (k : Nat) (x0 : ByteArray) (x5 : Int) (x6 : Int) : impl_WordValid.x0 (k + 1) x0 x5 x6 = (if x6 < x5 then (if 0 ≤ x6 then (if x6 < (x0.size : Int) then (if (btI x0 x6) = 97 then (impl_WordValid.x0 k x0 x5 (wr64 (x6 + 1))) else (if (btI x0 x6) = 98 then (impl_WordValid.x0 k x0 x5 (wr64 (x6 + 1))) else (some (impl_WordValid.en false)))) else none) else none) else (some (impl_WordValid.en (decide ((x0.size : Int) ≤ 1000))))) := by
  refine Eq.trans ?_ (R.icong (fun h0 => (R.icong (fun h1 => (R.icong (fun h2 => (R.icong (fun h3 => rfl) (fun h3 => (R.idropT (p := 0 ≤ x6) (z := none) h1 (R.idropT (p := x6 < (x0.size : Int)) (z := none) h2 rfl))))) (fun h2 => rfl))) (fun h1 => rfl))) (fun h0 => rfl))
  kernel_rfl
set_option maxRecDepth 100000 in
theorem impl_WordValid.ef (k : Nat) (a0 : ByteArray) : R.start Try.prog xhn impl_WordValid.O 0 Try.f30 impl_WordValid.fh k [.str a0] [] = (impl_WordValid.x0 k a0 (a0.size : Int) 0) := by kernel_rfl
theorem impl_WordValid.link : ∀ k, (∀ (x0 : ByteArray) (x5 : Int) (x6 : Int), impl_WordValid.x0 k x0 x5 x6 = (impl_WordValid.l0 k x0 x5 x6).map (impl_WordValid.en))
  | 0 => fun _ _ _ => by simp only [impl_WordValid.l0, R.map_none]; rfl
  | k + 1 => by
    have ih0 := impl_WordValid.link k
    · intro x0 x5 x6
      rw [impl_WordValid.e0]
      simp only [impl_WordValid.l0, R.map_ite, R.map_bind, R.map_none, R.map_some, R.wr64_eq, ← ih0]
theorem impl_WordValid.sf (k : Nat) (a0 : ByteArray) : R.start Try.prog xhn impl_WordValid.O 0 Try.f30 impl_WordValid.fh k [.str a0] [] = (impl_WordValid.f k a0).map (impl_WordValid.en) := by
  have ih0 := impl_WordValid.link k
  rw [impl_WordValid.ef]
  simp only [impl_WordValid.f, R.map_ite, R.map_bind, R.map_none, R.map_some, R.wr64_eq, ← ih0]
theorem impl_WordValid.ok (k : Nat) : impl_WordValid.tw.Ok Try.prog k := by
  intro md hmd a r h
  refine fn_ok (H := xhn) (fh := impl_WordValid.fh) (O := impl_WordValid.O) (k := k) Try.func30 (by kernel_rfl) (by kernel_rfl) (fun j _ => noO_sound) (by kernel_rfl) (m := 0) rfl ?_
  refine (impl_WordValid.sf k a).trans ?_
  exact congrArg (Option.map _) h
def slices_Repeat_int_int.f (l0 : List Int) (a1 : Int) : Option (List Int) := if l0.length = 1 ∧ 1 ≤ a1 ∧ a1 ≤ 4 then some (List.replicate a1.toNat (rdI l0 0)) else none
def slices_Repeat_int_int.dec : List AV → List R.Obj → Option (List Int × Int)
  | [.imm (.I .i64 l0), .int .i64 a1], [] => some (l0, a1)
  | _, _ => none
def slices_Repeat_int_int.tw : Tw := ⟨60, List Int × Int, List Int, slices_Repeat_int_int.dec, fun a => [.imm (.I .i64 a.1), .int .i64 a.2], fun a => [], fun k a => slices_Repeat_int_int.f a.1 a.2, fun a r => (.sl 0 0, [.arr 3 0 (.I .i64 r) false]), false⟩
theorem slices_Repeat_int_int.dok : slices_Repeat_int_int.tw.DecOk := by
  intro args hc a h
  have h : slices_Repeat_int_int.dec args hc = some a := h
  unfold slices_Repeat_int_int.dec at h
  split at h
  · cases h; exact ⟨rfl, rfl⟩
  · cases h
open Go.Proofs.YthnjbjihphbcpaaW.PrintWords in
theorem slices_Repeat_int_int.ok (k : Nat) : slices_Repeat_int_int.tw.Ok Try.prog k := by
  rintro md hmd ⟨l0, a1⟩ r h
  have h : slices_Repeat_int_int.f l0 a1 = some r := h
  refine ⟨callable_of Try.func60 (by kernel_rfl) (by kernel_rfl), fun w M I vs E => ?_⟩
  obtain ⟨V0, hV0⟩ : ∃ V0, vs[0]? = some V0 := ⟨vs[0]'(by have := E.len; have : 2 = vs.size := this; omega), Array.getElem?_eq_getElem _⟩
  have e : vs = #[V0, .int .i64 a1] := two_of E.len (fun q => Option.some.inj (q.symm.trans hV0)) (fun q => (E.args 1 _ _ rfl q).int_inv)
  obtain ⟨A0, c0, hs, hc, ha, hcell⟩ := (E.args 0 _ _ rfl hV0).imm_inv.imm_at
  subst hs
  subst e
  have hl : l0.length = 1 := by
    unfold slices_Repeat_int_int.f at h
    split at h
    · rename_i g; exact g.1
    · cases h
  have hr0 : Kd.C (Kd.int .i64) w A0 l0.length l0 := by
    refine ⟨rfl, by omega, fun hp => ?_⟩
    obtain ⟨b, o, rfl⟩ := ha hp
    refine ⟨_, rfl, fun j p hj => ⟨[.int .i64 p], rfl, rfl, fun i u hi => ?_⟩⟩
    have hjl : j < l0.length := (List.getElem?_eq_some_iff.1 hj).1
    match i with
    | 0 =>
      simp only [List.getElem?_cons_zero, Option.some.injEq] at hi
      subst hi
      obtain ⟨v, q1, _, q2⟩ := hcell b o rfl j 0 hjl (by simp [Ct.sz])
      have e1 : (Ct.I .i64 l0).sz = 1 := rfl
      rw [e1, Nat.mul_one, Nat.add_zero] at q1
      have e2 := (VR.closed (M := M) q2).int_inv
      rw [R.add_at, show (Kd.int IntKind.i64).sz = 1 from rfl, Nat.mul_one, Nat.add_zero, q1, e2]
      have e3 : rdI l0 (j : Int) = p := by simp [rdI, hj]
      exact congrArg (fun z => some (Value.int .i64 z)) e3
    | i + 1 => simp at hi
  refine (X.slices_Repeat_int_int.calls A0 c0 l0 a1 r w hr0 hc h).mono fun e w' => ?_
  rintro ⟨v, rfl, hR, hB⟩
  exact ext_ints (Kd.own_of_R (enc := Value.int .i64) (h1 := fun _ => rfl) hR) hB (fun q => Bool.noConfusion (show false = true from hmd q))
mutual
def impl_toEnd.l0 : Nat → ByteArray → (List Int) → (List Int) → Int → Int → Int → (List Int) → (List Int) → (List Stp) → Option (List (List Int))
  | 0, _, _, _, _, _, _, _, _, _ => none
  | k + 1, x1, y1, x18, x19, x20, y0_0, y0_1, y0_2, y0_3 => (if x20 < x19 then (if 0 ≤ x20 then (if x20 < (x18.length : Int) then (if 0 ≤ (rdI x18 x20) then (if (rdI x18 x20) < (y1.length : Int) then (impl_toEnd.l0 k x1 (y1.set (rdI x18 x20).toNat 0) x18 x19 (wrap64 (x20 + 1)) y0_0 y0_1 y0_2 y0_3) else none) else none) else none) else none) else (impl_toEnd.l1 k x1 y1 ([y1]) (wrap64 ((x1.size : Int) - 1)) y0_0 y0_1 y0_2 y0_3))
def impl_toEnd.l1 : Nat → ByteArray → (List Int) → (List (List Int)) → Int → Int → (List Int) → (List Int) → (List Stp) → Option (List (List Int))
  | 0, _, _, _, _, _, _, _, _ => none
  | k + 1, x1, y1, y2, x9, y0_0, y0_1, y0_2, y0_3 => (if x9 ≥ 0 then ((slices_Repeat_int_int.f ([1000000]) y0_0).bind fun t2 => (impl_toEnd.l2 k x1 y1 y2 x9 t2 y0_3 (y0_3.length : Int) 0 y0_0 y0_1 y0_2 y0_3)) else (some y2))
def impl_toEnd.l2 : Nat → ByteArray → (List Int) → (List (List Int)) → Int → (List Int) → (List Stp) → Int → Int → Int → (List Int) → (List Int) → (List Stp) → Option (List (List Int))
  | 0, _, _, _, _, _, _, _, _, _, _, _, _ => none
  | k + 1, x1, y1, y2, x9, y3, x42, x43, x44, y0_0, y0_1, y0_2, y0_3 => (if x44 < x43 then (if 0 ≤ x44 then (if x44 < (x42.length : Int) then (if 0 ≤ x9 then (if x9 ≤ (wrap64 (x9 + 1)) then (if (wrap64 (x9 + 1)) ≤ (x1.size : Int) then (if (rdT x42 x44).f1.toList = (x1.extract x9.toNat (wrap64 (x9 + 1)).toNat).toList then (if 0 ≤ (rdT x42 x44).f0 then (if (rdT x42 x44).f0 < (y3.length : Int) then (if 0 ≤ (rdT x42 x44).f2 then (if (rdT x42 x44).f2 < (y1.length : Int) then (impl_toEnd.l2 k x1 y1 y2 x9 (y3.set (rdT x42 x44).f0.toNat (mn (rdI y3 (rdT x42 x44).f0) (wrap64 ((rdT x42 x44).f3 + (rdI y1 (rdT x42 x44).f2))))) x42 x43 (wrap64 (x44 + 1)) y0_0 y0_1 y0_2 y0_3) else none) else none) else none) else none) else (impl_toEnd.l2 k x1 y1 y2 x9 y3 x42 x43 (wrap64 (x44 + 1)) y0_0 y0_1 y0_2 y0_3)) else none) else none) else none) else none) else none) else (if y2.length < 5864062014805 then (impl_toEnd.l1 k x1 y3 (y2 ++ [y3]) (wrap64 (x9 - 1)) y0_0 y0_1 y0_2 y0_3) else none))
end
def impl_toEnd.f (k : Nat) (a0_0 : Int) (l0_1 : List Int) (l0_2 : List Int) (l0_3 : List Stp) (a1 : ByteArray) : Option (List (List Int)) := ((slices_Repeat_int_int.f ([1000000]) a0_0).bind fun t1 => (impl_toEnd.l0 k a1 t1 l0_2 (l0_2.length : Int) 0 a0_0 l0_1 l0_2 l0_3))
def impl_toEnd.en (r : List (List Int)) : Res := (.sl 0 0, [.arr 23 0 (.L r) false])
def impl_toEnd.dec : List AV → List R.Obj → Option (Int × (List Int) × (List Int) × (List Stp) × ByteArray)
  | [.agg [.int .i64 a0_0, .imm (.I .i64 l0_1), .imm (.I .i64 l0_2), .imm (.T l0_3)], .str a1], [] => some (a0_0, l0_1, l0_2, l0_3, a1)
  | _, _ => none
def impl_toEnd.tw : Tw := ⟨31, Int × (List Int) × (List Int) × (List Stp) × ByteArray, List (List Int), impl_toEnd.dec, fun a => [.agg [.int .i64 a.1, .imm (.I .i64 a.2.1), .imm (.I .i64 a.2.2.1), .imm (.T a.2.2.2.1)], .str a.2.2.2.2], fun a => [], fun k a => impl_toEnd.f k a.1 a.2.1 a.2.2.1 a.2.2.2.1 a.2.2.2.2, fun a r => impl_toEnd.en r, false⟩
theorem impl_toEnd.dok : impl_toEnd.tw.DecOk := by
  intro args hc a h
  have h : impl_toEnd.dec args hc = some a := h
  unfold impl_toEnd.dec at h
  split at h
  · cases h; exact ⟨rfl, rfl⟩
  · cases h
noncomputable def impl_toEnd.O (k : Nat) : Oracle := (slices_Repeat_int_int.tw.orc k noO)
def impl_toEnd.fh : FH := ⟨fun i => match i with | 3 => some [(1, 0), (2, 0), (5, 0), (18, 0), (19, 0), (20, 0)] | 9 => some [(1, 0), (2, 0), (5, 0), (8, 0), (9, 0)] | 13 => some [(1, 0), (2, 0), (5, 0), (8, 0), (9, 0), (10, 0), (42, 0), (43, 0), (44, 0)] | _ => none, [(true, 23)], false⟩
noncomputable def impl_toEnd.x0 (k : Nat) (x1 : ByteArray) (y1 : List Int) (x18 : List Int) (x19 : Int) (x20 : Int) (y0_0 : Int) (y0_1 : List Int) (y0_2 : List Int) (y0_3 : List Stp) : Option Res := R.exec Try.prog xhn impl_toEnd.O 0 Try.f31 impl_toEnd.fh k (R.point Try.f31 3) ⟨[(1, .str x1), (2, .ptr 0 0), (5, .sl 1 0), (18, .imm (.I .i64 x18)), (19, .int .i64 x19), (20, .int .i64 x20)], [(0, .box false [.int .i64 y0_0, .imm (.I .i64 y0_1), .imm (.I .i64 y0_2), .imm (.T y0_3)]), (1, .arr 3 0 (.I .i64 y1) false)], 4⟩
noncomputable def impl_toEnd.x1 (k : Nat) (x1 : ByteArray) (y1 : List Int) (y2 : List (List Int)) (x9 : Int) (y0_0 : Int) (y0_1 : List Int) (y0_2 : List Int) (y0_3 : List Stp) : Option Res := R.exec Try.prog xhn impl_toEnd.O 0 Try.f31 impl_toEnd.fh k (R.point Try.f31 9) ⟨[(1, .str x1), (2, .ptr 0 0), (5, .sl 1 0), (8, .sl 2 0), (9, .int .i64 x9)], [(0, .box false [.int .i64 y0_0, .imm (.I .i64 y0_1), .imm (.I .i64 y0_2), .imm (.T y0_3)]), (1, .arr 3 0 (.I .i64 y1) true), (2, .arr 23 0 (.L y2) false)], 5⟩
noncomputable def impl_toEnd.x2 (k : Nat) (x1 : ByteArray) (y1 : List Int) (y2 : List (List Int)) (x9 : Int) (y3 : List Int) (x42 : List Stp) (x43 : Int) (x44 : Int) (y0_0 : Int) (y0_1 : List Int) (y0_2 : List Int) (y0_3 : List Stp) : Option Res := R.exec Try.prog xhn impl_toEnd.O 0 Try.f31 impl_toEnd.fh k (R.point Try.f31 13) ⟨[(1, .str x1), (2, .ptr 0 0), (5, .sl 1 0), (8, .sl 2 0), (9, .int .i64 x9), (10, .sl 3 0), (42, .imm (.T x42)), (43, .int .i64 x43), (44, .int .i64 x44)], [(0, .box false [.int .i64 y0_0, .imm (.I .i64 y0_1), .imm (.I .i64 y0_2), .imm (.T y0_3)]), (1, .arr 3 0 (.I .i64 y1) true), (2, .arr 23 0 (.L y2) false), (3, .arr 3 0 (.I .i64 y3) false)], 6⟩
set_option maxRecDepth 100000 in
theorem impl_toEnd.e0 (k : Nat) (x1 : ByteArray) (y1 : List Int) (x18 : List Int) (x19 : Int) (x20 : Int) (y0_0 : Int) (y0_1 : List Int) (y0_2 : List Int) (y0_3 : List Stp) : impl_toEnd.x0 (k + 1) x1 y1 x18 x19 x20 y0_0 y0_1 y0_2 y0_3 = (if x20 < x19 then (if 0 ≤ x20 then (if x20 < (x18.length : Int) then (if 0 ≤ (rdI x18 x20) then (if (rdI x18 x20) < (y1.length : Int) then (impl_toEnd.x0 k x1 (y1.set (rdI x18 x20).toNat 0) x18 x19 (wr64 (x20 + 1)) y0_0 y0_1 y0_2 y0_3) else none) else none) else none) else none) else (impl_toEnd.x1 k x1 y1 ([y1]) (wr64 ((x1.size : Int) - 1)) y0_0 y0_1 y0_2 y0_3)) := by kernel_rfl
set_option maxRecDepth 100000 in
theorem impl_toEnd.e1 (k : Nat) (x1 : ByteArray) (y1 : List Int) (y2 : List (List Int)) (x9 : Int) (y0_0 : Int) (y0_1 : List Int) (y0_2 : List Int) (y0_3 : List Stp) : impl_toEnd.x1 (k + 1) x1 y1 y2 x9 y0_0 y0_1 y0_2 y0_3 = (if x9 ≥ 0 then ((slices_Repeat_int_int.f ([1000000]) y0_0).bind fun t2 => (impl_toEnd.x2 k x1 y1 y2 x9 t2 y0_3 (y0_3.length : Int) 0 y0_0 y0_1 y0_2 y0_3)) else (some (impl_toEnd.en y2))) := by kernel_rfl
set_option maxRecDepth 100000 in
theorem impl_toEnd.e2 (k : Nat) (x1 : ByteArray) (y1 : List Int) (y2 : List (List Int)) (x9 : Int) (y3 : List Int) (x42 : List Stp) (x43 : Int) (x44 : Int) (y0_0 : Int) (y0_1 : List Int) (y0_2 : List Int) (y0_3 : List Stp) : impl_toEnd.x2 (k + 1) x1 y1 y2 x9 y3 x42 x43 x44 y0_0 y0_1 y0_2 y0_3 = (if x44 < x43 then (if 0 ≤ x44 then (if x44 < (x42.length : Int) then (if 0 ≤ x9 then (if x9 ≤ (wr64 (x9 + 1)) then (if (wr64 (x9 + 1)) ≤ (x1.size : Int) then (if (rdT x42 x44).f1.toList = (x1.extract x9.toNat (wr64 (x9 + 1)).toNat).toList then (if 0 ≤ (rdT x42 x44).f0 then (if (rdT x42 x44).f0 < (y3.length : Int) then (if 0 ≤ (rdT x42 x44).f2 then (if (rdT x42 x44).f2 < (y1.length : Int) then (impl_toEnd.x2 k x1 y1 y2 x9 (y3.set (rdT x42 x44).f0.toNat (mn (rdI y3 (rdT x42 x44).f0) (wr64 ((rdT x42 x44).f3 + (rdI y1 (rdT x42 x44).f2))))) x42 x43 (wr64 (x44 + 1)) y0_0 y0_1 y0_2 y0_3) else none) else none) else none) else none) else (impl_toEnd.x2 k x1 y1 y2 x9 y3 x42 x43 (wr64 (x44 + 1)) y0_0 y0_1 y0_2 y0_3)) else none) else none) else none) else none) else none) else (if y2.length < 5864062014805 then (impl_toEnd.x1 k x1 y3 (y2 ++ [y3]) (wr64 (x9 - 1)) y0_0 y0_1 y0_2 y0_3) else none)) := by
  refine Eq.trans ?_ (R.icong (fun h0 => (R.icong (fun h1 => (R.icong (fun h2 => (R.icong (fun h3 => (R.icong (fun h4 => (R.icong (fun h5 => (R.icong (fun h6 => (R.icong (fun h7 => (R.icong (fun h8 => (R.icong (fun h9 => (R.icong (fun h10 => (R.idropT (p := 0 ≤ (rdT x42 x44).f0) (z := none) h7 (R.idropT (p := (rdT x42 x44).f0 < (y3.length : Int)) (z := none) h8 rfl))) (fun h10 => rfl))) (fun h9 => rfl))) (fun h8 => rfl))) (fun h7 => rfl))) (fun h6 => rfl))) (fun h5 => rfl))) (fun h4 => rfl))) (fun h3 => rfl))) (fun h2 => rfl))) (fun h1 => rfl))) (fun h0 => rfl))
  kernel_rfl
set_option maxRecDepth 100000 in
theorem impl_toEnd.ef (k : Nat) (a0_0 : Int) (l0_1 : List Int) (l0_2 : List Int) (l0_3 : List Stp) (a1 : ByteArray) : R.start Try.prog xhn impl_toEnd.O 0 Try.f31 impl_toEnd.fh k [.agg [.int .i64 a0_0, .imm (.I .i64 l0_1), .imm (.I .i64 l0_2), .imm (.T l0_3)], .str a1] [] = ((slices_Repeat_int_int.f ([1000000]) a0_0).bind fun t1 => (impl_toEnd.x0 k a1 t1 l0_2 (l0_2.length : Int) 0 a0_0 l0_1 l0_2 l0_3)) := by kernel_rfl
theorem impl_toEnd.link : ∀ k, (∀ (x1 : ByteArray) (y1 : List Int) (x18 : List Int) (x19 : Int) (x20 : Int) (y0_0 : Int) (y0_1 : List Int) (y0_2 : List Int) (y0_3 : List Stp), impl_toEnd.x0 k x1 y1 x18 x19 x20 y0_0 y0_1 y0_2 y0_3 = (impl_toEnd.l0 k x1 y1 x18 x19 x20 y0_0 y0_1 y0_2 y0_3).map (impl_toEnd.en)) ∧ (∀ (x1 : ByteArray) (y1 : List Int) (y2 : List (List Int)) (x9 : Int) (y0_0 : Int) (y0_1 : List Int) (y0_2 : List Int) (y0_3 : List Stp), impl_toEnd.x1 k x1 y1 y2 x9 y0_0 y0_1 y0_2 y0_3 = (impl_toEnd.l1 k x1 y1 y2 x9 y0_0 y0_1 y0_2 y0_3).map (impl_toEnd.en)) ∧ (∀ (x1 : ByteArray) (y1 : List Int) (y2 : List (List Int)) (x9 : Int) (y3 : List Int) (x42 : List Stp) (x43 : Int) (x44 : Int) (y0_0 : Int) (y0_1 : List Int) (y0_2 : List Int) (y0_3 : List Stp), impl_toEnd.x2 k x1 y1 y2 x9 y3 x42 x43 x44 y0_0 y0_1 y0_2 y0_3 = (impl_toEnd.l2 k x1 y1 y2 x9 y3 x42 x43 x44 y0_0 y0_1 y0_2 y0_3).map (impl_toEnd.en))
  | 0 => ⟨fun _ _ _ _ _ _ _ _ _ => by simp only [impl_toEnd.l0, R.map_none]; rfl, fun _ _ _ _ _ _ _ _ => by simp only [impl_toEnd.l1, R.map_none]; rfl, fun _ _ _ _ _ _ _ _ _ _ _ _ => by simp only [impl_toEnd.l2, R.map_none]; rfl⟩
  | k + 1 => by
    obtain ⟨ih0, ih1, ih2⟩ := impl_toEnd.link k
    refine ⟨?_, ?_, ?_⟩
    · intro x1 y1 x18 x19 x20 y0_0 y0_1 y0_2 y0_3
      rw [impl_toEnd.e0]
      simp only [impl_toEnd.l0, R.map_ite, R.map_bind, R.map_none, R.map_some, R.wr64_eq, ← ih0, ← ih1, ← ih2]
    · intro x1 y1 y2 x9 y0_0 y0_1 y0_2 y0_3
      rw [impl_toEnd.e1]
      simp only [impl_toEnd.l1, R.map_ite, R.map_bind, R.map_none, R.map_some, R.wr64_eq, ← ih0, ← ih1, ← ih2]
    · intro x1 y1 y2 x9 y3 x42 x43 x44 y0_0 y0_1 y0_2 y0_3
      rw [impl_toEnd.e2]
      simp only [impl_toEnd.l2, R.map_ite, R.map_bind, R.map_none, R.map_some, R.wr64_eq, ← ih0, ← ih1, ← ih2]
theorem impl_toEnd.sf (k : Nat) (a0_0 : Int) (l0_1 : List Int) (l0_2 : List Int) (l0_3 : List Stp) (a1 : ByteArray) : R.start Try.prog xhn impl_toEnd.O 0 Try.f31 impl_toEnd.fh k [.agg [.int .i64 a0_0, .imm (.I .i64 l0_1), .imm (.I .i64 l0_2), .imm (.T l0_3)], .str a1] [] = (impl_toEnd.f k a0_0 l0_1 l0_2 l0_3 a1).map (impl_toEnd.en) := by
  obtain ⟨ih0, ih1, ih2⟩ := impl_toEnd.link k
  rw [impl_toEnd.ef]
  simp only [impl_toEnd.f, R.map_ite, R.map_bind, R.map_none, R.map_some, R.wr64_eq, ← ih0, ← ih1, ← ih2]
theorem impl_toEnd.ok (k : Nat) : impl_toEnd.tw.Ok Try.prog k := by
  intro md hmd a r h
  refine fn_ok (H := xhn) (fh := impl_toEnd.fh) (O := impl_toEnd.O) (k := k) Try.func31 (by kernel_rfl) (by kernel_rfl) (fun j _ => (Tw.orc_sound slices_Repeat_int_int.dok (slices_Repeat_int_int.ok j) (fun q => Bool.noConfusion (show false = true from hmd q)) noO_sound)) (by kernel_rfl) (m := 0) rfl ?_
  refine (impl_toEnd.sf k a.1 a.2.1 a.2.2.1 a.2.2.2.1 a.2.2.2.2).trans ?_
  exact congrArg (Option.map _) h
def impl_CostOf.l0 : Nat → ByteArray → (List (List Int)) → Int → (List Int) → Int → Int → Option (Int)
  | 0, _, _, _, _, _, _ => none
  | k + 1, x1, y0, x6, x21, x22, x23 => (if x23 < x22 then (if 0 ≤ x23 then (if x23 < (x21.length : Int) then (if 0 ≤ (x1.size : Int) then (if (x1.size : Int) < (y0.length : Int) then (if 0 ≤ (rdI x21 x23) then (if (rdI x21 x23) < ((rdL y0 (x1.size : Int)).length : Int) then (impl_CostOf.l0 k x1 y0 (mn x6 (rdI (rdL y0 (x1.size : Int)) (rdI x21 x23))) x21 x22 (wrap64 (x23 + 1))) else none) else none) else none) else none) else none) else none) else (some x6))
def impl_CostOf.f (k : Nat) (a0_0 : Int) (l0_1 : List Int) (l0_2 : List Int) (l0_3 : List Stp) (a1 : ByteArray) : Option (Int) := ((impl_AutomatonValid.f k a0_0 l0_1 l0_2 l0_3).bind fun t1 => (if t1 = true then ((impl_WordValid.f k a1).bind fun t2 => (if t2 = true then ((impl_toEnd.f k a0_0 l0_1 l0_2 l0_3 a1).bind fun t3 => (impl_CostOf.l0 k a1 t3 1000000 l0_1 (l0_1.length : Int) 0)) else (some (-1)))) else (some (-1))))
def impl_CostOf.en (r : Int) : Res := (.int .i64 r, [])
def impl_CostOf.dec : List AV → List R.Obj → Option (Int × (List Int) × (List Int) × (List Stp) × ByteArray)
  | [.agg [.int .i64 a0_0, .imm (.I .i64 l0_1), .imm (.I .i64 l0_2), .imm (.T l0_3)], .str a1], [] => some (a0_0, l0_1, l0_2, l0_3, a1)
  | _, _ => none
def impl_CostOf.tw : Tw := ⟨12, Int × (List Int) × (List Int) × (List Stp) × ByteArray, Int, impl_CostOf.dec, fun a => [.agg [.int .i64 a.1, .imm (.I .i64 a.2.1), .imm (.I .i64 a.2.2.1), .imm (.T a.2.2.2.1)], .str a.2.2.2.2], fun a => [], fun k a => impl_CostOf.f k a.1 a.2.1 a.2.2.1 a.2.2.2.1 a.2.2.2.2, fun a r => impl_CostOf.en r, false⟩
theorem impl_CostOf.dok : impl_CostOf.tw.DecOk := by
  intro args hc a h
  have h : impl_CostOf.dec args hc = some a := h
  unfold impl_CostOf.dec at h
  split at h
  · cases h; exact ⟨rfl, rfl⟩
  · cases h
noncomputable def impl_CostOf.O (k : Nat) : Oracle := (impl_AutomatonValid.tw.orc k (impl_WordValid.tw.orc k (impl_toEnd.tw.orc k noO)))
def impl_CostOf.fh : FH := ⟨fun i => match i with | 6 => some [(1, 0), (5, 0), (6, 0), (21, 0), (22, 0), (23, 0)] | _ => none, [], false⟩
noncomputable def impl_CostOf.x0 (k : Nat) (x1 : ByteArray) (y0 : List (List Int)) (x6 : Int) (x21 : List Int) (x22 : Int) (x23 : Int) : Option Res := R.exec Try.prog xhn impl_CostOf.O 0 Try.f12 impl_CostOf.fh k (R.point Try.f12 6) ⟨[(1, .str x1), (5, .sl 0 0), (6, .int .i64 x6), (21, .imm (.I .i64 x21)), (22, .int .i64 x22), (23, .int .i64 x23)], [(0, .arr 23 0 (.L y0) false)], 3⟩
set_option maxRecDepth 100000 in
theorem impl_CostOf.e0 (k : Nat) (x1 : ByteArray) (y0 : List (List Int)) (x6 : Int) (x21 : List Int) (x22 : Int) (x23 : Int) : impl_CostOf.x0 (k + 1) x1 y0 x6 x21 x22 x23 = (if x23 < x22 then (if 0 ≤ x23 then (if x23 < (x21.length : Int) then (if 0 ≤ (x1.size : Int) then (if (x1.size : Int) < (y0.length : Int) then (if 0 ≤ (rdI x21 x23) then (if (rdI x21 x23) < ((rdL y0 (x1.size : Int)).length : Int) then (impl_CostOf.x0 k x1 y0 (mn x6 (rdI (rdL y0 (x1.size : Int)) (rdI x21 x23))) x21 x22 (wr64 (x23 + 1))) else none) else none) else none) else none) else none) else none) else (some (impl_CostOf.en x6))) := by kernel_rfl
set_option maxRecDepth 100000 in
theorem impl_CostOf.ef (k : Nat) (a0_0 : Int) (l0_1 : List Int) (l0_2 : List Int) (l0_3 : List Stp) (a1 : ByteArray) : R.start Try.prog xhn impl_CostOf.O 0 Try.f12 impl_CostOf.fh k [.agg [.int .i64 a0_0, .imm (.I .i64 l0_1), .imm (.I .i64 l0_2), .imm (.T l0_3)], .str a1] [] = ((impl_AutomatonValid.f k a0_0 l0_1 l0_2 l0_3).bind fun t1 => (if t1 = true then ((impl_WordValid.f k a1).bind fun t2 => (if t2 = true then ((impl_toEnd.f k a0_0 l0_1 l0_2 l0_3 a1).bind fun t3 => (impl_CostOf.x0 k a1 t3 1000000 l0_1 (l0_1.length : Int) 0)) else (some (impl_CostOf.en (-1))))) else (some (impl_CostOf.en (-1))))) := by kernel_rfl
theorem impl_CostOf.link : ∀ k, (∀ (x1 : ByteArray) (y0 : List (List Int)) (x6 : Int) (x21 : List Int) (x22 : Int) (x23 : Int), impl_CostOf.x0 k x1 y0 x6 x21 x22 x23 = (impl_CostOf.l0 k x1 y0 x6 x21 x22 x23).map (impl_CostOf.en))
  | 0 => fun _ _ _ _ _ _ => by simp only [impl_CostOf.l0, R.map_none]; rfl
  | k + 1 => by
    have ih0 := impl_CostOf.link k
    · intro x1 y0 x6 x21 x22 x23
      rw [impl_CostOf.e0]
      simp only [impl_CostOf.l0, R.map_ite, R.map_bind, R.map_none, R.map_some, R.wr64_eq, ← ih0]
theorem impl_CostOf.sf (k : Nat) (a0_0 : Int) (l0_1 : List Int) (l0_2 : List Int) (l0_3 : List Stp) (a1 : ByteArray) : R.start Try.prog xhn impl_CostOf.O 0 Try.f12 impl_CostOf.fh k [.agg [.int .i64 a0_0, .imm (.I .i64 l0_1), .imm (.I .i64 l0_2), .imm (.T l0_3)], .str a1] [] = (impl_CostOf.f k a0_0 l0_1 l0_2 l0_3 a1).map (impl_CostOf.en) := by
  have ih0 := impl_CostOf.link k
  rw [impl_CostOf.ef]
  simp only [impl_CostOf.f, R.map_ite, R.map_bind, R.map_none, R.map_some, R.wr64_eq, ← ih0]
theorem impl_CostOf.ok (k : Nat) : impl_CostOf.tw.Ok Try.prog k := by
  intro md hmd a r h
  refine fn_ok (H := xhn) (fh := impl_CostOf.fh) (O := impl_CostOf.O) (k := k) Try.func12 (by kernel_rfl) (by kernel_rfl) (fun j _ => (Tw.orc_sound impl_AutomatonValid.dok (impl_AutomatonValid.ok j) (fun _ => rfl) (Tw.orc_sound impl_WordValid.dok (impl_WordValid.ok j) (fun _ => rfl) (Tw.orc_sound impl_toEnd.dok (impl_toEnd.ok j) (fun q => Bool.noConfusion (show false = true from hmd q)) noO_sound)))) (by kernel_rfl) (m := 0) rfl ?_
  refine (impl_CostOf.sf k a.1 a.2.1 a.2.2.1 a.2.2.2.1 a.2.2.2.2).trans ?_
  exact congrArg (Option.map _) h
def impl_CostliestWord.l0 : Nat → ByteArray → Int → (List ByteArray) → Int → Int → Int → (List Int) → (List Int) → (List Stp) → Option (ByteArray × Bool)
  | 0, _, _, _, _, _, _, _, _, _ => none
  | k + 1, x8, x9, x18, x19, x20, y0_0, y0_1, y0_2, y0_3 => (if x20 < x19 then (if 0 ≤ x20 then (if x20 < (x18.length : Int) then ((impl_CostOf.f k y0_0 y0_1 y0_2 y0_3 (rdS x18 x20)).bind fun t2 => (if t2 > x9 then (if t2 < 1000000 then (impl_CostliestWord.l0 k (rdS x18 x20) t2 x18 x19 (wrap64 (x20 + 1)) y0_0 y0_1 y0_2 y0_3) else (impl_CostliestWord.l0 k x8 x9 x18 x19 (wrap64 (x20 + 1)) y0_0 y0_1 y0_2 y0_3)) else (impl_CostliestWord.l0 k x8 x9 x18 x19 (wrap64 (x20 + 1)) y0_0 y0_1 y0_2 y0_3))) else none) else none) else (some (x8, (decide (x9 ≥ 0)))))
def impl_CostliestWord.f (k : Nat) (a0_0 : Int) (l0_1 : List Int) (l0_2 : List Int) (l0_3 : List Stp) (a1 : Int) : Option (ByteArray × Bool) := ((impl_ShortWords.f k a1).bind fun t1 => (impl_CostliestWord.l0 k (⟨#[]⟩ : ByteArray) (-1) t1.1 (t1.1.length : Int) 0 a0_0 l0_1 l0_2 l0_3))
def impl_CostliestWord.en (r : ByteArray × Bool) : Res := (.tup [.str r.1, .lit r.2], [])
def impl_CostliestWord.dec : List AV → List R.Obj → Option (Int × (List Int) × (List Int) × (List Stp) × Int)
  | [.agg [.int .i64 a0_0, .imm (.I .i64 l0_1), .imm (.I .i64 l0_2), .imm (.T l0_3)], .int .i64 a1], [] => some (a0_0, l0_1, l0_2, l0_3, a1)
  | _, _ => none
def impl_CostliestWord.tw : Tw := ⟨6, Int × (List Int) × (List Int) × (List Stp) × Int, ByteArray × Bool, impl_CostliestWord.dec, fun a => [.agg [.int .i64 a.1, .imm (.I .i64 a.2.1), .imm (.I .i64 a.2.2.1), .imm (.T a.2.2.2.1)], .int .i64 a.2.2.2.2], fun a => [], fun k a => impl_CostliestWord.f k a.1 a.2.1 a.2.2.1 a.2.2.2.1 a.2.2.2.2, fun a r => impl_CostliestWord.en r, false⟩
theorem impl_CostliestWord.dok : impl_CostliestWord.tw.DecOk := by
  intro args hc a h
  have h : impl_CostliestWord.dec args hc = some a := h
  unfold impl_CostliestWord.dec at h
  split at h
  · cases h; exact ⟨rfl, rfl⟩
  · cases h
noncomputable def impl_CostliestWord.O (k : Nat) : Oracle := (impl_ShortWords.tw.orc k (impl_CostOf.tw.orc k noO))
def impl_CostliestWord.fh : FH := ⟨fun i => match i with | 4 => some [(2, 0), (8, 0), (9, 0), (18, 0), (19, 0), (20, 0)] | _ => none, [], false⟩
noncomputable def impl_CostliestWord.x0 (k : Nat) (x8 : ByteArray) (x9 : Int) (x18 : List ByteArray) (x19 : Int) (x20 : Int) (y0_0 : Int) (y0_1 : List Int) (y0_2 : List Int) (y0_3 : List Stp) : Option Res := R.exec Try.prog xhn impl_CostliestWord.O 0 Try.f6 impl_CostliestWord.fh k (R.point Try.f6 4) ⟨[(2, .ptr 0 0), (8, .str x8), (9, .int .i64 x9), (18, .imm (.S x18)), (19, .int .i64 x19), (20, .int .i64 x20)], [(0, .box false [.int .i64 y0_0, .imm (.I .i64 y0_1), .imm (.I .i64 y0_2), .imm (.T y0_3)])], 3⟩
set_option maxRecDepth 100000 in
theorem impl_CostliestWord.e0 (k : Nat) (x8 : ByteArray) (x9 : Int) (x18 : List ByteArray) (x19 : Int) (x20 : Int) (y0_0 : Int) (y0_1 : List Int) (y0_2 : List Int) (y0_3 : List Stp) : impl_CostliestWord.x0 (k + 1) x8 x9 x18 x19 x20 y0_0 y0_1 y0_2 y0_3 = (if x20 < x19 then (if 0 ≤ x20 then (if x20 < (x18.length : Int) then ((impl_CostOf.f k y0_0 y0_1 y0_2 y0_3 (rdS x18 x20)).bind fun t2 => (if t2 > x9 then (if t2 < 1000000 then (impl_CostliestWord.x0 k (rdS x18 x20) t2 x18 x19 (wr64 (x20 + 1)) y0_0 y0_1 y0_2 y0_3) else (impl_CostliestWord.x0 k x8 x9 x18 x19 (wr64 (x20 + 1)) y0_0 y0_1 y0_2 y0_3)) else (impl_CostliestWord.x0 k x8 x9 x18 x19 (wr64 (x20 + 1)) y0_0 y0_1 y0_2 y0_3))) else none) else none) else (some (impl_CostliestWord.en (x8, (decide (x9 ≥ 0)))))) := by kernel_rfl
set_option maxRecDepth 100000 in
theorem impl_CostliestWord.ef (k : Nat) (a0_0 : Int) (l0_1 : List Int) (l0_2 : List Int) (l0_3 : List Stp) (a1 : Int) : R.start Try.prog xhn impl_CostliestWord.O 0 Try.f6 impl_CostliestWord.fh k [.agg [.int .i64 a0_0, .imm (.I .i64 l0_1), .imm (.I .i64 l0_2), .imm (.T l0_3)], .int .i64 a1] [] = ((impl_ShortWords.f k a1).bind fun t1 => (impl_CostliestWord.x0 k (⟨#[]⟩ : ByteArray) (-1) t1.1 (t1.1.length : Int) 0 a0_0 l0_1 l0_2 l0_3)) := by kernel_rfl
theorem impl_CostliestWord.link : ∀ k, (∀ (x8 : ByteArray) (x9 : Int) (x18 : List ByteArray) (x19 : Int) (x20 : Int) (y0_0 : Int) (y0_1 : List Int) (y0_2 : List Int) (y0_3 : List Stp), impl_CostliestWord.x0 k x8 x9 x18 x19 x20 y0_0 y0_1 y0_2 y0_3 = (impl_CostliestWord.l0 k x8 x9 x18 x19 x20 y0_0 y0_1 y0_2 y0_3).map (impl_CostliestWord.en))
  | 0 => fun _ _ _ _ _ _ _ _ _ => by simp only [impl_CostliestWord.l0, R.map_none]; rfl
  | k + 1 => by
    have ih0 := impl_CostliestWord.link k
    · intro x8 x9 x18 x19 x20 y0_0 y0_1 y0_2 y0_3
      rw [impl_CostliestWord.e0]
      simp only [impl_CostliestWord.l0, R.map_ite, R.map_bind, R.map_none, R.map_some, R.wr64_eq, ← ih0]
theorem impl_CostliestWord.sf (k : Nat) (a0_0 : Int) (l0_1 : List Int) (l0_2 : List Int) (l0_3 : List Stp) (a1 : Int) : R.start Try.prog xhn impl_CostliestWord.O 0 Try.f6 impl_CostliestWord.fh k [.agg [.int .i64 a0_0, .imm (.I .i64 l0_1), .imm (.I .i64 l0_2), .imm (.T l0_3)], .int .i64 a1] [] = (impl_CostliestWord.f k a0_0 l0_1 l0_2 l0_3 a1).map (impl_CostliestWord.en) := by
  have ih0 := impl_CostliestWord.link k
  rw [impl_CostliestWord.ef]
  simp only [impl_CostliestWord.f, R.map_ite, R.map_bind, R.map_none, R.map_some, R.wr64_eq, ← ih0]
theorem impl_CostliestWord.ok (k : Nat) : impl_CostliestWord.tw.Ok Try.prog k := by
  intro md hmd a r h
  refine fn_ok (H := xhn) (fh := impl_CostliestWord.fh) (O := impl_CostliestWord.O) (k := k) Try.func6 (by kernel_rfl) (by kernel_rfl) (fun j _ => (Tw.orc_sound impl_ShortWords.dok (impl_ShortWords.ok j) (fun _ => rfl) (Tw.orc_sound impl_CostOf.dok (impl_CostOf.ok j) (fun q => Bool.noConfusion (show false = true from hmd q)) noO_sound))) (by kernel_rfl) (m := 0) rfl ?_
  refine (impl_CostliestWord.sf k a.1 a.2.1 a.2.2.1 a.2.2.2.1 a.2.2.2.2).trans ?_
  exact congrArg (Option.map _) h
mutual
def spec_l4Words.l0 : Nat → (List ByteArray) → Int → Int → Int → Option (List ByteArray)
  | 0, _, _, _, _ => none
  | k + 1, y0, x4, x9, x10 => (if x10 < x9 then (if 0 ≤ x4 then (if x4 ≤ (y0.length : Int) then (if (y0.length : Int) ≤ (y0.length : Int) then (spec_l4Words.l1 k y0 (y0.length : Int) x9 x10 ((y0.drop x4.toNat).take (y0.length - x4.toNat)) (((y0.drop x4.toNat).take (y0.length - x4.toNat)).length : Int) 0) else none) else none) else none) else (some y0))
def spec_l4Words.l1 : Nat → (List ByteArray) → Int → Int → Int → (List ByteArray) → Int → Int → Option (List ByteArray)
  | 0, _, _, _, _, _, _, _ => none
  | k + 1, y0, x5, x9, x10, x17, x18, x19 => (if x19 < x18 then (if 0 ≤ x19 then (if x19 < (x17.length : Int) then (if (rdS x17 x19).size + 1 ≤ 9223372036854775807 then (if y0.length + [((rdS x17 x19) ++ (⟨#[97]⟩ : ByteArray)), ((rdS x17 x19) ++ (⟨#[98]⟩ : ByteArray))].length ≤ 8796093022208 then (spec_l4Words.l1 k (y0 ++ [((rdS x17 x19) ++ (⟨#[97]⟩ : ByteArray)), ((rdS x17 x19) ++ (⟨#[98]⟩ : ByteArray))]) x5 x9 x10 x17 x18 (wrap64 (x19 + 1))) else none) else none) else none) else none) else (spec_l4Words.l0 k y0 x5 x9 (wrap64 (x10 + 1))))
end
def spec_l4Words.f (k : Nat) (a0 : Int) : Option (List ByteArray) := (spec_l4Words.l0 k ([(⟨#[]⟩ : ByteArray)]) 0 a0 0)
def spec_l4Words.en (r : List ByteArray) : Res := (.imm (.S r), [])
def spec_l4Words.dec : List AV → List R.Obj → Option (Int)
  | [.int .i64 a0], [] => some a0
  | _, _ => none
def spec_l4Words.tw : Tw := ⟨27, Int, List ByteArray, spec_l4Words.dec, fun a => [.int .i64 a], fun a => [], fun k a => spec_l4Words.f k a, fun a r => spec_l4Words.en r, true⟩
theorem spec_l4Words.dok : spec_l4Words.tw.DecOk := by
  intro args hc a h
  have h : spec_l4Words.dec args hc = some a := h
  unfold spec_l4Words.dec at h
  split at h
  · cases h; exact ⟨rfl, rfl⟩
  · cases h
noncomputable def spec_l4Words.O (k : Nat) : Oracle := noO
def spec_l4Words.fh : FH := ⟨fun i => match i with | 4 => some [(3, 2), (4, 0), (9, 0), (10, 0)] | 7 => some [(3, 0), (5, 0), (9, 0), (10, 0), (17, 0), (18, 0), (19, 0)] | _ => none, [(false, 9)], false⟩
noncomputable def spec_l4Words.x0 (k : Nat) (y0 : List ByteArray) (x4 : Int) (x9 : Int) (x10 : Int) : Option Res := R.exec Try.prog xhn spec_l4Words.O 0 Try.f27 spec_l4Words.fh k (R.point Try.f27 4) ⟨[(3, .sl 0 0), (4, .int .i64 x4), (9, .int .i64 x9), (10, .int .i64 x10)], [(0, .arr 9 0 (.S y0) true)], 3⟩
noncomputable def spec_l4Words.x1 (k : Nat) (y0 : List ByteArray) (x5 : Int) (x9 : Int) (x10 : Int) (x17 : List ByteArray) (x18 : Int) (x19 : Int) : Option Res := R.exec Try.prog xhn spec_l4Words.O 0 Try.f27 spec_l4Words.fh k (R.point Try.f27 7) ⟨[(3, .sl 0 0), (5, .int .i64 x5), (9, .int .i64 x9), (10, .int .i64 x10), (17, .imm (.S x17)), (18, .int .i64 x18), (19, .int .i64 x19)], [(0, .arr 9 0 (.S y0) true)], 3⟩
set_option maxRecDepth 100000 in
theorem spec_l4Words.e0 (k : Nat) (y0 : List ByteArray) (x4 : Int) (x9 : Int) (x10 : Int) : spec_l4Words.x0 (k + 1) y0 x4 x9 x10 = (if x10 < x9 then (if 0 ≤ x4 then (if x4 ≤ (y0.length : Int) then (if (y0.length : Int) ≤ (y0.length : Int) then (spec_l4Words.x1 k y0 (y0.length : Int) x9 x10 ((y0.drop x4.toNat).take (y0.length - x4.toNat)) (((y0.drop x4.toNat).take (y0.length - x4.toNat)).length : Int) 0) else none) else none) else none) else (some (spec_l4Words.en y0))) := by kernel_rfl
set_option maxRecDepth 100000 in
theorem spec_l4Words.e1 (k : Nat) (y0 : List ByteArray) (x5 : Int) (x9 : Int) (x10 : Int) (x17 : List ByteArray) (x18 : Int) (x19 : Int) : spec_l4Words.x1 (k + 1) y0 x5 x9 x10 x17 x18 x19 = (if x19 < x18 then (if 0 ≤ x19 then (if x19 < (x17.length : Int) then (if (rdS x17 x19).size + 1 ≤ 9223372036854775807 then (if y0.length + [((rdS x17 x19) ++ (⟨#[97]⟩ : ByteArray)), ((rdS x17 x19) ++ (⟨#[98]⟩ : ByteArray))].length ≤ 8796093022208 then (spec_l4Words.x1 k (y0 ++ [((rdS x17 x19) ++ (⟨#[97]⟩ : ByteArray)), ((rdS x17 x19) ++ (⟨#[98]⟩ : ByteArray))]) x5 x9 x10 x17 x18 (wr64 (x19 + 1))) else none) else none) else none) else none) else (spec_l4Words.x0 k y0 x5 x9 (wr64 (x10 + 1)))) := by
  refine Eq.trans ?_ (R.icong (fun h0 => (R.icong (fun h1 => (R.icong (fun h2 => (R.icong (fun h3 => (R.idropT (p := (rdS x17 x19).size + 1 ≤ 9223372036854775807) (z := none) h3 rfl)) (fun h3 => rfl))) (fun h2 => rfl))) (fun h1 => rfl))) (fun h0 => rfl))
  kernel_rfl
set_option maxRecDepth 100000 in
theorem spec_l4Words.ef (k : Nat) (a0 : Int) : R.start Try.prog xhn spec_l4Words.O 0 Try.f27 spec_l4Words.fh k [.int .i64 a0] [] = (spec_l4Words.x0 k ([(⟨#[]⟩ : ByteArray)]) 0 a0 0) := by kernel_rfl
theorem spec_l4Words.link : ∀ k, (∀ (y0 : List ByteArray) (x4 : Int) (x9 : Int) (x10 : Int), spec_l4Words.x0 k y0 x4 x9 x10 = (spec_l4Words.l0 k y0 x4 x9 x10).map (spec_l4Words.en)) ∧ (∀ (y0 : List ByteArray) (x5 : Int) (x9 : Int) (x10 : Int) (x17 : List ByteArray) (x18 : Int) (x19 : Int), spec_l4Words.x1 k y0 x5 x9 x10 x17 x18 x19 = (spec_l4Words.l1 k y0 x5 x9 x10 x17 x18 x19).map (spec_l4Words.en))
  | 0 => ⟨fun _ _ _ _ => by simp only [spec_l4Words.l0, R.map_none]; rfl, fun _ _ _ _ _ _ _ => by simp only [spec_l4Words.l1, R.map_none]; rfl⟩
  | k + 1 => by
    obtain ⟨ih0, ih1⟩ := spec_l4Words.link k
    refine ⟨?_, ?_⟩
    · intro y0 x4 x9 x10
      rw [spec_l4Words.e0]
      simp only [spec_l4Words.l0, R.map_ite, R.map_bind, R.map_none, R.map_some, R.wr64_eq, ← ih0, ← ih1]
    · intro y0 x5 x9 x10 x17 x18 x19
      rw [spec_l4Words.e1]
      simp only [spec_l4Words.l1, R.map_ite, R.map_bind, R.map_none, R.map_some, R.wr64_eq, ← ih0, ← ih1]
theorem spec_l4Words.sf (k : Nat) (a0 : Int) : R.start Try.prog xhn spec_l4Words.O 0 Try.f27 spec_l4Words.fh k [.int .i64 a0] [] = (spec_l4Words.f k a0).map (spec_l4Words.en) := by
  obtain ⟨ih0, ih1⟩ := spec_l4Words.link k
  rw [spec_l4Words.ef]
  simp only [spec_l4Words.f, R.map_ite, R.map_bind, R.map_none, R.map_some, R.wr64_eq, ← ih0, ← ih1]
theorem spec_l4Words.ok (k : Nat) : spec_l4Words.tw.Ok Try.prog k := by
  intro md hmd a r h
  refine fn_ok (H := xhn) (fh := spec_l4Words.fh) (O := spec_l4Words.O) (k := k) Try.func27 (by kernel_rfl) (by kernel_rfl) (fun j _ => noO_sound) (by kernel_rfl) (m := 0) rfl ?_
  refine (spec_l4Words.sf k a).trans ?_
  exact congrArg (Option.map _) h
def spec_l2Unit.l0 : Nat → Int → Int → Int → Int → (List Int) → Option (Int × (List Int))
  | 0, _, _, _, _, _ => none
  | k + 1, x0, x9, x10, y1_0, y3 => (if x10 < x9 then (if x0 = 0 then none else (if (wrap64 (x10.tdiv x0)) = (x10.tmod x0) then (if y3.length < 17592186044416 then (spec_l2Unit.l0 k x0 x9 (wrap64 (x10 + 1)) y1_0 (y3 ++ [0])) else none) else (if y3.length < 17592186044416 then (spec_l2Unit.l0 k x0 x9 (wrap64 (x10 + 1)) y1_0 (y3 ++ [1000000])) else none))) else (some (y1_0, y3)))
def spec_l2Unit.f (k : Nat) (a0 : Int) : Option (Int × (List Int)) := (spec_l2Unit.l0 k a0 (wrap64 (a0 * a0)) 0 a0 ([] : List Int))
def spec_l2Unit.en (r : Int × (List Int)) : Res := (.agg [.int .i64 r.1, .sl 0 0], [.arr 3 0 (.I .i64 r.2) false])
def spec_l2Unit.dec : List AV → List R.Obj → Option (Int)
  | [.int .i64 a0], [] => some a0
  | _, _ => none
def spec_l2Unit.tw : Tw := ⟨81, Int, Int × (List Int), spec_l2Unit.dec, fun a => [.int .i64 a], fun a => [], fun k a => spec_l2Unit.f k a, fun a r => spec_l2Unit.en r, true⟩
theorem spec_l2Unit.dok : spec_l2Unit.tw.DecOk := by
  intro args hc a h
  have h : spec_l2Unit.dec args hc = some a := h
  unfold spec_l2Unit.dec at h
  split at h
  · cases h; exact ⟨rfl, rfl⟩
  · cases h
noncomputable def spec_l2Unit.O (k : Nat) : Oracle := noO
def spec_l2Unit.fh : FH := ⟨fun i => match i with | 3 => some [(0, 0), (2, 0), (3, 0), (9, 0), (10, 0)] | _ => none, [(true, 3)], false⟩
noncomputable def spec_l2Unit.x0 (k : Nat) (x0 : Int) (x9 : Int) (x10 : Int) (y1_0 : Int) (y3 : List Int) : Option Res := R.exec Try.prog xhn spec_l2Unit.O 0 Try.f81 spec_l2Unit.fh k (R.point Try.f81 3) ⟨[(0, .int .i64 x0), (2, .ptr 0 0), (3, .ptr 1 0), (9, .int .i64 x9), (10, .int .i64 x10)], [(0, .box false [.int .i64 0, .sl 2 0]), (1, .box false [.int .i64 y1_0, .sl 3 0]), (2, .arr 3 0 (.I .i64 ([] : List Int)) false), (3, .arr 3 0 (.I .i64 y3) false)], 6⟩
set_option maxRecDepth 100000 in
theorem spec_l2Unit.e0 (k : Nat) (x0 : Int) (x9 : Int) (x10 : Int) (y1_0 : Int) (y3 : List Int) : spec_l2Unit.x0 (k + 1) x0 x9 x10 y1_0 y3 = (if x10 < x9 then (if x0 = 0 then none else (if (wr64 (x10.tdiv x0)) = (x10.tmod x0) then (if y3.length < 17592186044416 then (spec_l2Unit.x0 k x0 x9 (wr64 (x10 + 1)) y1_0 (y3 ++ [0])) else none) else (if y3.length < 17592186044416 then (spec_l2Unit.x0 k x0 x9 (wr64 (x10 + 1)) y1_0 (y3 ++ [1000000])) else none))) else (some (spec_l2Unit.en (y1_0, y3)))) := by
  refine Eq.trans ?_ (R.icong (fun h0 => (R.icong (fun h1 => rfl) (fun h1 => (R.idropF (p := x0 = 0) (z := none) h1 rfl)))) (fun h0 => rfl))
  kernel_rfl
set_option maxRecDepth 100000 in
theorem spec_l2Unit.ef (k : Nat) (a0 : Int) : R.start Try.prog xhn spec_l2Unit.O 0 Try.f81 spec_l2Unit.fh k [.int .i64 a0] [] = (spec_l2Unit.x0 k a0 (wr64 (a0 * a0)) 0 a0 ([] : List Int)) := by kernel_rfl
theorem spec_l2Unit.link : ∀ k, (∀ (x0 : Int) (x9 : Int) (x10 : Int) (y1_0 : Int) (y3 : List Int), spec_l2Unit.x0 k x0 x9 x10 y1_0 y3 = (spec_l2Unit.l0 k x0 x9 x10 y1_0 y3).map (spec_l2Unit.en))
  | 0 => fun _ _ _ _ _ => by simp only [spec_l2Unit.l0, R.map_none]; rfl
  | k + 1 => by
    have ih0 := spec_l2Unit.link k
    · intro x0 x9 x10 y1_0 y3
      rw [spec_l2Unit.e0]
      simp only [spec_l2Unit.l0, R.map_ite, R.map_bind, R.map_none, R.map_some, R.wr64_eq, ← ih0]
theorem spec_l2Unit.sf (k : Nat) (a0 : Int) : R.start Try.prog xhn spec_l2Unit.O 0 Try.f81 spec_l2Unit.fh k [.int .i64 a0] [] = (spec_l2Unit.f k a0).map (spec_l2Unit.en) := by
  have ih0 := spec_l2Unit.link k
  rw [spec_l2Unit.ef]
  simp only [spec_l2Unit.f, R.map_ite, R.map_bind, R.map_none, R.map_some, R.wr64_eq, ← ih0]
theorem spec_l2Unit.ok (k : Nat) : spec_l2Unit.tw.Ok Try.prog k := by
  intro md hmd a r h
  refine fn_ok (H := xhn) (fh := spec_l2Unit.fh) (O := spec_l2Unit.O) (k := k) Try.func81 (by kernel_rfl) (by kernel_rfl) (fun j _ => noO_sound) (by kernel_rfl) (m := 0) rfl ?_
  refine (spec_l2Unit.sf k a).trans ?_
  exact congrArg (Option.map _) h
mutual
def spec_l3Matrix.l0 : Nat → ByteArray → Int → Int → Int → (List Int) → (List Int) → (List Stp) → Int → (List Int) → Option (Int × (List Int))
  | 0, _, _, _, _, _, _, _, _, _ => none
  | k + 1, x1, x15, x16, y0_0, y0_1, y0_2, y0_3, y2_0, y4 => (if x16 < x15 then (if y4.length < 17592186044416 then (spec_l3Matrix.l0 k x1 x15 (wrap64 (x16 + 1)) y0_0 y0_1 y0_2 y0_3 y2_0 (y4 ++ [1000000])) else none) else (spec_l3Matrix.l1 k x1 y0_3 (y0_3.length : Int) 0 y0_0 y0_1 y0_2 y0_3 y2_0 y4))
def spec_l3Matrix.l1 : Nat → ByteArray → (List Stp) → Int → Int → Int → (List Int) → (List Int) → (List Stp) → Int → (List Int) → Option (Int × (List Int))
  | 0, _, _, _, _, _, _, _, _, _, _ => none
  | k + 1, x1, x25, x26, x27, y0_0, y0_1, y0_2, y0_3, y2_0, y4 => (if x27 < x26 then (if 0 ≤ x27 then (if x27 < (x25.length : Int) then (if (rdT x25 x27).f1.toList = x1.toList then (if 0 ≤ (wrap64 ((wrap64 ((rdT x25 x27).f0 * y0_0)) + (rdT x25 x27).f2)) then (if (wrap64 ((wrap64 ((rdT x25 x27).f0 * y0_0)) + (rdT x25 x27).f2)) < (y4.length : Int) then (spec_l3Matrix.l1 k x1 x25 x26 (wrap64 (x27 + 1)) y0_0 y0_1 y0_2 y0_3 y2_0 (y4.set (wrap64 ((wrap64 ((rdT x25 x27).f0 * y0_0)) + (rdT x25 x27).f2)).toNat (rdT x25 x27).f3)) else none) else none) else (spec_l3Matrix.l1 k x1 x25 x26 (wrap64 (x27 + 1)) y0_0 y0_1 y0_2 y0_3 y2_0 y4)) else none) else none) else (some (y2_0, y4)))
end
def spec_l3Matrix.f (k : Nat) (a0_0 : Int) (l0_1 : List Int) (l0_2 : List Int) (l0_3 : List Stp) (a1 : ByteArray) : Option (Int × (List Int)) := (spec_l3Matrix.l0 k a1 (wrap64 (a0_0 * a0_0)) 0 a0_0 l0_1 l0_2 l0_3 a0_0 ([] : List Int))
def spec_l3Matrix.en (r : Int × (List Int)) : Res := (.agg [.int .i64 r.1, .sl 0 0], [.arr 3 0 (.I .i64 r.2) false])
def spec_l3Matrix.dec : List AV → List R.Obj → Option (Int × (List Int) × (List Int) × (List Stp) × ByteArray)
  | [.agg [.int .i64 a0_0, .imm (.I .i64 l0_1), .imm (.I .i64 l0_2), .imm (.T l0_3)], .str a1], [] => some (a0_0, l0_1, l0_2, l0_3, a1)
  | _, _ => none
def spec_l3Matrix.tw : Tw := ⟨82, Int × (List Int) × (List Int) × (List Stp) × ByteArray, Int × (List Int), spec_l3Matrix.dec, fun a => [.agg [.int .i64 a.1, .imm (.I .i64 a.2.1), .imm (.I .i64 a.2.2.1), .imm (.T a.2.2.2.1)], .str a.2.2.2.2], fun a => [], fun k a => spec_l3Matrix.f k a.1 a.2.1 a.2.2.1 a.2.2.2.1 a.2.2.2.2, fun a r => spec_l3Matrix.en r, true⟩
theorem spec_l3Matrix.dok : spec_l3Matrix.tw.DecOk := by
  intro args hc a h
  have h : spec_l3Matrix.dec args hc = some a := h
  unfold spec_l3Matrix.dec at h
  split at h
  · cases h; exact ⟨rfl, rfl⟩
  · cases h
noncomputable def spec_l3Matrix.O (k : Nat) : Oracle := noO
def spec_l3Matrix.fh : FH := ⟨fun i => match i with | 3 => some [(1, 0), (2, 0), (4, 0), (5, 0), (15, 0), (16, 0)] | 7 => some [(1, 0), (2, 0), (4, 0), (5, 0), (25, 0), (26, 0), (27, 0)] | _ => none, [(true, 3)], false⟩
noncomputable def spec_l3Matrix.x0 (k : Nat) (x1 : ByteArray) (x15 : Int) (x16 : Int) (y0_0 : Int) (y0_1 : List Int) (y0_2 : List Int) (y0_3 : List Stp) (y2_0 : Int) (y4 : List Int) : Option Res := R.exec Try.prog xhn spec_l3Matrix.O 0 Try.f82 spec_l3Matrix.fh k (R.point Try.f82 3) ⟨[(1, .str x1), (2, .ptr 0 0), (4, .ptr 1 0), (5, .ptr 2 0), (15, .int .i64 x15), (16, .int .i64 x16)], [(0, .box false [.int .i64 y0_0, .imm (.I .i64 y0_1), .imm (.I .i64 y0_2), .imm (.T y0_3)]), (1, .box false [.int .i64 0, .sl 3 0]), (2, .box false [.int .i64 y2_0, .sl 4 0]), (3, .arr 3 0 (.I .i64 ([] : List Int)) false), (4, .arr 3 0 (.I .i64 y4) false)], 7⟩
noncomputable def spec_l3Matrix.x1 (k : Nat) (x1 : ByteArray) (x25 : List Stp) (x26 : Int) (x27 : Int) (y0_0 : Int) (y0_1 : List Int) (y0_2 : List Int) (y0_3 : List Stp) (y2_0 : Int) (y4 : List Int) : Option Res := R.exec Try.prog xhn spec_l3Matrix.O 0 Try.f82 spec_l3Matrix.fh k (R.point Try.f82 7) ⟨[(1, .str x1), (2, .ptr 0 0), (4, .ptr 1 0), (5, .ptr 2 0), (25, .imm (.T x25)), (26, .int .i64 x26), (27, .int .i64 x27)], [(0, .box false [.int .i64 y0_0, .imm (.I .i64 y0_1), .imm (.I .i64 y0_2), .imm (.T y0_3)]), (1, .box false [.int .i64 0, .sl 3 0]), (2, .box false [.int .i64 y2_0, .sl 4 0]), (3, .arr 3 0 (.I .i64 ([] : List Int)) false), (4, .arr 3 0 (.I .i64 y4) false)], 7⟩
set_option maxRecDepth 100000 in
theorem spec_l3Matrix.e0 (k : Nat) (x1 : ByteArray) (x15 : Int) (x16 : Int) (y0_0 : Int) (y0_1 : List Int) (y0_2 : List Int) (y0_3 : List Stp) (y2_0 : Int) (y4 : List Int) : spec_l3Matrix.x0 (k + 1) x1 x15 x16 y0_0 y0_1 y0_2 y0_3 y2_0 y4 = (if x16 < x15 then (if y4.length < 17592186044416 then (spec_l3Matrix.x0 k x1 x15 (wr64 (x16 + 1)) y0_0 y0_1 y0_2 y0_3 y2_0 (y4 ++ [1000000])) else none) else (spec_l3Matrix.x1 k x1 y0_3 (y0_3.length : Int) 0 y0_0 y0_1 y0_2 y0_3 y2_0 y4)) := by kernel_rfl
set_option maxRecDepth 100000 in
theorem spec_l3Matrix.e1 (k : Nat) (x1 : ByteArray) (x25 : List Stp) (x26 : Int) (x27 : Int) (y0_0 : Int) (y0_1 : List Int) (y0_2 : List Int) (y0_3 : List Stp) (y2_0 : Int) (y4 : List Int) : spec_l3Matrix.x1 (k + 1) x1 x25 x26 x27 y0_0 y0_1 y0_2 y0_3 y2_0 y4 = (if x27 < x26 then (if 0 ≤ x27 then (if x27 < (x25.length : Int) then (if (rdT x25 x27).f1.toList = x1.toList then (if 0 ≤ (wr64 ((wr64 ((rdT x25 x27).f0 * y0_0)) + (rdT x25 x27).f2)) then (if (wr64 ((wr64 ((rdT x25 x27).f0 * y0_0)) + (rdT x25 x27).f2)) < (y4.length : Int) then (spec_l3Matrix.x1 k x1 x25 x26 (wr64 (x27 + 1)) y0_0 y0_1 y0_2 y0_3 y2_0 (y4.set (wr64 ((wr64 ((rdT x25 x27).f0 * y0_0)) + (rdT x25 x27).f2)).toNat (rdT x25 x27).f3)) else none) else none) else (spec_l3Matrix.x1 k x1 x25 x26 (wr64 (x27 + 1)) y0_0 y0_1 y0_2 y0_3 y2_0 y4)) else none) else none) else (some (spec_l3Matrix.en (y2_0, y4)))) := by kernel_rfl
set_option maxRecDepth 100000 in
theorem spec_l3Matrix.ef (k : Nat) (a0_0 : Int) (l0_1 : List Int) (l0_2 : List Int) (l0_3 : List Stp) (a1 : ByteArray) : R.start Try.prog xhn spec_l3Matrix.O 0 Try.f82 spec_l3Matrix.fh k [.agg [.int .i64 a0_0, .imm (.I .i64 l0_1), .imm (.I .i64 l0_2), .imm (.T l0_3)], .str a1] [] = (spec_l3Matrix.x0 k a1 (wr64 (a0_0 * a0_0)) 0 a0_0 l0_1 l0_2 l0_3 a0_0 ([] : List Int)) := by kernel_rfl
theorem spec_l3Matrix.link : ∀ k, (∀ (x1 : ByteArray) (x15 : Int) (x16 : Int) (y0_0 : Int) (y0_1 : List Int) (y0_2 : List Int) (y0_3 : List Stp) (y2_0 : Int) (y4 : List Int), spec_l3Matrix.x0 k x1 x15 x16 y0_0 y0_1 y0_2 y0_3 y2_0 y4 = (spec_l3Matrix.l0 k x1 x15 x16 y0_0 y0_1 y0_2 y0_3 y2_0 y4).map (spec_l3Matrix.en)) ∧ (∀ (x1 : ByteArray) (x25 : List Stp) (x26 : Int) (x27 : Int) (y0_0 : Int) (y0_1 : List Int) (y0_2 : List Int) (y0_3 : List Stp) (y2_0 : Int) (y4 : List Int), spec_l3Matrix.x1 k x1 x25 x26 x27 y0_0 y0_1 y0_2 y0_3 y2_0 y4 = (spec_l3Matrix.l1 k x1 x25 x26 x27 y0_0 y0_1 y0_2 y0_3 y2_0 y4).map (spec_l3Matrix.en))
  | 0 => ⟨fun _ _ _ _ _ _ _ _ _ => by simp only [spec_l3Matrix.l0, R.map_none]; rfl, fun _ _ _ _ _ _ _ _ _ _ => by simp only [spec_l3Matrix.l1, R.map_none]; rfl⟩
  | k + 1 => by
    obtain ⟨ih0, ih1⟩ := spec_l3Matrix.link k
    refine ⟨?_, ?_⟩
    · intro x1 x15 x16 y0_0 y0_1 y0_2 y0_3 y2_0 y4
      rw [spec_l3Matrix.e0]
      simp only [spec_l3Matrix.l0, R.map_ite, R.map_bind, R.map_none, R.map_some, R.wr64_eq, ← ih0, ← ih1]
    · intro x1 x25 x26 x27 y0_0 y0_1 y0_2 y0_3 y2_0 y4
      rw [spec_l3Matrix.e1]
      simp only [spec_l3Matrix.l1, R.map_ite, R.map_bind, R.map_none, R.map_some, R.wr64_eq, ← ih0, ← ih1]
theorem spec_l3Matrix.sf (k : Nat) (a0_0 : Int) (l0_1 : List Int) (l0_2 : List Int) (l0_3 : List Stp) (a1 : ByteArray) : R.start Try.prog xhn spec_l3Matrix.O 0 Try.f82 spec_l3Matrix.fh k [.agg [.int .i64 a0_0, .imm (.I .i64 l0_1), .imm (.I .i64 l0_2), .imm (.T l0_3)], .str a1] [] = (spec_l3Matrix.f k a0_0 l0_1 l0_2 l0_3 a1).map (spec_l3Matrix.en) := by
  obtain ⟨ih0, ih1⟩ := spec_l3Matrix.link k
  rw [spec_l3Matrix.ef]
  simp only [spec_l3Matrix.f, R.map_ite, R.map_bind, R.map_none, R.map_some, R.wr64_eq, ← ih0, ← ih1]
theorem spec_l3Matrix.ok (k : Nat) : spec_l3Matrix.tw.Ok Try.prog k := by
  intro md hmd a r h
  refine fn_ok (H := xhn) (fh := spec_l3Matrix.fh) (O := spec_l3Matrix.O) (k := k) Try.func82 (by kernel_rfl) (by kernel_rfl) (fun j _ => noO_sound) (by kernel_rfl) (m := 0) rfl ?_
  refine (spec_l3Matrix.sf k a.1 a.2.1 a.2.2.1 a.2.2.2.1 a.2.2.2.2).trans ?_
  exact congrArg (Option.map _) h
def spec_l1Add.f (a0 : Int) (a1 : Int) : Option (Int) := (some (mn (wrap64 (a0 + a1)) 1000000))
def spec_l1Add.en (r : Int) : Res := (.int .i64 r, [])
def spec_l1Add.dec : List AV → List R.Obj → Option (Int × Int)
  | [.int .i64 a0, .int .i64 a1], [] => some (a0, a1)
  | _, _ => none
def spec_l1Add.tw : Tw := ⟨104, Int × Int, Int, spec_l1Add.dec, fun a => [.int .i64 a.1, .int .i64 a.2], fun a => [], fun k a => spec_l1Add.f a.1 a.2, fun a r => spec_l1Add.en r, true⟩
theorem spec_l1Add.dok : spec_l1Add.tw.DecOk := by
  intro args hc a h
  have h : spec_l1Add.dec args hc = some a := h
  unfold spec_l1Add.dec at h
  split at h
  · cases h; exact ⟨rfl, rfl⟩
  · cases h
noncomputable def spec_l1Add.O (k : Nat) : Oracle := noO
def spec_l1Add.fh : FH := ⟨fun i => match i with | _ => none, [], false⟩
set_option maxRecDepth 100000 in
theorem spec_l1Add.ef (k : Nat) (a0 : Int) (a1 : Int) : R.start Try.prog xhn spec_l1Add.O 0 Try.f104 spec_l1Add.fh k [.int .i64 a0, .int .i64 a1] [] = (some (spec_l1Add.en (mn (wr64 (a0 + a1)) 1000000))) := by kernel_rfl
theorem spec_l1Add.sf (k : Nat) (a0 : Int) (a1 : Int) : R.start Try.prog xhn spec_l1Add.O 0 Try.f104 spec_l1Add.fh k [.int .i64 a0, .int .i64 a1] [] = (spec_l1Add.f a0 a1).map (spec_l1Add.en) := by
  rw [spec_l1Add.ef]
  simp only [spec_l1Add.f, R.map_ite, R.map_bind, R.map_none, R.map_some, R.wr64_eq]
theorem spec_l1Add.ok (k : Nat) : spec_l1Add.tw.Ok Try.prog k := by
  intro md hmd a r h
  refine fn_ok (H := xhn) (fh := spec_l1Add.fh) (O := spec_l1Add.O) (k := k) Try.func104 (by kernel_rfl) (by kernel_rfl) (fun j _ => noO_sound) (by kernel_rfl) (m := 0) rfl ?_
  refine (spec_l1Add.sf k a.1 a.2).trans ?_
  exact congrArg (Option.map _) h
mutual
def spec_l2Mul.l0 : Nat → Int → Int → Int → (List Int) → Int → (List Int) → Int → (List Int) → Option (Int × (List Int))
  | 0, _, _, _, _, _, _, _, _ => none
  | k + 1, x18, x19, y0_0, y0_1, y1_0, y1_1, y3_0, y5 => (if x19 < x18 then (if y0_0 = 0 then none else (spec_l2Mul.l1 k (wrap64 (x19.tdiv y0_0)) (x19.tmod y0_0) 1000000 x18 x19 y0_0 0 y0_0 y0_1 y1_0 y1_1 y3_0 y5)) else (some (y3_0, y5)))
def spec_l2Mul.l1 : Nat → Int → Int → Int → Int → Int → Int → Int → Int → (List Int) → Int → (List Int) → Int → (List Int) → Option (Int × (List Int))
  | 0, _, _, _, _, _, _, _, _, _, _, _, _, _ => none
  | k + 1, x7, x8, x9, x18, x19, x31, x32, y0_0, y0_1, y1_0, y1_1, y3_0, y5 => (if x32 < x31 then (if 0 ≤ (wrap64 ((wrap64 (x7 * y0_0)) + x32)) then (if (wrap64 ((wrap64 (x7 * y0_0)) + x32)) < (y0_1.length : Int) then (if 0 ≤ (wrap64 ((wrap64 (x32 * y0_0)) + x8)) then (if (wrap64 ((wrap64 (x32 * y0_0)) + x8)) < (y1_1.length : Int) then ((spec_l1Add.f (rdI y0_1 (wrap64 ((wrap64 (x7 * y0_0)) + x32))) (rdI y1_1 (wrap64 ((wrap64 (x32 * y0_0)) + x8)))).bind fun t1 => (spec_l2Mul.l1 k x7 x8 (mn x9 t1) x18 x19 x31 (wrap64 (x32 + 1)) y0_0 y0_1 y1_0 y1_1 y3_0 y5)) else none) else none) else none) else none) else (if y5.length < 17592186044416 then (spec_l2Mul.l0 k x18 (wrap64 (x19 + 1)) y0_0 y0_1 y1_0 y1_1 y3_0 (y5 ++ [x9])) else none))
end
def spec_l2Mul.f (k : Nat) (a0_0 : Int) (l0_1 : List Int) (a1_0 : Int) (l1_1 : List Int) : Option (Int × (List Int)) := (spec_l2Mul.l0 k (wrap64 (a0_0 * a0_0)) 0 a0_0 l0_1 a1_0 l1_1 a0_0 ([] : List Int))
def spec_l2Mul.en (r : Int × (List Int)) : Res := (.agg [.int .i64 r.1, .sl 0 0], [.arr 3 0 (.I .i64 r.2) false])
def spec_l2Mul.dec : List AV → List R.Obj → Option (Int × (List Int) × Int × (List Int))
  | [.agg [.int .i64 a0_0, .imm (.I .i64 l0_1)], .agg [.int .i64 a1_0, .imm (.I .i64 l1_1)]], [] => some (a0_0, l0_1, a1_0, l1_1)
  | _, _ => none
def spec_l2Mul.tw : Tw := ⟨83, Int × (List Int) × Int × (List Int), Int × (List Int), spec_l2Mul.dec, fun a => [.agg [.int .i64 a.1, .imm (.I .i64 a.2.1)], .agg [.int .i64 a.2.2.1, .imm (.I .i64 a.2.2.2)]], fun a => [], fun k a => spec_l2Mul.f k a.1 a.2.1 a.2.2.1 a.2.2.2, fun a r => spec_l2Mul.en r, true⟩
theorem spec_l2Mul.dok : spec_l2Mul.tw.DecOk := by
  intro args hc a h
  have h : spec_l2Mul.dec args hc = some a := h
  unfold spec_l2Mul.dec at h
  split at h
  · cases h; exact ⟨rfl, rfl⟩
  · cases h
noncomputable def spec_l2Mul.O (k : Nat) : Oracle := (spec_l1Add.tw.orc k noO)
def spec_l2Mul.fh : FH := ⟨fun i => match i with | 3 => some [(2, 0), (3, 0), (4, 0), (5, 0), (18, 0), (19, 0)] | 8 => some [(2, 0), (3, 0), (4, 0), (5, 0), (7, 0), (8, 0), (9, 0), (18, 0), (19, 0), (31, 0), (32, 0)] | _ => none, [(true, 3)], false⟩
noncomputable def spec_l2Mul.x0 (k : Nat) (x18 : Int) (x19 : Int) (y0_0 : Int) (y0_1 : List Int) (y1_0 : Int) (y1_1 : List Int) (y3_0 : Int) (y5 : List Int) : Option Res := R.exec Try.prog xhn spec_l2Mul.O 0 Try.f83 spec_l2Mul.fh k (R.point Try.f83 3) ⟨[(2, .ptr 0 0), (3, .ptr 1 0), (4, .ptr 2 0), (5, .ptr 3 0), (18, .int .i64 x18), (19, .int .i64 x19)], [(0, .box false [.int .i64 y0_0, .imm (.I .i64 y0_1)]), (1, .box false [.int .i64 y1_0, .imm (.I .i64 y1_1)]), (2, .box false [.int .i64 0, .sl 4 0]), (3, .box false [.int .i64 y3_0, .sl 5 0]), (4, .arr 3 0 (.I .i64 ([] : List Int)) false), (5, .arr 3 0 (.I .i64 y5) false)], 8⟩
noncomputable def spec_l2Mul.x1 (k : Nat) (x7 : Int) (x8 : Int) (x9 : Int) (x18 : Int) (x19 : Int) (x31 : Int) (x32 : Int) (y0_0 : Int) (y0_1 : List Int) (y1_0 : Int) (y1_1 : List Int) (y3_0 : Int) (y5 : List Int) : Option Res := R.exec Try.prog xhn spec_l2Mul.O 0 Try.f83 spec_l2Mul.fh k (R.point Try.f83 8) ⟨[(2, .ptr 0 0), (3, .ptr 1 0), (4, .ptr 2 0), (5, .ptr 3 0), (7, .int .i64 x7), (8, .int .i64 x8), (9, .int .i64 x9), (18, .int .i64 x18), (19, .int .i64 x19), (31, .int .i64 x31), (32, .int .i64 x32)], [(0, .box false [.int .i64 y0_0, .imm (.I .i64 y0_1)]), (1, .box false [.int .i64 y1_0, .imm (.I .i64 y1_1)]), (2, .box false [.int .i64 0, .sl 4 0]), (3, .box false [.int .i64 y3_0, .sl 5 0]), (4, .arr 3 0 (.I .i64 ([] : List Int)) false), (5, .arr 3 0 (.I .i64 y5) false)], 8⟩
set_option maxRecDepth 100000 in
theorem spec_l2Mul.e0 (k : Nat) (x18 : Int) (x19 : Int) (y0_0 : Int) (y0_1 : List Int) (y1_0 : Int) (y1_1 : List Int) (y3_0 : Int) (y5 : List Int) : spec_l2Mul.x0 (k + 1) x18 x19 y0_0 y0_1 y1_0 y1_1 y3_0 y5 = (if x19 < x18 then (if y0_0 = 0 then none else (spec_l2Mul.x1 k (wr64 (x19.tdiv y0_0)) (x19.tmod y0_0) 1000000 x18 x19 y0_0 0 y0_0 y0_1 y1_0 y1_1 y3_0 y5)) else (some (spec_l2Mul.en (y3_0, y5)))) := by
  refine Eq.trans ?_ (R.icong (fun h0 => (R.icong (fun h1 => rfl) (fun h1 => (R.idropF (p := y0_0 = 0) (z := none) h1 rfl)))) (fun h0 => rfl))
  kernel_rfl
set_option maxRecDepth 100000 in
theorem spec_l2Mul.e1 (k : Nat) (x7 : Int) (x8 : Int) (x9 : Int) (x18 : Int) (x19 : Int) (x31 : Int) (x32 : Int) (y0_0 : Int) (y0_1 : List Int) (y1_0 : Int) (y1_1 : List Int) (y3_0 : Int) (y5 : List Int) : spec_l2Mul.x1 (k + 1) x7 x8 x9 x18 x19 x31 x32 y0_0 y0_1 y1_0 y1_1 y3_0 y5 = (if x32 < x31 then (if 0 ≤ (wr64 ((wr64 (x7 * y0_0)) + x32)) then (if (wr64 ((wr64 (x7 * y0_0)) + x32)) < (y0_1.length : Int) then (if 0 ≤ (wr64 ((wr64 (x32 * y0_0)) + x8)) then (if (wr64 ((wr64 (x32 * y0_0)) + x8)) < (y1_1.length : Int) then ((spec_l1Add.f (rdI y0_1 (wr64 ((wr64 (x7 * y0_0)) + x32))) (rdI y1_1 (wr64 ((wr64 (x32 * y0_0)) + x8)))).bind fun t1 => (spec_l2Mul.x1 k x7 x8 (mn x9 t1) x18 x19 x31 (wr64 (x32 + 1)) y0_0 y0_1 y1_0 y1_1 y3_0 y5)) else none) else none) else none) else none) else (if y5.length < 17592186044416 then (spec_l2Mul.x0 k x18 (wr64 (x19 + 1)) y0_0 y0_1 y1_0 y1_1 y3_0 (y5 ++ [x9])) else none)) := by kernel_rfl
set_option maxRecDepth 100000 in
theorem spec_l2Mul.ef (k : Nat) (a0_0 : Int) (l0_1 : List Int) (a1_0 : Int) (l1_1 : List Int) : R.start Try.prog xhn spec_l2Mul.O 0 Try.f83 spec_l2Mul.fh k [.agg [.int .i64 a0_0, .imm (.I .i64 l0_1)], .agg [.int .i64 a1_0, .imm (.I .i64 l1_1)]] [] = (spec_l2Mul.x0 k (wr64 (a0_0 * a0_0)) 0 a0_0 l0_1 a1_0 l1_1 a0_0 ([] : List Int)) := by kernel_rfl
theorem spec_l2Mul.link : ∀ k, (∀ (x18 : Int) (x19 : Int) (y0_0 : Int) (y0_1 : List Int) (y1_0 : Int) (y1_1 : List Int) (y3_0 : Int) (y5 : List Int), spec_l2Mul.x0 k x18 x19 y0_0 y0_1 y1_0 y1_1 y3_0 y5 = (spec_l2Mul.l0 k x18 x19 y0_0 y0_1 y1_0 y1_1 y3_0 y5).map (spec_l2Mul.en)) ∧ (∀ (x7 : Int) (x8 : Int) (x9 : Int) (x18 : Int) (x19 : Int) (x31 : Int) (x32 : Int) (y0_0 : Int) (y0_1 : List Int) (y1_0 : Int) (y1_1 : List Int) (y3_0 : Int) (y5 : List Int), spec_l2Mul.x1 k x7 x8 x9 x18 x19 x31 x32 y0_0 y0_1 y1_0 y1_1 y3_0 y5 = (spec_l2Mul.l1 k x7 x8 x9 x18 x19 x31 x32 y0_0 y0_1 y1_0 y1_1 y3_0 y5).map (spec_l2Mul.en))
  | 0 => ⟨fun _ _ _ _ _ _ _ _ => by simp only [spec_l2Mul.l0, R.map_none]; rfl, fun _ _ _ _ _ _ _ _ _ _ _ _ _ => by simp only [spec_l2Mul.l1, R.map_none]; rfl⟩
  | k + 1 => by
    obtain ⟨ih0, ih1⟩ := spec_l2Mul.link k
    refine ⟨?_, ?_⟩
    · intro x18 x19 y0_0 y0_1 y1_0 y1_1 y3_0 y5
      rw [spec_l2Mul.e0]
      simp only [spec_l2Mul.l0, R.map_ite, R.map_bind, R.map_none, R.map_some, R.wr64_eq, ← ih0, ← ih1]
    · intro x7 x8 x9 x18 x19 x31 x32 y0_0 y0_1 y1_0 y1_1 y3_0 y5
      rw [spec_l2Mul.e1]
      simp only [spec_l2Mul.l1, R.map_ite, R.map_bind, R.map_none, R.map_some, R.wr64_eq, ← ih0, ← ih1]
theorem spec_l2Mul.sf (k : Nat) (a0_0 : Int) (l0_1 : List Int) (a1_0 : Int) (l1_1 : List Int) : R.start Try.prog xhn spec_l2Mul.O 0 Try.f83 spec_l2Mul.fh k [.agg [.int .i64 a0_0, .imm (.I .i64 l0_1)], .agg [.int .i64 a1_0, .imm (.I .i64 l1_1)]] [] = (spec_l2Mul.f k a0_0 l0_1 a1_0 l1_1).map (spec_l2Mul.en) := by
  obtain ⟨ih0, ih1⟩ := spec_l2Mul.link k
  rw [spec_l2Mul.ef]
  simp only [spec_l2Mul.f, R.map_ite, R.map_bind, R.map_none, R.map_some, R.wr64_eq, ← ih0, ← ih1]
theorem spec_l2Mul.ok (k : Nat) : spec_l2Mul.tw.Ok Try.prog k := by
  intro md hmd a r h
  refine fn_ok (H := xhn) (fh := spec_l2Mul.fh) (O := spec_l2Mul.O) (k := k) Try.func83 (by kernel_rfl) (by kernel_rfl) (fun j _ => (Tw.orc_sound spec_l1Add.dok (spec_l1Add.ok j) (fun _ => rfl) noO_sound)) (by kernel_rfl) (m := 0) rfl ?_
  refine (spec_l2Mul.sf k a.1 a.2.1 a.2.2.1 a.2.2.2).trans ?_
  exact congrArg (Option.map _) h
def spec_l4Matrix.l0 : Nat → ByteArray → Int → Int → Int → (List Int) → Int → (List Int) → Int → (List Int) → Option (Int × (List Int))
  | 0, _, _, _, _, _, _, _, _, _ => none
  | k + 1, x1, x17, x18, y1_0, y5, y2_0, y6, y3_0, y7 => (if x18 < x17 then (if 0 ≤ x18 then (if x18 < (x1.size : Int) then (if (btI x1 x18) = 97 then ((spec_l2Mul.f k y1_0 y5 y2_0 y6).bind fun t4 => (spec_l4Matrix.l0 k x1 x17 (wrap64 (x18 + 1)) t4.1 t4.2 y2_0 y6 y3_0 y7)) else ((spec_l2Mul.f k y1_0 y5 y3_0 y7).bind fun t5 => (spec_l4Matrix.l0 k x1 x17 (wrap64 (x18 + 1)) t5.1 t5.2 y2_0 y6 y3_0 y7))) else none) else none) else (some (y1_0, y5)))
def spec_l4Matrix.f (k : Nat) (a0_0 : Int) (l0_1 : List Int) (l0_2 : List Int) (l0_3 : List Stp) (a1 : ByteArray) : Option (Int × (List Int)) := ((spec_l2Unit.f k a0_0).bind fun t1 => ((spec_l3Matrix.f k a0_0 l0_1 l0_2 l0_3 (⟨#[97]⟩ : ByteArray)).bind fun t2 => ((spec_l3Matrix.f k a0_0 l0_1 l0_2 l0_3 (⟨#[98]⟩ : ByteArray)).bind fun t3 => (spec_l4Matrix.l0 k a1 (a1.size : Int) 0 t1.1 t1.2 t2.1 t2.2 t3.1 t3.2))))
def spec_l4Matrix.en (r : Int × (List Int)) : Res := (.agg [.int .i64 r.1, .sl 0 0], [.arr 3 0 (.I .i64 r.2) false])
def spec_l4Matrix.dec : List AV → List R.Obj → Option (Int × (List Int) × (List Int) × (List Stp) × ByteArray)
  | [.agg [.int .i64 a0_0, .imm (.I .i64 l0_1), .imm (.I .i64 l0_2), .imm (.T l0_3)], .str a1], [] => some (a0_0, l0_1, l0_2, l0_3, a1)
  | _, _ => none
def spec_l4Matrix.tw : Tw := ⟨57, Int × (List Int) × (List Int) × (List Stp) × ByteArray, Int × (List Int), spec_l4Matrix.dec, fun a => [.agg [.int .i64 a.1, .imm (.I .i64 a.2.1), .imm (.I .i64 a.2.2.1), .imm (.T a.2.2.2.1)], .str a.2.2.2.2], fun a => [], fun k a => spec_l4Matrix.f k a.1 a.2.1 a.2.2.1 a.2.2.2.1 a.2.2.2.2, fun a r => spec_l4Matrix.en r, true⟩
theorem spec_l4Matrix.dok : spec_l4Matrix.tw.DecOk := by
  intro args hc a h
  have h : spec_l4Matrix.dec args hc = some a := h
  unfold spec_l4Matrix.dec at h
  split at h
  · cases h; exact ⟨rfl, rfl⟩
  · cases h
noncomputable def spec_l4Matrix.O (k : Nat) : Oracle := (spec_l2Unit.tw.orc k (spec_l3Matrix.tw.orc k (spec_l2Mul.tw.orc k noO)))
def spec_l4Matrix.fh : FH := ⟨fun i => match i with | 4 => some [(1, 0), (4, 0), (5, 0), (6, 0), (7, 0), (17, 0), (18, 0)] | _ => none, [(true, 3)], false⟩
noncomputable def spec_l4Matrix.x0 (k : Nat) (x1 : ByteArray) (x17 : Int) (x18 : Int) (y1_0 : Int) (y5 : List Int) (y2_0 : Int) (y6 : List Int) (y3_0 : Int) (y7 : List Int) : Option Res := R.exec Try.prog xhn spec_l4Matrix.O 0 Try.f57 spec_l4Matrix.fh k (R.point Try.f57 4) ⟨[(1, .str x1), (4, .ptr 0 0), (5, .ptr 1 0), (6, .ptr 2 0), (7, .ptr 3 0), (17, .int .i64 x17), (18, .int .i64 x18)], [(0, .box false [.int .i64 0, .sl 4 0]), (1, .box false [.int .i64 y1_0, .sl 5 0]), (2, .box false [.int .i64 y2_0, .sl 6 0]), (3, .box false [.int .i64 y3_0, .sl 7 0]), (4, .arr 3 0 (.I .i64 ([] : List Int)) false), (5, .arr 3 0 (.I .i64 y5) false), (6, .arr 3 0 (.I .i64 y6) false), (7, .arr 3 0 (.I .i64 y7) false)], 10⟩
set_option maxRecDepth 100000 in
theorem spec_l4Matrix.e0 (k : Nat) (x1 : ByteArray) (x17 : Int) (x18 : Int) (y1_0 : Int) (y5 : List Int) (y2_0 : Int) (y6 : List Int) (y3_0 : Int) (y7 : List Int) : spec_l4Matrix.x0 (k + 1) x1 x17 x18 y1_0 y5 y2_0 y6 y3_0 y7 = (if x18 < x17 then (if 0 ≤ x18 then (if x18 < (x1.size : Int) then (if (btI x1 x18) = 97 then ((spec_l2Mul.f k y1_0 y5 y2_0 y6).bind fun t4 => (spec_l4Matrix.x0 k x1 x17 (wr64 (x18 + 1)) t4.1 t4.2 y2_0 y6 y3_0 y7)) else ((spec_l2Mul.f k y1_0 y5 y3_0 y7).bind fun t5 => (spec_l4Matrix.x0 k x1 x17 (wr64 (x18 + 1)) t5.1 t5.2 y2_0 y6 y3_0 y7))) else none) else none) else (some (spec_l4Matrix.en (y1_0, y5)))) := by kernel_rfl
set_option maxRecDepth 100000 in
theorem spec_l4Matrix.ef (k : Nat) (a0_0 : Int) (l0_1 : List Int) (l0_2 : List Int) (l0_3 : List Stp) (a1 : ByteArray) : R.start Try.prog xhn spec_l4Matrix.O 0 Try.f57 spec_l4Matrix.fh k [.agg [.int .i64 a0_0, .imm (.I .i64 l0_1), .imm (.I .i64 l0_2), .imm (.T l0_3)], .str a1] [] = ((spec_l2Unit.f k a0_0).bind fun t1 => ((spec_l3Matrix.f k a0_0 l0_1 l0_2 l0_3 (⟨#[97]⟩ : ByteArray)).bind fun t2 => ((spec_l3Matrix.f k a0_0 l0_1 l0_2 l0_3 (⟨#[98]⟩ : ByteArray)).bind fun t3 => (spec_l4Matrix.x0 k a1 (a1.size : Int) 0 t1.1 t1.2 t2.1 t2.2 t3.1 t3.2)))) := by kernel_rfl
theorem spec_l4Matrix.link : ∀ k, (∀ (x1 : ByteArray) (x17 : Int) (x18 : Int) (y1_0 : Int) (y5 : List Int) (y2_0 : Int) (y6 : List Int) (y3_0 : Int) (y7 : List Int), spec_l4Matrix.x0 k x1 x17 x18 y1_0 y5 y2_0 y6 y3_0 y7 = (spec_l4Matrix.l0 k x1 x17 x18 y1_0 y5 y2_0 y6 y3_0 y7).map (spec_l4Matrix.en))
  | 0 => fun _ _ _ _ _ _ _ _ _ => by simp only [spec_l4Matrix.l0, R.map_none]; rfl
  | k + 1 => by
    have ih0 := spec_l4Matrix.link k
    · intro x1 x17 x18 y1_0 y5 y2_0 y6 y3_0 y7
      rw [spec_l4Matrix.e0]
      simp only [spec_l4Matrix.l0, R.map_ite, R.map_bind, R.map_none, R.map_some, R.wr64_eq, ← ih0]
theorem spec_l4Matrix.sf (k : Nat) (a0_0 : Int) (l0_1 : List Int) (l0_2 : List Int) (l0_3 : List Stp) (a1 : ByteArray) : R.start Try.prog xhn spec_l4Matrix.O 0 Try.f57 spec_l4Matrix.fh k [.agg [.int .i64 a0_0, .imm (.I .i64 l0_1), .imm (.I .i64 l0_2), .imm (.T l0_3)], .str a1] [] = (spec_l4Matrix.f k a0_0 l0_1 l0_2 l0_3 a1).map (spec_l4Matrix.en) := by
  have ih0 := spec_l4Matrix.link k
  rw [spec_l4Matrix.ef]
  simp only [spec_l4Matrix.f, R.map_ite, R.map_bind, R.map_none, R.map_some, R.wr64_eq, ← ih0]
theorem spec_l4Matrix.ok (k : Nat) : spec_l4Matrix.tw.Ok Try.prog k := by
  intro md hmd a r h
  refine fn_ok (H := xhn) (fh := spec_l4Matrix.fh) (O := spec_l4Matrix.O) (k := k) Try.func57 (by kernel_rfl) (by kernel_rfl) (fun j _ => (Tw.orc_sound spec_l2Unit.dok (spec_l2Unit.ok j) (fun _ => rfl) (Tw.orc_sound spec_l3Matrix.dok (spec_l3Matrix.ok j) (fun _ => rfl) (Tw.orc_sound spec_l2Mul.dok (spec_l2Mul.ok j) (fun _ => rfl) noO_sound)))) (by kernel_rfl) (m := 0) rfl ?_
  refine (spec_l4Matrix.sf k a.1 a.2.1 a.2.2.1 a.2.2.2.1 a.2.2.2.2).trans ?_
  exact congrArg (Option.map _) h
mutual
def spec_l4Least.l0 : Nat → Int → (List Int) → Int → Int → Int → (List Int) → (List Int) → (List Stp) → Int → (List Int) → Option (Int)
  | 0, _, _, _, _, _, _, _, _, _, _ => none
  | k + 1, x5, x11, x12, x13, y0_0, y0_1, y0_2, y0_3, y1_0, y1_1 => (if x13 < x12 then (if 0 ≤ x13 then (if x13 < (x11.length : Int) then (spec_l4Least.l1 k x5 (rdI x11 x13) x11 x12 x13 y0_2 (y0_2.length : Int) 0 y0_0 y0_1 y0_2 y0_3 y1_0 y1_1) else none) else none) else (some x5))
def spec_l4Least.l1 : Nat → Int → Int → (List Int) → Int → Int → (List Int) → Int → Int → Int → (List Int) → (List Int) → (List Stp) → Int → (List Int) → Option (Int)
  | 0, _, _, _, _, _, _, _, _, _, _, _, _, _, _ => none
  | k + 1, x5, x7, x11, x12, x13, x18, x19, x20, y0_0, y0_1, y0_2, y0_3, y1_0, y1_1 => (if x20 < x19 then (if 0 ≤ x20 then (if x20 < (x18.length : Int) then (if 0 ≤ (wrap64 ((wrap64 (x7 * y0_0)) + (rdI x18 x20))) then (if (wrap64 ((wrap64 (x7 * y0_0)) + (rdI x18 x20))) < (y1_1.length : Int) then (spec_l4Least.l1 k (mn x5 (rdI y1_1 (wrap64 ((wrap64 (x7 * y0_0)) + (rdI x18 x20))))) x7 x11 x12 x13 x18 x19 (wrap64 (x20 + 1)) y0_0 y0_1 y0_2 y0_3 y1_0 y1_1) else none) else none) else none) else none) else (spec_l4Least.l0 k x5 x11 x12 (wrap64 (x13 + 1)) y0_0 y0_1 y0_2 y0_3 y1_0 y1_1))
end
def spec_l4Least.f (k : Nat) (a0_0 : Int) (l0_1 : List Int) (l0_2 : List Int) (l0_3 : List Stp) (a1_0 : Int) (l1_1 : List Int) : Option (Int) := (spec_l4Least.l0 k 1000000 l0_1 (l0_1.length : Int) 0 a0_0 l0_1 l0_2 l0_3 a1_0 l1_1)
def spec_l4Least.en (r : Int) : Res := (.int .i64 r, [])
def spec_l4Least.dec : List AV → List R.Obj → Option (Int × (List Int) × (List Int) × (List Stp) × Int × (List Int))
  | [.agg [.int .i64 a0_0, .imm (.I .i64 l0_1), .imm (.I .i64 l0_2), .imm (.T l0_3)], .agg [.int .i64 a1_0, .imm (.I .i64 l1_1)]], [] => some (a0_0, l0_1, l0_2, l0_3, a1_0, l1_1)
  | _, _ => none
def spec_l4Least.tw : Tw := ⟨56, Int × (List Int) × (List Int) × (List Stp) × Int × (List Int), Int, spec_l4Least.dec, fun a => [.agg [.int .i64 a.1, .imm (.I .i64 a.2.1), .imm (.I .i64 a.2.2.1), .imm (.T a.2.2.2.1)], .agg [.int .i64 a.2.2.2.2.1, .imm (.I .i64 a.2.2.2.2.2)]], fun a => [], fun k a => spec_l4Least.f k a.1 a.2.1 a.2.2.1 a.2.2.2.1 a.2.2.2.2.1 a.2.2.2.2.2, fun a r => spec_l4Least.en r, true⟩
theorem spec_l4Least.dok : spec_l4Least.tw.DecOk := by
  intro args hc a h
  have h : spec_l4Least.dec args hc = some a := h
  unfold spec_l4Least.dec at h
  split at h
  · cases h; exact ⟨rfl, rfl⟩
  · cases h
noncomputable def spec_l4Least.O (k : Nat) : Oracle := noO
def spec_l4Least.fh : FH := ⟨fun i => match i with | 3 => some [(2, 0), (3, 0), (5, 0), (11, 0), (12, 0), (13, 0)] | 6 => some [(2, 0), (3, 0), (5, 0), (7, 0), (11, 0), (12, 0), (13, 0), (18, 0), (19, 0), (20, 0)] | _ => none, [], false⟩
noncomputable def spec_l4Least.x0 (k : Nat) (x5 : Int) (x11 : List Int) (x12 : Int) (x13 : Int) (y0_0 : Int) (y0_1 : List Int) (y0_2 : List Int) (y0_3 : List Stp) (y1_0 : Int) (y1_1 : List Int) : Option Res := R.exec Try.prog xhn spec_l4Least.O 0 Try.f56 spec_l4Least.fh k (R.point Try.f56 3) ⟨[(2, .ptr 0 0), (3, .ptr 1 0), (5, .int .i64 x5), (11, .imm (.I .i64 x11)), (12, .int .i64 x12), (13, .int .i64 x13)], [(0, .box false [.int .i64 y0_0, .imm (.I .i64 y0_1), .imm (.I .i64 y0_2), .imm (.T y0_3)]), (1, .box false [.int .i64 y1_0, .imm (.I .i64 y1_1)])], 4⟩
noncomputable def spec_l4Least.x1 (k : Nat) (x5 : Int) (x7 : Int) (x11 : List Int) (x12 : Int) (x13 : Int) (x18 : List Int) (x19 : Int) (x20 : Int) (y0_0 : Int) (y0_1 : List Int) (y0_2 : List Int) (y0_3 : List Stp) (y1_0 : Int) (y1_1 : List Int) : Option Res := R.exec Try.prog xhn spec_l4Least.O 0 Try.f56 spec_l4Least.fh k (R.point Try.f56 6) ⟨[(2, .ptr 0 0), (3, .ptr 1 0), (5, .int .i64 x5), (7, .int .i64 x7), (11, .imm (.I .i64 x11)), (12, .int .i64 x12), (13, .int .i64 x13), (18, .imm (.I .i64 x18)), (19, .int .i64 x19), (20, .int .i64 x20)], [(0, .box false [.int .i64 y0_0, .imm (.I .i64 y0_1), .imm (.I .i64 y0_2), .imm (.T y0_3)]), (1, .box false [.int .i64 y1_0, .imm (.I .i64 y1_1)])], 4⟩
set_option maxRecDepth 100000 in
theorem spec_l4Least.e0 (k : Nat) (x5 : Int) (x11 : List Int) (x12 : Int) (x13 : Int) (y0_0 : Int) (y0_1 : List Int) (y0_2 : List Int) (y0_3 : List Stp) (y1_0 : Int) (y1_1 : List Int) : spec_l4Least.x0 (k + 1) x5 x11 x12 x13 y0_0 y0_1 y0_2 y0_3 y1_0 y1_1 = (if x13 < x12 then (if 0 ≤ x13 then (if x13 < (x11.length : Int) then (spec_l4Least.x1 k x5 (rdI x11 x13) x11 x12 x13 y0_2 (y0_2.length : Int) 0 y0_0 y0_1 y0_2 y0_3 y1_0 y1_1) else none) else none) else (some (spec_l4Least.en x5))) := by kernel_rfl
set_option maxRecDepth 100000 in
theorem spec_l4Least.e1 (k : Nat) (x5 : Int) (x7 : Int) (x11 : List Int) (x12 : Int) (x13 : Int) (x18 : List Int) (x19 : Int) (x20 : Int) (y0_0 : Int) (y0_1 : List Int) (y0_2 : List Int) (y0_3 : List Stp) (y1_0 : Int) (y1_1 : List Int) : spec_l4Least.x1 (k + 1) x5 x7 x11 x12 x13 x18 x19 x20 y0_0 y0_1 y0_2 y0_3 y1_0 y1_1 = (if x20 < x19 then (if 0 ≤ x20 then (if x20 < (x18.length : Int) then (if 0 ≤ (wr64 ((wr64 (x7 * y0_0)) + (rdI x18 x20))) then (if (wr64 ((wr64 (x7 * y0_0)) + (rdI x18 x20))) < (y1_1.length : Int) then (spec_l4Least.x1 k (mn x5 (rdI y1_1 (wr64 ((wr64 (x7 * y0_0)) + (rdI x18 x20))))) x7 x11 x12 x13 x18 x19 (wr64 (x20 + 1)) y0_0 y0_1 y0_2 y0_3 y1_0 y1_1) else none) else none) else none) else none) else (spec_l4Least.x0 k x5 x11 x12 (wr64 (x13 + 1)) y0_0 y0_1 y0_2 y0_3 y1_0 y1_1)) := by kernel_rfl
set_option maxRecDepth 100000 in
theorem spec_l4Least.ef (k : Nat) (a0_0 : Int) (l0_1 : List Int) (l0_2 : List Int) (l0_3 : List Stp) (a1_0 : Int) (l1_1 : List Int) : R.start Try.prog xhn spec_l4Least.O 0 Try.f56 spec_l4Least.fh k [.agg [.int .i64 a0_0, .imm (.I .i64 l0_1), .imm (.I .i64 l0_2), .imm (.T l0_3)], .agg [.int .i64 a1_0, .imm (.I .i64 l1_1)]] [] = (spec_l4Least.x0 k 1000000 l0_1 (l0_1.length : Int) 0 a0_0 l0_1 l0_2 l0_3 a1_0 l1_1) := by kernel_rfl
theorem spec_l4Least.link : ∀ k, (∀ (x5 : Int) (x11 : List Int) (x12 : Int) (x13 : Int) (y0_0 : Int) (y0_1 : List Int) (y0_2 : List Int) (y0_3 : List Stp) (y1_0 : Int) (y1_1 : List Int), spec_l4Least.x0 k x5 x11 x12 x13 y0_0 y0_1 y0_2 y0_3 y1_0 y1_1 = (spec_l4Least.l0 k x5 x11 x12 x13 y0_0 y0_1 y0_2 y0_3 y1_0 y1_1).map (spec_l4Least.en)) ∧ (∀ (x5 : Int) (x7 : Int) (x11 : List Int) (x12 : Int) (x13 : Int) (x18 : List Int) (x19 : Int) (x20 : Int) (y0_0 : Int) (y0_1 : List Int) (y0_2 : List Int) (y0_3 : List Stp) (y1_0 : Int) (y1_1 : List Int), spec_l4Least.x1 k x5 x7 x11 x12 x13 x18 x19 x20 y0_0 y0_1 y0_2 y0_3 y1_0 y1_1 = (spec_l4Least.l1 k x5 x7 x11 x12 x13 x18 x19 x20 y0_0 y0_1 y0_2 y0_3 y1_0 y1_1).map (spec_l4Least.en))
  | 0 => ⟨fun _ _ _ _ _ _ _ _ _ _ => by simp only [spec_l4Least.l0, R.map_none]; rfl, fun _ _ _ _ _ _ _ _ _ _ _ _ _ _ => by simp only [spec_l4Least.l1, R.map_none]; rfl⟩
  | k + 1 => by
    obtain ⟨ih0, ih1⟩ := spec_l4Least.link k
    refine ⟨?_, ?_⟩
    · intro x5 x11 x12 x13 y0_0 y0_1 y0_2 y0_3 y1_0 y1_1
      rw [spec_l4Least.e0]
      simp only [spec_l4Least.l0, R.map_ite, R.map_bind, R.map_none, R.map_some, R.wr64_eq, ← ih0, ← ih1]
    · intro x5 x7 x11 x12 x13 x18 x19 x20 y0_0 y0_1 y0_2 y0_3 y1_0 y1_1
      rw [spec_l4Least.e1]
      simp only [spec_l4Least.l1, R.map_ite, R.map_bind, R.map_none, R.map_some, R.wr64_eq, ← ih0, ← ih1]
theorem spec_l4Least.sf (k : Nat) (a0_0 : Int) (l0_1 : List Int) (l0_2 : List Int) (l0_3 : List Stp) (a1_0 : Int) (l1_1 : List Int) : R.start Try.prog xhn spec_l4Least.O 0 Try.f56 spec_l4Least.fh k [.agg [.int .i64 a0_0, .imm (.I .i64 l0_1), .imm (.I .i64 l0_2), .imm (.T l0_3)], .agg [.int .i64 a1_0, .imm (.I .i64 l1_1)]] [] = (spec_l4Least.f k a0_0 l0_1 l0_2 l0_3 a1_0 l1_1).map (spec_l4Least.en) := by
  obtain ⟨ih0, ih1⟩ := spec_l4Least.link k
  rw [spec_l4Least.ef]
  simp only [spec_l4Least.f, R.map_ite, R.map_bind, R.map_none, R.map_some, R.wr64_eq, ← ih0, ← ih1]
theorem spec_l4Least.ok (k : Nat) : spec_l4Least.tw.Ok Try.prog k := by
  intro md hmd a r h
  refine fn_ok (H := xhn) (fh := spec_l4Least.fh) (O := spec_l4Least.O) (k := k) Try.func56 (by kernel_rfl) (by kernel_rfl) (fun j _ => noO_sound) (by kernel_rfl) (m := 0) rfl ?_
  refine (spec_l4Least.sf k a.1 a.2.1 a.2.2.1 a.2.2.2.1 a.2.2.2.2.1 a.2.2.2.2.2).trans ?_
  exact congrArg (Option.map _) h
def spec_l4Cost.f (k : Nat) (a0_0 : Int) (l0_1 : List Int) (l0_2 : List Int) (l0_3 : List Stp) (a1 : ByteArray) : Option (Int) := ((spec_l4Matrix.f k a0_0 l0_1 l0_2 l0_3 a1).bind fun t1 => ((spec_l4Least.f k a0_0 l0_1 l0_2 l0_3 t1.1 t1.2).bind fun t2 => (some t2)))
def spec_l4Cost.en (r : Int) : Res := (.int .i64 r, [])
def spec_l4Cost.dec : List AV → List R.Obj → Option (Int × (List Int) × (List Int) × (List Stp) × ByteArray)
  | [.agg [.int .i64 a0_0, .imm (.I .i64 l0_1), .imm (.I .i64 l0_2), .imm (.T l0_3)], .str a1], [] => some (a0_0, l0_1, l0_2, l0_3, a1)
  | _, _ => none
def spec_l4Cost.tw : Tw := ⟨28, Int × (List Int) × (List Int) × (List Stp) × ByteArray, Int, spec_l4Cost.dec, fun a => [.agg [.int .i64 a.1, .imm (.I .i64 a.2.1), .imm (.I .i64 a.2.2.1), .imm (.T a.2.2.2.1)], .str a.2.2.2.2], fun a => [], fun k a => spec_l4Cost.f k a.1 a.2.1 a.2.2.1 a.2.2.2.1 a.2.2.2.2, fun a r => spec_l4Cost.en r, true⟩
theorem spec_l4Cost.dok : spec_l4Cost.tw.DecOk := by
  intro args hc a h
  have h : spec_l4Cost.dec args hc = some a := h
  unfold spec_l4Cost.dec at h
  split at h
  · cases h; exact ⟨rfl, rfl⟩
  · cases h
noncomputable def spec_l4Cost.O (k : Nat) : Oracle := (spec_l4Matrix.tw.orc k (spec_l4Least.tw.orc k noO))
def spec_l4Cost.fh : FH := ⟨fun i => match i with | _ => none, [], false⟩
set_option maxRecDepth 100000 in
theorem spec_l4Cost.ef (k : Nat) (a0_0 : Int) (l0_1 : List Int) (l0_2 : List Int) (l0_3 : List Stp) (a1 : ByteArray) : R.start Try.prog xhn spec_l4Cost.O 0 Try.f28 spec_l4Cost.fh k [.agg [.int .i64 a0_0, .imm (.I .i64 l0_1), .imm (.I .i64 l0_2), .imm (.T l0_3)], .str a1] [] = ((spec_l4Matrix.f k a0_0 l0_1 l0_2 l0_3 a1).bind fun t1 => ((spec_l4Least.f k a0_0 l0_1 l0_2 l0_3 t1.1 t1.2).bind fun t2 => (some (spec_l4Cost.en t2)))) := by kernel_rfl
theorem spec_l4Cost.sf (k : Nat) (a0_0 : Int) (l0_1 : List Int) (l0_2 : List Int) (l0_3 : List Stp) (a1 : ByteArray) : R.start Try.prog xhn spec_l4Cost.O 0 Try.f28 spec_l4Cost.fh k [.agg [.int .i64 a0_0, .imm (.I .i64 l0_1), .imm (.I .i64 l0_2), .imm (.T l0_3)], .str a1] [] = (spec_l4Cost.f k a0_0 l0_1 l0_2 l0_3 a1).map (spec_l4Cost.en) := by
  rw [spec_l4Cost.ef]
  simp only [spec_l4Cost.f, R.map_ite, R.map_bind, R.map_none, R.map_some, R.wr64_eq]
theorem spec_l4Cost.ok (k : Nat) : spec_l4Cost.tw.Ok Try.prog k := by
  intro md hmd a r h
  refine fn_ok (H := xhn) (fh := spec_l4Cost.fh) (O := spec_l4Cost.O) (k := k) Try.func28 (by kernel_rfl) (by kernel_rfl) (fun j _ => (Tw.orc_sound spec_l4Matrix.dok (spec_l4Matrix.ok j) (fun _ => rfl) (Tw.orc_sound spec_l4Least.dok (spec_l4Least.ok j) (fun _ => rfl) noO_sound))) (by kernel_rfl) (m := 0) rfl ?_
  refine (spec_l4Cost.sf k a.1 a.2.1 a.2.2.1 a.2.2.2.1 a.2.2.2.2).trans ?_
  exact congrArg (Option.map _) h
def spec_CostliestWord.l0 : Nat → ByteArray → Int → (List ByteArray) → Int → Int → Int → (List Int) → (List Int) → (List Stp) → Option (ByteArray × Bool)
  | 0, _, _, _, _, _, _, _, _, _ => none
  | k + 1, x6, x7, x20, x21, x22, y0_0, y0_1, y0_2, y0_3 => (if x22 < x21 then (if 0 ≤ x22 then (if x22 < (x20.length : Int) then ((spec_l4Cost.f k y0_0 y0_1 y0_2 y0_3 (rdS x20 x22)).bind fun t4 => (if t4 < 1000000 then (if t4 > x7 then (spec_CostliestWord.l0 k (rdS x20 x22) t4 x20 x21 (wrap64 (x22 + 1)) y0_0 y0_1 y0_2 y0_3) else (spec_CostliestWord.l0 k x6 x7 x20 x21 (wrap64 (x22 + 1)) y0_0 y0_1 y0_2 y0_3)) else (spec_CostliestWord.l0 k x6 x7 x20 x21 (wrap64 (x22 + 1)) y0_0 y0_1 y0_2 y0_3))) else none) else none) else (some (x6, (decide (x7 ≥ 0)))))
def spec_CostliestWord.f (k : Nat) (a0_0 : Int) (l0_1 : List Int) (l0_2 : List Int) (l0_3 : List Stp) (a1 : Int) : Option (ByteArray × Bool) := ((spec_AutomatonValid.f k a0_0 l0_1 l0_2 l0_3).bind fun t1 => (if t1 = true then ((spec_l1In.f a1 0 7).bind fun t2 => (if t2 = true then ((spec_l4Words.f k a1).bind fun t3 => (spec_CostliestWord.l0 k (⟨#[]⟩ : ByteArray) (-1) t3 (t3.length : Int) 0 a0_0 l0_1 l0_2 l0_3)) else (some ((⟨#[]⟩ : ByteArray), false)))) else (some ((⟨#[]⟩ : ByteArray), false))))
def spec_CostliestWord.en (r : ByteArray × Bool) : Res := (.tup [.str r.1, .lit r.2], [])
def spec_CostliestWord.dec : List AV → List R.Obj → Option (Int × (List Int) × (List Int) × (List Stp) × Int)
  | [.agg [.int .i64 a0_0, .imm (.I .i64 l0_1), .imm (.I .i64 l0_2), .imm (.T l0_3)], .int .i64 a1], [] => some (a0_0, l0_1, l0_2, l0_3, a1)
  | _, _ => none
def spec_CostliestWord.tw : Tw := ⟨7, Int × (List Int) × (List Int) × (List Stp) × Int, ByteArray × Bool, spec_CostliestWord.dec, fun a => [.agg [.int .i64 a.1, .imm (.I .i64 a.2.1), .imm (.I .i64 a.2.2.1), .imm (.T a.2.2.2.1)], .int .i64 a.2.2.2.2], fun a => [], fun k a => spec_CostliestWord.f k a.1 a.2.1 a.2.2.1 a.2.2.2.1 a.2.2.2.2, fun a r => spec_CostliestWord.en r, true⟩
theorem spec_CostliestWord.dok : spec_CostliestWord.tw.DecOk := by
  intro args hc a h
  have h : spec_CostliestWord.dec args hc = some a := h
  unfold spec_CostliestWord.dec at h
  split at h
  · cases h; exact ⟨rfl, rfl⟩
  · cases h
noncomputable def spec_CostliestWord.O (k : Nat) : Oracle := (spec_AutomatonValid.tw.orc k (spec_l1In.tw.orc k (spec_l4Words.tw.orc k (spec_l4Cost.tw.orc k noO))))
def spec_CostliestWord.fh : FH := ⟨fun i => match i with | 5 => some [(2, 0), (6, 0), (7, 0), (20, 0), (21, 0), (22, 0)] | _ => none, [], false⟩
noncomputable def spec_CostliestWord.x0 (k : Nat) (x6 : ByteArray) (x7 : Int) (x20 : List ByteArray) (x21 : Int) (x22 : Int) (y0_0 : Int) (y0_1 : List Int) (y0_2 : List Int) (y0_3 : List Stp) : Option Res := R.exec Try.prog xhn spec_CostliestWord.O 0 Try.f7 spec_CostliestWord.fh k (R.point Try.f7 5) ⟨[(2, .ptr 0 0), (6, .str x6), (7, .int .i64 x7), (20, .imm (.S x20)), (21, .int .i64 x21), (22, .int .i64 x22)], [(0, .box false [.int .i64 y0_0, .imm (.I .i64 y0_1), .imm (.I .i64 y0_2), .imm (.T y0_3)])], 3⟩
set_option maxRecDepth 100000 in
theorem spec_CostliestWord.e0 (k : Nat) (x6 : ByteArray) (x7 : Int) (x20 : List ByteArray) (x21 : Int) (x22 : Int) (y0_0 : Int) (y0_1 : List Int) (y0_2 : List Int) (y0_3 : List Stp) : spec_CostliestWord.x0 (k + 1) x6 x7 x20 x21 x22 y0_0 y0_1 y0_2 y0_3 = (if x22 < x21 then (if 0 ≤ x22 then (if x22 < (x20.length : Int) then ((spec_l4Cost.f k y0_0 y0_1 y0_2 y0_3 (rdS x20 x22)).bind fun t4 => (if t4 < 1000000 then (if t4 > x7 then (spec_CostliestWord.x0 k (rdS x20 x22) t4 x20 x21 (wr64 (x22 + 1)) y0_0 y0_1 y0_2 y0_3) else (spec_CostliestWord.x0 k x6 x7 x20 x21 (wr64 (x22 + 1)) y0_0 y0_1 y0_2 y0_3)) else (spec_CostliestWord.x0 k x6 x7 x20 x21 (wr64 (x22 + 1)) y0_0 y0_1 y0_2 y0_3))) else none) else none) else (some (spec_CostliestWord.en (x6, (decide (x7 ≥ 0)))))) := by kernel_rfl
set_option maxRecDepth 100000 in
theorem spec_CostliestWord.ef (k : Nat) (a0_0 : Int) (l0_1 : List Int) (l0_2 : List Int) (l0_3 : List Stp) (a1 : Int) : R.start Try.prog xhn spec_CostliestWord.O 0 Try.f7 spec_CostliestWord.fh k [.agg [.int .i64 a0_0, .imm (.I .i64 l0_1), .imm (.I .i64 l0_2), .imm (.T l0_3)], .int .i64 a1] [] = ((spec_AutomatonValid.f k a0_0 l0_1 l0_2 l0_3).bind fun t1 => (if t1 = true then ((spec_l1In.f a1 0 7).bind fun t2 => (if t2 = true then ((spec_l4Words.f k a1).bind fun t3 => (spec_CostliestWord.x0 k (⟨#[]⟩ : ByteArray) (-1) t3 (t3.length : Int) 0 a0_0 l0_1 l0_2 l0_3)) else (some (spec_CostliestWord.en ((⟨#[]⟩ : ByteArray), false))))) else (some (spec_CostliestWord.en ((⟨#[]⟩ : ByteArray), false))))) := by kernel_rfl
theorem spec_CostliestWord.link : ∀ k, (∀ (x6 : ByteArray) (x7 : Int) (x20 : List ByteArray) (x21 : Int) (x22 : Int) (y0_0 : Int) (y0_1 : List Int) (y0_2 : List Int) (y0_3 : List Stp), spec_CostliestWord.x0 k x6 x7 x20 x21 x22 y0_0 y0_1 y0_2 y0_3 = (spec_CostliestWord.l0 k x6 x7 x20 x21 x22 y0_0 y0_1 y0_2 y0_3).map (spec_CostliestWord.en))
  | 0 => fun _ _ _ _ _ _ _ _ _ => by simp only [spec_CostliestWord.l0, R.map_none]; rfl
  | k + 1 => by
    have ih0 := spec_CostliestWord.link k
    · intro x6 x7 x20 x21 x22 y0_0 y0_1 y0_2 y0_3
      rw [spec_CostliestWord.e0]
      simp only [spec_CostliestWord.l0, R.map_ite, R.map_bind, R.map_none, R.map_some, R.wr64_eq, ← ih0]
theorem spec_CostliestWord.sf (k : Nat) (a0_0 : Int) (l0_1 : List Int) (l0_2 : List Int) (l0_3 : List Stp) (a1 : Int) : R.start Try.prog xhn spec_CostliestWord.O 0 Try.f7 spec_CostliestWord.fh k [.agg [.int .i64 a0_0, .imm (.I .i64 l0_1), .imm (.I .i64 l0_2), .imm (.T l0_3)], .int .i64 a1] [] = (spec_CostliestWord.f k a0_0 l0_1 l0_2 l0_3 a1).map (spec_CostliestWord.en) := by
  have ih0 := spec_CostliestWord.link k
  rw [spec_CostliestWord.ef]
  simp only [spec_CostliestWord.f, R.map_ite, R.map_bind, R.map_none, R.map_some, R.wr64_eq, ← ih0]
theorem spec_CostliestWord.ok (k : Nat) : spec_CostliestWord.tw.Ok Try.prog k := by
  intro md hmd a r h
  refine fn_ok (H := xhn) (fh := spec_CostliestWord.fh) (O := spec_CostliestWord.O) (k := k) Try.func7 (by kernel_rfl) (by kernel_rfl) (fun j _ => (Tw.orc_sound spec_AutomatonValid.dok (spec_AutomatonValid.ok j) (fun _ => rfl) (Tw.orc_sound spec_l1In.dok (spec_l1In.ok j) (fun _ => rfl) (Tw.orc_sound spec_l4Words.dok (spec_l4Words.ok j) (fun _ => rfl) (Tw.orc_sound spec_l4Cost.dok (spec_l4Cost.ok j) (fun _ => rfl) noO_sound))))) (by kernel_rfl) (m := 0) rfl ?_
  refine (spec_CostliestWord.sf k a.1 a.2.1 a.2.2.1 a.2.2.2.1 a.2.2.2.2).trans ?_
  exact congrArg (Option.map _) h
def impl_CountAccepted.l0 : Nat → Int → (List ByteArray) → Int → Int → Int → (List Int) → (List Int) → (List Stp) → Option (Int)
  | 0, _, _, _, _, _, _, _, _ => none
  | k + 1, x7, x22, x23, x24, y0_0, y0_1, y0_2, y0_3 => (if x24 < x23 then (if 0 ≤ x24 then (if x24 < (x22.length : Int) then ((impl_CostOf.f k y0_0 y0_1 y0_2 y0_3 (rdS x22 x24)).bind fun t3 => (if t3 < 1000000 then (impl_CountAccepted.l0 k (wrap64 (x7 + 1)) x22 x23 (wrap64 (x24 + 1)) y0_0 y0_1 y0_2 y0_3) else (impl_CountAccepted.l0 k x7 x22 x23 (wrap64 (x24 + 1)) y0_0 y0_1 y0_2 y0_3))) else none) else none) else (some x7))
def impl_CountAccepted.f (k : Nat) (a0_0 : Int) (l0_1 : List Int) (l0_2 : List Int) (l0_3 : List Stp) (a1 : Int) : Option (Int) := ((impl_ShortWords.f k a1).bind fun t1 => (if t1.2 = true then ((impl_AutomatonValid.f k a0_0 l0_1 l0_2 l0_3).bind fun t2 => (if t2 = true then (impl_CountAccepted.l0 k 0 t1.1 (t1.1.length : Int) 0 a0_0 l0_1 l0_2 l0_3) else (some (-1)))) else (some (-1))))
def impl_CountAccepted.en (r : Int) : Res := (.int .i64 r, [])
def impl_CountAccepted.dec : List AV → List R.Obj → Option (Int × (List Int) × (List Int) × (List Stp) × Int)
  | [.agg [.int .i64 a0_0, .imm (.I .i64 l0_1), .imm (.I .i64 l0_2), .imm (.T l0_3)], .int .i64 a1], [] => some (a0_0, l0_1, l0_2, l0_3, a1)
  | _, _ => none
def impl_CountAccepted.tw : Tw := ⟨8, Int × (List Int) × (List Int) × (List Stp) × Int, Int, impl_CountAccepted.dec, fun a => [.agg [.int .i64 a.1, .imm (.I .i64 a.2.1), .imm (.I .i64 a.2.2.1), .imm (.T a.2.2.2.1)], .int .i64 a.2.2.2.2], fun a => [], fun k a => impl_CountAccepted.f k a.1 a.2.1 a.2.2.1 a.2.2.2.1 a.2.2.2.2, fun a r => impl_CountAccepted.en r, false⟩
theorem impl_CountAccepted.dok : impl_CountAccepted.tw.DecOk := by
  intro args hc a h
  have h : impl_CountAccepted.dec args hc = some a := h
  unfold impl_CountAccepted.dec at h
  split at h
  · cases h; exact ⟨rfl, rfl⟩
  · cases h
noncomputable def impl_CountAccepted.O (k : Nat) : Oracle := (impl_ShortWords.tw.orc k (impl_AutomatonValid.tw.orc k (impl_CostOf.tw.orc k noO)))
def impl_CountAccepted.fh : FH := ⟨fun i => match i with | 6 => some [(2, 0), (7, 0), (22, 0), (23, 0), (24, 0)] | _ => none, [], false⟩
noncomputable def impl_CountAccepted.x0 (k : Nat) (x7 : Int) (x22 : List ByteArray) (x23 : Int) (x24 : Int) (y0_0 : Int) (y0_1 : List Int) (y0_2 : List Int) (y0_3 : List Stp) : Option Res := R.exec Try.prog xhn impl_CountAccepted.O 0 Try.f8 impl_CountAccepted.fh k (R.point Try.f8 6) ⟨[(2, .ptr 0 0), (7, .int .i64 x7), (22, .imm (.S x22)), (23, .int .i64 x23), (24, .int .i64 x24)], [(0, .box false [.int .i64 y0_0, .imm (.I .i64 y0_1), .imm (.I .i64 y0_2), .imm (.T y0_3)])], 3⟩
set_option maxRecDepth 100000 in
theorem impl_CountAccepted.e0 (k : Nat) (x7 : Int) (x22 : List ByteArray) (x23 : Int) (x24 : Int) (y0_0 : Int) (y0_1 : List Int) (y0_2 : List Int) (y0_3 : List Stp) : impl_CountAccepted.x0 (k + 1) x7 x22 x23 x24 y0_0 y0_1 y0_2 y0_3 = (if x24 < x23 then (if 0 ≤ x24 then (if x24 < (x22.length : Int) then ((impl_CostOf.f k y0_0 y0_1 y0_2 y0_3 (rdS x22 x24)).bind fun t3 => (if t3 < 1000000 then (impl_CountAccepted.x0 k (wr64 (x7 + 1)) x22 x23 (wr64 (x24 + 1)) y0_0 y0_1 y0_2 y0_3) else (impl_CountAccepted.x0 k x7 x22 x23 (wr64 (x24 + 1)) y0_0 y0_1 y0_2 y0_3))) else none) else none) else (some (impl_CountAccepted.en x7))) := by kernel_rfl
set_option maxRecDepth 100000 in
theorem impl_CountAccepted.ef (k : Nat) (a0_0 : Int) (l0_1 : List Int) (l0_2 : List Int) (l0_3 : List Stp) (a1 : Int) : R.start Try.prog xhn impl_CountAccepted.O 0 Try.f8 impl_CountAccepted.fh k [.agg [.int .i64 a0_0, .imm (.I .i64 l0_1), .imm (.I .i64 l0_2), .imm (.T l0_3)], .int .i64 a1] [] = ((impl_ShortWords.f k a1).bind fun t1 => (if t1.2 = true then ((impl_AutomatonValid.f k a0_0 l0_1 l0_2 l0_3).bind fun t2 => (if t2 = true then (impl_CountAccepted.x0 k 0 t1.1 (t1.1.length : Int) 0 a0_0 l0_1 l0_2 l0_3) else (some (impl_CountAccepted.en (-1))))) else (some (impl_CountAccepted.en (-1))))) := by kernel_rfl
theorem impl_CountAccepted.link : ∀ k, (∀ (x7 : Int) (x22 : List ByteArray) (x23 : Int) (x24 : Int) (y0_0 : Int) (y0_1 : List Int) (y0_2 : List Int) (y0_3 : List Stp), impl_CountAccepted.x0 k x7 x22 x23 x24 y0_0 y0_1 y0_2 y0_3 = (impl_CountAccepted.l0 k x7 x22 x23 x24 y0_0 y0_1 y0_2 y0_3).map (impl_CountAccepted.en))
  | 0 => fun _ _ _ _ _ _ _ _ => by simp only [impl_CountAccepted.l0, R.map_none]; rfl
  | k + 1 => by
    have ih0 := impl_CountAccepted.link k
    · intro x7 x22 x23 x24 y0_0 y0_1 y0_2 y0_3
      rw [impl_CountAccepted.e0]
      simp only [impl_CountAccepted.l0, R.map_ite, R.map_bind, R.map_none, R.map_some, R.wr64_eq, ← ih0]
theorem impl_CountAccepted.sf (k : Nat) (a0_0 : Int) (l0_1 : List Int) (l0_2 : List Int) (l0_3 : List Stp) (a1 : Int) : R.start Try.prog xhn impl_CountAccepted.O 0 Try.f8 impl_CountAccepted.fh k [.agg [.int .i64 a0_0, .imm (.I .i64 l0_1), .imm (.I .i64 l0_2), .imm (.T l0_3)], .int .i64 a1] [] = (impl_CountAccepted.f k a0_0 l0_1 l0_2 l0_3 a1).map (impl_CountAccepted.en) := by
  have ih0 := impl_CountAccepted.link k
  rw [impl_CountAccepted.ef]
  simp only [impl_CountAccepted.f, R.map_ite, R.map_bind, R.map_none, R.map_some, R.wr64_eq, ← ih0]
theorem impl_CountAccepted.ok (k : Nat) : impl_CountAccepted.tw.Ok Try.prog k := by
  intro md hmd a r h
  refine fn_ok (H := xhn) (fh := impl_CountAccepted.fh) (O := impl_CountAccepted.O) (k := k) Try.func8 (by kernel_rfl) (by kernel_rfl) (fun j _ => (Tw.orc_sound impl_ShortWords.dok (impl_ShortWords.ok j) (fun _ => rfl) (Tw.orc_sound impl_AutomatonValid.dok (impl_AutomatonValid.ok j) (fun _ => rfl) (Tw.orc_sound impl_CostOf.dok (impl_CostOf.ok j) (fun q => Bool.noConfusion (show false = true from hmd q)) noO_sound)))) (by kernel_rfl) (m := 0) rfl ?_
  refine (impl_CountAccepted.sf k a.1 a.2.1 a.2.2.1 a.2.2.2.1 a.2.2.2.2).trans ?_
  exact congrArg (Option.map _) h
def spec_ShortWords.f (k : Nat) (a0 : Int) : Option ((List ByteArray) × Bool) := ((spec_l1In.f a0 0 7).bind fun t1 => (if t1 = true then ((spec_l4Words.f k a0).bind fun t2 => (some (t2, true))) else (some (([] : List ByteArray), false))))
def spec_ShortWords.en (r : (List ByteArray) × Bool) : Res := (.tup [.imm (.S r.1), .lit r.2], [])
def spec_ShortWords.dec : List AV → List R.Obj → Option (Int)
  | [.int .i64 a0], [] => some a0
  | _, _ => none
def spec_ShortWords.tw : Tw := ⟨10, Int, (List ByteArray) × Bool, spec_ShortWords.dec, fun a => [.int .i64 a], fun a => [], fun k a => spec_ShortWords.f k a, fun a r => spec_ShortWords.en r, true⟩
theorem spec_ShortWords.dok : spec_ShortWords.tw.DecOk := by
  intro args hc a h
  have h : spec_ShortWords.dec args hc = some a := h
  unfold spec_ShortWords.dec at h
  split at h
  · cases h; exact ⟨rfl, rfl⟩
  · cases h
noncomputable def spec_ShortWords.O (k : Nat) : Oracle := (spec_l1In.tw.orc k (spec_l4Words.tw.orc k noO))
def spec_ShortWords.fh : FH := ⟨fun i => match i with | _ => none, [(false, 9)], false⟩
set_option maxRecDepth 100000 in
theorem spec_ShortWords.ef (k : Nat) (a0 : Int) : R.start Try.prog xhn spec_ShortWords.O 0 Try.f10 spec_ShortWords.fh k [.int .i64 a0] [] = ((spec_l1In.f a0 0 7).bind fun t1 => (if t1 = true then ((spec_l4Words.f k a0).bind fun t2 => (some (spec_ShortWords.en (t2, true)))) else (some (spec_ShortWords.en (([] : List ByteArray), false))))) := by kernel_rfl
theorem spec_ShortWords.sf (k : Nat) (a0 : Int) : R.start Try.prog xhn spec_ShortWords.O 0 Try.f10 spec_ShortWords.fh k [.int .i64 a0] [] = (spec_ShortWords.f k a0).map (spec_ShortWords.en) := by
  rw [spec_ShortWords.ef]
  simp only [spec_ShortWords.f, R.map_ite, R.map_bind, R.map_none, R.map_some, R.wr64_eq]
theorem spec_ShortWords.ok (k : Nat) : spec_ShortWords.tw.Ok Try.prog k := by
  intro md hmd a r h
  refine fn_ok (H := xhn) (fh := spec_ShortWords.fh) (O := spec_ShortWords.O) (k := k) Try.func10 (by kernel_rfl) (by kernel_rfl) (fun j _ => (Tw.orc_sound spec_l1In.dok (spec_l1In.ok j) (fun _ => rfl) (Tw.orc_sound spec_l4Words.dok (spec_l4Words.ok j) (fun _ => rfl) noO_sound))) (by kernel_rfl) (m := 0) rfl ?_
  refine (spec_ShortWords.sf k a).trans ?_
  exact congrArg (Option.map _) h
def spec_CountAccepted.l0 : Nat → Int → (List ByteArray) → Int → Int → Int → (List Int) → (List Int) → (List Stp) → Option (Int)
  | 0, _, _, _, _, _, _, _, _ => none
  | k + 1, x5, x17, x18, x19, y0_0, y0_1, y0_2, y0_3 => (if x19 < x18 then (if 0 ≤ x19 then (if x19 < (x17.length : Int) then ((spec_l4Cost.f k y0_0 y0_1 y0_2 y0_3 (rdS x17 x19)).bind fun t4 => (if t4 < 1000000 then (spec_CountAccepted.l0 k (wrap64 (x5 + 1)) x17 x18 (wrap64 (x19 + 1)) y0_0 y0_1 y0_2 y0_3) else (spec_CountAccepted.l0 k x5 x17 x18 (wrap64 (x19 + 1)) y0_0 y0_1 y0_2 y0_3))) else none) else none) else (some x5))
def spec_CountAccepted.f (k : Nat) (a0_0 : Int) (l0_1 : List Int) (l0_2 : List Int) (l0_3 : List Stp) (a1 : Int) : Option (Int) := ((spec_AutomatonValid.f k a0_0 l0_1 l0_2 l0_3).bind fun t1 => (if t1 = true then ((spec_l1In.f a1 0 7).bind fun t2 => (if t2 = true then ((spec_l4Words.f k a1).bind fun t3 => (spec_CountAccepted.l0 k 0 t3 (t3.length : Int) 0 a0_0 l0_1 l0_2 l0_3)) else (some (-1)))) else (some (-1))))
def spec_CountAccepted.en (r : Int) : Res := (.int .i64 r, [])
def spec_CountAccepted.dec : List AV → List R.Obj → Option (Int × (List Int) × (List Int) × (List Stp) × Int)
  | [.agg [.int .i64 a0_0, .imm (.I .i64 l0_1), .imm (.I .i64 l0_2), .imm (.T l0_3)], .int .i64 a1], [] => some (a0_0, l0_1, l0_2, l0_3, a1)
  | _, _ => none
def spec_CountAccepted.tw : Tw := ⟨11, Int × (List Int) × (List Int) × (List Stp) × Int, Int, spec_CountAccepted.dec, fun a => [.agg [.int .i64 a.1, .imm (.I .i64 a.2.1), .imm (.I .i64 a.2.2.1), .imm (.T a.2.2.2.1)], .int .i64 a.2.2.2.2], fun a => [], fun k a => spec_CountAccepted.f k a.1 a.2.1 a.2.2.1 a.2.2.2.1 a.2.2.2.2, fun a r => spec_CountAccepted.en r, true⟩
theorem spec_CountAccepted.dok : spec_CountAccepted.tw.DecOk := by
  intro args hc a h
  have h : spec_CountAccepted.dec args hc = some a := h
  unfold spec_CountAccepted.dec at h
  split at h
  · cases h; exact ⟨rfl, rfl⟩
  · cases h
noncomputable def spec_CountAccepted.O (k : Nat) : Oracle := (spec_AutomatonValid.tw.orc k (spec_l1In.tw.orc k (spec_l4Words.tw.orc k (spec_l4Cost.tw.orc k noO))))
def spec_CountAccepted.fh : FH := ⟨fun i => match i with | 5 => some [(2, 0), (5, 0), (17, 0), (18, 0), (19, 0)] | _ => none, [], false⟩
noncomputable def spec_CountAccepted.x0 (k : Nat) (x5 : Int) (x17 : List ByteArray) (x18 : Int) (x19 : Int) (y0_0 : Int) (y0_1 : List Int) (y0_2 : List Int) (y0_3 : List Stp) : Option Res := R.exec Try.prog xhn spec_CountAccepted.O 0 Try.f11 spec_CountAccepted.fh k (R.point Try.f11 5) ⟨[(2, .ptr 0 0), (5, .int .i64 x5), (17, .imm (.S x17)), (18, .int .i64 x18), (19, .int .i64 x19)], [(0, .box false [.int .i64 y0_0, .imm (.I .i64 y0_1), .imm (.I .i64 y0_2), .imm (.T y0_3)])], 3⟩
set_option maxRecDepth 100000 in
theorem spec_CountAccepted.e0 (k : Nat) (x5 : Int) (x17 : List ByteArray) (x18 : Int) (x19 : Int) (y0_0 : Int) (y0_1 : List Int) (y0_2 : List Int) (y0_3 : List Stp) : spec_CountAccepted.x0 (k + 1) x5 x17 x18 x19 y0_0 y0_1 y0_2 y0_3 = (if x19 < x18 then (if 0 ≤ x19 then (if x19 < (x17.length : Int) then ((spec_l4Cost.f k y0_0 y0_1 y0_2 y0_3 (rdS x17 x19)).bind fun t4 => (if t4 < 1000000 then (spec_CountAccepted.x0 k (wr64 (x5 + 1)) x17 x18 (wr64 (x19 + 1)) y0_0 y0_1 y0_2 y0_3) else (spec_CountAccepted.x0 k x5 x17 x18 (wr64 (x19 + 1)) y0_0 y0_1 y0_2 y0_3))) else none) else none) else (some (spec_CountAccepted.en x5))) := by kernel_rfl
set_option maxRecDepth 100000 in
theorem spec_CountAccepted.ef (k : Nat) (a0_0 : Int) (l0_1 : List Int) (l0_2 : List Int) (l0_3 : List Stp) (a1 : Int) : R.start Try.prog xhn spec_CountAccepted.O 0 Try.f11 spec_CountAccepted.fh k [.agg [.int .i64 a0_0, .imm (.I .i64 l0_1), .imm (.I .i64 l0_2), .imm (.T l0_3)], .int .i64 a1] [] = ((spec_AutomatonValid.f k a0_0 l0_1 l0_2 l0_3).bind fun t1 => (if t1 = true then ((spec_l1In.f a1 0 7).bind fun t2 => (if t2 = true then ((spec_l4Words.f k a1).bind fun t3 => (spec_CountAccepted.x0 k 0 t3 (t3.length : Int) 0 a0_0 l0_1 l0_2 l0_3)) else (some (spec_CountAccepted.en (-1))))) else (some (spec_CountAccepted.en (-1))))) := by kernel_rfl
theorem spec_CountAccepted.link : ∀ k, (∀ (x5 : Int) (x17 : List ByteArray) (x18 : Int) (x19 : Int) (y0_0 : Int) (y0_1 : List Int) (y0_2 : List Int) (y0_3 : List Stp), spec_CountAccepted.x0 k x5 x17 x18 x19 y0_0 y0_1 y0_2 y0_3 = (spec_CountAccepted.l0 k x5 x17 x18 x19 y0_0 y0_1 y0_2 y0_3).map (spec_CountAccepted.en))
  | 0 => fun _ _ _ _ _ _ _ _ => by simp only [spec_CountAccepted.l0, R.map_none]; rfl
  | k + 1 => by
    have ih0 := spec_CountAccepted.link k
    · intro x5 x17 x18 x19 y0_0 y0_1 y0_2 y0_3
      rw [spec_CountAccepted.e0]
      simp only [spec_CountAccepted.l0, R.map_ite, R.map_bind, R.map_none, R.map_some, R.wr64_eq, ← ih0]
theorem spec_CountAccepted.sf (k : Nat) (a0_0 : Int) (l0_1 : List Int) (l0_2 : List Int) (l0_3 : List Stp) (a1 : Int) : R.start Try.prog xhn spec_CountAccepted.O 0 Try.f11 spec_CountAccepted.fh k [.agg [.int .i64 a0_0, .imm (.I .i64 l0_1), .imm (.I .i64 l0_2), .imm (.T l0_3)], .int .i64 a1] [] = (spec_CountAccepted.f k a0_0 l0_1 l0_2 l0_3 a1).map (spec_CountAccepted.en) := by
  have ih0 := spec_CountAccepted.link k
  rw [spec_CountAccepted.ef]
  simp only [spec_CountAccepted.f, R.map_ite, R.map_bind, R.map_none, R.map_some, R.wr64_eq, ← ih0]
theorem spec_CountAccepted.ok (k : Nat) : spec_CountAccepted.tw.Ok Try.prog k := by
  intro md hmd a r h
  refine fn_ok (H := xhn) (fh := spec_CountAccepted.fh) (O := spec_CountAccepted.O) (k := k) Try.func11 (by kernel_rfl) (by kernel_rfl) (fun j _ => (Tw.orc_sound spec_AutomatonValid.dok (spec_AutomatonValid.ok j) (fun _ => rfl) (Tw.orc_sound spec_l1In.dok (spec_l1In.ok j) (fun _ => rfl) (Tw.orc_sound spec_l4Words.dok (spec_l4Words.ok j) (fun _ => rfl) (Tw.orc_sound spec_l4Cost.dok (spec_l4Cost.ok j) (fun _ => rfl) noO_sound))))) (by kernel_rfl) (m := 0) rfl ?_
  refine (spec_CountAccepted.sf k a.1 a.2.1 a.2.2.1 a.2.2.2.1 a.2.2.2.2).trans ?_
  exact congrArg (Option.map _) h
def laws_FnShortWords.l0 : Nat → ByteArray → Bool → Int → (List ByteArray) → (List ByteArray) → Int → Bool → (List ByteArray) → Int → Int → Int → (List Int) → (List Int) → (List Stp) → Option (Bool)
  | 0, _, _, _, _, _, _, _, _, _, _, _, _, _, _ => none
  | k + 1, x5, x6, x9, x10, x12, x14, x15, x114, x115, x116, y0_0, y0_1, y0_2, y0_3 => (if x116 < x115 then (if 0 ≤ x116 then (if x116 < (x114.length : Int) then ((impl_CostOf.f k y0_0 y0_1 y0_2 y0_3 (rdS x114 x116)).bind fun t14 => (if x116 < (x12.length : Int) then (if (rdS x114 x116).toList = (rdS x12 x116).toList then (if x116 > 0 then (if 0 ≤ (wrap64 (x116 - 1)) then (if (wrap64 (x116 - 1)) < (x10.length : Int) then (if ((rdS x114 x116).size : Int) < ((rdS x10 (wrap64 (x116 - 1))).size : Int) then (some false) else (if ((rdS x114 x116).size : Int) = ((rdS x10 (wrap64 (x116 - 1))).size : Int) then (if (leS (rdS x114 x116) (rdS x10 (wrap64 (x116 - 1)))) = true then (some false) else (if t14 < 1000000 then ((impl_CostOf.f k y0_0 y0_1 y0_2 y0_3 x5).bind fun t15 => (if t14 > t15 then (some false) else ((impl_CostOf.f k y0_0 y0_1 y0_2 y0_3 x5).bind fun t16 => (if t14 = t16 then (if x15 = true then (laws_FnShortWords.l0 k x5 x6 x9 x10 x12 (wrap64 (x14 + 1)) true x114 x115 (wrap64 (x116 + 1)) y0_0 y0_1 y0_2 y0_3) else (if (rdS x114 x116).toList = x5.toList then (laws_FnShortWords.l0 k x5 x6 x9 x10 x12 (wrap64 (x14 + 1)) (decide ((rdS x114 x116).toList = x5.toList)) x114 x115 (wrap64 (x116 + 1)) y0_0 y0_1 y0_2 y0_3) else (some false))) else (if x15 = true then (laws_FnShortWords.l0 k x5 x6 x9 x10 x12 (wrap64 (x14 + 1)) true x114 x115 (wrap64 (x116 + 1)) y0_0 y0_1 y0_2 y0_3) else (laws_FnShortWords.l0 k x5 x6 x9 x10 x12 (wrap64 (x14 + 1)) (decide ((rdS x114 x116).toList = x5.toList)) x114 x115 (wrap64 (x116 + 1)) y0_0 y0_1 y0_2 y0_3)))))) else (laws_FnShortWords.l0 k x5 x6 x9 x10 x12 x14 x15 x114 x115 (wrap64 (x116 + 1)) y0_0 y0_1 y0_2 y0_3))) else (if t14 < 1000000 then ((impl_CostOf.f k y0_0 y0_1 y0_2 y0_3 x5).bind fun t17 => (if t14 > t17 then (some false) else ((impl_CostOf.f k y0_0 y0_1 y0_2 y0_3 x5).bind fun t18 => (if t14 = t18 then (if x15 = true then (laws_FnShortWords.l0 k x5 x6 x9 x10 x12 (wrap64 (x14 + 1)) true x114 x115 (wrap64 (x116 + 1)) y0_0 y0_1 y0_2 y0_3) else (if (rdS x114 x116).toList = x5.toList then (laws_FnShortWords.l0 k x5 x6 x9 x10 x12 (wrap64 (x14 + 1)) (decide ((rdS x114 x116).toList = x5.toList)) x114 x115 (wrap64 (x116 + 1)) y0_0 y0_1 y0_2 y0_3) else (some false))) else (if x15 = true then (laws_FnShortWords.l0 k x5 x6 x9 x10 x12 (wrap64 (x14 + 1)) true x114 x115 (wrap64 (x116 + 1)) y0_0 y0_1 y0_2 y0_3) else (laws_FnShortWords.l0 k x5 x6 x9 x10 x12 (wrap64 (x14 + 1)) (decide ((rdS x114 x116).toList = x5.toList)) x114 x115 (wrap64 (x116 + 1)) y0_0 y0_1 y0_2 y0_3)))))) else (laws_FnShortWords.l0 k x5 x6 x9 x10 x12 x14 x15 x114 x115 (wrap64 (x116 + 1)) y0_0 y0_1 y0_2 y0_3)))) else none) else none) else (if t14 < 1000000 then ((impl_CostOf.f k y0_0 y0_1 y0_2 y0_3 x5).bind fun t19 => (if t14 > t19 then (some false) else ((impl_CostOf.f k y0_0 y0_1 y0_2 y0_3 x5).bind fun t20 => (if t14 = t20 then (if x15 = true then (laws_FnShortWords.l0 k x5 x6 x9 x10 x12 (wrap64 (x14 + 1)) true x114 x115 (wrap64 (x116 + 1)) y0_0 y0_1 y0_2 y0_3) else (if (rdS x114 x116).toList = x5.toList then (laws_FnShortWords.l0 k x5 x6 x9 x10 x12 (wrap64 (x14 + 1)) (decide ((rdS x114 x116).toList = x5.toList)) x114 x115 (wrap64 (x116 + 1)) y0_0 y0_1 y0_2 y0_3) else (some false))) else (if x15 = true then (laws_FnShortWords.l0 k x5 x6 x9 x10 x12 (wrap64 (x14 + 1)) true x114 x115 (wrap64 (x116 + 1)) y0_0 y0_1 y0_2 y0_3) else (laws_FnShortWords.l0 k x5 x6 x9 x10 x12 (wrap64 (x14 + 1)) (decide ((rdS x114 x116).toList = x5.toList)) x114 x115 (wrap64 (x116 + 1)) y0_0 y0_1 y0_2 y0_3)))))) else (laws_FnShortWords.l0 k x5 x6 x9 x10 x12 x14 x15 x114 x115 (wrap64 (x116 + 1)) y0_0 y0_1 y0_2 y0_3))) else (some false)) else none)) else none) else none) else (if x14 = x9 then (if (x6 == (decide (x9 > 0))) = true then (some (x15 == x6)) else (some false)) else (some false)))
def laws_FnShortWords.f (k : Nat) (l0 : List Int) : Option (Bool) := (if (l0.length : Int) > 1048576 then (some true) else ((spec_DrawCostliestWord.f k l0).bind fun t1 => ((impl_CostliestWord.f k t1.1 t1.2.1 t1.2.2.1 t1.2.2.2.1 t1.2.2.2.2).bind fun t2 => ((spec_CostliestWord.f k t1.1 t1.2.1 t1.2.2.1 t1.2.2.2.1 t1.2.2.2.2).bind fun t3 => ((impl_CountAccepted.f k t1.1 t1.2.1 t1.2.2.1 t1.2.2.2.1 t1.2.2.2.2).bind fun t4 => ((impl_ShortWords.f k t1.2.2.2.2).bind fun t5 => ((spec_ShortWords.f k t1.2.2.2.2).bind fun t6 => (if t2.1.toList = t3.1.toList then (if (t2.2 != t3.2) = true then (if (t2.2 == t3.2) = true then ((spec_CountAccepted.f k t1.1 t1.2.1 t1.2.2.1 t1.2.2.2.1 t1.2.2.2.2).bind fun t7 => (if t4 = t7 then (if (t5.1.length : Int) = (t6.1.length : Int) then (if (t5.2 == t6.2) = true then (some (!decide (t2.2 = true))) else (some false)) else (some false)) else (some false))) else (some false)) else ((spec_CountAccepted.f k t1.1 t1.2.1 t1.2.2.1 t1.2.2.2.1 t1.2.2.2.2).bind fun t8 => (if t4 = t8 then (if (t5.1.length : Int) = (t6.1.length : Int) then (if (t5.2 != t6.2) = true then (if (t2.2 == t3.2) = true then ((spec_CountAccepted.f k t1.1 t1.2.1 t1.2.2.1 t1.2.2.2.1 t1.2.2.2.2).bind fun t9 => (if t4 = t9 then (if (t5.2 == t6.2) = true then (some (!decide (t2.2 = true))) else (some false)) else (some false))) else (some false)) else (if t4 < 0 then (if (t2.2 == t3.2) = true then ((spec_CountAccepted.f k t1.1 t1.2.1 t1.2.2.1 t1.2.2.2.1 t1.2.2.2.2).bind fun t10 => (if t4 = t10 then (if (t5.2 == t6.2) = true then (some (!decide (t2.2 = true))) else (some false)) else (some false))) else (some false)) else (laws_FnShortWords.l0 k t2.1 t2.2 t4 t5.1 t6.1 0 false t5.1 (t5.1.length : Int) 0 t1.1 t1.2.1 t1.2.2.1 t1.2.2.2.1))) else (if (t2.2 == t3.2) = true then ((spec_CountAccepted.f k t1.1 t1.2.1 t1.2.2.1 t1.2.2.2.1 t1.2.2.2.2).bind fun t11 => (if t4 = t11 then (some false) else (some false))) else (some false))) else (if (t2.2 == t3.2) = true then ((spec_CountAccepted.f k t1.1 t1.2.1 t1.2.2.1 t1.2.2.2.1 t1.2.2.2.2).bind fun t12 => (if t4 = t12 then (if (t5.1.length : Int) = (t6.1.length : Int) then (if (t5.2 == t6.2) = true then (some (!decide (t2.2 = true))) else (some false)) else (some false)) else (some false))) else (some false))))) else (some false)))))))))
def laws_FnShortWords.en (r : Bool) : Res := (.lit r, [])
def laws_FnShortWords.dec : List AV → List R.Obj → Option (List Int)
  | [.imm (.I .u8 l0)], [] => some l0
  | _, _ => none
def laws_FnShortWords.tw : Tw := ⟨3, List Int, Bool, laws_FnShortWords.dec, fun a => [.imm (.I .u8 a)], fun a => [], fun k a => laws_FnShortWords.f k a, fun a r => laws_FnShortWords.en r, false⟩
theorem laws_FnShortWords.dok : laws_FnShortWords.tw.DecOk := by
  intro args hc a h
  have h : laws_FnShortWords.dec args hc = some a := h
  unfold laws_FnShortWords.dec at h
  split at h
  · cases h; exact ⟨rfl, rfl⟩
  · cases h
noncomputable def laws_FnShortWords.O (k : Nat) : Oracle := (spec_DrawCostliestWord.tw.orc k (impl_CostliestWord.tw.orc k (spec_CostliestWord.tw.orc k (impl_CountAccepted.tw.orc k (impl_ShortWords.tw.orc k (spec_ShortWords.tw.orc k (spec_CountAccepted.tw.orc k (impl_CostOf.tw.orc k noO))))))))
def laws_FnShortWords.fh : FH := ⟨fun i => match i with | 14 => some [(3, 0), (5, 0), (6, 0), (9, 0), (10, 0), (12, 0), (14, 0), (15, 0), (114, 0), (115, 0), (116, 0)] | _ => none, [], false⟩
noncomputable def laws_FnShortWords.x0 (k : Nat) (x5 : ByteArray) (x6 : Bool) (x9 : Int) (x10 : List ByteArray) (x12 : List ByteArray) (x14 : Int) (x15 : Bool) (x114 : List ByteArray) (x115 : Int) (x116 : Int) (y0_0 : Int) (y0_1 : List Int) (y0_2 : List Int) (y0_3 : List Stp) : Option Res := R.exec Try.prog xhn laws_FnShortWords.O 0 Try.f3 laws_FnShortWords.fh k (R.point Try.f3 14) ⟨[(3, .ptr 0 0), (5, .str x5), (6, .lit x6), (9, .int .i64 x9), (10, .imm (.S x10)), (12, .imm (.S x12)), (14, .int .i64 x14), (15, .lit x15), (114, .imm (.S x114)), (115, .int .i64 x115), (116, .int .i64 x116)], [(0, .box false [.int .i64 y0_0, .imm (.I .i64 y0_1), .imm (.I .i64 y0_2), .imm (.T y0_3)])], 3⟩
set_option maxRecDepth 100000 in
theorem laws_FnShortWords.e0 (k : Nat) (x5 : ByteArray) (x6 : Bool) (x9 : Int) (x10 : List ByteArray) (x12 : List ByteArray) (x14 : Int) (x15 : Bool) (x114 : List ByteArray) (x115 : Int) (x116 : Int) (y0_0 : Int) (y0_1 : List Int) (y0_2 : List Int) (y0_3 : List Stp) : laws_FnShortWords.x0 (k + 1) x5 x6 x9 x10 x12 x14 x15 x114 x115 x116 y0_0 y0_1 y0_2 y0_3 = (if x116 < x115 then (if 0 ≤ x116 then (if x116 < (x114.length : Int) then ((impl_CostOf.f k y0_0 y0_1 y0_2 y0_3 (rdS x114 x116)).bind fun t14 => (if x116 < (x12.length : Int) then (if (rdS x114 x116).toList = (rdS x12 x116).toList then (if x116 > 0 then (if 0 ≤ (wr64 (x116 - 1)) then (if (wr64 (x116 - 1)) < (x10.length : Int) then (if ((rdS x114 x116).size : Int) < ((rdS x10 (wr64 (x116 - 1))).size : Int) then (some (laws_FnShortWords.en false)) else (if ((rdS x114 x116).size : Int) = ((rdS x10 (wr64 (x116 - 1))).size : Int) then (if (leS (rdS x114 x116) (rdS x10 (wr64 (x116 - 1)))) = true then (some (laws_FnShortWords.en false)) else (if t14 < 1000000 then ((impl_CostOf.f k y0_0 y0_1 y0_2 y0_3 x5).bind fun t15 => (if t14 > t15 then (some (laws_FnShortWords.en false)) else ((impl_CostOf.f k y0_0 y0_1 y0_2 y0_3 x5).bind fun t16 => (if t14 = t16 then (if x15 = true then (laws_FnShortWords.x0 k x5 x6 x9 x10 x12 (wr64 (x14 + 1)) true x114 x115 (wr64 (x116 + 1)) y0_0 y0_1 y0_2 y0_3) else (if (rdS x114 x116).toList = x5.toList then (laws_FnShortWords.x0 k x5 x6 x9 x10 x12 (wr64 (x14 + 1)) (decide ((rdS x114 x116).toList = x5.toList)) x114 x115 (wr64 (x116 + 1)) y0_0 y0_1 y0_2 y0_3) else (some (laws_FnShortWords.en false)))) else (if x15 = true then (laws_FnShortWords.x0 k x5 x6 x9 x10 x12 (wr64 (x14 + 1)) true x114 x115 (wr64 (x116 + 1)) y0_0 y0_1 y0_2 y0_3) else (laws_FnShortWords.x0 k x5 x6 x9 x10 x12 (wr64 (x14 + 1)) (decide ((rdS x114 x116).toList = x5.toList)) x114 x115 (wr64 (x116 + 1)) y0_0 y0_1 y0_2 y0_3)))))) else (laws_FnShortWords.x0 k x5 x6 x9 x10 x12 x14 x15 x114 x115 (wr64 (x116 + 1)) y0_0 y0_1 y0_2 y0_3))) else (if t14 < 1000000 then ((impl_CostOf.f k y0_0 y0_1 y0_2 y0_3 x5).bind fun t17 => (if t14 > t17 then (some (laws_FnShortWords.en false)) else ((impl_CostOf.f k y0_0 y0_1 y0_2 y0_3 x5).bind fun t18 => (if t14 = t18 then (if x15 = true then (laws_FnShortWords.x0 k x5 x6 x9 x10 x12 (wr64 (x14 + 1)) true x114 x115 (wr64 (x116 + 1)) y0_0 y0_1 y0_2 y0_3) else (if (rdS x114 x116).toList = x5.toList then (laws_FnShortWords.x0 k x5 x6 x9 x10 x12 (wr64 (x14 + 1)) (decide ((rdS x114 x116).toList = x5.toList)) x114 x115 (wr64 (x116 + 1)) y0_0 y0_1 y0_2 y0_3) else (some (laws_FnShortWords.en false)))) else (if x15 = true then (laws_FnShortWords.x0 k x5 x6 x9 x10 x12 (wr64 (x14 + 1)) true x114 x115 (wr64 (x116 + 1)) y0_0 y0_1 y0_2 y0_3) else (laws_FnShortWords.x0 k x5 x6 x9 x10 x12 (wr64 (x14 + 1)) (decide ((rdS x114 x116).toList = x5.toList)) x114 x115 (wr64 (x116 + 1)) y0_0 y0_1 y0_2 y0_3)))))) else (laws_FnShortWords.x0 k x5 x6 x9 x10 x12 x14 x15 x114 x115 (wr64 (x116 + 1)) y0_0 y0_1 y0_2 y0_3)))) else none) else none) else (if t14 < 1000000 then ((impl_CostOf.f k y0_0 y0_1 y0_2 y0_3 x5).bind fun t19 => (if t14 > t19 then (some (laws_FnShortWords.en false)) else ((impl_CostOf.f k y0_0 y0_1 y0_2 y0_3 x5).bind fun t20 => (if t14 = t20 then (if x15 = true then (laws_FnShortWords.x0 k x5 x6 x9 x10 x12 (wr64 (x14 + 1)) true x114 x115 (wr64 (x116 + 1)) y0_0 y0_1 y0_2 y0_3) else (if (rdS x114 x116).toList = x5.toList then (laws_FnShortWords.x0 k x5 x6 x9 x10 x12 (wr64 (x14 + 1)) (decide ((rdS x114 x116).toList = x5.toList)) x114 x115 (wr64 (x116 + 1)) y0_0 y0_1 y0_2 y0_3) else (some (laws_FnShortWords.en false)))) else (if x15 = true then (laws_FnShortWords.x0 k x5 x6 x9 x10 x12 (wr64 (x14 + 1)) true x114 x115 (wr64 (x116 + 1)) y0_0 y0_1 y0_2 y0_3) else (laws_FnShortWords.x0 k x5 x6 x9 x10 x12 (wr64 (x14 + 1)) (decide ((rdS x114 x116).toList = x5.toList)) x114 x115 (wr64 (x116 + 1)) y0_0 y0_1 y0_2 y0_3)))))) else (laws_FnShortWords.x0 k x5 x6 x9 x10 x12 x14 x15 x114 x115 (wr64 (x116 + 1)) y0_0 y0_1 y0_2 y0_3))) else (some (laws_FnShortWords.en false))) else none)) else none) else none) else (if x14 = x9 then (if (x6 == (decide (x9 > 0))) = true then (some (laws_FnShortWords.en (x15 == x6))) else (some (laws_FnShortWords.en false))) else (some (laws_FnShortWords.en false)))) := by
  refine Eq.trans ?_ (R.icong (fun h0 => (R.icong (fun h1 => (R.icong (fun h2 => (R.bcong fun t14 => (R.idropT (p := 0 ≤ x116) (z := none) h1 (R.icong (fun h3 => (R.icong (fun h4 => (R.icong (fun h5 => (R.icong (fun h6 => (R.icong (fun h7 => (R.icong (fun h8 => rfl) (fun h8 => (R.idropT (p := 0 ≤ (wr64 (x116 - 1))) (z := none) h6 (R.idropT (p := (wr64 (x116 - 1)) < (x10.length : Int)) (z := none) h7 (R.icong (fun h9 => (R.idropT (p := 0 ≤ (wr64 (x116 - 1))) (z := none) h6 (R.idropT (p := (wr64 (x116 - 1)) < (x10.length : Int)) (z := none) h7 (R.icong (fun h10 => rfl) (fun h10 => (R.icong (fun h11 => (R.bcong fun t15 => (R.icong (fun h12 => rfl) (fun h12 => (R.bcong fun t16 => (R.icong (fun h13 => (R.icong (fun h14 => (R.idropT (p := x15 = true) (z := (laws_FnShortWords.x0 k x5 x6 x9 x10 x12 (wr64 (x14 + 1)) (decide ((rdS x114 x116).toList = x5.toList)) x114 x115 (wr64 (x116 + 1)) y0_0 y0_1 y0_2 y0_3)) h14 rfl)) (fun h14 => (R.icong (fun h15 => (R.idropF (p := x15 = true) (z := (laws_FnShortWords.x0 k x5 x6 x9 x10 x12 (wr64 (x14 + 1)) true x114 x115 (wr64 (x116 + 1)) y0_0 y0_1 y0_2 y0_3)) h14 rfl)) (fun h15 => rfl))))) (fun h13 => rfl))))))) (fun h11 => rfl))))))) (fun h9 => (R.icong (fun h10 => (R.bcong fun t17 => (R.icong (fun h11 => rfl) (fun h11 => (R.bcong fun t18 => (R.icong (fun h12 => (R.icong (fun h13 => (R.idropT (p := x15 = true) (z := (laws_FnShortWords.x0 k x5 x6 x9 x10 x12 (wr64 (x14 + 1)) (decide ((rdS x114 x116).toList = x5.toList)) x114 x115 (wr64 (x116 + 1)) y0_0 y0_1 y0_2 y0_3)) h13 rfl)) (fun h13 => (R.icong (fun h14 => (R.idropF (p := x15 = true) (z := (laws_FnShortWords.x0 k x5 x6 x9 x10 x12 (wr64 (x14 + 1)) true x114 x115 (wr64 (x116 + 1)) y0_0 y0_1 y0_2 y0_3)) h13 rfl)) (fun h14 => rfl))))) (fun h12 => rfl))))))) (fun h10 => rfl))))))))) (fun h7 => rfl))) (fun h6 => rfl))) (fun h5 => (R.icong (fun h6 => (R.bcong fun t19 => (R.icong (fun h7 => rfl) (fun h7 => (R.bcong fun t20 => (R.icong (fun h8 => (R.icong (fun h9 => (R.idropT (p := x15 = true) (z := (laws_FnShortWords.x0 k x5 x6 x9 x10 x12 (wr64 (x14 + 1)) (decide ((rdS x114 x116).toList = x5.toList)) x114 x115 (wr64 (x116 + 1)) y0_0 y0_1 y0_2 y0_3)) h9 rfl)) (fun h9 => (R.icong (fun h10 => (R.idropF (p := x15 = true) (z := (laws_FnShortWords.x0 k x5 x6 x9 x10 x12 (wr64 (x14 + 1)) true x114 x115 (wr64 (x116 + 1)) y0_0 y0_1 y0_2 y0_3)) h9 rfl)) (fun h10 => rfl))))) (fun h8 => rfl))))))) (fun h6 => rfl))))) (fun h4 => rfl))) (fun h3 => rfl))))) (fun h2 => rfl))) (fun h1 => rfl))) (fun h0 => rfl))
  kernel_rfl
set_option maxRecDepth 100000 in
theorem laws_FnShortWords.ef (k : Nat) (l0 : List Int) : R.start Try.prog xhn laws_FnShortWords.O 0 Try.f3 laws_FnShortWords.fh k [.imm (.I .u8 l0)] [] = (if (l0.length : Int) > 1048576 then (some (laws_FnShortWords.en true)) else ((spec_DrawCostliestWord.f k l0).bind fun t1 => ((impl_CostliestWord.f k t1.1 t1.2.1 t1.2.2.1 t1.2.2.2.1 t1.2.2.2.2).bind fun t2 => ((spec_CostliestWord.f k t1.1 t1.2.1 t1.2.2.1 t1.2.2.2.1 t1.2.2.2.2).bind fun t3 => ((impl_CountAccepted.f k t1.1 t1.2.1 t1.2.2.1 t1.2.2.2.1 t1.2.2.2.2).bind fun t4 => ((impl_ShortWords.f k t1.2.2.2.2).bind fun t5 => ((spec_ShortWords.f k t1.2.2.2.2).bind fun t6 => (if t2.1.toList = t3.1.toList then (if (t2.2 != t3.2) = true then (if (t2.2 == t3.2) = true then ((spec_CountAccepted.f k t1.1 t1.2.1 t1.2.2.1 t1.2.2.2.1 t1.2.2.2.2).bind fun t7 => (if t4 = t7 then (if (t5.1.length : Int) = (t6.1.length : Int) then (if (t5.2 == t6.2) = true then (some (laws_FnShortWords.en (!decide (t2.2 = true)))) else (some (laws_FnShortWords.en false))) else (some (laws_FnShortWords.en false))) else (some (laws_FnShortWords.en false)))) else (some (laws_FnShortWords.en false))) else ((spec_CountAccepted.f k t1.1 t1.2.1 t1.2.2.1 t1.2.2.2.1 t1.2.2.2.2).bind fun t8 => (if t4 = t8 then (if (t5.1.length : Int) = (t6.1.length : Int) then (if (t5.2 != t6.2) = true then (if (t2.2 == t3.2) = true then ((spec_CountAccepted.f k t1.1 t1.2.1 t1.2.2.1 t1.2.2.2.1 t1.2.2.2.2).bind fun t9 => (if t4 = t9 then (if (t5.2 == t6.2) = true then (some (laws_FnShortWords.en (!decide (t2.2 = true)))) else (some (laws_FnShortWords.en false))) else (some (laws_FnShortWords.en false)))) else (some (laws_FnShortWords.en false))) else (if t4 < 0 then (if (t2.2 == t3.2) = true then ((spec_CountAccepted.f k t1.1 t1.2.1 t1.2.2.1 t1.2.2.2.1 t1.2.2.2.2).bind fun t10 => (if t4 = t10 then (if (t5.2 == t6.2) = true then (some (laws_FnShortWords.en (!decide (t2.2 = true)))) else (some (laws_FnShortWords.en false))) else (some (laws_FnShortWords.en false)))) else (some (laws_FnShortWords.en false))) else (laws_FnShortWords.x0 k t2.1 t2.2 t4 t5.1 t6.1 0 false t5.1 (t5.1.length : Int) 0 t1.1 t1.2.1 t1.2.2.1 t1.2.2.2.1))) else (if (t2.2 == t3.2) = true then ((spec_CountAccepted.f k t1.1 t1.2.1 t1.2.2.1 t1.2.2.2.1 t1.2.2.2.2).bind fun t11 => (if t4 = t11 then (some (laws_FnShortWords.en false)) else (some (laws_FnShortWords.en false)))) else (some (laws_FnShortWords.en false)))) else (if (t2.2 == t3.2) = true then ((spec_CountAccepted.f k t1.1 t1.2.1 t1.2.2.1 t1.2.2.2.1 t1.2.2.2.2).bind fun t12 => (if t4 = t12 then (if (t5.1.length : Int) = (t6.1.length : Int) then (if (t5.2 == t6.2) = true then (some (laws_FnShortWords.en (!decide (t2.2 = true)))) else (some (laws_FnShortWords.en false))) else (some (laws_FnShortWords.en false))) else (some (laws_FnShortWords.en false)))) else (some (laws_FnShortWords.en false)))))) else (some (laws_FnShortWords.en false)))))))))) := by
  refine Eq.trans ?_ (R.icong (fun h0 => rfl) (fun h0 => (R.bcong fun t1 => (R.bcong fun t2 => (R.bcong fun t3 => (R.bcong fun t4 => (R.bcong fun t5 => (R.bcong fun t6 => (R.icong (fun h1 => (R.icong (fun h2 => (R.idropT (p := t2.1.toList = t3.1.toList) (z := (some (laws_FnShortWords.en false))) h1 rfl)) (fun h2 => (R.bcong fun t8 => (R.icong (fun h3 => (R.icong (fun h4 => (R.icong (fun h5 => (R.idropT (p := t2.1.toList = t3.1.toList) (z := (some (laws_FnShortWords.en false))) h1 (R.icong (fun h6 => (R.bcong fun t9 => (R.icong (fun h7 => (R.idropT (p := (t5.1.length : Int) = (t6.1.length : Int)) (z := (some (laws_FnShortWords.en false))) h4 rfl)) (fun h7 => rfl)))) (fun h6 => rfl)))) (fun h5 => (R.icong (fun h6 => (R.idropT (p := t2.1.toList = t3.1.toList) (z := (some (laws_FnShortWords.en false))) h1 (R.icong (fun h7 => (R.bcong fun t10 => (R.icong (fun h8 => (R.idropT (p := (t5.1.length : Int) = (t6.1.length : Int)) (z := (some (laws_FnShortWords.en false))) h4 rfl)) (fun h8 => rfl)))) (fun h7 => rfl)))) (fun h6 => rfl))))) (fun h4 => (R.idropT (p := t2.1.toList = t3.1.toList) (z := (some (laws_FnShortWords.en false))) h1 (R.icong (fun h5 => (R.bcong fun t11 => (R.icong (fun h6 => (R.idropF (p := (t5.1.length : Int) = (t6.1.length : Int)) (z := (if (t5.2 == t6.2) = true then (some (laws_FnShortWords.en (!decide (t2.2 = true)))) else (some (laws_FnShortWords.en false)))) h4 rfl)) (fun h6 => rfl)))) (fun h5 => rfl)))))) (fun h3 => (R.idropT (p := t2.1.toList = t3.1.toList) (z := (some (laws_FnShortWords.en false))) h1 rfl))))))) (fun h1 => (R.idropF (p := t2.1.toList = t3.1.toList) (z := (if (t2.2 == t3.2) = true then ((spec_CountAccepted.f k t1.1 t1.2.1 t1.2.2.1 t1.2.2.2.1 t1.2.2.2.2).bind fun t13 => (if t4 = t13 then (if (t5.1.length : Int) = (t6.1.length : Int) then (if (t5.2 == t6.2) = true then (some (laws_FnShortWords.en (!decide (t2.2 = true)))) else (some (laws_FnShortWords.en false))) else (some (laws_FnShortWords.en false))) else (some (laws_FnShortWords.en false)))) else (some (laws_FnShortWords.en false)))) h1 rfl)))))))))))
  kernel_rfl
theorem laws_FnShortWords.link : ∀ k, (∀ (x5 : ByteArray) (x6 : Bool) (x9 : Int) (x10 : List ByteArray) (x12 : List ByteArray) (x14 : Int) (x15 : Bool) (x114 : List ByteArray) (x115 : Int) (x116 : Int) (y0_0 : Int) (y0_1 : List Int) (y0_2 : List Int) (y0_3 : List Stp), laws_FnShortWords.x0 k x5 x6 x9 x10 x12 x14 x15 x114 x115 x116 y0_0 y0_1 y0_2 y0_3 = (laws_FnShortWords.l0 k x5 x6 x9 x10 x12 x14 x15 x114 x115 x116 y0_0 y0_1 y0_2 y0_3).map (laws_FnShortWords.en))
  | 0 => fun _ _ _ _ _ _ _ _ _ _ _ _ _ _ => by simp only [laws_FnShortWords.l0, R.map_none]; rfl
  | k + 1 => by
    have ih0 := laws_FnShortWords.link k
    · intro x5 x6 x9 x10 x12 x14 x15 x114 x115 x116 y0_0 y0_1 y0_2 y0_3
      rw [laws_FnShortWords.e0]
      simp only [laws_FnShortWords.l0, R.map_ite, R.map_bind, R.map_none, R.map_some, R.wr64_eq, ← ih0]
theorem laws_FnShortWords.sf (k : Nat) (l0 : List Int) : R.start Try.prog xhn laws_FnShortWords.O 0 Try.f3 laws_FnShortWords.fh k [.imm (.I .u8 l0)] [] = (laws_FnShortWords.f k l0).map (laws_FnShortWords.en) := by
  have ih0 := laws_FnShortWords.link k
  rw [laws_FnShortWords.ef]
  simp only [laws_FnShortWords.f, R.map_ite, R.map_bind, R.map_none, R.map_some, R.wr64_eq, ← ih0]
theorem laws_FnShortWords.ok (k : Nat) : laws_FnShortWords.tw.Ok Try.prog k := by
  intro md hmd a r h
  refine fn_ok (H := xhn) (fh := laws_FnShortWords.fh) (O := laws_FnShortWords.O) (k := k) Try.func3 (by kernel_rfl) (by kernel_rfl) (fun j _ => (Tw.orc_sound spec_DrawCostliestWord.dok (spec_DrawCostliestWord.ok j) (fun _ => rfl) (Tw.orc_sound impl_CostliestWord.dok (impl_CostliestWord.ok j) (fun q => Bool.noConfusion (show false = true from hmd q)) (Tw.orc_sound spec_CostliestWord.dok (spec_CostliestWord.ok j) (fun _ => rfl) (Tw.orc_sound impl_CountAccepted.dok (impl_CountAccepted.ok j) (fun q => Bool.noConfusion (show false = true from hmd q)) (Tw.orc_sound impl_ShortWords.dok (impl_ShortWords.ok j) (fun _ => rfl) (Tw.orc_sound spec_ShortWords.dok (spec_ShortWords.ok j) (fun _ => rfl) (Tw.orc_sound spec_CountAccepted.dok (spec_CountAccepted.ok j) (fun _ => rfl) (Tw.orc_sound impl_CostOf.dok (impl_CostOf.ok j) (fun q => Bool.noConfusion (show false = true from hmd q)) noO_sound))))))))) (by kernel_rfl) (m := 0) rfl ?_
  refine (laws_FnShortWords.sf k a).trans ?_
  exact congrArg (Option.map _) h
end Go.Proofs.Ythnjbjihphbcpaa.V
end
