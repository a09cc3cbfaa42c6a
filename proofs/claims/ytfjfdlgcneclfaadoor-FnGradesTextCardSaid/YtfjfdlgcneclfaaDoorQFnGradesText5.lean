import Derived.Test.YtfjfdlgcneclfaaDoorQFnGradesText2
import Derived.Test.YtfjfdlgcneclfaaDoorProg
import Derived.WalkKit
import Derived.ProofKit
import Derived.Lib.Bytealg
import Derived.Test.YtfjfdlgcneclfaaDoorQFnGradesText4
section
set_option linter.unusedVariables false
set_option linter.unusedSimpArgs false
namespace Go.Proofs.YtfjfdlgcneclfaaDoor.V
open Go Go.Proofs.YtfjfdlgcneclfaaDoor.R Go.RowKit
def xhn : R.Hints := ⟨fun e => match e with | 3 => some (.I .i64) | 9 => some .S | 74 => some .T | _ => none, fun f => match f with | 27 => 1 | 37 => 1 | 38 => 1 | 39 => 1 | 40 => 1 | 41 => 1 | 53 => 1 | 54 => 1 | 55 => 1 | 70 => 1 | _ => 0⟩
def spec_l13Open.f (l0 : List Int) : Option ((List Int) × Int) := (if (l0.length : Int) > 2000 then (if 2000 ≤ (l0.length : Int) then (some (((l0.drop 0).take (2000 - 0)), 0)) else none) else (some (l0, 0)))
def spec_l13Open.en (r : (List Int) × Int) : Res := (.ptr 0 0, [.box false [.imm (.I .u8 r.1), .int .i64 r.2]])
def spec_l13Open.dec : List AV → List R.Obj → Option (List Int)
  | [.imm (.I .u8 l0)], [] => some l0
  | _, _ => none
def spec_l13Open.tw : Tw := ⟨28, List Int, (List Int) × Int, spec_l13Open.dec, fun a => [.imm (.I .u8 a)], fun a => [], fun k a => spec_l13Open.f a, fun a r => spec_l13Open.en r, true⟩
theorem spec_l13Open.dok : spec_l13Open.tw.DecOk := by
  intro args hc a h
  have h : spec_l13Open.dec args hc = some a := h
  unfold spec_l13Open.dec at h
  split at h
  · cases h; exact ⟨rfl, rfl⟩
  · cases h
noncomputable def spec_l13Open.O (k : Nat) : Oracle := noO
def spec_l13Open.fh : FH := ⟨fun i => match i with | _ => none, [], false⟩
set_option maxRecDepth 100000 in
theorem spec_l13Open.ef (k : Nat) (l0 : List Int) : R.start Tryd.prog xhn spec_l13Open.O 0 Tryd.f28 spec_l13Open.fh k [.imm (.I .u8 l0)] [] = (if (l0.length : Int) > 2000 then (if 2000 ≤ (l0.length : Int) then (some (spec_l13Open.en (((l0.drop 0).take (2000 - 0)), 0))) else none) else (some (spec_l13Open.en (l0, 0)))) := by kernel_rfl
theorem spec_l13Open.sf (k : Nat) (l0 : List Int) : R.start Tryd.prog xhn spec_l13Open.O 0 Tryd.f28 spec_l13Open.fh k [.imm (.I .u8 l0)] [] = (spec_l13Open.f l0).map (spec_l13Open.en) := by
  rw [spec_l13Open.ef]
  simp only [spec_l13Open.f, R.map_ite, R.map_bind, R.map_none, R.map_some, R.wr64_eq]
theorem spec_l13Open.ok (k : Nat) : spec_l13Open.tw.Ok Tryd.prog k := by
  intro md hmd a r h
  refine fn_ok (H := xhn) (fh := spec_l13Open.fh) (O := spec_l13Open.O) (k := k) Tryd.func28 (by kernel_rfl) (by kernel_rfl) (fun j _ => noO_sound) (by kernel_rfl) (m := 0) rfl ?_
  refine (spec_l13Open.sf k a).trans ?_
  exact congrArg (Option.map _) h
def spec_l13Rd_pick.f (a1 : Int) (l2_0 : List Int) (a2_1 : Int) : Option (Int × (List Int) × Int) := (if a1 < 1 then (some (0, l2_0, (wrap64 (a2_1 + 1)))) else (if (l2_0.length : Int) = 0 then (some (0, l2_0, (wrap64 (a2_1 + 1)))) else (if (wrap64 ((wrap64 (a2_1 + 1)) - 1)) < (l2_0.length : Int) then (if 0 ≤ (wrap64 ((wrap64 (a2_1 + 1)) - 1)) then (if a1 = 0 then none else (some (((wrap64 ((rdI l2_0 (wrap64 ((wrap64 (a2_1 + 1)) - 1))))).tmod a1), l2_0, (wrap64 (a2_1 + 1))))) else none) else (if 0 ≤ ((wrap64 ((wrap64 (a2_1 + 1)) - 1)).tmod (l2_0.length : Int)) then (if ((wrap64 ((wrap64 (a2_1 + 1)) - 1)).tmod (l2_0.length : Int)) < (l2_0.length : Int) then (if 0 ≤ ((wrap64 ((wrap64 ((wrap64 ((wrap64 (a2_1 + 1)) - 1)) * 7)) + 3)).tmod (l2_0.length : Int)) then (if ((wrap64 ((wrap64 ((wrap64 ((wrap64 (a2_1 + 1)) - 1)) * 7)) + 3)).tmod (l2_0.length : Int)) < (l2_0.length : Int) then (if a1 = 0 then none else (some (((xorK .i64 (wrap64 ((wrap64 ((wrap64 ((wrap64 ((wrap64 ((rdI l2_0 ((wrap64 ((wrap64 (a2_1 + 1)) - 1)).tmod (l2_0.length : Int))))) * 131)) + (wrap64 ((wrap64 ((rdI l2_0 ((wrap64 ((wrap64 ((wrap64 ((wrap64 (a2_1 + 1)) - 1)) * 7)) + 3)).tmod (l2_0.length : Int))))) * 1117)))) + (wrap64 ((wrap64 ((wrap64 (a2_1 + 1)) - 1)) * 29)))) + (wrap64 ((wrap64 ((wrap64 ((wrap64 (a2_1 + 1)) - 1)).tdiv (l2_0.length : Int))) * 53)))) (wrap64 ((wrap64 ((wrap64 ((wrap64 ((wrap64 ((wrap64 ((rdI l2_0 ((wrap64 ((wrap64 (a2_1 + 1)) - 1)).tmod (l2_0.length : Int))))) * 131)) + (wrap64 ((wrap64 ((rdI l2_0 ((wrap64 ((wrap64 ((wrap64 ((wrap64 (a2_1 + 1)) - 1)) * 7)) + 3)).tmod (l2_0.length : Int))))) * 1117)))) + (wrap64 ((wrap64 ((wrap64 (a2_1 + 1)) - 1)) * 29)))) + (wrap64 ((wrap64 ((wrap64 ((wrap64 (a2_1 + 1)) - 1)).tdiv (l2_0.length : Int))) * 53)))).tdiv 64))).tmod a1), l2_0, (wrap64 (a2_1 + 1))))) else none) else none) else none) else none))))
def spec_l13Rd_pick.en (r : Int × (List Int) × Int) : Res := (.int .i64 r.1, [.box false [.imm (.I .u8 r.2.1), .int .i64 r.2.2]])
def spec_l13Rd_pick.dec : List AV → List R.Obj → Option (Int × (List Int) × Int)
  | [.ptr 0 0, .int .i64 a1], [.box false [.imm (.I .u8 l2_0), .int .i64 a2_1]] => some (a1, l2_0, a2_1)
  | _, _ => none
def spec_l13Rd_pick.tw : Tw := ⟨38, Int × (List Int) × Int, Int × (List Int) × Int, spec_l13Rd_pick.dec, fun a => [.ptr 0 0, .int .i64 a.1], fun a => [.box false [.imm (.I .u8 a.2.1), .int .i64 a.2.2]], fun k a => spec_l13Rd_pick.f a.1 a.2.1 a.2.2, fun a r => spec_l13Rd_pick.en r, true⟩
theorem spec_l13Rd_pick.dok : spec_l13Rd_pick.tw.DecOk := by
  intro args hc a h
  have h : spec_l13Rd_pick.dec args hc = some a := h
  unfold spec_l13Rd_pick.dec at h
  split at h
  · cases h; exact ⟨rfl, rfl⟩
  · cases h
noncomputable def spec_l13Rd_pick.O (k : Nat) : Oracle := noO
def spec_l13Rd_pick.fh : FH := ⟨fun i => match i with | _ => none, [], false⟩
set_option maxRecDepth 100000 in
theorem spec_l13Rd_pick.ef (k : Nat) (a1 : Int) (l2_0 : List Int) (a2_1 : Int) : R.start Tryd.prog xhn spec_l13Rd_pick.O 1 Tryd.f38 spec_l13Rd_pick.fh k [.ptr 0 0, .int .i64 a1] [.box false [.imm (.I .u8 l2_0), .int .i64 a2_1]] = (if a1 < 1 then (some (spec_l13Rd_pick.en (0, l2_0, (wr64 (a2_1 + 1))))) else (if (l2_0.length : Int) = 0 then (some (spec_l13Rd_pick.en (0, l2_0, (wr64 (a2_1 + 1))))) else (if (wr64 ((wr64 (a2_1 + 1)) - 1)) < (l2_0.length : Int) then (if 0 ≤ (wr64 ((wr64 (a2_1 + 1)) - 1)) then (if a1 = 0 then none else (some (spec_l13Rd_pick.en (((wr64 ((rdI l2_0 (wr64 ((wr64 (a2_1 + 1)) - 1))))).tmod a1), l2_0, (wr64 (a2_1 + 1)))))) else none) else (if 0 ≤ ((wr64 ((wr64 (a2_1 + 1)) - 1)).tmod (l2_0.length : Int)) then (if ((wr64 ((wr64 (a2_1 + 1)) - 1)).tmod (l2_0.length : Int)) < (l2_0.length : Int) then (if 0 ≤ ((wr64 ((wr64 ((wr64 ((wr64 (a2_1 + 1)) - 1)) * 7)) + 3)).tmod (l2_0.length : Int)) then (if ((wr64 ((wr64 ((wr64 ((wr64 (a2_1 + 1)) - 1)) * 7)) + 3)).tmod (l2_0.length : Int)) < (l2_0.length : Int) then (if a1 = 0 then none else (some (spec_l13Rd_pick.en (((xorK .i64 (wr64 ((wr64 ((wr64 ((wr64 ((wr64 ((rdI l2_0 ((wr64 ((wr64 (a2_1 + 1)) - 1)).tmod (l2_0.length : Int))))) * 131)) + (wr64 ((wr64 ((rdI l2_0 ((wr64 ((wr64 ((wr64 ((wr64 (a2_1 + 1)) - 1)) * 7)) + 3)).tmod (l2_0.length : Int))))) * 1117)))) + (wr64 ((wr64 ((wr64 (a2_1 + 1)) - 1)) * 29)))) + (wr64 ((wr64 ((wr64 ((wr64 (a2_1 + 1)) - 1)).tdiv (l2_0.length : Int))) * 53)))) (wr64 ((wr64 ((wr64 ((wr64 ((wr64 ((wr64 ((rdI l2_0 ((wr64 ((wr64 (a2_1 + 1)) - 1)).tmod (l2_0.length : Int))))) * 131)) + (wr64 ((wr64 ((rdI l2_0 ((wr64 ((wr64 ((wr64 ((wr64 (a2_1 + 1)) - 1)) * 7)) + 3)).tmod (l2_0.length : Int))))) * 1117)))) + (wr64 ((wr64 ((wr64 (a2_1 + 1)) - 1)) * 29)))) + (wr64 ((wr64 ((wr64 ((wr64 (a2_1 + 1)) - 1)).tdiv (l2_0.length : Int))) * 53)))).tdiv 64))).tmod a1), l2_0, (wr64 (a2_1 + 1)))))) else none) else none) else none) else none)))) := by
  refine Eq.trans ?_ (R.icong (fun h0 => rfl) (fun h0 => (R.icong (fun h1 => rfl) (fun h1 => (R.icong (fun h2 => (R.icong (fun h3 => (R.idropT (p := (wr64 ((wr64 (a2_1 + 1)) - 1)) < (l2_0.length : Int)) (z := none) h2 rfl)) (fun h3 => rfl))) (fun h2 => (R.idropF (p := (l2_0.length : Int) = 0) (z := none) h1 (R.icong (fun h3 => (R.icong (fun h4 => (R.idropF (p := (l2_0.length : Int) = 0) (z := none) h1 (R.icong (fun h5 => (R.icong (fun h6 => (R.idropF (p := (l2_0.length : Int) = 0) (z := none) h1 rfl)) (fun h6 => rfl))) (fun h5 => rfl)))) (fun h4 => rfl))) (fun h3 => rfl)))))))))
  kernel_rfl
theorem spec_l13Rd_pick.sf (k : Nat) (a1 : Int) (l2_0 : List Int) (a2_1 : Int) : R.start Tryd.prog xhn spec_l13Rd_pick.O 1 Tryd.f38 spec_l13Rd_pick.fh k [.ptr 0 0, .int .i64 a1] [.box false [.imm (.I .u8 l2_0), .int .i64 a2_1]] = (spec_l13Rd_pick.f a1 l2_0 a2_1).map (spec_l13Rd_pick.en) := by
  rw [spec_l13Rd_pick.ef]
  simp only [spec_l13Rd_pick.f, R.map_ite, R.map_bind, R.map_none, R.map_some, R.wr64_eq]
theorem spec_l13Rd_pick.ok (k : Nat) : spec_l13Rd_pick.tw.Ok Tryd.prog k := by
  intro md hmd a r h
  refine fn_ok (H := xhn) (fh := spec_l13Rd_pick.fh) (O := spec_l13Rd_pick.O) (k := k) Tryd.func38 (by kernel_rfl) (by kernel_rfl) (fun j _ => noO_sound) (by kernel_rfl) (m := 1) rfl ?_
  refine (spec_l13Rd_pick.sf k a.1 a.2.1 a.2.2).trans ?_
  exact congrArg (Option.map _) h
def spec_l13Rd_num.f (l1 : List Int) (l2_0 : List Int) (a2_1 : Int) : Option (Int × (List Int) × Int) := ((spec_l13Rd_pick.f (l1.length : Int) l2_0 a2_1).bind fun t1 => (if 0 ≤ t1.1 then (if t1.1 < (l1.length : Int) then (some ((rdI l1 t1.1), t1.2.1, t1.2.2)) else none) else none))
def spec_l13Rd_num.en (r : Int × (List Int) × Int) : Res := (.int .i64 r.1, [.box false [.imm (.I .u8 r.2.1), .int .i64 r.2.2]])
def spec_l13Rd_num.dec : List AV → List R.Obj → Option ((List Int) × (List Int) × Int)
  | [.ptr 0 0, .imm (.I .i64 l1)], [.box false [.imm (.I .u8 l2_0), .int .i64 a2_1]] => some (l1, l2_0, a2_1)
  | _, _ => none
def spec_l13Rd_num.tw : Tw := ⟨53, (List Int) × (List Int) × Int, Int × (List Int) × Int, spec_l13Rd_num.dec, fun a => [.ptr 0 0, .imm (.I .i64 a.1)], fun a => [.box false [.imm (.I .u8 a.2.1), .int .i64 a.2.2]], fun k a => spec_l13Rd_num.f a.1 a.2.1 a.2.2, fun a r => spec_l13Rd_num.en r, true⟩
theorem spec_l13Rd_num.dok : spec_l13Rd_num.tw.DecOk := by
  intro args hc a h
  have h : spec_l13Rd_num.dec args hc = some a := h
  unfold spec_l13Rd_num.dec at h
  split at h
  · cases h; exact ⟨rfl, rfl⟩
  · cases h
noncomputable def spec_l13Rd_num.O (k : Nat) : Oracle := (spec_l13Rd_pick.tw.orc k noO)
def spec_l13Rd_num.fh : FH := ⟨fun i => match i with | _ => none, [], false⟩
set_option maxRecDepth 100000 in
theorem spec_l13Rd_num.ef (k : Nat) (l1 : List Int) (l2_0 : List Int) (a2_1 : Int) : R.start Tryd.prog xhn spec_l13Rd_num.O 1 Tryd.f53 spec_l13Rd_num.fh k [.ptr 0 0, .imm (.I .i64 l1)] [.box false [.imm (.I .u8 l2_0), .int .i64 a2_1]] = ((spec_l13Rd_pick.f (l1.length : Int) l2_0 a2_1).bind fun t1 => (if 0 ≤ t1.1 then (if t1.1 < (l1.length : Int) then (some (spec_l13Rd_num.en ((rdI l1 t1.1), t1.2.1, t1.2.2))) else none) else none)) := by kernel_rfl
theorem spec_l13Rd_num.sf (k : Nat) (l1 : List Int) (l2_0 : List Int) (a2_1 : Int) : R.start Tryd.prog xhn spec_l13Rd_num.O 1 Tryd.f53 spec_l13Rd_num.fh k [.ptr 0 0, .imm (.I .i64 l1)] [.box false [.imm (.I .u8 l2_0), .int .i64 a2_1]] = (spec_l13Rd_num.f l1 l2_0 a2_1).map (spec_l13Rd_num.en) := by
  rw [spec_l13Rd_num.ef]
  simp only [spec_l13Rd_num.f, R.map_ite, R.map_bind, R.map_none, R.map_some, R.wr64_eq]
theorem spec_l13Rd_num.ok (k : Nat) : spec_l13Rd_num.tw.Ok Tryd.prog k := by
  intro md hmd a r h
  refine fn_ok (H := xhn) (fh := spec_l13Rd_num.fh) (O := spec_l13Rd_num.O) (k := k) Tryd.func53 (by kernel_rfl) (by kernel_rfl) (fun j _ => (Tw.orc_sound spec_l13Rd_pick.dok (spec_l13Rd_pick.ok j) (fun _ => rfl) noO_sound)) (by kernel_rfl) (m := 1) rfl ?_
  refine (spec_l13Rd_num.sf k a.1 a.2.1 a.2.2).trans ?_
  exact congrArg (Option.map _) h
def spec_l6Draw.l0 : Nat → Int → Int → (List Int) → Int → Int → (List Int) → Option (Int × (List Int) × (List Int) × Int)
  | 0, _, _, _, _, _, _ => none
  | k + 1, x10, x11, y0_0, y0_1, y2_0, y4 => (if x11 < x10 then ((spec_l13Rd_num.f ([3, 0, 1, 3, 2, 1, 0]) y0_0 y0_1).bind fun t1 => (if y4.length < 17592186044416 then (spec_l6Draw.l0 k x10 (wrap64 (x11 + 1)) t1.2.1 t1.2.2 y2_0 (y4 ++ [t1.1])) else none)) else (some (y2_0, y4, y0_0, y0_1)))
def spec_l6Draw.f (k : Nat) (a1 : Int) (l2_0 : List Int) (a2_1 : Int) : Option (Int × (List Int) × (List Int) × Int) := (spec_l6Draw.l0 k (wrap64 (a1 * a1)) 0 l2_0 a2_1 a1 ([] : List Int))
def spec_l6Draw.en (r : Int × (List Int) × (List Int) × Int) : Res := (.agg [.int .i64 r.1, .sl 1 0], [.box false [.imm (.I .u8 r.2.2.1), .int .i64 r.2.2.2], .arr 3 0 (.I .i64 r.2.1) false])
def spec_l6Draw.dec : List AV → List R.Obj → Option (Int × (List Int) × Int)
  | [.ptr 0 0, .int .i64 a1], [.box false [.imm (.I .u8 l2_0), .int .i64 a2_1]] => some (a1, l2_0, a2_1)
  | _, _ => none
def spec_l6Draw.tw : Tw := ⟨37, Int × (List Int) × Int, Int × (List Int) × (List Int) × Int, spec_l6Draw.dec, fun a => [.ptr 0 0, .int .i64 a.1], fun a => [.box false [.imm (.I .u8 a.2.1), .int .i64 a.2.2]], fun k a => spec_l6Draw.f k a.1 a.2.1 a.2.2, fun a r => spec_l6Draw.en r, true⟩
theorem spec_l6Draw.dok : spec_l6Draw.tw.DecOk := by
  intro args hc a h
  have h : spec_l6Draw.dec args hc = some a := h
  unfold spec_l6Draw.dec at h
  split at h
  · cases h; exact ⟨rfl, rfl⟩
  · cases h
noncomputable def spec_l6Draw.O (k : Nat) : Oracle := (spec_l13Rd_num.tw.orc k noO)
def spec_l6Draw.fh : FH := ⟨fun i => match i with | 3 => some [(0, 0), (4, 0), (5, 0), (10, 0), (11, 0)] | _ => none, [(true, 3)], false⟩
noncomputable def spec_l6Draw.x0 (k : Nat) (x10 : Int) (x11 : Int) (y0_0 : List Int) (y0_1 : Int) (y2_0 : Int) (y4 : List Int) : Option Res := R.exec Tryd.prog xhn spec_l6Draw.O 1 Tryd.f37 spec_l6Draw.fh k (R.point Tryd.f37 3) ⟨[(0, .ptr 0 0), (4, .ptr 1 0), (5, .ptr 2 0), (10, .int .i64 x10), (11, .int .i64 x11)], [(0, .box false [.imm (.I .u8 y0_0), .int .i64 y0_1]), (1, .box false [.int .i64 0, .sl 3 0]), (2, .box false [.int .i64 y2_0, .sl 4 0]), (3, .arr 3 0 (.I .i64 ([] : List Int)) false), (4, .arr 3 0 (.I .i64 y4) false)], 7⟩
set_option maxRecDepth 100000 in
theorem spec_l6Draw.e0 (k : Nat) (x10 : Int) (x11 : Int) (y0_0 : List Int) (y0_1 : Int) (y2_0 : Int) (y4 : List Int) : spec_l6Draw.x0 (k + 1) x10 x11 y0_0 y0_1 y2_0 y4 = (if x11 < x10 then ((spec_l13Rd_num.f ([3, 0, 1, 3, 2, 1, 0]) y0_0 y0_1).bind fun t1 => (if y4.length < 17592186044416 then (spec_l6Draw.x0 k x10 (wr64 (x11 + 1)) t1.2.1 t1.2.2 y2_0 (y4 ++ [t1.1])) else none)) else (some (spec_l6Draw.en (y2_0, y4, y0_0, y0_1)))) := by kernel_rfl
set_option maxRecDepth 100000 in
theorem spec_l6Draw.ef (k : Nat) (a1 : Int) (l2_0 : List Int) (a2_1 : Int) : R.start Tryd.prog xhn spec_l6Draw.O 1 Tryd.f37 spec_l6Draw.fh k [.ptr 0 0, .int .i64 a1] [.box false [.imm (.I .u8 l2_0), .int .i64 a2_1]] = (spec_l6Draw.x0 k (wr64 (a1 * a1)) 0 l2_0 a2_1 a1 ([] : List Int)) := by kernel_rfl
theorem spec_l6Draw.link : ∀ k, (∀ (x10 : Int) (x11 : Int) (y0_0 : List Int) (y0_1 : Int) (y2_0 : Int) (y4 : List Int), spec_l6Draw.x0 k x10 x11 y0_0 y0_1 y2_0 y4 = (spec_l6Draw.l0 k x10 x11 y0_0 y0_1 y2_0 y4).map (spec_l6Draw.en))
  | 0 => fun _ _ _ _ _ _ => by simp only [spec_l6Draw.l0, R.map_none]; rfl
  | k + 1 => by
    have ih0 := spec_l6Draw.link k
    · intro x10 x11 y0_0 y0_1 y2_0 y4
      rw [spec_l6Draw.e0]
      simp only [spec_l6Draw.l0, R.map_ite, R.map_bind, R.map_none, R.map_some, R.wr64_eq, ← ih0]
theorem spec_l6Draw.sf (k : Nat) (a1 : Int) (l2_0 : List Int) (a2_1 : Int) : R.start Tryd.prog xhn spec_l6Draw.O 1 Tryd.f37 spec_l6Draw.fh k [.ptr 0 0, .int .i64 a1] [.box false [.imm (.I .u8 l2_0), .int .i64 a2_1]] = (spec_l6Draw.f k a1 l2_0 a2_1).map (spec_l6Draw.en) := by
  have ih0 := spec_l6Draw.link k
  rw [spec_l6Draw.ef]
  simp only [spec_l6Draw.f, R.map_ite, R.map_bind, R.map_none, R.map_some, R.wr64_eq, ← ih0]
theorem spec_l6Draw.ok (k : Nat) : spec_l6Draw.tw.Ok Tryd.prog k := by
  intro md hmd a r h
  refine fn_ok (H := xhn) (fh := spec_l6Draw.fh) (O := spec_l6Draw.O) (k := k) Tryd.func37 (by kernel_rfl) (by kernel_rfl) (fun j _ => (Tw.orc_sound spec_l13Rd_num.dok (spec_l13Rd_num.ok j) (fun _ => rfl) noO_sound)) (by kernel_rfl) (m := 1) rfl ?_
  refine (spec_l6Draw.sf k a.1 a.2.1 a.2.2).trans ?_
  exact congrArg (Option.map _) h
def spec_l6Bad.f (a1_0 : Int) (l1_1 : List Int) (l2_0 : List Int) (a2_1 : Int) : Option (Int × (List Int) × (List Int) × Int) := ((spec_l13Rd_pick.f 24 l2_0 a2_1).bind fun t1 => (if t1.1 = 0 then ((spec_l13Rd_num.f ([4, (-1), 1000000]) t1.2.1 t1.2.2).bind fun t2 => (if 1 ≤ (l1_1.length : Int) then (if (l1_1.length : Int) ≤ (l1_1.length : Int) then (if [t2.1].length + ((l1_1.drop 1).take (l1_1.length - 1)).length ≤ 17592186044416 then (some (a1_0, ([t2.1] ++ ((l1_1.drop 1).take (l1_1.length - 1))), t2.2.1, t2.2.2)) else none) else none) else none)) else (if t1.1 = 1 then ((spec_l13Rd_num.f ([0, 5, 1]) t1.2.1 t1.2.2).bind fun t3 => (some (t3.1, l1_1, t3.2.1, t3.2.2))) else (some (a1_0, l1_1, t1.2.1, t1.2.2)))))
def spec_l6Bad.en (r : Int × (List Int) × (List Int) × Int) : Res := (.agg [.int .i64 r.1, .imm (.I .i64 r.2.1)], [.box false [.imm (.I .u8 r.2.2.1), .int .i64 r.2.2.2]])
def spec_l6Bad.dec : List AV → List R.Obj → Option (Int × (List Int) × (List Int) × Int)
  | [.ptr 0 0, .agg [.int .i64 a1_0, .imm (.I .i64 l1_1)]], [.box false [.imm (.I .u8 l2_0), .int .i64 a2_1]] => some (a1_0, l1_1, l2_0, a2_1)
  | _, _ => none
def spec_l6Bad.tw : Tw := ⟨41, Int × (List Int) × (List Int) × Int, Int × (List Int) × (List Int) × Int, spec_l6Bad.dec, fun a => [.ptr 0 0, .agg [.int .i64 a.1, .imm (.I .i64 a.2.1)]], fun a => [.box false [.imm (.I .u8 a.2.2.1), .int .i64 a.2.2.2]], fun k a => spec_l6Bad.f a.1 a.2.1 a.2.2.1 a.2.2.2, fun a r => spec_l6Bad.en r, true⟩
theorem spec_l6Bad.dok : spec_l6Bad.tw.DecOk := by
  intro args hc a h
  have h : spec_l6Bad.dec args hc = some a := h
  unfold spec_l6Bad.dec at h
  split at h
  · cases h; exact ⟨rfl, rfl⟩
  · cases h
noncomputable def spec_l6Bad.O (k : Nat) : Oracle := (spec_l13Rd_pick.tw.orc k (spec_l13Rd_num.tw.orc k noO))
def spec_l6Bad.fh : FH := ⟨fun i => match i with | _ => none, [(false, 3)], false⟩
set_option maxRecDepth 100000 in
theorem spec_l6Bad.ef (k : Nat) (a1_0 : Int) (l1_1 : List Int) (l2_0 : List Int) (a2_1 : Int) : R.start Tryd.prog xhn spec_l6Bad.O 1 Tryd.f41 spec_l6Bad.fh k [.ptr 0 0, .agg [.int .i64 a1_0, .imm (.I .i64 l1_1)]] [.box false [.imm (.I .u8 l2_0), .int .i64 a2_1]] = ((spec_l13Rd_pick.f 24 l2_0 a2_1).bind fun t1 => (if t1.1 = 0 then ((spec_l13Rd_num.f ([4, (-1), 1000000]) t1.2.1 t1.2.2).bind fun t2 => (if 1 ≤ (l1_1.length : Int) then (if (l1_1.length : Int) ≤ (l1_1.length : Int) then (if [t2.1].length + ((l1_1.drop 1).take (l1_1.length - 1)).length ≤ 17592186044416 then (some (spec_l6Bad.en (a1_0, ([t2.1] ++ ((l1_1.drop 1).take (l1_1.length - 1))), t2.2.1, t2.2.2))) else none) else none) else none)) else (if t1.1 = 1 then ((spec_l13Rd_num.f ([0, 5, 1]) t1.2.1 t1.2.2).bind fun t3 => (some (spec_l6Bad.en (t3.1, l1_1, t3.2.1, t3.2.2)))) else (some (spec_l6Bad.en (a1_0, l1_1, t1.2.1, t1.2.2)))))) := by kernel_rfl
theorem spec_l6Bad.sf (k : Nat) (a1_0 : Int) (l1_1 : List Int) (l2_0 : List Int) (a2_1 : Int) : R.start Tryd.prog xhn spec_l6Bad.O 1 Tryd.f41 spec_l6Bad.fh k [.ptr 0 0, .agg [.int .i64 a1_0, .imm (.I .i64 l1_1)]] [.box false [.imm (.I .u8 l2_0), .int .i64 a2_1]] = (spec_l6Bad.f a1_0 l1_1 l2_0 a2_1).map (spec_l6Bad.en) := by
  rw [spec_l6Bad.ef]
  simp only [spec_l6Bad.f, R.map_ite, R.map_bind, R.map_none, R.map_some, R.wr64_eq]
theorem spec_l6Bad.ok (k : Nat) : spec_l6Bad.tw.Ok Tryd.prog k := by
  intro md hmd a r h
  refine fn_ok (H := xhn) (fh := spec_l6Bad.fh) (O := spec_l6Bad.O) (k := k) Tryd.func41 (by kernel_rfl) (by kernel_rfl) (fun j _ => (Tw.orc_sound spec_l13Rd_pick.dok (spec_l13Rd_pick.ok j) (fun _ => rfl) (Tw.orc_sound spec_l13Rd_num.dok (spec_l13Rd_num.ok j) (fun _ => rfl) noO_sound))) (by kernel_rfl) (m := 1) rfl ?_
  refine (spec_l6Bad.sf k a.1 a.2.1 a.2.2.1 a.2.2.2).trans ?_
  exact congrArg (Option.map _) h
def spec_l6Some.f (k : Nat) (l1_0 : List Int) (a1_1 : Int) : Option (Int × (List Int) × (List Int) × Int) := ((spec_l13Rd_pick.f 4 l1_0 a1_1).bind fun t1 => ((spec_l6Draw.f k (wrap64 (1 + t1.1)) t1.2.1 t1.2.2).bind fun t2 => ((spec_l6Bad.f t2.1 t2.2.1 t2.2.2.1 t2.2.2.2).bind fun t3 => (some (t3.1, t3.2.1, t3.2.2.1, t3.2.2.2)))))
def spec_l6Some.en (r : Int × (List Int) × (List Int) × Int) : Res := (.agg [.int .i64 r.1, .imm (.I .i64 r.2.1)], [.box false [.imm (.I .u8 r.2.2.1), .int .i64 r.2.2.2]])
def spec_l6Some.dec : List AV → List R.Obj → Option ((List Int) × Int)
  | [.ptr 0 0], [.box false [.imm (.I .u8 l1_0), .int .i64 a1_1]] => some (l1_0, a1_1)
  | _, _ => none
def spec_l6Some.tw : Tw := ⟨27, (List Int) × Int, Int × (List Int) × (List Int) × Int, spec_l6Some.dec, fun a => [.ptr 0 0], fun a => [.box false [.imm (.I .u8 a.1), .int .i64 a.2]], fun k a => spec_l6Some.f k a.1 a.2, fun a r => spec_l6Some.en r, true⟩
theorem spec_l6Some.dok : spec_l6Some.tw.DecOk := by
  intro args hc a h
  have h : spec_l6Some.dec args hc = some a := h
  unfold spec_l6Some.dec at h
  split at h
  · cases h; exact ⟨rfl, rfl⟩
  · cases h
noncomputable def spec_l6Some.O (k : Nat) : Oracle := (spec_l13Rd_pick.tw.orc k (spec_l6Draw.tw.orc k (spec_l6Bad.tw.orc k noO)))
def spec_l6Some.fh : FH := ⟨fun i => match i with | _ => none, [(false, 3)], false⟩
set_option maxRecDepth 100000 in
theorem spec_l6Some.ef (k : Nat) (l1_0 : List Int) (a1_1 : Int) : R.start Tryd.prog xhn spec_l6Some.O 1 Tryd.f27 spec_l6Some.fh k [.ptr 0 0] [.box false [.imm (.I .u8 l1_0), .int .i64 a1_1]] = ((spec_l13Rd_pick.f 4 l1_0 a1_1).bind fun t1 => ((spec_l6Draw.f k (wr64 (1 + t1.1)) t1.2.1 t1.2.2).bind fun t2 => ((spec_l6Bad.f t2.1 t2.2.1 t2.2.2.1 t2.2.2.2).bind fun t3 => (some (spec_l6Some.en (t3.1, t3.2.1, t3.2.2.1, t3.2.2.2)))))) := by kernel_rfl
theorem spec_l6Some.sf (k : Nat) (l1_0 : List Int) (a1_1 : Int) : R.start Tryd.prog xhn spec_l6Some.O 1 Tryd.f27 spec_l6Some.fh k [.ptr 0 0] [.box false [.imm (.I .u8 l1_0), .int .i64 a1_1]] = (spec_l6Some.f k l1_0 a1_1).map (spec_l6Some.en) := by
  rw [spec_l6Some.ef]
  simp only [spec_l6Some.f, R.map_ite, R.map_bind, R.map_none, R.map_some, R.wr64_eq]
theorem spec_l6Some.ok (k : Nat) : spec_l6Some.tw.Ok Tryd.prog k := by
  intro md hmd a r h
  refine fn_ok (H := xhn) (fh := spec_l6Some.fh) (O := spec_l6Some.O) (k := k) Tryd.func27 (by kernel_rfl) (by kernel_rfl) (fun j _ => (Tw.orc_sound spec_l13Rd_pick.dok (spec_l13Rd_pick.ok j) (fun _ => rfl) (Tw.orc_sound spec_l6Draw.dok (spec_l6Draw.ok j) (fun _ => rfl) (Tw.orc_sound spec_l6Bad.dok (spec_l6Bad.ok j) (fun _ => rfl) noO_sound)))) (by kernel_rfl) (m := 1) rfl ?_
  refine (spec_l6Some.sf k a.1 a.2).trans ?_
  exact congrArg (Option.map _) h
def spec_DrawFormatGrades.f (k : Nat) (l0 : List Int) : Option (Int × (List Int)) := ((spec_l13Open.f l0).bind fun t1 => ((spec_l6Some.f k t1.1 t1.2).bind fun t2 => (some (t2.1, t2.2.1))))
def spec_DrawFormatGrades.en (r : Int × (List Int)) : Res := (.agg [.int .i64 r.1, .imm (.I .i64 r.2)], [])
def spec_DrawFormatGrades.dec : List AV → List R.Obj → Option (List Int)
  | [.imm (.I .u8 l0)], [] => some l0
  | _, _ => none
def spec_DrawFormatGrades.tw : Tw := ⟨10, List Int, Int × (List Int), spec_DrawFormatGrades.dec, fun a => [.imm (.I .u8 a)], fun a => [], fun k a => spec_DrawFormatGrades.f k a, fun a r => spec_DrawFormatGrades.en r, true⟩
theorem spec_DrawFormatGrades.dok : spec_DrawFormatGrades.tw.DecOk := by
  intro args hc a h
  have h : spec_DrawFormatGrades.dec args hc = some a := h
  unfold spec_DrawFormatGrades.dec at h
  split at h
  · cases h; exact ⟨rfl, rfl⟩
  · cases h
noncomputable def spec_DrawFormatGrades.O (k : Nat) : Oracle := (spec_l13Open.tw.orc k (spec_l6Some.tw.orc k noO))
def spec_DrawFormatGrades.fh : FH := ⟨fun i => match i with | _ => none, [(false, 3)], false⟩
set_option maxRecDepth 100000 in
theorem spec_DrawFormatGrades.ef (k : Nat) (l0 : List Int) : R.start Tryd.prog xhn spec_DrawFormatGrades.O 0 Tryd.f10 spec_DrawFormatGrades.fh k [.imm (.I .u8 l0)] [] = ((spec_l13Open.f l0).bind fun t1 => ((spec_l6Some.f k t1.1 t1.2).bind fun t2 => (some (spec_DrawFormatGrades.en (t2.1, t2.2.1))))) := by kernel_rfl
theorem spec_DrawFormatGrades.sf (k : Nat) (l0 : List Int) : R.start Tryd.prog xhn spec_DrawFormatGrades.O 0 Tryd.f10 spec_DrawFormatGrades.fh k [.imm (.I .u8 l0)] [] = (spec_DrawFormatGrades.f k l0).map (spec_DrawFormatGrades.en) := by
  rw [spec_DrawFormatGrades.ef]
  simp only [spec_DrawFormatGrades.f, R.map_ite, R.map_bind, R.map_none, R.map_some, R.wr64_eq]
theorem spec_DrawFormatGrades.ok (k : Nat) : spec_DrawFormatGrades.tw.Ok Tryd.prog k := by
  intro md hmd a r h
  refine fn_ok (H := xhn) (fh := spec_DrawFormatGrades.fh) (O := spec_DrawFormatGrades.O) (k := k) Tryd.func10 (by kernel_rfl) (by kernel_rfl) (fun j _ => (Tw.orc_sound spec_l13Open.dok (spec_l13Open.ok j) (fun _ => rfl) (Tw.orc_sound spec_l6Some.dok (spec_l6Some.ok j) (fun _ => rfl) noO_sound))) (by kernel_rfl) (m := 0) rfl ?_
  refine (spec_DrawFormatGrades.sf k a).trans ?_
  exact congrArg (Option.map _) h
def impl_CostValid.f (a0 : Int) : Option (Bool) := (if a0 ≥ 0 then (some (decide (a0 ≤ 1000000))) else (some false))
def impl_CostValid.en (r : Bool) : Res := (.lit r, [])
def impl_CostValid.dec : List AV → List R.Obj → Option (Int)
  | [.int .i64 a0], [] => some a0
  | _, _ => none
def impl_CostValid.tw : Tw := ⟨50, Int, Bool, impl_CostValid.dec, fun a => [.int .i64 a], fun a => [], fun k a => impl_CostValid.f a, fun a r => impl_CostValid.en r, true⟩
theorem impl_CostValid.dok : impl_CostValid.tw.DecOk := by
  intro args hc a h
  have h : impl_CostValid.dec args hc = some a := h
  unfold impl_CostValid.dec at h
  split at h
  · cases h; exact ⟨rfl, rfl⟩
  · cases h
noncomputable def impl_CostValid.O (k : Nat) : Oracle := noO
def impl_CostValid.fh : FH := ⟨fun i => match i with | _ => none, [], false⟩
set_option maxRecDepth 100000 in
theorem impl_CostValid.ef (k : Nat) (a0 : Int) : R.start Tryd.prog xhn impl_CostValid.O 0 Tryd.f50 impl_CostValid.fh k [.int .i64 a0] [] = (if a0 ≥ 0 then (some (impl_CostValid.en (decide (a0 ≤ 1000000)))) else (some (impl_CostValid.en false))) := by kernel_rfl
theorem impl_CostValid.sf (k : Nat) (a0 : Int) : R.start Tryd.prog xhn impl_CostValid.O 0 Tryd.f50 impl_CostValid.fh k [.int .i64 a0] [] = (impl_CostValid.f a0).map (impl_CostValid.en) := by
  rw [impl_CostValid.ef]
  simp only [impl_CostValid.f, R.map_ite, R.map_bind, R.map_none, R.map_some, R.wr64_eq]
theorem impl_CostValid.ok (k : Nat) : impl_CostValid.tw.Ok Tryd.prog k := by
  intro md hmd a r h
  refine fn_ok (H := xhn) (fh := impl_CostValid.fh) (O := impl_CostValid.O) (k := k) Tryd.func50 (by kernel_rfl) (by kernel_rfl) (fun j _ => noO_sound) (by kernel_rfl) (m := 0) rfl ?_
  refine (impl_CostValid.sf k a).trans ?_
  exact congrArg (Option.map _) h
def impl_MatrixValid_1.f (a0 : Int) : Option (Bool) := ((impl_CostValid.f a0).bind fun t1 => (some (!decide (t1 = true))))
def impl_MatrixValid_1.en (r : Bool) : Res := (.lit r, [])
def impl_MatrixValid_1.dec : List AV → List R.Obj → Option (Int)
  | [.int .i64 a0], [] => some a0
  | _, _ => none
def impl_MatrixValid_1.tw : Tw := ⟨49, Int, Bool, impl_MatrixValid_1.dec, fun a => [.int .i64 a], fun a => [], fun k a => impl_MatrixValid_1.f a, fun a r => impl_MatrixValid_1.en r, true⟩
theorem impl_MatrixValid_1.dok : impl_MatrixValid_1.tw.DecOk := by
  intro args hc a h
  have h : impl_MatrixValid_1.dec args hc = some a := h
  unfold impl_MatrixValid_1.dec at h
  split at h
  · cases h; exact ⟨rfl, rfl⟩
  · cases h
noncomputable def impl_MatrixValid_1.O (k : Nat) : Oracle := (impl_CostValid.tw.orc k noO)
def impl_MatrixValid_1.fh : FH := ⟨fun i => match i with | _ => none, [], false⟩
set_option maxRecDepth 100000 in
theorem impl_MatrixValid_1.ef (k : Nat) (a0 : Int) : R.start Tryd.prog xhn impl_MatrixValid_1.O 0 Tryd.f49 impl_MatrixValid_1.fh k [.int .i64 a0] [] = ((impl_CostValid.f a0).bind fun t1 => (some (impl_MatrixValid_1.en (!decide (t1 = true))))) := by kernel_rfl
theorem impl_MatrixValid_1.sf (k : Nat) (a0 : Int) : R.start Tryd.prog xhn impl_MatrixValid_1.O 0 Tryd.f49 impl_MatrixValid_1.fh k [.int .i64 a0] [] = (impl_MatrixValid_1.f a0).map (impl_MatrixValid_1.en) := by
  rw [impl_MatrixValid_1.ef]
  simp only [impl_MatrixValid_1.f, R.map_ite, R.map_bind, R.map_none, R.map_some, R.wr64_eq]
theorem impl_MatrixValid_1.ok (k : Nat) : impl_MatrixValid_1.tw.Ok Tryd.prog k := by
  intro md hmd a r h
  refine fn_ok (H := xhn) (fh := impl_MatrixValid_1.fh) (O := impl_MatrixValid_1.O) (k := k) Tryd.func49 (by kernel_rfl) (by kernel_rfl) (fun j _ => (Tw.orc_sound impl_CostValid.dok (impl_CostValid.ok j) (fun _ => rfl) noO_sound)) (by kernel_rfl) (m := 0) rfl ?_
  refine (impl_MatrixValid_1.sf k a).trans ?_
  exact congrArg (Option.map _) h
def slices_IndexFunc_int_int.l0 : Nat → (List Int) → Int → Int → Option (Int)
  | 0, _, _, _ => none
  | k + 1, x0, x7, x8 => (if x8 < x7 then (if 0 ≤ x8 then (if x8 < (x0.length : Int) then ((impl_MatrixValid_1.f (rdI x0 x8)).bind fun t1 => (if t1 = true then (some x8) else (slices_IndexFunc_int_int.l0 k x0 x7 (wrap64 (x8 + 1))))) else none) else none) else (some (-1)))
def slices_IndexFunc_int_int.f (k : Nat) (l0 : List Int) : Option (Int) := (slices_IndexFunc_int_int.l0 k l0 (l0.length : Int) 0)
def slices_IndexFunc_int_int.en (r : Int) : Res := (.int .i64 r, [])
def slices_IndexFunc_int_int.dec : List AV → List R.Obj → Option (List Int)
  | [.imm (.I .i64 l0), .clo 49 []], [] => some l0
  | _, _ => none
def slices_IndexFunc_int_int.tw : Tw := ⟨51, List Int, Int, slices_IndexFunc_int_int.dec, fun a => [.imm (.I .i64 a), .clo 49 []], fun a => [], fun k a => slices_IndexFunc_int_int.f k a, fun a r => slices_IndexFunc_int_int.en r, true⟩
theorem slices_IndexFunc_int_int.dok : slices_IndexFunc_int_int.tw.DecOk := by
  intro args hc a h
  have h : slices_IndexFunc_int_int.dec args hc = some a := h
  unfold slices_IndexFunc_int_int.dec at h
  split at h
  · cases h; exact ⟨rfl, rfl⟩
  · cases h
noncomputable def slices_IndexFunc_int_int.O (k : Nat) : Oracle := (impl_MatrixValid_1.tw.orc k noO)
def slices_IndexFunc_int_int.fh : FH := ⟨fun i => match i with | 2 => some [(0, 0), (1, 0), (7, 0), (8, 0)] | _ => none, [], false⟩
noncomputable def slices_IndexFunc_int_int.x0 (k : Nat) (x0 : List Int) (x7 : Int) (x8 : Int) : Option Res := R.exec Tryd.prog xhn slices_IndexFunc_int_int.O 0 Tryd.f51 slices_IndexFunc_int_int.fh k (R.point Tryd.f51 2) ⟨[(0, .imm (.I .i64 x0)), (1, .clo 49 []), (7, .int .i64 x7), (8, .int .i64 x8)], [], 2⟩
set_option maxRecDepth 100000 in
theorem slices_IndexFunc_int_int.e0 (k : Nat) (x0 : List Int) (x7 : Int) (x8 : Int) : slices_IndexFunc_int_int.x0 (k + 1) x0 x7 x8 = (if x8 < x7 then (if 0 ≤ x8 then (if x8 < (x0.length : Int) then ((impl_MatrixValid_1.f (rdI x0 x8)).bind fun t1 => (if t1 = true then (some (slices_IndexFunc_int_int.en x8)) else (slices_IndexFunc_int_int.x0 k x0 x7 (wr64 (x8 + 1))))) else none) else none) else (some (slices_IndexFunc_int_int.en (-1)))) := by kernel_rfl
set_option maxRecDepth 100000 in
theorem slices_IndexFunc_int_int.ef (k : Nat) (l0 : List Int) : R.start Tryd.prog xhn slices_IndexFunc_int_int.O 0 Tryd.f51 slices_IndexFunc_int_int.fh k [.imm (.I .i64 l0), .clo 49 []] [] = (slices_IndexFunc_int_int.x0 k l0 (l0.length : Int) 0) := by kernel_rfl
theorem slices_IndexFunc_int_int.link : ∀ k, (∀ (x0 : List Int) (x7 : Int) (x8 : Int), slices_IndexFunc_int_int.x0 k x0 x7 x8 = (slices_IndexFunc_int_int.l0 k x0 x7 x8).map (slices_IndexFunc_int_int.en))
  | 0 => fun _ _ _ => by simp only [slices_IndexFunc_int_int.l0, R.map_none]; rfl
  | k + 1 => by
    have ih0 := slices_IndexFunc_int_int.link k
    · intro x0 x7 x8
      rw [slices_IndexFunc_int_int.e0]
      simp only [slices_IndexFunc_int_int.l0, R.map_ite, R.map_bind, R.map_none, R.map_some, R.wr64_eq, ← ih0]
theorem slices_IndexFunc_int_int.sf (k : Nat) (l0 : List Int) : R.start Tryd.prog xhn slices_IndexFunc_int_int.O 0 Tryd.f51 slices_IndexFunc_int_int.fh k [.imm (.I .i64 l0), .clo 49 []] [] = (slices_IndexFunc_int_int.f k l0).map (slices_IndexFunc_int_int.en) := by
  have ih0 := slices_IndexFunc_int_int.link k
  rw [slices_IndexFunc_int_int.ef]
  simp only [slices_IndexFunc_int_int.f, R.map_ite, R.map_bind, R.map_none, R.map_some, R.wr64_eq, ← ih0]
theorem slices_IndexFunc_int_int.ok (k : Nat) : slices_IndexFunc_int_int.tw.Ok Tryd.prog k := by
  intro md hmd a r h
  refine fn_ok (H := xhn) (fh := slices_IndexFunc_int_int.fh) (O := slices_IndexFunc_int_int.O) (k := k) Tryd.func51 (by kernel_rfl) (by kernel_rfl) (fun j _ => (Tw.orc_sound impl_MatrixValid_1.dok (impl_MatrixValid_1.ok j) (fun _ => rfl) noO_sound)) (by kernel_rfl) (m := 0) rfl ?_
  refine (slices_IndexFunc_int_int.sf k a).trans ?_
  exact congrArg (Option.map _) h
def slices_ContainsFunc_int_int.f (k : Nat) (l0 : List Int) : Option (Bool) := ((slices_IndexFunc_int_int.f k l0).bind fun t1 => (some (decide (t1 ≥ 0))))
def slices_ContainsFunc_int_int.en (r : Bool) : Res := (.lit r, [])
def slices_ContainsFunc_int_int.dec : List AV → List R.Obj → Option (List Int)
  | [.imm (.I .i64 l0), .clo 49 []], [] => some l0
  | _, _ => none
def slices_ContainsFunc_int_int.tw : Tw := ⟨32, List Int, Bool, slices_ContainsFunc_int_int.dec, fun a => [.imm (.I .i64 a), .clo 49 []], fun a => [], fun k a => slices_ContainsFunc_int_int.f k a, fun a r => slices_ContainsFunc_int_int.en r, true⟩
theorem slices_ContainsFunc_int_int.dok : slices_ContainsFunc_int_int.tw.DecOk := by
  intro args hc a h
  have h : slices_ContainsFunc_int_int.dec args hc = some a := h
  unfold slices_ContainsFunc_int_int.dec at h
  split at h
  · cases h; exact ⟨rfl, rfl⟩
  · cases h
noncomputable def slices_ContainsFunc_int_int.O (k : Nat) : Oracle := (slices_IndexFunc_int_int.tw.orc k noO)
def slices_ContainsFunc_int_int.fh : FH := ⟨fun i => match i with | _ => none, [], false⟩
set_option maxRecDepth 100000 in
theorem slices_ContainsFunc_int_int.ef (k : Nat) (l0 : List Int) : R.start Tryd.prog xhn slices_ContainsFunc_int_int.O 0 Tryd.f32 slices_ContainsFunc_int_int.fh k [.imm (.I .i64 l0), .clo 49 []] [] = ((slices_IndexFunc_int_int.f k l0).bind fun t1 => (some (slices_ContainsFunc_int_int.en (decide (t1 ≥ 0))))) := by kernel_rfl
theorem slices_ContainsFunc_int_int.sf (k : Nat) (l0 : List Int) : R.start Tryd.prog xhn slices_ContainsFunc_int_int.O 0 Tryd.f32 slices_ContainsFunc_int_int.fh k [.imm (.I .i64 l0), .clo 49 []] [] = (slices_ContainsFunc_int_int.f k l0).map (slices_ContainsFunc_int_int.en) := by
  rw [slices_ContainsFunc_int_int.ef]
  simp only [slices_ContainsFunc_int_int.f, R.map_ite, R.map_bind, R.map_none, R.map_some, R.wr64_eq]
theorem slices_ContainsFunc_int_int.ok (k : Nat) : slices_ContainsFunc_int_int.tw.Ok Tryd.prog k := by
  intro md hmd a r h
  refine fn_ok (H := xhn) (fh := slices_ContainsFunc_int_int.fh) (O := slices_ContainsFunc_int_int.O) (k := k) Tryd.func32 (by kernel_rfl) (by kernel_rfl) (fun j _ => (Tw.orc_sound slices_IndexFunc_int_int.dok (slices_IndexFunc_int_int.ok j) (fun _ => rfl) noO_sound)) (by kernel_rfl) (m := 0) rfl ?_
  refine (slices_ContainsFunc_int_int.sf k a).trans ?_
  exact congrArg (Option.map _) h
def impl_MatrixValid.f (k : Nat) (a0_0 : Int) (l0_1 : List Int) : Option (Bool) := (if a0_0 < 1 then (some false) else (if a0_0 > 4 then (some false) else (if (l0_1.length : Int) = (wrap64 (a0_0 * a0_0)) then ((slices_ContainsFunc_int_int.f k l0_1).bind fun t1 => (some (!decide (t1 = true)))) else (some false))))
def impl_MatrixValid.en (r : Bool) : Res := (.lit r, [])
def impl_MatrixValid.dec : List AV → List R.Obj → Option (Int × (List Int))
  | [.agg [.int .i64 a0_0, .imm (.I .i64 l0_1)]], [] => some (a0_0, l0_1)
  | _, _ => none
def impl_MatrixValid.tw : Tw := ⟨31, Int × (List Int), Bool, impl_MatrixValid.dec, fun a => [.agg [.int .i64 a.1, .imm (.I .i64 a.2)]], fun a => [], fun k a => impl_MatrixValid.f k a.1 a.2, fun a r => impl_MatrixValid.en r, true⟩
theorem impl_MatrixValid.dok : impl_MatrixValid.tw.DecOk := by
  intro args hc a h
  have h : impl_MatrixValid.dec args hc = some a := h
  unfold impl_MatrixValid.dec at h
  split at h
  · cases h; exact ⟨rfl, rfl⟩
  · cases h
noncomputable def impl_MatrixValid.O (k : Nat) : Oracle := (slices_ContainsFunc_int_int.tw.orc k noO)
def impl_MatrixValid.fh : FH := ⟨fun i => match i with | _ => none, [], false⟩
set_option maxRecDepth 100000 in
theorem impl_MatrixValid.ef (k : Nat) (a0_0 : Int) (l0_1 : List Int) : R.start Tryd.prog xhn impl_MatrixValid.O 0 Tryd.f31 impl_MatrixValid.fh k [.agg [.int .i64 a0_0, .imm (.I .i64 l0_1)]] [] = (if a0_0 < 1 then (some (impl_MatrixValid.en false)) else (if a0_0 > 4 then (some (impl_MatrixValid.en false)) else (if (l0_1.length : Int) = (wr64 (a0_0 * a0_0)) then ((slices_ContainsFunc_int_int.f k l0_1).bind fun t1 => (some (impl_MatrixValid.en (!decide (t1 = true))))) else (some (impl_MatrixValid.en false))))) := by kernel_rfl
theorem impl_MatrixValid.sf (k : Nat) (a0_0 : Int) (l0_1 : List Int) : R.start Tryd.prog xhn impl_MatrixValid.O 0 Tryd.f31 impl_MatrixValid.fh k [.agg [.int .i64 a0_0, .imm (.I .i64 l0_1)]] [] = (impl_MatrixValid.f k a0_0 l0_1).map (impl_MatrixValid.en) := by
  rw [impl_MatrixValid.ef]
  simp only [impl_MatrixValid.f, R.map_ite, R.map_bind, R.map_none, R.map_some, R.wr64_eq]
theorem impl_MatrixValid.ok (k : Nat) : impl_MatrixValid.tw.Ok Tryd.prog k := by
  intro md hmd a r h
  refine fn_ok (H := xhn) (fh := impl_MatrixValid.fh) (O := impl_MatrixValid.O) (k := k) Tryd.func31 (by kernel_rfl) (by kernel_rfl) (fun j _ => (Tw.orc_sound slices_ContainsFunc_int_int.dok (slices_ContainsFunc_int_int.ok j) (fun _ => rfl) noO_sound)) (by kernel_rfl) (m := 0) rfl ?_
  refine (impl_MatrixValid.sf k a.1 a.2).trans ?_
  exact congrArg (Option.map _) h
def impl_GradesValid_1.f (a0 : Int) : Option (Bool) := (some (decide (a0 > 3)))
def impl_GradesValid_1.en (r : Bool) : Res := (.lit r, [])
def impl_GradesValid_1.dec : List AV → List R.Obj → Option (Int)
  | [.int .i64 a0], [] => some a0
  | _, _ => none
def impl_GradesValid_1.tw : Tw := ⟨33, Int, Bool, impl_GradesValid_1.dec, fun a => [.int .i64 a], fun a => [], fun k a => impl_GradesValid_1.f a, fun a r => impl_GradesValid_1.en r, true⟩
theorem impl_GradesValid_1.dok : impl_GradesValid_1.tw.DecOk := by
  intro args hc a h
  have h : impl_GradesValid_1.dec args hc = some a := h
  unfold impl_GradesValid_1.dec at h
  split at h
  · cases h; exact ⟨rfl, rfl⟩
  · cases h
noncomputable def impl_GradesValid_1.O (k : Nat) : Oracle := noO
def impl_GradesValid_1.fh : FH := ⟨fun i => match i with | _ => none, [], false⟩
set_option maxRecDepth 100000 in
theorem impl_GradesValid_1.ef (k : Nat) (a0 : Int) : R.start Tryd.prog xhn impl_GradesValid_1.O 0 Tryd.f33 impl_GradesValid_1.fh k [.int .i64 a0] [] = (some (impl_GradesValid_1.en (decide (a0 > 3)))) := by kernel_rfl
theorem impl_GradesValid_1.sf (k : Nat) (a0 : Int) : R.start Tryd.prog xhn impl_GradesValid_1.O 0 Tryd.f33 impl_GradesValid_1.fh k [.int .i64 a0] [] = (impl_GradesValid_1.f a0).map (impl_GradesValid_1.en) := by
  rw [impl_GradesValid_1.ef]
  simp only [impl_GradesValid_1.f, R.map_ite, R.map_bind, R.map_none, R.map_some, R.wr64_eq]
theorem impl_GradesValid_1.ok (k : Nat) : impl_GradesValid_1.tw.Ok Tryd.prog k := by
  intro md hmd a r h
  refine fn_ok (H := xhn) (fh := impl_GradesValid_1.fh) (O := impl_GradesValid_1.O) (k := k) Tryd.func33 (by kernel_rfl) (by kernel_rfl) (fun j _ => noO_sound) (by kernel_rfl) (m := 0) rfl ?_
  refine (impl_GradesValid_1.sf k a).trans ?_
  exact congrArg (Option.map _) h
def slices_IndexFunc_int_int_b.l0 : Nat → (List Int) → Int → Int → Option (Int)
  | 0, _, _, _ => none
  | k + 1, x0, x7, x8 => (if x8 < x7 then (if 0 ≤ x8 then (if x8 < (x0.length : Int) then ((impl_GradesValid_1.f (rdI x0 x8)).bind fun t1 => (if t1 = true then (some x8) else (slices_IndexFunc_int_int_b.l0 k x0 x7 (wrap64 (x8 + 1))))) else none) else none) else (some (-1)))
def slices_IndexFunc_int_int_b.f (k : Nat) (l0 : List Int) : Option (Int) := (slices_IndexFunc_int_int_b.l0 k l0 (l0.length : Int) 0)
def slices_IndexFunc_int_int_b.en (r : Int) : Res := (.int .i64 r, [])
def slices_IndexFunc_int_int_b.dec : List AV → List R.Obj → Option (List Int)
  | [.imm (.I .i64 l0), .clo 33 []], [] => some l0
  | _, _ => none
def slices_IndexFunc_int_int_b.tw : Tw := ⟨51, List Int, Int, slices_IndexFunc_int_int_b.dec, fun a => [.imm (.I .i64 a), .clo 33 []], fun a => [], fun k a => slices_IndexFunc_int_int_b.f k a, fun a r => slices_IndexFunc_int_int_b.en r, true⟩
theorem slices_IndexFunc_int_int_b.dok : slices_IndexFunc_int_int_b.tw.DecOk := by
  intro args hc a h
  have h : slices_IndexFunc_int_int_b.dec args hc = some a := h
  unfold slices_IndexFunc_int_int_b.dec at h
  split at h
  · cases h; exact ⟨rfl, rfl⟩
  · cases h
noncomputable def slices_IndexFunc_int_int_b.O (k : Nat) : Oracle := (impl_GradesValid_1.tw.orc k noO)
def slices_IndexFunc_int_int_b.fh : FH := ⟨fun i => match i with | 2 => some [(0, 0), (1, 0), (7, 0), (8, 0)] | _ => none, [], false⟩
noncomputable def slices_IndexFunc_int_int_b.x0 (k : Nat) (x0 : List Int) (x7 : Int) (x8 : Int) : Option Res := R.exec Tryd.prog xhn slices_IndexFunc_int_int_b.O 0 Tryd.f51 slices_IndexFunc_int_int_b.fh k (R.point Tryd.f51 2) ⟨[(0, .imm (.I .i64 x0)), (1, .clo 33 []), (7, .int .i64 x7), (8, .int .i64 x8)], [], 2⟩
set_option maxRecDepth 100000 in
theorem slices_IndexFunc_int_int_b.e0 (k : Nat) (x0 : List Int) (x7 : Int) (x8 : Int) : slices_IndexFunc_int_int_b.x0 (k + 1) x0 x7 x8 = (if x8 < x7 then (if 0 ≤ x8 then (if x8 < (x0.length : Int) then ((impl_GradesValid_1.f (rdI x0 x8)).bind fun t1 => (if t1 = true then (some (slices_IndexFunc_int_int_b.en x8)) else (slices_IndexFunc_int_int_b.x0 k x0 x7 (wr64 (x8 + 1))))) else none) else none) else (some (slices_IndexFunc_int_int_b.en (-1)))) := by kernel_rfl
set_option maxRecDepth 100000 in
theorem slices_IndexFunc_int_int_b.ef (k : Nat) (l0 : List Int) : R.start Tryd.prog xhn slices_IndexFunc_int_int_b.O 0 Tryd.f51 slices_IndexFunc_int_int_b.fh k [.imm (.I .i64 l0), .clo 33 []] [] = (slices_IndexFunc_int_int_b.x0 k l0 (l0.length : Int) 0) := by kernel_rfl
theorem slices_IndexFunc_int_int_b.link : ∀ k, (∀ (x0 : List Int) (x7 : Int) (x8 : Int), slices_IndexFunc_int_int_b.x0 k x0 x7 x8 = (slices_IndexFunc_int_int_b.l0 k x0 x7 x8).map (slices_IndexFunc_int_int_b.en))
  | 0 => fun _ _ _ => by simp only [slices_IndexFunc_int_int_b.l0, R.map_none]; rfl
  | k + 1 => by
    have ih0 := slices_IndexFunc_int_int_b.link k
    · intro x0 x7 x8
      rw [slices_IndexFunc_int_int_b.e0]
      simp only [slices_IndexFunc_int_int_b.l0, R.map_ite, R.map_bind, R.map_none, R.map_some, R.wr64_eq, ← ih0]
theorem slices_IndexFunc_int_int_b.sf (k : Nat) (l0 : List Int) : R.start Tryd.prog xhn slices_IndexFunc_int_int_b.O 0 Tryd.f51 slices_IndexFunc_int_int_b.fh k [.imm (.I .i64 l0), .clo 33 []] [] = (slices_IndexFunc_int_int_b.f k l0).map (slices_IndexFunc_int_int_b.en) := by
  have ih0 := slices_IndexFunc_int_int_b.link k
  rw [slices_IndexFunc_int_int_b.ef]
  simp only [slices_IndexFunc_int_int_b.f, R.map_ite, R.map_bind, R.map_none, R.map_some, R.wr64_eq, ← ih0]
theorem slices_IndexFunc_int_int_b.ok (k : Nat) : slices_IndexFunc_int_int_b.tw.Ok Tryd.prog k := by
  intro md hmd a r h
  refine fn_ok (H := xhn) (fh := slices_IndexFunc_int_int_b.fh) (O := slices_IndexFunc_int_int_b.O) (k := k) Tryd.func51 (by kernel_rfl) (by kernel_rfl) (fun j _ => (Tw.orc_sound impl_GradesValid_1.dok (impl_GradesValid_1.ok j) (fun _ => rfl) noO_sound)) (by kernel_rfl) (m := 0) rfl ?_
  refine (slices_IndexFunc_int_int_b.sf k a).trans ?_
  exact congrArg (Option.map _) h
def slices_ContainsFunc_int_int_b.f (k : Nat) (l0 : List Int) : Option (Bool) := ((slices_IndexFunc_int_int_b.f k l0).bind fun t1 => (some (decide (t1 ≥ 0))))
def slices_ContainsFunc_int_int_b.en (r : Bool) : Res := (.lit r, [])
def slices_ContainsFunc_int_int_b.dec : List AV → List R.Obj → Option (List Int)
  | [.imm (.I .i64 l0), .clo 33 []], [] => some l0
  | _, _ => none
def slices_ContainsFunc_int_int_b.tw : Tw := ⟨32, List Int, Bool, slices_ContainsFunc_int_int_b.dec, fun a => [.imm (.I .i64 a), .clo 33 []], fun a => [], fun k a => slices_ContainsFunc_int_int_b.f k a, fun a r => slices_ContainsFunc_int_int_b.en r, true⟩
theorem slices_ContainsFunc_int_int_b.dok : slices_ContainsFunc_int_int_b.tw.DecOk := by
  intro args hc a h
  have h : slices_ContainsFunc_int_int_b.dec args hc = some a := h
  unfold slices_ContainsFunc_int_int_b.dec at h
  split at h
  · cases h; exact ⟨rfl, rfl⟩
  · cases h
noncomputable def slices_ContainsFunc_int_int_b.O (k : Nat) : Oracle := (slices_IndexFunc_int_int_b.tw.orc k noO)
def slices_ContainsFunc_int_int_b.fh : FH := ⟨fun i => match i with | _ => none, [], false⟩
set_option maxRecDepth 100000 in
theorem slices_ContainsFunc_int_int_b.ef (k : Nat) (l0 : List Int) : R.start Tryd.prog xhn slices_ContainsFunc_int_int_b.O 0 Tryd.f32 slices_ContainsFunc_int_int_b.fh k [.imm (.I .i64 l0), .clo 33 []] [] = ((slices_IndexFunc_int_int_b.f k l0).bind fun t1 => (some (slices_ContainsFunc_int_int_b.en (decide (t1 ≥ 0))))) := by kernel_rfl
theorem slices_ContainsFunc_int_int_b.sf (k : Nat) (l0 : List Int) : R.start Tryd.prog xhn slices_ContainsFunc_int_int_b.O 0 Tryd.f32 slices_ContainsFunc_int_int_b.fh k [.imm (.I .i64 l0), .clo 33 []] [] = (slices_ContainsFunc_int_int_b.f k l0).map (slices_ContainsFunc_int_int_b.en) := by
  rw [slices_ContainsFunc_int_int_b.ef]
  simp only [slices_ContainsFunc_int_int_b.f, R.map_ite, R.map_bind, R.map_none, R.map_some, R.wr64_eq]
theorem slices_ContainsFunc_int_int_b.ok (k : Nat) : slices_ContainsFunc_int_int_b.tw.Ok Tryd.prog k := by
  intro md hmd a r h
  refine fn_ok (H := xhn) (fh := slices_ContainsFunc_int_int_b.fh) (O := slices_ContainsFunc_int_int_b.O) (k := k) Tryd.func32 (by kernel_rfl) (by kernel_rfl) (fun j _ => (Tw.orc_sound slices_IndexFunc_int_int_b.dok (slices_IndexFunc_int_int_b.ok j) (fun _ => rfl) noO_sound)) (by kernel_rfl) (m := 0) rfl ?_
  refine (slices_ContainsFunc_int_int_b.sf k a).trans ?_
  exact congrArg (Option.map _) h
def impl_GradesValid.f (k : Nat) (a0_0 : Int) (l0_1 : List Int) : Option (Bool) := ((impl_MatrixValid.f k a0_0 l0_1).bind fun t1 => (if t1 = true then ((slices_ContainsFunc_int_int_b.f k l0_1).bind fun t2 => (some (!decide (t2 = true)))) else (some false)))
def impl_GradesValid.en (r : Bool) : Res := (.lit r, [])
def impl_GradesValid.dec : List AV → List R.Obj → Option (Int × (List Int))
  | [.agg [.int .i64 a0_0, .imm (.I .i64 l0_1)]], [] => some (a0_0, l0_1)
  | _, _ => none
def impl_GradesValid.tw : Tw := ⟨13, Int × (List Int), Bool, impl_GradesValid.dec, fun a => [.agg [.int .i64 a.1, .imm (.I .i64 a.2)]], fun a => [], fun k a => impl_GradesValid.f k a.1 a.2, fun a r => impl_GradesValid.en r, true⟩
theorem impl_GradesValid.dok : impl_GradesValid.tw.DecOk := by
  intro args hc a h
  have h : impl_GradesValid.dec args hc = some a := h
  unfold impl_GradesValid.dec at h
  split at h
  · cases h; exact ⟨rfl, rfl⟩
  · cases h
noncomputable def impl_GradesValid.O (k : Nat) : Oracle := (impl_MatrixValid.tw.orc k (slices_ContainsFunc_int_int_b.tw.orc k noO))
def impl_GradesValid.fh : FH := ⟨fun i => match i with | _ => none, [], false⟩
set_option maxRecDepth 100000 in
theorem impl_GradesValid.ef (k : Nat) (a0_0 : Int) (l0_1 : List Int) : R.start Tryd.prog xhn impl_GradesValid.O 0 Tryd.f13 impl_GradesValid.fh k [.agg [.int .i64 a0_0, .imm (.I .i64 l0_1)]] [] = ((impl_MatrixValid.f k a0_0 l0_1).bind fun t1 => (if t1 = true then ((slices_ContainsFunc_int_int_b.f k l0_1).bind fun t2 => (some (impl_GradesValid.en (!decide (t2 = true))))) else (some (impl_GradesValid.en false)))) := by kernel_rfl
theorem impl_GradesValid.sf (k : Nat) (a0_0 : Int) (l0_1 : List Int) : R.start Tryd.prog xhn impl_GradesValid.O 0 Tryd.f13 impl_GradesValid.fh k [.agg [.int .i64 a0_0, .imm (.I .i64 l0_1)]] [] = (impl_GradesValid.f k a0_0 l0_1).map (impl_GradesValid.en) := by
  rw [impl_GradesValid.ef]
  simp only [impl_GradesValid.f, R.map_ite, R.map_bind, R.map_none, R.map_some, R.wr64_eq]
theorem impl_GradesValid.ok (k : Nat) : impl_GradesValid.tw.Ok Tryd.prog k := by
  intro md hmd a r h
  refine fn_ok (H := xhn) (fh := impl_GradesValid.fh) (O := impl_GradesValid.O) (k := k) Tryd.func13 (by kernel_rfl) (by kernel_rfl) (fun j _ => (Tw.orc_sound impl_MatrixValid.dok (impl_MatrixValid.ok j) (fun _ => rfl) (Tw.orc_sound slices_ContainsFunc_int_int_b.dok (slices_ContainsFunc_int_int_b.ok j) (fun _ => rfl) noO_sound))) (by kernel_rfl) (m := 0) rfl ?_
  refine (impl_GradesValid.sf k a.1 a.2).trans ?_
  exact congrArg (Option.map _) h
def impl_FormatGrades_1.l0 : Nat → ByteArray → (List Int) → Int → Int → Option (ByteArray)
  | 0, _, _, _, _ => none
  | k + 1, x3, x6, x7, x8 => (if x8 < x7 then (if 0 ≤ x8 then (if x8 < (x6.length : Int) then (if 0 ≤ (rdI x6 x8) then (if (rdI x6 x8) ≤ (wrap64 ((rdI x6 x8) + 1)) then (if (wrap64 ((rdI x6 x8) + 1)) ≤ ((⟨#[48, 49, 119, 45]⟩ : ByteArray).size : Int) then (if x3.size + ((⟨#[48, 49, 119, 45]⟩ : ByteArray).extract (rdI x6 x8).toNat (wrap64 ((rdI x6 x8) + 1)).toNat).size ≤ 9223372036854775807 then (impl_FormatGrades_1.l0 k (x3 ++ ((⟨#[48, 49, 119, 45]⟩ : ByteArray).extract (rdI x6 x8).toNat (wrap64 ((rdI x6 x8) + 1)).toNat)) x6 x7 (wrap64 (x8 + 1))) else none) else none) else none) else none) else none) else none) else (some x3))
def impl_FormatGrades_1.f (k : Nat) (l0 : List Int) : Option (ByteArray) := (impl_FormatGrades_1.l0 k (⟨#[]⟩ : ByteArray) l0 (l0.length : Int) 0)
def impl_FormatGrades_1.en (r : ByteArray) : Res := (.str r, [])
def impl_FormatGrades_1.dec : List AV → List R.Obj → Option (List Int)
  | [.imm (.I .i64 l0)], [] => some l0
  | _, _ => none
def impl_FormatGrades_1.tw : Tw := ⟨30, List Int, ByteArray, impl_FormatGrades_1.dec, fun a => [.imm (.I .i64 a)], fun a => [], fun k a => impl_FormatGrades_1.f k a, fun a r => impl_FormatGrades_1.en r, true⟩
theorem impl_FormatGrades_1.dok : impl_FormatGrades_1.tw.DecOk := by
  intro args hc a h
  have h : impl_FormatGrades_1.dec args hc = some a := h
  unfold impl_FormatGrades_1.dec at h
  split at h
  · cases h; exact ⟨rfl, rfl⟩
  · cases h
noncomputable def impl_FormatGrades_1.O (k : Nat) : Oracle := noO
def impl_FormatGrades_1.fh : FH := ⟨fun i => match i with | 3 => some [(3, 0), (6, 0), (7, 0), (8, 0)] | _ => none, [], false⟩
noncomputable def impl_FormatGrades_1.x0 (k : Nat) (x3 : ByteArray) (x6 : List Int) (x7 : Int) (x8 : Int) : Option Res := R.exec Tryd.prog xhn impl_FormatGrades_1.O 0 Tryd.f30 impl_FormatGrades_1.fh k (R.point Tryd.f30 3) ⟨[(3, .str x3), (6, .imm (.I .i64 x6)), (7, .int .i64 x7), (8, .int .i64 x8)], [], 2⟩
set_option maxRecDepth 100000 in
theorem impl_FormatGrades_1.e0 (k : Nat) (x3 : ByteArray) (x6 : List Int) (x7 : Int) (x8 : Int) : impl_FormatGrades_1.x0 (k + 1) x3 x6 x7 x8 = (if x8 < x7 then (if 0 ≤ x8 then (if x8 < (x6.length : Int) then (if 0 ≤ (rdI x6 x8) then (if (rdI x6 x8) ≤ (wr64 ((rdI x6 x8) + 1)) then (if (wr64 ((rdI x6 x8) + 1)) ≤ ((⟨#[48, 49, 119, 45]⟩ : ByteArray).size : Int) then (if x3.size + ((⟨#[48, 49, 119, 45]⟩ : ByteArray).extract (rdI x6 x8).toNat (wr64 ((rdI x6 x8) + 1)).toNat).size ≤ 9223372036854775807 then (impl_FormatGrades_1.x0 k (x3 ++ ((⟨#[48, 49, 119, 45]⟩ : ByteArray).extract (rdI x6 x8).toNat (wr64 ((rdI x6 x8) + 1)).toNat)) x6 x7 (wr64 (x8 + 1))) else none) else none) else none) else none) else none) else none) else (some (impl_FormatGrades_1.en x3))) := by kernel_rfl
set_option maxRecDepth 100000 in
theorem impl_FormatGrades_1.ef (k : Nat) (l0 : List Int) : R.start Tryd.prog xhn impl_FormatGrades_1.O 0 Tryd.f30 impl_FormatGrades_1.fh k [.imm (.I .i64 l0)] [] = (impl_FormatGrades_1.x0 k (⟨#[]⟩ : ByteArray) l0 (l0.length : Int) 0) := by kernel_rfl
theorem impl_FormatGrades_1.link : ∀ k, (∀ (x3 : ByteArray) (x6 : List Int) (x7 : Int) (x8 : Int), impl_FormatGrades_1.x0 k x3 x6 x7 x8 = (impl_FormatGrades_1.l0 k x3 x6 x7 x8).map (impl_FormatGrades_1.en))
  | 0 => fun _ _ _ _ => by simp only [impl_FormatGrades_1.l0, R.map_none]; rfl
  | k + 1 => by
    have ih0 := impl_FormatGrades_1.link k
    · intro x3 x6 x7 x8
      rw [impl_FormatGrades_1.e0]
      simp only [impl_FormatGrades_1.l0, R.map_ite, R.map_bind, R.map_none, R.map_some, R.wr64_eq, ← ih0]
theorem impl_FormatGrades_1.sf (k : Nat) (l0 : List Int) : R.start Tryd.prog xhn impl_FormatGrades_1.O 0 Tryd.f30 impl_FormatGrades_1.fh k [.imm (.I .i64 l0)] [] = (impl_FormatGrades_1.f k l0).map (impl_FormatGrades_1.en) := by
  have ih0 := impl_FormatGrades_1.link k
  rw [impl_FormatGrades_1.ef]
  simp only [impl_FormatGrades_1.f, R.map_ite, R.map_bind, R.map_none, R.map_some, R.wr64_eq, ← ih0]
theorem impl_FormatGrades_1.ok (k : Nat) : impl_FormatGrades_1.tw.Ok Tryd.prog k := by
  intro md hmd a r h
  refine fn_ok (H := xhn) (fh := impl_FormatGrades_1.fh) (O := impl_FormatGrades_1.O) (k := k) Tryd.func30 (by kernel_rfl) (by kernel_rfl) (fun j _ => noO_sound) (by kernel_rfl) (m := 0) rfl ?_
  refine (impl_FormatGrades_1.sf k a).trans ?_
  exact congrArg (Option.map _) h
def strings_Join.f (l0 : List ByteArray) (a1 : ByteArray) : Option ByteArray := if l0.length ≤ 1000000000 ∧ (Lib.join (l0.map (fun x => x.data.toList)) a1.data.toList).length ≤ 140737488355328 then some ⟨(Lib.join (l0.map (fun x => x.data.toList)) a1.data.toList).toArray⟩ else none
def strings_Join.dec : List AV → List R.Obj → Option (List ByteArray × ByteArray)
  | [.imm (.S l0), .str a1], [] => some (l0, a1)
  | _, _ => none
def strings_Join.tw : Tw := ⟨48, List ByteArray × ByteArray, ByteArray, strings_Join.dec, fun a => [.imm (.S a.1), .str a.2], fun a => [], fun k a => strings_Join.f a.1 a.2, fun a r => (.str r, []), false⟩
theorem strings_Join.dok : strings_Join.tw.DecOk := by
  intro args hc a h
  have h : strings_Join.dec args hc = some a := h
  unfold strings_Join.dec at h
  split at h
  · cases h; exact ⟨rfl, rfl⟩
  · cases h
theorem strings_Join.ok (k : Nat) : strings_Join.tw.Ok Tryd.prog k := by
  rintro md hmd ⟨l0, a1⟩ r h
  have h : strings_Join.f l0 a1 = some r := h
  refine ⟨callable_of Tryd.func48 (by kernel_rfl) (by kernel_rfl), fun w M I vs E => ?_⟩
  obtain ⟨V0, hV0⟩ : ∃ V0, vs[0]? = some V0 := ⟨vs[0]'(by have := E.len; have : 2 = vs.size := this; omega), Array.getElem?_eq_getElem _⟩
  have e : vs = #[V0, .string a1] := two_of E.len (fun q => Option.some.inj (q.symm.trans hV0)) (fun q => (E.args 1 _ _ rfl q).str_inv)
  obtain ⟨A0, c0, hs, hc, ha, hcell⟩ := (E.args 0 _ _ rfl hV0).imm_inv.imm_at
  subst hs
  subst e
  unfold strings_Join.f at h
  split at h
  case isFalse => cases h
  rename_i g
  obtain rfl := Option.some.inj h
  have fin : ∀ (e : Ending) (w' : World), e = .returned (.string ⟨(Lib.join (l0.map (fun x => x.data.toList)) a1.data.toList).toArray⟩) ∧ Below w.heap.size w w' → R.Leaves md w M I [] (.str ⟨(Lib.join (l0.map (fun x => x.data.toList)) a1.data.toList).toArray⟩) [] e w' := by
    rintro e w' ⟨rfl, hB⟩
    exact ext_pure (.str _) hB (fun q => Bool.noConfusion (show false = true from hmd q))
  by_cases hp : 0 < l0.length
  · obtain ⟨b, o, rfl⟩ := ha hp
    have cells : ∀ (j : Nat) x, l0[j]? = some x → w.cell? ⟨b, o + j, none⟩ = some (.string x) := fun j x hj => by
      have hjl : j < l0.length := (List.getElem?_eq_some_iff.1 hj).1
      obtain ⟨v, q1, _, q2⟩ := hcell b o rfl j 0 hjl (by simp [Ct.sz])
      have e1 : (Ct.S l0).sz = 1 := rfl
      rw [e1, Nat.mul_one, Nat.add_zero] at q1
      have e3 : rdS l0 (j : Int) = x := by simp [rdS, hj]
      have e2 := (VR.closed (M := M) q2).str_inv
      rw [q1, e2, e3]
    have hb : b < w.heap.size := World.block_lt_of_cell? _ _ (cells 0 l0[0] (List.getElem?_eq_getElem hp))
    exact (Tryd.strings_Join b o c0 l0 a1 w cells hb (by omega) hc g.2).mono fin
  · have e0 : l0 = [] := List.length_eq_zero_iff.mp (by omega)
    subst e0
    refine (Tryd.strings_Join_none A0 c0 a1 w).mono fun e w' => ?_
    rintro ⟨rfl, rfl⟩
    exact fin _ _ ⟨rfl, Below.refl _ _⟩
def impl_rows.l0 : Nat → (List ByteArray) → Int → Int → Int → (List Int) → Option (ByteArray)
  | 0, _, _, _, _, _ => none
  | k + 1, y1, x9, x10, y0_0, y0_1 => (if x10 < x9 then (if 0 ≤ (wrap64 (x10 * y0_0)) then (if (wrap64 (x10 * y0_0)) ≤ (wrap64 ((wrap64 (x10 + 1)) * y0_0)) then (if (wrap64 ((wrap64 (x10 + 1)) * y0_0)) ≤ (y0_1.length : Int) then ((impl_FormatGrades_1.f k ((y0_1.drop (wrap64 (x10 * y0_0)).toNat).take ((wrap64 ((wrap64 (x10 + 1)) * y0_0)).toNat - (wrap64 (x10 * y0_0)).toNat))).bind fun t1 => (if y1.length < 8796093022208 then (impl_rows.l0 k (y1 ++ [t1]) x9 (wrap64 (x10 + 1)) y0_0 y0_1) else none)) else none) else none) else none) else ((strings_Join.f y1 (⟨#[47]⟩ : ByteArray)).bind fun t2 => (some t2)))
def impl_rows.f (k : Nat) (a0_0 : Int) (l0_1 : List Int) : Option (ByteArray) := (impl_rows.l0 k ([] : List ByteArray) a0_0 0 a0_0 l0_1)
def impl_rows.en (r : ByteArray) : Res := (.str r, [])
def impl_rows.dec : List AV → List R.Obj → Option (Int × (List Int))
  | [.agg [.int .i64 a0_0, .imm (.I .i64 l0_1)], .clo 30 []], [] => some (a0_0, l0_1)
  | _, _ => none
def impl_rows.tw : Tw := ⟨29, Int × (List Int), ByteArray, impl_rows.dec, fun a => [.agg [.int .i64 a.1, .imm (.I .i64 a.2)], .clo 30 []], fun a => [], fun k a => impl_rows.f k a.1 a.2, fun a r => impl_rows.en r, false⟩
theorem impl_rows.dok : impl_rows.tw.DecOk := by
  intro args hc a h
  have h : impl_rows.dec args hc = some a := h
  unfold impl_rows.dec at h
  split at h
  · cases h; exact ⟨rfl, rfl⟩
  · cases h
noncomputable def impl_rows.O (k : Nat) : Oracle := (impl_FormatGrades_1.tw.orc k (strings_Join.tw.orc k noO))
def impl_rows.fh : FH := ⟨fun i => match i with | 3 => some [(1, 0), (2, 0), (5, 0), (9, 0), (10, 0)] | _ => none, [], false⟩
noncomputable def impl_rows.x0 (k : Nat) (y1 : List ByteArray) (x9 : Int) (x10 : Int) (y0_0 : Int) (y0_1 : List Int) : Option Res := R.exec Tryd.prog xhn impl_rows.O 0 Tryd.f29 impl_rows.fh k (R.point Tryd.f29 3) ⟨[(1, .clo 30 []), (2, .ptr 0 0), (5, .sl 1 0), (9, .int .i64 x9), (10, .int .i64 x10)], [(0, .box false [.int .i64 y0_0, .imm (.I .i64 y0_1)]), (1, .arr 9 0 (.S y1) false)], 4⟩
set_option maxRecDepth 100000 in
theorem impl_rows.e0 (k : Nat) (y1 : List ByteArray) (x9 : Int) (x10 : Int) (y0_0 : Int) (y0_1 : List Int) : impl_rows.x0 (k + 1) y1 x9 x10 y0_0 y0_1 = (if x10 < x9 then (if 0 ≤ (wr64 (x10 * y0_0)) then (if (wr64 (x10 * y0_0)) ≤ (wr64 ((wr64 (x10 + 1)) * y0_0)) then (if (wr64 ((wr64 (x10 + 1)) * y0_0)) ≤ (y0_1.length : Int) then ((impl_FormatGrades_1.f k ((y0_1.drop (wr64 (x10 * y0_0)).toNat).take ((wr64 ((wr64 (x10 + 1)) * y0_0)).toNat - (wr64 (x10 * y0_0)).toNat))).bind fun t1 => (if y1.length < 8796093022208 then (impl_rows.x0 k (y1 ++ [t1]) x9 (wr64 (x10 + 1)) y0_0 y0_1) else none)) else none) else none) else none) else ((strings_Join.f y1 (⟨#[47]⟩ : ByteArray)).bind fun t2 => (some (impl_rows.en t2)))) := by kernel_rfl
set_option maxRecDepth 100000 in
theorem impl_rows.ef (k : Nat) (a0_0 : Int) (l0_1 : List Int) : R.start Tryd.prog xhn impl_rows.O 0 Tryd.f29 impl_rows.fh k [.agg [.int .i64 a0_0, .imm (.I .i64 l0_1)], .clo 30 []] [] = (impl_rows.x0 k ([] : List ByteArray) a0_0 0 a0_0 l0_1) := by kernel_rfl
theorem impl_rows.link : ∀ k, (∀ (y1 : List ByteArray) (x9 : Int) (x10 : Int) (y0_0 : Int) (y0_1 : List Int), impl_rows.x0 k y1 x9 x10 y0_0 y0_1 = (impl_rows.l0 k y1 x9 x10 y0_0 y0_1).map (impl_rows.en))
  | 0 => fun _ _ _ _ _ => by simp only [impl_rows.l0, R.map_none]; rfl
  | k + 1 => by
    have ih0 := impl_rows.link k
    · intro y1 x9 x10 y0_0 y0_1
      rw [impl_rows.e0]
      simp only [impl_rows.l0, R.map_ite, R.map_bind, R.map_none, R.map_some, R.wr64_eq, ← ih0]
theorem impl_rows.sf (k : Nat) (a0_0 : Int) (l0_1 : List Int) : R.start Tryd.prog xhn impl_rows.O 0 Tryd.f29 impl_rows.fh k [.agg [.int .i64 a0_0, .imm (.I .i64 l0_1)], .clo 30 []] [] = (impl_rows.f k a0_0 l0_1).map (impl_rows.en) := by
  have ih0 := impl_rows.link k
  rw [impl_rows.ef]
  simp only [impl_rows.f, R.map_ite, R.map_bind, R.map_none, R.map_some, R.wr64_eq, ← ih0]
theorem impl_rows.ok (k : Nat) : impl_rows.tw.Ok Tryd.prog k := by
  intro md hmd a r h
  refine fn_ok (H := xhn) (fh := impl_rows.fh) (O := impl_rows.O) (k := k) Tryd.func29 (by kernel_rfl) (by kernel_rfl) (fun j _ => (Tw.orc_sound impl_FormatGrades_1.dok (impl_FormatGrades_1.ok j) (fun _ => rfl) (Tw.orc_sound strings_Join.dok (strings_Join.ok j) (fun q => Bool.noConfusion (show false = true from hmd q)) noO_sound))) (by kernel_rfl) (m := 0) rfl ?_
  refine (impl_rows.sf k a.1 a.2).trans ?_
  exact congrArg (Option.map _) h
def impl_FormatGrades.f (k : Nat) (a0_0 : Int) (l0_1 : List Int) : Option (ByteArray) := ((impl_GradesValid.f k a0_0 l0_1).bind fun t1 => (if t1 = true then ((impl_rows.f k a0_0 l0_1).bind fun t2 => (some t2)) else (some (⟨#[]⟩ : ByteArray))))
def impl_FormatGrades.en (r : ByteArray) : Res := (.str r, [])
def impl_FormatGrades.dec : List AV → List R.Obj → Option (Int × (List Int))
  | [.agg [.int .i64 a0_0, .imm (.I .i64 l0_1)]], [] => some (a0_0, l0_1)
  | _, _ => none
def impl_FormatGrades.tw : Tw := ⟨11, Int × (List Int), ByteArray, impl_FormatGrades.dec, fun a => [.agg [.int .i64 a.1, .imm (.I .i64 a.2)]], fun a => [], fun k a => impl_FormatGrades.f k a.1 a.2, fun a r => impl_FormatGrades.en r, false⟩
theorem impl_FormatGrades.dok : impl_FormatGrades.tw.DecOk := by
  intro args hc a h
  have h : impl_FormatGrades.dec args hc = some a := h
  unfold impl_FormatGrades.dec at h
  split at h
  · cases h; exact ⟨rfl, rfl⟩
  · cases h
noncomputable def impl_FormatGrades.O (k : Nat) : Oracle := (impl_GradesValid.tw.orc k (impl_rows.tw.orc k noO))
def impl_FormatGrades.fh : FH := ⟨fun i => match i with | _ => none, [], false⟩
set_option maxRecDepth 100000 in
theorem impl_FormatGrades.ef (k : Nat) (a0_0 : Int) (l0_1 : List Int) : R.start Tryd.prog xhn impl_FormatGrades.O 0 Tryd.f11 impl_FormatGrades.fh k [.agg [.int .i64 a0_0, .imm (.I .i64 l0_1)]] [] = ((impl_GradesValid.f k a0_0 l0_1).bind fun t1 => (if t1 = true then ((impl_rows.f k a0_0 l0_1).bind fun t2 => (some (impl_FormatGrades.en t2))) else (some (impl_FormatGrades.en (⟨#[]⟩ : ByteArray))))) := by kernel_rfl
theorem impl_FormatGrades.sf (k : Nat) (a0_0 : Int) (l0_1 : List Int) : R.start Tryd.prog xhn impl_FormatGrades.O 0 Tryd.f11 impl_FormatGrades.fh k [.agg [.int .i64 a0_0, .imm (.I .i64 l0_1)]] [] = (impl_FormatGrades.f k a0_0 l0_1).map (impl_FormatGrades.en) := by
  rw [impl_FormatGrades.ef]
  simp only [impl_FormatGrades.f, R.map_ite, R.map_bind, R.map_none, R.map_some, R.wr64_eq]
theorem impl_FormatGrades.ok (k : Nat) : impl_FormatGrades.tw.Ok Tryd.prog k := by
  intro md hmd a r h
  refine fn_ok (H := xhn) (fh := impl_FormatGrades.fh) (O := impl_FormatGrades.O) (k := k) Tryd.func11 (by kernel_rfl) (by kernel_rfl) (fun j _ => (Tw.orc_sound impl_GradesValid.dok (impl_GradesValid.ok j) (fun _ => rfl) (Tw.orc_sound impl_rows.dok (impl_rows.ok j) (fun q => Bool.noConfusion (show false = true from hmd q)) noO_sound))) (by kernel_rfl) (m := 0) rfl ?_
  refine (impl_FormatGrades.sf k a.1 a.2).trans ?_
  exact congrArg (Option.map _) h
def strings_Split.f (a0 a1 : ByteArray) : Option (List ByteArray) := if a1.size = 1 ∧ a0.size < 4294967281 then some (Lib.splitB a1 0 (Lib.countB a0 a1) a0) else none
def strings_Split.dec : List AV → List R.Obj → Option (ByteArray × ByteArray)
  | [.str a0, .str a1], [] => some (a0, a1)
  | _, _ => none
def strings_Split.tw : Tw := ⟨22, ByteArray × ByteArray, List ByteArray, strings_Split.dec, fun a => [.str a.1, .str a.2], fun a => [], fun k a => strings_Split.f a.1 a.2, fun a r => (.sl 0 0, [.arr 9 0 (.S r) false]), false⟩
theorem strings_Split.dok : strings_Split.tw.DecOk := by
  intro args hc a h
  have h : strings_Split.dec args hc = some a := h
  unfold strings_Split.dec at h
  split at h
  · cases h; exact ⟨rfl, rfl⟩
  · cases h
theorem strings_Split.ok (k : Nat) : strings_Split.tw.Ok Tryd.prog k := by
  intro md hmd a r h
  have h : strings_Split.f a.1 a.2 = some r := h
  refine ⟨callable_of Tryd.func22 (by kernel_rfl) (by kernel_rfl), fun w M I vs E => ?_⟩
  have e : vs = #[.string a.1, .string a.2] := two_of E.len (fun q => (E.args 0 _ _ rfl q).str_inv) (fun q => (E.args 1 _ _ rfl q).str_inv)
  subst e
  unfold strings_Split.f at h
  by_cases g : a.2.size = 1 ∧ a.1.size < 4294967281
  · rw [if_pos g] at h
    obtain rfl := Option.some.inj h
    obtain ⟨c, hc⟩ := Lib.one_byte a.2 g.1
    rw [hc]
    have hle := Lib.countB_le (⟨#[c]⟩ : ByteArray) (Nat.le_refl 1) a.1.size a.1 (Nat.le_refl _)
    have q := R.Split_one Tryd.lays146 (by kernel_rfl) a.1 c w g.2
    refine q.mono fun e w' => ?_
    rintro ⟨rfl, rfl⟩
    exact R.split_leaves (Lib.splitB_all (⟨#[c]⟩ : ByteArray) (Nat.le_refl 1) 0 _ _ rfl) (by unfold maxLen; omega) (fun q => Bool.noConfusion (show false = true from hmd q))
  · rw [if_neg g] at h
    cases h
def strings_IndexByte.f (a0 : ByteArray) (a1 : Int) : Option Int := some (Lib.indexByte a0.data.toList a1.toNat.toUInt8)
def strings_IndexByte.dec : List AV → List R.Obj → Option (ByteArray × Int)
  | [.str a0, .int .u8 a1], [] => some (a0, a1)
  | _, _ => none
def strings_IndexByte.tw : Tw := ⟨23, ByteArray × Int, Int, strings_IndexByte.dec, fun a => [.str a.1, .int .u8 a.2], fun a => [], fun k a => strings_IndexByte.f a.1 a.2, fun a r => (.int .i64 r, []), false⟩
theorem strings_IndexByte.dok : strings_IndexByte.tw.DecOk := by
  intro args hc a h
  have h : strings_IndexByte.dec args hc = some a := h
  unfold strings_IndexByte.dec at h
  split at h
  · cases h; exact ⟨rfl, rfl⟩
  · cases h
theorem strings_IndexByte.ok (k : Nat) : strings_IndexByte.tw.Ok Tryd.prog k := by
  intro md hmd a r h
  obtain rfl := Option.some.inj (show some _ = some r from h)
  refine ⟨callable_of Tryd.func23 (by kernel_rfl) (by kernel_rfl), fun w M I vs E => ?_⟩
  have e : vs = #[.string a.1, .int .u8 a.2] := two_of E.len (fun q => (E.args 0 _ _ rfl q).str_inv) (fun q => (E.args 1 _ _ rfl q).int_inv)
  subst e
  refine (Tryd.strings_IndexByte a.1 a.2 w).mono fun e w' => ?_
  rintro ⟨rfl, rfl⟩
  exact ext_pure (.int _ _) (Below.refl _ _) (fun q => Bool.noConfusion (show false = true from hmd q))
mutual
def impl_ParseGrades.l0 : Nat → ByteArray → (List ByteArray) → Int → Int → Int → (List Int) → Option (Int × (List Int) × Bool)
  | 0, _, _, _, _, _, _ => none
  | k + 1, x0, y2, x10, x11, y1_0, y4 => (if x11 < x10 then (if 0 ≤ x11 then (if x11 < (y2.length : Int) then (impl_ParseGrades.l1 k x0 (rdS y2 x11) y2 x10 x11 ((rdS y2 x11).size : Int) 0 (wrap64 (y1_0 + 1)) y4) else none) else none) else (if x0.toList = ([] : List UInt8) then (some (0, ([] : List Int), false)) else ((impl_FormatGrades.f k y1_0 y4).bind fun t2 => (if t2.toList = x0.toList then (some (y1_0, y4, true)) else (some (0, ([] : List Int), false))))))
def impl_ParseGrades.l1 : Nat → ByteArray → ByteArray → (List ByteArray) → Int → Int → Int → Int → Int → (List Int) → Option (Int × (List Int) × Bool)
  | 0, _, _, _, _, _, _, _, _, _ => none
  | k + 1, x0, x6, y2, x10, x11, x20, x21, y1_0, y4 => (if x21 < x20 then (if 0 ≤ x21 then (if x21 < (x6.size : Int) then ((strings_IndexByte.f (⟨#[48, 49, 119, 45]⟩ : ByteArray) (btI x6 x21)).bind fun t3 => (if y4.length < 17592186044416 then (impl_ParseGrades.l1 k x0 x6 y2 x10 x11 x20 (wrap64 (x21 + 1)) y1_0 (y4 ++ [t3])) else none)) else none) else none) else (impl_ParseGrades.l0 k x0 y2 x10 (wrap64 (x11 + 1)) y1_0 y4))
end
def impl_ParseGrades.f (k : Nat) (a0 : ByteArray) : Option (Int × (List Int) × Bool) := ((strings_Split.f a0 (⟨#[47]⟩ : ByteArray)).bind fun t1 => (impl_ParseGrades.l0 k a0 t1 (t1.length : Int) 0 0 ([] : List Int)))
def impl_ParseGrades.en (r : Int × (List Int) × Bool) : Res := (.tup [.agg [.int .i64 r.1, .sl 0 0], .lit r.2.2], [.arr 3 0 (.I .i64 r.2.1) false])
def impl_ParseGrades.dec : List AV → List R.Obj → Option (ByteArray)
  | [.str a0], [] => some a0
  | _, _ => none
def impl_ParseGrades.tw : Tw := ⟨6, ByteArray, Int × (List Int) × Bool, impl_ParseGrades.dec, fun a => [.str a], fun a => [], fun k a => impl_ParseGrades.f k a, fun a r => impl_ParseGrades.en r, false⟩
theorem impl_ParseGrades.dok : impl_ParseGrades.tw.DecOk := by
  intro args hc a h
  have h : impl_ParseGrades.dec args hc = some a := h
  unfold impl_ParseGrades.dec at h
  split at h
  · cases h; exact ⟨rfl, rfl⟩
  · cases h
noncomputable def impl_ParseGrades.O (k : Nat) : Oracle := (strings_Split.tw.orc k (impl_FormatGrades.tw.orc k (strings_IndexByte.tw.orc k noO)))
def impl_ParseGrades.fh : FH := ⟨fun i => match i with | 3 => some [(0, 0), (2, 0), (4, 0), (9, 0), (10, 0), (11, 0)] | 7 => some [(0, 0), (2, 0), (4, 0), (6, 0), (9, 0), (10, 0), (11, 0), (20, 0), (21, 0)] | _ => none, [(true, 3)], false⟩
noncomputable def impl_ParseGrades.x0 (k : Nat) (x0 : ByteArray) (y2 : List ByteArray) (x10 : Int) (x11 : Int) (y1_0 : Int) (y4 : List Int) : Option Res := R.exec Tryd.prog xhn impl_ParseGrades.O 0 Tryd.f6 impl_ParseGrades.fh k (R.point Tryd.f6 3) ⟨[(0, .str x0), (2, .ptr 0 0), (4, .ptr 1 0), (9, .sl 2 0), (10, .int .i64 x10), (11, .int .i64 x11)], [(0, .box false [.int .i64 0, .sl 3 0]), (1, .box false [.int .i64 y1_0, .sl 4 0]), (2, .arr 9 0 (.S y2) false), (3, .arr 3 0 (.I .i64 ([] : List Int)) false), (4, .arr 3 0 (.I .i64 y4) false)], 7⟩
noncomputable def impl_ParseGrades.x1 (k : Nat) (x0 : ByteArray) (x6 : ByteArray) (y2 : List ByteArray) (x10 : Int) (x11 : Int) (x20 : Int) (x21 : Int) (y1_0 : Int) (y4 : List Int) : Option Res := R.exec Tryd.prog xhn impl_ParseGrades.O 0 Tryd.f6 impl_ParseGrades.fh k (R.point Tryd.f6 7) ⟨[(0, .str x0), (2, .ptr 0 0), (4, .ptr 1 0), (6, .str x6), (9, .sl 2 0), (10, .int .i64 x10), (11, .int .i64 x11), (20, .int .i64 x20), (21, .int .i64 x21)], [(0, .box false [.int .i64 0, .sl 3 0]), (1, .box false [.int .i64 y1_0, .sl 4 0]), (2, .arr 9 0 (.S y2) false), (3, .arr 3 0 (.I .i64 ([] : List Int)) false), (4, .arr 3 0 (.I .i64 y4) false)], 7⟩
set_option maxRecDepth 100000 in
theorem impl_ParseGrades.e0 (k : Nat) (x0 : ByteArray) (y2 : List ByteArray) (x10 : Int) (x11 : Int) (y1_0 : Int) (y4 : List Int) : impl_ParseGrades.x0 (k + 1) x0 y2 x10 x11 y1_0 y4 = (if x11 < x10 then (if 0 ≤ x11 then (if x11 < (y2.length : Int) then (impl_ParseGrades.x1 k x0 (rdS y2 x11) y2 x10 x11 ((rdS y2 x11).size : Int) 0 (wr64 (y1_0 + 1)) y4) else none) else none) else (if x0.toList = ([] : List UInt8) then (some (impl_ParseGrades.en (0, ([] : List Int), false))) else ((impl_FormatGrades.f k y1_0 y4).bind fun t2 => (if t2.toList = x0.toList then (some (impl_ParseGrades.en (y1_0, y4, true))) else (some (impl_ParseGrades.en (0, ([] : List Int), false))))))) := by kernel_rfl
set_option maxRecDepth 100000 in
theorem impl_ParseGrades.e1 (k : Nat) (x0 : ByteArray) (x6 : ByteArray) (y2 : List ByteArray) (x10 : Int) (x11 : Int) (x20 : Int) (x21 : Int) (y1_0 : Int) (y4 : List Int) : impl_ParseGrades.x1 (k + 1) x0 x6 y2 x10 x11 x20 x21 y1_0 y4 = (if x21 < x20 then (if 0 ≤ x21 then (if x21 < (x6.size : Int) then ((strings_IndexByte.f (⟨#[48, 49, 119, 45]⟩ : ByteArray) (btI x6 x21)).bind fun t3 => (if y4.length < 17592186044416 then (impl_ParseGrades.x1 k x0 x6 y2 x10 x11 x20 (wr64 (x21 + 1)) y1_0 (y4 ++ [t3])) else none)) else none) else none) else (impl_ParseGrades.x0 k x0 y2 x10 (wr64 (x11 + 1)) y1_0 y4)) := by kernel_rfl
set_option maxRecDepth 100000 in
theorem impl_ParseGrades.ef (k : Nat) (a0 : ByteArray) : R.start Tryd.prog xhn impl_ParseGrades.O 0 Tryd.f6 impl_ParseGrades.fh k [.str a0] [] = ((strings_Split.f a0 (⟨#[47]⟩ : ByteArray)).bind fun t1 => (impl_ParseGrades.x0 k a0 t1 (t1.length : Int) 0 0 ([] : List Int))) := by kernel_rfl
theorem impl_ParseGrades.link : ∀ k, (∀ (x0 : ByteArray) (y2 : List ByteArray) (x10 : Int) (x11 : Int) (y1_0 : Int) (y4 : List Int), impl_ParseGrades.x0 k x0 y2 x10 x11 y1_0 y4 = (impl_ParseGrades.l0 k x0 y2 x10 x11 y1_0 y4).map (impl_ParseGrades.en)) ∧ (∀ (x0 : ByteArray) (x6 : ByteArray) (y2 : List ByteArray) (x10 : Int) (x11 : Int) (x20 : Int) (x21 : Int) (y1_0 : Int) (y4 : List Int), impl_ParseGrades.x1 k x0 x6 y2 x10 x11 x20 x21 y1_0 y4 = (impl_ParseGrades.l1 k x0 x6 y2 x10 x11 x20 x21 y1_0 y4).map (impl_ParseGrades.en))
  | 0 => ⟨fun _ _ _ _ _ _ => by simp only [impl_ParseGrades.l0, R.map_none]; rfl, fun _ _ _ _ _ _ _ _ _ => by simp only [impl_ParseGrades.l1, R.map_none]; rfl⟩
  | k + 1 => by
    obtain ⟨ih0, ih1⟩ := impl_ParseGrades.link k
    refine ⟨?_, ?_⟩
    · intro x0 y2 x10 x11 y1_0 y4
      rw [impl_ParseGrades.e0]
      simp only [impl_ParseGrades.l0, R.map_ite, R.map_bind, R.map_none, R.map_some, R.wr64_eq, ← ih0, ← ih1]
    · intro x0 x6 y2 x10 x11 x20 x21 y1_0 y4
      rw [impl_ParseGrades.e1]
      simp only [impl_ParseGrades.l1, R.map_ite, R.map_bind, R.map_none, R.map_some, R.wr64_eq, ← ih0, ← ih1]
theorem impl_ParseGrades.sf (k : Nat) (a0 : ByteArray) : R.start Tryd.prog xhn impl_ParseGrades.O 0 Tryd.f6 impl_ParseGrades.fh k [.str a0] [] = (impl_ParseGrades.f k a0).map (impl_ParseGrades.en) := by
  obtain ⟨ih0, ih1⟩ := impl_ParseGrades.link k
  rw [impl_ParseGrades.ef]
  simp only [impl_ParseGrades.f, R.map_ite, R.map_bind, R.map_none, R.map_some, R.wr64_eq, ← ih0, ← ih1]
theorem impl_ParseGrades.ok (k : Nat) : impl_ParseGrades.tw.Ok Tryd.prog k := by
  intro md hmd a r h
  refine fn_ok (H := xhn) (fh := impl_ParseGrades.fh) (O := impl_ParseGrades.O) (k := k) Tryd.func6 (by kernel_rfl) (by kernel_rfl) (fun j _ => (Tw.orc_sound strings_Split.dok (strings_Split.ok j) (fun q => Bool.noConfusion (show false = true from hmd q)) (Tw.orc_sound impl_FormatGrades.dok (impl_FormatGrades.ok j) (fun q => Bool.noConfusion (show false = true from hmd q)) (Tw.orc_sound strings_IndexByte.dok (strings_IndexByte.ok j) (fun q => Bool.noConfusion (show false = true from hmd q)) noO_sound)))) (by kernel_rfl) (m := 0) rfl ?_
  refine (impl_ParseGrades.sf k a).trans ?_
  exact congrArg (Option.map _) h
def spec_l1In.f (a0 : Int) (a1 : Int) (a2 : Int) : Option (Bool) := (if a0 ≥ a1 then (some (decide (a0 ≤ a2))) else (some false))
def spec_l1In.en (r : Bool) : Res := (.lit r, [])
def spec_l1In.dec : List AV → List R.Obj → Option (Int × Int × Int)
  | [.int .i64 a0, .int .i64 a1, .int .i64 a2], [] => some (a0, a1, a2)
  | _, _ => none
def spec_l1In.tw : Tw := ⟨34, Int × Int × Int, Bool, spec_l1In.dec, fun a => [.int .i64 a.1, .int .i64 a.2.1, .int .i64 a.2.2], fun a => [], fun k a => spec_l1In.f a.1 a.2.1 a.2.2, fun a r => spec_l1In.en r, true⟩
theorem spec_l1In.dok : spec_l1In.tw.DecOk := by
  intro args hc a h
  have h : spec_l1In.dec args hc = some a := h
  unfold spec_l1In.dec at h
  split at h
  · cases h; exact ⟨rfl, rfl⟩
  · cases h
noncomputable def spec_l1In.O (k : Nat) : Oracle := noO
def spec_l1In.fh : FH := ⟨fun i => match i with | _ => none, [], false⟩
set_option maxRecDepth 100000 in
theorem spec_l1In.ef (k : Nat) (a0 : Int) (a1 : Int) (a2 : Int) : R.start Tryd.prog xhn spec_l1In.O 0 Tryd.f34 spec_l1In.fh k [.int .i64 a0, .int .i64 a1, .int .i64 a2] [] = (if a0 ≥ a1 then (some (spec_l1In.en (decide (a0 ≤ a2)))) else (some (spec_l1In.en false))) := by kernel_rfl
theorem spec_l1In.sf (k : Nat) (a0 : Int) (a1 : Int) (a2 : Int) : R.start Tryd.prog xhn spec_l1In.O 0 Tryd.f34 spec_l1In.fh k [.int .i64 a0, .int .i64 a1, .int .i64 a2] [] = (spec_l1In.f a0 a1 a2).map (spec_l1In.en) := by
  rw [spec_l1In.ef]
  simp only [spec_l1In.f, R.map_ite, R.map_bind, R.map_none, R.map_some, R.wr64_eq]
theorem spec_l1In.ok (k : Nat) : spec_l1In.tw.Ok Tryd.prog k := by
  intro md hmd a r h
  refine fn_ok (H := xhn) (fh := spec_l1In.fh) (O := spec_l1In.O) (k := k) Tryd.func34 (by kernel_rfl) (by kernel_rfl) (fun j _ => noO_sound) (by kernel_rfl) (m := 0) rfl ?_
  refine (spec_l1In.sf k a.1 a.2.1 a.2.2).trans ?_
  exact congrArg (Option.map _) h
def spec_CostValid.f (a0 : Int) : Option (Bool) := ((spec_l1In.f a0 0 1000000).bind fun t1 => (some t1))
def spec_CostValid.en (r : Bool) : Res := (.lit r, [])
def spec_CostValid.dec : List AV → List R.Obj → Option (Int)
  | [.int .i64 a0], [] => some a0
  | _, _ => none
def spec_CostValid.tw : Tw := ⟨68, Int, Bool, spec_CostValid.dec, fun a => [.int .i64 a], fun a => [], fun k a => spec_CostValid.f a, fun a r => spec_CostValid.en r, true⟩
theorem spec_CostValid.dok : spec_CostValid.tw.DecOk := by
  intro args hc a h
  have h : spec_CostValid.dec args hc = some a := h
  unfold spec_CostValid.dec at h
  split at h
  · cases h; exact ⟨rfl, rfl⟩
  · cases h
noncomputable def spec_CostValid.O (k : Nat) : Oracle := (spec_l1In.tw.orc k noO)
def spec_CostValid.fh : FH := ⟨fun i => match i with | _ => none, [], false⟩
set_option maxRecDepth 100000 in
theorem spec_CostValid.ef (k : Nat) (a0 : Int) : R.start Tryd.prog xhn spec_CostValid.O 0 Tryd.f68 spec_CostValid.fh k [.int .i64 a0] [] = ((spec_l1In.f a0 0 1000000).bind fun t1 => (some (spec_CostValid.en t1))) := by kernel_rfl
theorem spec_CostValid.sf (k : Nat) (a0 : Int) : R.start Tryd.prog xhn spec_CostValid.O 0 Tryd.f68 spec_CostValid.fh k [.int .i64 a0] [] = (spec_CostValid.f a0).map (spec_CostValid.en) := by
  rw [spec_CostValid.ef]
  simp only [spec_CostValid.f, R.map_ite, R.map_bind, R.map_none, R.map_some, R.wr64_eq]
theorem spec_CostValid.ok (k : Nat) : spec_CostValid.tw.Ok Tryd.prog k := by
  intro md hmd a r h
  refine fn_ok (H := xhn) (fh := spec_CostValid.fh) (O := spec_CostValid.O) (k := k) Tryd.func68 (by kernel_rfl) (by kernel_rfl) (fun j _ => (Tw.orc_sound spec_l1In.dok (spec_l1In.ok j) (fun _ => rfl) noO_sound)) (by kernel_rfl) (m := 0) rfl ?_
  refine (spec_CostValid.sf k a).trans ?_
  exact congrArg (Option.map _) h
def spec_l1All.l0 : Nat → (List Int) → Int → Int → Option (Bool)
  | 0, _, _, _ => none
  | k + 1, x5, x6, x7 => (if x7 < x6 then (if 0 ≤ x7 then (if x7 < (x5.length : Int) then ((spec_CostValid.f (rdI x5 x7)).bind fun t1 => (if t1 = true then (spec_l1All.l0 k x5 x6 (wrap64 (x7 + 1))) else (some false))) else none) else none) else (some true))
def spec_l1All.f (k : Nat) (l0 : List Int) : Option (Bool) := (spec_l1All.l0 k l0 (l0.length : Int) 0)
def spec_l1All.en (r : Bool) : Res := (.lit r, [])
def spec_l1All.dec : List AV → List R.Obj → Option (List Int)
  | [.imm (.I .i64 l0)], [] => some l0
  | _, _ => none
def spec_l1All.tw : Tw := ⟨52, List Int, Bool, spec_l1All.dec, fun a => [.imm (.I .i64 a)], fun a => [], fun k a => spec_l1All.f k a, fun a r => spec_l1All.en r, true⟩
theorem spec_l1All.dok : spec_l1All.tw.DecOk := by
  intro args hc a h
  have h : spec_l1All.dec args hc = some a := h
  unfold spec_l1All.dec at h
  split at h
  · cases h; exact ⟨rfl, rfl⟩
  · cases h
noncomputable def spec_l1All.O (k : Nat) : Oracle := (spec_CostValid.tw.orc k noO)
def spec_l1All.fh : FH := ⟨fun i => match i with | 2 => some [(5, 0), (6, 0), (7, 0)] | _ => none, [], false⟩
noncomputable def spec_l1All.x0 (k : Nat) (x5 : List Int) (x6 : Int) (x7 : Int) : Option Res := R.exec Tryd.prog xhn spec_l1All.O 0 Tryd.f52 spec_l1All.fh k (R.point Tryd.f52 2) ⟨[(5, .imm (.I .i64 x5)), (6, .int .i64 x6), (7, .int .i64 x7)], [], 2⟩
set_option maxRecDepth 100000 in
theorem spec_l1All.e0 (k : Nat) (x5 : List Int) (x6 : Int) (x7 : Int) : spec_l1All.x0 (k + 1) x5 x6 x7 = (if x7 < x6 then (if 0 ≤ x7 then (if x7 < (x5.length : Int) then ((spec_CostValid.f (rdI x5 x7)).bind fun t1 => (if t1 = true then (spec_l1All.x0 k x5 x6 (wr64 (x7 + 1))) else (some (spec_l1All.en false)))) else none) else none) else (some (spec_l1All.en true))) := by kernel_rfl
set_option maxRecDepth 100000 in
theorem spec_l1All.ef (k : Nat) (l0 : List Int) : R.start Tryd.prog xhn spec_l1All.O 0 Tryd.f52 spec_l1All.fh k [.imm (.I .i64 l0)] [] = (spec_l1All.x0 k l0 (l0.length : Int) 0) := by kernel_rfl
theorem spec_l1All.link : ∀ k, (∀ (x5 : List Int) (x6 : Int) (x7 : Int), spec_l1All.x0 k x5 x6 x7 = (spec_l1All.l0 k x5 x6 x7).map (spec_l1All.en))
  | 0 => fun _ _ _ => by simp only [spec_l1All.l0, R.map_none]; rfl
  | k + 1 => by
    have ih0 := spec_l1All.link k
    · intro x5 x6 x7
      rw [spec_l1All.e0]
      simp only [spec_l1All.l0, R.map_ite, R.map_bind, R.map_none, R.map_some, R.wr64_eq, ← ih0]
theorem spec_l1All.sf (k : Nat) (l0 : List Int) : R.start Tryd.prog xhn spec_l1All.O 0 Tryd.f52 spec_l1All.fh k [.imm (.I .i64 l0)] [] = (spec_l1All.f k l0).map (spec_l1All.en) := by
  have ih0 := spec_l1All.link k
  rw [spec_l1All.ef]
  simp only [spec_l1All.f, R.map_ite, R.map_bind, R.map_none, R.map_some, R.wr64_eq, ← ih0]
theorem spec_l1All.ok (k : Nat) : spec_l1All.tw.Ok Tryd.prog k := by
  intro md hmd a r h
  refine fn_ok (H := xhn) (fh := spec_l1All.fh) (O := spec_l1All.O) (k := k) Tryd.func52 (by kernel_rfl) (by kernel_rfl) (fun j _ => (Tw.orc_sound spec_CostValid.dok (spec_CostValid.ok j) (fun _ => rfl) noO_sound)) (by kernel_rfl) (m := 0) rfl ?_
  refine (spec_l1All.sf k a).trans ?_
  exact congrArg (Option.map _) h
def spec_MatrixValid.f (k : Nat) (a0_0 : Int) (l0_1 : List Int) : Option (Bool) := ((spec_l1In.f a0_0 1 4).bind fun t1 => (if t1 = true then (if (l0_1.length : Int) = (wrap64 (a0_0 * a0_0)) then ((spec_l1All.f k l0_1).bind fun t2 => (some t2)) else (some false)) else (some false)))
def spec_MatrixValid.en (r : Bool) : Res := (.lit r, [])
def spec_MatrixValid.dec : List AV → List R.Obj → Option (Int × (List Int))
  | [.agg [.int .i64 a0_0, .imm (.I .i64 l0_1)]], [] => some (a0_0, l0_1)
  | _, _ => none
def spec_MatrixValid.tw : Tw := ⟨35, Int × (List Int), Bool, spec_MatrixValid.dec, fun a => [.agg [.int .i64 a.1, .imm (.I .i64 a.2)]], fun a => [], fun k a => spec_MatrixValid.f k a.1 a.2, fun a r => spec_MatrixValid.en r, true⟩
theorem spec_MatrixValid.dok : spec_MatrixValid.tw.DecOk := by
  intro args hc a h
  have h : spec_MatrixValid.dec args hc = some a := h
  unfold spec_MatrixValid.dec at h
  split at h
  · cases h; exact ⟨rfl, rfl⟩
  · cases h
noncomputable def spec_MatrixValid.O (k : Nat) : Oracle := (spec_l1In.tw.orc k (spec_l1All.tw.orc k noO))
def spec_MatrixValid.fh : FH := ⟨fun i => match i with | _ => none, [], false⟩
set_option maxRecDepth 100000 in
theorem spec_MatrixValid.ef (k : Nat) (a0_0 : Int) (l0_1 : List Int) : R.start Tryd.prog xhn spec_MatrixValid.O 0 Tryd.f35 spec_MatrixValid.fh k [.agg [.int .i64 a0_0, .imm (.I .i64 l0_1)]] [] = ((spec_l1In.f a0_0 1 4).bind fun t1 => (if t1 = true then (if (l0_1.length : Int) = (wr64 (a0_0 * a0_0)) then ((spec_l1All.f k l0_1).bind fun t2 => (some (spec_MatrixValid.en t2))) else (some (spec_MatrixValid.en false))) else (some (spec_MatrixValid.en false)))) := by kernel_rfl
theorem spec_MatrixValid.sf (k : Nat) (a0_0 : Int) (l0_1 : List Int) : R.start Tryd.prog xhn spec_MatrixValid.O 0 Tryd.f35 spec_MatrixValid.fh k [.agg [.int .i64 a0_0, .imm (.I .i64 l0_1)]] [] = (spec_MatrixValid.f k a0_0 l0_1).map (spec_MatrixValid.en) := by
  rw [spec_MatrixValid.ef]
  simp only [spec_MatrixValid.f, R.map_ite, R.map_bind, R.map_none, R.map_some, R.wr64_eq]
theorem spec_MatrixValid.ok (k : Nat) : spec_MatrixValid.tw.Ok Tryd.prog k := by
  intro md hmd a r h
  refine fn_ok (H := xhn) (fh := spec_MatrixValid.fh) (O := spec_MatrixValid.O) (k := k) Tryd.func35 (by kernel_rfl) (by kernel_rfl) (fun j _ => (Tw.orc_sound spec_l1In.dok (spec_l1In.ok j) (fun _ => rfl) (Tw.orc_sound spec_l1All.dok (spec_l1All.ok j) (fun _ => rfl) noO_sound))) (by kernel_rfl) (m := 0) rfl ?_
  refine (spec_MatrixValid.sf k a.1 a.2).trans ?_
  exact congrArg (Option.map _) h
def spec_GradesValid.l0 : Nat → (List Int) → Int → Int → Int → (List Int) → Option (Bool)
  | 0, _, _, _, _, _ => none
  | k + 1, x6, x7, x8, y0_0, y0_1 => (if x8 < x7 then (if 0 ≤ x8 then (if x8 < (x6.length : Int) then ((spec_l1In.f (rdI x6 x8) 0 3).bind fun t1 => (if t1 = true then (spec_GradesValid.l0 k x6 x7 (wrap64 (x8 + 1)) y0_0 y0_1) else (some false))) else none) else none) else ((spec_MatrixValid.f k y0_0 y0_1).bind fun t2 => (some t2)))
def spec_GradesValid.f (k : Nat) (a0_0 : Int) (l0_1 : List Int) : Option (Bool) := (spec_GradesValid.l0 k l0_1 (l0_1.length : Int) 0 a0_0 l0_1)
def spec_GradesValid.en (r : Bool) : Res := (.lit r, [])
def spec_GradesValid.dec : List AV → List R.Obj → Option (Int × (List Int))
  | [.agg [.int .i64 a0_0, .imm (.I .i64 l0_1)]], [] => some (a0_0, l0_1)
  | _, _ => none
def spec_GradesValid.tw : Tw := ⟨14, Int × (List Int), Bool, spec_GradesValid.dec, fun a => [.agg [.int .i64 a.1, .imm (.I .i64 a.2)]], fun a => [], fun k a => spec_GradesValid.f k a.1 a.2, fun a r => spec_GradesValid.en r, true⟩
theorem spec_GradesValid.dok : spec_GradesValid.tw.DecOk := by
  intro args hc a h
  have h : spec_GradesValid.dec args hc = some a := h
  unfold spec_GradesValid.dec at h
  split at h
  · cases h; exact ⟨rfl, rfl⟩
  · cases h
noncomputable def spec_GradesValid.O (k : Nat) : Oracle := (spec_l1In.tw.orc k (spec_MatrixValid.tw.orc k noO))
def spec_GradesValid.fh : FH := ⟨fun i => match i with | 2 => some [(1, 0), (6, 0), (7, 0), (8, 0)] | _ => none, [], false⟩
noncomputable def spec_GradesValid.x0 (k : Nat) (x6 : List Int) (x7 : Int) (x8 : Int) (y0_0 : Int) (y0_1 : List Int) : Option Res := R.exec Tryd.prog xhn spec_GradesValid.O 0 Tryd.f14 spec_GradesValid.fh k (R.point Tryd.f14 2) ⟨[(1, .ptr 0 0), (6, .imm (.I .i64 x6)), (7, .int .i64 x7), (8, .int .i64 x8)], [(0, .box false [.int .i64 y0_0, .imm (.I .i64 y0_1)])], 3⟩
set_option maxRecDepth 100000 in
theorem spec_GradesValid.e0 (k : Nat) (x6 : List Int) (x7 : Int) (x8 : Int) (y0_0 : Int) (y0_1 : List Int) : spec_GradesValid.x0 (k + 1) x6 x7 x8 y0_0 y0_1 = (if x8 < x7 then (if 0 ≤ x8 then (if x8 < (x6.length : Int) then ((spec_l1In.f (rdI x6 x8) 0 3).bind fun t1 => (if t1 = true then (spec_GradesValid.x0 k x6 x7 (wr64 (x8 + 1)) y0_0 y0_1) else (some (spec_GradesValid.en false)))) else none) else none) else ((spec_MatrixValid.f k y0_0 y0_1).bind fun t2 => (some (spec_GradesValid.en t2)))) := by kernel_rfl
set_option maxRecDepth 100000 in
theorem spec_GradesValid.ef (k : Nat) (a0_0 : Int) (l0_1 : List Int) : R.start Tryd.prog xhn spec_GradesValid.O 0 Tryd.f14 spec_GradesValid.fh k [.agg [.int .i64 a0_0, .imm (.I .i64 l0_1)]] [] = (spec_GradesValid.x0 k l0_1 (l0_1.length : Int) 0 a0_0 l0_1) := by kernel_rfl
theorem spec_GradesValid.link : ∀ k, (∀ (x6 : List Int) (x7 : Int) (x8 : Int) (y0_0 : Int) (y0_1 : List Int), spec_GradesValid.x0 k x6 x7 x8 y0_0 y0_1 = (spec_GradesValid.l0 k x6 x7 x8 y0_0 y0_1).map (spec_GradesValid.en))
  | 0 => fun _ _ _ _ _ => by simp only [spec_GradesValid.l0, R.map_none]; rfl
  | k + 1 => by
    have ih0 := spec_GradesValid.link k
    · intro x6 x7 x8 y0_0 y0_1
      rw [spec_GradesValid.e0]
      simp only [spec_GradesValid.l0, R.map_ite, R.map_bind, R.map_none, R.map_some, R.wr64_eq, ← ih0]
theorem spec_GradesValid.sf (k : Nat) (a0_0 : Int) (l0_1 : List Int) : R.start Tryd.prog xhn spec_GradesValid.O 0 Tryd.f14 spec_GradesValid.fh k [.agg [.int .i64 a0_0, .imm (.I .i64 l0_1)]] [] = (spec_GradesValid.f k a0_0 l0_1).map (spec_GradesValid.en) := by
  have ih0 := spec_GradesValid.link k
  rw [spec_GradesValid.ef]
  simp only [spec_GradesValid.f, R.map_ite, R.map_bind, R.map_none, R.map_some, R.wr64_eq, ← ih0]
theorem spec_GradesValid.ok (k : Nat) : spec_GradesValid.tw.Ok Tryd.prog k := by
  intro md hmd a r h
  refine fn_ok (H := xhn) (fh := spec_GradesValid.fh) (O := spec_GradesValid.O) (k := k) Tryd.func14 (by kernel_rfl) (by kernel_rfl) (fun j _ => (Tw.orc_sound spec_l1In.dok (spec_l1In.ok j) (fun _ => rfl) (Tw.orc_sound spec_MatrixValid.dok (spec_MatrixValid.ok j) (fun _ => rfl) noO_sound))) (by kernel_rfl) (m := 0) rfl ?_
  refine (spec_GradesValid.sf k a.1 a.2).trans ?_
  exact congrArg (Option.map _) h
def spec_FormatGrades.l0 : Nat → ByteArray → (List Int) → Int → Int → Int → (List Int) → Option (ByteArray)
  | 0, _, _, _, _, _, _ => none
  | k + 1, x3, x10, x11, x12, y0_0, y0_1 => (if x12 < x11 then (if 0 ≤ x12 then (if x12 < (x10.length : Int) then (if x12 > 0 then (if y0_0 = 0 then none else (if (x12.tmod y0_0) = 0 then (if x3.size + 1 ≤ 9223372036854775807 then (if 0 ≤ (rdI x10 x12) then (if (rdI x10 x12) ≤ (wrap64 ((rdI x10 x12) + 1)) then (if (wrap64 ((rdI x10 x12) + 1)) ≤ ((⟨#[48, 49, 119, 45]⟩ : ByteArray).size : Int) then (if (x3 ++ (⟨#[47]⟩ : ByteArray)).size + ((⟨#[48, 49, 119, 45]⟩ : ByteArray).extract (rdI x10 x12).toNat (wrap64 ((rdI x10 x12) + 1)).toNat).size ≤ 9223372036854775807 then (spec_FormatGrades.l0 k ((x3 ++ (⟨#[47]⟩ : ByteArray)) ++ ((⟨#[48, 49, 119, 45]⟩ : ByteArray).extract (rdI x10 x12).toNat (wrap64 ((rdI x10 x12) + 1)).toNat)) x10 x11 (wrap64 (x12 + 1)) y0_0 y0_1) else none) else none) else none) else none) else none) else (if 0 ≤ (rdI x10 x12) then (if (rdI x10 x12) ≤ (wrap64 ((rdI x10 x12) + 1)) then (if (wrap64 ((rdI x10 x12) + 1)) ≤ ((⟨#[48, 49, 119, 45]⟩ : ByteArray).size : Int) then (if x3.size + ((⟨#[48, 49, 119, 45]⟩ : ByteArray).extract (rdI x10 x12).toNat (wrap64 ((rdI x10 x12) + 1)).toNat).size ≤ 9223372036854775807 then (spec_FormatGrades.l0 k (x3 ++ ((⟨#[48, 49, 119, 45]⟩ : ByteArray).extract (rdI x10 x12).toNat (wrap64 ((rdI x10 x12) + 1)).toNat)) x10 x11 (wrap64 (x12 + 1)) y0_0 y0_1) else none) else none) else none) else none))) else (if 0 ≤ (rdI x10 x12) then (if (rdI x10 x12) ≤ (wrap64 ((rdI x10 x12) + 1)) then (if (wrap64 ((rdI x10 x12) + 1)) ≤ ((⟨#[48, 49, 119, 45]⟩ : ByteArray).size : Int) then (if x3.size + ((⟨#[48, 49, 119, 45]⟩ : ByteArray).extract (rdI x10 x12).toNat (wrap64 ((rdI x10 x12) + 1)).toNat).size ≤ 9223372036854775807 then (spec_FormatGrades.l0 k (x3 ++ ((⟨#[48, 49, 119, 45]⟩ : ByteArray).extract (rdI x10 x12).toNat (wrap64 ((rdI x10 x12) + 1)).toNat)) x10 x11 (wrap64 (x12 + 1)) y0_0 y0_1) else none) else none) else none) else none)) else none) else none) else (some x3))
def spec_FormatGrades.f (k : Nat) (a0_0 : Int) (l0_1 : List Int) : Option (ByteArray) := ((spec_GradesValid.f k a0_0 l0_1).bind fun t1 => (if t1 = true then (spec_FormatGrades.l0 k (⟨#[]⟩ : ByteArray) l0_1 (l0_1.length : Int) 0 a0_0 l0_1) else (some (⟨#[]⟩ : ByteArray))))
def spec_FormatGrades.en (r : ByteArray) : Res := (.str r, [])
def spec_FormatGrades.dec : List AV → List R.Obj → Option (Int × (List Int))
  | [.agg [.int .i64 a0_0, .imm (.I .i64 l0_1)]], [] => some (a0_0, l0_1)
  | _, _ => none
def spec_FormatGrades.tw : Tw := ⟨12, Int × (List Int), ByteArray, spec_FormatGrades.dec, fun a => [.agg [.int .i64 a.1, .imm (.I .i64 a.2)]], fun a => [], fun k a => spec_FormatGrades.f k a.1 a.2, fun a r => spec_FormatGrades.en r, true⟩
theorem spec_FormatGrades.dok : spec_FormatGrades.tw.DecOk := by
  intro args hc a h
  have h : spec_FormatGrades.dec args hc = some a := h
  unfold spec_FormatGrades.dec at h
  split at h
  · cases h; exact ⟨rfl, rfl⟩
  · cases h
noncomputable def spec_FormatGrades.O (k : Nat) : Oracle := (spec_GradesValid.tw.orc k noO)
def spec_FormatGrades.fh : FH := ⟨fun i => match i with | 5 => some [(1, 0), (3, 0), (10, 0), (11, 0), (12, 0)] | _ => none, [], false⟩
noncomputable def spec_FormatGrades.x0 (k : Nat) (x3 : ByteArray) (x10 : List Int) (x11 : Int) (x12 : Int) (y0_0 : Int) (y0_1 : List Int) : Option Res := R.exec Tryd.prog xhn spec_FormatGrades.O 0 Tryd.f12 spec_FormatGrades.fh k (R.point Tryd.f12 5) ⟨[(1, .ptr 0 0), (3, .str x3), (10, .imm (.I .i64 x10)), (11, .int .i64 x11), (12, .int .i64 x12)], [(0, .box false [.int .i64 y0_0, .imm (.I .i64 y0_1)])], 3⟩
set_option maxRecDepth 100000 in
theorem spec_FormatGrades.e0 (k : Nat) (x3 : ByteArray) (x10 : List Int) (x11 : Int) (x12 : Int) (y0_0 : Int) (y0_1 : List Int) : spec_FormatGrades.x0 (k + 1) x3 x10 x11 x12 y0_0 y0_1 = (if x12 < x11 then (if 0 ≤ x12 then (if x12 < (x10.length : Int) then (if x12 > 0 then (if y0_0 = 0 then none else (if (x12.tmod y0_0) = 0 then (if x3.size + 1 ≤ 9223372036854775807 then (if 0 ≤ (rdI x10 x12) then (if (rdI x10 x12) ≤ (wr64 ((rdI x10 x12) + 1)) then (if (wr64 ((rdI x10 x12) + 1)) ≤ ((⟨#[48, 49, 119, 45]⟩ : ByteArray).size : Int) then (if (x3 ++ (⟨#[47]⟩ : ByteArray)).size + ((⟨#[48, 49, 119, 45]⟩ : ByteArray).extract (rdI x10 x12).toNat (wr64 ((rdI x10 x12) + 1)).toNat).size ≤ 9223372036854775807 then (spec_FormatGrades.x0 k ((x3 ++ (⟨#[47]⟩ : ByteArray)) ++ ((⟨#[48, 49, 119, 45]⟩ : ByteArray).extract (rdI x10 x12).toNat (wr64 ((rdI x10 x12) + 1)).toNat)) x10 x11 (wr64 (x12 + 1)) y0_0 y0_1) else none) else none) else none) else none) else none) else (if 0 ≤ (rdI x10 x12) then (if (rdI x10 x12) ≤ (wr64 ((rdI x10 x12) + 1)) then (if (wr64 ((rdI x10 x12) + 1)) ≤ ((⟨#[48, 49, 119, 45]⟩ : ByteArray).size : Int) then (if x3.size + ((⟨#[48, 49, 119, 45]⟩ : ByteArray).extract (rdI x10 x12).toNat (wr64 ((rdI x10 x12) + 1)).toNat).size ≤ 9223372036854775807 then (spec_FormatGrades.x0 k (x3 ++ ((⟨#[48, 49, 119, 45]⟩ : ByteArray).extract (rdI x10 x12).toNat (wr64 ((rdI x10 x12) + 1)).toNat)) x10 x11 (wr64 (x12 + 1)) y0_0 y0_1) else none) else none) else none) else none))) else (if 0 ≤ (rdI x10 x12) then (if (rdI x10 x12) ≤ (wr64 ((rdI x10 x12) + 1)) then (if (wr64 ((rdI x10 x12) + 1)) ≤ ((⟨#[48, 49, 119, 45]⟩ : ByteArray).size : Int) then (if x3.size + ((⟨#[48, 49, 119, 45]⟩ : ByteArray).extract (rdI x10 x12).toNat (wr64 ((rdI x10 x12) + 1)).toNat).size ≤ 9223372036854775807 then (spec_FormatGrades.x0 k (x3 ++ ((⟨#[48, 49, 119, 45]⟩ : ByteArray).extract (rdI x10 x12).toNat (wr64 ((rdI x10 x12) + 1)).toNat)) x10 x11 (wr64 (x12 + 1)) y0_0 y0_1) else none) else none) else none) else none)) else none) else none) else (some (spec_FormatGrades.en x3))) := by kernel_rfl
set_option maxRecDepth 100000 in
theorem spec_FormatGrades.ef (k : Nat) (a0_0 : Int) (l0_1 : List Int) : R.start Tryd.prog xhn spec_FormatGrades.O 0 Tryd.f12 spec_FormatGrades.fh k [.agg [.int .i64 a0_0, .imm (.I .i64 l0_1)]] [] = ((spec_GradesValid.f k a0_0 l0_1).bind fun t1 => (if t1 = true then (spec_FormatGrades.x0 k (⟨#[]⟩ : ByteArray) l0_1 (l0_1.length : Int) 0 a0_0 l0_1) else (some (spec_FormatGrades.en (⟨#[]⟩ : ByteArray))))) := by kernel_rfl
theorem spec_FormatGrades.link : ∀ k, (∀ (x3 : ByteArray) (x10 : List Int) (x11 : Int) (x12 : Int) (y0_0 : Int) (y0_1 : List Int), spec_FormatGrades.x0 k x3 x10 x11 x12 y0_0 y0_1 = (spec_FormatGrades.l0 k x3 x10 x11 x12 y0_0 y0_1).map (spec_FormatGrades.en))
  | 0 => fun _ _ _ _ _ _ => by simp only [spec_FormatGrades.l0, R.map_none]; rfl
  | k + 1 => by
    have ih0 := spec_FormatGrades.link k
    · intro x3 x10 x11 x12 y0_0 y0_1
      rw [spec_FormatGrades.e0]
      simp only [spec_FormatGrades.l0, R.map_ite, R.map_bind, R.map_none, R.map_some, R.wr64_eq, ← ih0]
theorem spec_FormatGrades.sf (k : Nat) (a0_0 : Int) (l0_1 : List Int) : R.start Tryd.prog xhn spec_FormatGrades.O 0 Tryd.f12 spec_FormatGrades.fh k [.agg [.int .i64 a0_0, .imm (.I .i64 l0_1)]] [] = (spec_FormatGrades.f k a0_0 l0_1).map (spec_FormatGrades.en) := by
  have ih0 := spec_FormatGrades.link k
  rw [spec_FormatGrades.ef]
  simp only [spec_FormatGrades.f, R.map_ite, R.map_bind, R.map_none, R.map_some, R.wr64_eq, ← ih0]
theorem spec_FormatGrades.ok (k : Nat) : spec_FormatGrades.tw.Ok Tryd.prog k := by
  intro md hmd a r h
  refine fn_ok (H := xhn) (fh := spec_FormatGrades.fh) (O := spec_FormatGrades.O) (k := k) Tryd.func12 (by kernel_rfl) (by kernel_rfl) (fun j _ => (Tw.orc_sound spec_GradesValid.dok (spec_GradesValid.ok j) (fun _ => rfl) noO_sound)) (by kernel_rfl) (m := 0) rfl ?_
  refine (spec_FormatGrades.sf k a.1 a.2).trans ?_
  exact congrArg (Option.map _) h
def laws_daSame.l0 : Nat → (List Int) → (List Int) → Int → Int → Option (Bool)
  | 0, _, _, _, _ => none
  | k + 1, x0, x1, x10, x11 => (if x11 < x10 then (if 0 ≤ x11 then (if x11 < (x0.length : Int) then (if x11 < (x1.length : Int) then (if (rdI x0 x11) = (rdI x1 x11) then (laws_daSame.l0 k x0 x1 x10 (wrap64 (x11 + 1))) else (some false)) else none) else none) else none) else (some (decide ((x0.length : Int) = (x1.length : Int)))))
def laws_daSame.f (k : Nat) (l0 : List Int) (l1 : List Int) : Option (Bool) := (laws_daSame.l0 k l0 l1 (mn (l0.length : Int) (l1.length : Int)) 0)
def laws_daSame.en (r : Bool) : Res := (.lit r, [])
def laws_daSame.dec : List AV → List R.Obj → Option ((List Int) × (List Int))
  | [.imm (.I .i64 l0), .imm (.I .i64 l1)], [] => some (l0, l1)
  | _, _ => none
def laws_daSame.tw : Tw := ⟨36, (List Int) × (List Int), Bool, laws_daSame.dec, fun a => [.imm (.I .i64 a.1), .imm (.I .i64 a.2)], fun a => [], fun k a => laws_daSame.f k a.1 a.2, fun a r => laws_daSame.en r, true⟩
theorem laws_daSame.dok : laws_daSame.tw.DecOk := by
  intro args hc a h
  have h : laws_daSame.dec args hc = some a := h
  unfold laws_daSame.dec at h
  split at h
  · cases h; exact ⟨rfl, rfl⟩
  · cases h
noncomputable def laws_daSame.O (k : Nat) : Oracle := noO
def laws_daSame.fh : FH := ⟨fun i => match i with | 2 => some [(0, 0), (1, 0), (10, 0), (11, 0)] | _ => none, [], false⟩
noncomputable def laws_daSame.x0 (k : Nat) (x0 : List Int) (x1 : List Int) (x10 : Int) (x11 : Int) : Option Res := R.exec Tryd.prog xhn laws_daSame.O 0 Tryd.f36 laws_daSame.fh k (R.point Tryd.f36 2) ⟨[(0, .imm (.I .i64 x0)), (1, .imm (.I .i64 x1)), (10, .int .i64 x10), (11, .int .i64 x11)], [], 2⟩
set_option maxRecDepth 100000 in
theorem laws_daSame.e0 (k : Nat) (x0 : List Int) (x1 : List Int) (x10 : Int) (x11 : Int) : laws_daSame.x0 (k + 1) x0 x1 x10 x11 = (if x11 < x10 then (if 0 ≤ x11 then (if x11 < (x0.length : Int) then (if x11 < (x1.length : Int) then (if (rdI x0 x11) = (rdI x1 x11) then (laws_daSame.x0 k x0 x1 x10 (wr64 (x11 + 1))) else (some (laws_daSame.en false))) else none) else none) else none) else (some (laws_daSame.en (decide ((x0.length : Int) = (x1.length : Int)))))) := by
  refine Eq.trans ?_ (R.icong (fun h0 => (R.icong (fun h1 => (R.icong (fun h2 => (R.idropT (p := 0 ≤ x11) (z := none) h1 rfl)) (fun h2 => rfl))) (fun h1 => rfl))) (fun h0 => rfl))
  kernel_rfl
set_option maxRecDepth 100000 in
theorem laws_daSame.ef (k : Nat) (l0 : List Int) (l1 : List Int) : R.start Tryd.prog xhn laws_daSame.O 0 Tryd.f36 laws_daSame.fh k [.imm (.I .i64 l0), .imm (.I .i64 l1)] [] = (laws_daSame.x0 k l0 l1 (mn (l0.length : Int) (l1.length : Int)) 0) := by kernel_rfl
theorem laws_daSame.link : ∀ k, (∀ (x0 : List Int) (x1 : List Int) (x10 : Int) (x11 : Int), laws_daSame.x0 k x0 x1 x10 x11 = (laws_daSame.l0 k x0 x1 x10 x11).map (laws_daSame.en))
  | 0 => fun _ _ _ _ => by simp only [laws_daSame.l0, R.map_none]; rfl
  | k + 1 => by
    have ih0 := laws_daSame.link k
    · intro x0 x1 x10 x11
      rw [laws_daSame.e0]
      simp only [laws_daSame.l0, R.map_ite, R.map_bind, R.map_none, R.map_some, R.wr64_eq, ← ih0]
theorem laws_daSame.sf (k : Nat) (l0 : List Int) (l1 : List Int) : R.start Tryd.prog xhn laws_daSame.O 0 Tryd.f36 laws_daSame.fh k [.imm (.I .i64 l0), .imm (.I .i64 l1)] [] = (laws_daSame.f k l0 l1).map (laws_daSame.en) := by
  have ih0 := laws_daSame.link k
  rw [laws_daSame.ef]
  simp only [laws_daSame.f, R.map_ite, R.map_bind, R.map_none, R.map_some, R.wr64_eq, ← ih0]
theorem laws_daSame.ok (k : Nat) : laws_daSame.tw.Ok Tryd.prog k := by
  intro md hmd a r h
  refine fn_ok (H := xhn) (fh := laws_daSame.fh) (O := laws_daSame.O) (k := k) Tryd.func36 (by kernel_rfl) (by kernel_rfl) (fun j _ => noO_sound) (by kernel_rfl) (m := 0) rfl ?_
  refine (laws_daSame.sf k a.1 a.2).trans ?_
  exact congrArg (Option.map _) h
def laws_daMatrix.f (k : Nat) (a0_0 : Int) (l0_1 : List Int) (a1_0 : Int) (l1_1 : List Int) : Option (Bool) := (if a0_0 = a1_0 then ((laws_daSame.f k l0_1 l1_1).bind fun t1 => (some t1)) else (some false))
def laws_daMatrix.en (r : Bool) : Res := (.lit r, [])
def laws_daMatrix.dec : List AV → List R.Obj → Option (Int × (List Int) × Int × (List Int))
  | [.agg [.int .i64 a0_0, .imm (.I .i64 l0_1)], .agg [.int .i64 a1_0, .imm (.I .i64 l1_1)]], [] => some (a0_0, l0_1, a1_0, l1_1)
  | _, _ => none
def laws_daMatrix.tw : Tw := ⟨15, Int × (List Int) × Int × (List Int), Bool, laws_daMatrix.dec, fun a => [.agg [.int .i64 a.1, .imm (.I .i64 a.2.1)], .agg [.int .i64 a.2.2.1, .imm (.I .i64 a.2.2.2)]], fun a => [], fun k a => laws_daMatrix.f k a.1 a.2.1 a.2.2.1 a.2.2.2, fun a r => laws_daMatrix.en r, true⟩
theorem laws_daMatrix.dok : laws_daMatrix.tw.DecOk := by
  intro args hc a h
  have h : laws_daMatrix.dec args hc = some a := h
  unfold laws_daMatrix.dec at h
  split at h
  · cases h; exact ⟨rfl, rfl⟩
  · cases h
noncomputable def laws_daMatrix.O (k : Nat) : Oracle := (laws_daSame.tw.orc k noO)
def laws_daMatrix.fh : FH := ⟨fun i => match i with | _ => none, [], false⟩
set_option maxRecDepth 100000 in
theorem laws_daMatrix.ef (k : Nat) (a0_0 : Int) (l0_1 : List Int) (a1_0 : Int) (l1_1 : List Int) : R.start Tryd.prog xhn laws_daMatrix.O 0 Tryd.f15 laws_daMatrix.fh k [.agg [.int .i64 a0_0, .imm (.I .i64 l0_1)], .agg [.int .i64 a1_0, .imm (.I .i64 l1_1)]] [] = (if a0_0 = a1_0 then ((laws_daSame.f k l0_1 l1_1).bind fun t1 => (some (laws_daMatrix.en t1))) else (some (laws_daMatrix.en false))) := by kernel_rfl
theorem laws_daMatrix.sf (k : Nat) (a0_0 : Int) (l0_1 : List Int) (a1_0 : Int) (l1_1 : List Int) : R.start Tryd.prog xhn laws_daMatrix.O 0 Tryd.f15 laws_daMatrix.fh k [.agg [.int .i64 a0_0, .imm (.I .i64 l0_1)], .agg [.int .i64 a1_0, .imm (.I .i64 l1_1)]] [] = (laws_daMatrix.f k a0_0 l0_1 a1_0 l1_1).map (laws_daMatrix.en) := by
  rw [laws_daMatrix.ef]
  simp only [laws_daMatrix.f, R.map_ite, R.map_bind, R.map_none, R.map_some, R.wr64_eq]
theorem laws_daMatrix.ok (k : Nat) : laws_daMatrix.tw.Ok Tryd.prog k := by
  intro md hmd a r h
  refine fn_ok (H := xhn) (fh := laws_daMatrix.fh) (O := laws_daMatrix.O) (k := k) Tryd.func15 (by kernel_rfl) (by kernel_rfl) (fun j _ => (Tw.orc_sound laws_daSame.dok (laws_daSame.ok j) (fun _ => rfl) noO_sound)) (by kernel_rfl) (m := 0) rfl ?_
  refine (laws_daMatrix.sf k a.1 a.2.1 a.2.2.1 a.2.2.2).trans ?_
  exact congrArg (Option.map _) h
def spec_l13Rd_of.f (l1 : List ByteArray) (l2_0 : List Int) (a2_1 : Int) : Option (ByteArray × (List Int) × Int) := ((spec_l13Rd_pick.f (l1.length : Int) l2_0 a2_1).bind fun t1 => (if 0 ≤ t1.1 then (if t1.1 < (l1.length : Int) then (some ((rdS l1 t1.1), t1.2.1, t1.2.2)) else none) else none))
def spec_l13Rd_of.en (r : ByteArray × (List Int) × Int) : Res := (.str r.1, [.box false [.imm (.I .u8 r.2.1), .int .i64 r.2.2]])
def spec_l13Rd_of.dec : List AV → List R.Obj → Option ((List ByteArray) × (List Int) × Int)
  | [.ptr 0 0, .imm (.S l1)], [.box false [.imm (.I .u8 l2_0), .int .i64 a2_1]] => some (l1, l2_0, a2_1)
  | _, _ => none
def spec_l13Rd_of.tw : Tw := ⟨39, (List ByteArray) × (List Int) × Int, ByteArray × (List Int) × Int, spec_l13Rd_of.dec, fun a => [.ptr 0 0, .imm (.S a.1)], fun a => [.box false [.imm (.I .u8 a.2.1), .int .i64 a.2.2]], fun k a => spec_l13Rd_of.f a.1 a.2.1 a.2.2, fun a r => spec_l13Rd_of.en r, true⟩
theorem spec_l13Rd_of.dok : spec_l13Rd_of.tw.DecOk := by
  intro args hc a h
  have h : spec_l13Rd_of.dec args hc = some a := h
  unfold spec_l13Rd_of.dec at h
  split at h
  · cases h; exact ⟨rfl, rfl⟩
  · cases h
noncomputable def spec_l13Rd_of.O (k : Nat) : Oracle := (spec_l13Rd_pick.tw.orc k noO)
def spec_l13Rd_of.fh : FH := ⟨fun i => match i with | _ => none, [], false⟩
set_option maxRecDepth 100000 in
theorem spec_l13Rd_of.ef (k : Nat) (l1 : List ByteArray) (l2_0 : List Int) (a2_1 : Int) : R.start Tryd.prog xhn spec_l13Rd_of.O 1 Tryd.f39 spec_l13Rd_of.fh k [.ptr 0 0, .imm (.S l1)] [.box false [.imm (.I .u8 l2_0), .int .i64 a2_1]] = ((spec_l13Rd_pick.f (l1.length : Int) l2_0 a2_1).bind fun t1 => (if 0 ≤ t1.1 then (if t1.1 < (l1.length : Int) then (some (spec_l13Rd_of.en ((rdS l1 t1.1), t1.2.1, t1.2.2))) else none) else none)) := by kernel_rfl
theorem spec_l13Rd_of.sf (k : Nat) (l1 : List ByteArray) (l2_0 : List Int) (a2_1 : Int) : R.start Tryd.prog xhn spec_l13Rd_of.O 1 Tryd.f39 spec_l13Rd_of.fh k [.ptr 0 0, .imm (.S l1)] [.box false [.imm (.I .u8 l2_0), .int .i64 a2_1]] = (spec_l13Rd_of.f l1 l2_0 a2_1).map (spec_l13Rd_of.en) := by
  rw [spec_l13Rd_of.ef]
  simp only [spec_l13Rd_of.f, R.map_ite, R.map_bind, R.map_none, R.map_some, R.wr64_eq]
theorem spec_l13Rd_of.ok (k : Nat) : spec_l13Rd_of.tw.Ok Tryd.prog k := by
  intro md hmd a r h
  refine fn_ok (H := xhn) (fh := spec_l13Rd_of.fh) (O := spec_l13Rd_of.O) (k := k) Tryd.func39 (by kernel_rfl) (by kernel_rfl) (fun j _ => (Tw.orc_sound spec_l13Rd_pick.dok (spec_l13Rd_pick.ok j) (fun _ => rfl) noO_sound)) (by kernel_rfl) (m := 1) rfl ?_
  refine (spec_l13Rd_of.sf k a.1 a.2.1 a.2.2).trans ?_
  exact congrArg (Option.map _) h
def spec_DrawParseGrades.f (k : Nat) (l0 : List Int) : Option (ByteArray) := ((spec_l13Open.f l0).bind fun t1 => ((spec_l13Rd_pick.f 4 t1.1 t1.2).bind fun t2 => ((spec_l6Draw.f k (wrap64 (1 + t2.1)) t2.2.1 t2.2.2).bind fun t3 => ((spec_FormatGrades.f k t3.1 t3.2.1).bind fun t4 => ((spec_l13Rd_pick.f 2 t3.2.2.1 t3.2.2.2).bind fun t5 => (if t5.1 = 0 then (some t4) else ((spec_l13Rd_pick.f (t4.size : Int) t5.2.1 t5.2.2).bind fun t6 => (if 0 ≤ t6.1 then (if t6.1 ≤ (t4.size : Int) then ((spec_l13Rd_of.f ([(⟨#[]⟩ : ByteArray), (⟨#[48]⟩ : ByteArray), (⟨#[47]⟩ : ByteArray), (⟨#[119]⟩ : ByteArray), (⟨#[50]⟩ : ByteArray), (⟨#[45]⟩ : ByteArray)]) t6.2.1 t6.2.2).bind fun t7 => (if (t4.extract 0 t6.1.toNat).size + t7.1.size ≤ 9223372036854775807 then ((spec_l13Rd_pick.f 2 t7.2.1 t7.2.2).bind fun t8 => (if 0 ≤ (wrap64 (t6.1 + t8.1)) then (if (wrap64 (t6.1 + t8.1)) ≤ (t4.size : Int) then (if (t4.size : Int) ≤ (t4.size : Int) then (if ((t4.extract 0 t6.1.toNat) ++ t7.1).size + (t4.extract (wrap64 (t6.1 + t8.1)).toNat t4.size).size ≤ 9223372036854775807 then (some (((t4.extract 0 t6.1.toNat) ++ t7.1) ++ (t4.extract (wrap64 (t6.1 + t8.1)).toNat t4.size))) else none) else none) else none) else none)) else none)) else none) else none))))))))
def spec_DrawParseGrades.en (r : ByteArray) : Res := (.str r, [])
def spec_DrawParseGrades.dec : List AV → List R.Obj → Option (List Int)
  | [.imm (.I .u8 l0)], [] => some l0
  | _, _ => none
def spec_DrawParseGrades.tw : Tw := ⟨16, List Int, ByteArray, spec_DrawParseGrades.dec, fun a => [.imm (.I .u8 a)], fun a => [], fun k a => spec_DrawParseGrades.f k a, fun a r => spec_DrawParseGrades.en r, true⟩
theorem spec_DrawParseGrades.dok : spec_DrawParseGrades.tw.DecOk := by
  intro args hc a h
  have h : spec_DrawParseGrades.dec args hc = some a := h
  unfold spec_DrawParseGrades.dec at h
  split at h
  · cases h; exact ⟨rfl, rfl⟩
  · cases h
noncomputable def spec_DrawParseGrades.O (k : Nat) : Oracle := (spec_l13Open.tw.orc k (spec_l13Rd_pick.tw.orc k (spec_l6Draw.tw.orc k (spec_FormatGrades.tw.orc k (spec_l13Rd_of.tw.orc k noO)))))
def spec_DrawParseGrades.fh : FH := ⟨fun i => match i with | _ => none, [], false⟩
set_option maxRecDepth 100000 in
theorem spec_DrawParseGrades.ef (k : Nat) (l0 : List Int) : R.start Tryd.prog xhn spec_DrawParseGrades.O 0 Tryd.f16 spec_DrawParseGrades.fh k [.imm (.I .u8 l0)] [] = ((spec_l13Open.f l0).bind fun t1 => ((spec_l13Rd_pick.f 4 t1.1 t1.2).bind fun t2 => ((spec_l6Draw.f k (wr64 (1 + t2.1)) t2.2.1 t2.2.2).bind fun t3 => ((spec_FormatGrades.f k t3.1 t3.2.1).bind fun t4 => ((spec_l13Rd_pick.f 2 t3.2.2.1 t3.2.2.2).bind fun t5 => (if t5.1 = 0 then (some (spec_DrawParseGrades.en t4)) else ((spec_l13Rd_pick.f (t4.size : Int) t5.2.1 t5.2.2).bind fun t6 => (if 0 ≤ t6.1 then (if t6.1 ≤ (t4.size : Int) then ((spec_l13Rd_of.f ([(⟨#[]⟩ : ByteArray), (⟨#[48]⟩ : ByteArray), (⟨#[47]⟩ : ByteArray), (⟨#[119]⟩ : ByteArray), (⟨#[50]⟩ : ByteArray), (⟨#[45]⟩ : ByteArray)]) t6.2.1 t6.2.2).bind fun t7 => (if (t4.extract 0 t6.1.toNat).size + t7.1.size ≤ 9223372036854775807 then ((spec_l13Rd_pick.f 2 t7.2.1 t7.2.2).bind fun t8 => (if 0 ≤ (wr64 (t6.1 + t8.1)) then (if (wr64 (t6.1 + t8.1)) ≤ (t4.size : Int) then (if (t4.size : Int) ≤ (t4.size : Int) then (if ((t4.extract 0 t6.1.toNat) ++ t7.1).size + (t4.extract (wr64 (t6.1 + t8.1)).toNat t4.size).size ≤ 9223372036854775807 then (some (spec_DrawParseGrades.en (((t4.extract 0 t6.1.toNat) ++ t7.1) ++ (t4.extract (wr64 (t6.1 + t8.1)).toNat t4.size)))) else none) else none) else none) else none)) else none)) else none) else none)))))))) := by kernel_rfl
theorem spec_DrawParseGrades.sf (k : Nat) (l0 : List Int) : R.start Tryd.prog xhn spec_DrawParseGrades.O 0 Tryd.f16 spec_DrawParseGrades.fh k [.imm (.I .u8 l0)] [] = (spec_DrawParseGrades.f k l0).map (spec_DrawParseGrades.en) := by
  rw [spec_DrawParseGrades.ef]
  simp only [spec_DrawParseGrades.f, R.map_ite, R.map_bind, R.map_none, R.map_some, R.wr64_eq]
theorem spec_DrawParseGrades.ok (k : Nat) : spec_DrawParseGrades.tw.Ok Tryd.prog k := by
  intro md hmd a r h
  refine fn_ok (H := xhn) (fh := spec_DrawParseGrades.fh) (O := spec_DrawParseGrades.O) (k := k) Tryd.func16 (by kernel_rfl) (by kernel_rfl) (fun j _ => (Tw.orc_sound spec_l13Open.dok (spec_l13Open.ok j) (fun _ => rfl) (Tw.orc_sound spec_l13Rd_pick.dok (spec_l13Rd_pick.ok j) (fun _ => rfl) (Tw.orc_sound spec_l6Draw.dok (spec_l6Draw.ok j) (fun _ => rfl) (Tw.orc_sound spec_FormatGrades.dok (spec_FormatGrades.ok j) (fun _ => rfl) (Tw.orc_sound spec_l13Rd_of.dok (spec_l13Rd_of.ok j) (fun _ => rfl) noO_sound)))))) (by kernel_rfl) (m := 0) rfl ?_
  refine (spec_DrawParseGrades.sf k a).trans ?_
  exact congrArg (Option.map _) h
def spec_l13Cut.l0 : Nat → ByteArray → Int → (List ByteArray) → Int → Int → Option (List ByteArray)
  | 0, _, _, _, _, _ => none
  | k + 1, x0, x1, y0, x6, x7 => (if x7 ≤ (x0.size : Int) then (if x7 = (x0.size : Int) then (if 0 ≤ x6 then (if x6 ≤ x7 then (if y0.length < 8796093022208 then (spec_l13Cut.l0 k x0 x1 (y0 ++ [(x0.extract x6.toNat x7.toNat)]) (wrap64 (x7 + 1)) (wrap64 (x7 + 1))) else none) else none) else none) else (if 0 ≤ x7 then (if x7 < (x0.size : Int) then (if (btI x0 x7) = x1 then (if 0 ≤ x6 then (if x6 ≤ x7 then (if y0.length < 8796093022208 then (spec_l13Cut.l0 k x0 x1 (y0 ++ [(x0.extract x6.toNat x7.toNat)]) (wrap64 (x7 + 1)) (wrap64 (x7 + 1))) else none) else none) else none) else (spec_l13Cut.l0 k x0 x1 y0 x6 (wrap64 (x7 + 1)))) else none) else none)) else (some y0))
def spec_l13Cut.f (k : Nat) (a0 : ByteArray) (a1 : Int) : Option (List ByteArray) := (spec_l13Cut.l0 k a0 a1 ([] : List ByteArray) 0 0)
def spec_l13Cut.en (r : List ByteArray) : Res := (.sl 0 0, [.arr 9 0 (.S r) false])
def spec_l13Cut.dec : List AV → List R.Obj → Option (ByteArray × Int)
  | [.str a0, .int .u8 a1], [] => some (a0, a1)
  | _, _ => none
def spec_l13Cut.tw : Tw := ⟨20, ByteArray × Int, List ByteArray, spec_l13Cut.dec, fun a => [.str a.1, .int .u8 a.2], fun a => [], fun k a => spec_l13Cut.f k a.1 a.2, fun a r => spec_l13Cut.en r, true⟩
theorem spec_l13Cut.dok : spec_l13Cut.tw.DecOk := by
  intro args hc a h
  have h : spec_l13Cut.dec args hc = some a := h
  unfold spec_l13Cut.dec at h
  split at h
  · cases h; exact ⟨rfl, rfl⟩
  · cases h
noncomputable def spec_l13Cut.O (k : Nat) : Oracle := noO
def spec_l13Cut.fh : FH := ⟨fun i => match i with | 4 => some [(0, 0), (1, 0), (5, 0), (6, 0), (7, 0)] | _ => none, [(true, 9)], false⟩
noncomputable def spec_l13Cut.x0 (k : Nat) (x0 : ByteArray) (x1 : Int) (y0 : List ByteArray) (x6 : Int) (x7 : Int) : Option Res := R.exec Tryd.prog xhn spec_l13Cut.O 0 Tryd.f20 spec_l13Cut.fh k (R.point Tryd.f20 4) ⟨[(0, .str x0), (1, .int .u8 x1), (5, .sl 0 0), (6, .int .i64 x6), (7, .int .i64 x7)], [(0, .arr 9 0 (.S y0) false)], 3⟩
set_option maxRecDepth 100000 in
theorem spec_l13Cut.e0 (k : Nat) (x0 : ByteArray) (x1 : Int) (y0 : List ByteArray) (x6 : Int) (x7 : Int) : spec_l13Cut.x0 (k + 1) x0 x1 y0 x6 x7 = (if x7 ≤ (x0.size : Int) then (if x7 = (x0.size : Int) then (if 0 ≤ x6 then (if x6 ≤ x7 then (if y0.length < 8796093022208 then (spec_l13Cut.x0 k x0 x1 (y0 ++ [(x0.extract x6.toNat x7.toNat)]) (wr64 (x7 + 1)) (wr64 (x7 + 1))) else none) else none) else none) else (if 0 ≤ x7 then (if x7 < (x0.size : Int) then (if (btI x0 x7) = x1 then (if 0 ≤ x6 then (if x6 ≤ x7 then (if y0.length < 8796093022208 then (spec_l13Cut.x0 k x0 x1 (y0 ++ [(x0.extract x6.toNat x7.toNat)]) (wr64 (x7 + 1)) (wr64 (x7 + 1))) else none) else none) else none) else (spec_l13Cut.x0 k x0 x1 y0 x6 (wr64 (x7 + 1)))) else none) else none)) else (some (spec_l13Cut.en y0))) := by
  refine Eq.trans ?_ (R.icong (fun h0 => (R.icong (fun h1 => (R.icong (fun h2 => (R.icong (fun h3 => (R.idropT (p := x7 ≤ (x0.size : Int)) (z := none) h0 rfl)) (fun h3 => rfl))) (fun h2 => rfl))) (fun h1 => (R.icong (fun h2 => (R.icong (fun h3 => (R.icong (fun h4 => (R.icong (fun h5 => (R.icong (fun h6 => (R.idropT (p := x7 ≤ (x0.size : Int)) (z := none) h0 rfl)) (fun h6 => rfl))) (fun h5 => rfl))) (fun h4 => rfl))) (fun h3 => rfl))) (fun h2 => rfl))))) (fun h0 => rfl))
  kernel_rfl
set_option maxRecDepth 100000 in
theorem spec_l13Cut.ef (k : Nat) (a0 : ByteArray) (a1 : Int) : R.start Tryd.prog xhn spec_l13Cut.O 0 Tryd.f20 spec_l13Cut.fh k [.str a0, .int .u8 a1] [] = (spec_l13Cut.x0 k a0 a1 ([] : List ByteArray) 0 0) := by kernel_rfl
theorem spec_l13Cut.link : ∀ k, (∀ (x0 : ByteArray) (x1 : Int) (y0 : List ByteArray) (x6 : Int) (x7 : Int), spec_l13Cut.x0 k x0 x1 y0 x6 x7 = (spec_l13Cut.l0 k x0 x1 y0 x6 x7).map (spec_l13Cut.en))
  | 0 => fun _ _ _ _ _ => by simp only [spec_l13Cut.l0, R.map_none]; rfl
  | k + 1 => by
    have ih0 := spec_l13Cut.link k
    · intro x0 x1 y0 x6 x7
      rw [spec_l13Cut.e0]
      simp only [spec_l13Cut.l0, R.map_ite, R.map_bind, R.map_none, R.map_some, R.wr64_eq, ← ih0]
theorem spec_l13Cut.sf (k : Nat) (a0 : ByteArray) (a1 : Int) : R.start Tryd.prog xhn spec_l13Cut.O 0 Tryd.f20 spec_l13Cut.fh k [.str a0, .int .u8 a1] [] = (spec_l13Cut.f k a0 a1).map (spec_l13Cut.en) := by
  have ih0 := spec_l13Cut.link k
  rw [spec_l13Cut.ef]
  simp only [spec_l13Cut.f, R.map_ite, R.map_bind, R.map_none, R.map_some, R.wr64_eq, ← ih0]
theorem spec_l13Cut.ok (k : Nat) : spec_l13Cut.tw.Ok Tryd.prog k := by
  intro md hmd a r h
  refine fn_ok (H := xhn) (fh := spec_l13Cut.fh) (O := spec_l13Cut.O) (k := k) Tryd.func20 (by kernel_rfl) (by kernel_rfl) (fun j _ => noO_sound) (by kernel_rfl) (m := 0) rfl ?_
  refine (spec_l13Cut.sf k a.1 a.2).trans ?_
  exact congrArg (Option.map _) h
def spec_l13Find.l0 : Nat → ByteArray → Int → Int → Option (Int)
  | 0, _, _, _ => none
  | k + 1, x0, x1, x5 => (if x5 < (x0.size : Int) then (if 0 ≤ x5 then (if (btI x0 x5) = x1 then (some x5) else (spec_l13Find.l0 k x0 x1 (wrap64 (x5 + 1)))) else none) else (some (-1)))
def spec_l13Find.f (k : Nat) (a0 : ByteArray) (a1 : Int) : Option (Int) := (spec_l13Find.l0 k a0 a1 0)
def spec_l13Find.en (r : Int) : Res := (.int .i64 r, [])
def spec_l13Find.dec : List AV → List R.Obj → Option (ByteArray × Int)
  | [.str a0, .int .u8 a1], [] => some (a0, a1)
  | _, _ => none
def spec_l13Find.tw : Tw := ⟨21, ByteArray × Int, Int, spec_l13Find.dec, fun a => [.str a.1, .int .u8 a.2], fun a => [], fun k a => spec_l13Find.f k a.1 a.2, fun a r => spec_l13Find.en r, true⟩
theorem spec_l13Find.dok : spec_l13Find.tw.DecOk := by
  intro args hc a h
  have h : spec_l13Find.dec args hc = some a := h
  unfold spec_l13Find.dec at h
  split at h
  · cases h; exact ⟨rfl, rfl⟩
  · cases h
noncomputable def spec_l13Find.O (k : Nat) : Oracle := noO
def spec_l13Find.fh : FH := ⟨fun i => match i with | 2 => some [(0, 0), (1, 0), (5, 0)] | _ => none, [], false⟩
noncomputable def spec_l13Find.x0 (k : Nat) (x0 : ByteArray) (x1 : Int) (x5 : Int) : Option Res := R.exec Tryd.prog xhn spec_l13Find.O 0 Tryd.f21 spec_l13Find.fh k (R.point Tryd.f21 2) ⟨[(0, .str x0), (1, .int .u8 x1), (5, .int .i64 x5)], [], 2⟩
set_option maxRecDepth 100000 in
theorem spec_l13Find.e0 (k : Nat) (x0 : ByteArray) (x1 : Int) (x5 : Int) : spec_l13Find.x0 (k + 1) x0 x1 x5 = (if x5 < (x0.size : Int) then (if 0 ≤ x5 then (if (btI x0 x5) = x1 then (some (spec_l13Find.en x5)) else (spec_l13Find.x0 k x0 x1 (wr64 (x5 + 1)))) else none) else (some (spec_l13Find.en (-1)))) := by
  refine Eq.trans ?_ (R.icong (fun h0 => (R.icong (fun h1 => (R.idropT (p := x5 < (x0.size : Int)) (z := none) h0 rfl)) (fun h1 => rfl))) (fun h0 => rfl))
  kernel_rfl
set_option maxRecDepth 100000 in
theorem spec_l13Find.ef (k : Nat) (a0 : ByteArray) (a1 : Int) : R.start Tryd.prog xhn spec_l13Find.O 0 Tryd.f21 spec_l13Find.fh k [.str a0, .int .u8 a1] [] = (spec_l13Find.x0 k a0 a1 0) := by kernel_rfl
theorem spec_l13Find.link : ∀ k, (∀ (x0 : ByteArray) (x1 : Int) (x5 : Int), spec_l13Find.x0 k x0 x1 x5 = (spec_l13Find.l0 k x0 x1 x5).map (spec_l13Find.en))
  | 0 => fun _ _ _ => by simp only [spec_l13Find.l0, R.map_none]; rfl
  | k + 1 => by
    have ih0 := spec_l13Find.link k
    · intro x0 x1 x5
      rw [spec_l13Find.e0]
      simp only [spec_l13Find.l0, R.map_ite, R.map_bind, R.map_none, R.map_some, R.wr64_eq, ← ih0]
theorem spec_l13Find.sf (k : Nat) (a0 : ByteArray) (a1 : Int) : R.start Tryd.prog xhn spec_l13Find.O 0 Tryd.f21 spec_l13Find.fh k [.str a0, .int .u8 a1] [] = (spec_l13Find.f k a0 a1).map (spec_l13Find.en) := by
  have ih0 := spec_l13Find.link k
  rw [spec_l13Find.ef]
  simp only [spec_l13Find.f, R.map_ite, R.map_bind, R.map_none, R.map_some, R.wr64_eq, ← ih0]
theorem spec_l13Find.ok (k : Nat) : spec_l13Find.tw.Ok Tryd.prog k := by
  intro md hmd a r h
  refine fn_ok (H := xhn) (fh := spec_l13Find.fh) (O := spec_l13Find.O) (k := k) Tryd.func21 (by kernel_rfl) (by kernel_rfl) (fun j _ => noO_sound) (by kernel_rfl) (m := 0) rfl ?_
  refine (spec_l13Find.sf k a.1 a.2).trans ?_
  exact congrArg (Option.map _) h
mutual
def spec_ParseGrades.l0 : Nat → (List ByteArray) → Int → Int → Int → (List Int) → Option (Int × (List Int) × Bool)
  | 0, _, _, _, _, _ => none
  | k + 1, y1, x16, x17, y2_0, y4 => (if x17 < x16 then (if 0 ≤ x17 then (if x17 < (y1.length : Int) then (spec_ParseGrades.l1 k y1 (rdS y1 x17) x16 x17 ((rdS y1 x17).size : Int) 0 y2_0 y4) else none) else none) else ((spec_GradesValid.f k y2_0 y4).bind fun t2 => (if t2 = true then (some (y2_0, y4, true)) else (some (0, ([] : List Int), false)))))
def spec_ParseGrades.l1 : Nat → (List ByteArray) → ByteArray → Int → Int → Int → Int → Int → (List Int) → Option (Int × (List Int) × Bool)
  | 0, _, _, _, _, _, _, _, _ => none
  | k + 1, y1, x7, x16, x17, x22, x23, y2_0, y4 => (if x23 < x22 then (if 0 ≤ x23 then (if x23 < (x7.size : Int) then ((spec_l13Find.f k (⟨#[48, 49, 119, 45]⟩ : ByteArray) (btI x7 x23)).bind fun t3 => (if y4.length < 17592186044416 then (spec_ParseGrades.l1 k y1 x7 x16 x17 x22 (wrap64 (x23 + 1)) y2_0 (y4 ++ [t3])) else none)) else none) else none) else (if (x7.size : Int) = (y1.length : Int) then (spec_ParseGrades.l0 k y1 x16 (wrap64 (x17 + 1)) y2_0 y4) else (some (0, ([] : List Int), false))))
end
def spec_ParseGrades.f (k : Nat) (a0 : ByteArray) : Option (Int × (List Int) × Bool) := ((spec_l13Cut.f k a0 47).bind fun t1 => (spec_ParseGrades.l0 k t1 (t1.length : Int) 0 (t1.length : Int) ([] : List Int)))
def spec_ParseGrades.en (r : Int × (List Int) × Bool) : Res := (.tup [.agg [.int .i64 r.1, .sl 0 0], .lit r.2.2], [.arr 3 0 (.I .i64 r.2.1) false])
def spec_ParseGrades.dec : List AV → List R.Obj → Option (ByteArray)
  | [.str a0], [] => some a0
  | _, _ => none
def spec_ParseGrades.tw : Tw := ⟨5, ByteArray, Int × (List Int) × Bool, spec_ParseGrades.dec, fun a => [.str a], fun a => [], fun k a => spec_ParseGrades.f k a, fun a r => spec_ParseGrades.en r, true⟩
theorem spec_ParseGrades.dok : spec_ParseGrades.tw.DecOk := by
  intro args hc a h
  have h : spec_ParseGrades.dec args hc = some a := h
  unfold spec_ParseGrades.dec at h
  split at h
  · cases h; exact ⟨rfl, rfl⟩
  · cases h
noncomputable def spec_ParseGrades.O (k : Nat) : Oracle := (spec_l13Cut.tw.orc k (spec_GradesValid.tw.orc k (spec_l13Find.tw.orc k noO)))
def spec_ParseGrades.fh : FH := ⟨fun i => match i with | 4 => some [(2, 0), (4, 0), (5, 0), (15, 0), (16, 0), (17, 0)] | 7 => some [(2, 0), (4, 0), (5, 0), (7, 0), (15, 0), (16, 0), (17, 0), (22, 0), (23, 0)] | _ => none, [(true, 3)], false⟩
noncomputable def spec_ParseGrades.x0 (k : Nat) (y1 : List ByteArray) (x16 : Int) (x17 : Int) (y2_0 : Int) (y4 : List Int) : Option Res := R.exec Tryd.prog xhn spec_ParseGrades.O 0 Tryd.f5 spec_ParseGrades.fh k (R.point Tryd.f5 4) ⟨[(2, .ptr 0 0), (4, .sl 1 0), (5, .ptr 2 0), (15, .sl 1 0), (16, .int .i64 x16), (17, .int .i64 x17)], [(0, .box false [.int .i64 0, .sl 3 0]), (1, .arr 9 0 (.S y1) false), (2, .box false [.int .i64 y2_0, .sl 4 0]), (3, .arr 3 0 (.I .i64 ([] : List Int)) false), (4, .arr 3 0 (.I .i64 y4) false)], 7⟩
noncomputable def spec_ParseGrades.x1 (k : Nat) (y1 : List ByteArray) (x7 : ByteArray) (x16 : Int) (x17 : Int) (x22 : Int) (x23 : Int) (y2_0 : Int) (y4 : List Int) : Option Res := R.exec Tryd.prog xhn spec_ParseGrades.O 0 Tryd.f5 spec_ParseGrades.fh k (R.point Tryd.f5 7) ⟨[(2, .ptr 0 0), (4, .sl 1 0), (5, .ptr 2 0), (7, .str x7), (15, .sl 1 0), (16, .int .i64 x16), (17, .int .i64 x17), (22, .int .i64 x22), (23, .int .i64 x23)], [(0, .box false [.int .i64 0, .sl 3 0]), (1, .arr 9 0 (.S y1) false), (2, .box false [.int .i64 y2_0, .sl 4 0]), (3, .arr 3 0 (.I .i64 ([] : List Int)) false), (4, .arr 3 0 (.I .i64 y4) false)], 7⟩
set_option maxRecDepth 100000 in
theorem spec_ParseGrades.e0 (k : Nat) (y1 : List ByteArray) (x16 : Int) (x17 : Int) (y2_0 : Int) (y4 : List Int) : spec_ParseGrades.x0 (k + 1) y1 x16 x17 y2_0 y4 = (if x17 < x16 then (if 0 ≤ x17 then (if x17 < (y1.length : Int) then (spec_ParseGrades.x1 k y1 (rdS y1 x17) x16 x17 ((rdS y1 x17).size : Int) 0 y2_0 y4) else none) else none) else ((spec_GradesValid.f k y2_0 y4).bind fun t2 => (if t2 = true then (some (spec_ParseGrades.en (y2_0, y4, true))) else (some (spec_ParseGrades.en (0, ([] : List Int), false)))))) := by kernel_rfl
set_option maxRecDepth 100000 in
theorem spec_ParseGrades.e1 (k : Nat) (y1 : List ByteArray) (x7 : ByteArray) (x16 : Int) (x17 : Int) (x22 : Int) (x23 : Int) (y2_0 : Int) (y4 : List Int) : spec_ParseGrades.x1 (k + 1) y1 x7 x16 x17 x22 x23 y2_0 y4 = (if x23 < x22 then (if 0 ≤ x23 then (if x23 < (x7.size : Int) then ((spec_l13Find.f k (⟨#[48, 49, 119, 45]⟩ : ByteArray) (btI x7 x23)).bind fun t3 => (if y4.length < 17592186044416 then (spec_ParseGrades.x1 k y1 x7 x16 x17 x22 (wr64 (x23 + 1)) y2_0 (y4 ++ [t3])) else none)) else none) else none) else (if (x7.size : Int) = (y1.length : Int) then (spec_ParseGrades.x0 k y1 x16 (wr64 (x17 + 1)) y2_0 y4) else (some (spec_ParseGrades.en (0, ([] : List Int), false))))) := by kernel_rfl
set_option maxRecDepth 100000 in
theorem spec_ParseGrades.ef (k : Nat) (a0 : ByteArray) : R.start Tryd.prog xhn spec_ParseGrades.O 0 Tryd.f5 spec_ParseGrades.fh k [.str a0] [] = ((spec_l13Cut.f k a0 47).bind fun t1 => (spec_ParseGrades.x0 k t1 (t1.length : Int) 0 (t1.length : Int) ([] : List Int))) := by kernel_rfl
theorem spec_ParseGrades.link : ∀ k, (∀ (y1 : List ByteArray) (x16 : Int) (x17 : Int) (y2_0 : Int) (y4 : List Int), spec_ParseGrades.x0 k y1 x16 x17 y2_0 y4 = (spec_ParseGrades.l0 k y1 x16 x17 y2_0 y4).map (spec_ParseGrades.en)) ∧ (∀ (y1 : List ByteArray) (x7 : ByteArray) (x16 : Int) (x17 : Int) (x22 : Int) (x23 : Int) (y2_0 : Int) (y4 : List Int), spec_ParseGrades.x1 k y1 x7 x16 x17 x22 x23 y2_0 y4 = (spec_ParseGrades.l1 k y1 x7 x16 x17 x22 x23 y2_0 y4).map (spec_ParseGrades.en))
  | 0 => ⟨fun _ _ _ _ _ => by simp only [spec_ParseGrades.l0, R.map_none]; rfl, fun _ _ _ _ _ _ _ _ => by simp only [spec_ParseGrades.l1, R.map_none]; rfl⟩
  | k + 1 => by
    obtain ⟨ih0, ih1⟩ := spec_ParseGrades.link k
    refine ⟨?_, ?_⟩
    · intro y1 x16 x17 y2_0 y4
      rw [spec_ParseGrades.e0]
      simp only [spec_ParseGrades.l0, R.map_ite, R.map_bind, R.map_none, R.map_some, R.wr64_eq, ← ih0, ← ih1]
    · intro y1 x7 x16 x17 x22 x23 y2_0 y4
      rw [spec_ParseGrades.e1]
      simp only [spec_ParseGrades.l1, R.map_ite, R.map_bind, R.map_none, R.map_some, R.wr64_eq, ← ih0, ← ih1]
theorem spec_ParseGrades.sf (k : Nat) (a0 : ByteArray) : R.start Tryd.prog xhn spec_ParseGrades.O 0 Tryd.f5 spec_ParseGrades.fh k [.str a0] [] = (spec_ParseGrades.f k a0).map (spec_ParseGrades.en) := by
  obtain ⟨ih0, ih1⟩ := spec_ParseGrades.link k
  rw [spec_ParseGrades.ef]
  simp only [spec_ParseGrades.f, R.map_ite, R.map_bind, R.map_none, R.map_some, R.wr64_eq, ← ih0, ← ih1]
theorem spec_ParseGrades.ok (k : Nat) : spec_ParseGrades.tw.Ok Tryd.prog k := by
  intro md hmd a r h
  refine fn_ok (H := xhn) (fh := spec_ParseGrades.fh) (O := spec_ParseGrades.O) (k := k) Tryd.func5 (by kernel_rfl) (by kernel_rfl) (fun j _ => (Tw.orc_sound spec_l13Cut.dok (spec_l13Cut.ok j) (fun _ => rfl) (Tw.orc_sound spec_GradesValid.dok (spec_GradesValid.ok j) (fun _ => rfl) (Tw.orc_sound spec_l13Find.dok (spec_l13Find.ok j) (fun _ => rfl) noO_sound)))) (by kernel_rfl) (m := 0) rfl ?_
  refine (spec_ParseGrades.sf k a).trans ?_
  exact congrArg (Option.map _) h
def spec_l13Num.l0 : Nat → ByteArray → Bool → Int → Int → Option (Int × Bool)
  | 0, _, _, _, _ => none
  | k + 1, x0, x4, x5, x6 => (if x6 < (x0.size : Int) then (if 0 ≤ x6 then (if (btI x0 x6) < 48 then (some (0, false)) else (if (btI x0 x6) > 57 then (some (0, false)) else (spec_l13Num.l0 k x0 x4 (wrap64 ((wrap64 (x5 * 10)) + (wrap64 ((((btI x0 x6) - 48) % 256))))) (wrap64 (x6 + 1))))) else none) else (if x4 = true then (some ((wrap64 (0 - x5)), true)) else (some (x5, true))))
def spec_l13Num.f (k : Nat) (a0 : ByteArray) : Option (Int × Bool) := (if (a0.size : Int) > 0 then (if 0 < (a0.size : Int) then (if (btI a0 0) = 45 then (if 1 ≤ (a0.size : Int) then (if (a0.size : Int) ≤ (a0.size : Int) then (if ((a0.extract 1 a0.size).size : Int) = 0 then (some (0, false)) else (if ((a0.extract 1 a0.size).size : Int) > 17 then (some (0, false)) else (if 0 < ((a0.extract 1 a0.size).size : Int) then (if (btI (a0.extract 1 a0.size) 0) = 48 then (if ((a0.extract 1 a0.size).size : Int) > 1 then (some (0, false)) else (some (0, false))) else (spec_l13Num.l0 k (a0.extract 1 a0.size) (decide ((btI a0 0) = 45)) 0 0)) else none))) else none) else none) else (if (a0.size : Int) = 0 then (some (0, false)) else (if (a0.size : Int) > 17 then (some (0, false)) else (if (btI a0 0) = 48 then (if (a0.size : Int) > 1 then (some (0, false)) else (spec_l13Num.l0 k a0 (decide ((btI a0 0) = 45)) 0 0)) else (spec_l13Num.l0 k a0 (decide ((btI a0 0) = 45)) 0 0))))) else none) else (if (a0.size : Int) = 0 then (some (0, false)) else (if (a0.size : Int) > 17 then (some (0, false)) else (if 0 < (a0.size : Int) then (if (btI a0 0) = 48 then (if (a0.size : Int) > 1 then (some (0, false)) else (spec_l13Num.l0 k a0 false 0 0)) else (spec_l13Num.l0 k a0 false 0 0)) else none))))
def spec_l13Num.en (r : Int × Bool) : Res := (.tup [.int .i64 r.1, .lit r.2], [])
def spec_l13Num.dec : List AV → List R.Obj → Option (ByteArray)
  | [.str a0], [] => some a0
  | _, _ => none
def spec_l13Num.tw : Tw := ⟨90, ByteArray, Int × Bool, spec_l13Num.dec, fun a => [.str a], fun a => [], fun k a => spec_l13Num.f k a, fun a r => spec_l13Num.en r, true⟩
theorem spec_l13Num.dok : spec_l13Num.tw.DecOk := by
  intro args hc a h
  have h : spec_l13Num.dec args hc = some a := h
  unfold spec_l13Num.dec at h
  split at h
  · cases h; exact ⟨rfl, rfl⟩
  · cases h
noncomputable def spec_l13Num.O (k : Nat) : Oracle := noO
def spec_l13Num.fh : FH := ⟨fun i => match i with | 8 => some [(0, 0), (4, 0), (5, 0), (6, 0)] | _ => none, [], false⟩
noncomputable def spec_l13Num.x0 (k : Nat) (x0 : ByteArray) (x4 : Bool) (x5 : Int) (x6 : Int) : Option Res := R.exec Tryd.prog xhn spec_l13Num.O 0 Tryd.f90 spec_l13Num.fh k (R.point Tryd.f90 8) ⟨[(0, .str x0), (4, .lit x4), (5, .int .i64 x5), (6, .int .i64 x6)], [], 2⟩
set_option maxRecDepth 100000 in
theorem spec_l13Num.e0 (k : Nat) (x0 : ByteArray) (x4 : Bool) (x5 : Int) (x6 : Int) : spec_l13Num.x0 (k + 1) x0 x4 x5 x6 = (if x6 < (x0.size : Int) then (if 0 ≤ x6 then (if (btI x0 x6) < 48 then (some (spec_l13Num.en (0, false))) else (if (btI x0 x6) > 57 then (some (spec_l13Num.en (0, false))) else (spec_l13Num.x0 k x0 x4 (wr64 ((wr64 (x5 * 10)) + (wr64 ((((btI x0 x6) - 48) % 256))))) (wr64 (x6 + 1))))) else none) else (if x4 = true then (some (spec_l13Num.en ((wr64 (0 - x5)), true))) else (some (spec_l13Num.en (x5, true))))) := by
  refine Eq.trans ?_ (R.icong (fun h0 => (R.icong (fun h1 => (R.idropT (p := x6 < (x0.size : Int)) (z := none) h0 (R.icong (fun h2 => rfl) (fun h2 => (R.idropT (p := 0 ≤ x6) (z := none) h1 (R.idropT (p := x6 < (x0.size : Int)) (z := none) h0 (R.icong (fun h3 => rfl) (fun h3 => (R.idropT (p := 0 ≤ x6) (z := none) h1 (R.idropT (p := x6 < (x0.size : Int)) (z := none) h0 rfl)))))))))) (fun h1 => rfl))) (fun h0 => rfl))
  kernel_rfl
set_option maxRecDepth 100000 in
theorem spec_l13Num.ef (k : Nat) (a0 : ByteArray) : R.start Tryd.prog xhn spec_l13Num.O 0 Tryd.f90 spec_l13Num.fh k [.str a0] [] = (if (a0.size : Int) > 0 then (if 0 < (a0.size : Int) then (if (btI a0 0) = 45 then (if 1 ≤ (a0.size : Int) then (if (a0.size : Int) ≤ (a0.size : Int) then (if ((a0.extract 1 a0.size).size : Int) = 0 then (some (spec_l13Num.en (0, false))) else (if ((a0.extract 1 a0.size).size : Int) > 17 then (some (spec_l13Num.en (0, false))) else (if 0 < ((a0.extract 1 a0.size).size : Int) then (if (btI (a0.extract 1 a0.size) 0) = 48 then (if ((a0.extract 1 a0.size).size : Int) > 1 then (some (spec_l13Num.en (0, false))) else (some (spec_l13Num.en (0, false)))) else (spec_l13Num.x0 k (a0.extract 1 a0.size) (decide ((btI a0 0) = 45)) 0 0)) else none))) else none) else none) else (if (a0.size : Int) = 0 then (some (spec_l13Num.en (0, false))) else (if (a0.size : Int) > 17 then (some (spec_l13Num.en (0, false))) else (if (btI a0 0) = 48 then (if (a0.size : Int) > 1 then (some (spec_l13Num.en (0, false))) else (spec_l13Num.x0 k a0 (decide ((btI a0 0) = 45)) 0 0)) else (spec_l13Num.x0 k a0 (decide ((btI a0 0) = 45)) 0 0))))) else none) else (if (a0.size : Int) = 0 then (some (spec_l13Num.en (0, false))) else (if (a0.size : Int) > 17 then (some (spec_l13Num.en (0, false))) else (if 0 < (a0.size : Int) then (if (btI a0 0) = 48 then (if (a0.size : Int) > 1 then (some (spec_l13Num.en (0, false))) else (spec_l13Num.x0 k a0 false 0 0)) else (spec_l13Num.x0 k a0 false 0 0)) else none)))) := by
  refine Eq.trans ?_ (R.icong (fun h0 => (R.icong (fun h1 => (R.icong (fun h2 => (R.icong (fun h3 => (R.icong (fun h4 => (R.icong (fun h5 => rfl) (fun h5 => (R.icong (fun h6 => rfl) (fun h6 => (R.icong (fun h7 => (R.icong (fun h8 => (R.icong (fun h9 => rfl) (fun h9 => (R.idropT (p := (btI a0 0) = 45) (z := (spec_l13Num.x0 k (a0.extract 1 a0.size) (decide ((btI a0 0) = 45)) 0 0)) h2 rfl)))) (fun h8 => rfl))) (fun h7 => rfl))))))) (fun h4 => rfl))) (fun h3 => rfl))) (fun h2 => (R.icong (fun h3 => rfl) (fun h3 => (R.icong (fun h4 => rfl) (fun h4 => (R.idropT (p := 0 < (a0.size : Int)) (z := none) h1 (R.icong (fun h5 => (R.icong (fun h6 => rfl) (fun h6 => (R.idropF (p := (btI a0 0) = 45) (z := (some (spec_l13Num.en (0, false)))) h2 rfl)))) (fun h5 => rfl)))))))))) (fun h1 => rfl))) (fun h0 => rfl))
  kernel_rfl
theorem spec_l13Num.link : ∀ k, (∀ (x0 : ByteArray) (x4 : Bool) (x5 : Int) (x6 : Int), spec_l13Num.x0 k x0 x4 x5 x6 = (spec_l13Num.l0 k x0 x4 x5 x6).map (spec_l13Num.en))
  | 0 => fun _ _ _ _ => by simp only [spec_l13Num.l0, R.map_none]; rfl
  | k + 1 => by
    have ih0 := spec_l13Num.link k
    · intro x0 x4 x5 x6
      rw [spec_l13Num.e0]
      simp only [spec_l13Num.l0, R.map_ite, R.map_bind, R.map_none, R.map_some, R.wr64_eq, ← ih0]
theorem spec_l13Num.sf (k : Nat) (a0 : ByteArray) : R.start Tryd.prog xhn spec_l13Num.O 0 Tryd.f90 spec_l13Num.fh k [.str a0] [] = (spec_l13Num.f k a0).map (spec_l13Num.en) := by
  have ih0 := spec_l13Num.link k
  rw [spec_l13Num.ef]
  simp only [spec_l13Num.f, R.map_ite, R.map_bind, R.map_none, R.map_some, R.wr64_eq, ← ih0]
theorem spec_l13Num.ok (k : Nat) : spec_l13Num.tw.Ok Tryd.prog k := by
  intro md hmd a r h
  refine fn_ok (H := xhn) (fh := spec_l13Num.fh) (O := spec_l13Num.O) (k := k) Tryd.func90 (by kernel_rfl) (by kernel_rfl) (fun j _ => noO_sound) (by kernel_rfl) (m := 0) rfl ?_
  refine (spec_l13Num.sf k a).trans ?_
  exact congrArg (Option.map _) h
def spec_l3Read.l0 : Nat → (List Int) → (List ByteArray) → Int → Int → Option ((List Int) × Bool)
  | 0, _, _, _, _ => none
  | k + 1, y0, y1, x15, x16 => (if x16 < x15 then (if 0 ≤ x16 then (if x16 < (y1.length : Int) then ((spec_l13Num.f k (rdS y1 x16)).bind fun t2 => (if t2.2 = true then (if y0.length < 17592186044416 then (spec_l3Read.l0 k (y0 ++ [t2.1]) y1 x15 (wrap64 (x16 + 1))) else none) else (some (([] : List Int), false)))) else none) else none) else (some (y0, true)))
def spec_l3Read.f (k : Nat) (a0 : ByteArray) : Option ((List Int) × Bool) := (if a0.toList = ([] : List UInt8) then (some (([] : List Int), true)) else ((spec_l13Cut.f k a0 32).bind fun t1 => (spec_l3Read.l0 k ([] : List Int) t1 (t1.length : Int) 0)))
def spec_l3Read.en (r : (List Int) × Bool) : Res := (.tup [.sl 0 0, .lit r.2], [.arr 3 0 (.I .i64 r.1) false])
def spec_l3Read.dec : List AV → List R.Obj → Option (ByteArray)
  | [.str a0], [] => some a0
  | _, _ => none
def spec_l3Read.tw : Tw := ⟨91, ByteArray, (List Int) × Bool, spec_l3Read.dec, fun a => [.str a], fun a => [], fun k a => spec_l3Read.f k a, fun a r => spec_l3Read.en r, true⟩
theorem spec_l3Read.dok : spec_l3Read.tw.DecOk := by
  intro args hc a h
  have h : spec_l3Read.dec args hc = some a := h
  unfold spec_l3Read.dec at h
  split at h
  · cases h; exact ⟨rfl, rfl⟩
  · cases h
noncomputable def spec_l3Read.O (k : Nat) : Oracle := (spec_l13Cut.tw.orc k (spec_l13Num.tw.orc k noO))
def spec_l3Read.fh : FH := ⟨fun i => match i with | 5 => some [(4, 0), (14, 0), (15, 0), (16, 0)] | _ => none, [(true, 3)], false⟩
noncomputable def spec_l3Read.x0 (k : Nat) (y0 : List Int) (y1 : List ByteArray) (x15 : Int) (x16 : Int) : Option Res := R.exec Tryd.prog xhn spec_l3Read.O 0 Tryd.f91 spec_l3Read.fh k (R.point Tryd.f91 5) ⟨[(4, .sl 0 0), (14, .sl 1 0), (15, .int .i64 x15), (16, .int .i64 x16)], [(0, .arr 3 0 (.I .i64 y0) false), (1, .arr 9 0 (.S y1) false)], 4⟩
set_option maxRecDepth 100000 in
theorem spec_l3Read.e0 (k : Nat) (y0 : List Int) (y1 : List ByteArray) (x15 : Int) (x16 : Int) : spec_l3Read.x0 (k + 1) y0 y1 x15 x16 = (if x16 < x15 then (if 0 ≤ x16 then (if x16 < (y1.length : Int) then ((spec_l13Num.f k (rdS y1 x16)).bind fun t2 => (if t2.2 = true then (if y0.length < 17592186044416 then (spec_l3Read.x0 k (y0 ++ [t2.1]) y1 x15 (wr64 (x16 + 1))) else none) else (some (spec_l3Read.en (([] : List Int), false))))) else none) else none) else (some (spec_l3Read.en (y0, true)))) := by kernel_rfl
set_option maxRecDepth 100000 in
theorem spec_l3Read.ef (k : Nat) (a0 : ByteArray) : R.start Tryd.prog xhn spec_l3Read.O 0 Tryd.f91 spec_l3Read.fh k [.str a0] [] = (if a0.toList = ([] : List UInt8) then (some (spec_l3Read.en (([] : List Int), true))) else ((spec_l13Cut.f k a0 32).bind fun t1 => (spec_l3Read.x0 k ([] : List Int) t1 (t1.length : Int) 0))) := by kernel_rfl
theorem spec_l3Read.link : ∀ k, (∀ (y0 : List Int) (y1 : List ByteArray) (x15 : Int) (x16 : Int), spec_l3Read.x0 k y0 y1 x15 x16 = (spec_l3Read.l0 k y0 y1 x15 x16).map (spec_l3Read.en))
  | 0 => fun _ _ _ _ => by simp only [spec_l3Read.l0, R.map_none]; rfl
  | k + 1 => by
    have ih0 := spec_l3Read.link k
    · intro y0 y1 x15 x16
      rw [spec_l3Read.e0]
      simp only [spec_l3Read.l0, R.map_ite, R.map_bind, R.map_none, R.map_some, R.wr64_eq, ← ih0]
theorem spec_l3Read.sf (k : Nat) (a0 : ByteArray) : R.start Tryd.prog xhn spec_l3Read.O 0 Tryd.f91 spec_l3Read.fh k [.str a0] [] = (spec_l3Read.f k a0).map (spec_l3Read.en) := by
  have ih0 := spec_l3Read.link k
  rw [spec_l3Read.ef]
  simp only [spec_l3Read.f, R.map_ite, R.map_bind, R.map_none, R.map_some, R.wr64_eq, ← ih0]
theorem spec_l3Read.ok (k : Nat) : spec_l3Read.tw.Ok Tryd.prog k := by
  intro md hmd a r h
  refine fn_ok (H := xhn) (fh := spec_l3Read.fh) (O := spec_l3Read.O) (k := k) Tryd.func91 (by kernel_rfl) (by kernel_rfl) (fun j _ => (Tw.orc_sound spec_l13Cut.dok (spec_l13Cut.ok j) (fun _ => rfl) (Tw.orc_sound spec_l13Num.dok (spec_l13Num.ok j) (fun _ => rfl) noO_sound))) (by kernel_rfl) (m := 0) rfl ?_
  refine (spec_l3Read.sf k a).trans ?_
  exact congrArg (Option.map _) h
def spec_l3Marks.l0 : Nat → Int → (List Int) → (List Int) → Int → Int → Option (Bool)
  | 0, _, _, _, _, _ => none
  | k + 1, x0, x1, x7, x8, x9 => (if x9 < x8 then (if 0 ≤ x9 then (if x9 < (x7.length : Int) then ((spec_l1In.f (rdI x7 x9) 0 (wrap64 (x0 - 1))).bind fun t1 => (if t1 = true then (if x9 > 0 then (if 0 ≤ (wrap64 (x9 - 1)) then (if (wrap64 (x9 - 1)) < (x1.length : Int) then (if (rdI x1 (wrap64 (x9 - 1))) ≥ (rdI x7 x9) then (some false) else (spec_l3Marks.l0 k x0 x1 x7 x8 (wrap64 (x9 + 1)))) else none) else none) else (spec_l3Marks.l0 k x0 x1 x7 x8 (wrap64 (x9 + 1)))) else (some false))) else none) else none) else (some true))
def spec_l3Marks.f (k : Nat) (a0 : Int) (l1 : List Int) : Option (Bool) := (spec_l3Marks.l0 k a0 l1 l1 (l1.length : Int) 0)
def spec_l3Marks.en (r : Bool) : Res := (.lit r, [])
def spec_l3Marks.dec : List AV → List R.Obj → Option (Int × (List Int))
  | [.int .i64 a0, .imm (.I .i64 l1)], [] => some (a0, l1)
  | _, _ => none
def spec_l3Marks.tw : Tw := ⟨58, Int × (List Int), Bool, spec_l3Marks.dec, fun a => [.int .i64 a.1, .imm (.I .i64 a.2)], fun a => [], fun k a => spec_l3Marks.f k a.1 a.2, fun a r => spec_l3Marks.en r, true⟩
theorem spec_l3Marks.dok : spec_l3Marks.tw.DecOk := by
  intro args hc a h
  have h : spec_l3Marks.dec args hc = some a := h
  unfold spec_l3Marks.dec at h
  split at h
  · cases h; exact ⟨rfl, rfl⟩
  · cases h
noncomputable def spec_l3Marks.O (k : Nat) : Oracle := (spec_l1In.tw.orc k noO)
def spec_l3Marks.fh : FH := ⟨fun i => match i with | 2 => some [(0, 0), (1, 0), (7, 0), (8, 0), (9, 0)] | _ => none, [], false⟩
noncomputable def spec_l3Marks.x0 (k : Nat) (x0 : Int) (x1 : List Int) (x7 : List Int) (x8 : Int) (x9 : Int) : Option Res := R.exec Tryd.prog xhn spec_l3Marks.O 0 Tryd.f58 spec_l3Marks.fh k (R.point Tryd.f58 2) ⟨[(0, .int .i64 x0), (1, .imm (.I .i64 x1)), (7, .imm (.I .i64 x7)), (8, .int .i64 x8), (9, .int .i64 x9)], [], 2⟩
set_option maxRecDepth 100000 in
theorem spec_l3Marks.e0 (k : Nat) (x0 : Int) (x1 : List Int) (x7 : List Int) (x8 : Int) (x9 : Int) : spec_l3Marks.x0 (k + 1) x0 x1 x7 x8 x9 = (if x9 < x8 then (if 0 ≤ x9 then (if x9 < (x7.length : Int) then ((spec_l1In.f (rdI x7 x9) 0 (wr64 (x0 - 1))).bind fun t1 => (if t1 = true then (if x9 > 0 then (if 0 ≤ (wr64 (x9 - 1)) then (if (wr64 (x9 - 1)) < (x1.length : Int) then (if (rdI x1 (wr64 (x9 - 1))) ≥ (rdI x7 x9) then (some (spec_l3Marks.en false)) else (spec_l3Marks.x0 k x0 x1 x7 x8 (wr64 (x9 + 1)))) else none) else none) else (spec_l3Marks.x0 k x0 x1 x7 x8 (wr64 (x9 + 1)))) else (some (spec_l3Marks.en false)))) else none) else none) else (some (spec_l3Marks.en true))) := by kernel_rfl
set_option maxRecDepth 100000 in
theorem spec_l3Marks.ef (k : Nat) (a0 : Int) (l1 : List Int) : R.start Tryd.prog xhn spec_l3Marks.O 0 Tryd.f58 spec_l3Marks.fh k [.int .i64 a0, .imm (.I .i64 l1)] [] = (spec_l3Marks.x0 k a0 l1 l1 (l1.length : Int) 0) := by kernel_rfl
theorem spec_l3Marks.link : ∀ k, (∀ (x0 : Int) (x1 : List Int) (x7 : List Int) (x8 : Int) (x9 : Int), spec_l3Marks.x0 k x0 x1 x7 x8 x9 = (spec_l3Marks.l0 k x0 x1 x7 x8 x9).map (spec_l3Marks.en))
  | 0 => fun _ _ _ _ _ => by simp only [spec_l3Marks.l0, R.map_none]; rfl
  | k + 1 => by
    have ih0 := spec_l3Marks.link k
    · intro x0 x1 x7 x8 x9
      rw [spec_l3Marks.e0]
      simp only [spec_l3Marks.l0, R.map_ite, R.map_bind, R.map_none, R.map_some, R.wr64_eq, ← ih0]
theorem spec_l3Marks.sf (k : Nat) (a0 : Int) (l1 : List Int) : R.start Tryd.prog xhn spec_l3Marks.O 0 Tryd.f58 spec_l3Marks.fh k [.int .i64 a0, .imm (.I .i64 l1)] [] = (spec_l3Marks.f k a0 l1).map (spec_l3Marks.en) := by
  have ih0 := spec_l3Marks.link k
  rw [spec_l3Marks.ef]
  simp only [spec_l3Marks.f, R.map_ite, R.map_bind, R.map_none, R.map_some, R.wr64_eq, ← ih0]
theorem spec_l3Marks.ok (k : Nat) : spec_l3Marks.tw.Ok Tryd.prog k := by
  intro md hmd a r h
  refine fn_ok (H := xhn) (fh := spec_l3Marks.fh) (O := spec_l3Marks.O) (k := k) Tryd.func58 (by kernel_rfl) (by kernel_rfl) (fun j _ => (Tw.orc_sound spec_l1In.dok (spec_l1In.ok j) (fun _ => rfl) noO_sound)) (by kernel_rfl) (m := 0) rfl ?_
  refine (spec_l3Marks.sf k a.1 a.2).trans ?_
  exact congrArg (Option.map _) h
def spec_l3Step.f (a0 : Int) (a1_0 : Int) (a1_1 : ByteArray) (a1_2 : Int) (a1_3 : Int) : Option (Bool) := ((spec_l1In.f a1_0 0 (wrap64 (a0 - 1))).bind fun t1 => (if t1 = true then ((spec_l1In.f a1_2 0 (wrap64 (a0 - 1))).bind fun t2 => (if t2 = true then ((spec_l1In.f a1_3 0 3).bind fun t3 => (if t3 = true then (if a1_1.toList = ([97] : List UInt8) then (some true) else (some (decide (a1_1.toList = ([98] : List UInt8))))) else (some false))) else (some false))) else (some false)))
def spec_l3Step.en (r : Bool) : Res := (.lit r, [])
def spec_l3Step.dec : List AV → List R.Obj → Option (Int × Int × ByteArray × Int × Int)
  | [.int .i64 a0, .agg [.int .i64 a1_0, .str a1_1, .int .i64 a1_2, .int .i64 a1_3]], [] => some (a0, a1_0, a1_1, a1_2, a1_3)
  | _, _ => none
def spec_l3Step.tw : Tw := ⟨59, Int × Int × ByteArray × Int × Int, Bool, spec_l3Step.dec, fun a => [.int .i64 a.1, .agg [.int .i64 a.2.1, .str a.2.2.1, .int .i64 a.2.2.2.1, .int .i64 a.2.2.2.2]], fun a => [], fun k a => spec_l3Step.f a.1 a.2.1 a.2.2.1 a.2.2.2.1 a.2.2.2.2, fun a r => spec_l3Step.en r, true⟩
theorem spec_l3Step.dok : spec_l3Step.tw.DecOk := by
  intro args hc a h
  have h : spec_l3Step.dec args hc = some a := h
  unfold spec_l3Step.dec at h
  split at h
  · cases h; exact ⟨rfl, rfl⟩
  · cases h
noncomputable def spec_l3Step.O (k : Nat) : Oracle := (spec_l1In.tw.orc k noO)
def spec_l3Step.fh : FH := ⟨fun i => match i with | _ => none, [], false⟩
set_option maxRecDepth 100000 in
theorem spec_l3Step.ef (k : Nat) (a0 : Int) (a1_0 : Int) (a1_1 : ByteArray) (a1_2 : Int) (a1_3 : Int) : R.start Tryd.prog xhn spec_l3Step.O 0 Tryd.f59 spec_l3Step.fh k [.int .i64 a0, .agg [.int .i64 a1_0, .str a1_1, .int .i64 a1_2, .int .i64 a1_3]] [] = ((spec_l1In.f a1_0 0 (wr64 (a0 - 1))).bind fun t1 => (if t1 = true then ((spec_l1In.f a1_2 0 (wr64 (a0 - 1))).bind fun t2 => (if t2 = true then ((spec_l1In.f a1_3 0 3).bind fun t3 => (if t3 = true then (if a1_1.toList = ([97] : List UInt8) then (some (spec_l3Step.en true)) else (some (spec_l3Step.en (decide (a1_1.toList = ([98] : List UInt8)))))) else (some (spec_l3Step.en false)))) else (some (spec_l3Step.en false)))) else (some (spec_l3Step.en false)))) := by kernel_rfl
theorem spec_l3Step.sf (k : Nat) (a0 : Int) (a1_0 : Int) (a1_1 : ByteArray) (a1_2 : Int) (a1_3 : Int) : R.start Tryd.prog xhn spec_l3Step.O 0 Tryd.f59 spec_l3Step.fh k [.int .i64 a0, .agg [.int .i64 a1_0, .str a1_1, .int .i64 a1_2, .int .i64 a1_3]] [] = (spec_l3Step.f a0 a1_0 a1_1 a1_2 a1_3).map (spec_l3Step.en) := by
  rw [spec_l3Step.ef]
  simp only [spec_l3Step.f, R.map_ite, R.map_bind, R.map_none, R.map_some, R.wr64_eq]
theorem spec_l3Step.ok (k : Nat) : spec_l3Step.tw.Ok Tryd.prog k := by
  intro md hmd a r h
  refine fn_ok (H := xhn) (fh := spec_l3Step.fh) (O := spec_l3Step.O) (k := k) Tryd.func59 (by kernel_rfl) (by kernel_rfl) (fun j _ => (Tw.orc_sound spec_l1In.dok (spec_l1In.ok j) (fun _ => rfl) noO_sound)) (by kernel_rfl) (m := 0) rfl ?_
  refine (spec_l3Step.sf k a.1 a.2.1 a.2.2.1 a.2.2.2.1 a.2.2.2.2).trans ?_
  exact congrArg (Option.map _) h
def spec_l3Before.f (a0_0 : Int) (a0_1 : ByteArray) (a0_2 : Int) (a0_3 : Int) (a1_0 : Int) (a1_1 : ByteArray) (a1_2 : Int) (a1_3 : Int) : Option (Bool) := (if a0_0 = a1_0 then (if a0_1.toList = a1_1.toList then (some (decide (a0_2 < a1_2))) else (some (Op.bytesLess a0_1.toList a1_1.toList))) else (some (decide (a0_0 < a1_0))))
def spec_l3Before.en (r : Bool) : Res := (.lit r, [])
def spec_l3Before.dec : List AV → List R.Obj → Option (Int × ByteArray × Int × Int × Int × ByteArray × Int × Int)
  | [.agg [.int .i64 a0_0, .str a0_1, .int .i64 a0_2, .int .i64 a0_3], .agg [.int .i64 a1_0, .str a1_1, .int .i64 a1_2, .int .i64 a1_3]], [] => some (a0_0, a0_1, a0_2, a0_3, a1_0, a1_1, a1_2, a1_3)
  | _, _ => none
def spec_l3Before.tw : Tw := ⟨60, Int × ByteArray × Int × Int × Int × ByteArray × Int × Int, Bool, spec_l3Before.dec, fun a => [.agg [.int .i64 a.1, .str a.2.1, .int .i64 a.2.2.1, .int .i64 a.2.2.2.1], .agg [.int .i64 a.2.2.2.2.1, .str a.2.2.2.2.2.1, .int .i64 a.2.2.2.2.2.2.1, .int .i64 a.2.2.2.2.2.2.2]], fun a => [], fun k a => spec_l3Before.f a.1 a.2.1 a.2.2.1 a.2.2.2.1 a.2.2.2.2.1 a.2.2.2.2.2.1 a.2.2.2.2.2.2.1 a.2.2.2.2.2.2.2, fun a r => spec_l3Before.en r, true⟩
theorem spec_l3Before.dok : spec_l3Before.tw.DecOk := by
  intro args hc a h
  have h : spec_l3Before.dec args hc = some a := h
  unfold spec_l3Before.dec at h
  split at h
  · cases h; exact ⟨rfl, rfl⟩
  · cases h
noncomputable def spec_l3Before.O (k : Nat) : Oracle := noO
def spec_l3Before.fh : FH := ⟨fun i => match i with | _ => none, [], false⟩
set_option maxRecDepth 100000 in
theorem spec_l3Before.ef (k : Nat) (a0_0 : Int) (a0_1 : ByteArray) (a0_2 : Int) (a0_3 : Int) (a1_0 : Int) (a1_1 : ByteArray) (a1_2 : Int) (a1_3 : Int) : R.start Tryd.prog xhn spec_l3Before.O 0 Tryd.f60 spec_l3Before.fh k [.agg [.int .i64 a0_0, .str a0_1, .int .i64 a0_2, .int .i64 a0_3], .agg [.int .i64 a1_0, .str a1_1, .int .i64 a1_2, .int .i64 a1_3]] [] = (if a0_0 = a1_0 then (if a0_1.toList = a1_1.toList then (some (spec_l3Before.en (decide (a0_2 < a1_2)))) else (some (spec_l3Before.en (Op.bytesLess a0_1.toList a1_1.toList)))) else (some (spec_l3Before.en (decide (a0_0 < a1_0))))) := by kernel_rfl
theorem spec_l3Before.sf (k : Nat) (a0_0 : Int) (a0_1 : ByteArray) (a0_2 : Int) (a0_3 : Int) (a1_0 : Int) (a1_1 : ByteArray) (a1_2 : Int) (a1_3 : Int) : R.start Tryd.prog xhn spec_l3Before.O 0 Tryd.f60 spec_l3Before.fh k [.agg [.int .i64 a0_0, .str a0_1, .int .i64 a0_2, .int .i64 a0_3], .agg [.int .i64 a1_0, .str a1_1, .int .i64 a1_2, .int .i64 a1_3]] [] = (spec_l3Before.f a0_0 a0_1 a0_2 a0_3 a1_0 a1_1 a1_2 a1_3).map (spec_l3Before.en) := by
  rw [spec_l3Before.ef]
  simp only [spec_l3Before.f, R.map_ite, R.map_bind, R.map_none, R.map_some, R.wr64_eq]
theorem spec_l3Before.ok (k : Nat) : spec_l3Before.tw.Ok Tryd.prog k := by
  intro md hmd a r h
  refine fn_ok (H := xhn) (fh := spec_l3Before.fh) (O := spec_l3Before.O) (k := k) Tryd.func60 (by kernel_rfl) (by kernel_rfl) (fun j _ => noO_sound) (by kernel_rfl) (m := 0) rfl ?_
  refine (spec_l3Before.sf k a.1 a.2.1 a.2.2.1 a.2.2.2.1 a.2.2.2.2.1 a.2.2.2.2.2.1 a.2.2.2.2.2.2.1 a.2.2.2.2.2.2.2).trans ?_
  exact congrArg (Option.map _) h
def spec_AutomatonValid.l0 : Nat → (List Stp) → Int → Int → Int → (List Int) → (List Int) → (List Stp) → Option (Bool)
  | 0, _, _, _, _, _, _, _ => none
  | k + 1, x32, x33, x34, y0_0, y0_1, y0_2, y0_3 => (if x34 < x33 then (if 0 ≤ x34 then (if x34 < (x32.length : Int) then ((spec_l3Step.f y0_0 ((rdT x32 x34).f0) ((rdT x32 x34).f1) ((rdT x32 x34).f2) ((rdT x32 x34).f3)).bind fun t4 => (if t4 = true then (if x34 > 0 then (if 0 ≤ (wrap64 (x34 - 1)) then (if (wrap64 (x34 - 1)) < (y0_3.length : Int) then ((spec_l3Before.f ((rdT y0_3 (wrap64 (x34 - 1))).f0) ((rdT y0_3 (wrap64 (x34 - 1))).f1) ((rdT y0_3 (wrap64 (x34 - 1))).f2) ((rdT y0_3 (wrap64 (x34 - 1))).f3) ((rdT x32 x34).f0) ((rdT x32 x34).f1) ((rdT x32 x34).f2) ((rdT x32 x34).f3)).bind fun t5 => (if t5 = true then (spec_AutomatonValid.l0 k x32 x33 (wrap64 (x34 + 1)) y0_0 y0_1 y0_2 y0_3) else (some false))) else none) else none) else (spec_AutomatonValid.l0 k x32 x33 (wrap64 (x34 + 1)) y0_0 y0_1 y0_2 y0_3)) else (some false))) else none) else none) else (some true))
def spec_AutomatonValid.f (k : Nat) (a0_0 : Int) (l0_1 : List Int) (l0_2 : List Int) (l0_3 : List Stp) : Option (Bool) := ((spec_l1In.f a0_0 1 4).bind fun t1 => (if t1 = true then ((spec_l3Marks.f k a0_0 l0_1).bind fun t2 => (if t2 = true then ((spec_l3Marks.f k a0_0 l0_2).bind fun t3 => (if t3 = true then (if (l0_3.length : Int) > 24 then (some false) else (spec_AutomatonValid.l0 k l0_3 (l0_3.length : Int) 0 a0_0 l0_1 l0_2 l0_3)) else (some false))) else (some false))) else (some false)))
def spec_AutomatonValid.en (r : Bool) : Res := (.lit r, [])
def spec_AutomatonValid.dec : List AV → List R.Obj → Option (Int × (List Int) × (List Int) × (List Stp))
  | [.agg [.int .i64 a0_0, .imm (.I .i64 l0_1), .imm (.I .i64 l0_2), .imm (.T l0_3)]], [] => some (a0_0, l0_1, l0_2, l0_3)
  | _, _ => none
def spec_AutomatonValid.tw : Tw := ⟨44, Int × (List Int) × (List Int) × (List Stp), Bool, spec_AutomatonValid.dec, fun a => [.agg [.int .i64 a.1, .imm (.I .i64 a.2.1), .imm (.I .i64 a.2.2.1), .imm (.T a.2.2.2)]], fun a => [], fun k a => spec_AutomatonValid.f k a.1 a.2.1 a.2.2.1 a.2.2.2, fun a r => spec_AutomatonValid.en r, true⟩
theorem spec_AutomatonValid.dok : spec_AutomatonValid.tw.DecOk := by
  intro args hc a h
  have h : spec_AutomatonValid.dec args hc = some a := h
  unfold spec_AutomatonValid.dec at h
  split at h
  · cases h; exact ⟨rfl, rfl⟩
  · cases h
noncomputable def spec_AutomatonValid.O (k : Nat) : Oracle := (spec_l1In.tw.orc k (spec_l3Marks.tw.orc k (spec_l3Step.tw.orc k (spec_l3Before.tw.orc k noO))))
def spec_AutomatonValid.fh : FH := ⟨fun i => match i with | 4 => some [(1, 0), (32, 0), (33, 0), (34, 0)] | _ => none, [], false⟩
noncomputable def spec_AutomatonValid.x0 (k : Nat) (x32 : List Stp) (x33 : Int) (x34 : Int) (y0_0 : Int) (y0_1 : List Int) (y0_2 : List Int) (y0_3 : List Stp) : Option Res := R.exec Tryd.prog xhn spec_AutomatonValid.O 0 Tryd.f44 spec_AutomatonValid.fh k (R.point Tryd.f44 4) ⟨[(1, .ptr 0 0), (32, .imm (.T x32)), (33, .int .i64 x33), (34, .int .i64 x34)], [(0, .box false [.int .i64 y0_0, .imm (.I .i64 y0_1), .imm (.I .i64 y0_2), .imm (.T y0_3)])], 3⟩
set_option maxRecDepth 100000 in
theorem spec_AutomatonValid.e0 (k : Nat) (x32 : List Stp) (x33 : Int) (x34 : Int) (y0_0 : Int) (y0_1 : List Int) (y0_2 : List Int) (y0_3 : List Stp) : spec_AutomatonValid.x0 (k + 1) x32 x33 x34 y0_0 y0_1 y0_2 y0_3 = (if x34 < x33 then (if 0 ≤ x34 then (if x34 < (x32.length : Int) then ((spec_l3Step.f y0_0 ((rdT x32 x34).f0) ((rdT x32 x34).f1) ((rdT x32 x34).f2) ((rdT x32 x34).f3)).bind fun t4 => (if t4 = true then (if x34 > 0 then (if 0 ≤ (wr64 (x34 - 1)) then (if (wr64 (x34 - 1)) < (y0_3.length : Int) then ((spec_l3Before.f ((rdT y0_3 (wr64 (x34 - 1))).f0) ((rdT y0_3 (wr64 (x34 - 1))).f1) ((rdT y0_3 (wr64 (x34 - 1))).f2) ((rdT y0_3 (wr64 (x34 - 1))).f3) ((rdT x32 x34).f0) ((rdT x32 x34).f1) ((rdT x32 x34).f2) ((rdT x32 x34).f3)).bind fun t5 => (if t5 = true then (spec_AutomatonValid.x0 k x32 x33 (wr64 (x34 + 1)) y0_0 y0_1 y0_2 y0_3) else (some (spec_AutomatonValid.en false)))) else none) else none) else (spec_AutomatonValid.x0 k x32 x33 (wr64 (x34 + 1)) y0_0 y0_1 y0_2 y0_3)) else (some (spec_AutomatonValid.en false)))) else none) else none) else (some (spec_AutomatonValid.en true))) := by kernel_rfl
set_option maxRecDepth 100000 in
theorem spec_AutomatonValid.ef (k : Nat) (a0_0 : Int) (l0_1 : List Int) (l0_2 : List Int) (l0_3 : List Stp) : R.start Tryd.prog xhn spec_AutomatonValid.O 0 Tryd.f44 spec_AutomatonValid.fh k [.agg [.int .i64 a0_0, .imm (.I .i64 l0_1), .imm (.I .i64 l0_2), .imm (.T l0_3)]] [] = ((spec_l1In.f a0_0 1 4).bind fun t1 => (if t1 = true then ((spec_l3Marks.f k a0_0 l0_1).bind fun t2 => (if t2 = true then ((spec_l3Marks.f k a0_0 l0_2).bind fun t3 => (if t3 = true then (if (l0_3.length : Int) > 24 then (some (spec_AutomatonValid.en false)) else (spec_AutomatonValid.x0 k l0_3 (l0_3.length : Int) 0 a0_0 l0_1 l0_2 l0_3)) else (some (spec_AutomatonValid.en false)))) else (some (spec_AutomatonValid.en false)))) else (some (spec_AutomatonValid.en false)))) := by kernel_rfl
theorem spec_AutomatonValid.link : ∀ k, (∀ (x32 : List Stp) (x33 : Int) (x34 : Int) (y0_0 : Int) (y0_1 : List Int) (y0_2 : List Int) (y0_3 : List Stp), spec_AutomatonValid.x0 k x32 x33 x34 y0_0 y0_1 y0_2 y0_3 = (spec_AutomatonValid.l0 k x32 x33 x34 y0_0 y0_1 y0_2 y0_3).map (spec_AutomatonValid.en))
  | 0 => fun _ _ _ _ _ _ _ => by simp only [spec_AutomatonValid.l0, R.map_none]; rfl
  | k + 1 => by
    have ih0 := spec_AutomatonValid.link k
    · intro x32 x33 x34 y0_0 y0_1 y0_2 y0_3
      rw [spec_AutomatonValid.e0]
      simp only [spec_AutomatonValid.l0, R.map_ite, R.map_bind, R.map_none, R.map_some, R.wr64_eq, ← ih0]
theorem spec_AutomatonValid.sf (k : Nat) (a0_0 : Int) (l0_1 : List Int) (l0_2 : List Int) (l0_3 : List Stp) : R.start Tryd.prog xhn spec_AutomatonValid.O 0 Tryd.f44 spec_AutomatonValid.fh k [.agg [.int .i64 a0_0, .imm (.I .i64 l0_1), .imm (.I .i64 l0_2), .imm (.T l0_3)]] [] = (spec_AutomatonValid.f k a0_0 l0_1 l0_2 l0_3).map (spec_AutomatonValid.en) := by
  have ih0 := spec_AutomatonValid.link k
  rw [spec_AutomatonValid.ef]
  simp only [spec_AutomatonValid.f, R.map_ite, R.map_bind, R.map_none, R.map_some, R.wr64_eq, ← ih0]
theorem spec_AutomatonValid.ok (k : Nat) : spec_AutomatonValid.tw.Ok Tryd.prog k := by
  intro md hmd a r h
  refine fn_ok (H := xhn) (fh := spec_AutomatonValid.fh) (O := spec_AutomatonValid.O) (k := k) Tryd.func44 (by kernel_rfl) (by kernel_rfl) (fun j _ => (Tw.orc_sound spec_l1In.dok (spec_l1In.ok j) (fun _ => rfl) (Tw.orc_sound spec_l3Marks.dok (spec_l3Marks.ok j) (fun _ => rfl) (Tw.orc_sound spec_l3Step.dok (spec_l3Step.ok j) (fun _ => rfl) (Tw.orc_sound spec_l3Before.dok (spec_l3Before.ok j) (fun _ => rfl) noO_sound))))) (by kernel_rfl) (m := 0) rfl ?_
  refine (spec_AutomatonValid.sf k a.1 a.2.1 a.2.2.1 a.2.2.2).trans ?_
  exact congrArg (Option.map _) h
def spec_ParseAutomaton.l0 : Nat → Bool → (List ByteArray) → Int → Int → Int → (List Int) → (List Int) → (List Stp) → Option (Int × (List Int) × (List Int) × (List Stp) × Bool)
  | 0, _, _, _, _, _, _, _, _ => none
  | k + 1, x12, y2, x68, x69, y1_0, y6, y7, y8 => (if x69 < x68 then (if 0 ≤ x69 then (if x69 < (y2.length : Int) then (if ((rdS y2 x69).size : Int) = 5 then (if 3 < ((rdS y2 x69).size : Int) then (if (btI (rdS y2 x69) 3) = 58 then (if 1 ≤ ((rdS y2 x69).size : Int) then ((spec_l13Num.f k ((rdS y2 x69).extract 0 1)).bind fun t9 => (if 3 ≤ ((rdS y2 x69).size : Int) then ((spec_l13Num.f k ((rdS y2 x69).extract 2 3)).bind fun t10 => (if 4 ≤ ((rdS y2 x69).size : Int) then (if ((rdS y2 x69).size : Int) ≤ ((rdS y2 x69).size : Int) then ((spec_l13Num.f k ((rdS y2 x69).extract 4 (rdS y2 x69).size)).bind fun t11 => (if x12 = true then (if t9.2 = true then (if t10.2 = true then (if 2 ≤ ((rdS y2 x69).size : Int) then (if y8.length < 3518437208883 then (spec_ParseAutomaton.l0 k t11.2 y2 x68 (wrap64 (x69 + 1)) y1_0 y6 y7 (y8 ++ [(⟨t9.1, ((rdS y2 x69).extract 1 2), t10.1, t11.1⟩ : Stp)])) else none) else none) else (if 2 ≤ ((rdS y2 x69).size : Int) then (if y8.length < 3518437208883 then (spec_ParseAutomaton.l0 k false y2 x68 (wrap64 (x69 + 1)) y1_0 y6 y7 (y8 ++ [(⟨t9.1, ((rdS y2 x69).extract 1 2), t10.1, t11.1⟩ : Stp)])) else none) else none)) else (if 2 ≤ ((rdS y2 x69).size : Int) then (if y8.length < 3518437208883 then (spec_ParseAutomaton.l0 k false y2 x68 (wrap64 (x69 + 1)) y1_0 y6 y7 (y8 ++ [(⟨t9.1, ((rdS y2 x69).extract 1 2), t10.1, t11.1⟩ : Stp)])) else none) else none)) else (if 2 ≤ ((rdS y2 x69).size : Int) then (if y8.length < 3518437208883 then (spec_ParseAutomaton.l0 k false y2 x68 (wrap64 (x69 + 1)) y1_0 y6 y7 (y8 ++ [(⟨t9.1, ((rdS y2 x69).extract 1 2), t10.1, t11.1⟩ : Stp)])) else none) else none))) else none) else none)) else none)) else none) else (some (0, ([] : List Int), ([] : List Int), ([] : List Stp), false))) else none) else (some (0, ([] : List Int), ([] : List Int), ([] : List Stp), false))) else none) else none) else (if x12 = true then ((spec_AutomatonValid.f k y1_0 y6 y7 y8).bind fun t12 => (if t12 = true then (some (y1_0, y6, y7, y8, true)) else (some (0, ([] : List Int), ([] : List Int), ([] : List Stp), false)))) else (some (0, ([] : List Int), ([] : List Int), ([] : List Stp), false))))
def spec_ParseAutomaton.f (k : Nat) (a0 : ByteArray) : Option (Int × (List Int) × (List Int) × (List Stp) × Bool) := ((spec_l13Cut.f k a0 59).bind fun t1 => (if (t1.length : Int) = 4 then (if 0 < (t1.length : Int) then ((spec_l13Num.f k (rdS t1 0)).bind fun t2 => (if 1 < (t1.length : Int) then ((spec_l3Read.f k (rdS t1 1)).bind fun t3 => (if 2 < (t1.length : Int) then ((spec_l3Read.f k (rdS t1 2)).bind fun t4 => (if t2.2 = true then (if t3.2 = true then (if 3 < (t1.length : Int) then (if (rdS t1 3).toList = ([] : List UInt8) then (if t4.2 = true then ((spec_AutomatonValid.f k t2.1 t3.1 t4.1 ([] : List Stp)).bind fun t5 => (if t5 = true then (some (t2.1, t3.1, t4.1, ([] : List Stp), true)) else (some (0, ([] : List Int), ([] : List Int), ([] : List Stp), false)))) else (some (0, ([] : List Int), ([] : List Int), ([] : List Stp), false))) else ((spec_l13Cut.f k (rdS t1 3) 32).bind fun t6 => (spec_ParseAutomaton.l0 k t4.2 t6 (t6.length : Int) 0 t2.1 t3.1 t4.1 ([] : List Stp)))) else none) else (if 3 < (t1.length : Int) then (if (rdS t1 3).toList = ([] : List UInt8) then (some (0, ([] : List Int), ([] : List Int), ([] : List Stp), false)) else ((spec_l13Cut.f k (rdS t1 3) 32).bind fun t7 => (spec_ParseAutomaton.l0 k false t7 (t7.length : Int) 0 t2.1 t3.1 t4.1 ([] : List Stp)))) else none)) else (if 3 < (t1.length : Int) then (if (rdS t1 3).toList = ([] : List UInt8) then (some (0, ([] : List Int), ([] : List Int), ([] : List Stp), false)) else ((spec_l13Cut.f k (rdS t1 3) 32).bind fun t8 => (spec_ParseAutomaton.l0 k false t8 (t8.length : Int) 0 t2.1 t3.1 t4.1 ([] : List Stp)))) else none))) else none)) else none)) else none) else (some (0, ([] : List Int), ([] : List Int), ([] : List Stp), false))))
def spec_ParseAutomaton.en (r : Int × (List Int) × (List Int) × (List Stp) × Bool) : Res := (.tup [.agg [.int .i64 r.1, .sl 0 0, .sl 1 0, .sl 2 0], .lit r.2.2.2.2], [.arr 3 0 (.I .i64 r.2.1) false, .arr 3 0 (.I .i64 r.2.2.1) false, .arr 74 0 (.T r.2.2.2.1) false])
def spec_ParseAutomaton.dec : List AV → List R.Obj → Option (ByteArray)
  | [.str a0], [] => some a0
  | _, _ => none
def spec_ParseAutomaton.tw : Tw := ⟨81, ByteArray, Int × (List Int) × (List Int) × (List Stp) × Bool, spec_ParseAutomaton.dec, fun a => [.str a], fun a => [], fun k a => spec_ParseAutomaton.f k a, fun a r => spec_ParseAutomaton.en r, true⟩
theorem spec_ParseAutomaton.dok : spec_ParseAutomaton.tw.DecOk := by
  intro args hc a h
  have h : spec_ParseAutomaton.dec args hc = some a := h
  unfold spec_ParseAutomaton.dec at h
  split at h
  · cases h; exact ⟨rfl, rfl⟩
  · cases h
noncomputable def spec_ParseAutomaton.O (k : Nat) : Oracle := (spec_l13Cut.tw.orc k (spec_l13Num.tw.orc k (spec_l3Read.tw.orc k (spec_AutomatonValid.tw.orc k noO))))
def spec_ParseAutomaton.fh : FH := ⟨fun i => match i with | 11 => some [(2, 0), (11, 0), (12, 0), (67, 0), (68, 0), (69, 0)] | _ => none, [(true, 3), (true, 3), (true, 74)], false⟩
noncomputable def spec_ParseAutomaton.x0 (k : Nat) (x12 : Bool) (y2 : List ByteArray) (x68 : Int) (x69 : Int) (y1_0 : Int) (y6 : List Int) (y7 : List Int) (y8 : List Stp) : Option Res := R.exec Tryd.prog xhn spec_ParseAutomaton.O 0 Tryd.f81 spec_ParseAutomaton.fh k (R.point Tryd.f81 11) ⟨[(2, .ptr 0 0), (11, .ptr 1 0), (12, .lit x12), (67, .sl 2 0), (68, .int .i64 x68), (69, .int .i64 x69)], [(0, .box false [.int .i64 0, .sl 3 0, .sl 4 0, .sl 5 0]), (1, .box false [.int .i64 y1_0, .sl 6 0, .sl 7 0, .sl 8 0]), (2, .arr 9 0 (.S y2) false), (3, .arr 3 0 (.I .i64 ([] : List Int)) false), (4, .arr 3 0 (.I .i64 ([] : List Int)) false), (5, .arr 74 0 (.T ([] : List Stp)) false), (6, .arr 3 0 (.I .i64 y6) false), (7, .arr 3 0 (.I .i64 y7) false), (8, .arr 74 0 (.T y8) false)], 11⟩
set_option maxRecDepth 100000 in
theorem spec_ParseAutomaton.e0 (k : Nat) (x12 : Bool) (y2 : List ByteArray) (x68 : Int) (x69 : Int) (y1_0 : Int) (y6 : List Int) (y7 : List Int) (y8 : List Stp) : spec_ParseAutomaton.x0 (k + 1) x12 y2 x68 x69 y1_0 y6 y7 y8 = (if x69 < x68 then (if 0 ≤ x69 then (if x69 < (y2.length : Int) then (if ((rdS y2 x69).size : Int) = 5 then (if 3 < ((rdS y2 x69).size : Int) then (if (btI (rdS y2 x69) 3) = 58 then (if 1 ≤ ((rdS y2 x69).size : Int) then ((spec_l13Num.f k ((rdS y2 x69).extract 0 1)).bind fun t9 => (if 3 ≤ ((rdS y2 x69).size : Int) then ((spec_l13Num.f k ((rdS y2 x69).extract 2 3)).bind fun t10 => (if 4 ≤ ((rdS y2 x69).size : Int) then (if ((rdS y2 x69).size : Int) ≤ ((rdS y2 x69).size : Int) then ((spec_l13Num.f k ((rdS y2 x69).extract 4 (rdS y2 x69).size)).bind fun t11 => (if x12 = true then (if t9.2 = true then (if t10.2 = true then (if 2 ≤ ((rdS y2 x69).size : Int) then (if y8.length < 3518437208883 then (spec_ParseAutomaton.x0 k t11.2 y2 x68 (wr64 (x69 + 1)) y1_0 y6 y7 (y8 ++ [(⟨t9.1, ((rdS y2 x69).extract 1 2), t10.1, t11.1⟩ : Stp)])) else none) else none) else (if 2 ≤ ((rdS y2 x69).size : Int) then (if y8.length < 3518437208883 then (spec_ParseAutomaton.x0 k false y2 x68 (wr64 (x69 + 1)) y1_0 y6 y7 (y8 ++ [(⟨t9.1, ((rdS y2 x69).extract 1 2), t10.1, t11.1⟩ : Stp)])) else none) else none)) else (if 2 ≤ ((rdS y2 x69).size : Int) then (if y8.length < 3518437208883 then (spec_ParseAutomaton.x0 k false y2 x68 (wr64 (x69 + 1)) y1_0 y6 y7 (y8 ++ [(⟨t9.1, ((rdS y2 x69).extract 1 2), t10.1, t11.1⟩ : Stp)])) else none) else none)) else (if 2 ≤ ((rdS y2 x69).size : Int) then (if y8.length < 3518437208883 then (spec_ParseAutomaton.x0 k false y2 x68 (wr64 (x69 + 1)) y1_0 y6 y7 (y8 ++ [(⟨t9.1, ((rdS y2 x69).extract 1 2), t10.1, t11.1⟩ : Stp)])) else none) else none))) else none) else none)) else none)) else none) else (some (spec_ParseAutomaton.en (0, ([] : List Int), ([] : List Int), ([] : List Stp), false)))) else none) else (some (spec_ParseAutomaton.en (0, ([] : List Int), ([] : List Int), ([] : List Stp), false)))) else none) else none) else (if x12 = true then ((spec_AutomatonValid.f k y1_0 y6 y7 y8).bind fun t12 => (if t12 = true then (some (spec_ParseAutomaton.en (y1_0, y6, y7, y8, true))) else (some (spec_ParseAutomaton.en (0, ([] : List Int), ([] : List Int), ([] : List Stp), false))))) else (some (spec_ParseAutomaton.en (0, ([] : List Int), ([] : List Int), ([] : List Stp), false))))) := by kernel_rfl
set_option maxRecDepth 100000 in
theorem spec_ParseAutomaton.ef (k : Nat) (a0 : ByteArray) : R.start Tryd.prog xhn spec_ParseAutomaton.O 0 Tryd.f81 spec_ParseAutomaton.fh k [.str a0] [] = ((spec_l13Cut.f k a0 59).bind fun t1 => (if (t1.length : Int) = 4 then (if 0 < (t1.length : Int) then ((spec_l13Num.f k (rdS t1 0)).bind fun t2 => (if 1 < (t1.length : Int) then ((spec_l3Read.f k (rdS t1 1)).bind fun t3 => (if 2 < (t1.length : Int) then ((spec_l3Read.f k (rdS t1 2)).bind fun t4 => (if t2.2 = true then (if t3.2 = true then (if 3 < (t1.length : Int) then (if (rdS t1 3).toList = ([] : List UInt8) then (if t4.2 = true then ((spec_AutomatonValid.f k t2.1 t3.1 t4.1 ([] : List Stp)).bind fun t5 => (if t5 = true then (some (spec_ParseAutomaton.en (t2.1, t3.1, t4.1, ([] : List Stp), true))) else (some (spec_ParseAutomaton.en (0, ([] : List Int), ([] : List Int), ([] : List Stp), false))))) else (some (spec_ParseAutomaton.en (0, ([] : List Int), ([] : List Int), ([] : List Stp), false)))) else ((spec_l13Cut.f k (rdS t1 3) 32).bind fun t6 => (spec_ParseAutomaton.x0 k t4.2 t6 (t6.length : Int) 0 t2.1 t3.1 t4.1 ([] : List Stp)))) else none) else (if 3 < (t1.length : Int) then (if (rdS t1 3).toList = ([] : List UInt8) then (some (spec_ParseAutomaton.en (0, ([] : List Int), ([] : List Int), ([] : List Stp), false))) else ((spec_l13Cut.f k (rdS t1 3) 32).bind fun t7 => (spec_ParseAutomaton.x0 k false t7 (t7.length : Int) 0 t2.1 t3.1 t4.1 ([] : List Stp)))) else none)) else (if 3 < (t1.length : Int) then (if (rdS t1 3).toList = ([] : List UInt8) then (some (spec_ParseAutomaton.en (0, ([] : List Int), ([] : List Int), ([] : List Stp), false))) else ((spec_l13Cut.f k (rdS t1 3) 32).bind fun t8 => (spec_ParseAutomaton.x0 k false t8 (t8.length : Int) 0 t2.1 t3.1 t4.1 ([] : List Stp)))) else none))) else none)) else none)) else none) else (some (spec_ParseAutomaton.en (0, ([] : List Int), ([] : List Int), ([] : List Stp), false))))) := by
  refine Eq.trans ?_ (R.bcong fun t1 => (R.icong (fun h0 => (R.icong (fun h1 => (R.bcong fun t2 => (R.icong (fun h2 => (R.bcong fun t3 => (R.icong (fun h3 => (R.bcong fun t4 => (R.icong (fun h4 => (R.icong (fun h5 => (R.icong (fun h6 => (R.icong (fun h7 => rfl) (fun h7 => (R.idropT (p := 3 < (t1.length : Int)) (z := none) h6 rfl)))) (fun h6 => rfl))) (fun h5 => (R.icong (fun h6 => (R.icong (fun h7 => rfl) (fun h7 => (R.idropT (p := 3 < (t1.length : Int)) (z := none) h6 rfl)))) (fun h6 => rfl))))) (fun h4 => (R.icong (fun h5 => (R.icong (fun h6 => rfl) (fun h6 => (R.idropT (p := 3 < (t1.length : Int)) (z := none) h5 rfl)))) (fun h5 => rfl)))))) (fun h3 => rfl)))) (fun h2 => rfl)))) (fun h1 => rfl))) (fun h0 => rfl)))
  kernel_rfl
theorem spec_ParseAutomaton.link : ∀ k, (∀ (x12 : Bool) (y2 : List ByteArray) (x68 : Int) (x69 : Int) (y1_0 : Int) (y6 : List Int) (y7 : List Int) (y8 : List Stp), spec_ParseAutomaton.x0 k x12 y2 x68 x69 y1_0 y6 y7 y8 = (spec_ParseAutomaton.l0 k x12 y2 x68 x69 y1_0 y6 y7 y8).map (spec_ParseAutomaton.en))
  | 0 => fun _ _ _ _ _ _ _ _ => by simp only [spec_ParseAutomaton.l0, R.map_none]; rfl
  | k + 1 => by
    have ih0 := spec_ParseAutomaton.link k
    · intro x12 y2 x68 x69 y1_0 y6 y7 y8
      rw [spec_ParseAutomaton.e0]
      simp only [spec_ParseAutomaton.l0, R.map_ite, R.map_bind, R.map_none, R.map_some, R.wr64_eq, ← ih0]
theorem spec_ParseAutomaton.sf (k : Nat) (a0 : ByteArray) : R.start Tryd.prog xhn spec_ParseAutomaton.O 0 Tryd.f81 spec_ParseAutomaton.fh k [.str a0] [] = (spec_ParseAutomaton.f k a0).map (spec_ParseAutomaton.en) := by
  have ih0 := spec_ParseAutomaton.link k
  rw [spec_ParseAutomaton.ef]
  simp only [spec_ParseAutomaton.f, R.map_ite, R.map_bind, R.map_none, R.map_some, R.wr64_eq, ← ih0]
theorem spec_ParseAutomaton.ok (k : Nat) : spec_ParseAutomaton.tw.Ok Tryd.prog k := by
  intro md hmd a r h
  refine fn_ok (H := xhn) (fh := spec_ParseAutomaton.fh) (O := spec_ParseAutomaton.O) (k := k) Tryd.func81 (by kernel_rfl) (by kernel_rfl) (fun j _ => (Tw.orc_sound spec_l13Cut.dok (spec_l13Cut.ok j) (fun _ => rfl) (Tw.orc_sound spec_l13Num.dok (spec_l13Num.ok j) (fun _ => rfl) (Tw.orc_sound spec_l3Read.dok (spec_l3Read.ok j) (fun _ => rfl) (Tw.orc_sound spec_AutomatonValid.dok (spec_AutomatonValid.ok j) (fun _ => rfl) noO_sound))))) (by kernel_rfl) (m := 0) rfl ?_
  refine (spec_ParseAutomaton.sf k a).trans ?_
  exact congrArg (Option.map _) h
def spec_l3Known.f (k : Nat) (a0 : Int) : Option (Int × (List Int) × (List Int) × (List Stp)) := (if ([(⟨#[49, 59, 48, 59, 48, 59, 48, 97, 48, 58, 49, 32, 48, 98, 48, 58, 48]⟩ : ByteArray), (⟨#[50, 59, 48, 59, 49, 59, 48, 97, 48, 58, 48, 32, 48, 97, 49, 58, 49, 32, 49, 98, 49, 58, 48]⟩ : ByteArray), (⟨#[50, 59, 48, 32, 49, 59, 48, 32, 49, 59, 48, 97, 48, 58, 49, 32, 48, 98, 48, 58, 48, 32, 49, 97, 49, 58, 48, 32, 49, 98, 49, 58, 49]⟩ : ByteArray), (⟨#[51, 59, 48, 59, 48, 32, 50, 59, 48, 97, 48, 58, 48, 32, 48, 97, 49, 58, 48, 32, 48, 98, 48, 58, 49, 32, 49, 97, 49, 58, 49, 32, 49, 98, 50, 58, 48, 32, 50, 97, 50, 58, 48, 32, 50, 98, 50, 58, 48]⟩ : ByteArray), (⟨#[50, 59, 48, 59, 48, 59, 48, 97, 49, 58, 49, 32, 49, 98, 48, 58, 48]⟩ : ByteArray), (⟨#[51, 59, 48, 59, 50, 59, 48, 97, 48, 58, 48, 32, 48, 98, 48, 58, 48, 32, 48, 98, 49, 58, 48, 32, 49, 97, 49, 58, 49, 32, 49, 98, 50, 58, 48, 32, 50, 97, 50, 58, 48, 32, 50, 98, 50, 58, 48]⟩ : ByteArray), (⟨#[49, 59, 48, 59, 48, 59, 48, 97, 48, 58, 48]⟩ : ByteArray), (⟨#[50, 59, 48, 59, 48, 32, 49, 59, 48, 97, 48, 58, 48, 32, 48, 98, 49, 58, 49, 32, 49, 97, 48, 58, 48, 32, 49, 98, 49, 58, 48]⟩ : ByteArray), (⟨#[50, 59, 48, 59, 49, 59, 48, 97, 49, 58, 50, 32, 49, 97, 49, 58, 48, 32, 49, 98, 48, 58, 49]⟩ : ByteArray)].length : Int) = 0 then none else (if 0 ≤ (a0.tmod ([(⟨#[49, 59, 48, 59, 48, 59, 48, 97, 48, 58, 49, 32, 48, 98, 48, 58, 48]⟩ : ByteArray), (⟨#[50, 59, 48, 59, 49, 59, 48, 97, 48, 58, 48, 32, 48, 97, 49, 58, 49, 32, 49, 98, 49, 58, 48]⟩ : ByteArray), (⟨#[50, 59, 48, 32, 49, 59, 48, 32, 49, 59, 48, 97, 48, 58, 49, 32, 48, 98, 48, 58, 48, 32, 49, 97, 49, 58, 48, 32, 49, 98, 49, 58, 49]⟩ : ByteArray), (⟨#[51, 59, 48, 59, 48, 32, 50, 59, 48, 97, 48, 58, 48, 32, 48, 97, 49, 58, 48, 32, 48, 98, 48, 58, 49, 32, 49, 97, 49, 58, 49, 32, 49, 98, 50, 58, 48, 32, 50, 97, 50, 58, 48, 32, 50, 98, 50, 58, 48]⟩ : ByteArray), (⟨#[50, 59, 48, 59, 48, 59, 48, 97, 49, 58, 49, 32, 49, 98, 48, 58, 48]⟩ : ByteArray), (⟨#[51, 59, 48, 59, 50, 59, 48, 97, 48, 58, 48, 32, 48, 98, 48, 58, 48, 32, 48, 98, 49, 58, 48, 32, 49, 97, 49, 58, 49, 32, 49, 98, 50, 58, 48, 32, 50, 97, 50, 58, 48, 32, 50, 98, 50, 58, 48]⟩ : ByteArray), (⟨#[49, 59, 48, 59, 48, 59, 48, 97, 48, 58, 48]⟩ : ByteArray), (⟨#[50, 59, 48, 59, 48, 32, 49, 59, 48, 97, 48, 58, 48, 32, 48, 98, 49, 58, 49, 32, 49, 97, 48, 58, 48, 32, 49, 98, 49, 58, 48]⟩ : ByteArray), (⟨#[50, 59, 48, 59, 49, 59, 48, 97, 49, 58, 50, 32, 49, 97, 49, 58, 48, 32, 49, 98, 48, 58, 49]⟩ : ByteArray)].length : Int)) then (if (a0.tmod ([(⟨#[49, 59, 48, 59, 48, 59, 48, 97, 48, 58, 49, 32, 48, 98, 48, 58, 48]⟩ : ByteArray), (⟨#[50, 59, 48, 59, 49, 59, 48, 97, 48, 58, 48, 32, 48, 97, 49, 58, 49, 32, 49, 98, 49, 58, 48]⟩ : ByteArray), (⟨#[50, 59, 48, 32, 49, 59, 48, 32, 49, 59, 48, 97, 48, 58, 49, 32, 48, 98, 48, 58, 48, 32, 49, 97, 49, 58, 48, 32, 49, 98, 49, 58, 49]⟩ : ByteArray), (⟨#[51, 59, 48, 59, 48, 32, 50, 59, 48, 97, 48, 58, 48, 32, 48, 97, 49, 58, 48, 32, 48, 98, 48, 58, 49, 32, 49, 97, 49, 58, 49, 32, 49, 98, 50, 58, 48, 32, 50, 97, 50, 58, 48, 32, 50, 98, 50, 58, 48]⟩ : ByteArray), (⟨#[50, 59, 48, 59, 48, 59, 48, 97, 49, 58, 49, 32, 49, 98, 48, 58, 48]⟩ : ByteArray), (⟨#[51, 59, 48, 59, 50, 59, 48, 97, 48, 58, 48, 32, 48, 98, 48, 58, 48, 32, 48, 98, 49, 58, 48, 32, 49, 97, 49, 58, 49, 32, 49, 98, 50, 58, 48, 32, 50, 97, 50, 58, 48, 32, 50, 98, 50, 58, 48]⟩ : ByteArray), (⟨#[49, 59, 48, 59, 48, 59, 48, 97, 48, 58, 48]⟩ : ByteArray), (⟨#[50, 59, 48, 59, 48, 32, 49, 59, 48, 97, 48, 58, 48, 32, 48, 98, 49, 58, 49, 32, 49, 97, 48, 58, 48, 32, 49, 98, 49, 58, 48]⟩ : ByteArray), (⟨#[50, 59, 48, 59, 49, 59, 48, 97, 49, 58, 50, 32, 49, 97, 49, 58, 48, 32, 49, 98, 48, 58, 49]⟩ : ByteArray)].length : Int)) < ([(⟨#[49, 59, 48, 59, 48, 59, 48, 97, 48, 58, 49, 32, 48, 98, 48, 58, 48]⟩ : ByteArray), (⟨#[50, 59, 48, 59, 49, 59, 48, 97, 48, 58, 48, 32, 48, 97, 49, 58, 49, 32, 49, 98, 49, 58, 48]⟩ : ByteArray), (⟨#[50, 59, 48, 32, 49, 59, 48, 32, 49, 59, 48, 97, 48, 58, 49, 32, 48, 98, 48, 58, 48, 32, 49, 97, 49, 58, 48, 32, 49, 98, 49, 58, 49]⟩ : ByteArray), (⟨#[51, 59, 48, 59, 48, 32, 50, 59, 48, 97, 48, 58, 48, 32, 48, 97, 49, 58, 48, 32, 48, 98, 48, 58, 49, 32, 49, 97, 49, 58, 49, 32, 49, 98, 50, 58, 48, 32, 50, 97, 50, 58, 48, 32, 50, 98, 50, 58, 48]⟩ : ByteArray), (⟨#[50, 59, 48, 59, 48, 59, 48, 97, 49, 58, 49, 32, 49, 98, 48, 58, 48]⟩ : ByteArray), (⟨#[51, 59, 48, 59, 50, 59, 48, 97, 48, 58, 48, 32, 48, 98, 48, 58, 48, 32, 48, 98, 49, 58, 48, 32, 49, 97, 49, 58, 49, 32, 49, 98, 50, 58, 48, 32, 50, 97, 50, 58, 48, 32, 50, 98, 50, 58, 48]⟩ : ByteArray), (⟨#[49, 59, 48, 59, 48, 59, 48, 97, 48, 58, 48]⟩ : ByteArray), (⟨#[50, 59, 48, 59, 48, 32, 49, 59, 48, 97, 48, 58, 48, 32, 48, 98, 49, 58, 49, 32, 49, 97, 48, 58, 48, 32, 49, 98, 49, 58, 48]⟩ : ByteArray), (⟨#[50, 59, 48, 59, 49, 59, 48, 97, 49, 58, 50, 32, 49, 97, 49, 58, 48, 32, 49, 98, 48, 58, 49]⟩ : ByteArray)].length : Int) then ((spec_ParseAutomaton.f k (rdS [(⟨#[49, 59, 48, 59, 48, 59, 48, 97, 48, 58, 49, 32, 48, 98, 48, 58, 48]⟩ : ByteArray), (⟨#[50, 59, 48, 59, 49, 59, 48, 97, 48, 58, 48, 32, 48, 97, 49, 58, 49, 32, 49, 98, 49, 58, 48]⟩ : ByteArray), (⟨#[50, 59, 48, 32, 49, 59, 48, 32, 49, 59, 48, 97, 48, 58, 49, 32, 48, 98, 48, 58, 48, 32, 49, 97, 49, 58, 48, 32, 49, 98, 49, 58, 49]⟩ : ByteArray), (⟨#[51, 59, 48, 59, 48, 32, 50, 59, 48, 97, 48, 58, 48, 32, 48, 97, 49, 58, 48, 32, 48, 98, 48, 58, 49, 32, 49, 97, 49, 58, 49, 32, 49, 98, 50, 58, 48, 32, 50, 97, 50, 58, 48, 32, 50, 98, 50, 58, 48]⟩ : ByteArray), (⟨#[50, 59, 48, 59, 48, 59, 48, 97, 49, 58, 49, 32, 49, 98, 48, 58, 48]⟩ : ByteArray), (⟨#[51, 59, 48, 59, 50, 59, 48, 97, 48, 58, 48, 32, 48, 98, 48, 58, 48, 32, 48, 98, 49, 58, 48, 32, 49, 97, 49, 58, 49, 32, 49, 98, 50, 58, 48, 32, 50, 97, 50, 58, 48, 32, 50, 98, 50, 58, 48]⟩ : ByteArray), (⟨#[49, 59, 48, 59, 48, 59, 48, 97, 48, 58, 48]⟩ : ByteArray), (⟨#[50, 59, 48, 59, 48, 32, 49, 59, 48, 97, 48, 58, 48, 32, 48, 98, 49, 58, 49, 32, 49, 97, 48, 58, 48, 32, 49, 98, 49, 58, 48]⟩ : ByteArray), (⟨#[50, 59, 48, 59, 49, 59, 48, 97, 49, 58, 50, 32, 49, 97, 49, 58, 48, 32, 49, 98, 48, 58, 49]⟩ : ByteArray)] (a0.tmod ([(⟨#[49, 59, 48, 59, 48, 59, 48, 97, 48, 58, 49, 32, 48, 98, 48, 58, 48]⟩ : ByteArray), (⟨#[50, 59, 48, 59, 49, 59, 48, 97, 48, 58, 48, 32, 48, 97, 49, 58, 49, 32, 49, 98, 49, 58, 48]⟩ : ByteArray), (⟨#[50, 59, 48, 32, 49, 59, 48, 32, 49, 59, 48, 97, 48, 58, 49, 32, 48, 98, 48, 58, 48, 32, 49, 97, 49, 58, 48, 32, 49, 98, 49, 58, 49]⟩ : ByteArray), (⟨#[51, 59, 48, 59, 48, 32, 50, 59, 48, 97, 48, 58, 48, 32, 48, 97, 49, 58, 48, 32, 48, 98, 48, 58, 49, 32, 49, 97, 49, 58, 49, 32, 49, 98, 50, 58, 48, 32, 50, 97, 50, 58, 48, 32, 50, 98, 50, 58, 48]⟩ : ByteArray), (⟨#[50, 59, 48, 59, 48, 59, 48, 97, 49, 58, 49, 32, 49, 98, 48, 58, 48]⟩ : ByteArray), (⟨#[51, 59, 48, 59, 50, 59, 48, 97, 48, 58, 48, 32, 48, 98, 48, 58, 48, 32, 48, 98, 49, 58, 48, 32, 49, 97, 49, 58, 49, 32, 49, 98, 50, 58, 48, 32, 50, 97, 50, 58, 48, 32, 50, 98, 50, 58, 48]⟩ : ByteArray), (⟨#[49, 59, 48, 59, 48, 59, 48, 97, 48, 58, 48]⟩ : ByteArray), (⟨#[50, 59, 48, 59, 48, 32, 49, 59, 48, 97, 48, 58, 48, 32, 48, 98, 49, 58, 49, 32, 49, 97, 48, 58, 48, 32, 49, 98, 49, 58, 48]⟩ : ByteArray), (⟨#[50, 59, 48, 59, 49, 59, 48, 97, 49, 58, 50, 32, 49, 97, 49, 58, 48, 32, 49, 98, 48, 58, 49]⟩ : ByteArray)].length : Int)))).bind fun t1 => (some (t1.1, t1.2.1, t1.2.2.1, t1.2.2.2.1))) else none) else none))
def spec_l3Known.en (r : Int × (List Int) × (List Int) × (List Stp)) : Res := (.agg [.int .i64 r.1, .sl 0 0, .sl 1 0, .sl 2 0], [.arr 3 0 (.I .i64 r.2.1) false, .arr 3 0 (.I .i64 r.2.2.1) false, .arr 74 0 (.T r.2.2.2) false])
def spec_l3Known.dec : List AV → List R.Obj → Option (Int)
  | [.int .i64 a0], [] => some a0
  | _, _ => none
def spec_l3Known.tw : Tw := ⟨69, Int, Int × (List Int) × (List Int) × (List Stp), spec_l3Known.dec, fun a => [.int .i64 a], fun a => [], fun k a => spec_l3Known.f k a, fun a r => spec_l3Known.en r, true⟩
theorem spec_l3Known.dok : spec_l3Known.tw.DecOk := by
  intro args hc a h
  have h : spec_l3Known.dec args hc = some a := h
  unfold spec_l3Known.dec at h
  split at h
  · cases h; exact ⟨rfl, rfl⟩
  · cases h
noncomputable def spec_l3Known.O (k : Nat) : Oracle := (spec_ParseAutomaton.tw.orc k noO)
def spec_l3Known.fh : FH := ⟨fun i => match i with | _ => none, [(true, 3), (true, 3), (true, 74)], false⟩
set_option maxRecDepth 100000 in
theorem spec_l3Known.ef (k : Nat) (a0 : Int) : R.start Tryd.prog xhn spec_l3Known.O 0 Tryd.f69 spec_l3Known.fh k [.int .i64 a0] [] = (if ([(⟨#[49, 59, 48, 59, 48, 59, 48, 97, 48, 58, 49, 32, 48, 98, 48, 58, 48]⟩ : ByteArray), (⟨#[50, 59, 48, 59, 49, 59, 48, 97, 48, 58, 48, 32, 48, 97, 49, 58, 49, 32, 49, 98, 49, 58, 48]⟩ : ByteArray), (⟨#[50, 59, 48, 32, 49, 59, 48, 32, 49, 59, 48, 97, 48, 58, 49, 32, 48, 98, 48, 58, 48, 32, 49, 97, 49, 58, 48, 32, 49, 98, 49, 58, 49]⟩ : ByteArray), (⟨#[51, 59, 48, 59, 48, 32, 50, 59, 48, 97, 48, 58, 48, 32, 48, 97, 49, 58, 48, 32, 48, 98, 48, 58, 49, 32, 49, 97, 49, 58, 49, 32, 49, 98, 50, 58, 48, 32, 50, 97, 50, 58, 48, 32, 50, 98, 50, 58, 48]⟩ : ByteArray), (⟨#[50, 59, 48, 59, 48, 59, 48, 97, 49, 58, 49, 32, 49, 98, 48, 58, 48]⟩ : ByteArray), (⟨#[51, 59, 48, 59, 50, 59, 48, 97, 48, 58, 48, 32, 48, 98, 48, 58, 48, 32, 48, 98, 49, 58, 48, 32, 49, 97, 49, 58, 49, 32, 49, 98, 50, 58, 48, 32, 50, 97, 50, 58, 48, 32, 50, 98, 50, 58, 48]⟩ : ByteArray), (⟨#[49, 59, 48, 59, 48, 59, 48, 97, 48, 58, 48]⟩ : ByteArray), (⟨#[50, 59, 48, 59, 48, 32, 49, 59, 48, 97, 48, 58, 48, 32, 48, 98, 49, 58, 49, 32, 49, 97, 48, 58, 48, 32, 49, 98, 49, 58, 48]⟩ : ByteArray), (⟨#[50, 59, 48, 59, 49, 59, 48, 97, 49, 58, 50, 32, 49, 97, 49, 58, 48, 32, 49, 98, 48, 58, 49]⟩ : ByteArray)].length : Int) = 0 then none else (if 0 ≤ (a0.tmod ([(⟨#[49, 59, 48, 59, 48, 59, 48, 97, 48, 58, 49, 32, 48, 98, 48, 58, 48]⟩ : ByteArray), (⟨#[50, 59, 48, 59, 49, 59, 48, 97, 48, 58, 48, 32, 48, 97, 49, 58, 49, 32, 49, 98, 49, 58, 48]⟩ : ByteArray), (⟨#[50, 59, 48, 32, 49, 59, 48, 32, 49, 59, 48, 97, 48, 58, 49, 32, 48, 98, 48, 58, 48, 32, 49, 97, 49, 58, 48, 32, 49, 98, 49, 58, 49]⟩ : ByteArray), (⟨#[51, 59, 48, 59, 48, 32, 50, 59, 48, 97, 48, 58, 48, 32, 48, 97, 49, 58, 48, 32, 48, 98, 48, 58, 49, 32, 49, 97, 49, 58, 49, 32, 49, 98, 50, 58, 48, 32, 50, 97, 50, 58, 48, 32, 50, 98, 50, 58, 48]⟩ : ByteArray), (⟨#[50, 59, 48, 59, 48, 59, 48, 97, 49, 58, 49, 32, 49, 98, 48, 58, 48]⟩ : ByteArray), (⟨#[51, 59, 48, 59, 50, 59, 48, 97, 48, 58, 48, 32, 48, 98, 48, 58, 48, 32, 48, 98, 49, 58, 48, 32, 49, 97, 49, 58, 49, 32, 49, 98, 50, 58, 48, 32, 50, 97, 50, 58, 48, 32, 50, 98, 50, 58, 48]⟩ : ByteArray), (⟨#[49, 59, 48, 59, 48, 59, 48, 97, 48, 58, 48]⟩ : ByteArray), (⟨#[50, 59, 48, 59, 48, 32, 49, 59, 48, 97, 48, 58, 48, 32, 48, 98, 49, 58, 49, 32, 49, 97, 48, 58, 48, 32, 49, 98, 49, 58, 48]⟩ : ByteArray), (⟨#[50, 59, 48, 59, 49, 59, 48, 97, 49, 58, 50, 32, 49, 97, 49, 58, 48, 32, 49, 98, 48, 58, 49]⟩ : ByteArray)].length : Int)) then (if (a0.tmod ([(⟨#[49, 59, 48, 59, 48, 59, 48, 97, 48, 58, 49, 32, 48, 98, 48, 58, 48]⟩ : ByteArray), (⟨#[50, 59, 48, 59, 49, 59, 48, 97, 48, 58, 48, 32, 48, 97, 49, 58, 49, 32, 49, 98, 49, 58, 48]⟩ : ByteArray), (⟨#[50, 59, 48, 32, 49, 59, 48, 32, 49, 59, 48, 97, 48, 58, 49, 32, 48, 98, 48, 58, 48, 32, 49, 97, 49, 58, 48, 32, 49, 98, 49, 58, 49]⟩ : ByteArray), (⟨#[51, 59, 48, 59, 48, 32, 50, 59, 48, 97, 48, 58, 48, 32, 48, 97, 49, 58, 48, 32, 48, 98, 48, 58, 49, 32, 49, 97, 49, 58, 49, 32, 49, 98, 50, 58, 48, 32, 50, 97, 50, 58, 48, 32, 50, 98, 50, 58, 48]⟩ : ByteArray), (⟨#[50, 59, 48, 59, 48, 59, 48, 97, 49, 58, 49, 32, 49, 98, 48, 58, 48]⟩ : ByteArray), (⟨#[51, 59, 48, 59, 50, 59, 48, 97, 48, 58, 48, 32, 48, 98, 48, 58, 48, 32, 48, 98, 49, 58, 48, 32, 49, 97, 49, 58, 49, 32, 49, 98, 50, 58, 48, 32, 50, 97, 50, 58, 48, 32, 50, 98, 50, 58, 48]⟩ : ByteArray), (⟨#[49, 59, 48, 59, 48, 59, 48, 97, 48, 58, 48]⟩ : ByteArray), (⟨#[50, 59, 48, 59, 48, 32, 49, 59, 48, 97, 48, 58, 48, 32, 48, 98, 49, 58, 49, 32, 49, 97, 48, 58, 48, 32, 49, 98, 49, 58, 48]⟩ : ByteArray), (⟨#[50, 59, 48, 59, 49, 59, 48, 97, 49, 58, 50, 32, 49, 97, 49, 58, 48, 32, 49, 98, 48, 58, 49]⟩ : ByteArray)].length : Int)) < ([(⟨#[49, 59, 48, 59, 48, 59, 48, 97, 48, 58, 49, 32, 48, 98, 48, 58, 48]⟩ : ByteArray), (⟨#[50, 59, 48, 59, 49, 59, 48, 97, 48, 58, 48, 32, 48, 97, 49, 58, 49, 32, 49, 98, 49, 58, 48]⟩ : ByteArray), (⟨#[50, 59, 48, 32, 49, 59, 48, 32, 49, 59, 48, 97, 48, 58, 49, 32, 48, 98, 48, 58, 48, 32, 49, 97, 49, 58, 48, 32, 49, 98, 49, 58, 49]⟩ : ByteArray), (⟨#[51, 59, 48, 59, 48, 32, 50, 59, 48, 97, 48, 58, 48, 32, 48, 97, 49, 58, 48, 32, 48, 98, 48, 58, 49, 32, 49, 97, 49, 58, 49, 32, 49, 98, 50, 58, 48, 32, 50, 97, 50, 58, 48, 32, 50, 98, 50, 58, 48]⟩ : ByteArray), (⟨#[50, 59, 48, 59, 48, 59, 48, 97, 49, 58, 49, 32, 49, 98, 48, 58, 48]⟩ : ByteArray), (⟨#[51, 59, 48, 59, 50, 59, 48, 97, 48, 58, 48, 32, 48, 98, 48, 58, 48, 32, 48, 98, 49, 58, 48, 32, 49, 97, 49, 58, 49, 32, 49, 98, 50, 58, 48, 32, 50, 97, 50, 58, 48, 32, 50, 98, 50, 58, 48]⟩ : ByteArray), (⟨#[49, 59, 48, 59, 48, 59, 48, 97, 48, 58, 48]⟩ : ByteArray), (⟨#[50, 59, 48, 59, 48, 32, 49, 59, 48, 97, 48, 58, 48, 32, 48, 98, 49, 58, 49, 32, 49, 97, 48, 58, 48, 32, 49, 98, 49, 58, 48]⟩ : ByteArray), (⟨#[50, 59, 48, 59, 49, 59, 48, 97, 49, 58, 50, 32, 49, 97, 49, 58, 48, 32, 49, 98, 48, 58, 49]⟩ : ByteArray)].length : Int) then ((spec_ParseAutomaton.f k (rdS [(⟨#[49, 59, 48, 59, 48, 59, 48, 97, 48, 58, 49, 32, 48, 98, 48, 58, 48]⟩ : ByteArray), (⟨#[50, 59, 48, 59, 49, 59, 48, 97, 48, 58, 48, 32, 48, 97, 49, 58, 49, 32, 49, 98, 49, 58, 48]⟩ : ByteArray), (⟨#[50, 59, 48, 32, 49, 59, 48, 32, 49, 59, 48, 97, 48, 58, 49, 32, 48, 98, 48, 58, 48, 32, 49, 97, 49, 58, 48, 32, 49, 98, 49, 58, 49]⟩ : ByteArray), (⟨#[51, 59, 48, 59, 48, 32, 50, 59, 48, 97, 48, 58, 48, 32, 48, 97, 49, 58, 48, 32, 48, 98, 48, 58, 49, 32, 49, 97, 49, 58, 49, 32, 49, 98, 50, 58, 48, 32, 50, 97, 50, 58, 48, 32, 50, 98, 50, 58, 48]⟩ : ByteArray), (⟨#[50, 59, 48, 59, 48, 59, 48, 97, 49, 58, 49, 32, 49, 98, 48, 58, 48]⟩ : ByteArray), (⟨#[51, 59, 48, 59, 50, 59, 48, 97, 48, 58, 48, 32, 48, 98, 48, 58, 48, 32, 48, 98, 49, 58, 48, 32, 49, 97, 49, 58, 49, 32, 49, 98, 50, 58, 48, 32, 50, 97, 50, 58, 48, 32, 50, 98, 50, 58, 48]⟩ : ByteArray), (⟨#[49, 59, 48, 59, 48, 59, 48, 97, 48, 58, 48]⟩ : ByteArray), (⟨#[50, 59, 48, 59, 48, 32, 49, 59, 48, 97, 48, 58, 48, 32, 48, 98, 49, 58, 49, 32, 49, 97, 48, 58, 48, 32, 49, 98, 49, 58, 48]⟩ : ByteArray), (⟨#[50, 59, 48, 59, 49, 59, 48, 97, 49, 58, 50, 32, 49, 97, 49, 58, 48, 32, 49, 98, 48, 58, 49]⟩ : ByteArray)] (a0.tmod ([(⟨#[49, 59, 48, 59, 48, 59, 48, 97, 48, 58, 49, 32, 48, 98, 48, 58, 48]⟩ : ByteArray), (⟨#[50, 59, 48, 59, 49, 59, 48, 97, 48, 58, 48, 32, 48, 97, 49, 58, 49, 32, 49, 98, 49, 58, 48]⟩ : ByteArray), (⟨#[50, 59, 48, 32, 49, 59, 48, 32, 49, 59, 48, 97, 48, 58, 49, 32, 48, 98, 48, 58, 48, 32, 49, 97, 49, 58, 48, 32, 49, 98, 49, 58, 49]⟩ : ByteArray), (⟨#[51, 59, 48, 59, 48, 32, 50, 59, 48, 97, 48, 58, 48, 32, 48, 97, 49, 58, 48, 32, 48, 98, 48, 58, 49, 32, 49, 97, 49, 58, 49, 32, 49, 98, 50, 58, 48, 32, 50, 97, 50, 58, 48, 32, 50, 98, 50, 58, 48]⟩ : ByteArray), (⟨#[50, 59, 48, 59, 48, 59, 48, 97, 49, 58, 49, 32, 49, 98, 48, 58, 48]⟩ : ByteArray), (⟨#[51, 59, 48, 59, 50, 59, 48, 97, 48, 58, 48, 32, 48, 98, 48, 58, 48, 32, 48, 98, 49, 58, 48, 32, 49, 97, 49, 58, 49, 32, 49, 98, 50, 58, 48, 32, 50, 97, 50, 58, 48, 32, 50, 98, 50, 58, 48]⟩ : ByteArray), (⟨#[49, 59, 48, 59, 48, 59, 48, 97, 48, 58, 48]⟩ : ByteArray), (⟨#[50, 59, 48, 59, 48, 32, 49, 59, 48, 97, 48, 58, 48, 32, 48, 98, 49, 58, 49, 32, 49, 97, 48, 58, 48, 32, 49, 98, 49, 58, 48]⟩ : ByteArray), (⟨#[50, 59, 48, 59, 49, 59, 48, 97, 49, 58, 50, 32, 49, 97, 49, 58, 48, 32, 49, 98, 48, 58, 49]⟩ : ByteArray)].length : Int)))).bind fun t1 => (some (spec_l3Known.en (t1.1, t1.2.1, t1.2.2.1, t1.2.2.2.1)))) else none) else none)) := by kernel_rfl
theorem spec_l3Known.sf (k : Nat) (a0 : Int) : R.start Tryd.prog xhn spec_l3Known.O 0 Tryd.f69 spec_l3Known.fh k [.int .i64 a0] [] = (spec_l3Known.f k a0).map (spec_l3Known.en) := by
  rw [spec_l3Known.ef]
  simp only [spec_l3Known.f, R.map_ite, R.map_bind, R.map_none, R.map_some, R.wr64_eq]
theorem spec_l3Known.ok (k : Nat) : spec_l3Known.tw.Ok Tryd.prog k := by
  intro md hmd a r h
  refine fn_ok (H := xhn) (fh := spec_l3Known.fh) (O := spec_l3Known.O) (k := k) Tryd.func69 (by kernel_rfl) (by kernel_rfl) (fun j _ => (Tw.orc_sound spec_ParseAutomaton.dok (spec_ParseAutomaton.ok j) (fun _ => rfl) noO_sound)) (by kernel_rfl) (m := 0) rfl ?_
  refine (spec_l3Known.sf k a).trans ?_
  exact congrArg (Option.map _) h
def spec_l3Some.l0 : Nat → (List Int) → Int → Int → (List Int) → Int → Option ((List Int) × (List Int) × Int)
  | 0, _, _, _, _, _ => none
  | k + 1, y1, x8, x9, y0_0, y0_1 => (if x9 < x8 then ((spec_l13Rd_pick.f 2 y0_0 y0_1).bind fun t1 => (if t1.1 = 0 then (if y1.length < 17592186044416 then (spec_l3Some.l0 k (y1 ++ [x9]) x8 (wrap64 (x9 + 1)) t1.2.1 t1.2.2) else none) else (spec_l3Some.l0 k y1 x8 (wrap64 (x9 + 1)) t1.2.1 t1.2.2))) else (some (y1, y0_0, y0_1)))
def spec_l3Some.f (k : Nat) (a1 : Int) (l2_0 : List Int) (a2_1 : Int) : Option ((List Int) × (List Int) × Int) := (spec_l3Some.l0 k ([] : List Int) a1 0 l2_0 a2_1)
def spec_l3Some.en (r : (List Int) × (List Int) × Int) : Res := (.sl 1 0, [.box false [.imm (.I .u8 r.2.1), .int .i64 r.2.2], .arr 3 0 (.I .i64 r.1) false])
def spec_l3Some.dec : List AV → List R.Obj → Option (Int × (List Int) × Int)
  | [.ptr 0 0, .int .i64 a1], [.box false [.imm (.I .u8 l2_0), .int .i64 a2_1]] => some (a1, l2_0, a2_1)
  | _, _ => none
def spec_l3Some.tw : Tw := ⟨70, Int × (List Int) × Int, (List Int) × (List Int) × Int, spec_l3Some.dec, fun a => [.ptr 0 0, .int .i64 a.1], fun a => [.box false [.imm (.I .u8 a.2.1), .int .i64 a.2.2]], fun k a => spec_l3Some.f k a.1 a.2.1 a.2.2, fun a r => spec_l3Some.en r, true⟩
theorem spec_l3Some.dok : spec_l3Some.tw.DecOk := by
  intro args hc a h
  have h : spec_l3Some.dec args hc = some a := h
  unfold spec_l3Some.dec at h
  split at h
  · cases h; exact ⟨rfl, rfl⟩
  · cases h
noncomputable def spec_l3Some.O (k : Nat) : Oracle := (spec_l13Rd_pick.tw.orc k noO)
def spec_l3Some.fh : FH := ⟨fun i => match i with | 3 => some [(0, 0), (5, 0), (8, 0), (9, 0)] | _ => none, [(true, 3)], false⟩
noncomputable def spec_l3Some.x0 (k : Nat) (y1 : List Int) (x8 : Int) (x9 : Int) (y0_0 : List Int) (y0_1 : Int) : Option Res := R.exec Tryd.prog xhn spec_l3Some.O 1 Tryd.f70 spec_l3Some.fh k (R.point Tryd.f70 3) ⟨[(0, .ptr 0 0), (5, .sl 1 0), (8, .int .i64 x8), (9, .int .i64 x9)], [(0, .box false [.imm (.I .u8 y0_0), .int .i64 y0_1]), (1, .arr 3 0 (.I .i64 y1) false)], 4⟩
set_option maxRecDepth 100000 in
theorem spec_l3Some.e0 (k : Nat) (y1 : List Int) (x8 : Int) (x9 : Int) (y0_0 : List Int) (y0_1 : Int) : spec_l3Some.x0 (k + 1) y1 x8 x9 y0_0 y0_1 = (if x9 < x8 then ((spec_l13Rd_pick.f 2 y0_0 y0_1).bind fun t1 => (if t1.1 = 0 then (if y1.length < 17592186044416 then (spec_l3Some.x0 k (y1 ++ [x9]) x8 (wr64 (x9 + 1)) t1.2.1 t1.2.2) else none) else (spec_l3Some.x0 k y1 x8 (wr64 (x9 + 1)) t1.2.1 t1.2.2))) else (some (spec_l3Some.en (y1, y0_0, y0_1)))) := by kernel_rfl
set_option maxRecDepth 100000 in
theorem spec_l3Some.ef (k : Nat) (a1 : Int) (l2_0 : List Int) (a2_1 : Int) : R.start Tryd.prog xhn spec_l3Some.O 1 Tryd.f70 spec_l3Some.fh k [.ptr 0 0, .int .i64 a1] [.box false [.imm (.I .u8 l2_0), .int .i64 a2_1]] = (spec_l3Some.x0 k ([] : List Int) a1 0 l2_0 a2_1) := by kernel_rfl
theorem spec_l3Some.link : ∀ k, (∀ (y1 : List Int) (x8 : Int) (x9 : Int) (y0_0 : List Int) (y0_1 : Int), spec_l3Some.x0 k y1 x8 x9 y0_0 y0_1 = (spec_l3Some.l0 k y1 x8 x9 y0_0 y0_1).map (spec_l3Some.en))
  | 0 => fun _ _ _ _ _ => by simp only [spec_l3Some.l0, R.map_none]; rfl
  | k + 1 => by
    have ih0 := spec_l3Some.link k
    · intro y1 x8 x9 y0_0 y0_1
      rw [spec_l3Some.e0]
      simp only [spec_l3Some.l0, R.map_ite, R.map_bind, R.map_none, R.map_some, R.wr64_eq, ← ih0]
theorem spec_l3Some.sf (k : Nat) (a1 : Int) (l2_0 : List Int) (a2_1 : Int) : R.start Tryd.prog xhn spec_l3Some.O 1 Tryd.f70 spec_l3Some.fh k [.ptr 0 0, .int .i64 a1] [.box false [.imm (.I .u8 l2_0), .int .i64 a2_1]] = (spec_l3Some.f k a1 l2_0 a2_1).map (spec_l3Some.en) := by
  have ih0 := spec_l3Some.link k
  rw [spec_l3Some.ef]
  simp only [spec_l3Some.f, R.map_ite, R.map_bind, R.map_none, R.map_some, R.wr64_eq, ← ih0]
theorem spec_l3Some.ok (k : Nat) : spec_l3Some.tw.Ok Tryd.prog k := by
  intro md hmd a r h
  refine fn_ok (H := xhn) (fh := spec_l3Some.fh) (O := spec_l3Some.O) (k := k) Tryd.func70 (by kernel_rfl) (by kernel_rfl) (fun j _ => (Tw.orc_sound spec_l13Rd_pick.dok (spec_l13Rd_pick.ok j) (fun _ => rfl) noO_sound)) (by kernel_rfl) (m := 1) rfl ?_
  refine (spec_l3Some.sf k a.1 a.2.1 a.2.2).trans ?_
  exact congrArg (Option.map _) h
def spec_l3Put.l0 : Nat → (List Stp) → Int → Int → ByteArray → Int → Int → Option (List Stp)
  | 0, _, _, _, _, _, _ => none
  | k + 1, x0, x5, y0_0, y0_1, y0_2, y0_3 => (if x5 < (x0.length : Int) then (if 0 ≤ x5 then ((spec_l3Before.f ((rdT x0 x5).f0) ((rdT x0 x5).f1) ((rdT x0 x5).f2) ((rdT x0 x5).f3) y0_0 y0_1 y0_2 y0_3).bind fun t1 => (if t1 = true then (spec_l3Put.l0 k x0 (wrap64 (x5 + 1)) y0_0 y0_1 y0_2 y0_3) else ((spec_l3Before.f y0_0 y0_1 y0_2 y0_3 ((rdT x0 x5).f0) ((rdT x0 x5).f1) ((rdT x0 x5).f2) ((rdT x0 x5).f3)).bind fun t2 => (if t2 = true then (if x5 ≤ (x0.length : Int) then (if ([] : List Stp).length + ((x0.drop 0).take (x5.toNat - 0)).length ≤ 3518437208883 then (if (([] : List Stp) ++ ((x0.drop 0).take (x5.toNat - 0))).length < 3518437208883 then (if (x0.length : Int) ≤ (x0.length : Int) then (if ((([] : List Stp) ++ ((x0.drop 0).take (x5.toNat - 0))) ++ [(⟨y0_0, y0_1, y0_2, y0_3⟩ : Stp)]).length + ((x0.drop x5.toNat).take (x0.length - x5.toNat)).length ≤ 3518437208883 then (some (((([] : List Stp) ++ ((x0.drop 0).take (x5.toNat - 0))) ++ [(⟨y0_0, y0_1, y0_2, y0_3⟩ : Stp)]) ++ ((x0.drop x5.toNat).take (x0.length - x5.toNat)))) else none) else none) else none) else none) else none) else (if ([] : List Stp).length + x0.length ≤ 3518437208883 then (if x5 < ((([] : List Stp) ++ x0).length : Int) then (some ((([] : List Stp) ++ x0).set x5.toNat (⟨(rdT (([] : List Stp) ++ x0) x5).f0, (rdT (([] : List Stp) ++ x0) x5).f1, (rdT (([] : List Stp) ++ x0) x5).f2, (mn (rdT (([] : List Stp) ++ x0) x5).f3 y0_3)⟩ : Stp))) else none) else none))))) else none) else (if 0 ≤ x5 then (if x5 ≤ (x0.length : Int) then (if ([] : List Stp).length + ((x0.drop 0).take (x5.toNat - 0)).length ≤ 3518437208883 then (if (([] : List Stp) ++ ((x0.drop 0).take (x5.toNat - 0))).length < 3518437208883 then (if (x0.length : Int) ≤ (x0.length : Int) then (if ((([] : List Stp) ++ ((x0.drop 0).take (x5.toNat - 0))) ++ [(⟨y0_0, y0_1, y0_2, y0_3⟩ : Stp)]).length + ((x0.drop x5.toNat).take (x0.length - x5.toNat)).length ≤ 3518437208883 then (some (((([] : List Stp) ++ ((x0.drop 0).take (x5.toNat - 0))) ++ [(⟨y0_0, y0_1, y0_2, y0_3⟩ : Stp)]) ++ ((x0.drop x5.toNat).take (x0.length - x5.toNat)))) else none) else none) else none) else none) else none) else none))
def spec_l3Put.f (k : Nat) (l0 : List Stp) (a1_0 : Int) (a1_1 : ByteArray) (a1_2 : Int) (a1_3 : Int) : Option (List Stp) := (spec_l3Put.l0 k l0 0 a1_0 a1_1 a1_2 a1_3)
def spec_l3Put.en (r : List Stp) : Res := (.sl 0 0, [.arr 74 0 (.T r) false])
def spec_l3Put.dec : List AV → List R.Obj → Option ((List Stp) × Int × ByteArray × Int × Int)
  | [.imm (.T l0), .agg [.int .i64 a1_0, .str a1_1, .int .i64 a1_2, .int .i64 a1_3]], [] => some (l0, a1_0, a1_1, a1_2, a1_3)
  | _, _ => none
def spec_l3Put.tw : Tw := ⟨71, (List Stp) × Int × ByteArray × Int × Int, List Stp, spec_l3Put.dec, fun a => [.imm (.T a.1), .agg [.int .i64 a.2.1, .str a.2.2.1, .int .i64 a.2.2.2.1, .int .i64 a.2.2.2.2]], fun a => [], fun k a => spec_l3Put.f k a.1 a.2.1 a.2.2.1 a.2.2.2.1 a.2.2.2.2, fun a r => spec_l3Put.en r, true⟩
theorem spec_l3Put.dok : spec_l3Put.tw.DecOk := by
  intro args hc a h
  have h : spec_l3Put.dec args hc = some a := h
  unfold spec_l3Put.dec at h
  split at h
  · cases h; exact ⟨rfl, rfl⟩
  · cases h
noncomputable def spec_l3Put.O (k : Nat) : Oracle := (spec_l3Before.tw.orc k noO)
def spec_l3Put.fh : FH := ⟨fun i => match i with | 2 => some [(0, 0), (3, 0), (5, 0)] | _ => none, [(true, 74)], false⟩
noncomputable def spec_l3Put.x0 (k : Nat) (x0 : List Stp) (x5 : Int) (y0_0 : Int) (y0_1 : ByteArray) (y0_2 : Int) (y0_3 : Int) : Option Res := R.exec Tryd.prog xhn spec_l3Put.O 0 Tryd.f71 spec_l3Put.fh k (R.point Tryd.f71 2) ⟨[(0, .imm (.T x0)), (3, .ptr 0 0), (5, .int .i64 x5)], [(0, .box false [.int .i64 y0_0, .str y0_1, .int .i64 y0_2, .int .i64 y0_3])], 3⟩
set_option maxRecDepth 100000 in
theorem spec_l3Put.e0 (k : Nat) (x0 : List Stp) (x5 : Int) (y0_0 : Int) (y0_1 : ByteArray) (y0_2 : Int) (y0_3 : Int) : spec_l3Put.x0 (k + 1) x0 x5 y0_0 y0_1 y0_2 y0_3 = (if x5 < (x0.length : Int) then (if 0 ≤ x5 then ((spec_l3Before.f ((rdT x0 x5).f0) ((rdT x0 x5).f1) ((rdT x0 x5).f2) ((rdT x0 x5).f3) y0_0 y0_1 y0_2 y0_3).bind fun t1 => (if t1 = true then (spec_l3Put.x0 k x0 (wr64 (x5 + 1)) y0_0 y0_1 y0_2 y0_3) else ((spec_l3Before.f y0_0 y0_1 y0_2 y0_3 ((rdT x0 x5).f0) ((rdT x0 x5).f1) ((rdT x0 x5).f2) ((rdT x0 x5).f3)).bind fun t2 => (if t2 = true then (if x5 ≤ (x0.length : Int) then (if ([] : List Stp).length + ((x0.drop 0).take (x5.toNat - 0)).length ≤ 3518437208883 then (if (([] : List Stp) ++ ((x0.drop 0).take (x5.toNat - 0))).length < 3518437208883 then (if (x0.length : Int) ≤ (x0.length : Int) then (if ((([] : List Stp) ++ ((x0.drop 0).take (x5.toNat - 0))) ++ [(⟨y0_0, y0_1, y0_2, y0_3⟩ : Stp)]).length + ((x0.drop x5.toNat).take (x0.length - x5.toNat)).length ≤ 3518437208883 then (some (spec_l3Put.en (((([] : List Stp) ++ ((x0.drop 0).take (x5.toNat - 0))) ++ [(⟨y0_0, y0_1, y0_2, y0_3⟩ : Stp)]) ++ ((x0.drop x5.toNat).take (x0.length - x5.toNat))))) else none) else none) else none) else none) else none) else (if ([] : List Stp).length + x0.length ≤ 3518437208883 then (if x5 < ((([] : List Stp) ++ x0).length : Int) then (some (spec_l3Put.en ((([] : List Stp) ++ x0).set x5.toNat (⟨(rdT (([] : List Stp) ++ x0) x5).f0, (rdT (([] : List Stp) ++ x0) x5).f1, (rdT (([] : List Stp) ++ x0) x5).f2, (mn (rdT (([] : List Stp) ++ x0) x5).f3 y0_3)⟩ : Stp)))) else none) else none))))) else none) else (if 0 ≤ x5 then (if x5 ≤ (x0.length : Int) then (if ([] : List Stp).length + ((x0.drop 0).take (x5.toNat - 0)).length ≤ 3518437208883 then (if (([] : List Stp) ++ ((x0.drop 0).take (x5.toNat - 0))).length < 3518437208883 then (if (x0.length : Int) ≤ (x0.length : Int) then (if ((([] : List Stp) ++ ((x0.drop 0).take (x5.toNat - 0))) ++ [(⟨y0_0, y0_1, y0_2, y0_3⟩ : Stp)]).length + ((x0.drop x5.toNat).take (x0.length - x5.toNat)).length ≤ 3518437208883 then (some (spec_l3Put.en (((([] : List Stp) ++ ((x0.drop 0).take (x5.toNat - 0))) ++ [(⟨y0_0, y0_1, y0_2, y0_3⟩ : Stp)]) ++ ((x0.drop x5.toNat).take (x0.length - x5.toNat))))) else none) else none) else none) else none) else none) else none)) := by
  refine Eq.trans ?_ (R.icong (fun h0 => (R.icong (fun h1 => (R.idropT (p := x5 < (x0.length : Int)) (z := none) h0 (R.bcong fun t1 => (R.icong (fun h2 => rfl) (fun h2 => (R.idropT (p := x5 < (x0.length : Int)) (z := (if 0 ≤ x5 then (if x5 ≤ (x0.length : Int) then (if ([] : List Stp).length + ((x0.drop 0).take (x5.toNat - 0)).length ≤ 3518437208883 then (if (([] : List Stp) ++ ((x0.drop 0).take (x5.toNat - 0))).length < 3518437208883 then (if 0 ≤ x5 then (if x5 ≤ (x0.length : Int) then (if (x0.length : Int) ≤ (x0.length : Int) then (if ((([] : List Stp) ++ ((x0.drop 0).take (x5.toNat - 0))) ++ [(⟨y0_0, y0_1, y0_2, y0_3⟩ : Stp)]).length + ((x0.drop x5.toNat).take (x0.length - x5.toNat)).length ≤ 3518437208883 then (some (spec_l3Put.en (((([] : List Stp) ++ ((x0.drop 0).take (x5.toNat - 0))) ++ [(⟨y0_0, y0_1, y0_2, y0_3⟩ : Stp)]) ++ ((x0.drop x5.toNat).take (x0.length - x5.toNat))))) else none) else none) else none) else none) else none) else none) else none) else none)) h0 (R.idropT (p := 0 ≤ x5) (z := none) h1 (R.idropT (p := x5 < (x0.length : Int)) (z := none) h0 (R.bcong fun t2 => (R.icong (fun h3 => (R.idropT (p := 0 ≤ x5) (z := none) h1 (R.icong (fun h4 => (R.icong (fun h5 => (R.icong (fun h6 => (R.idropT (p := 0 ≤ x5) (z := none) h1 (R.idropT (p := x5 ≤ (x0.length : Int)) (z := none) h4 rfl))) (fun h6 => rfl))) (fun h5 => rfl))) (fun h4 => rfl)))) (fun h3 => (R.icong (fun h4 => (R.idropT (p := 0 ≤ x5) (z := none) h1 (R.icong (fun h5 => (R.idropT (p := 0 ≤ x5) (z := none) h1 (R.idropT (p := x5 < ((([] : List Stp) ++ x0).length : Int)) (z := none) h5 rfl))) (fun h5 => rfl)))) (fun h4 => rfl))))))))))))) (fun h1 => rfl))) (fun h0 => (R.idropF (p := x5 < (x0.length : Int)) (z := (if 0 ≤ x5 then (if x5 < (x0.length : Int) then ((spec_l3Before.f y0_0 y0_1 y0_2 y0_3 ((rdT x0 x5).f0) ((rdT x0 x5).f1) ((rdT x0 x5).f2) ((rdT x0 x5).f3)).bind fun t3 => (if t3 = true then (if 0 ≤ x5 then (if x5 ≤ (x0.length : Int) then (if ([] : List Stp).length + ((x0.drop 0).take (x5.toNat - 0)).length ≤ 3518437208883 then (if (([] : List Stp) ++ ((x0.drop 0).take (x5.toNat - 0))).length < 3518437208883 then (if 0 ≤ x5 then (if x5 ≤ (x0.length : Int) then (if (x0.length : Int) ≤ (x0.length : Int) then (if ((([] : List Stp) ++ ((x0.drop 0).take (x5.toNat - 0))) ++ [(⟨y0_0, y0_1, y0_2, y0_3⟩ : Stp)]).length + ((x0.drop x5.toNat).take (x0.length - x5.toNat)).length ≤ 3518437208883 then (some (spec_l3Put.en (((([] : List Stp) ++ ((x0.drop 0).take (x5.toNat - 0))) ++ [(⟨y0_0, y0_1, y0_2, y0_3⟩ : Stp)]) ++ ((x0.drop x5.toNat).take (x0.length - x5.toNat))))) else none) else none) else none) else none) else none) else none) else none) else none) else (if ([] : List Stp).length + x0.length ≤ 3518437208883 then (if 0 ≤ x5 then (if x5 < ((([] : List Stp) ++ x0).length : Int) then (if 0 ≤ x5 then (if x5 < ((([] : List Stp) ++ x0).length : Int) then (some (spec_l3Put.en ((([] : List Stp) ++ x0).set x5.toNat (⟨(rdT (([] : List Stp) ++ x0) x5).f0, (rdT (([] : List Stp) ++ x0) x5).f1, (rdT (([] : List Stp) ++ x0) x5).f2, (mn (rdT (([] : List Stp) ++ x0) x5).f3 y0_3)⟩ : Stp)))) else none) else none) else none) else none) else none))) else none) else none)) h0 (R.icong (fun h1 => (R.icong (fun h2 => (R.icong (fun h3 => (R.icong (fun h4 => (R.idropT (p := 0 ≤ x5) (z := none) h1 (R.idropT (p := x5 ≤ (x0.length : Int)) (z := none) h2 rfl))) (fun h4 => rfl))) (fun h3 => rfl))) (fun h2 => rfl))) (fun h1 => rfl)))))
  kernel_rfl
set_option maxRecDepth 100000 in
theorem spec_l3Put.ef (k : Nat) (l0 : List Stp) (a1_0 : Int) (a1_1 : ByteArray) (a1_2 : Int) (a1_3 : Int) : R.start Tryd.prog xhn spec_l3Put.O 0 Tryd.f71 spec_l3Put.fh k [.imm (.T l0), .agg [.int .i64 a1_0, .str a1_1, .int .i64 a1_2, .int .i64 a1_3]] [] = (spec_l3Put.x0 k l0 0 a1_0 a1_1 a1_2 a1_3) := by kernel_rfl
theorem spec_l3Put.link : ∀ k, (∀ (x0 : List Stp) (x5 : Int) (y0_0 : Int) (y0_1 : ByteArray) (y0_2 : Int) (y0_3 : Int), spec_l3Put.x0 k x0 x5 y0_0 y0_1 y0_2 y0_3 = (spec_l3Put.l0 k x0 x5 y0_0 y0_1 y0_2 y0_3).map (spec_l3Put.en))
  | 0 => fun _ _ _ _ _ _ => by simp only [spec_l3Put.l0, R.map_none]; rfl
  | k + 1 => by
    have ih0 := spec_l3Put.link k
    · intro x0 x5 y0_0 y0_1 y0_2 y0_3
      rw [spec_l3Put.e0]
      simp only [spec_l3Put.l0, R.map_ite, R.map_bind, R.map_none, R.map_some, R.wr64_eq, ← ih0]
theorem spec_l3Put.sf (k : Nat) (l0 : List Stp) (a1_0 : Int) (a1_1 : ByteArray) (a1_2 : Int) (a1_3 : Int) : R.start Tryd.prog xhn spec_l3Put.O 0 Tryd.f71 spec_l3Put.fh k [.imm (.T l0), .agg [.int .i64 a1_0, .str a1_1, .int .i64 a1_2, .int .i64 a1_3]] [] = (spec_l3Put.f k l0 a1_0 a1_1 a1_2 a1_3).map (spec_l3Put.en) := by
  have ih0 := spec_l3Put.link k
  rw [spec_l3Put.ef]
  simp only [spec_l3Put.f, R.map_ite, R.map_bind, R.map_none, R.map_some, R.wr64_eq, ← ih0]
theorem spec_l3Put.ok (k : Nat) : spec_l3Put.tw.Ok Tryd.prog k := by
  intro md hmd a r h
  refine fn_ok (H := xhn) (fh := spec_l3Put.fh) (O := spec_l3Put.O) (k := k) Tryd.func71 (by kernel_rfl) (by kernel_rfl) (fun j _ => (Tw.orc_sound spec_l3Before.dok (spec_l3Before.ok j) (fun _ => rfl) noO_sound)) (by kernel_rfl) (m := 0) rfl ?_
  refine (spec_l3Put.sf k a.1 a.2.1 a.2.2.1 a.2.2.2.1 a.2.2.2.2).trans ?_
  exact congrArg (Option.map _) h
def spec_l3Draw.l0 : Nat → Int → Int → Int → (List Int) → Int → Int → (List Int) → (List Int) → (List Stp) → Option (Int × (List Int) × (List Int) × (List Stp) × (List Int) × Int)
  | 0, _, _, _, _, _, _, _, _, _ => none
  | k + 1, x6, x38, x39, y0_0, y0_1, y2_0, y6, y7, y8 => (if x39 < x38 then ((spec_l13Rd_pick.f x6 y0_0 y0_1).bind fun t12 => ((spec_l13Rd_of.f ([(⟨#[97]⟩ : ByteArray), (⟨#[98]⟩ : ByteArray)]) t12.2.1 t12.2.2).bind fun t13 => ((spec_l13Rd_pick.f x6 t13.2.1 t13.2.2).bind fun t14 => ((spec_l13Rd_num.f ([0, 1, 0, 1, 2, 0]) t14.2.1 t14.2.2).bind fun t15 => ((spec_l3Put.f k y8 t12.1 t13.1 t14.1 t15.1).bind fun t16 => (spec_l3Draw.l0 k x6 x38 (wrap64 (x39 + 1)) t15.2.1 t15.2.2 y2_0 y6 y7 t16)))))) else (some (y2_0, y6, y7, y8, y0_0, y0_1)))
def spec_l3Draw.f (k : Nat) (a1 : Int) (l2_0 : List Int) (a2_1 : Int) : Option (Int × (List Int) × (List Int) × (List Stp) × (List Int) × Int) := ((spec_l13Rd_pick.f 3 l2_0 a2_1).bind fun t1 => (if t1.1 = 0 then ((spec_l13Rd_pick.f 9 t1.2.1 t1.2.2).bind fun t2 => ((spec_l3Known.f k t2.1).bind fun t3 => (if t3.1 ≤ a1 then (some (t3.1, t3.2.1, t3.2.2.1, t3.2.2.2, t2.2.1, t2.2.2)) else ((spec_l13Rd_pick.f a1 t2.2.1 t2.2.2).bind fun t4 => ((spec_l3Some.f k (wrap64 (1 + t4.1)) t4.2.1 t4.2.2).bind fun t5 => ((spec_l3Some.f k (wrap64 (1 + t4.1)) t5.2.1 t5.2.2).bind fun t6 => ((spec_l13Rd_pick.f (wrap64 ((wrap64 (2 * (wrap64 (1 + t4.1)))) + 1)) t6.2.1 t6.2.2).bind fun t7 => (spec_l3Draw.l0 k (wrap64 (1 + t4.1)) (wrap64 (1 + t7.1)) 0 t7.2.1 t7.2.2 (wrap64 (1 + t4.1)) t5.1 t6.1 ([] : List Stp))))))))) else ((spec_l13Rd_pick.f a1 t1.2.1 t1.2.2).bind fun t8 => ((spec_l3Some.f k (wrap64 (1 + t8.1)) t8.2.1 t8.2.2).bind fun t9 => ((spec_l3Some.f k (wrap64 (1 + t8.1)) t9.2.1 t9.2.2).bind fun t10 => ((spec_l13Rd_pick.f (wrap64 ((wrap64 (2 * (wrap64 (1 + t8.1)))) + 1)) t10.2.1 t10.2.2).bind fun t11 => (spec_l3Draw.l0 k (wrap64 (1 + t8.1)) (wrap64 (1 + t11.1)) 0 t11.2.1 t11.2.2 (wrap64 (1 + t8.1)) t9.1 t10.1 ([] : List Stp))))))))
def spec_l3Draw.en (r : Int × (List Int) × (List Int) × (List Stp) × (List Int) × Int) : Res := (.agg [.int .i64 r.1, .sl 1 0, .sl 2 0, .sl 3 0], [.box false [.imm (.I .u8 r.2.2.2.2.1), .int .i64 r.2.2.2.2.2], .arr 3 0 (.I .i64 r.2.1) false, .arr 3 0 (.I .i64 r.2.2.1) false, .arr 74 0 (.T r.2.2.2.1) false])
def spec_l3Draw.dec : List AV → List R.Obj → Option (Int × (List Int) × Int)
  | [.ptr 0 0, .int .i64 a1], [.box false [.imm (.I .u8 l2_0), .int .i64 a2_1]] => some (a1, l2_0, a2_1)
  | _, _ => none
def spec_l3Draw.tw : Tw := ⟨55, Int × (List Int) × Int, Int × (List Int) × (List Int) × (List Stp) × (List Int) × Int, spec_l3Draw.dec, fun a => [.ptr 0 0, .int .i64 a.1], fun a => [.box false [.imm (.I .u8 a.2.1), .int .i64 a.2.2]], fun k a => spec_l3Draw.f k a.1 a.2.1 a.2.2, fun a r => spec_l3Draw.en r, true⟩
theorem spec_l3Draw.dok : spec_l3Draw.tw.DecOk := by
  intro args hc a h
  have h : spec_l3Draw.dec args hc = some a := h
  unfold spec_l3Draw.dec at h
  split at h
  · cases h; exact ⟨rfl, rfl⟩
  · cases h
noncomputable def spec_l3Draw.O (k : Nat) : Oracle := (spec_l13Rd_pick.tw.orc k (spec_l3Known.tw.orc k (spec_l3Some.tw.orc k (spec_l13Rd_of.tw.orc k (spec_l13Rd_num.tw.orc k (spec_l3Put.tw.orc k noO))))))
def spec_l3Draw.fh : FH := ⟨fun i => match i with | 8 => some [(0, 0), (4, 0), (6, 0), (7, 0), (38, 0), (39, 0)] | _ => none, [(true, 3), (true, 3), (true, 74)], false⟩
noncomputable def spec_l3Draw.x0 (k : Nat) (x6 : Int) (x38 : Int) (x39 : Int) (y0_0 : List Int) (y0_1 : Int) (y2_0 : Int) (y6 : List Int) (y7 : List Int) (y8 : List Stp) : Option Res := R.exec Tryd.prog xhn spec_l3Draw.O 1 Tryd.f55 spec_l3Draw.fh k (R.point Tryd.f55 8) ⟨[(0, .ptr 0 0), (4, .ptr 1 0), (6, .int .i64 x6), (7, .ptr 2 0), (38, .int .i64 x38), (39, .int .i64 x39)], [(0, .box false [.imm (.I .u8 y0_0), .int .i64 y0_1]), (1, .box false [.int .i64 0, .sl 3 0, .sl 4 0, .sl 5 0]), (2, .box false [.int .i64 y2_0, .sl 6 0, .sl 7 0, .sl 8 0]), (3, .arr 3 0 (.I .i64 ([] : List Int)) false), (4, .arr 3 0 (.I .i64 ([] : List Int)) false), (5, .arr 74 0 (.T ([] : List Stp)) false), (6, .arr 3 0 (.I .i64 y6) false), (7, .arr 3 0 (.I .i64 y7) false), (8, .arr 74 0 (.T y8) false)], 11⟩
set_option maxRecDepth 100000 in
theorem spec_l3Draw.e0 (k : Nat) (x6 : Int) (x38 : Int) (x39 : Int) (y0_0 : List Int) (y0_1 : Int) (y2_0 : Int) (y6 : List Int) (y7 : List Int) (y8 : List Stp) : spec_l3Draw.x0 (k + 1) x6 x38 x39 y0_0 y0_1 y2_0 y6 y7 y8 = (if x39 < x38 then ((spec_l13Rd_pick.f x6 y0_0 y0_1).bind fun t12 => ((spec_l13Rd_of.f ([(⟨#[97]⟩ : ByteArray), (⟨#[98]⟩ : ByteArray)]) t12.2.1 t12.2.2).bind fun t13 => ((spec_l13Rd_pick.f x6 t13.2.1 t13.2.2).bind fun t14 => ((spec_l13Rd_num.f ([0, 1, 0, 1, 2, 0]) t14.2.1 t14.2.2).bind fun t15 => ((spec_l3Put.f k y8 t12.1 t13.1 t14.1 t15.1).bind fun t16 => (spec_l3Draw.x0 k x6 x38 (wr64 (x39 + 1)) t15.2.1 t15.2.2 y2_0 y6 y7 t16)))))) else (some (spec_l3Draw.en (y2_0, y6, y7, y8, y0_0, y0_1)))) := by kernel_rfl
set_option maxRecDepth 100000 in
theorem spec_l3Draw.ef (k : Nat) (a1 : Int) (l2_0 : List Int) (a2_1 : Int) : R.start Tryd.prog xhn spec_l3Draw.O 1 Tryd.f55 spec_l3Draw.fh k [.ptr 0 0, .int .i64 a1] [.box false [.imm (.I .u8 l2_0), .int .i64 a2_1]] = ((spec_l13Rd_pick.f 3 l2_0 a2_1).bind fun t1 => (if t1.1 = 0 then ((spec_l13Rd_pick.f 9 t1.2.1 t1.2.2).bind fun t2 => ((spec_l3Known.f k t2.1).bind fun t3 => (if t3.1 ≤ a1 then (some (spec_l3Draw.en (t3.1, t3.2.1, t3.2.2.1, t3.2.2.2, t2.2.1, t2.2.2))) else ((spec_l13Rd_pick.f a1 t2.2.1 t2.2.2).bind fun t4 => ((spec_l3Some.f k (wr64 (1 + t4.1)) t4.2.1 t4.2.2).bind fun t5 => ((spec_l3Some.f k (wr64 (1 + t4.1)) t5.2.1 t5.2.2).bind fun t6 => ((spec_l13Rd_pick.f (wr64 ((wr64 (2 * (wr64 (1 + t4.1)))) + 1)) t6.2.1 t6.2.2).bind fun t7 => (spec_l3Draw.x0 k (wr64 (1 + t4.1)) (wr64 (1 + t7.1)) 0 t7.2.1 t7.2.2 (wr64 (1 + t4.1)) t5.1 t6.1 ([] : List Stp))))))))) else ((spec_l13Rd_pick.f a1 t1.2.1 t1.2.2).bind fun t8 => ((spec_l3Some.f k (wr64 (1 + t8.1)) t8.2.1 t8.2.2).bind fun t9 => ((spec_l3Some.f k (wr64 (1 + t8.1)) t9.2.1 t9.2.2).bind fun t10 => ((spec_l13Rd_pick.f (wr64 ((wr64 (2 * (wr64 (1 + t8.1)))) + 1)) t10.2.1 t10.2.2).bind fun t11 => (spec_l3Draw.x0 k (wr64 (1 + t8.1)) (wr64 (1 + t11.1)) 0 t11.2.1 t11.2.2 (wr64 (1 + t8.1)) t9.1 t10.1 ([] : List Stp)))))))) := by kernel_rfl
theorem spec_l3Draw.link : ∀ k, (∀ (x6 : Int) (x38 : Int) (x39 : Int) (y0_0 : List Int) (y0_1 : Int) (y2_0 : Int) (y6 : List Int) (y7 : List Int) (y8 : List Stp), spec_l3Draw.x0 k x6 x38 x39 y0_0 y0_1 y2_0 y6 y7 y8 = (spec_l3Draw.l0 k x6 x38 x39 y0_0 y0_1 y2_0 y6 y7 y8).map (spec_l3Draw.en))
  | 0 => fun _ _ _ _ _ _ _ _ _ => by simp only [spec_l3Draw.l0, R.map_none]; rfl
  | k + 1 => by
    have ih0 := spec_l3Draw.link k
    · intro x6 x38 x39 y0_0 y0_1 y2_0 y6 y7 y8
      rw [spec_l3Draw.e0]
      simp only [spec_l3Draw.l0, R.map_ite, R.map_bind, R.map_none, R.map_some, R.wr64_eq, ← ih0]
theorem spec_l3Draw.sf (k : Nat) (a1 : Int) (l2_0 : List Int) (a2_1 : Int) : R.start Tryd.prog xhn spec_l3Draw.O 1 Tryd.f55 spec_l3Draw.fh k [.ptr 0 0, .int .i64 a1] [.box false [.imm (.I .u8 l2_0), .int .i64 a2_1]] = (spec_l3Draw.f k a1 l2_0 a2_1).map (spec_l3Draw.en) := by
  have ih0 := spec_l3Draw.link k
  rw [spec_l3Draw.ef]
  simp only [spec_l3Draw.f, R.map_ite, R.map_bind, R.map_none, R.map_some, R.wr64_eq, ← ih0]
theorem spec_l3Draw.ok (k : Nat) : spec_l3Draw.tw.Ok Tryd.prog k := by
  intro md hmd a r h
  refine fn_ok (H := xhn) (fh := spec_l3Draw.fh) (O := spec_l3Draw.O) (k := k) Tryd.func55 (by kernel_rfl) (by kernel_rfl) (fun j _ => (Tw.orc_sound spec_l13Rd_pick.dok (spec_l13Rd_pick.ok j) (fun _ => rfl) (Tw.orc_sound spec_l3Known.dok (spec_l3Known.ok j) (fun _ => rfl) (Tw.orc_sound spec_l3Some.dok (spec_l3Some.ok j) (fun _ => rfl) (Tw.orc_sound spec_l13Rd_of.dok (spec_l13Rd_of.ok j) (fun _ => rfl) (Tw.orc_sound spec_l13Rd_num.dok (spec_l13Rd_num.ok j) (fun _ => rfl) (Tw.orc_sound spec_l3Put.dok (spec_l3Put.ok j) (fun _ => rfl) noO_sound))))))) (by kernel_rfl) (m := 1) rfl ?_
  refine (spec_l3Draw.sf k a.1 a.2.1 a.2.2).trans ?_
  exact congrArg (Option.map _) h
def spec_l3Bad.f (a1_0 : Int) (l1_1 : List Int) (l1_2 : List Int) (l1_3 : List Stp) (l2_0 : List Int) (a2_1 : Int) : Option (Int × (List Int) × (List Int) × (List Stp) × (List Int) × Int) := ((spec_l13Rd_pick.f 36 l2_0 a2_1).bind fun t1 => (if t1.1 = 0 then ((spec_l13Rd_num.f ([0, 5, (-1), 1, 9223372036854775807]) t1.2.1 t1.2.2).bind fun t2 => (some (t2.1, l1_1, l1_2, l1_3, t2.2.1, t2.2.2))) else (if t1.1 = 1 then (if ([] : List Stp).length + l1_3.length ≤ 3518437208883 then ((spec_l13Rd_pick.f 2 t1.2.1 t1.2.2).bind fun t3 => ((spec_l13Rd_of.f ([(⟨#[97]⟩ : ByteArray), (⟨#[99]⟩ : ByteArray), (⟨#[]⟩ : ByteArray)]) t3.2.1 t3.2.2).bind fun t4 => ((spec_l13Rd_num.f ([0, 4, (-1)]) t4.2.1 t4.2.2).bind fun t5 => ((spec_l13Rd_num.f ([0, 4, (-1)]) t5.2.1 t5.2.2).bind fun t6 => (if (([] : List Stp) ++ l1_3).length < 3518437208883 then (some (a1_0, l1_1, l1_2, ((([] : List Stp) ++ l1_3) ++ [(⟨t3.1, t4.1, t5.1, t6.1⟩ : Stp)]), t6.2.1, t6.2.2)) else none))))) else none) else (if t1.1 = 2 then (if ([] : List Int).length + l1_1.length ≤ 17592186044416 then ((spec_l13Rd_num.f ([0, 4, (-1)]) t1.2.1 t1.2.2).bind fun t7 => (if (([] : List Int) ++ l1_1).length < 17592186044416 then (some (a1_0, ((([] : List Int) ++ l1_1) ++ [t7.1]), l1_2, l1_3, t7.2.1, t7.2.2)) else none)) else none) else (some (a1_0, l1_1, l1_2, l1_3, t1.2.1, t1.2.2))))))
def spec_l3Bad.en (r : Int × (List Int) × (List Int) × (List Stp) × (List Int) × Int) : Res := (.agg [.int .i64 r.1, .imm (.I .i64 r.2.1), .imm (.I .i64 r.2.2.1), .imm (.T r.2.2.2.1)], [.box false [.imm (.I .u8 r.2.2.2.2.1), .int .i64 r.2.2.2.2.2]])
def spec_l3Bad.dec : List AV → List R.Obj → Option (Int × (List Int) × (List Int) × (List Stp) × (List Int) × Int)
  | [.ptr 0 0, .agg [.int .i64 a1_0, .imm (.I .i64 l1_1), .imm (.I .i64 l1_2), .imm (.T l1_3)]], [.box false [.imm (.I .u8 l2_0), .int .i64 a2_1]] => some (a1_0, l1_1, l1_2, l1_3, l2_0, a2_1)
  | _, _ => none
def spec_l3Bad.tw : Tw := ⟨54, Int × (List Int) × (List Int) × (List Stp) × (List Int) × Int, Int × (List Int) × (List Int) × (List Stp) × (List Int) × Int, spec_l3Bad.dec, fun a => [.ptr 0 0, .agg [.int .i64 a.1, .imm (.I .i64 a.2.1), .imm (.I .i64 a.2.2.1), .imm (.T a.2.2.2.1)]], fun a => [.box false [.imm (.I .u8 a.2.2.2.2.1), .int .i64 a.2.2.2.2.2]], fun k a => spec_l3Bad.f a.1 a.2.1 a.2.2.1 a.2.2.2.1 a.2.2.2.2.1 a.2.2.2.2.2, fun a r => spec_l3Bad.en r, true⟩
theorem spec_l3Bad.dok : spec_l3Bad.tw.DecOk := by
  intro args hc a h
  have h : spec_l3Bad.dec args hc = some a := h
  unfold spec_l3Bad.dec at h
  split at h
  · cases h; exact ⟨rfl, rfl⟩
  · cases h
noncomputable def spec_l3Bad.O (k : Nat) : Oracle := (spec_l13Rd_pick.tw.orc k (spec_l13Rd_num.tw.orc k (spec_l13Rd_of.tw.orc k noO)))
def spec_l3Bad.fh : FH := ⟨fun i => match i with | _ => none, [(false, 3), (false, 3), (false, 74)], false⟩
set_option maxRecDepth 100000 in
theorem spec_l3Bad.ef (k : Nat) (a1_0 : Int) (l1_1 : List Int) (l1_2 : List Int) (l1_3 : List Stp) (l2_0 : List Int) (a2_1 : Int) : R.start Tryd.prog xhn spec_l3Bad.O 1 Tryd.f54 spec_l3Bad.fh k [.ptr 0 0, .agg [.int .i64 a1_0, .imm (.I .i64 l1_1), .imm (.I .i64 l1_2), .imm (.T l1_3)]] [.box false [.imm (.I .u8 l2_0), .int .i64 a2_1]] = ((spec_l13Rd_pick.f 36 l2_0 a2_1).bind fun t1 => (if t1.1 = 0 then ((spec_l13Rd_num.f ([0, 5, (-1), 1, 9223372036854775807]) t1.2.1 t1.2.2).bind fun t2 => (some (spec_l3Bad.en (t2.1, l1_1, l1_2, l1_3, t2.2.1, t2.2.2)))) else (if t1.1 = 1 then (if ([] : List Stp).length + l1_3.length ≤ 3518437208883 then ((spec_l13Rd_pick.f 2 t1.2.1 t1.2.2).bind fun t3 => ((spec_l13Rd_of.f ([(⟨#[97]⟩ : ByteArray), (⟨#[99]⟩ : ByteArray), (⟨#[]⟩ : ByteArray)]) t3.2.1 t3.2.2).bind fun t4 => ((spec_l13Rd_num.f ([0, 4, (-1)]) t4.2.1 t4.2.2).bind fun t5 => ((spec_l13Rd_num.f ([0, 4, (-1)]) t5.2.1 t5.2.2).bind fun t6 => (if (([] : List Stp) ++ l1_3).length < 3518437208883 then (some (spec_l3Bad.en (a1_0, l1_1, l1_2, ((([] : List Stp) ++ l1_3) ++ [(⟨t3.1, t4.1, t5.1, t6.1⟩ : Stp)]), t6.2.1, t6.2.2))) else none))))) else none) else (if t1.1 = 2 then (if ([] : List Int).length + l1_1.length ≤ 17592186044416 then ((spec_l13Rd_num.f ([0, 4, (-1)]) t1.2.1 t1.2.2).bind fun t7 => (if (([] : List Int) ++ l1_1).length < 17592186044416 then (some (spec_l3Bad.en (a1_0, ((([] : List Int) ++ l1_1) ++ [t7.1]), l1_2, l1_3, t7.2.1, t7.2.2))) else none)) else none) else (some (spec_l3Bad.en (a1_0, l1_1, l1_2, l1_3, t1.2.1, t1.2.2))))))) := by kernel_rfl
theorem spec_l3Bad.sf (k : Nat) (a1_0 : Int) (l1_1 : List Int) (l1_2 : List Int) (l1_3 : List Stp) (l2_0 : List Int) (a2_1 : Int) : R.start Tryd.prog xhn spec_l3Bad.O 1 Tryd.f54 spec_l3Bad.fh k [.ptr 0 0, .agg [.int .i64 a1_0, .imm (.I .i64 l1_1), .imm (.I .i64 l1_2), .imm (.T l1_3)]] [.box false [.imm (.I .u8 l2_0), .int .i64 a2_1]] = (spec_l3Bad.f a1_0 l1_1 l1_2 l1_3 l2_0 a2_1).map (spec_l3Bad.en) := by
  rw [spec_l3Bad.ef]
  simp only [spec_l3Bad.f, R.map_ite, R.map_bind, R.map_none, R.map_some, R.wr64_eq]
theorem spec_l3Bad.ok (k : Nat) : spec_l3Bad.tw.Ok Tryd.prog k := by
  intro md hmd a r h
  refine fn_ok (H := xhn) (fh := spec_l3Bad.fh) (O := spec_l3Bad.O) (k := k) Tryd.func54 (by kernel_rfl) (by kernel_rfl) (fun j _ => (Tw.orc_sound spec_l13Rd_pick.dok (spec_l13Rd_pick.ok j) (fun _ => rfl) (Tw.orc_sound spec_l13Rd_num.dok (spec_l13Rd_num.ok j) (fun _ => rfl) (Tw.orc_sound spec_l13Rd_of.dok (spec_l13Rd_of.ok j) (fun _ => rfl) noO_sound)))) (by kernel_rfl) (m := 1) rfl ?_
  refine (spec_l3Bad.sf k a.1 a.2.1 a.2.2.1 a.2.2.2.1 a.2.2.2.2.1 a.2.2.2.2.2).trans ?_
  exact congrArg (Option.map _) h
def spec_l3Any.f (k : Nat) (l1_0 : List Int) (a1_1 : Int) : Option (Int × (List Int) × (List Int) × (List Stp) × (List Int) × Int) := ((spec_l3Draw.f k 3 l1_0 a1_1).bind fun t1 => ((spec_l3Bad.f t1.1 t1.2.1 t1.2.2.1 t1.2.2.2.1 t1.2.2.2.2.1 t1.2.2.2.2.2).bind fun t2 => (some (t2.1, t2.2.1, t2.2.2.1, t2.2.2.2.1, t2.2.2.2.2.1, t2.2.2.2.2.2))))
def spec_l3Any.en (r : Int × (List Int) × (List Int) × (List Stp) × (List Int) × Int) : Res := (.agg [.int .i64 r.1, .imm (.I .i64 r.2.1), .imm (.I .i64 r.2.2.1), .imm (.T r.2.2.2.1)], [.box false [.imm (.I .u8 r.2.2.2.2.1), .int .i64 r.2.2.2.2.2]])
def spec_l3Any.dec : List AV → List R.Obj → Option ((List Int) × Int)
  | [.ptr 0 0], [.box false [.imm (.I .u8 l1_0), .int .i64 a1_1]] => some (l1_0, a1_1)
  | _, _ => none
def spec_l3Any.tw : Tw := ⟨40, (List Int) × Int, Int × (List Int) × (List Int) × (List Stp) × (List Int) × Int, spec_l3Any.dec, fun a => [.ptr 0 0], fun a => [.box false [.imm (.I .u8 a.1), .int .i64 a.2]], fun k a => spec_l3Any.f k a.1 a.2, fun a r => spec_l3Any.en r, true⟩
theorem spec_l3Any.dok : spec_l3Any.tw.DecOk := by
  intro args hc a h
  have h : spec_l3Any.dec args hc = some a := h
  unfold spec_l3Any.dec at h
  split at h
  · cases h; exact ⟨rfl, rfl⟩
  · cases h
noncomputable def spec_l3Any.O (k : Nat) : Oracle := (spec_l3Draw.tw.orc k (spec_l3Bad.tw.orc k noO))
def spec_l3Any.fh : FH := ⟨fun i => match i with | _ => none, [(false, 3), (false, 3), (false, 74)], false⟩
set_option maxRecDepth 100000 in
theorem spec_l3Any.ef (k : Nat) (l1_0 : List Int) (a1_1 : Int) : R.start Tryd.prog xhn spec_l3Any.O 1 Tryd.f40 spec_l3Any.fh k [.ptr 0 0] [.box false [.imm (.I .u8 l1_0), .int .i64 a1_1]] = ((spec_l3Draw.f k 3 l1_0 a1_1).bind fun t1 => ((spec_l3Bad.f t1.1 t1.2.1 t1.2.2.1 t1.2.2.2.1 t1.2.2.2.2.1 t1.2.2.2.2.2).bind fun t2 => (some (spec_l3Any.en (t2.1, t2.2.1, t2.2.2.1, t2.2.2.2.1, t2.2.2.2.2.1, t2.2.2.2.2.2))))) := by kernel_rfl
theorem spec_l3Any.sf (k : Nat) (l1_0 : List Int) (a1_1 : Int) : R.start Tryd.prog xhn spec_l3Any.O 1 Tryd.f40 spec_l3Any.fh k [.ptr 0 0] [.box false [.imm (.I .u8 l1_0), .int .i64 a1_1]] = (spec_l3Any.f k l1_0 a1_1).map (spec_l3Any.en) := by
  rw [spec_l3Any.ef]
  simp only [spec_l3Any.f, R.map_ite, R.map_bind, R.map_none, R.map_some, R.wr64_eq]
theorem spec_l3Any.ok (k : Nat) : spec_l3Any.tw.Ok Tryd.prog k := by
  intro md hmd a r h
  refine fn_ok (H := xhn) (fh := spec_l3Any.fh) (O := spec_l3Any.O) (k := k) Tryd.func40 (by kernel_rfl) (by kernel_rfl) (fun j _ => (Tw.orc_sound spec_l3Draw.dok (spec_l3Draw.ok j) (fun _ => rfl) (Tw.orc_sound spec_l3Bad.dok (spec_l3Bad.ok j) (fun _ => rfl) noO_sound))) (by kernel_rfl) (m := 1) rfl ?_
  refine (spec_l3Any.sf k a.1 a.2).trans ?_
  exact congrArg (Option.map _) h
def spec_DrawGradeBetween.f (k : Nat) (l0 : List Int) : Option (Int × (List Int) × (List Int) × (List Stp) × Int × (List Int)) := ((spec_l13Open.f l0).bind fun t1 => ((spec_l3Any.f k t1.1 t1.2).bind fun t2 => ((spec_l13Rd_pick.f 16 t2.2.2.2.2.1 t2.2.2.2.2.2).bind fun t3 => (if t3.1 = 0 then ((spec_l6Some.f k t3.2.1 t3.2.2).bind fun t4 => (some (t2.1, t2.2.1, t2.2.2.1, t2.2.2.2.1, t4.1, t4.2.1))) else ((spec_l6Draw.f k (mx (mn t2.1 4) 1) t3.2.1 t3.2.2).bind fun t5 => ((spec_l6Bad.f t5.1 t5.2.1 t5.2.2.1 t5.2.2.2).bind fun t6 => (some (t2.1, t2.2.1, t2.2.2.1, t2.2.2.2.1, t6.1, t6.2.1))))))))
def spec_DrawGradeBetween.en (r : Int × (List Int) × (List Int) × (List Stp) × Int × (List Int)) : Res := (.tup [.agg [.int .i64 r.1, .imm (.I .i64 r.2.1), .imm (.I .i64 r.2.2.1), .imm (.T r.2.2.2.1)], .agg [.int .i64 r.2.2.2.2.1, .imm (.I .i64 r.2.2.2.2.2)]], [])
def spec_DrawGradeBetween.dec : List AV → List R.Obj → Option (List Int)
  | [.imm (.I .u8 l0)], [] => some l0
  | _, _ => none
def spec_DrawGradeBetween.tw : Tw := ⟨17, List Int, Int × (List Int) × (List Int) × (List Stp) × Int × (List Int), spec_DrawGradeBetween.dec, fun a => [.imm (.I .u8 a)], fun a => [], fun k a => spec_DrawGradeBetween.f k a, fun a r => spec_DrawGradeBetween.en r, true⟩
theorem spec_DrawGradeBetween.dok : spec_DrawGradeBetween.tw.DecOk := by
  intro args hc a h
  have h : spec_DrawGradeBetween.dec args hc = some a := h
  unfold spec_DrawGradeBetween.dec at h
  split at h
  · cases h; exact ⟨rfl, rfl⟩
  · cases h
noncomputable def spec_DrawGradeBetween.O (k : Nat) : Oracle := (spec_l13Open.tw.orc k (spec_l3Any.tw.orc k (spec_l13Rd_pick.tw.orc k (spec_l6Some.tw.orc k (spec_l6Draw.tw.orc k (spec_l6Bad.tw.orc k noO))))))
def spec_DrawGradeBetween.fh : FH := ⟨fun i => match i with | _ => none, [(false, 3), (false, 3), (false, 74), (false, 3)], false⟩
set_option maxRecDepth 100000 in
theorem spec_DrawGradeBetween.ef (k : Nat) (l0 : List Int) : R.start Tryd.prog xhn spec_DrawGradeBetween.O 0 Tryd.f17 spec_DrawGradeBetween.fh k [.imm (.I .u8 l0)] [] = ((spec_l13Open.f l0).bind fun t1 => ((spec_l3Any.f k t1.1 t1.2).bind fun t2 => ((spec_l13Rd_pick.f 16 t2.2.2.2.2.1 t2.2.2.2.2.2).bind fun t3 => (if t3.1 = 0 then ((spec_l6Some.f k t3.2.1 t3.2.2).bind fun t4 => (some (spec_DrawGradeBetween.en (t2.1, t2.2.1, t2.2.2.1, t2.2.2.2.1, t4.1, t4.2.1)))) else ((spec_l6Draw.f k (mx (mn t2.1 4) 1) t3.2.1 t3.2.2).bind fun t5 => ((spec_l6Bad.f t5.1 t5.2.1 t5.2.2.1 t5.2.2.2).bind fun t6 => (some (spec_DrawGradeBetween.en (t2.1, t2.2.1, t2.2.2.1, t2.2.2.2.1, t6.1, t6.2.1))))))))) := by kernel_rfl
theorem spec_DrawGradeBetween.sf (k : Nat) (l0 : List Int) : R.start Tryd.prog xhn spec_DrawGradeBetween.O 0 Tryd.f17 spec_DrawGradeBetween.fh k [.imm (.I .u8 l0)] [] = (spec_DrawGradeBetween.f k l0).map (spec_DrawGradeBetween.en) := by
  rw [spec_DrawGradeBetween.ef]
  simp only [spec_DrawGradeBetween.f, R.map_ite, R.map_bind, R.map_none, R.map_some, R.wr64_eq]
theorem spec_DrawGradeBetween.ok (k : Nat) : spec_DrawGradeBetween.tw.Ok Tryd.prog k := by
  intro md hmd a r h
  refine fn_ok (H := xhn) (fh := spec_DrawGradeBetween.fh) (O := spec_DrawGradeBetween.O) (k := k) Tryd.func17 (by kernel_rfl) (by kernel_rfl) (fun j _ => (Tw.orc_sound spec_l13Open.dok (spec_l13Open.ok j) (fun _ => rfl) (Tw.orc_sound spec_l3Any.dok (spec_l3Any.ok j) (fun _ => rfl) (Tw.orc_sound spec_l13Rd_pick.dok (spec_l13Rd_pick.ok j) (fun _ => rfl) (Tw.orc_sound spec_l6Some.dok (spec_l6Some.ok j) (fun _ => rfl) (Tw.orc_sound spec_l6Draw.dok (spec_l6Draw.ok j) (fun _ => rfl) (Tw.orc_sound spec_l6Bad.dok (spec_l6Bad.ok j) (fun _ => rfl) noO_sound))))))) (by kernel_rfl) (m := 0) rfl ?_
  refine (spec_DrawGradeBetween.sf k a).trans ?_
  exact congrArg (Option.map _) h
def impl_statesOk.l0 : Nat → (List Int) → Int → (List Int) → Int → Int → Option (Bool)
  | 0, _, _, _, _, _ => none
  | k + 1, x0, x1, x7, x8, x9 => (if x9 < x8 then (if 0 ≤ x9 then (if x9 < (x7.length : Int) then (if (rdI x7 x9) < 0 then (some false) else (if (rdI x7 x9) ≥ x1 then (some false) else (if x9 > 0 then (if 0 ≤ (wrap64 (x9 - 1)) then (if (wrap64 (x9 - 1)) < (x0.length : Int) then (if (rdI x0 (wrap64 (x9 - 1))) ≥ (rdI x7 x9) then (some false) else (impl_statesOk.l0 k x0 x1 x7 x8 (wrap64 (x9 + 1)))) else none) else none) else (impl_statesOk.l0 k x0 x1 x7 x8 (wrap64 (x9 + 1)))))) else none) else none) else (some true))
def impl_statesOk.f (k : Nat) (l0 : List Int) (a1 : Int) : Option (Bool) := (impl_statesOk.l0 k l0 a1 l0 (l0.length : Int) 0)
def impl_statesOk.en (r : Bool) : Res := (.lit r, [])
def impl_statesOk.dec : List AV → List R.Obj → Option ((List Int) × Int)
  | [.imm (.I .i64 l0), .int .i64 a1], [] => some (l0, a1)
  | _, _ => none
def impl_statesOk.tw : Tw := ⟨56, (List Int) × Int, Bool, impl_statesOk.dec, fun a => [.imm (.I .i64 a.1), .int .i64 a.2], fun a => [], fun k a => impl_statesOk.f k a.1 a.2, fun a r => impl_statesOk.en r, true⟩
theorem impl_statesOk.dok : impl_statesOk.tw.DecOk := by
  intro args hc a h
  have h : impl_statesOk.dec args hc = some a := h
  unfold impl_statesOk.dec at h
  split at h
  · cases h; exact ⟨rfl, rfl⟩
  · cases h
noncomputable def impl_statesOk.O (k : Nat) : Oracle := noO
def impl_statesOk.fh : FH := ⟨fun i => match i with | 2 => some [(0, 0), (1, 0), (7, 0), (8, 0), (9, 0)] | _ => none, [], false⟩
noncomputable def impl_statesOk.x0 (k : Nat) (x0 : List Int) (x1 : Int) (x7 : List Int) (x8 : Int) (x9 : Int) : Option Res := R.exec Tryd.prog xhn impl_statesOk.O 0 Tryd.f56 impl_statesOk.fh k (R.point Tryd.f56 2) ⟨[(0, .imm (.I .i64 x0)), (1, .int .i64 x1), (7, .imm (.I .i64 x7)), (8, .int .i64 x8), (9, .int .i64 x9)], [], 2⟩
set_option maxRecDepth 100000 in
theorem impl_statesOk.e0 (k : Nat) (x0 : List Int) (x1 : Int) (x7 : List Int) (x8 : Int) (x9 : Int) : impl_statesOk.x0 (k + 1) x0 x1 x7 x8 x9 = (if x9 < x8 then (if 0 ≤ x9 then (if x9 < (x7.length : Int) then (if (rdI x7 x9) < 0 then (some (impl_statesOk.en false)) else (if (rdI x7 x9) ≥ x1 then (some (impl_statesOk.en false)) else (if x9 > 0 then (if 0 ≤ (wr64 (x9 - 1)) then (if (wr64 (x9 - 1)) < (x0.length : Int) then (if (rdI x0 (wr64 (x9 - 1))) ≥ (rdI x7 x9) then (some (impl_statesOk.en false)) else (impl_statesOk.x0 k x0 x1 x7 x8 (wr64 (x9 + 1)))) else none) else none) else (impl_statesOk.x0 k x0 x1 x7 x8 (wr64 (x9 + 1)))))) else none) else none) else (some (impl_statesOk.en true))) := by kernel_rfl
set_option maxRecDepth 100000 in
theorem impl_statesOk.ef (k : Nat) (l0 : List Int) (a1 : Int) : R.start Tryd.prog xhn impl_statesOk.O 0 Tryd.f56 impl_statesOk.fh k [.imm (.I .i64 l0), .int .i64 a1] [] = (impl_statesOk.x0 k l0 a1 l0 (l0.length : Int) 0) := by kernel_rfl
theorem impl_statesOk.link : ∀ k, (∀ (x0 : List Int) (x1 : Int) (x7 : List Int) (x8 : Int) (x9 : Int), impl_statesOk.x0 k x0 x1 x7 x8 x9 = (impl_statesOk.l0 k x0 x1 x7 x8 x9).map (impl_statesOk.en))
  | 0 => fun _ _ _ _ _ => by simp only [impl_statesOk.l0, R.map_none]; rfl
  | k + 1 => by
    have ih0 := impl_statesOk.link k
    · intro x0 x1 x7 x8 x9
      rw [impl_statesOk.e0]
      simp only [impl_statesOk.l0, R.map_ite, R.map_bind, R.map_none, R.map_some, R.wr64_eq, ← ih0]
theorem impl_statesOk.sf (k : Nat) (l0 : List Int) (a1 : Int) : R.start Tryd.prog xhn impl_statesOk.O 0 Tryd.f56 impl_statesOk.fh k [.imm (.I .i64 l0), .int .i64 a1] [] = (impl_statesOk.f k l0 a1).map (impl_statesOk.en) := by
  have ih0 := impl_statesOk.link k
  rw [impl_statesOk.ef]
  simp only [impl_statesOk.f, R.map_ite, R.map_bind, R.map_none, R.map_some, R.wr64_eq, ← ih0]
theorem impl_statesOk.ok (k : Nat) : impl_statesOk.tw.Ok Tryd.prog k := by
  intro md hmd a r h
  refine fn_ok (H := xhn) (fh := impl_statesOk.fh) (O := impl_statesOk.O) (k := k) Tryd.func56 (by kernel_rfl) (by kernel_rfl) (fun j _ => noO_sound) (by kernel_rfl) (m := 0) rfl ?_
  refine (impl_statesOk.sf k a.1 a.2).trans ?_
  exact congrArg (Option.map _) h
def cmp_isNaN_int.f (a0 : Int) : Option (Bool) := (some (!decide (a0 = a0)))
def cmp_isNaN_int.en (r : Bool) : Res := (.lit r, [])
def cmp_isNaN_int.dec : List AV → List R.Obj → Option (Int)
  | [.int .i64 a0], [] => some a0
  | _, _ => none
def cmp_isNaN_int.tw : Tw := ⟨82, Int, Bool, cmp_isNaN_int.dec, fun a => [.int .i64 a], fun a => [], fun k a => cmp_isNaN_int.f a, fun a r => cmp_isNaN_int.en r, true⟩
theorem cmp_isNaN_int.dok : cmp_isNaN_int.tw.DecOk := by
  intro args hc a h
  have h : cmp_isNaN_int.dec args hc = some a := h
  unfold cmp_isNaN_int.dec at h
  split at h
  · cases h; exact ⟨rfl, rfl⟩
  · cases h
noncomputable def cmp_isNaN_int.O (k : Nat) : Oracle := noO
def cmp_isNaN_int.fh : FH := ⟨fun i => match i with | _ => none, [], false⟩
set_option maxRecDepth 100000 in
theorem cmp_isNaN_int.ef (k : Nat) (a0 : Int) : R.start Tryd.prog xhn cmp_isNaN_int.O 0 Tryd.f82 cmp_isNaN_int.fh k [.int .i64 a0] [] = (some (cmp_isNaN_int.en (!decide (a0 = a0)))) := by kernel_rfl
theorem cmp_isNaN_int.sf (k : Nat) (a0 : Int) : R.start Tryd.prog xhn cmp_isNaN_int.O 0 Tryd.f82 cmp_isNaN_int.fh k [.int .i64 a0] [] = (cmp_isNaN_int.f a0).map (cmp_isNaN_int.en) := by
  rw [cmp_isNaN_int.ef]
  simp only [cmp_isNaN_int.f, R.map_ite, R.map_bind, R.map_none, R.map_some, R.wr64_eq]
theorem cmp_isNaN_int.ok (k : Nat) : cmp_isNaN_int.tw.Ok Tryd.prog k := by
  intro md hmd a r h
  refine fn_ok (H := xhn) (fh := cmp_isNaN_int.fh) (O := cmp_isNaN_int.O) (k := k) Tryd.func82 (by kernel_rfl) (by kernel_rfl) (fun j _ => noO_sound) (by kernel_rfl) (m := 0) rfl ?_
  refine (cmp_isNaN_int.sf k a).trans ?_
  exact congrArg (Option.map _) h
def cmp_Compare_int.f (a0 : Int) (a1 : Int) : Option (Int) := ((cmp_isNaN_int.f a0).bind fun t1 => ((cmp_isNaN_int.f a1).bind fun t2 => (if t1 = true then (if t2 = true then (some 0) else (some (-1))) else (if t2 = true then (some 1) else (if a0 < a1 then (some (-1)) else (if a0 > a1 then (some 1) else (some 0)))))))
def cmp_Compare_int.en (r : Int) : Res := (.int .i64 r, [])
def cmp_Compare_int.dec : List AV → List R.Obj → Option (Int × Int)
  | [.int .i64 a0, .int .i64 a1], [] => some (a0, a1)
  | _, _ => none
def cmp_Compare_int.tw : Tw := ⟨73, Int × Int, Int, cmp_Compare_int.dec, fun a => [.int .i64 a.1, .int .i64 a.2], fun a => [], fun k a => cmp_Compare_int.f a.1 a.2, fun a r => cmp_Compare_int.en r, true⟩
theorem cmp_Compare_int.dok : cmp_Compare_int.tw.DecOk := by
  intro args hc a h
  have h : cmp_Compare_int.dec args hc = some a := h
  unfold cmp_Compare_int.dec at h
  split at h
  · cases h; exact ⟨rfl, rfl⟩
  · cases h
noncomputable def cmp_Compare_int.O (k : Nat) : Oracle := (cmp_isNaN_int.tw.orc k noO)
def cmp_Compare_int.fh : FH := ⟨fun i => match i with | _ => none, [], false⟩
set_option maxRecDepth 100000 in
theorem cmp_Compare_int.ef (k : Nat) (a0 : Int) (a1 : Int) : R.start Tryd.prog xhn cmp_Compare_int.O 0 Tryd.f73 cmp_Compare_int.fh k [.int .i64 a0, .int .i64 a1] [] = ((cmp_isNaN_int.f a0).bind fun t1 => ((cmp_isNaN_int.f a1).bind fun t2 => (if t1 = true then (if t2 = true then (some (cmp_Compare_int.en 0)) else (some (cmp_Compare_int.en (-1)))) else (if t2 = true then (some (cmp_Compare_int.en 1)) else (if a0 < a1 then (some (cmp_Compare_int.en (-1))) else (if a0 > a1 then (some (cmp_Compare_int.en 1)) else (some (cmp_Compare_int.en 0)))))))) := by kernel_rfl
theorem cmp_Compare_int.sf (k : Nat) (a0 : Int) (a1 : Int) : R.start Tryd.prog xhn cmp_Compare_int.O 0 Tryd.f73 cmp_Compare_int.fh k [.int .i64 a0, .int .i64 a1] [] = (cmp_Compare_int.f a0 a1).map (cmp_Compare_int.en) := by
  rw [cmp_Compare_int.ef]
  simp only [cmp_Compare_int.f, R.map_ite, R.map_bind, R.map_none, R.map_some, R.wr64_eq]
theorem cmp_Compare_int.ok (k : Nat) : cmp_Compare_int.tw.Ok Tryd.prog k := by
  intro md hmd a r h
  refine fn_ok (H := xhn) (fh := cmp_Compare_int.fh) (O := cmp_Compare_int.O) (k := k) Tryd.func73 (by kernel_rfl) (by kernel_rfl) (fun j _ => (Tw.orc_sound cmp_isNaN_int.dok (cmp_isNaN_int.ok j) (fun _ => rfl) noO_sound)) (by kernel_rfl) (m := 0) rfl ?_
  refine (cmp_Compare_int.sf k a.1 a.2).trans ?_
  exact congrArg (Option.map _) h
def bytealg_CompareString.f (a0 a1 : ByteArray) : Option Int := some (Lib.compareBytes a0.data.toList a1.data.toList)
def bytealg_CompareString.dec : List AV → List R.Obj → Option (ByteArray × ByteArray)
  | [.str a0, .str a1], [] => some (a0, a1)
  | _, _ => none
def bytealg_CompareString.tw : Tw := ⟨83, ByteArray × ByteArray, Int, bytealg_CompareString.dec, fun a => [.str a.1, .str a.2], fun a => [], fun k a => bytealg_CompareString.f a.1 a.2, fun a r => (.int .i64 r, []), true⟩
theorem bytealg_CompareString.dok : bytealg_CompareString.tw.DecOk := by
  intro args hc a h
  have h : bytealg_CompareString.dec args hc = some a := h
  unfold bytealg_CompareString.dec at h
  split at h
  · cases h; exact ⟨rfl, rfl⟩
  · cases h
set_option maxRecDepth 100000 in
set_option maxHeartbeats 8000000 in
theorem bytealg_CompareString.calls (a0 a1 : ByteArray) (w : World) : Calls Tryd.prog 83 #[.string a0, .string a1] w fun e w' => e = .returned (.int .i64 (Lib.compareBytes a0.data.toList a1.data.toList)) ∧ w' = w := by
  go_enter Tryd.func83, Tryd.ntmps83
  go_wp2
  rw [run_callFunc_extern Tryd.func92 (by kernel_rfl) (by kernel_rfl) (by kernel_rfl) (e := Extern.BytealgCompare.compare) (by kernel_rfl), Lib.run_compareString]
  simp only [Result.andThen]
  rw [Oper.upon_value]
  go_wp2
  go_ret
  exact ⟨rfl, rfl⟩
theorem bytealg_CompareString.ok (k : Nat) : bytealg_CompareString.tw.Ok Tryd.prog k := by
  intro md hmd a r h
  obtain rfl := Option.some.inj (show some _ = some r from h)
  refine ⟨callable_of Tryd.func83 (by kernel_rfl) (by kernel_rfl), fun w M I vs E => ?_⟩
  have e : vs = #[.string a.1, .string a.2] := two_of E.len (fun q => (E.args 0 _ _ rfl q).str_inv) (fun q => (E.args 1 _ _ rfl q).str_inv)
  subst e
  refine (bytealg_CompareString.calls a.1 a.2 w).mono fun e w' => ?_
  rintro ⟨rfl, rfl⟩
  exact ⟨_, M, rfl, (E.rel md).weaken (fun κ q => q.elim), .closed (.int _ _)⟩
def strings_Compare.f (a0 : ByteArray) (a1 : ByteArray) : Option (Int) := ((bytealg_CompareString.f a0 a1).bind fun t1 => (some t1))
def strings_Compare.en (r : Int) : Res := (.int .i64 r, [])
def strings_Compare.dec : List AV → List R.Obj → Option (ByteArray × ByteArray)
  | [.str a0, .str a1], [] => some (a0, a1)
  | _, _ => none
def strings_Compare.tw : Tw := ⟨74, ByteArray × ByteArray, Int, strings_Compare.dec, fun a => [.str a.1, .str a.2], fun a => [], fun k a => strings_Compare.f a.1 a.2, fun a r => strings_Compare.en r, true⟩
theorem strings_Compare.dok : strings_Compare.tw.DecOk := by
  intro args hc a h
  have h : strings_Compare.dec args hc = some a := h
  unfold strings_Compare.dec at h
  split at h
  · cases h; exact ⟨rfl, rfl⟩
  · cases h
noncomputable def strings_Compare.O (k : Nat) : Oracle := (bytealg_CompareString.tw.orc k noO)
def strings_Compare.fh : FH := ⟨fun i => match i with | _ => none, [], false⟩
set_option maxRecDepth 100000 in
theorem strings_Compare.ef (k : Nat) (a0 : ByteArray) (a1 : ByteArray) : R.start Tryd.prog xhn strings_Compare.O 0 Tryd.f74 strings_Compare.fh k [.str a0, .str a1] [] = ((bytealg_CompareString.f a0 a1).bind fun t1 => (some (strings_Compare.en t1))) := by kernel_rfl
theorem strings_Compare.sf (k : Nat) (a0 : ByteArray) (a1 : ByteArray) : R.start Tryd.prog xhn strings_Compare.O 0 Tryd.f74 strings_Compare.fh k [.str a0, .str a1] [] = (strings_Compare.f a0 a1).map (strings_Compare.en) := by
  rw [strings_Compare.ef]
  simp only [strings_Compare.f, R.map_ite, R.map_bind, R.map_none, R.map_some, R.wr64_eq]
theorem strings_Compare.ok (k : Nat) : strings_Compare.tw.Ok Tryd.prog k := by
  intro md hmd a r h
  refine fn_ok (H := xhn) (fh := strings_Compare.fh) (O := strings_Compare.O) (k := k) Tryd.func74 (by kernel_rfl) (by kernel_rfl) (fun j _ => (Tw.orc_sound bytealg_CompareString.dok (bytealg_CompareString.ok j) (fun _ => rfl) noO_sound)) (by kernel_rfl) (m := 0) rfl ?_
  refine (strings_Compare.sf k a.1 a.2).trans ?_
  exact congrArg (Option.map _) h
def cmp_Or_int.l0 : Nat → (List Int) → Int → Int → Option (Int)
  | 0, _, _, _ => none
  | k + 1, x6, x7, x8 => (if x8 < x7 then (if 0 ≤ x8 then (if x8 < (x6.length : Int) then (if (rdI x6 x8) = 0 then (cmp_Or_int.l0 k x6 x7 (wrap64 (x8 + 1))) else (some (rdI x6 x8))) else none) else none) else (some 0))
def cmp_Or_int.f (k : Nat) (l0 : List Int) : Option (Int) := (cmp_Or_int.l0 k l0 (l0.length : Int) 0)
def cmp_Or_int.en (r : Int) : Res := (.int .i64 r, [])
def cmp_Or_int.dec : List AV → List R.Obj → Option (List Int)
  | [.imm (.I .i64 l0)], [] => some l0
  | _, _ => none
def cmp_Or_int.tw : Tw := ⟨72, List Int, Int, cmp_Or_int.dec, fun a => [.imm (.I .i64 a)], fun a => [], fun k a => cmp_Or_int.f k a, fun a r => cmp_Or_int.en r, true⟩
theorem cmp_Or_int.dok : cmp_Or_int.tw.DecOk := by
  intro args hc a h
  have h : cmp_Or_int.dec args hc = some a := h
  unfold cmp_Or_int.dec at h
  split at h
  · cases h; exact ⟨rfl, rfl⟩
  · cases h
noncomputable def cmp_Or_int.O (k : Nat) : Oracle := noO
def cmp_Or_int.fh : FH := ⟨fun i => match i with | 3 => some [(3, 0), (6, 0), (7, 0), (8, 0)] | _ => none, [], false⟩
noncomputable def cmp_Or_int.x0 (k : Nat) (x6 : List Int) (x7 : Int) (x8 : Int) : Option Res := R.exec Tryd.prog xhn cmp_Or_int.O 0 Tryd.f72 cmp_Or_int.fh k (R.point Tryd.f72 3) ⟨[(3, .int .i64 0), (6, .imm (.I .i64 x6)), (7, .int .i64 x7), (8, .int .i64 x8)], [], 2⟩
set_option maxRecDepth 100000 in
theorem cmp_Or_int.e0 (k : Nat) (x6 : List Int) (x7 : Int) (x8 : Int) : cmp_Or_int.x0 (k + 1) x6 x7 x8 = (if x8 < x7 then (if 0 ≤ x8 then (if x8 < (x6.length : Int) then (if (rdI x6 x8) = 0 then (cmp_Or_int.x0 k x6 x7 (wr64 (x8 + 1))) else (some (cmp_Or_int.en (rdI x6 x8)))) else none) else none) else (some (cmp_Or_int.en 0))) := by kernel_rfl
set_option maxRecDepth 100000 in
theorem cmp_Or_int.ef (k : Nat) (l0 : List Int) : R.start Tryd.prog xhn cmp_Or_int.O 0 Tryd.f72 cmp_Or_int.fh k [.imm (.I .i64 l0)] [] = (cmp_Or_int.x0 k l0 (l0.length : Int) 0) := by kernel_rfl
theorem cmp_Or_int.link : ∀ k, (∀ (x6 : List Int) (x7 : Int) (x8 : Int), cmp_Or_int.x0 k x6 x7 x8 = (cmp_Or_int.l0 k x6 x7 x8).map (cmp_Or_int.en))
  | 0 => fun _ _ _ => by simp only [cmp_Or_int.l0, R.map_none]; rfl
  | k + 1 => by
    have ih0 := cmp_Or_int.link k
    · intro x6 x7 x8
      rw [cmp_Or_int.e0]
      simp only [cmp_Or_int.l0, R.map_ite, R.map_bind, R.map_none, R.map_some, R.wr64_eq, ← ih0]
theorem cmp_Or_int.sf (k : Nat) (l0 : List Int) : R.start Tryd.prog xhn cmp_Or_int.O 0 Tryd.f72 cmp_Or_int.fh k [.imm (.I .i64 l0)] [] = (cmp_Or_int.f k l0).map (cmp_Or_int.en) := by
  have ih0 := cmp_Or_int.link k
  rw [cmp_Or_int.ef]
  simp only [cmp_Or_int.f, R.map_ite, R.map_bind, R.map_none, R.map_some, R.wr64_eq, ← ih0]
theorem cmp_Or_int.ok (k : Nat) : cmp_Or_int.tw.Ok Tryd.prog k := by
  intro md hmd a r h
  refine fn_ok (H := xhn) (fh := cmp_Or_int.fh) (O := cmp_Or_int.O) (k := k) Tryd.func72 (by kernel_rfl) (by kernel_rfl) (fun j _ => noO_sound) (by kernel_rfl) (m := 0) rfl ?_
  refine (cmp_Or_int.sf k a).trans ?_
  exact congrArg (Option.map _) h
def impl_stepOrder.f (k : Nat) (a0_0 : Int) (a0_1 : ByteArray) (a0_2 : Int) (a0_3 : Int) (a1_0 : Int) (a1_1 : ByteArray) (a1_2 : Int) (a1_3 : Int) : Option (Int) := ((cmp_Compare_int.f a0_0 a1_0).bind fun t1 => ((strings_Compare.f a0_1 a1_1).bind fun t2 => ((cmp_Compare_int.f a0_2 a1_2).bind fun t3 => ((cmp_Or_int.f k ([t1, t2, t3])).bind fun t4 => (some t4)))))
def impl_stepOrder.en (r : Int) : Res := (.int .i64 r, [])
def impl_stepOrder.dec : List AV → List R.Obj → Option (Int × ByteArray × Int × Int × Int × ByteArray × Int × Int)
  | [.agg [.int .i64 a0_0, .str a0_1, .int .i64 a0_2, .int .i64 a0_3], .agg [.int .i64 a1_0, .str a1_1, .int .i64 a1_2, .int .i64 a1_3]], [] => some (a0_0, a0_1, a0_2, a0_3, a1_0, a1_1, a1_2, a1_3)
  | _, _ => none
def impl_stepOrder.tw : Tw := ⟨57, Int × ByteArray × Int × Int × Int × ByteArray × Int × Int, Int, impl_stepOrder.dec, fun a => [.agg [.int .i64 a.1, .str a.2.1, .int .i64 a.2.2.1, .int .i64 a.2.2.2.1], .agg [.int .i64 a.2.2.2.2.1, .str a.2.2.2.2.2.1, .int .i64 a.2.2.2.2.2.2.1, .int .i64 a.2.2.2.2.2.2.2]], fun a => [], fun k a => impl_stepOrder.f k a.1 a.2.1 a.2.2.1 a.2.2.2.1 a.2.2.2.2.1 a.2.2.2.2.2.1 a.2.2.2.2.2.2.1 a.2.2.2.2.2.2.2, fun a r => impl_stepOrder.en r, true⟩
theorem impl_stepOrder.dok : impl_stepOrder.tw.DecOk := by
  intro args hc a h
  have h : impl_stepOrder.dec args hc = some a := h
  unfold impl_stepOrder.dec at h
  split at h
  · cases h; exact ⟨rfl, rfl⟩
  · cases h
noncomputable def impl_stepOrder.O (k : Nat) : Oracle := (cmp_Compare_int.tw.orc k (strings_Compare.tw.orc k (cmp_Or_int.tw.orc k noO)))
def impl_stepOrder.fh : FH := ⟨fun i => match i with | _ => none, [], false⟩
set_option maxRecDepth 100000 in
theorem impl_stepOrder.ef (k : Nat) (a0_0 : Int) (a0_1 : ByteArray) (a0_2 : Int) (a0_3 : Int) (a1_0 : Int) (a1_1 : ByteArray) (a1_2 : Int) (a1_3 : Int) : R.start Tryd.prog xhn impl_stepOrder.O 0 Tryd.f57 impl_stepOrder.fh k [.agg [.int .i64 a0_0, .str a0_1, .int .i64 a0_2, .int .i64 a0_3], .agg [.int .i64 a1_0, .str a1_1, .int .i64 a1_2, .int .i64 a1_3]] [] = ((cmp_Compare_int.f a0_0 a1_0).bind fun t1 => ((strings_Compare.f a0_1 a1_1).bind fun t2 => ((cmp_Compare_int.f a0_2 a1_2).bind fun t3 => ((cmp_Or_int.f k ([t1, t2, t3])).bind fun t4 => (some (impl_stepOrder.en t4)))))) := by kernel_rfl
theorem impl_stepOrder.sf (k : Nat) (a0_0 : Int) (a0_1 : ByteArray) (a0_2 : Int) (a0_3 : Int) (a1_0 : Int) (a1_1 : ByteArray) (a1_2 : Int) (a1_3 : Int) : R.start Tryd.prog xhn impl_stepOrder.O 0 Tryd.f57 impl_stepOrder.fh k [.agg [.int .i64 a0_0, .str a0_1, .int .i64 a0_2, .int .i64 a0_3], .agg [.int .i64 a1_0, .str a1_1, .int .i64 a1_2, .int .i64 a1_3]] [] = (impl_stepOrder.f k a0_0 a0_1 a0_2 a0_3 a1_0 a1_1 a1_2 a1_3).map (impl_stepOrder.en) := by
  rw [impl_stepOrder.ef]
  simp only [impl_stepOrder.f, R.map_ite, R.map_bind, R.map_none, R.map_some, R.wr64_eq]
theorem impl_stepOrder.ok (k : Nat) : impl_stepOrder.tw.Ok Tryd.prog k := by
  intro md hmd a r h
  refine fn_ok (H := xhn) (fh := impl_stepOrder.fh) (O := impl_stepOrder.O) (k := k) Tryd.func57 (by kernel_rfl) (by kernel_rfl) (fun j _ => (Tw.orc_sound cmp_Compare_int.dok (cmp_Compare_int.ok j) (fun _ => rfl) (Tw.orc_sound strings_Compare.dok (strings_Compare.ok j) (fun _ => rfl) (Tw.orc_sound cmp_Or_int.dok (cmp_Or_int.ok j) (fun _ => rfl) noO_sound)))) (by kernel_rfl) (m := 0) rfl ?_
  refine (impl_stepOrder.sf k a.1 a.2.1 a.2.2.1 a.2.2.2.1 a.2.2.2.2.1 a.2.2.2.2.2.1 a.2.2.2.2.2.2.1 a.2.2.2.2.2.2.2).trans ?_
  exact congrArg (Option.map _) h
def impl_AutomatonValid.l0 : Nat → (List Stp) → Int → Int → Int → (List Int) → (List Int) → (List Stp) → Option (Bool)
  | 0, _, _, _, _, _, _, _ => none
  | k + 1, x36, x37, x38, y0_0, y0_1, y0_2, y0_3 => (if x38 < x37 then (if 0 ≤ x38 then (if x38 < (x36.length : Int) then (if (rdT x36 x38).f0 < 0 then (some false) else (if (rdT x36 x38).f0 ≥ y0_0 then (some false) else (if (rdT x36 x38).f2 < 0 then (some false) else (if (rdT x36 x38).f2 ≥ y0_0 then (some false) else (if (rdT x36 x38).f1.toList = ([97] : List UInt8) then (if (rdT x36 x38).f3 < 0 then (some false) else (if (rdT x36 x38).f3 > 3 then (some false) else (if x38 > 0 then (if 0 ≤ (wrap64 (x38 - 1)) then (if (wrap64 (x38 - 1)) < (y0_3.length : Int) then ((impl_stepOrder.f k ((rdT y0_3 (wrap64 (x38 - 1))).f0) ((rdT y0_3 (wrap64 (x38 - 1))).f1) ((rdT y0_3 (wrap64 (x38 - 1))).f2) ((rdT y0_3 (wrap64 (x38 - 1))).f3) ((rdT x36 x38).f0) ((rdT x36 x38).f1) ((rdT x36 x38).f2) ((rdT x36 x38).f3)).bind fun t3 => (if t3 ≥ 0 then (some false) else (impl_AutomatonValid.l0 k x36 x37 (wrap64 (x38 + 1)) y0_0 y0_1 y0_2 y0_3))) else none) else none) else (impl_AutomatonValid.l0 k x36 x37 (wrap64 (x38 + 1)) y0_0 y0_1 y0_2 y0_3)))) else (if (rdT x36 x38).f1.toList = ([98] : List UInt8) then (if (rdT x36 x38).f3 < 0 then (some false) else (if (rdT x36 x38).f3 > 3 then (some false) else (if x38 > 0 then (if 0 ≤ (wrap64 (x38 - 1)) then (if (wrap64 (x38 - 1)) < (y0_3.length : Int) then ((impl_stepOrder.f k ((rdT y0_3 (wrap64 (x38 - 1))).f0) ((rdT y0_3 (wrap64 (x38 - 1))).f1) ((rdT y0_3 (wrap64 (x38 - 1))).f2) ((rdT y0_3 (wrap64 (x38 - 1))).f3) ((rdT x36 x38).f0) ((rdT x36 x38).f1) ((rdT x36 x38).f2) ((rdT x36 x38).f3)).bind fun t4 => (if t4 ≥ 0 then (some false) else (impl_AutomatonValid.l0 k x36 x37 (wrap64 (x38 + 1)) y0_0 y0_1 y0_2 y0_3))) else none) else none) else (impl_AutomatonValid.l0 k x36 x37 (wrap64 (x38 + 1)) y0_0 y0_1 y0_2 y0_3)))) else (some false))))))) else none) else none) else (some true))
def impl_AutomatonValid.f (k : Nat) (a0_0 : Int) (l0_1 : List Int) (l0_2 : List Int) (l0_3 : List Stp) : Option (Bool) := (if a0_0 < 1 then (some false) else (if a0_0 > 4 then (some false) else (if (l0_3.length : Int) > 24 then (some false) else ((impl_statesOk.f k l0_1 a0_0).bind fun t1 => (if t1 = true then ((impl_statesOk.f k l0_2 a0_0).bind fun t2 => (if t2 = true then (impl_AutomatonValid.l0 k l0_3 (l0_3.length : Int) 0 a0_0 l0_1 l0_2 l0_3) else (some false))) else (some false))))))
def impl_AutomatonValid.en (r : Bool) : Res := (.lit r, [])
def impl_AutomatonValid.dec : List AV → List R.Obj → Option (Int × (List Int) × (List Int) × (List Stp))
  | [.agg [.int .i64 a0_0, .imm (.I .i64 l0_1), .imm (.I .i64 l0_2), .imm (.T l0_3)]], [] => some (a0_0, l0_1, l0_2, l0_3)
  | _, _ => none
def impl_AutomatonValid.tw : Tw := ⟨42, Int × (List Int) × (List Int) × (List Stp), Bool, impl_AutomatonValid.dec, fun a => [.agg [.int .i64 a.1, .imm (.I .i64 a.2.1), .imm (.I .i64 a.2.2.1), .imm (.T a.2.2.2)]], fun a => [], fun k a => impl_AutomatonValid.f k a.1 a.2.1 a.2.2.1 a.2.2.2, fun a r => impl_AutomatonValid.en r, true⟩
theorem impl_AutomatonValid.dok : impl_AutomatonValid.tw.DecOk := by
  intro args hc a h
  have h : impl_AutomatonValid.dec args hc = some a := h
  unfold impl_AutomatonValid.dec at h
  split at h
  · cases h; exact ⟨rfl, rfl⟩
  · cases h
noncomputable def impl_AutomatonValid.O (k : Nat) : Oracle := (impl_statesOk.tw.orc k (impl_stepOrder.tw.orc k noO))
def impl_AutomatonValid.fh : FH := ⟨fun i => match i with | 4 => some [(1, 0), (36, 0), (37, 0), (38, 0)] | _ => none, [], false⟩
noncomputable def impl_AutomatonValid.x0 (k : Nat) (x36 : List Stp) (x37 : Int) (x38 : Int) (y0_0 : Int) (y0_1 : List Int) (y0_2 : List Int) (y0_3 : List Stp) : Option Res := R.exec Tryd.prog xhn impl_AutomatonValid.O 0 Tryd.f42 impl_AutomatonValid.fh k (R.point Tryd.f42 4) ⟨[(1, .ptr 0 0), (36, .imm (.T x36)), (37, .int .i64 x37), (38, .int .i64 x38)], [(0, .box false [.int .i64 y0_0, .imm (.I .i64 y0_1), .imm (.I .i64 y0_2), .imm (.T y0_3)])], 3⟩
set_option maxRecDepth 100000 in
theorem impl_AutomatonValid.e0 (k : Nat) (x36 : List Stp) (x37 : Int) (x38 : Int) (y0_0 : Int) (y0_1 : List Int) (y0_2 : List Int) (y0_3 : List Stp) : impl_AutomatonValid.x0 (k + 1) x36 x37 x38 y0_0 y0_1 y0_2 y0_3 = (if x38 < x37 then (if 0 ≤ x38 then (if x38 < (x36.length : Int) then (if (rdT x36 x38).f0 < 0 then (some (impl_AutomatonValid.en false)) else (if (rdT x36 x38).f0 ≥ y0_0 then (some (impl_AutomatonValid.en false)) else (if (rdT x36 x38).f2 < 0 then (some (impl_AutomatonValid.en false)) else (if (rdT x36 x38).f2 ≥ y0_0 then (some (impl_AutomatonValid.en false)) else (if (rdT x36 x38).f1.toList = ([97] : List UInt8) then (if (rdT x36 x38).f3 < 0 then (some (impl_AutomatonValid.en false)) else (if (rdT x36 x38).f3 > 3 then (some (impl_AutomatonValid.en false)) else (if x38 > 0 then (if 0 ≤ (wr64 (x38 - 1)) then (if (wr64 (x38 - 1)) < (y0_3.length : Int) then ((impl_stepOrder.f k ((rdT y0_3 (wr64 (x38 - 1))).f0) ((rdT y0_3 (wr64 (x38 - 1))).f1) ((rdT y0_3 (wr64 (x38 - 1))).f2) ((rdT y0_3 (wr64 (x38 - 1))).f3) ((rdT x36 x38).f0) ((rdT x36 x38).f1) ((rdT x36 x38).f2) ((rdT x36 x38).f3)).bind fun t3 => (if t3 ≥ 0 then (some (impl_AutomatonValid.en false)) else (impl_AutomatonValid.x0 k x36 x37 (wr64 (x38 + 1)) y0_0 y0_1 y0_2 y0_3))) else none) else none) else (impl_AutomatonValid.x0 k x36 x37 (wr64 (x38 + 1)) y0_0 y0_1 y0_2 y0_3)))) else (if (rdT x36 x38).f1.toList = ([98] : List UInt8) then (if (rdT x36 x38).f3 < 0 then (some (impl_AutomatonValid.en false)) else (if (rdT x36 x38).f3 > 3 then (some (impl_AutomatonValid.en false)) else (if x38 > 0 then (if 0 ≤ (wr64 (x38 - 1)) then (if (wr64 (x38 - 1)) < (y0_3.length : Int) then ((impl_stepOrder.f k ((rdT y0_3 (wr64 (x38 - 1))).f0) ((rdT y0_3 (wr64 (x38 - 1))).f1) ((rdT y0_3 (wr64 (x38 - 1))).f2) ((rdT y0_3 (wr64 (x38 - 1))).f3) ((rdT x36 x38).f0) ((rdT x36 x38).f1) ((rdT x36 x38).f2) ((rdT x36 x38).f3)).bind fun t4 => (if t4 ≥ 0 then (some (impl_AutomatonValid.en false)) else (impl_AutomatonValid.x0 k x36 x37 (wr64 (x38 + 1)) y0_0 y0_1 y0_2 y0_3))) else none) else none) else (impl_AutomatonValid.x0 k x36 x37 (wr64 (x38 + 1)) y0_0 y0_1 y0_2 y0_3)))) else (some (impl_AutomatonValid.en false)))))))) else none) else none) else (some (impl_AutomatonValid.en true))) := by kernel_rfl
set_option maxRecDepth 100000 in
theorem impl_AutomatonValid.ef (k : Nat) (a0_0 : Int) (l0_1 : List Int) (l0_2 : List Int) (l0_3 : List Stp) : R.start Tryd.prog xhn impl_AutomatonValid.O 0 Tryd.f42 impl_AutomatonValid.fh k [.agg [.int .i64 a0_0, .imm (.I .i64 l0_1), .imm (.I .i64 l0_2), .imm (.T l0_3)]] [] = (if a0_0 < 1 then (some (impl_AutomatonValid.en false)) else (if a0_0 > 4 then (some (impl_AutomatonValid.en false)) else (if (l0_3.length : Int) > 24 then (some (impl_AutomatonValid.en false)) else ((impl_statesOk.f k l0_1 a0_0).bind fun t1 => (if t1 = true then ((impl_statesOk.f k l0_2 a0_0).bind fun t2 => (if t2 = true then (impl_AutomatonValid.x0 k l0_3 (l0_3.length : Int) 0 a0_0 l0_1 l0_2 l0_3) else (some (impl_AutomatonValid.en false)))) else (some (impl_AutomatonValid.en false))))))) := by kernel_rfl
theorem impl_AutomatonValid.link : ∀ k, (∀ (x36 : List Stp) (x37 : Int) (x38 : Int) (y0_0 : Int) (y0_1 : List Int) (y0_2 : List Int) (y0_3 : List Stp), impl_AutomatonValid.x0 k x36 x37 x38 y0_0 y0_1 y0_2 y0_3 = (impl_AutomatonValid.l0 k x36 x37 x38 y0_0 y0_1 y0_2 y0_3).map (impl_AutomatonValid.en))
  | 0 => fun _ _ _ _ _ _ _ => by simp only [impl_AutomatonValid.l0, R.map_none]; rfl
  | k + 1 => by
    have ih0 := impl_AutomatonValid.link k
    · intro x36 x37 x38 y0_0 y0_1 y0_2 y0_3
      rw [impl_AutomatonValid.e0]
      simp only [impl_AutomatonValid.l0, R.map_ite, R.map_bind, R.map_none, R.map_some, R.wr64_eq, ← ih0]
theorem impl_AutomatonValid.sf (k : Nat) (a0_0 : Int) (l0_1 : List Int) (l0_2 : List Int) (l0_3 : List Stp) : R.start Tryd.prog xhn impl_AutomatonValid.O 0 Tryd.f42 impl_AutomatonValid.fh k [.agg [.int .i64 a0_0, .imm (.I .i64 l0_1), .imm (.I .i64 l0_2), .imm (.T l0_3)]] [] = (impl_AutomatonValid.f k a0_0 l0_1 l0_2 l0_3).map (impl_AutomatonValid.en) := by
  have ih0 := impl_AutomatonValid.link k
  rw [impl_AutomatonValid.ef]
  simp only [impl_AutomatonValid.f, R.map_ite, R.map_bind, R.map_none, R.map_some, R.wr64_eq, ← ih0]
theorem impl_AutomatonValid.ok (k : Nat) : impl_AutomatonValid.tw.Ok Tryd.prog k := by
  intro md hmd a r h
  refine fn_ok (H := xhn) (fh := impl_AutomatonValid.fh) (O := impl_AutomatonValid.O) (k := k) Tryd.func42 (by kernel_rfl) (by kernel_rfl) (fun j _ => (Tw.orc_sound impl_statesOk.dok (impl_statesOk.ok j) (fun _ => rfl) (Tw.orc_sound impl_stepOrder.dok (impl_stepOrder.ok j) (fun _ => rfl) noO_sound))) (by kernel_rfl) (m := 0) rfl ?_
  refine (impl_AutomatonValid.sf k a.1 a.2.1 a.2.2.1 a.2.2.2).trans ?_
  exact congrArg (Option.map _) h
def impl_Matrix_at.f (a0_0 : Int) (l0_1 : List Int) (a1 : Int) (a2 : Int) : Option (Int) := (if 0 ≤ (wrap64 ((wrap64 (a1 * a0_0)) + a2)) then (if (wrap64 ((wrap64 (a1 * a0_0)) + a2)) < (l0_1.length : Int) then (some (rdI l0_1 (wrap64 ((wrap64 (a1 * a0_0)) + a2)))) else none) else none)
def impl_Matrix_at.en (r : Int) : Res := (.int .i64 r, [])
def impl_Matrix_at.dec : List AV → List R.Obj → Option (Int × (List Int) × Int × Int)
  | [.agg [.int .i64 a0_0, .imm (.I .i64 l0_1)], .int .i64 a1, .int .i64 a2], [] => some (a0_0, l0_1, a1, a2)
  | _, _ => none
def impl_Matrix_at.tw : Tw := ⟨43, Int × (List Int) × Int × Int, Int, impl_Matrix_at.dec, fun a => [.agg [.int .i64 a.1, .imm (.I .i64 a.2.1)], .int .i64 a.2.2.1, .int .i64 a.2.2.2], fun a => [], fun k a => impl_Matrix_at.f a.1 a.2.1 a.2.2.1 a.2.2.2, fun a r => impl_Matrix_at.en r, true⟩
theorem impl_Matrix_at.dok : impl_Matrix_at.tw.DecOk := by
  intro args hc a h
  have h : impl_Matrix_at.dec args hc = some a := h
  unfold impl_Matrix_at.dec at h
  split at h
  · cases h; exact ⟨rfl, rfl⟩
  · cases h
noncomputable def impl_Matrix_at.O (k : Nat) : Oracle := noO
def impl_Matrix_at.fh : FH := ⟨fun i => match i with | _ => none, [], false⟩
set_option maxRecDepth 100000 in
theorem impl_Matrix_at.ef (k : Nat) (a0_0 : Int) (l0_1 : List Int) (a1 : Int) (a2 : Int) : R.start Tryd.prog xhn impl_Matrix_at.O 0 Tryd.f43 impl_Matrix_at.fh k [.agg [.int .i64 a0_0, .imm (.I .i64 l0_1)], .int .i64 a1, .int .i64 a2] [] = (if 0 ≤ (wr64 ((wr64 (a1 * a0_0)) + a2)) then (if (wr64 ((wr64 (a1 * a0_0)) + a2)) < (l0_1.length : Int) then (some (impl_Matrix_at.en (rdI l0_1 (wr64 ((wr64 (a1 * a0_0)) + a2))))) else none) else none) := by kernel_rfl
theorem impl_Matrix_at.sf (k : Nat) (a0_0 : Int) (l0_1 : List Int) (a1 : Int) (a2 : Int) : R.start Tryd.prog xhn impl_Matrix_at.O 0 Tryd.f43 impl_Matrix_at.fh k [.agg [.int .i64 a0_0, .imm (.I .i64 l0_1)], .int .i64 a1, .int .i64 a2] [] = (impl_Matrix_at.f a0_0 l0_1 a1 a2).map (impl_Matrix_at.en) := by
  rw [impl_Matrix_at.ef]
  simp only [impl_Matrix_at.f, R.map_ite, R.map_bind, R.map_none, R.map_some, R.wr64_eq]
theorem impl_Matrix_at.ok (k : Nat) : impl_Matrix_at.tw.Ok Tryd.prog k := by
  intro md hmd a r h
  refine fn_ok (H := xhn) (fh := impl_Matrix_at.fh) (O := impl_Matrix_at.O) (k := k) Tryd.func43 (by kernel_rfl) (by kernel_rfl) (fun j _ => noO_sound) (by kernel_rfl) (m := 0) rfl ?_
  refine (impl_Matrix_at.sf k a.1 a.2.1 a.2.2.1 a.2.2.2).trans ?_
  exact congrArg (Option.map _) h
mutual
def impl_GradeBetween.l0 : Nat → Int → (List Int) → Int → Int → Int → (List Int) → (List Int) → (List Stp) → Int → (List Int) → Option (Int)
  | 0, _, _, _, _, _, _, _, _, _, _ => none
  | k + 1, x5, x26, x27, x28, y0_0, y0_1, y0_2, y0_3, y1_0, y1_1 => (if x28 < x27 then (if 0 ≤ x28 then (if x28 < (x26.length : Int) then (impl_GradeBetween.l1 k x5 (rdI x26 x28) x26 x27 x28 y0_2 (y0_2.length : Int) 0 y0_0 y0_1 y0_2 y0_3 y1_0 y1_1) else none) else none) else (some x5))
def impl_GradeBetween.l1 : Nat → Int → Int → (List Int) → Int → Int → (List Int) → Int → Int → Int → (List Int) → (List Int) → (List Stp) → Int → (List Int) → Option (Int)
  | 0, _, _, _, _, _, _, _, _, _, _, _, _, _, _ => none
  | k + 1, x5, x7, x26, x27, x28, x33, x34, x35, y0_0, y0_1, y0_2, y0_3, y1_0, y1_1 => (if x35 < x34 then (if 0 ≤ x35 then (if x35 < (x33.length : Int) then ((impl_Matrix_at.f y1_0 y1_1 x7 (rdI x33 x35)).bind fun t3 => (impl_GradeBetween.l1 k (mn x5 t3) x7 x26 x27 x28 x33 x34 (wrap64 (x35 + 1)) y0_0 y0_1 y0_2 y0_3 y1_0 y1_1)) else none) else none) else (impl_GradeBetween.l0 k x5 x26 x27 (wrap64 (x28 + 1)) y0_0 y0_1 y0_2 y0_3 y1_0 y1_1))
end
def impl_GradeBetween.f (k : Nat) (a0_0 : Int) (l0_1 : List Int) (l0_2 : List Int) (l0_3 : List Stp) (a1_0 : Int) (l1_1 : List Int) : Option (Int) := ((impl_AutomatonValid.f k a0_0 l0_1 l0_2 l0_3).bind fun t1 => (if t1 = true then ((impl_GradesValid.f k a1_0 l1_1).bind fun t2 => (if t2 = true then (if a1_0 = a0_0 then (impl_GradeBetween.l0 k 3 l0_1 (l0_1.length : Int) 0 a0_0 l0_1 l0_2 l0_3 a1_0 l1_1) else (some (-1))) else (some (-1)))) else (some (-1))))
def impl_GradeBetween.en (r : Int) : Res := (.int .i64 r, [])
def impl_GradeBetween.dec : List AV → List R.Obj → Option (Int × (List Int) × (List Int) × (List Stp) × Int × (List Int))
  | [.agg [.int .i64 a0_0, .imm (.I .i64 l0_1), .imm (.I .i64 l0_2), .imm (.T l0_3)], .agg [.int .i64 a1_0, .imm (.I .i64 l1_1)]], [] => some (a0_0, l0_1, l0_2, l0_3, a1_0, l1_1)
  | _, _ => none
def impl_GradeBetween.tw : Tw := ⟨18, Int × (List Int) × (List Int) × (List Stp) × Int × (List Int), Int, impl_GradeBetween.dec, fun a => [.agg [.int .i64 a.1, .imm (.I .i64 a.2.1), .imm (.I .i64 a.2.2.1), .imm (.T a.2.2.2.1)], .agg [.int .i64 a.2.2.2.2.1, .imm (.I .i64 a.2.2.2.2.2)]], fun a => [], fun k a => impl_GradeBetween.f k a.1 a.2.1 a.2.2.1 a.2.2.2.1 a.2.2.2.2.1 a.2.2.2.2.2, fun a r => impl_GradeBetween.en r, true⟩
theorem impl_GradeBetween.dok : impl_GradeBetween.tw.DecOk := by
  intro args hc a h
  have h : impl_GradeBetween.dec args hc = some a := h
  unfold impl_GradeBetween.dec at h
  split at h
  · cases h; exact ⟨rfl, rfl⟩
  · cases h
noncomputable def impl_GradeBetween.O (k : Nat) : Oracle := (impl_AutomatonValid.tw.orc k (impl_GradesValid.tw.orc k (impl_Matrix_at.tw.orc k noO)))
def impl_GradeBetween.fh : FH := ⟨fun i => match i with | 5 => some [(2, 0), (3, 0), (5, 0), (26, 0), (27, 0), (28, 0)] | 8 => some [(2, 0), (3, 0), (5, 0), (7, 0), (26, 0), (27, 0), (28, 0), (33, 0), (34, 0), (35, 0)] | _ => none, [], false⟩
noncomputable def impl_GradeBetween.x0 (k : Nat) (x5 : Int) (x26 : List Int) (x27 : Int) (x28 : Int) (y0_0 : Int) (y0_1 : List Int) (y0_2 : List Int) (y0_3 : List Stp) (y1_0 : Int) (y1_1 : List Int) : Option Res := R.exec Tryd.prog xhn impl_GradeBetween.O 0 Tryd.f18 impl_GradeBetween.fh k (R.point Tryd.f18 5) ⟨[(2, .ptr 0 0), (3, .ptr 1 0), (5, .int .i64 x5), (26, .imm (.I .i64 x26)), (27, .int .i64 x27), (28, .int .i64 x28)], [(0, .box false [.int .i64 y0_0, .imm (.I .i64 y0_1), .imm (.I .i64 y0_2), .imm (.T y0_3)]), (1, .box false [.int .i64 y1_0, .imm (.I .i64 y1_1)])], 4⟩
noncomputable def impl_GradeBetween.x1 (k : Nat) (x5 : Int) (x7 : Int) (x26 : List Int) (x27 : Int) (x28 : Int) (x33 : List Int) (x34 : Int) (x35 : Int) (y0_0 : Int) (y0_1 : List Int) (y0_2 : List Int) (y0_3 : List Stp) (y1_0 : Int) (y1_1 : List Int) : Option Res := R.exec Tryd.prog xhn impl_GradeBetween.O 0 Tryd.f18 impl_GradeBetween.fh k (R.point Tryd.f18 8) ⟨[(2, .ptr 0 0), (3, .ptr 1 0), (5, .int .i64 x5), (7, .int .i64 x7), (26, .imm (.I .i64 x26)), (27, .int .i64 x27), (28, .int .i64 x28), (33, .imm (.I .i64 x33)), (34, .int .i64 x34), (35, .int .i64 x35)], [(0, .box false [.int .i64 y0_0, .imm (.I .i64 y0_1), .imm (.I .i64 y0_2), .imm (.T y0_3)]), (1, .box false [.int .i64 y1_0, .imm (.I .i64 y1_1)])], 4⟩
set_option maxRecDepth 100000 in
theorem impl_GradeBetween.e0 (k : Nat) (x5 : Int) (x26 : List Int) (x27 : Int) (x28 : Int) (y0_0 : Int) (y0_1 : List Int) (y0_2 : List Int) (y0_3 : List Stp) (y1_0 : Int) (y1_1 : List Int) : impl_GradeBetween.x0 (k + 1) x5 x26 x27 x28 y0_0 y0_1 y0_2 y0_3 y1_0 y1_1 = (if x28 < x27 then (if 0 ≤ x28 then (if x28 < (x26.length : Int) then (impl_GradeBetween.x1 k x5 (rdI x26 x28) x26 x27 x28 y0_2 (y0_2.length : Int) 0 y0_0 y0_1 y0_2 y0_3 y1_0 y1_1) else none) else none) else (some (impl_GradeBetween.en x5))) := by kernel_rfl
set_option maxRecDepth 100000 in
theorem impl_GradeBetween.e1 (k : Nat) (x5 : Int) (x7 : Int) (x26 : List Int) (x27 : Int) (x28 : Int) (x33 : List Int) (x34 : Int) (x35 : Int) (y0_0 : Int) (y0_1 : List Int) (y0_2 : List Int) (y0_3 : List Stp) (y1_0 : Int) (y1_1 : List Int) : impl_GradeBetween.x1 (k + 1) x5 x7 x26 x27 x28 x33 x34 x35 y0_0 y0_1 y0_2 y0_3 y1_0 y1_1 = (if x35 < x34 then (if 0 ≤ x35 then (if x35 < (x33.length : Int) then ((impl_Matrix_at.f y1_0 y1_1 x7 (rdI x33 x35)).bind fun t3 => (impl_GradeBetween.x1 k (mn x5 t3) x7 x26 x27 x28 x33 x34 (wr64 (x35 + 1)) y0_0 y0_1 y0_2 y0_3 y1_0 y1_1)) else none) else none) else (impl_GradeBetween.x0 k x5 x26 x27 (wr64 (x28 + 1)) y0_0 y0_1 y0_2 y0_3 y1_0 y1_1)) := by kernel_rfl
set_option maxRecDepth 100000 in
theorem impl_GradeBetween.ef (k : Nat) (a0_0 : Int) (l0_1 : List Int) (l0_2 : List Int) (l0_3 : List Stp) (a1_0 : Int) (l1_1 : List Int) : R.start Tryd.prog xhn impl_GradeBetween.O 0 Tryd.f18 impl_GradeBetween.fh k [.agg [.int .i64 a0_0, .imm (.I .i64 l0_1), .imm (.I .i64 l0_2), .imm (.T l0_3)], .agg [.int .i64 a1_0, .imm (.I .i64 l1_1)]] [] = ((impl_AutomatonValid.f k a0_0 l0_1 l0_2 l0_3).bind fun t1 => (if t1 = true then ((impl_GradesValid.f k a1_0 l1_1).bind fun t2 => (if t2 = true then (if a1_0 = a0_0 then (impl_GradeBetween.x0 k 3 l0_1 (l0_1.length : Int) 0 a0_0 l0_1 l0_2 l0_3 a1_0 l1_1) else (some (impl_GradeBetween.en (-1)))) else (some (impl_GradeBetween.en (-1))))) else (some (impl_GradeBetween.en (-1))))) := by kernel_rfl
theorem impl_GradeBetween.link : ∀ k, (∀ (x5 : Int) (x26 : List Int) (x27 : Int) (x28 : Int) (y0_0 : Int) (y0_1 : List Int) (y0_2 : List Int) (y0_3 : List Stp) (y1_0 : Int) (y1_1 : List Int), impl_GradeBetween.x0 k x5 x26 x27 x28 y0_0 y0_1 y0_2 y0_3 y1_0 y1_1 = (impl_GradeBetween.l0 k x5 x26 x27 x28 y0_0 y0_1 y0_2 y0_3 y1_0 y1_1).map (impl_GradeBetween.en)) ∧ (∀ (x5 : Int) (x7 : Int) (x26 : List Int) (x27 : Int) (x28 : Int) (x33 : List Int) (x34 : Int) (x35 : Int) (y0_0 : Int) (y0_1 : List Int) (y0_2 : List Int) (y0_3 : List Stp) (y1_0 : Int) (y1_1 : List Int), impl_GradeBetween.x1 k x5 x7 x26 x27 x28 x33 x34 x35 y0_0 y0_1 y0_2 y0_3 y1_0 y1_1 = (impl_GradeBetween.l1 k x5 x7 x26 x27 x28 x33 x34 x35 y0_0 y0_1 y0_2 y0_3 y1_0 y1_1).map (impl_GradeBetween.en))
  | 0 => ⟨fun _ _ _ _ _ _ _ _ _ _ => by simp only [impl_GradeBetween.l0, R.map_none]; rfl, fun _ _ _ _ _ _ _ _ _ _ _ _ _ _ => by simp only [impl_GradeBetween.l1, R.map_none]; rfl⟩
  | k + 1 => by
    obtain ⟨ih0, ih1⟩ := impl_GradeBetween.link k
    refine ⟨?_, ?_⟩
    · intro x5 x26 x27 x28 y0_0 y0_1 y0_2 y0_3 y1_0 y1_1
      rw [impl_GradeBetween.e0]
      simp only [impl_GradeBetween.l0, R.map_ite, R.map_bind, R.map_none, R.map_some, R.wr64_eq, ← ih0, ← ih1]
    · intro x5 x7 x26 x27 x28 x33 x34 x35 y0_0 y0_1 y0_2 y0_3 y1_0 y1_1
      rw [impl_GradeBetween.e1]
      simp only [impl_GradeBetween.l1, R.map_ite, R.map_bind, R.map_none, R.map_some, R.wr64_eq, ← ih0, ← ih1]
theorem impl_GradeBetween.sf (k : Nat) (a0_0 : Int) (l0_1 : List Int) (l0_2 : List Int) (l0_3 : List Stp) (a1_0 : Int) (l1_1 : List Int) : R.start Tryd.prog xhn impl_GradeBetween.O 0 Tryd.f18 impl_GradeBetween.fh k [.agg [.int .i64 a0_0, .imm (.I .i64 l0_1), .imm (.I .i64 l0_2), .imm (.T l0_3)], .agg [.int .i64 a1_0, .imm (.I .i64 l1_1)]] [] = (impl_GradeBetween.f k a0_0 l0_1 l0_2 l0_3 a1_0 l1_1).map (impl_GradeBetween.en) := by
  obtain ⟨ih0, ih1⟩ := impl_GradeBetween.link k
  rw [impl_GradeBetween.ef]
  simp only [impl_GradeBetween.f, R.map_ite, R.map_bind, R.map_none, R.map_some, R.wr64_eq, ← ih0, ← ih1]
theorem impl_GradeBetween.ok (k : Nat) : impl_GradeBetween.tw.Ok Tryd.prog k := by
  intro md hmd a r h
  refine fn_ok (H := xhn) (fh := impl_GradeBetween.fh) (O := impl_GradeBetween.O) (k := k) Tryd.func18 (by kernel_rfl) (by kernel_rfl) (fun j _ => (Tw.orc_sound impl_AutomatonValid.dok (impl_AutomatonValid.ok j) (fun _ => rfl) (Tw.orc_sound impl_GradesValid.dok (impl_GradesValid.ok j) (fun _ => rfl) (Tw.orc_sound impl_Matrix_at.dok (impl_Matrix_at.ok j) (fun _ => rfl) noO_sound)))) (by kernel_rfl) (m := 0) rfl ?_
  refine (impl_GradeBetween.sf k a.1 a.2.1 a.2.2.1 a.2.2.2.1 a.2.2.2.2.1 a.2.2.2.2.2).trans ?_
  exact congrArg (Option.map _) h
mutual
def spec_l6Between.l0 : Nat → Int → (List Int) → Int → Int → Int → (List Int) → (List Int) → (List Stp) → Int → (List Int) → Option (Int)
  | 0, _, _, _, _, _, _, _, _, _, _ => none
  | k + 1, x5, x11, x12, x13, y0_0, y0_1, y0_2, y0_3, y1_0, y1_1 => (if x13 < x12 then (if 0 ≤ x13 then (if x13 < (x11.length : Int) then (spec_l6Between.l1 k x5 (rdI x11 x13) x11 x12 x13 y0_2 (y0_2.length : Int) 0 y0_0 y0_1 y0_2 y0_3 y1_0 y1_1) else none) else none) else (some x5))
def spec_l6Between.l1 : Nat → Int → Int → (List Int) → Int → Int → (List Int) → Int → Int → Int → (List Int) → (List Int) → (List Stp) → Int → (List Int) → Option (Int)
  | 0, _, _, _, _, _, _, _, _, _, _, _, _, _, _ => none
  | k + 1, x5, x7, x11, x12, x13, x18, x19, x20, y0_0, y0_1, y0_2, y0_3, y1_0, y1_1 => (if x20 < x19 then (if 0 ≤ x20 then (if x20 < (x18.length : Int) then (if 0 ≤ (wrap64 ((wrap64 (x7 * y0_0)) + (rdI x18 x20))) then (if (wrap64 ((wrap64 (x7 * y0_0)) + (rdI x18 x20))) < (y1_1.length : Int) then (spec_l6Between.l1 k (mn x5 (rdI y1_1 (wrap64 ((wrap64 (x7 * y0_0)) + (rdI x18 x20))))) x7 x11 x12 x13 x18 x19 (wrap64 (x20 + 1)) y0_0 y0_1 y0_2 y0_3 y1_0 y1_1) else none) else none) else none) else none) else (spec_l6Between.l0 k x5 x11 x12 (wrap64 (x13 + 1)) y0_0 y0_1 y0_2 y0_3 y1_0 y1_1))
end
def spec_l6Between.f (k : Nat) (a0_0 : Int) (l0_1 : List Int) (l0_2 : List Int) (l0_3 : List Stp) (a1_0 : Int) (l1_1 : List Int) : Option (Int) := (spec_l6Between.l0 k 3 l0_1 (l0_1.length : Int) 0 a0_0 l0_1 l0_2 l0_3 a1_0 l1_1)
def spec_l6Between.en (r : Int) : Res := (.int .i64 r, [])
def spec_l6Between.dec : List AV → List R.Obj → Option (Int × (List Int) × (List Int) × (List Stp) × Int × (List Int))
  | [.agg [.int .i64 a0_0, .imm (.I .i64 l0_1), .imm (.I .i64 l0_2), .imm (.T l0_3)], .agg [.int .i64 a1_0, .imm (.I .i64 l1_1)]], [] => some (a0_0, l0_1, l0_2, l0_3, a1_0, l1_1)
  | _, _ => none
def spec_l6Between.tw : Tw := ⟨45, Int × (List Int) × (List Int) × (List Stp) × Int × (List Int), Int, spec_l6Between.dec, fun a => [.agg [.int .i64 a.1, .imm (.I .i64 a.2.1), .imm (.I .i64 a.2.2.1), .imm (.T a.2.2.2.1)], .agg [.int .i64 a.2.2.2.2.1, .imm (.I .i64 a.2.2.2.2.2)]], fun a => [], fun k a => spec_l6Between.f k a.1 a.2.1 a.2.2.1 a.2.2.2.1 a.2.2.2.2.1 a.2.2.2.2.2, fun a r => spec_l6Between.en r, true⟩
theorem spec_l6Between.dok : spec_l6Between.tw.DecOk := by
  intro args hc a h
  have h : spec_l6Between.dec args hc = some a := h
  unfold spec_l6Between.dec at h
  split at h
  · cases h; exact ⟨rfl, rfl⟩
  · cases h
noncomputable def spec_l6Between.O (k : Nat) : Oracle := noO
def spec_l6Between.fh : FH := ⟨fun i => match i with | 3 => some [(2, 0), (3, 0), (5, 0), (11, 0), (12, 0), (13, 0)] | 6 => some [(2, 0), (3, 0), (5, 0), (7, 0), (11, 0), (12, 0), (13, 0), (18, 0), (19, 0), (20, 0)] | _ => none, [], false⟩
noncomputable def spec_l6Between.x0 (k : Nat) (x5 : Int) (x11 : List Int) (x12 : Int) (x13 : Int) (y0_0 : Int) (y0_1 : List Int) (y0_2 : List Int) (y0_3 : List Stp) (y1_0 : Int) (y1_1 : List Int) : Option Res := R.exec Tryd.prog xhn spec_l6Between.O 0 Tryd.f45 spec_l6Between.fh k (R.point Tryd.f45 3) ⟨[(2, .ptr 0 0), (3, .ptr 1 0), (5, .int .i64 x5), (11, .imm (.I .i64 x11)), (12, .int .i64 x12), (13, .int .i64 x13)], [(0, .box false [.int .i64 y0_0, .imm (.I .i64 y0_1), .imm (.I .i64 y0_2), .imm (.T y0_3)]), (1, .box false [.int .i64 y1_0, .imm (.I .i64 y1_1)])], 4⟩
noncomputable def spec_l6Between.x1 (k : Nat) (x5 : Int) (x7 : Int) (x11 : List Int) (x12 : Int) (x13 : Int) (x18 : List Int) (x19 : Int) (x20 : Int) (y0_0 : Int) (y0_1 : List Int) (y0_2 : List Int) (y0_3 : List Stp) (y1_0 : Int) (y1_1 : List Int) : Option Res := R.exec Tryd.prog xhn spec_l6Between.O 0 Tryd.f45 spec_l6Between.fh k (R.point Tryd.f45 6) ⟨[(2, .ptr 0 0), (3, .ptr 1 0), (5, .int .i64 x5), (7, .int .i64 x7), (11, .imm (.I .i64 x11)), (12, .int .i64 x12), (13, .int .i64 x13), (18, .imm (.I .i64 x18)), (19, .int .i64 x19), (20, .int .i64 x20)], [(0, .box false [.int .i64 y0_0, .imm (.I .i64 y0_1), .imm (.I .i64 y0_2), .imm (.T y0_3)]), (1, .box false [.int .i64 y1_0, .imm (.I .i64 y1_1)])], 4⟩
set_option maxRecDepth 100000 in
theorem spec_l6Between.e0 (k : Nat) (x5 : Int) (x11 : List Int) (x12 : Int) (x13 : Int) (y0_0 : Int) (y0_1 : List Int) (y0_2 : List Int) (y0_3 : List Stp) (y1_0 : Int) (y1_1 : List Int) : spec_l6Between.x0 (k + 1) x5 x11 x12 x13 y0_0 y0_1 y0_2 y0_3 y1_0 y1_1 = (if x13 < x12 then (if 0 ≤ x13 then (if x13 < (x11.length : Int) then (spec_l6Between.x1 k x5 (rdI x11 x13) x11 x12 x13 y0_2 (y0_2.length : Int) 0 y0_0 y0_1 y0_2 y0_3 y1_0 y1_1) else none) else none) else (some (spec_l6Between.en x5))) := by kernel_rfl
set_option maxRecDepth 100000 in
theorem spec_l6Between.e1 (k : Nat) (x5 : Int) (x7 : Int) (x11 : List Int) (x12 : Int) (x13 : Int) (x18 : List Int) (x19 : Int) (x20 : Int) (y0_0 : Int) (y0_1 : List Int) (y0_2 : List Int) (y0_3 : List Stp) (y1_0 : Int) (y1_1 : List Int) : spec_l6Between.x1 (k + 1) x5 x7 x11 x12 x13 x18 x19 x20 y0_0 y0_1 y0_2 y0_3 y1_0 y1_1 = (if x20 < x19 then (if 0 ≤ x20 then (if x20 < (x18.length : Int) then (if 0 ≤ (wr64 ((wr64 (x7 * y0_0)) + (rdI x18 x20))) then (if (wr64 ((wr64 (x7 * y0_0)) + (rdI x18 x20))) < (y1_1.length : Int) then (spec_l6Between.x1 k (mn x5 (rdI y1_1 (wr64 ((wr64 (x7 * y0_0)) + (rdI x18 x20))))) x7 x11 x12 x13 x18 x19 (wr64 (x20 + 1)) y0_0 y0_1 y0_2 y0_3 y1_0 y1_1) else none) else none) else none) else none) else (spec_l6Between.x0 k x5 x11 x12 (wr64 (x13 + 1)) y0_0 y0_1 y0_2 y0_3 y1_0 y1_1)) := by kernel_rfl
set_option maxRecDepth 100000 in
theorem spec_l6Between.ef (k : Nat) (a0_0 : Int) (l0_1 : List Int) (l0_2 : List Int) (l0_3 : List Stp) (a1_0 : Int) (l1_1 : List Int) : R.start Tryd.prog xhn spec_l6Between.O 0 Tryd.f45 spec_l6Between.fh k [.agg [.int .i64 a0_0, .imm (.I .i64 l0_1), .imm (.I .i64 l0_2), .imm (.T l0_3)], .agg [.int .i64 a1_0, .imm (.I .i64 l1_1)]] [] = (spec_l6Between.x0 k 3 l0_1 (l0_1.length : Int) 0 a0_0 l0_1 l0_2 l0_3 a1_0 l1_1) := by kernel_rfl
theorem spec_l6Between.link : ∀ k, (∀ (x5 : Int) (x11 : List Int) (x12 : Int) (x13 : Int) (y0_0 : Int) (y0_1 : List Int) (y0_2 : List Int) (y0_3 : List Stp) (y1_0 : Int) (y1_1 : List Int), spec_l6Between.x0 k x5 x11 x12 x13 y0_0 y0_1 y0_2 y0_3 y1_0 y1_1 = (spec_l6Between.l0 k x5 x11 x12 x13 y0_0 y0_1 y0_2 y0_3 y1_0 y1_1).map (spec_l6Between.en)) ∧ (∀ (x5 : Int) (x7 : Int) (x11 : List Int) (x12 : Int) (x13 : Int) (x18 : List Int) (x19 : Int) (x20 : Int) (y0_0 : Int) (y0_1 : List Int) (y0_2 : List Int) (y0_3 : List Stp) (y1_0 : Int) (y1_1 : List Int), spec_l6Between.x1 k x5 x7 x11 x12 x13 x18 x19 x20 y0_0 y0_1 y0_2 y0_3 y1_0 y1_1 = (spec_l6Between.l1 k x5 x7 x11 x12 x13 x18 x19 x20 y0_0 y0_1 y0_2 y0_3 y1_0 y1_1).map (spec_l6Between.en))
  | 0 => ⟨fun _ _ _ _ _ _ _ _ _ _ => by simp only [spec_l6Between.l0, R.map_none]; rfl, fun _ _ _ _ _ _ _ _ _ _ _ _ _ _ => by simp only [spec_l6Between.l1, R.map_none]; rfl⟩
  | k + 1 => by
    obtain ⟨ih0, ih1⟩ := spec_l6Between.link k
    refine ⟨?_, ?_⟩
    · intro x5 x11 x12 x13 y0_0 y0_1 y0_2 y0_3 y1_0 y1_1
      rw [spec_l6Between.e0]
      simp only [spec_l6Between.l0, R.map_ite, R.map_bind, R.map_none, R.map_some, R.wr64_eq, ← ih0, ← ih1]
    · intro x5 x7 x11 x12 x13 x18 x19 x20 y0_0 y0_1 y0_2 y0_3 y1_0 y1_1
      rw [spec_l6Between.e1]
      simp only [spec_l6Between.l1, R.map_ite, R.map_bind, R.map_none, R.map_some, R.wr64_eq, ← ih0, ← ih1]
theorem spec_l6Between.sf (k : Nat) (a0_0 : Int) (l0_1 : List Int) (l0_2 : List Int) (l0_3 : List Stp) (a1_0 : Int) (l1_1 : List Int) : R.start Tryd.prog xhn spec_l6Between.O 0 Tryd.f45 spec_l6Between.fh k [.agg [.int .i64 a0_0, .imm (.I .i64 l0_1), .imm (.I .i64 l0_2), .imm (.T l0_3)], .agg [.int .i64 a1_0, .imm (.I .i64 l1_1)]] [] = (spec_l6Between.f k a0_0 l0_1 l0_2 l0_3 a1_0 l1_1).map (spec_l6Between.en) := by
  obtain ⟨ih0, ih1⟩ := spec_l6Between.link k
  rw [spec_l6Between.ef]
  simp only [spec_l6Between.f, R.map_ite, R.map_bind, R.map_none, R.map_some, R.wr64_eq, ← ih0, ← ih1]
theorem spec_l6Between.ok (k : Nat) : spec_l6Between.tw.Ok Tryd.prog k := by
  intro md hmd a r h
  refine fn_ok (H := xhn) (fh := spec_l6Between.fh) (O := spec_l6Between.O) (k := k) Tryd.func45 (by kernel_rfl) (by kernel_rfl) (fun j _ => noO_sound) (by kernel_rfl) (m := 0) rfl ?_
  refine (spec_l6Between.sf k a.1 a.2.1 a.2.2.1 a.2.2.2.1 a.2.2.2.2.1 a.2.2.2.2.2).trans ?_
  exact congrArg (Option.map _) h
def spec_GradeBetween.f (k : Nat) (a0_0 : Int) (l0_1 : List Int) (l0_2 : List Int) (l0_3 : List Stp) (a1_0 : Int) (l1_1 : List Int) : Option (Int) := ((spec_AutomatonValid.f k a0_0 l0_1 l0_2 l0_3).bind fun t1 => (if t1 = true then ((spec_GradesValid.f k a1_0 l1_1).bind fun t2 => (if t2 = true then (if a1_0 = a0_0 then ((spec_l6Between.f k a0_0 l0_1 l0_2 l0_3 a1_0 l1_1).bind fun t3 => (some t3)) else (some (-1))) else (some (-1)))) else (some (-1))))
def spec_GradeBetween.en (r : Int) : Res := (.int .i64 r, [])
def spec_GradeBetween.dec : List AV → List R.Obj → Option (Int × (List Int) × (List Int) × (List Stp) × Int × (List Int))
  | [.agg [.int .i64 a0_0, .imm (.I .i64 l0_1), .imm (.I .i64 l0_2), .imm (.T l0_3)], .agg [.int .i64 a1_0, .imm (.I .i64 l1_1)]], [] => some (a0_0, l0_1, l0_2, l0_3, a1_0, l1_1)
  | _, _ => none
def spec_GradeBetween.tw : Tw := ⟨19, Int × (List Int) × (List Int) × (List Stp) × Int × (List Int), Int, spec_GradeBetween.dec, fun a => [.agg [.int .i64 a.1, .imm (.I .i64 a.2.1), .imm (.I .i64 a.2.2.1), .imm (.T a.2.2.2.1)], .agg [.int .i64 a.2.2.2.2.1, .imm (.I .i64 a.2.2.2.2.2)]], fun a => [], fun k a => spec_GradeBetween.f k a.1 a.2.1 a.2.2.1 a.2.2.2.1 a.2.2.2.2.1 a.2.2.2.2.2, fun a r => spec_GradeBetween.en r, true⟩
theorem spec_GradeBetween.dok : spec_GradeBetween.tw.DecOk := by
  intro args hc a h
  have h : spec_GradeBetween.dec args hc = some a := h
  unfold spec_GradeBetween.dec at h
  split at h
  · cases h; exact ⟨rfl, rfl⟩
  · cases h
noncomputable def spec_GradeBetween.O (k : Nat) : Oracle := (spec_AutomatonValid.tw.orc k (spec_GradesValid.tw.orc k (spec_l6Between.tw.orc k noO)))
def spec_GradeBetween.fh : FH := ⟨fun i => match i with | _ => none, [], false⟩
set_option maxRecDepth 100000 in
theorem spec_GradeBetween.ef (k : Nat) (a0_0 : Int) (l0_1 : List Int) (l0_2 : List Int) (l0_3 : List Stp) (a1_0 : Int) (l1_1 : List Int) : R.start Tryd.prog xhn spec_GradeBetween.O 0 Tryd.f19 spec_GradeBetween.fh k [.agg [.int .i64 a0_0, .imm (.I .i64 l0_1), .imm (.I .i64 l0_2), .imm (.T l0_3)], .agg [.int .i64 a1_0, .imm (.I .i64 l1_1)]] [] = ((spec_AutomatonValid.f k a0_0 l0_1 l0_2 l0_3).bind fun t1 => (if t1 = true then ((spec_GradesValid.f k a1_0 l1_1).bind fun t2 => (if t2 = true then (if a1_0 = a0_0 then ((spec_l6Between.f k a0_0 l0_1 l0_2 l0_3 a1_0 l1_1).bind fun t3 => (some (spec_GradeBetween.en t3))) else (some (spec_GradeBetween.en (-1)))) else (some (spec_GradeBetween.en (-1))))) else (some (spec_GradeBetween.en (-1))))) := by kernel_rfl
theorem spec_GradeBetween.sf (k : Nat) (a0_0 : Int) (l0_1 : List Int) (l0_2 : List Int) (l0_3 : List Stp) (a1_0 : Int) (l1_1 : List Int) : R.start Tryd.prog xhn spec_GradeBetween.O 0 Tryd.f19 spec_GradeBetween.fh k [.agg [.int .i64 a0_0, .imm (.I .i64 l0_1), .imm (.I .i64 l0_2), .imm (.T l0_3)], .agg [.int .i64 a1_0, .imm (.I .i64 l1_1)]] [] = (spec_GradeBetween.f k a0_0 l0_1 l0_2 l0_3 a1_0 l1_1).map (spec_GradeBetween.en) := by
  rw [spec_GradeBetween.ef]
  simp only [spec_GradeBetween.f, R.map_ite, R.map_bind, R.map_none, R.map_some, R.wr64_eq]
theorem spec_GradeBetween.ok (k : Nat) : spec_GradeBetween.tw.Ok Tryd.prog k := by
  intro md hmd a r h
  refine fn_ok (H := xhn) (fh := spec_GradeBetween.fh) (O := spec_GradeBetween.O) (k := k) Tryd.func19 (by kernel_rfl) (by kernel_rfl) (fun j _ => (Tw.orc_sound spec_AutomatonValid.dok (spec_AutomatonValid.ok j) (fun _ => rfl) (Tw.orc_sound spec_GradesValid.dok (spec_GradesValid.ok j) (fun _ => rfl) (Tw.orc_sound spec_l6Between.dok (spec_l6Between.ok j) (fun _ => rfl) noO_sound)))) (by kernel_rfl) (m := 0) rfl ?_
  refine (spec_GradeBetween.sf k a.1 a.2.1 a.2.2.1 a.2.2.2.1 a.2.2.2.2.1 a.2.2.2.2.2).trans ?_
  exact congrArg (Option.map _) h
def laws_FnGradesText.f (k : Nat) (l0 : List Int) (l1 : List Int) : Option (Bool) := (if (l0.length : Int) > 1048576 then (some true) else (if (l1.length : Int) > 1048576 then (some true) else ((spec_DrawFormatGrades.f k l0).bind fun t1 => ((impl_FormatGrades.f k t1.1 t1.2).bind fun t2 => ((impl_ParseGrades.f k t2).bind fun t3 => ((spec_FormatGrades.f k t1.1 t1.2).bind fun t4 => (if t2.toList = t4.toList then ((impl_GradesValid.f k t1.1 t1.2).bind fun t5 => ((spec_GradesValid.f k t1.1 t1.2).bind fun t6 => (if (t5 != t6) = true then (some false) else ((impl_GradesValid.f k t1.1 t1.2).bind fun t7 => (if (t3.2.2 != t7) = true then (some false) else (if t3.2.2 = true then ((laws_daMatrix.f k t3.1 t3.2.1 t1.1 t1.2).bind fun t8 => (if t8 = true then ((spec_DrawParseGrades.f k l1).bind fun t9 => ((impl_ParseGrades.f k t9).bind fun t10 => ((spec_ParseGrades.f k t9).bind fun t11 => ((spec_DrawGradeBetween.f k l1).bind fun t12 => ((laws_daMatrix.f k t10.1 t10.2.1 t11.1 t11.2.1).bind fun t13 => (if t13 = true then (if (t10.2.2 == t11.2.2) = true then (if t10.2.2 = true then ((impl_FormatGrades.f k t10.1 t10.2.1).bind fun t14 => (if t14.toList = t9.toList then ((impl_GradeBetween.f k t12.1 t12.2.1 t12.2.2.1 t12.2.2.2.1 t12.2.2.2.2.1 t12.2.2.2.2.2).bind fun t15 => ((spec_GradeBetween.f k t12.1 t12.2.1 t12.2.2.1 t12.2.2.2.1 t12.2.2.2.2.1 t12.2.2.2.2.2).bind fun t16 => (some (decide (t15 = t16))))) else (some false))) else ((impl_GradeBetween.f k t12.1 t12.2.1 t12.2.2.1 t12.2.2.2.1 t12.2.2.2.2.1 t12.2.2.2.2.2).bind fun t17 => ((spec_GradeBetween.f k t12.1 t12.2.1 t12.2.2.1 t12.2.2.2.1 t12.2.2.2.2.1 t12.2.2.2.2.2).bind fun t18 => (some (decide (t17 = t18)))))) else (some false)) else (some false))))))) else (some false))) else ((spec_DrawParseGrades.f k l1).bind fun t19 => ((impl_ParseGrades.f k t19).bind fun t20 => ((spec_ParseGrades.f k t19).bind fun t21 => ((spec_DrawGradeBetween.f k l1).bind fun t22 => ((laws_daMatrix.f k t20.1 t20.2.1 t21.1 t21.2.1).bind fun t23 => (if t23 = true then (if (t20.2.2 == t21.2.2) = true then (if t20.2.2 = true then ((impl_FormatGrades.f k t20.1 t20.2.1).bind fun t24 => (if t24.toList = t19.toList then ((impl_GradeBetween.f k t22.1 t22.2.1 t22.2.2.1 t22.2.2.2.1 t22.2.2.2.2.1 t22.2.2.2.2.2).bind fun t25 => ((spec_GradeBetween.f k t22.1 t22.2.1 t22.2.2.1 t22.2.2.2.1 t22.2.2.2.2.1 t22.2.2.2.2.2).bind fun t26 => (some (decide (t25 = t26))))) else (some false))) else ((impl_GradeBetween.f k t22.1 t22.2.1 t22.2.2.1 t22.2.2.2.1 t22.2.2.2.2.1 t22.2.2.2.2.2).bind fun t27 => ((spec_GradeBetween.f k t22.1 t22.2.1 t22.2.2.1 t22.2.2.2.1 t22.2.2.2.2.1 t22.2.2.2.2.2).bind fun t28 => (some (decide (t27 = t28)))))) else (some false)) else (some false))))))))))))) else (some false))))))))
def laws_FnGradesText.en (r : Bool) : Res := (.lit r, [])
def laws_FnGradesText.dec : List AV → List R.Obj → Option ((List Int) × (List Int))
  | [.imm (.I .u8 l0), .imm (.I .u8 l1)], [] => some (l0, l1)
  | _, _ => none
def laws_FnGradesText.tw : Tw := ⟨4, (List Int) × (List Int), Bool, laws_FnGradesText.dec, fun a => [.imm (.I .u8 a.1), .imm (.I .u8 a.2)], fun a => [], fun k a => laws_FnGradesText.f k a.1 a.2, fun a r => laws_FnGradesText.en r, false⟩
theorem laws_FnGradesText.dok : laws_FnGradesText.tw.DecOk := by
  intro args hc a h
  have h : laws_FnGradesText.dec args hc = some a := h
  unfold laws_FnGradesText.dec at h
  split at h
  · cases h; exact ⟨rfl, rfl⟩
  · cases h
noncomputable def laws_FnGradesText.O (k : Nat) : Oracle := (spec_DrawFormatGrades.tw.orc k (impl_FormatGrades.tw.orc k (impl_ParseGrades.tw.orc k (spec_FormatGrades.tw.orc k (impl_GradesValid.tw.orc k (spec_GradesValid.tw.orc k (laws_daMatrix.tw.orc k (spec_DrawParseGrades.tw.orc k (spec_ParseGrades.tw.orc k (spec_DrawGradeBetween.tw.orc k (impl_GradeBetween.tw.orc k (spec_GradeBetween.tw.orc k noO))))))))))))
def laws_FnGradesText.fh : FH := ⟨fun i => match i with | _ => none, [], false⟩
set_option maxRecDepth 100000 in
theorem laws_FnGradesText.ef (k : Nat) (l0 : List Int) (l1 : List Int) : R.start Tryd.prog xhn laws_FnGradesText.O 0 Tryd.f4 laws_FnGradesText.fh k [.imm (.I .u8 l0), .imm (.I .u8 l1)] [] = (if (l0.length : Int) > 1048576 then (some (laws_FnGradesText.en true)) else (if (l1.length : Int) > 1048576 then (some (laws_FnGradesText.en true)) else ((spec_DrawFormatGrades.f k l0).bind fun t1 => ((impl_FormatGrades.f k t1.1 t1.2).bind fun t2 => ((impl_ParseGrades.f k t2).bind fun t3 => ((spec_FormatGrades.f k t1.1 t1.2).bind fun t4 => (if t2.toList = t4.toList then ((impl_GradesValid.f k t1.1 t1.2).bind fun t5 => ((spec_GradesValid.f k t1.1 t1.2).bind fun t6 => (if (t5 != t6) = true then (some (laws_FnGradesText.en false)) else ((impl_GradesValid.f k t1.1 t1.2).bind fun t7 => (if (t3.2.2 != t7) = true then (some (laws_FnGradesText.en false)) else (if t3.2.2 = true then ((laws_daMatrix.f k t3.1 t3.2.1 t1.1 t1.2).bind fun t8 => (if t8 = true then ((spec_DrawParseGrades.f k l1).bind fun t9 => ((impl_ParseGrades.f k t9).bind fun t10 => ((spec_ParseGrades.f k t9).bind fun t11 => ((spec_DrawGradeBetween.f k l1).bind fun t12 => ((laws_daMatrix.f k t10.1 t10.2.1 t11.1 t11.2.1).bind fun t13 => (if t13 = true then (if (t10.2.2 == t11.2.2) = true then (if t10.2.2 = true then ((impl_FormatGrades.f k t10.1 t10.2.1).bind fun t14 => (if t14.toList = t9.toList then ((impl_GradeBetween.f k t12.1 t12.2.1 t12.2.2.1 t12.2.2.2.1 t12.2.2.2.2.1 t12.2.2.2.2.2).bind fun t15 => ((spec_GradeBetween.f k t12.1 t12.2.1 t12.2.2.1 t12.2.2.2.1 t12.2.2.2.2.1 t12.2.2.2.2.2).bind fun t16 => (some (laws_FnGradesText.en (decide (t15 = t16)))))) else (some (laws_FnGradesText.en false)))) else ((impl_GradeBetween.f k t12.1 t12.2.1 t12.2.2.1 t12.2.2.2.1 t12.2.2.2.2.1 t12.2.2.2.2.2).bind fun t17 => ((spec_GradeBetween.f k t12.1 t12.2.1 t12.2.2.1 t12.2.2.2.1 t12.2.2.2.2.1 t12.2.2.2.2.2).bind fun t18 => (some (laws_FnGradesText.en (decide (t17 = t18))))))) else (some (laws_FnGradesText.en false))) else (some (laws_FnGradesText.en false)))))))) else (some (laws_FnGradesText.en false)))) else ((spec_DrawParseGrades.f k l1).bind fun t19 => ((impl_ParseGrades.f k t19).bind fun t20 => ((spec_ParseGrades.f k t19).bind fun t21 => ((spec_DrawGradeBetween.f k l1).bind fun t22 => ((laws_daMatrix.f k t20.1 t20.2.1 t21.1 t21.2.1).bind fun t23 => (if t23 = true then (if (t20.2.2 == t21.2.2) = true then (if t20.2.2 = true then ((impl_FormatGrades.f k t20.1 t20.2.1).bind fun t24 => (if t24.toList = t19.toList then ((impl_GradeBetween.f k t22.1 t22.2.1 t22.2.2.1 t22.2.2.2.1 t22.2.2.2.2.1 t22.2.2.2.2.2).bind fun t25 => ((spec_GradeBetween.f k t22.1 t22.2.1 t22.2.2.1 t22.2.2.2.1 t22.2.2.2.2.1 t22.2.2.2.2.2).bind fun t26 => (some (laws_FnGradesText.en (decide (t25 = t26)))))) else (some (laws_FnGradesText.en false)))) else ((impl_GradeBetween.f k t22.1 t22.2.1 t22.2.2.1 t22.2.2.2.1 t22.2.2.2.2.1 t22.2.2.2.2.2).bind fun t27 => ((spec_GradeBetween.f k t22.1 t22.2.1 t22.2.2.1 t22.2.2.2.1 t22.2.2.2.2.1 t22.2.2.2.2.2).bind fun t28 => (some (laws_FnGradesText.en (decide (t27 = t28))))))) else (some (laws_FnGradesText.en false))) else (some (laws_FnGradesText.en false)))))))))))))) else (some (laws_FnGradesText.en false))))))))) := by kernel_rfl
theorem laws_FnGradesText.sf (k : Nat) (l0 : List Int) (l1 : List Int) : R.start Tryd.prog xhn laws_FnGradesText.O 0 Tryd.f4 laws_FnGradesText.fh k [.imm (.I .u8 l0), .imm (.I .u8 l1)] [] = (laws_FnGradesText.f k l0 l1).map (laws_FnGradesText.en) := by
  rw [laws_FnGradesText.ef]
  simp only [laws_FnGradesText.f, R.map_ite, R.map_bind, R.map_none, R.map_some, R.wr64_eq]
theorem laws_FnGradesText.ok (k : Nat) : laws_FnGradesText.tw.Ok Tryd.prog k := by
  intro md hmd a r h
  refine fn_ok (H := xhn) (fh := laws_FnGradesText.fh) (O := laws_FnGradesText.O) (k := k) Tryd.func4 (by kernel_rfl) (by kernel_rfl) (fun j _ => (Tw.orc_sound spec_DrawFormatGrades.dok (spec_DrawFormatGrades.ok j) (fun _ => rfl) (Tw.orc_sound impl_FormatGrades.dok (impl_FormatGrades.ok j) (fun q => Bool.noConfusion (show false = true from hmd q)) (Tw.orc_sound impl_ParseGrades.dok (impl_ParseGrades.ok j) (fun q => Bool.noConfusion (show false = true from hmd q)) (Tw.orc_sound spec_FormatGrades.dok (spec_FormatGrades.ok j) (fun _ => rfl) (Tw.orc_sound impl_GradesValid.dok (impl_GradesValid.ok j) (fun _ => rfl) (Tw.orc_sound spec_GradesValid.dok (spec_GradesValid.ok j) (fun _ => rfl) (Tw.orc_sound laws_daMatrix.dok (laws_daMatrix.ok j) (fun _ => rfl) (Tw.orc_sound spec_DrawParseGrades.dok (spec_DrawParseGrades.ok j) (fun _ => rfl) (Tw.orc_sound spec_ParseGrades.dok (spec_ParseGrades.ok j) (fun _ => rfl) (Tw.orc_sound spec_DrawGradeBetween.dok (spec_DrawGradeBetween.ok j) (fun _ => rfl) (Tw.orc_sound impl_GradeBetween.dok (impl_GradeBetween.ok j) (fun _ => rfl) (Tw.orc_sound spec_GradeBetween.dok (spec_GradeBetween.ok j) (fun _ => rfl) noO_sound))))))))))))) (by kernel_rfl) (m := 0) rfl ?_
  refine (laws_FnGradesText.sf k a.1 a.2).trans ?_
  exact congrArg (Option.map _) h
end Go.Proofs.YtfjfdlgcneclfaaDoor.V
end
