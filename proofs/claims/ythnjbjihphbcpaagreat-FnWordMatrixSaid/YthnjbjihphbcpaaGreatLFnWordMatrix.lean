/- Proved: the law FnWordMatrix holds, for every input. No condition. -/
import Derived.Test.YthnjbjihphbcpaaGreatRows
import Derived.Test.YthnjbjihphbcpaaGreatQFnWordMatrix8
import Derived.WalkKit
import Derived.ProofKit
import Derived.OpenShut
import Derived.ShutString
import Derived.ChangeOld
import Derived.Below
import Derived.SizedLaws
namespace Go.Proofs.YthnjbjihphbcpaaGreat.fnWordMatrix
open Go.ChangeShapes Go.WideShapes Go.ChangeAt Go.RowKit
open Go.ChangeMaps (open_string shut_string)
set_option linter.unusedVariables false
theorem own : ownKnob Tryz.prog.godebug = none := by kernel_rfl
theorem laidOut : laidOutB Tryz.prog = true := by kernel_rfl
set_option maxRecDepth 100000 in
theorem lifted (os : Os) (started : os.Started) (H : Type) (enc : TypeId × Value → H) :
    ReturnsInHanded {} Tryz.checked os 3 .any (Rows.fnWordMatrixSpec.pre6 enc Tryz.prog Tryz.f3 Rows.fnWordMatrixRow.domain false) (Rows.fnWordMatrixSpec.post enc Tryz.prog Tryz.f3 false true false false) := by
  refine returnsInHanded_of_change_sized (C := Tryz.checked) own started (by kernel_rfl) Tryz.func3
    (ChangeSpec.witness6 (enc := enc) (C := Tryz.checked) false ⟨#[], #[.slice none 0 0, .slice none 0 0], []⟩ 8 (by kernel_rfl) (by kernel_rfl) (by kernel_rfl) (by kernel_rfl)) ?_
  intro W base args ds gs before hval0 hW hcnd hsz0 _
  have hsz : (DataW.weightsEach Tryz.prog (Tryz.f3.params.toList ++ Rows.fnWordMatrixSpec.plain.varTypes Tryz.prog) (ds ++ gs)).all (· ≤ reachBytes) = true := hsz0
  have hval : ∀ (j : Nat) t v, Tryz.f3.params[j]? = some t → args[j]? = some v → Value.okWide Tryz.prog W .any base t v := hval0
  have hW' := hW
  obtain ⟨p, q, hA0, hV, rfl, hfz, hnd⟩ := hW
  have hA : DataW.TrodAll enc Tryz.prog W 0 (fun _ => true) true Tryz.f3.params.toList args.toList ds p := hA0
  rw [Tryz.params3] at hA hval hsz
  obtain ⟨v0, vs0, d0, ds0, p0, q0, hargs, rfl, rfl, h0, r0⟩ := trodAll_cons hA
  obtain ⟨v1, vs1, d1, ds1, p1, q1, rfl, rfl, rfl, h1, r1⟩ := trodAll_cons r0
  obtain ⟨rfl, rfl, rfl⟩ := trodAll_nil r1
  obtain rfl : args = #[v0, v1] := by cases args; simp_all
  obtain ⟨rfl, rfl⟩ := trodVars_none hV
  have k0 := h0
  have lt0 : ∀ x ∈ p0, x.block < W.heap.size := by obtain ⟨m, hm⟩ := k0; exact DataW.trod_lt m _ _ _ hm
  obtain ⟨A0, c0, l0, rfl, hr0, hc0, e0_0, e0_1⟩ := V.row_bytes (hval 0 22 v0 rfl rfl) h0
  have e0_2 : l0.length * 1 ≤ 140737488351232 := Go.Proofs.YthnjbjihphbcpaaGreatW.PrintWords.sized_ints hsz (j := 0) (t := 22) rfl rfl Tryz.underlying22 Tryz.underlying5 (by kernel_rfl) (by kernel_rfl) k0
  have k1 := h1
  have lt1 : ∀ x ∈ p1, x.block < W.heap.size := by obtain ⟨m, hm⟩ := k1; exact DataW.trod_lt m _ _ _ hm
  obtain ⟨A1, c1, l1, rfl, hr1, hc1, e1_0, e1_1⟩ := V.row_bytes (hval 1 22 v1 rfl rfl) h1
  have e1_2 : l1.length * 1 ≤ 140737488351232 := Go.Proofs.YthnjbjihphbcpaaGreatW.PrintWords.sized_ints hsz (j := 1) (t := 22) rfl rfl Tryz.underlying22 Tryz.underlying5 (by kernel_rfl) (by kernel_rfl) k1
  clear hA0 hval0 hsz0 hsz
  obtain ⟨k, hk⟩ := V.PureFnWordMatrix l0 l1 e0_0 e0_1 e0_2 e1_0 e1_1 e1_2
  have spec : R.CallSpec false Tryz.prog 3 [.imm (.I .u8 l0), .imm (.I .u8 l1)] [] (.lit true) [] := V.laws_FnWordMatrix.ok k false (fun q => Bool.noConfusion q) (l0, l1) true hk
  refine (R.law_calls spec rfl (fun i v V' x y => ?_)).mono fun e W' ⟨he, bel0⟩ => ?_
  · match i with
    | 0 => cases x; cases y; exact R.ints_vr hc0 (V.ints_of_u8 hr0)
    | 1 => cases x; cases y; exact R.ints_vr hc1 (V.ints_of_u8 hr1)
    | i + 2 => simp at x
  have bel := bel0
  subst he
  exact ⟨_, rfl, _, _, _, [], _, [], hW', trodAll_mk1 (shut_bool Tryz.underlying4 _), (trodAll_cons_mk (Below.trod laidOut (by kernel_rfl) (of_decide_eq_true (by kernel_rfl)) k0 bel lt0) (trodAll_cons_mk (Below.trod laidOut (by kernel_rfl) (of_decide_eq_true (by kernel_rfl)) k1 bel lt1) trodAll_mk0)), rfl, bel.frame _, fun h => by cases h⟩
theorem c1 : Tryz.pinned.checked.prog.funcNamed Rows.fnWordMatrixRow.func = some 3 := by kernel_rfl
theorem and_mk {a b : Bool} (h : a = true) (k : b = true) : (a && b) = true := by rw [h, k]; rfl
theorem and_l {a b : Bool} (h : (a && b) = true) : a = true := by cases a <;> simp_all
theorem and_r {a b : Bool} (h : (a && b) = true) : b = true := by cases a <;> simp_all
theorem qh : ((Tryz.pinned.checked.prog.mayEnter) && (((Rows.fnWordMatrixRow.lifted == Tryz.pinned.checked.prog.liftsFinal)) && ((Tryz.pinned.checked.prog.make == some Rows.fnWordMatrixRow.make)))) = true := by kernel_rfl
theorem q0 : (Rows.fnWordMatrixRow.wf (OpenSpec.ofChange Rows.fnWordMatrixSpec)) = true := by kernel_rfl
theorem q1 : (laidOutB Tryz.pinned.checked.prog) = true := by kernel_rfl
theorem q2 : (mapsRowed Tryz.pinned.checked.prog) = true := by kernel_rfl
theorem q3 : (Tryz.f3.params.all (Tryz.pinned.checked.prog.readableRec ·)) = true := by kernel_rfl
theorem q4 : (namedTie Tryz.pinned.checked.prog Rows.fnWordMatrixRow.named Rows.fnWordMatrixSpec.vars) = true := by kernel_rfl
theorem q5 : ((Rows.fnWordMatrixRow.stops == [])) = true := by kernel_rfl
theorem q6 : ((Tryz.pinned.checked.prog.stops == [])) = true := by kernel_rfl
theorem q7 : ((Rows.fnWordMatrixRow.knobs == [])) = true := by kernel_rfl
theorem q8 : ((Tryz.pinned.checked.prog.stopKnobs == [])) = true := by kernel_rfl
theorem q9 : ((Rows.fnWordMatrixRow.inPlace == Tryz.pinned.checked.prog.inPlace 3)) = true := by kernel_rfl
theorem q10 : ((Rows.fnWordMatrixRow.unfollowed == Tryz.pinned.checked.prog.unfollowed 3)) = true := by kernel_rfl
theorem q11 : ((Rows.fnWordMatrixRow.recurses == Tryz.pinned.checked.prog.recurses 3)) = true := by kernel_rfl
theorem q12 : ((Rows.fnWordMatrixRow.named == Tryz.pinned.checked.prog.varsNamed 3)) = true := by kernel_rfl
theorem q13 : ((Rows.fnWordMatrixRow.maps == (Tryz.f3.params.toList ++ Rows.fnWordMatrixSpec.plain.varTypes Tryz.pinned.checked.prog).any (Tryz.pinned.checked.prog.mapsRec ·))) = true := by kernel_rfl
theorem q14 : ((Rows.fnWordMatrixRow.ifaces == (Tryz.f3.params.toList ++ Rows.fnWordMatrixSpec.plain.varTypes Tryz.pinned.checked.prog).any (Tryz.pinned.checked.prog.ifacesRec ·))) = true := by kernel_rfl
theorem q15 : ((Rows.fnWordMatrixRow.mapsOut == Tryz.pinned.checked.prog.mapsAmong Tryz.f3.resultTypes.toList)) = true := by kernel_rfl
theorem q16 : ((Rows.fnWordMatrixRow.loops == (Tryz.f3.params.toList ++ Rows.fnWordMatrixSpec.plain.varTypes Tryz.pinned.checked.prog).any (Tryz.pinned.checked.prog.loopsFrom ·))) = true := by kernel_rfl
theorem q17 : ((Rows.fnWordMatrixRow.wideKeys == (Tryz.f3.params.toList ++ Rows.fnWordMatrixSpec.plain.varTypes Tryz.pinned.checked.prog ++ Tryz.f3.resultTypes.toList).any (Tryz.pinned.checked.prog.wideKeysFrom ·))) = true := by kernel_rfl
theorem q18 : (Rows.fnWordMatrixSpec.vars.all (Tryz.pinned.checked.prog.varReadable ·)) = true := by kernel_rfl
theorem q19 : (Tryz.f3.resultTypes.all (fun t => Tryz.pinned.checked.prog.readableRec t && decide (t < Tryz.pinned.checked.prog.types.size))) = true := by kernel_rfl
theorem q20 : ((Rows.fnWordMatrixRow.ifacesOut == Tryz.f3.resultTypes.toList.any (Tryz.pinned.checked.prog.ifacesRec ·))) = true := by kernel_rfl
theorem q21 : ((Rows.fnWordMatrixRow.loopsOut == Tryz.f3.resultTypes.toList.any (Tryz.pinned.checked.prog.loopsFrom ·))) = true := by kernel_rfl
theorem q22 : ((Rows.fnWordMatrixRow.plainKeys == Tryz.pinned.checked.prog.plainKeys)) = true := by kernel_rfl
theorem q23 : (Rows.fnWordMatrixRow.shortTexts.isNone) = true := by kernel_rfl
theorem q24 : (Tryz.pinned.checked.prog.stopsHeard) = true := by kernel_rfl
theorem q25 : (Tryz.pinned.checked.prog.mayEnter) = true := and_l qh
theorem q26 : ((Rows.fnWordMatrixRow.lifted == Tryz.pinned.checked.prog.liftsFinal)) = true := and_l (and_r qh)
theorem q27 : ((Tryz.pinned.checked.prog.make == some Rows.fnWordMatrixRow.make)) = true := and_r (and_r qh)
theorem q28 : ((Rows.fnWordMatrixRow.kinds == (if Rows.fnWordMatrixRow.domain.isEmpty then [] else Tryz.f3.params.toList.map fun t => match Tryz.pinned.checked.prog.underlying t with | some (.int k) => some k | _ => none))) = true := by kernel_rfl
theorem q29 : ((Rows.fnWordMatrixRow.pinned == Rows.fnWordMatrixRow.pinnedBy)) = true := by kernel_rfl
theorem q30 : ((Rows.fnWordMatrixRow.veiled == (Tryz.f3.params.toList ++ Rows.fnWordMatrixSpec.plain.varTypes Tryz.pinned.checked.prog ++ Tryz.f3.resultTypes.toList).any (Tryz.pinned.checked.prog.veiledRec ·))) = true := by kernel_rfl
theorem q31 : (Rows.fnWordMatrixRow.veiledFits Tryz.pinned.checked.prog Tryz.f3.params.toList (Tryz.f3.params.toList ++ Rows.fnWordMatrixSpec.plain.varTypes Tryz.pinned.checked.prog ++ Tryz.f3.resultTypes.toList)) = true := by kernel_rfl
set_option maxRecDepth 100000 in
theorem c2 : joinedFacts Tryz.pinned.checked.prog 3 Tryz.f3 Rows.fnWordMatrixSpec Rows.fnWordMatrixRow = true := by
  unfold joinedFacts
  exact (and_mk (and_mk (and_mk (and_mk (and_mk (and_mk (and_mk (and_mk (and_mk (and_mk (and_mk (and_mk (and_mk (and_mk (and_mk (and_mk (and_mk (and_mk (and_mk (and_mk (and_mk (and_mk (and_mk (and_mk (and_mk (and_mk (and_mk (and_mk (and_mk (and_mk (and_mk q0 q1) q2) q3) q4) q5) q6) q7) q8) q9) q10) q11) q12) q13) q14) q15) q16) q17) q18) q19) q20) q21) q22) q23) q24) q25) q26) q27) q28) q29) q30) q31)
theorem over : Rows.fnWordMatrixRow.holds Tryz.pinned (OpenSpec.ofChange Rows.fnWordMatrixSpec) :=
  OpenClaim.holds_of_wide 3 Tryz.f3 rfl rfl rfl rfl rfl rfl rfl ⟨rfl, rfl, rfl, rfl, rfl⟩ rfl rfl rfl rfl rfl c1 Tryz.func3 c2
    (of_decide_eq_true (by kernel_rfl)) (by unfold Func.isWrapper; first | (rw [if_pos (by decide +kernel)]; kernel_rfl) | (rw [if_neg (by decide +kernel)]; exact ⟨rfl, rfl⟩))
    (fun os started H enc _ => lifted os started H enc)
theorem proved : Rows.FnWordMatrixSaid := over
#print axioms proved
end Go.Proofs.YthnjbjihphbcpaaGreat.fnWordMatrix
namespace Go.Proofs.YthnjbjihphbcpaaGreat
theorem fnWordMatrix_holds : Rows.FnWordMatrixSaid := fnWordMatrix.proved
end Go.Proofs.YthnjbjihphbcpaaGreat
