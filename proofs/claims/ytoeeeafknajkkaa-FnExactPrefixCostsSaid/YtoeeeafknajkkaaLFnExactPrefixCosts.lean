/- Proved: the law FnExactPrefixCosts holds, for every input. No condition. -/
import Derived.Test.YtoeeeafknajkkaaRows
import Derived.Test.YtoeeeafknajkkaaQFnExactPrefixCosts6
import Derived.WalkKit
import Derived.ProofKit
import Derived.OpenShut
import Derived.ShutString
import Derived.ChangeOld
import Derived.Below
import Derived.SizedLaws
namespace Go.Proofs.Ytoeeeafknajkkaa.fnExactPrefixCosts
open Go.ChangeShapes Go.WideShapes Go.ChangeAt Go.RowKit
open Go.ChangeMaps (open_string shut_string)
set_option linter.unusedVariables false
theorem own : ownKnob Try.prog.godebug = none := by kernel_rfl
theorem laidOut : laidOutB Try.prog = true := by kernel_rfl
set_option maxRecDepth 100000 in
theorem lifted (os : Os) (started : os.Started) (H : Type) (enc : TypeId × Value → H) :
    ReturnsInHanded {} Try.checked os 9 .any (Rows.fnExactPrefixCostsSpec.pre6 enc Try.prog Try.f9 Rows.fnExactPrefixCostsRow.domain false) (Rows.fnExactPrefixCostsSpec.post enc Try.prog Try.f9 false true false false) := by
  refine returnsInHanded_of_change_sized (C := Try.checked) own started (by kernel_rfl) Try.func9
    (ChangeSpec.witness6 (enc := enc) (C := Try.checked) false ⟨#[], #[.agg #[.int .i64 0, .slice none 0 0, .slice none 0 0, .slice none 0 0], .string ByteArray.empty], []⟩ 8 (by kernel_rfl) (by kernel_rfl) (by kernel_rfl) (by kernel_rfl)) ?_
  intro W base args ds gs before hval0 hW hcnd hsz0 _
  have hsz : (DataW.weightsEach Try.prog (Try.f9.params.toList ++ Rows.fnExactPrefixCostsSpec.plain.varTypes Try.prog) (ds ++ gs)).all (· ≤ reachBytes) = true := hsz0
  have hval : ∀ (j : Nat) t v, Try.f9.params[j]? = some t → args[j]? = some v → Value.okWide Try.prog W .any base t v := hval0
  have hW' := hW
  obtain ⟨p, q, hA0, hV, rfl, hfz, hnd⟩ := hW
  have hA : DataW.TrodAll enc Try.prog W 0 (fun _ => true) true Try.f9.params.toList args.toList ds p := hA0
  rw [Try.params9] at hA hval hsz
  obtain ⟨v0, vs0, d0, ds0, p0, q0, hargs, rfl, rfl, h0, r0⟩ := trodAll_cons hA
  obtain ⟨v1, vs1, d1, ds1, p1, q1, rfl, rfl, rfl, h1, r1⟩ := trodAll_cons r0
  obtain ⟨rfl, rfl, rfl⟩ := trodAll_nil r1
  obtain rfl : args = #[v0, v1] := by cases args; simp_all
  obtain ⟨rfl, rfl⟩ := trodVars_none hV
  have k0 := h0
  have lt0 : ∀ x ∈ p0, x.block < W.heap.size := by obtain ⟨m, hm⟩ := k0; exact DataW.trod_lt m _ _ _ hm
  obtain ⟨a0_0, A0_1, c0_1, l0_1, A0_2, c0_2, l0_2, A0_3, c0_3, l0_3, rfl, hr0_1, hc0_1, hr0_2, hc0_2, hr0_3, hc0_3, e0_0, e0_1, e0_2, e0_3, e0_4, e0_5, e0_6⟩ := V.row_automaton (hval 0 25 v0 rfl rfl) h0
  obtain ⟨a1, rfl, rfl, rfl, y1⟩ := open_string Try.underlying9 (hval 1 9 v1 rfl rfl) h1
  have e1_0 : a1.size ≤ 140737488351232 := by
    have z := sized_string hsz (j := 1) (t := 9) rfl rfl
    rw [Array.length_toList] at z
    exact z
  clear hA0 hval0 hsz0 hsz
  obtain ⟨k, hk⟩ := V.PureFnExactPrefixCosts a0_0 l0_1 l0_2 l0_3 a1 e0_0 e0_1 e0_2 e0_3 e0_4 e0_5 e0_6 e1_0
  have spec : R.CallSpec false Try.prog 9 [.agg [.int .i64 a0_0, .imm (.I .i64 l0_1), .imm (.I .i64 l0_2), .imm (.T l0_3)], .str a1] [] (.lit true) [] := V.laws_FnExactPrefixCosts.ok k false (fun q => Bool.noConfusion q) (a0_0, l0_1, l0_2, l0_3, a1) true hk
  refine (R.law_calls spec rfl (fun i v V' x y => ?_)).mono fun e W' ⟨he, bel0⟩ => ?_
  · match i with
    | 0 => cases x; cases y; exact V.automaton_vr hr0_1 hc0_1 hr0_2 hc0_2 hr0_3 hc0_3
    | 1 => cases x; cases y; exact .closed (.str _)
    | i + 2 => simp at x
  have bel := bel0
  subst he
  exact ⟨_, rfl, _, _, _, [], _, [], hW', trodAll_mk1 (shut_bool Try.underlying4 _), (trodAll_cons_mk (Below.trod laidOut (by kernel_rfl) (of_decide_eq_true (by kernel_rfl)) k0 bel lt0) (trodAll_cons_mk (shut_string Try.underlying9 y1) trodAll_mk0)), rfl, bel.frame _, fun h => by cases h⟩
theorem c1 : Try.pinned.checked.prog.funcNamed Rows.fnExactPrefixCostsRow.func = some 9 := by kernel_rfl
theorem and_mk {a b : Bool} (h : a = true) (k : b = true) : (a && b) = true := by rw [h, k]; rfl
theorem and_l {a b : Bool} (h : (a && b) = true) : a = true := by cases a <;> simp_all
theorem and_r {a b : Bool} (h : (a && b) = true) : b = true := by cases a <;> simp_all
theorem qh : ((Try.pinned.checked.prog.mayEnter) && (((Rows.fnExactPrefixCostsRow.lifted == Try.pinned.checked.prog.liftsFinal)) && ((Try.pinned.checked.prog.make == some Rows.fnExactPrefixCostsRow.make)))) = true := by kernel_rfl
theorem q0 : (Rows.fnExactPrefixCostsRow.wf (OpenSpec.ofChange Rows.fnExactPrefixCostsSpec)) = true := by kernel_rfl
theorem q1 : (laidOutB Try.pinned.checked.prog) = true := by kernel_rfl
theorem q2 : (mapsRowed Try.pinned.checked.prog) = true := by kernel_rfl
theorem q3 : (Try.f9.params.all (Try.pinned.checked.prog.readableRec ·)) = true := by kernel_rfl
theorem q4 : (namedTie Try.pinned.checked.prog Rows.fnExactPrefixCostsRow.named Rows.fnExactPrefixCostsSpec.vars) = true := by kernel_rfl
theorem q5 : ((Rows.fnExactPrefixCostsRow.stops == [])) = true := by kernel_rfl
theorem q6 : ((Try.pinned.checked.prog.stops == [])) = true := by kernel_rfl
theorem q7 : ((Rows.fnExactPrefixCostsRow.knobs == [])) = true := by kernel_rfl
theorem q8 : ((Try.pinned.checked.prog.stopKnobs == [])) = true := by kernel_rfl
theorem q9 : ((Rows.fnExactPrefixCostsRow.inPlace == Try.pinned.checked.prog.inPlace 9)) = true := by kernel_rfl
theorem q10 : ((Rows.fnExactPrefixCostsRow.unfollowed == Try.pinned.checked.prog.unfollowed 9)) = true := by kernel_rfl
theorem q11 : ((Rows.fnExactPrefixCostsRow.recurses == Try.pinned.checked.prog.recurses 9)) = true := by kernel_rfl
theorem q12 : ((Rows.fnExactPrefixCostsRow.named == Try.pinned.checked.prog.varsNamed 9)) = true := by kernel_rfl
theorem q13 : ((Rows.fnExactPrefixCostsRow.maps == (Try.f9.params.toList ++ Rows.fnExactPrefixCostsSpec.plain.varTypes Try.pinned.checked.prog).any (Try.pinned.checked.prog.mapsRec ·))) = true := by kernel_rfl
theorem q14 : ((Rows.fnExactPrefixCostsRow.ifaces == (Try.f9.params.toList ++ Rows.fnExactPrefixCostsSpec.plain.varTypes Try.pinned.checked.prog).any (Try.pinned.checked.prog.ifacesRec ·))) = true := by kernel_rfl
theorem q15 : ((Rows.fnExactPrefixCostsRow.mapsOut == Try.pinned.checked.prog.mapsAmong Try.f9.resultTypes.toList)) = true := by kernel_rfl
theorem q16 : ((Rows.fnExactPrefixCostsRow.loops == (Try.f9.params.toList ++ Rows.fnExactPrefixCostsSpec.plain.varTypes Try.pinned.checked.prog).any (Try.pinned.checked.prog.loopsFrom ·))) = true := by kernel_rfl
theorem q17 : ((Rows.fnExactPrefixCostsRow.wideKeys == (Try.f9.params.toList ++ Rows.fnExactPrefixCostsSpec.plain.varTypes Try.pinned.checked.prog ++ Try.f9.resultTypes.toList).any (Try.pinned.checked.prog.wideKeysFrom ·))) = true := by kernel_rfl
theorem q18 : (Rows.fnExactPrefixCostsSpec.vars.all (Try.pinned.checked.prog.varReadable ·)) = true := by kernel_rfl
theorem q19 : (Try.f9.resultTypes.all (fun t => Try.pinned.checked.prog.readableRec t && decide (t < Try.pinned.checked.prog.types.size))) = true := by kernel_rfl
theorem q20 : ((Rows.fnExactPrefixCostsRow.ifacesOut == Try.f9.resultTypes.toList.any (Try.pinned.checked.prog.ifacesRec ·))) = true := by kernel_rfl
theorem q21 : ((Rows.fnExactPrefixCostsRow.loopsOut == Try.f9.resultTypes.toList.any (Try.pinned.checked.prog.loopsFrom ·))) = true := by kernel_rfl
theorem q22 : ((Rows.fnExactPrefixCostsRow.plainKeys == Try.pinned.checked.prog.plainKeys)) = true := by kernel_rfl
theorem q23 : (Rows.fnExactPrefixCostsRow.shortTexts.isNone) = true := by kernel_rfl
theorem q24 : (Try.pinned.checked.prog.stopsHeard) = true := by kernel_rfl
theorem q25 : (Try.pinned.checked.prog.mayEnter) = true := and_l qh
theorem q26 : ((Rows.fnExactPrefixCostsRow.lifted == Try.pinned.checked.prog.liftsFinal)) = true := and_l (and_r qh)
theorem q27 : ((Try.pinned.checked.prog.make == some Rows.fnExactPrefixCostsRow.make)) = true := and_r (and_r qh)
theorem q28 : ((Rows.fnExactPrefixCostsRow.kinds == (if Rows.fnExactPrefixCostsRow.domain.isEmpty then [] else Try.f9.params.toList.map fun t => match Try.pinned.checked.prog.underlying t with | some (.int k) => some k | _ => none))) = true := by kernel_rfl
theorem q29 : ((Rows.fnExactPrefixCostsRow.pinned == Rows.fnExactPrefixCostsRow.pinnedBy)) = true := by kernel_rfl
theorem q30 : ((Rows.fnExactPrefixCostsRow.veiled == (Try.f9.params.toList ++ Rows.fnExactPrefixCostsSpec.plain.varTypes Try.pinned.checked.prog ++ Try.f9.resultTypes.toList).any (Try.pinned.checked.prog.veiledRec ·))) = true := by kernel_rfl
theorem q31 : (Rows.fnExactPrefixCostsRow.veiledFits Try.pinned.checked.prog Try.f9.params.toList (Try.f9.params.toList ++ Rows.fnExactPrefixCostsSpec.plain.varTypes Try.pinned.checked.prog ++ Try.f9.resultTypes.toList)) = true := by kernel_rfl
set_option maxRecDepth 100000 in
theorem c2 : joinedFacts Try.pinned.checked.prog 9 Try.f9 Rows.fnExactPrefixCostsSpec Rows.fnExactPrefixCostsRow = true := by
  unfold joinedFacts
  exact (and_mk (and_mk (and_mk (and_mk (and_mk (and_mk (and_mk (and_mk (and_mk (and_mk (and_mk (and_mk (and_mk (and_mk (and_mk (and_mk (and_mk (and_mk (and_mk (and_mk (and_mk (and_mk (and_mk (and_mk (and_mk (and_mk (and_mk (and_mk (and_mk (and_mk (and_mk q0 q1) q2) q3) q4) q5) q6) q7) q8) q9) q10) q11) q12) q13) q14) q15) q16) q17) q18) q19) q20) q21) q22) q23) q24) q25) q26) q27) q28) q29) q30) q31)
theorem over : Rows.fnExactPrefixCostsRow.holds Try.pinned (OpenSpec.ofChange Rows.fnExactPrefixCostsSpec) :=
  OpenClaim.holds_of_wide 9 Try.f9 rfl rfl rfl rfl rfl rfl rfl ⟨rfl, rfl, rfl, rfl, rfl⟩ rfl rfl rfl rfl rfl c1 Try.func9 c2
    (of_decide_eq_true (by kernel_rfl)) (by unfold Func.isWrapper; first | (rw [if_pos (by decide +kernel)]; kernel_rfl) | (rw [if_neg (by decide +kernel)]; exact ⟨rfl, rfl⟩))
    (fun os started H enc _ => lifted os started H enc)
theorem proved : Rows.FnExactPrefixCostsSaid := over
#print axioms proved
end Go.Proofs.Ytoeeeafknajkkaa.fnExactPrefixCosts
namespace Go.Proofs.Ytoeeeafknajkkaa
theorem fnExactPrefixCosts_holds : Rows.FnExactPrefixCostsSaid := fnExactPrefixCosts.proved
end Go.Proofs.Ytoeeeafknajkkaa
