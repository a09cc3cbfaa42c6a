/- Proved: the law FnExactChainAutomaton holds, for every input. No condition. -/
import Derived.Test.YtoeeeafknajkkaaRows
import Derived.Test.YtoeeeafknajkkaaQFnExactChainAutomaton6
import Derived.WalkKit
import Derived.ProofKit
import Derived.OpenShut
import Derived.ShutString
import Derived.ChangeOld
import Derived.Below
import Derived.SizedLaws
namespace Go.Proofs.Ytoeeeafknajkkaa.fnExactChainAutomaton
open Go.ChangeShapes Go.WideShapes Go.ChangeAt Go.RowKit
open Go.ChangeMaps (open_string shut_string)
set_option linter.unusedVariables false
theorem own : ownKnob Try.prog.godebug = none := by kernel_rfl
theorem laidOut : laidOutB Try.prog = true := by kernel_rfl
set_option maxRecDepth 100000 in
theorem lifted (os : Os) (started : os.Started) (H : Type) (enc : TypeId × Value → H) :
    ReturnsInHanded {} Try.checked os 8 .any (Rows.fnExactChainAutomatonSpec.pre6 enc Try.prog Try.f8 Rows.fnExactChainAutomatonRow.domain false) (Rows.fnExactChainAutomatonSpec.post enc Try.prog Try.f8 false true false false) := by
  refine returnsInHanded_of_change_sized (C := Try.checked) own started (by kernel_rfl) Try.func8
    (ChangeSpec.witness6 (enc := enc) (C := Try.checked) false ⟨#[], #[.agg #[.int .i64 0, .slice none 0 0, .slice none 0 0, .slice none 0 0], .agg #[.int .i64 0, .slice none 0 0, .slice none 0 0, .slice none 0 0]], []⟩ 8 (by kernel_rfl) (by kernel_rfl) (by kernel_rfl) (by kernel_rfl)) ?_
  intro W base args ds gs before hval0 hW hcnd hsz0 _
  have hsz : (DataW.weightsEach Try.prog (Try.f8.params.toList ++ Rows.fnExactChainAutomatonSpec.plain.varTypes Try.prog) (ds ++ gs)).all (· ≤ reachBytes) = true := hsz0
  have hval : ∀ (j : Nat) t v, Try.f8.params[j]? = some t → args[j]? = some v → Value.okWide Try.prog W .any base t v := hval0
  have hW' := hW
  obtain ⟨p, q, hA0, hV, rfl, hfz, hnd⟩ := hW
  have hA : DataW.TrodAll enc Try.prog W 0 (fun _ => true) true Try.f8.params.toList args.toList ds p := hA0
  rw [Try.params8] at hA hval hsz
  obtain ⟨v0, vs0, d0, ds0, p0, q0, hargs, rfl, rfl, h0, r0⟩ := trodAll_cons hA
  obtain ⟨v1, vs1, d1, ds1, p1, q1, rfl, rfl, rfl, h1, r1⟩ := trodAll_cons r0
  obtain ⟨rfl, rfl, rfl⟩ := trodAll_nil r1
  obtain rfl : args = #[v0, v1] := by cases args; simp_all
  obtain ⟨rfl, rfl⟩ := trodVars_none hV
  have k0 := h0
  have lt0 : ∀ x ∈ p0, x.block < W.heap.size := by obtain ⟨m, hm⟩ := k0; exact DataW.trod_lt m _ _ _ hm
  obtain ⟨a0_0, A0_1, c0_1, l0_1, A0_2, c0_2, l0_2, A0_3, c0_3, l0_3, rfl, hr0_1, hc0_1, hr0_2, hc0_2, hr0_3, hc0_3, e0_0, e0_1, e0_2, e0_3, e0_4, e0_5, e0_6⟩ := V.row_automaton (hval 0 25 v0 rfl rfl) h0
  have k1 := h1
  have lt1 : ∀ x ∈ p1, x.block < W.heap.size := by obtain ⟨m, hm⟩ := k1; exact DataW.trod_lt m _ _ _ hm
  obtain ⟨a1_0, A1_1, c1_1, l1_1, A1_2, c1_2, l1_2, A1_3, c1_3, l1_3, rfl, hr1_1, hc1_1, hr1_2, hc1_2, hr1_3, hc1_3, e1_0, e1_1, e1_2, e1_3, e1_4, e1_5, e1_6⟩ := V.row_automaton (hval 1 25 v1 rfl rfl) h1
  clear hA0 hval0 hsz0 hsz
  obtain ⟨k, hk⟩ := V.PureFnExactChainAutomaton a0_0 l0_1 l0_2 l0_3 a1_0 l1_1 l1_2 l1_3 e0_0 e0_1 e0_2 e0_3 e0_4 e0_5 e0_6 e1_0 e1_1 e1_2 e1_3 e1_4 e1_5 e1_6
  have spec : R.CallSpec false Try.prog 8 [.agg [.int .i64 a0_0, .imm (.I .i64 l0_1), .imm (.I .i64 l0_2), .imm (.T l0_3)], .agg [.int .i64 a1_0, .imm (.I .i64 l1_1), .imm (.I .i64 l1_2), .imm (.T l1_3)]] [] (.lit true) [] := V.laws_FnExactChainAutomaton.ok k false (fun q => Bool.noConfusion q) (a0_0, l0_1, l0_2, l0_3, a1_0, l1_1, l1_2, l1_3) true hk
  refine (R.law_calls spec rfl (fun i v V' x y => ?_)).mono fun e W' ⟨he, bel0⟩ => ?_
  · match i with
    | 0 => cases x; cases y; exact V.automaton_vr hr0_1 hc0_1 hr0_2 hc0_2 hr0_3 hc0_3
    | 1 => cases x; cases y; exact V.automaton_vr hr1_1 hc1_1 hr1_2 hc1_2 hr1_3 hc1_3
    | i + 2 => simp at x
  have bel := bel0
  subst he
  exact ⟨_, rfl, _, _, _, [], _, [], hW', trodAll_mk1 (shut_bool Try.underlying4 _), (trodAll_cons_mk (Below.trod laidOut (by kernel_rfl) (of_decide_eq_true (by kernel_rfl)) k0 bel lt0) (trodAll_cons_mk (Below.trod laidOut (by kernel_rfl) (of_decide_eq_true (by kernel_rfl)) k1 bel lt1) trodAll_mk0)), rfl, bel.frame _, fun h => by cases h⟩
theorem c1 : Try.pinned.checked.prog.funcNamed Rows.fnExactChainAutomatonRow.func = some 8 := by kernel_rfl
theorem and_mk {a b : Bool} (h : a = true) (k : b = true) : (a && b) = true := by rw [h, k]; rfl
theorem and_l {a b : Bool} (h : (a && b) = true) : a = true := by cases a <;> simp_all
theorem and_r {a b : Bool} (h : (a && b) = true) : b = true := by cases a <;> simp_all
theorem qh : ((Try.pinned.checked.prog.mayEnter) && (((Rows.fnExactChainAutomatonRow.lifted == Try.pinned.checked.prog.liftsFinal)) && ((Try.pinned.checked.prog.make == some Rows.fnExactChainAutomatonRow.make)))) = true := by kernel_rfl
theorem q0 : (Rows.fnExactChainAutomatonRow.wf (OpenSpec.ofChange Rows.fnExactChainAutomatonSpec)) = true := by kernel_rfl
theorem q1 : (laidOutB Try.pinned.checked.prog) = true := by kernel_rfl
theorem q2 : (mapsRowed Try.pinned.checked.prog) = true := by kernel_rfl
theorem q3 : (Try.f8.params.all (Try.pinned.checked.prog.readableRec ·)) = true := by kernel_rfl
theorem q4 : (namedTie Try.pinned.checked.prog Rows.fnExactChainAutomatonRow.named Rows.fnExactChainAutomatonSpec.vars) = true := by kernel_rfl
theorem q5 : ((Rows.fnExactChainAutomatonRow.stops == [])) = true := by kernel_rfl
theorem q6 : ((Try.pinned.checked.prog.stops == [])) = true := by kernel_rfl
theorem q7 : ((Rows.fnExactChainAutomatonRow.knobs == [])) = true := by kernel_rfl
theorem q8 : ((Try.pinned.checked.prog.stopKnobs == [])) = true := by kernel_rfl
theorem q9 : ((Rows.fnExactChainAutomatonRow.inPlace == Try.pinned.checked.prog.inPlace 8)) = true := by kernel_rfl
theorem q10 : ((Rows.fnExactChainAutomatonRow.unfollowed == Try.pinned.checked.prog.unfollowed 8)) = true := by kernel_rfl
theorem q11 : ((Rows.fnExactChainAutomatonRow.recurses == Try.pinned.checked.prog.recurses 8)) = true := by kernel_rfl
theorem q12 : ((Rows.fnExactChainAutomatonRow.named == Try.pinned.checked.prog.varsNamed 8)) = true := by kernel_rfl
theorem q13 : ((Rows.fnExactChainAutomatonRow.maps == (Try.f8.params.toList ++ Rows.fnExactChainAutomatonSpec.plain.varTypes Try.pinned.checked.prog).any (Try.pinned.checked.prog.mapsRec ·))) = true := by kernel_rfl
theorem q14 : ((Rows.fnExactChainAutomatonRow.ifaces == (Try.f8.params.toList ++ Rows.fnExactChainAutomatonSpec.plain.varTypes Try.pinned.checked.prog).any (Try.pinned.checked.prog.ifacesRec ·))) = true := by kernel_rfl
theorem q15 : ((Rows.fnExactChainAutomatonRow.mapsOut == Try.pinned.checked.prog.mapsAmong Try.f8.resultTypes.toList)) = true := by kernel_rfl
theorem q16 : ((Rows.fnExactChainAutomatonRow.loops == (Try.f8.params.toList ++ Rows.fnExactChainAutomatonSpec.plain.varTypes Try.pinned.checked.prog).any (Try.pinned.checked.prog.loopsFrom ·))) = true := by kernel_rfl
theorem q17 : ((Rows.fnExactChainAutomatonRow.wideKeys == (Try.f8.params.toList ++ Rows.fnExactChainAutomatonSpec.plain.varTypes Try.pinned.checked.prog ++ Try.f8.resultTypes.toList).any (Try.pinned.checked.prog.wideKeysFrom ·))) = true := by kernel_rfl
theorem q18 : (Rows.fnExactChainAutomatonSpec.vars.all (Try.pinned.checked.prog.varReadable ·)) = true := by kernel_rfl
theorem q19 : (Try.f8.resultTypes.all (fun t => Try.pinned.checked.prog.readableRec t && decide (t < Try.pinned.checked.prog.types.size))) = true := by kernel_rfl
theorem q20 : ((Rows.fnExactChainAutomatonRow.ifacesOut == Try.f8.resultTypes.toList.any (Try.pinned.checked.prog.ifacesRec ·))) = true := by kernel_rfl
theorem q21 : ((Rows.fnExactChainAutomatonRow.loopsOut == Try.f8.resultTypes.toList.any (Try.pinned.checked.prog.loopsFrom ·))) = true := by kernel_rfl
theorem q22 : ((Rows.fnExactChainAutomatonRow.plainKeys == Try.pinned.checked.prog.plainKeys)) = true := by kernel_rfl
theorem q23 : (Rows.fnExactChainAutomatonRow.shortTexts.isNone) = true := by kernel_rfl
theorem q24 : (Try.pinned.checked.prog.stopsHeard) = true := by kernel_rfl
theorem q25 : (Try.pinned.checked.prog.mayEnter) = true := and_l qh
theorem q26 : ((Rows.fnExactChainAutomatonRow.lifted == Try.pinned.checked.prog.liftsFinal)) = true := and_l (and_r qh)
theorem q27 : ((Try.pinned.checked.prog.make == some Rows.fnExactChainAutomatonRow.make)) = true := and_r (and_r qh)
theorem q28 : ((Rows.fnExactChainAutomatonRow.kinds == (if Rows.fnExactChainAutomatonRow.domain.isEmpty then [] else Try.f8.params.toList.map fun t => match Try.pinned.checked.prog.underlying t with | some (.int k) => some k | _ => none))) = true := by kernel_rfl
theorem q29 : ((Rows.fnExactChainAutomatonRow.pinned == Rows.fnExactChainAutomatonRow.pinnedBy)) = true := by kernel_rfl
theorem q30 : ((Rows.fnExactChainAutomatonRow.veiled == (Try.f8.params.toList ++ Rows.fnExactChainAutomatonSpec.plain.varTypes Try.pinned.checked.prog ++ Try.f8.resultTypes.toList).any (Try.pinned.checked.prog.veiledRec ·))) = true := by kernel_rfl
theorem q31 : (Rows.fnExactChainAutomatonRow.veiledFits Try.pinned.checked.prog Try.f8.params.toList (Try.f8.params.toList ++ Rows.fnExactChainAutomatonSpec.plain.varTypes Try.pinned.checked.prog ++ Try.f8.resultTypes.toList)) = true := by kernel_rfl
set_option maxRecDepth 100000 in
theorem c2 : joinedFacts Try.pinned.checked.prog 8 Try.f8 Rows.fnExactChainAutomatonSpec Rows.fnExactChainAutomatonRow = true := by
  unfold joinedFacts
  exact (and_mk (and_mk (and_mk (and_mk (and_mk (and_mk (and_mk (and_mk (and_mk (and_mk (and_mk (and_mk (and_mk (and_mk (and_mk (and_mk (and_mk (and_mk (and_mk (and_mk (and_mk (and_mk (and_mk (and_mk (and_mk (and_mk (and_mk (and_mk (and_mk (and_mk (and_mk q0 q1) q2) q3) q4) q5) q6) q7) q8) q9) q10) q11) q12) q13) q14) q15) q16) q17) q18) q19) q20) q21) q22) q23) q24) q25) q26) q27) q28) q29) q30) q31)
theorem over : Rows.fnExactChainAutomatonRow.holds Try.pinned (OpenSpec.ofChange Rows.fnExactChainAutomatonSpec) :=
  OpenClaim.holds_of_wide 8 Try.f8 rfl rfl rfl rfl rfl rfl rfl ⟨rfl, rfl, rfl, rfl, rfl⟩ rfl rfl rfl rfl rfl c1 Try.func8 c2
    (of_decide_eq_true (by kernel_rfl)) (by unfold Func.isWrapper; first | (rw [if_pos (by decide +kernel)]; kernel_rfl) | (rw [if_neg (by decide +kernel)]; exact ⟨rfl, rfl⟩))
    (fun os started H enc _ => lifted os started H enc)
theorem proved : Rows.FnExactChainAutomatonSaid := over
#print axioms proved
end Go.Proofs.Ytoeeeafknajkkaa.fnExactChainAutomaton
namespace Go.Proofs.Ytoeeeafknajkkaa
theorem fnExactChainAutomaton_holds : Rows.FnExactChainAutomatonSaid := fnExactChainAutomaton.proved
end Go.Proofs.Ytoeeeafknajkkaa
