/- Proved: the law FnShortWords holds, for every input. No condition. -/
import Derived.Test.YthnjbjihphbcpaaRows
import Derived.Test.YthnjbjihphbcpaaQFnShortWords6
import Derived.WalkKit
import Derived.ProofKit
import Derived.OpenShut
import Derived.ShutString
import Derived.ChangeOld
import Derived.Below
import Derived.SizedLaws
namespace Go.Proofs.Ythnjbjihphbcpaa.fnShortWords
open Go.ChangeShapes Go.WideShapes Go.ChangeAt Go.RowKit
open Go.ChangeMaps (open_string shut_string)
set_option linter.unusedVariables false
theorem own : ownKnob Try.prog.godebug = none := by kernel_rfl
theorem laidOut : laidOutB Try.prog = true := by kernel_rfl
set_option maxRecDepth 100000 in
theorem lifted (os : Os) (started : os.Started) (H : Type) (enc : TypeId × Value → H) :
    ReturnsInHanded {} Try.checked os 3 .any (Rows.fnShortWordsSpec.pre6 enc Try.prog Try.f3 Rows.fnShortWordsRow.domain false) (Rows.fnShortWordsSpec.post enc Try.prog Try.f3 false true false false) := by
  refine returnsInHanded_of_change_sized (C := Try.checked) own started (by kernel_rfl) Try.func3
    (ChangeSpec.witness6 (enc := enc) (C := Try.checked) false ⟨#[], #[.slice none 0 0], []⟩ 8 (by kernel_rfl) (by kernel_rfl) (by kernel_rfl) (by kernel_rfl)) ?_
  intro W base args ds gs before hval0 hW hcnd hsz0 _
  have hsz : (DataW.weightsEach Try.prog (Try.f3.params.toList ++ Rows.fnShortWordsSpec.plain.varTypes Try.prog) (ds ++ gs)).all (· ≤ reachBytes) = true := hsz0
  have hval : ∀ (j : Nat) t v, Try.f3.params[j]? = some t → args[j]? = some v → Value.okWide Try.prog W .any base t v := hval0
  have hW' := hW
  obtain ⟨p, q, hA0, hV, rfl, hfz, hnd⟩ := hW
  have hA : DataW.TrodAll enc Try.prog W 0 (fun _ => true) true Try.f3.params.toList args.toList ds p := hA0
  rw [Try.params3] at hA hval hsz
  obtain ⟨v0, vs0, d0, ds0, p0, q0, hargs, rfl, rfl, h0, r0⟩ := trodAll_cons hA
  obtain ⟨rfl, rfl, rfl⟩ := trodAll_nil r0
  obtain rfl : args = #[v0] := by cases args; simp_all
  obtain ⟨rfl, rfl⟩ := trodVars_none hV
  have k0 := h0
  have lt0 : ∀ x ∈ p0, x.block < W.heap.size := by obtain ⟨m, hm⟩ := k0; exact DataW.trod_lt m _ _ _ hm
  obtain ⟨A0, c0, l0, rfl, hr0, hc0, e0_0, e0_1⟩ := V.row_bytes (hval 0 22 v0 rfl rfl) h0
  have e0_2 : l0.length * 1 ≤ 140737488351232 := Go.Proofs.YthnjbjihphbcpaaW.PrintWords.sized_ints hsz (j := 0) (t := 22) rfl rfl Try.underlying22 Try.underlying5 (by kernel_rfl) (by kernel_rfl) k0
  clear hA0 hval0 hsz0 hsz
  obtain ⟨k, hk⟩ := V.PureFnShortWords l0 e0_0 e0_1 e0_2
  have spec : R.CallSpec false Try.prog 3 [.imm (.I .u8 l0)] [] (.lit true) [] := V.laws_FnShortWords.ok k false (fun q => Bool.noConfusion q) l0 true hk
  refine (R.law_calls spec rfl (fun i v V' x y => ?_)).mono fun e W' ⟨he, bel0⟩ => ?_
  · match i with
    | 0 => cases x; cases y; exact R.ints_vr hc0 (V.ints_of_u8 hr0)
    | i + 1 => simp at x
  have bel := bel0
  subst he
  exact ⟨_, rfl, _, _, _, [], _, [], hW', trodAll_mk1 (shut_bool Try.underlying4 _), (trodAll_cons_mk (Below.trod laidOut (by kernel_rfl) (of_decide_eq_true (by kernel_rfl)) k0 bel lt0) trodAll_mk0), rfl, bel.frame _, fun h => by cases h⟩
theorem c1 : Try.pinned.checked.prog.funcNamed Rows.fnShortWordsRow.func = some 3 := by kernel_rfl
theorem and_mk {a b : Bool} (h : a = true) (k : b = true) : (a && b) = true := by rw [h, k]; rfl
theorem and_l {a b : Bool} (h : (a && b) = true) : a = true := by cases a <;> simp_all
theorem and_r {a b : Bool} (h : (a && b) = true) : b = true := by cases a <;> simp_all
theorem qh : ((Try.pinned.checked.prog.mayEnter) && (((Rows.fnShortWordsRow.lifted == Try.pinned.checked.prog.liftsFinal)) && ((Try.pinned.checked.prog.make == some Rows.fnShortWordsRow.make)))) = true := by kernel_rfl
theorem q0 : (Rows.fnShortWordsRow.wf (OpenSpec.ofChange Rows.fnShortWordsSpec)) = true := by kernel_rfl
theorem q1 : (laidOutB Try.pinned.checked.prog) = true := by kernel_rfl
theorem q2 : (mapsRowed Try.pinned.checked.prog) = true := by kernel_rfl
theorem q3 : (Try.f3.params.all (Try.pinned.checked.prog.readableRec ·)) = true := by kernel_rfl
theorem q4 : (namedTie Try.pinned.checked.prog Rows.fnShortWordsRow.named Rows.fnShortWordsSpec.vars) = true := by kernel_rfl
theorem q5 : ((Rows.fnShortWordsRow.stops == [])) = true := by kernel_rfl
theorem q6 : ((Try.pinned.checked.prog.stops == [])) = true := by kernel_rfl
theorem q7 : ((Rows.fnShortWordsRow.knobs == [])) = true := by kernel_rfl
theorem q8 : ((Try.pinned.checked.prog.stopKnobs == [])) = true := by kernel_rfl
theorem q9 : ((Rows.fnShortWordsRow.inPlace == Try.pinned.checked.prog.inPlace 3)) = true := by kernel_rfl
theorem q10 : ((Rows.fnShortWordsRow.unfollowed == Try.pinned.checked.prog.unfollowed 3)) = true := by kernel_rfl
theorem q11 : ((Rows.fnShortWordsRow.recurses == Try.pinned.checked.prog.recurses 3)) = true := by kernel_rfl
theorem q12 : ((Rows.fnShortWordsRow.named == Try.pinned.checked.prog.varsNamed 3)) = true := by kernel_rfl
theorem q13 : ((Rows.fnShortWordsRow.maps == (Try.f3.params.toList ++ Rows.fnShortWordsSpec.plain.varTypes Try.pinned.checked.prog).any (Try.pinned.checked.prog.mapsRec ·))) = true := by kernel_rfl
theorem q14 : ((Rows.fnShortWordsRow.ifaces == (Try.f3.params.toList ++ Rows.fnShortWordsSpec.plain.varTypes Try.pinned.checked.prog).any (Try.pinned.checked.prog.ifacesRec ·))) = true := by kernel_rfl
theorem q15 : ((Rows.fnShortWordsRow.mapsOut == Try.pinned.checked.prog.mapsAmong Try.f3.resultTypes.toList)) = true := by kernel_rfl
theorem q16 : ((Rows.fnShortWordsRow.loops == (Try.f3.params.toList ++ Rows.fnShortWordsSpec.plain.varTypes Try.pinned.checked.prog).any (Try.pinned.checked.prog.loopsFrom ·))) = true := by kernel_rfl
theorem q17 : ((Rows.fnShortWordsRow.wideKeys == (Try.f3.params.toList ++ Rows.fnShortWordsSpec.plain.varTypes Try.pinned.checked.prog ++ Try.f3.resultTypes.toList).any (Try.pinned.checked.prog.wideKeysFrom ·))) = true := by kernel_rfl
theorem q18 : (Rows.fnShortWordsSpec.vars.all (Try.pinned.checked.prog.varReadable ·)) = true := by kernel_rfl
theorem q19 : (Try.f3.resultTypes.all (fun t => Try.pinned.checked.prog.readableRec t && decide (t < Try.pinned.checked.prog.types.size))) = true := by kernel_rfl
theorem q20 : ((Rows.fnShortWordsRow.ifacesOut == Try.f3.resultTypes.toList.any (Try.pinned.checked.prog.ifacesRec ·))) = true := by kernel_rfl
theorem q21 : ((Rows.fnShortWordsRow.loopsOut == Try.f3.resultTypes.toList.any (Try.pinned.checked.prog.loopsFrom ·))) = true := by kernel_rfl
theorem q22 : ((Rows.fnShortWordsRow.plainKeys == Try.pinned.checked.prog.plainKeys)) = true := by kernel_rfl
theorem q23 : (Rows.fnShortWordsRow.shortTexts.isNone) = true := by kernel_rfl
theorem q24 : (Try.pinned.checked.prog.stopsHeard) = true := by kernel_rfl
theorem q25 : (Try.pinned.checked.prog.mayEnter) = true := and_l qh
theorem q26 : ((Rows.fnShortWordsRow.lifted == Try.pinned.checked.prog.liftsFinal)) = true := and_l (and_r qh)
theorem q27 : ((Try.pinned.checked.prog.make == some Rows.fnShortWordsRow.make)) = true := and_r (and_r qh)
theorem q28 : ((Rows.fnShortWordsRow.kinds == (if Rows.fnShortWordsRow.domain.isEmpty then [] else Try.f3.params.toList.map fun t => match Try.pinned.checked.prog.underlying t with | some (.int k) => some k | _ => none))) = true := by kernel_rfl
theorem q29 : ((Rows.fnShortWordsRow.pinned == Rows.fnShortWordsRow.pinnedBy)) = true := by kernel_rfl
theorem q30 : ((Rows.fnShortWordsRow.veiled == (Try.f3.params.toList ++ Rows.fnShortWordsSpec.plain.varTypes Try.pinned.checked.prog ++ Try.f3.resultTypes.toList).any (Try.pinned.checked.prog.veiledRec ·))) = true := by kernel_rfl
theorem q31 : (Rows.fnShortWordsRow.veiledFits Try.pinned.checked.prog Try.f3.params.toList (Try.f3.params.toList ++ Rows.fnShortWordsSpec.plain.varTypes Try.pinned.checked.prog ++ Try.f3.resultTypes.toList)) = true := by kernel_rfl
set_option maxRecDepth 100000 in
theorem c2 : joinedFacts Try.pinned.checked.prog 3 Try.f3 Rows.fnShortWordsSpec Rows.fnShortWordsRow = true := by
  unfold joinedFacts
  exact (and_mk (and_mk (and_mk (and_mk (and_mk (and_mk (and_mk (and_mk (and_mk (and_mk (and_mk (and_mk (and_mk (and_mk (and_mk (and_mk (and_mk (and_mk (and_mk (and_mk (and_mk (and_mk (and_mk (and_mk (and_mk (and_mk (and_mk (and_mk (and_mk (and_mk (and_mk q0 q1) q2) q3) q4) q5) q6) q7) q8) q9) q10) q11) q12) q13) q14) q15) q16) q17) q18) q19) q20) q21) q22) q23) q24) q25) q26) q27) q28) q29) q30) q31)
theorem over : Rows.fnShortWordsRow.holds Try.pinned (OpenSpec.ofChange Rows.fnShortWordsSpec) :=
  OpenClaim.holds_of_wide 3 Try.f3 rfl rfl rfl rfl rfl rfl rfl ⟨rfl, rfl, rfl, rfl, rfl⟩ rfl rfl rfl rfl rfl c1 Try.func3 c2
    (of_decide_eq_true (by kernel_rfl)) (by unfold Func.isWrapper; first | (rw [if_pos (by decide +kernel)]; kernel_rfl) | (rw [if_neg (by decide +kernel)]; exact ⟨rfl, rfl⟩))
    (fun os started H enc _ => lifted os started H enc)
theorem proved : Rows.FnShortWordsSaid := over
#print axioms proved
end Go.Proofs.Ythnjbjihphbcpaa.fnShortWords
namespace Go.Proofs.Ythnjbjihphbcpaa
theorem fnShortWords_holds : Rows.FnShortWordsSaid := fnShortWords.proved
end Go.Proofs.Ythnjbjihphbcpaa
