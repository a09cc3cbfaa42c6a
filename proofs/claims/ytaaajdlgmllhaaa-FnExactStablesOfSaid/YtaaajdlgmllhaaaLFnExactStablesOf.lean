/- Proved: the law FnExactStablesOf holds, for every input. No condition. -/
import Derived.Test.YtaaajdlgmllhaaaRows
import Derived.Test.YtaaajdlgmllhaaaQFnExactStablesOf7
import Derived.WalkKit
import Derived.ProofKit
import Derived.OpenShut
import Derived.ShutString
import Derived.ChangeOld
import Derived.Below
import Derived.SizedLaws
namespace Go.Proofs.Ytaaajdlgmllhaaa.fnExactStablesOf
open Go.ChangeShapes Go.WideShapes Go.ChangeAt Go.RowKit
open Go.ChangeMaps (open_string shut_string)
set_option linter.unusedVariables false
theorem own : ownKnob Try.prog.godebug = none := by kernel_rfl
theorem laidOut : laidOutB Try.prog = true := by kernel_rfl
set_option maxRecDepth 100000 in
theorem lifted (os : Os) (started : os.Started) (H : Type) (enc : TypeId × Value → H) :
    ReturnsInHanded {} Try.checked os 9 .any (Rows.fnExactStablesOfSpec.pre6 enc Try.prog Try.f9 Rows.fnExactStablesOfRow.domain false) (Rows.fnExactStablesOfSpec.post enc Try.prog Try.f9 false true false false) := by
  refine returnsInHanded_of_change_sized (C := Try.checked) own started (by kernel_rfl) Try.func9
    (ChangeSpec.witness6 (enc := enc) (C := Try.checked) false ⟨#[], #[.agg #[.int .i64 0, .slice none 0 0, .slice none 0 0, .slice none 0 0]], []⟩ 8 (by kernel_rfl) (by kernel_rfl) (by kernel_rfl) (by kernel_rfl)) ?_
  intro W base args ds gs before hval0 hW hcnd hsz0 _
  have hsz : (DataW.weightsEach Try.prog (Try.f9.params.toList ++ Rows.fnExactStablesOfSpec.plain.varTypes Try.prog) (ds ++ gs)).all (· ≤ reachBytes) = true := hsz0
  have hval : ∀ (j : Nat) t v, Try.f9.params[j]? = some t → args[j]? = some v → Value.okWide Try.prog W .any base t v := hval0
  have hW' := hW
  obtain ⟨p, q, hA0, hV, rfl, hfz, hnd⟩ := hW
  have hA : DataW.TrodAll enc Try.prog W 0 (fun _ => true) true Try.f9.params.toList args.toList ds p := hA0
  rw [Try.params9] at hA hval hsz
  obtain ⟨v0, vs0, d0, ds0, p0, q0, hargs, rfl, rfl, h0, r0⟩ := trodAll_cons hA
  obtain ⟨rfl, rfl, rfl⟩ := trodAll_nil r0
  obtain rfl : args = #[v0] := by cases args; simp_all
  obtain ⟨rfl, rfl⟩ := trodVars_none hV
  have k0 := h0
  have lt0 : ∀ x ∈ p0, x.block < W.heap.size := by obtain ⟨m, hm⟩ := k0; exact DataW.trod_lt m _ _ _ hm
  obtain ⟨a0_0, A0_1, c0_1, l0_1, A0_2, c0_2, l0_2, A0_3, c0_3, l0_3, rfl, hr0_1, hc0_1, hr0_2, hc0_2, hr0_3, hc0_3, e0_0, e0_1, e0_2, e0_3, e0_4, e0_5, e0_6⟩ := V.row_automaton (hval 0 25 v0 rfl rfl) h0
  clear hA0 hval0 hsz0 hsz
  obtain ⟨k, hk⟩ := V.PureFnExactStablesOf a0_0 l0_1 l0_2 l0_3 e0_0 e0_1 e0_2 e0_3 e0_4 e0_5 e0_6
  have spec : R.CallSpec Try.prog 9 [.agg [.int .i64 a0_0, .imm (.I .i64 l0_1), .imm (.I .i64 l0_2), .imm (.T l0_3)]] [] (.lit true) [] := V.laws_FnExactStablesOf.ok k (a0_0, l0_1, l0_2, l0_3) true hk
  refine (R.law_calls spec rfl (fun i v V' x y => ?_)).mono fun e W' ⟨he, bel0⟩ => ?_
  · match i with
    | 0 => cases x; cases y; exact V.automaton_vr hr0_1 hc0_1 hr0_2 hc0_2 hr0_3 hc0_3
    | i + 1 => simp at x
  have bel := bel0
  subst he
  exact ⟨_, rfl, _, _, _, [], _, [], hW', trodAll_mk1 (shut_bool Try.underlying4 _), (trodAll_cons_mk (Below.trod laidOut (by kernel_rfl) (of_decide_eq_true (by kernel_rfl)) k0 bel lt0) trodAll_mk0), rfl, bel.frame _, fun h => by cases h⟩
theorem c1 : Try.pinned.checked.prog.funcNamed Rows.fnExactStablesOfRow.func = some 9 := by kernel_rfl
theorem c2 : joinedFacts Try.pinned.checked.prog 9 Try.f9 Rows.fnExactStablesOfSpec Rows.fnExactStablesOfRow = true := by kernel_rfl
theorem over : Rows.fnExactStablesOfRow.holds Try.pinned (OpenSpec.ofChange Rows.fnExactStablesOfSpec) :=
  OpenClaim.holds_of_wide 9 Try.f9 rfl rfl rfl rfl rfl rfl rfl ⟨rfl, rfl, rfl, rfl, rfl⟩ rfl rfl rfl rfl rfl c1 Try.func9 c2
    (of_decide_eq_true (by kernel_rfl)) (by unfold Func.isWrapper; first | (rw [if_pos (by decide +kernel)]; kernel_rfl) | (rw [if_neg (by decide +kernel)]; exact ⟨rfl, rfl⟩))
    (fun os started H enc _ => lifted os started H enc)
theorem proved : Rows.FnExactStablesOfSaid := over
#print axioms proved
end Go.Proofs.Ytaaajdlgmllhaaa.fnExactStablesOf
namespace Go.Proofs.Ytaaajdlgmllhaaa
theorem fnExactStablesOf_holds : Rows.FnExactStablesOfSaid := fnExactStablesOf.proved
end Go.Proofs.Ytaaajdlgmllhaaa
