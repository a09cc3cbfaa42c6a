import Derived.Test.YtoahkfeegobeoaaProg
import Derived.Below
import Derived.Deep.Draws
import Derived.Deep.AppendLies
import Derived.Maps.AppendAt
import Derived.OwnWalk
import Derived.Laws.BytesArg
import Derived.Laws.MakeOwn
import Derived.Laws.OwnMore
import Derived.Deep.OwnRows
import Derived.Tactics
import Derived.Lib.ConvBytes
import Derived.Laws.Slices
import Derived.WalkKit
import Derived.KernelRfl
import Derived.RowKit3
import Derived.Deep.LoopGhost
import Derived.Deep.QuietTactic
import Derived.BigQuiet
import Derived.WideLaws
import Derived.Deep.DeepCutAuto
import Derived.Deep.CutBlock
import Derived.Deep.RegionHeld3
import Derived.Laws.Rows
import Derived.Lib.AppendStr
import Derived.ArgAppend
import Derived.Laws.IdiomCopy
import Derived.OrdersHeld
import Derived.Laws.BitsLemmas
import Derived.RowKit
import Derived.Test.YtoahkfeegobeoaaWWords
import Derived.Test.YtoahkfeegobeoaaWLast
import Derived.Test.YtoahkfeegobeoaaWTab
import Derived.Test.YtoahkfeegobeoaaWFour
import Derived.Test.YtoahkfeegobeoaaWQPut
import Derived.Test.YtoahkfeegobeoaaWApart
import Derived.Test.YtoahkfeegobeoaaWArr
import Derived.Test.YtoahkfeegobeoaaWZeros
import Derived.Test.YtoahkfeegobeoaaWFoot
import Derived.Test.YtoahkfeegobeoaaWKept
import Derived.Test.YtoahkfeegobeoaaWShare
import Derived.Test.YtoahkfeegobeoaaWN
import Derived.Test.YtoahkfeegobeoaaWFootNe
import Derived.Test.YtoahkfeegobeoaaWAt
import Derived.Test.YtoahkfeegobeoaaWEqStruct
import Derived.Test.YtoahkfeegobeoaaWRepsOne
import Derived.Test.YtoahkfeegobeoaaWInv
import Derived.Test.YtoahkfeegobeoaaWInvWords
import Derived.Test.YtoahkfeegobeoaaWGuard
import Derived.Test.YtoahkfeegobeoaaWNEv
import Derived.Test.YtoahkfeegobeoaaWMore
namespace Go.Proofs.Ytoahkfeegobeoaa.X
open Go.RowKit Go.Proofs.YtoahkfeegobeoaaW.PrintWords Go.Proofs.YtoahkfeegobeoaaW.PrintLast Go.Proofs.YtoahkfeegobeoaaW.PrintMore
attribute [local go_sem] max2_int min2_int max_two min_two max_three min_three max_four min_four
set_option linter.unusedVariables false
set_option linter.unusedSimpArgs false

/-! ### a call of a function value -/
def FnAt (P : Program) (q : FuncId) : Prop := ∃ fn, P.funcs[q]? = some fn ∧ (fn.name == "runtime.NumGoroutine") = false ∧ fn.body.isSome = true
section
variable {P : Program} {ops : Array Oper} {Q : Exit → Act → World → Prop}
theorem gate_dyn {rest : List Oper} {o : Oper} {a : Act} {W : World} {t : Tmp} {os : Array Operand} {ts : Array TypeId} (_ho : o.op = .call { callee := .value (.tmp t), args := os, argTypes := ts }) (h : wpList P ops Q (o :: rest) a W) : wpList P ops Q (o :: rest) a W := h
theorem goesLD_ {rest : List Oper} {oi : Oper} {a : Act} {w : World} (N : Option Tmp) (hd : oi.dst = N) (hg : oi.guard = none) {q : FuncId} (hq : FnAt P q) {os : Array Operand} {ts : Array TypeId} {t : Tmp} {Fb C : Array Value} (xs : Array Value)
    (hop : oi.op = .call { callee := .value (.tmp t), args := os, argTypes := ts }) (hv : a.eval (.tmp t) = .func (.func q) Fb C) (hargs : os.map a.eval = xs)
    (h : Calls P q (Fb ++ xs ++ C) w fun e w' => ∃ v, e = .returned v ∧ wpList P ops Q rest (a.put N v) w') : wpList P ops Q (oi :: rest) a w := by
  obtain ⟨fn, hf, hname, hb⟩ := hq
  refine wpList_plain hg fun K hK => ?_
  have he := enters_ hf hname hb (Fb ++ xs ++ C) w
  have hrun : (execOp a.eval oi).run P w = .ok (.enter q (Fb ++ xs ++ C)) w := by
    unfold execOp
    simp [hop, resolve, Deferred.ofValue, invoke, hv, hargs]
    rw [← Array.append_assoc]; exact he
  unfold Oper.wp
  rw [hrun, Oper.upon_enter]
  refine h.mono fun e w'' hh => ?_
  obtain ⟨v, rfl, hk⟩ := hh
  subst hd
  exact hK _ _ hk
theorem goesD_ {oi : Oper} {N : Option Tmp} {a : Act} {w : World} {K : Act → World → Prop} {q : FuncId} (hq : FnAt P q) {os : Array Operand} {ts : Array TypeId} {t : Tmp} {Fb C : Array Value} (xs : Array Value)
    (hw : Region.wanted oi (yielded ops a.tmps) = true) (hN : oi.dst = N) (hop : oi.op = .call { callee := .value (.tmp t), args := os, argTypes := ts }) (hv : a.eval (.tmp t) = .func (.func q) Fb C) (hargs : os.map a.eval = xs)
    (h : Calls P q (Fb ++ xs ++ C) w fun e w' => ∃ v, e = .returned v ∧ K (a.put N v) w') : if Region.wanted oi (yielded ops a.tmps) = true then Oper.wp P oi a w K Q else K (a.put N undef) w := by
  obtain ⟨fn, hf, hname, hb⟩ := hq
  have he := enters_ hf hname hb (Fb ++ xs ++ C) w
  refine call_ q (Fb ++ xs ++ C) hw hN ?_ h
  unfold execOp
  simp [hop, resolve, Deferred.ofValue, invoke, hv, hargs]
  rw [← Array.append_assoc]; exact he
end

end Go.Proofs.Ytoahkfeegobeoaa.X
