import Derived.Test.YtengegdaiphfeaaProg
import Derived.Below
import Derived.Deep.Draws
import Derived.Deep.AppendLies
import Derived.Maps.AppendAt
import Derived.OwnWalk
import Derived.Laws.BytesArg
import Derived.Laws.MakeOwn
import Derived.Laws.OwnMore
import Derived.Deep.OwnRows
import Derived.Tactics
import Derived.Lib.ConvBytes
import Derived.Laws.Slices
import Derived.WalkKit
import Derived.KernelRfl
import Derived.RowKit3
import Derived.Deep.LoopGhost
import Derived.Deep.QuietTactic
import Derived.BigQuiet
import Derived.WideLaws
import Derived.Deep.DeepCutAuto
import Derived.Deep.CutBlock
import Derived.Deep.RegionHeld3
import Derived.Laws.Rows
import Derived.Lib.AppendStr
import Derived.ArgAppend
import Derived.Laws.IdiomCopy
import Derived.OrdersHeld
import Derived.Laws.BitsLemmas
import Derived.RowKit
import Derived.Test.YtengegdaiphfeaaKW1
import Derived.Laws.StructEq
section
namespace Go.Proofs.Ytengegdaiphfeaa.X
open Go.RowKit Go.Proofs.YtengegdaiphfeaaW.PrintWords Go.Proofs.YtengegdaiphfeaaW.PrintLast Go.Proofs.YtengegdaiphfeaaW.PrintMore
attribute [local go_sem] max2_int min2_int max_two min_two max_three min_three max_four min_four
set_option linter.unusedVariables false
set_option linter.unusedSimpArgs false
def FnAt (P : Program) (q : FuncId) : Prop := ∃ fn,P.funcs[q]? = some fn ∧ (fn.name == "runtime.NumGoroutine") = false ∧ fn.body.isSome = true
section
variable {P : Program} {ops : Array Oper} {Q : Exit → Act → World → Prop}
theorem gate_dyn {rest : List Oper} {o : Oper} {a : Act} {W : World} {t : Tmp} {os : Array Operand} {ts : Array TypeId} (_ho : o.op = .call { callee:=.value (.tmp t),args:=os,argTypes:=ts }) (h : wpList P ops Q (o :: rest) a W) : wpList P ops Q (o :: rest) a W:=h
theorem goesLD_ {rest : List Oper} {oi : Oper} {a : Act} {w : World} (N : Option Tmp) (hd : oi.dst = N) (hg : oi.guard = none) {q : FuncId} (hq : FnAt P q) {os : Array Operand} {ts : Array TypeId} {t : Tmp} {Fb C : Array Value} (xs : Array Value)
  (hop : oi.op = .call { callee:=.value (.tmp t),args:=os,argTypes:=ts }) (hv : a.eval (.tmp t) = .func (.func q) Fb C) (hargs : os.map a.eval = xs)
  (h : Calls P q (Fb ++ xs ++ C) w fun e w' => ∃ v,e = .returned v ∧ wpList P ops Q rest (a.put N v) w') : wpList P ops Q (oi :: rest) a w:=by
 obtain ⟨fn,hf,hname,hb⟩:=hq
 refine wpList_plain hg fun K hK => ?_
 have he:=enters_ hf hname hb (Fb ++ xs ++ C) w
 have hrun : (execOp a.eval oi).run P w = .ok (.enter q (Fb ++ xs ++ C)) w:=by
  unfold execOp
  simp [hop,resolve,Deferred.ofValue,invoke,hv,hargs]
  rw [← Array.append_assoc];exact he
 unfold Oper.wp
 rw [hrun,Oper.upon_enter]
 refine h.mono fun e w'' hh => ?_
 obtain ⟨v,rfl,hk⟩:=hh
 subst hd
 exact hK _ _ hk
theorem goesD_ {oi : Oper} {N : Option Tmp} {a : Act} {w : World} {K : Act → World → Prop} {q : FuncId} (hq : FnAt P q) {os : Array Operand} {ts : Array TypeId} {t : Tmp} {Fb C : Array Value} (xs : Array Value)
  (hw : Region.wanted oi (yielded ops a.tmps) = true) (hN : oi.dst = N) (hop : oi.op = .call { callee:=.value (.tmp t),args:=os,argTypes:=ts }) (hv : a.eval (.tmp t) = .func (.func q) Fb C) (hargs : os.map a.eval = xs)
  (h : Calls P q (Fb ++ xs ++ C) w fun e w' => ∃ v,e = .returned v ∧ K (a.put N v) w') : if Region.wanted oi (yielded ops a.tmps) = true then Oper.wp P oi a w K Q else K (a.put N undef) w:=by
 obtain ⟨fn,hf,hname,hb⟩:=hq
 have he:=enters_ hf hname hb (Fb ++ xs ++ C) w
 refine call_ q (Fb ++ xs ++ C) hw hN ?_ h
 unfold execOp
 simp [hop,resolve,Deferred.ofValue,invoke,hv,hargs]
 rw [← Array.append_assoc];exact he
end
end Go.Proofs.Ytengegdaiphfeaa.X
end
section
namespace Go.Proofs.Ytengegdaiphfeaa.X
open Go.RowKit Go.Proofs.YtengegdaiphfeaaW.PrintWords Go.Proofs.YtengegdaiphfeaaW.PrintLast Go.Proofs.YtengegdaiphfeaaW.PrintMore
attribute [local go_sem] max2_int min2_int max_two min_two max_three min_three max_four min_four
set_option linter.unusedVariables false
set_option linter.unusedSimpArgs false
def errW : Option Int → Value
 | none => .nilIface
 | some c => .iface 0 (.int .i64 c)
theorem errW_none : errW none = .nilIface:=rfl
theorem errW_some (c : Int) : errW (some c) = .iface 0 (.int .i64 c):=rfl
theorem info3 : (Try.prog.info? 3).map (fun i => (i.zero,i.size,i.bytes)) = some (some (.int .i64 0),1,8):=by kernel_rfl
theorem info5 : (Try.prog.info? 5).map (fun i => (i.zero,i.size,i.bytes)) = some (some (.int .u8 0),1,1):=by kernel_rfl
theorem info9 : (Try.prog.info? 9).map (fun i => (i.zero,i.size,i.bytes)) = some (some (.string ⟨#[]⟩),1,16):=by kernel_rfl
theorem info86 : (Try.prog.info? 86).map (fun i => (i.zero,i.size,i.bytes)) = some (some (.agg #[(.string ⟨#[]⟩),(.slice none 0 0)]),2,40):=by kernel_rfl
structure S86 where
 f0 : ByteArray
 f1 : (List S86)
def z86 : S86:=⟨(⟨#[]⟩ : ByteArray),([] : List S86)⟩
def F86 (d : Kd S86) : Kd S86:=Kd.iso (Kd.pair Kd.string (Kd.slice 86 d)) (fun x : S86 => (x.f0,x.f1))
theorem mono86 : Kd.Mono F86:=Kd.mono_iso _ (Kd.mono_pair (Kd.mono_const _) (Kd.mono_slice 86 Kd.mono_id))
theorem sub86 : Kd.Sub F86 [86]:=Kd.sub_iso _ (Kd.sub_pair (Kd.sub_const _ (by decide)) (Kd.sub_slice 86 (by decide) Kd.sub_id))
theorem sz86 : ∀ n,(Kd.upto F86 2 [86] n).sz = 2:=Kd.upto_sz (fun _ => rfl)
def k86 : Kd S86:=Kd.fix F86 2 [86] sz86 (Kd.upto_E sub86)
theorem k86_open {w : World} {x : S86} {cs : List Value} (h : k86.K w x cs) : ∃ A1 c1,cs = [.string x.f0,.slice A1 x.f1.length c1] ∧ x.f1.length ≤ c1 ∧ k86.C w A1 x.f1.length x.f1:=by
 obtain ⟨n,h⟩:=h
 cases n with
 | zero => exact h.elim
 | succ n =>
  obtain ⟨_,_,rfl,rfl,⟨A1,c1,rfl,l1,g1⟩⟩:=h
  exact ⟨A1,c1,rfl,l1,Kd.fix_C g1⟩
theorem k86_openM {w : World} {base : Nat} {ok : Nat → Prop} {x : S86} {cs : List Value} (h : k86.M w base ok x cs) : ∃ v1,cs = [.string x.f0,v1] ∧ k86.R 86 w base ok v1 x.f1:=by
 obtain ⟨n,h⟩:=h
 cases n with
 | zero => exact h.elim
 | succ n =>
  obtain ⟨_,_,rfl,rfl,⟨v1,rfl,g1⟩⟩:=h
  exact ⟨v1,rfl,Kd.fix_R g1⟩
theorem k86_mk (w : World) (x : S86) {A1 : Option Addr} {c1 : Nat} (l1 : x.f1.length ≤ c1) (g1 : k86.C w A1 x.f1.length x.f1) : k86.K w x [.string x.f0,.slice A1 x.f1.length c1]:=by
 obtain ⟨n1,q1⟩:=Kd.fix_C_back mono86 g1
 have r1:=Kd.upto_C_le mono86 sz86 (show n1 ≤ n1 by omega) q1
 exact ⟨n1 + 1,⟨[.string x.f0],[.slice A1 x.f1.length c1],rfl,rfl,⟨A1,c1,rfl,l1,r1⟩⟩⟩
theorem k86_mkM (w : World) (base : Nat) (ok : Nat → Prop) (x : S86) {v1 : Value} (g1 : k86.R 86 w base ok v1 x.f1) : k86.M w base ok x [.string x.f0,v1]:=by
 obtain ⟨n1,q1⟩:=Kd.fix_R_back mono86 g1
 have r1:=Kd.upto_R_le mono86 sz86 (show n1 ≤ n1 by omega) q1
 exact ⟨n1 + 1,⟨[.string x.f0],[v1],rfl,rfl,⟨v1,rfl,r1⟩⟩⟩
theorem k86_openF {W : World} {ok : Nat → Prop} {x : S86} {cs : List Value} (h : Kd.FK k86 W ok x cs) : ∃ A1 c1,cs = [.string x.f0,.slice A1 x.f1.length c1] ∧ x.f1.length ≤ c1 ∧ Kd.F k86 W ok A1 x.f1.length x.f1:=by
 obtain ⟨A1,c1,rfl,l1,_⟩:=k86_open (Kd.FK_now h)
 exact ⟨A1,c1,rfl,l1,(fun W' hW => by obtain ⟨A1_,c1_,he,l1_,g1_⟩:=k86_open (h W' hW);injection (Option.some.inj (show some (Value.slice A1 x.f1.length c1) = some (Value.slice A1_ x.f1.length c1_) from congrArg (fun l => l[1]?) he)) with ha_ _ _;rw [ha_];exact g1_)⟩
theorem k86_mkF (W : World) (ok : Nat → Prop) (x : S86) {A1 : Option Addr} {c1 : Nat} (l1 : x.f1.length ≤ c1) (g1 : Kd.F k86 W ok A1 x.f1.length x.f1) : Kd.FK k86 W ok x [.string x.f0,.slice A1 x.f1.length c1]:=fun W2 hW => k86_mk W2 x l1 (g1 W2 hW)
def rd_T86 (xs : List S86) (i : Int) : S86:=xs.getD i.toNat z86
theorem at_T86 {w : World} {A : Option Addr} {n : Nat} {xs : List S86} (h : Kd.C k86 w A n xs) (i : Int) (h0 : 0 ≤ i) (h1 : i < n) : ∃ ad A1 c1,A = some ad ∧ w.cell? (ad.add (i.toNat * 2)) = some (.string (rd_T86 xs i).f0) ∧ w.cell? ⟨(ad.add (i.toNat * 2)).block,(ad.add (i.toNat * 2)).off + 1,none⟩ = some (.slice A1 (rd_T86 xs i).f1.length c1) ∧ (rd_T86 xs i).f1.length ≤ c1 ∧ k86.C w A1 (rd_T86 xs i).f1.length (rd_T86 xs i).f1:=by
 obtain ⟨ad,c,e,_,hK,hc0⟩:=Kd.C_get h z86 i h0 h1
 have hc : ∀ j u,c[j]? = some u → w.cell? (ad.add (i.toNat * 2 + j)) = some u:=hc0
 obtain ⟨A1,c1,rfl,l1,g1⟩:=k86_open hK
 exact ⟨ad,A1,c1,e,hc 0 _ rfl,by rw [← add_field _ _ 1 (by omega)];exact hc 1 _ rfl,l1,g1⟩
end Go.Proofs.Ytengegdaiphfeaa.X
namespace Go.Proofs.Ytengegdaiphfeaa.X
open Go.RowKit Go.Proofs.YtengegdaiphfeaaW.PrintWords Go.Proofs.YtengegdaiphfeaaW.PrintLast Go.Proofs.YtengegdaiphfeaaW.PrintMore
theorem pe_ {q p : Prop} (h : q) (k : q → p := by intro h_; (with_reducible repeat (first | refine blk_drewN ?_ _ | refine blk_drew ?_ | refine blk_alloc ?_ _)); exact h_) : p := k h
theorem pr_ {q p : Prop} (h : q) (k : q → p := by intro h_; (with_reducible repeat (first | apply Kd.R_alloc | apply Kd.R_drewN | apply Kd.R_drew)); exact h_) : p := k h
theorem pv_ {q p : Prop} (h : q) (k : q → p := by intro h_; (with_reducible repeat (first | apply Kd.V_alloc | apply Kd.V_drewN | apply Kd.V_drew)); exact h_) : p := k h
theorem be0_ {q p : Prop} (h : q) (k : q → p := by intro h_ ; repeat (first | (with_reducible first | exact h_ | apply below_alloc | apply pw_below_drewN | apply below_drew1) | exact h_)) : p := k h
theorem ke0_ {q p : Prop} (h : q) (k : q → p := by intro h_ ; repeat (first | (with_reducible first | exact h_ | apply KeepBut.set_ | apply keep_drewN | apply keep_drew | apply keep_alloc) | exact h_)) : p := k h
theorem be1_ {q0 : Prop} {q p : Prop} (h : q) (g0 : q0) (k : q → q0 → p := by intro h_ g0; repeat (first | (with_reducible first | exact h_ | apply below_alloc | apply pw_below_drewN | apply below_drew1 | refine below_set ?_ g0) | exact h_)) : p := k h g0
theorem ke1_ {q0 : Prop} {q p : Prop} (h : q) (g0 : q0) (k : q → q0 → p := by intro h_ g0; repeat (first | (with_reducible first | exact h_ | apply KeepBut.set_ | apply keep_drewN | apply keep_drew | apply keep_alloc | refine keep_far ?_ g0 _) | exact h_)) : p := k h g0
theorem be2_ {q0 : Prop} {q1 : Prop} {q p : Prop} (h : q) (g0 : q0) (g1 : q1) (k : q → q0 → q1 → p := by intro h_ g0 g1; repeat (first | (with_reducible first | exact h_ | apply below_alloc | apply pw_below_drewN | apply below_drew1 | refine below_set ?_ g0 | refine below_set ?_ g1) | exact h_)) : p := k h g0 g1
theorem ke2_ {q0 : Prop} {q1 : Prop} {q p : Prop} (h : q) (g0 : q0) (g1 : q1) (k : q → q0 → q1 → p := by intro h_ g0 g1; repeat (first | (with_reducible first | exact h_ | apply KeepBut.set_ | apply keep_drewN | apply keep_drew | apply keep_alloc | refine keep_far ?_ g0 _ | refine keep_far ?_ g1 _) | exact h_)) : p := k h g0 g1
theorem be3_ {q0 : Prop} {q1 : Prop} {q2 : Prop} {q p : Prop} (h : q) (g0 : q0) (g1 : q1) (g2 : q2) (k : q → q0 → q1 → q2 → p := by intro h_ g0 g1 g2; repeat (first | (with_reducible first | exact h_ | apply below_alloc | apply pw_below_drewN | apply below_drew1 | refine below_set ?_ g0 | refine below_set ?_ g1 | refine below_set ?_ g2) | exact h_)) : p := k h g0 g1 g2
theorem ke3_ {q0 : Prop} {q1 : Prop} {q2 : Prop} {q p : Prop} (h : q) (g0 : q0) (g1 : q1) (g2 : q2) (k : q → q0 → q1 → q2 → p := by intro h_ g0 g1 g2; repeat (first | (with_reducible first | exact h_ | apply KeepBut.set_ | apply keep_drewN | apply keep_drew | apply keep_alloc | refine keep_far ?_ g0 _ | refine keep_far ?_ g1 _ | refine keep_far ?_ g2 _) | exact h_)) : p := k h g0 g1 g2
theorem be4_ {q0 : Prop} {q1 : Prop} {q2 : Prop} {q3 : Prop} {q p : Prop} (h : q) (g0 : q0) (g1 : q1) (g2 : q2) (g3 : q3) (k : q → q0 → q1 → q2 → q3 → p := by intro h_ g0 g1 g2 g3; repeat (first | (with_reducible first | exact h_ | apply below_alloc | apply pw_below_drewN | apply below_drew1 | refine below_set ?_ g0 | refine below_set ?_ g1 | refine below_set ?_ g2 | refine below_set ?_ g3) | exact h_)) : p := k h g0 g1 g2 g3
theorem be5_ {q0 : Prop} {q1 : Prop} {q2 : Prop} {q3 : Prop} {q4 : Prop} {q p : Prop} (h : q) (g0 : q0) (g1 : q1) (g2 : q2) (g3 : q3) (g4 : q4) (k : q → q0 → q1 → q2 → q3 → q4 → p := by intro h_ g0 g1 g2 g3 g4; repeat (first | (with_reducible first | exact h_ | apply below_alloc | apply pw_below_drewN | apply below_drew1 | refine below_set ?_ g0 | refine below_set ?_ g1 | refine below_set ?_ g2 | refine below_set ?_ g3 | refine below_set ?_ g4) | exact h_)) : p := k h g0 g1 g2 g3 g4
theorem be6_ {q0 : Prop} {q1 : Prop} {q2 : Prop} {q3 : Prop} {q4 : Prop} {q5 : Prop} {q p : Prop} (h : q) (g0 : q0) (g1 : q1) (g2 : q2) (g3 : q3) (g4 : q4) (g5 : q5) (k : q → q0 → q1 → q2 → q3 → q4 → q5 → p := by intro h_ g0 g1 g2 g3 g4 g5; repeat (first | (with_reducible first | exact h_ | apply below_alloc | apply pw_below_drewN | apply below_drew1 | refine below_set ?_ g0 | refine below_set ?_ g1 | refine below_set ?_ g2 | refine below_set ?_ g3 | refine below_set ?_ g4 | refine below_set ?_ g5) | exact h_)) : p := k h g0 g1 g2 g3 g4 g5
theorem be7_ {q0 : Prop} {q1 : Prop} {q2 : Prop} {q3 : Prop} {q4 : Prop} {q5 : Prop} {q6 : Prop} {q p : Prop} (h : q) (g0 : q0) (g1 : q1) (g2 : q2) (g3 : q3) (g4 : q4) (g5 : q5) (g6 : q6) (k : q → q0 → q1 → q2 → q3 → q4 → q5 → q6 → p := by intro h_ g0 g1 g2 g3 g4 g5 g6; repeat (first | (with_reducible first | exact h_ | apply below_alloc | apply pw_below_drewN | apply below_drew1 | refine below_set ?_ g0 | refine below_set ?_ g1 | refine below_set ?_ g2 | refine below_set ?_ g3 | refine below_set ?_ g4 | refine below_set ?_ g5 | refine below_set ?_ g6) | exact h_)) : p := k h g0 g1 g2 g3 g4 g5 g6
theorem be8_ {q0 : Prop} {q1 : Prop} {q2 : Prop} {q3 : Prop} {q4 : Prop} {q5 : Prop} {q6 : Prop} {q7 : Prop} {q p : Prop} (h : q) (g0 : q0) (g1 : q1) (g2 : q2) (g3 : q3) (g4 : q4) (g5 : q5) (g6 : q6) (g7 : q7) (k : q → q0 → q1 → q2 → q3 → q4 → q5 → q6 → q7 → p := by intro h_ g0 g1 g2 g3 g4 g5 g6 g7; repeat (first | (with_reducible first | exact h_ | apply below_alloc | apply pw_below_drewN | apply below_drew1 | refine below_set ?_ g0 | refine below_set ?_ g1 | refine below_set ?_ g2 | refine below_set ?_ g3 | refine below_set ?_ g4 | refine below_set ?_ g5 | refine below_set ?_ g6 | refine below_set ?_ g7) | exact h_)) : p := k h g0 g1 g2 g3 g4 g5 g6 g7
theorem be9_ {q0 : Prop} {q1 : Prop} {q2 : Prop} {q3 : Prop} {q4 : Prop} {q5 : Prop} {q6 : Prop} {q7 : Prop} {q8 : Prop} {q p : Prop} (h : q) (g0 : q0) (g1 : q1) (g2 : q2) (g3 : q3) (g4 : q4) (g5 : q5) (g6 : q6) (g7 : q7) (g8 : q8) (k : q → q0 → q1 → q2 → q3 → q4 → q5 → q6 → q7 → q8 → p := by intro h_ g0 g1 g2 g3 g4 g5 g6 g7 g8; repeat (first | (with_reducible first | exact h_ | apply below_alloc | apply pw_below_drewN | apply below_drew1 | refine below_set ?_ g0 | refine below_set ?_ g1 | refine below_set ?_ g2 | refine below_set ?_ g3 | refine below_set ?_ g4 | refine below_set ?_ g5 | refine below_set ?_ g6 | refine below_set ?_ g7 | refine below_set ?_ g8) | exact h_)) : p := k h g0 g1 g2 g3 g4 g5 g6 g7 g8
theorem be10_ {q0 : Prop} {q1 : Prop} {q2 : Prop} {q3 : Prop} {q4 : Prop} {q5 : Prop} {q6 : Prop} {q7 : Prop} {q8 : Prop} {q9 : Prop} {q p : Prop} (h : q) (g0 : q0) (g1 : q1) (g2 : q2) (g3 : q3) (g4 : q4) (g5 : q5) (g6 : q6) (g7 : q7) (g8 : q8) (g9 : q9) (k : q → q0 → q1 → q2 → q3 → q4 → q5 → q6 → q7 → q8 → q9 → p := by intro h_ g0 g1 g2 g3 g4 g5 g6 g7 g8 g9; repeat (first | (with_reducible first | exact h_ | apply below_alloc | apply pw_below_drewN | apply below_drew1 | refine below_set ?_ g0 | refine below_set ?_ g1 | refine below_set ?_ g2 | refine below_set ?_ g3 | refine below_set ?_ g4 | refine below_set ?_ g5 | refine below_set ?_ g6 | refine below_set ?_ g7 | refine below_set ?_ g8 | refine below_set ?_ g9) | exact h_)) : p := k h g0 g1 g2 g3 g4 g5 g6 g7 g8 g9
theorem be11_ {q0 : Prop} {q1 : Prop} {q2 : Prop} {q3 : Prop} {q4 : Prop} {q5 : Prop} {q6 : Prop} {q7 : Prop} {q8 : Prop} {q9 : Prop} {q10 : Prop} {q p : Prop} (h : q) (g0 : q0) (g1 : q1) (g2 : q2) (g3 : q3) (g4 : q4) (g5 : q5) (g6 : q6) (g7 : q7) (g8 : q8) (g9 : q9) (g10 : q10) (k : q → q0 → q1 → q2 → q3 → q4 → q5 → q6 → q7 → q8 → q9 → q10 → p := by intro h_ g0 g1 g2 g3 g4 g5 g6 g7 g8 g9 g10; repeat (first | (with_reducible first | exact h_ | apply below_alloc | apply pw_below_drewN | apply below_drew1 | refine below_set ?_ g0 | refine below_set ?_ g1 | refine below_set ?_ g2 | refine below_set ?_ g3 | refine below_set ?_ g4 | refine below_set ?_ g5 | refine below_set ?_ g6 | refine below_set ?_ g7 | refine below_set ?_ g8 | refine below_set ?_ g9 | refine below_set ?_ g10) | exact h_)) : p := k h g0 g1 g2 g3 g4 g5 g6 g7 g8 g9 g10
theorem lp_ {p : Prop} (k : p := by (try simp only [List.map_toArray, List.map_cons, List.map_nil]); first | done | rfl | (simp only [List.length_drop, List.length_take]; rfl)) : p := k
end Go.Proofs.Ytengegdaiphfeaa.X
end
section
namespace Go.Proofs.Ytengegdaiphfeaa.X
open Go.RowKit Go.Proofs.YtengegdaiphfeaaW.PrintWords Go.Proofs.YtengegdaiphfeaaW.PrintLast Go.Proofs.YtengegdaiphfeaaW.PrintMore
attribute [local go_sem] max2_int min2_int max_two min_two max_three min_three max_four min_four
set_option linter.unusedVariables false
set_option linter.unusedSimpArgs false
mutual
def impl_filled.l0 (p1 : Int → Int → Option (Int)) : Nat → Int → Int → Int → Int → List Int → Option (Int × List Int)
 | 0,_,_,_,_,_ => none
 | k + 1,x0,x10,x11,x196000,x196001 => if x11 < x10 then (impl_filled.l1 p1 k x0 x11 x10 x11 x0 0 x196000 x196001) else (some (x196000,x196001))
def impl_filled.l1 (p1 : Int → Int → Option (Int)) : Nat → Int → Int → Int → Int → Int → Int → Int → List Int → Option (Int × List Int)
 | 0,_,_,_,_,_,_,_,_ => none
 | k + 1,x0,x6,x10,x11,x14,x15,x196000,x196001 => if x15 < x14 then ((p1 x6 x15).bind fun t196 => (if x196001.length < 17592186044416 then (impl_filled.l1 p1 k x0 x6 x10 x11 x14 (wrap64 (x15 + 1)) x196000 (x196001 ++ [t196])) else (none))) else (impl_filled.l0 p1 k x0 x10 (wrap64 (x11 + 1)) x196000 x196001)
end
def impl_filled.f (p1 : Int → Int → Option (Int)) (k : Nat) (a0 : Int)  : Option (Int × List Int):=impl_filled.l0 p1 k a0 a0 0 a0 ([] : List Int)
theorem impl_filled.mono_l (p1 : Int → Int → Option (Int)) : ∀ k,(∀ y0 y1 y2 y3 y4,LeO (impl_filled.l0 p1 k y0 y1 y2 y3 y4) (impl_filled.l0 p1 (k + 1) y0 y1 y2 y3 y4)) ∧ (∀ y0 y1 y2 y3 y4 y5 y6 y7,LeO (impl_filled.l1 p1 k y0 y1 y2 y3 y4 y5 y6 y7) (impl_filled.l1 p1 (k + 1) y0 y1 y2 y3 y4 y5 y6 y7))
 | 0 => ⟨fun _ _ _ _ _ r h => by simp [impl_filled.l0] at h,fun _ _ _ _ _ _ _ _ r h => by simp [impl_filled.l1] at h⟩
 | k + 1 => by
  obtain ⟨ih0,ih1⟩:=impl_filled.mono_l p1 k
  refine ⟨?_,?_⟩
  ·intro y0 y1 y2 y3 y4
   unfold impl_filled.l0
   repeat' first
   | (with_reducible exact ih0 _ _ _ _ _)
   | (with_reducible exact ih1 _ _ _ _ _ _ _ _)
   | (with_reducible exact LeO.refl _)
   | (with_reducible exact LeO.none _)
   | (with_reducible refine LeO.ite ?_ ?_)
   | (with_reducible refine LeO.bind ?_ (fun _ => ?_))
   | exact ih0 _ _ _ _ _
   | exact ih1 _ _ _ _ _ _ _ _
   | exact LeO.none _
   | refine LeO.ite ?_ ?_
   | refine LeO.bind ?_ (fun _ => ?_)
  ·intro y0 y1 y2 y3 y4 y5 y6 y7
   unfold impl_filled.l1
   repeat' first
   | (with_reducible exact ih0 _ _ _ _ _)
   | (with_reducible exact ih1 _ _ _ _ _ _ _ _)
   | (with_reducible exact LeO.refl _)
   | (with_reducible exact LeO.none _)
   | (with_reducible refine LeO.ite ?_ ?_)
   | (with_reducible refine LeO.bind ?_ (fun _ => ?_))
   | exact ih0 _ _ _ _ _
   | exact ih1 _ _ _ _ _ _ _ _
   | exact LeO.none _
   | refine LeO.ite ?_ ?_
   | refine LeO.bind ?_ (fun _ => ?_)
theorem impl_filled.mono (p1 : Int → Int → Option (Int)) : ∀ a0 k,LeO (impl_filled.f p1 k a0) (impl_filled.f p1 (k + 1) a0):=by
 intro a0 k
 obtain ⟨ih0,ih1⟩:=impl_filled.mono_l p1 k
 unfold impl_filled.f
 repeat' first
   | (with_reducible exact ih0 _ _ _ _ _)
   | (with_reducible exact ih1 _ _ _ _ _ _ _ _)
   | (with_reducible exact LeO.refl _)
   | (with_reducible exact LeO.none _)
   | (with_reducible refine LeO.ite ?_ ?_)
   | (with_reducible refine LeO.bind ?_ (fun _ => ?_))
   | exact ih0 _ _ _ _ _
   | exact ih1 _ _ _ _ _ _ _ _
   | exact LeO.none _
   | refine LeO.ite ?_ ?_
   | refine LeO.bind ?_ (fun _ => ?_)
def impl_filled.T8 : Bool × List (List Nat × List Nat):=(true,[([],[]),([0],[0]),([],[]),([],[]),([],[]),([2,3,4],[2,3,4]),([5],[5]),([1,6,5],[1,6]),([0,1,2,3,4,5,6,7],[]),([8,7,7,0,1,2,3,4,5,6,7],[7,8])])
def impl_filled.B8 : List Nat:=[0,1,0,0,0,28,60,127,255,511]
theorem impl_filled.tab8 : rtab .any (opsOf Try.f59 8) = impl_filled.T8:=by kernel_rfl
theorem impl_filled.bits8 : waitsOk impl_filled.T8.2 impl_filled.B8 = true:=by kernel_rfl
set_option maxHeartbeats 8000000 in
set_option maxRecDepth 100000 in
theorem impl_filled.calls (k : Nat) (a0 : Int) (q1 : FuncId) (F1 C1 : Array Value) (p1 : Int → Int → Option (Int)) (r1 : Int) (r2 : List Int) (w : World) (hq1 : FnAt Try.prog q1) (hp1 : ∀ (ay0 : Int) (ay1 : Int) (z0 : Int) (W_ : World),Below w.heap.size w W_ → p1 ay0 ay1 = some z0 → Calls Try.prog q1 (F1 ++ #[.int .i64 ay0,.int .i64 ay1] ++ C1) W_ fun e w' => e = .returned (.int .i64 z0) ∧ Below W_.heap.size W_ w') (h : impl_filled.f p1 k a0 = some (r1,r2)) :
  Calls Try.prog 59 #[.int .i64 a0,.func (.func q1) F1 C1] w fun e w' => ∃ v1_ : Value,e = .returned (.agg #[.int .i64 r1,v1_]) ∧ Kd.R (Kd.int .i64) 3 w' w.heap.size (fun _ => True) v1_ r2 ∧ Below w.heap.size w w':=by
 have hu28:=Try.underlying28
 have HQ1:=Aside0.mk hq1
 have HP1:=Aside0.mk hp1
 clear hq1 hp1
 have HB:=Aside0.mk (Below.refl w.heap.size w)
 have H : (impl_filled.l0 p1 k a0 a0 0 a0 ([] : List Int)) = some (r1,r2):=h
 clear h
 have H':=Aside0.mk H
 clear H
 go_enter Try.func59,Try.ntmps59
 go_wp2_with (first|((with_reducible refine gate_dst (N:=4) rfl ?_);refine box_event ?hg (N:=4) ?hd (cs:=#[.int .i64 0,.slice none 0 0]) (t:=28) ?hr ?_;(case hd => rfl);(case hg => rfl);(case hr => first|(go_simp;done)|(go_simp;rfl));intro gb194 hg w3 hbox hb;have n0_:=Aside0.mk (below_step (be0_ HB.out) hb);have n1_:=Aside0.mk (hbox);have n2_:=Aside0.mk ((by rw [hg];exact (below_size (be0_ HB.out)) : w.heap.size ≤ gb194));have n3_:=Aside0.mk ((by rw [hg];exact (below_size (be0_ HB.out)) : w.heap.size ≤ gb194));clear HB;have HB:=n0_;have BK194:=n1_;have GW194:=n2_;have GE194:=n3_;clear n0_ n1_ n2_ n3_;clear hb hbox hg)|((with_reducible refine gate_dst (N:=5) rfl ?_);refine box_event ?hg (N:=5) ?hd (cs:=#[.int .i64 0,.slice none 0 0]) (t:=28) ?hr ?_;(case hd => rfl);(case hg => rfl);(case hr => first|(go_simp;done)|(go_simp;rfl));intro gb195 hg w4 hbox hb;have n0_:=Aside0.mk (blk_below (g:=gb194) (o:=.cells #[.int .i64 0,.slice none 0 0] 28 (0,0)) (pe_ BK194.out) hb);have n1_:=Aside0.mk (below_step (be1_ HB.out GE194.out) hb);have n2_:=Aside0.mk (hbox);have n3_:=Aside0.mk ((by rw [hg];exact (below_size (be1_ HB.out GE194.out)) : w.heap.size ≤ gb195));have n4_:=Aside0.mk ((by rw [hg];exact (below_size (be1_ HB.out GE194.out)) : w.heap.size ≤ gb195));have n5_:=Aside0.mk ((by rw [hg];exact Nat.ne_of_lt (blk_lt (g:=gb194) (o:=.cells #[.int .i64 0,.slice none 0 0] 28 (0,0)) (pe_ BK194.out)) : gb194 ≠ gb195));have n6_:=Aside0.mk ((by rw [hg];exact Nat.ne_of_gt (blk_lt (g:=gb194) (o:=.cells #[.int .i64 0,.slice none 0 0] 28 (0,0)) (pe_ BK194.out)) : gb195 ≠ gb194));clear BK194;clear HB;have BK194:=n0_;have HB:=n1_;have BK195:=n2_;have GW195:=n3_;have GE195:=n4_;have NB194_195:=n5_;have NB195_194:=n6_;clear n0_ n1_ n2_ n3_ n4_ n5_ n6_;clear hb hbox hg;have hnb5:=NB195_194.out;have hnc5:=NB194_195.out;have hcz6_0 : w4.cell? ⟨gb195,0,none⟩ = some (.int .i64 0):=(blk_cell BK195.out 0).trans rfl;have hcz6_1 : w4.cell? ⟨gb195,1,none⟩ = some (.slice none 0 0):=(blk_cell BK195.out 1).trans rfl;have hfz6_0:=blk_frozen BK195.out 0;have hfz6_1:=blk_frozen BK195.out 1))
 go_loopg [11] k (fun kq v11 w' => ∃ (x11_1 : Int) (x196001_1 : List Int) (u196001 : Value),v11 = .int .i64 x11_1 ∧ Aside0 (impl_filled.l0 p1 kq a0 a0 x11_1 a0 x196001_1 = some (r1,r2)) ∧ Aside0 (kq ≤ k) ∧ Aside0 (Kd.R (Kd.int .i64) 3 w' w.heap.size (fun _ => True) u196001 x196001_1) ∧ Aside0 (w'.heap[gb194]? = some (.cells #[.int .i64 0,(.slice none 0 0)] 28 (0,0))) ∧ Aside0 (w'.heap[gb195]? = some (.cells #[.int .i64 a0,u196001] 28 (0,0))) ∧ Aside0 (Below w.heap.size w w'))
 case atStart => exact ⟨(0),(([] : List Int)),(.slice none 0 0),(by first|rfl|(simp;done)|(simp [*];done)),H',⟨Nat.le_refl _⟩,⟨by first|exact Kd.R_nil _ _ _ _ _|exact Kd.N_nil _ _ _ _ _|exact Kd.V_nil _ _ _ _ _|exact Kd.Q_nil _ _ _ _ _|exact Kd.S_nil _ _ _ _ _⟩,⟨by refine pe_ ?_;refine blk_far ?_ NB194_195.out _;refine pe_ ?_;refine blk_far ?_ NB194_195.out _;refine pe_ ?_;exact BK194.out⟩,⟨by refine pe_ ?_;refine blk_put (cs:=#[.int .i64 a0,.slice none 0 0]) ?_ 1 _ rfl;refine pe_ ?_;refine blk_put (cs:=#[.int .i64 0,.slice none 0 0]) ?_ 0 _ rfl;refine pe_ ?_;exact BK195.out⟩,⟨be2_ HB.out GE194.out GE195.out⟩⟩
 case round =>
  clear H'
  try clear p1
  try clear q1
  try clear p2
  try clear c5
  try clear hcz6_0
  try clear hcz6_1
  try clear hfz6_0
  try clear hfz6_1
  obtain ⟨x11_1,x196001_1,u196001,rfl,HA,HK1,HO_196001,BK194,BK195,HB⟩:=hrel
  cases gk with
  | zero => exact absurd HA.out (by simp [impl_filled.l0])
  | succ k1 =>
   have H:=HA.out
   clear HA
   simp only [impl_filled.l0] at H
   by_cases c7 : x11_1 < a0
   ·rw [if_pos c7] at H
    have c7b0 : decide (x11_1 < a0) = true:=decide_eq_true c7
    clear c7
    have H':=Aside0.mk H
    clear H
    go_wp2
    go_loopg [15] k1 (fun kq v15 w' => ∃ (x15_2 : Int) (x196001_2 : List Int) (u196001 : Value),v15 = .int .i64 x15_2 ∧ Aside0 (impl_filled.l1 p1 kq a0 x11_1 a0 x11_1 a0 x15_2 a0 x196001_2 = some (r1,r2)) ∧ Aside0 (kq ≤ k1) ∧ Aside0 (Kd.R (Kd.int .i64) 3 w' w.heap.size (fun _ => True) u196001 x196001_2) ∧ Aside0 (w'.heap[gb194]? = some (.cells #[.int .i64 0,(.slice none 0 0)] 28 (0,0))) ∧ Aside0 (w'.heap[gb195]? = some (.cells #[.int .i64 a0,u196001] 28 (0,0))) ∧ Aside0 (Below w.heap.size w w'))
    case atStart => exact ⟨(0),(x196001_1),(u196001),(by first|rfl|(simp;done)|(simp [*];done)),H',⟨Nat.le_refl _⟩,⟨pr_ HO_196001.out⟩,⟨pe_ BK194.out⟩,⟨pe_ BK195.out⟩,⟨be2_ HB.out GE194.out GE195.out⟩⟩
    case round =>
     clear H'
     try clear p1
     try clear q1
     try clear p2
     try clear c5
     try clear c7
     try clear c7b0
     try clear hcz6_0
     try clear hcz6_1
     try clear hfz6_0
     try clear hfz6_1
     try clear p1
     try clear p2
     try clear q1
     obtain ⟨x15_2,x196001_2,u196001,rfl,HA,HK2,HO_196001,BK194,BK195,HB⟩:=hrel
     cases gk with
     | zero => exact absurd HA.out (by simp [impl_filled.l1])
     | succ k2 =>
      have H:=HA.out
      clear HA
      simp only [impl_filled.l1] at H
      by_cases c8 : x15_2 < a0
      ·rw [if_pos c8] at H
       have c8b0 : decide (x15_2 < a0) = true:=decide_eq_true c8
       clear c8
       replace H:=Option.bind_eq_some_iff.mp H
       obtain ⟨t196,A90,H⟩:=H
       replace H : (if x196001_2.length < 17592186044416 then (impl_filled.l1 p1 k2 a0 x11_1 a0 x11_1 a0 (wrap64 (x15_2 + 1)) a0 (x196001_2 ++ [t196])) else (none)) = some (r1,r2):=H
       have A9:=Aside0.mk A90
       clear A90
       by_cases c10 : x196001_2.length < 17592186044416
       ·rw [if_pos c10] at H
        have LMc10:=Aside0.mk c10
        clear c10
        obtain ⟨y197,hy197⟩ : ∃ y_ : List Int,y_ = (x196001_2 ++ [t196]):=⟨_,rfl⟩
        replace H : (impl_filled.l1 p1 k2 a0 x11_1 a0 x11_1 a0 (wrap64 (x15_2 + 1)) a0 y197) = some (r1,r2):=by first|(rw [hy197];with_reducible exact H)|(have H2_:=(Option.bind_some _ _).symm.trans H;rw [hy197];with_reducible exact H2_)|(have H2_:=(Option.bind_some _ _).symm.trans H;with_reducible exact H2_)|with_reducible exact H|(rw [hy197];exact H)|exact H
        have Ny197:=Aside0.mk hy197
        clear hy197
        have H':=Aside0.mk H
        clear H
        try go_wp2
        have n0_:=Aside0.mk (Kd.R_drew HO_196001.out)
        have n1_:=Aside0.mk (blk_drew BK194.out)
        have n2_:=Aside0.mk (blk_drew BK195.out)
        have n3_:=Aside0.mk (below_drew1 HB.out)
        clear HO_196001
        clear BK194
        clear BK195
        clear HB
        have HO_196001:=n0_
        have BK194:=n1_
        have BK195:=n2_
        have HB:=n3_
        clear n0_ n1_ n2_ n3_
        refine start_ (n:=10) (S:=fun w' => w'.cell? ⟨gb195,0,none⟩ = some (.int .i64 a0) ∧ w'.cell? ⟨gb195,1,none⟩ = some (u196001)) (ds:=[9]) #[false,false,false,false,false,false,false,false,false,false] (by kernel_rfl) rfl rfl ⟨(blk_cell BK195.out 0).trans rfl,(blk_cell BK195.out 1).trans rfl⟩ (fun hHeld => ?_);refine with_tabW impl_filled.tab8 impl_filled.bits8 (fun HT_ HW_ => ?_)
        generalize wr.drew = w11 at HO_196001 BK194 BK195 HB hHeld ⊢
        refine pure_ (i:=0) (N:=some 18) (v:=?_) (a':=?_) #[true,false,false,false,false,false,false,false,false,false] rfl rfl (any_of HT_.out (by kernel_rfl)) (fun _ _ _ h => h) (Or.inl ⟨by rfl,?_⟩) ?_ ?_
        rotate_left
        ·intro w'
         go_simp
         with_reducible rfl
        rotate_left
        ·simp only [Act.put,List.setIfInBounds_toArray,List.set_cons_zero,List.set_cons_succ,i64_w,i32_w]
         rfl
        refine pure_ (i:=2) (N:=some 20) (v:=?_) (a':=?_) #[true,false,true,false,false,false,false,false,false,false] rfl rfl (any_of HT_.out (by kernel_rfl)) (fun _ _ _ h => h) (Or.inl ⟨by rfl,?_⟩) ?_ ?_
        rotate_left
        ·intro w'
         go_simp
         with_reducible rfl
        rotate_left
        ·simp only [Act.put,List.setIfInBounds_toArray,List.set_cons_zero,List.set_cons_succ,i64_w,i32_w]
         rfl
        refine pure_ (i:=3) (N:=some 21) (v:=?_) (a':=?_) #[true,false,true,true,false,false,false,false,false,false] rfl rfl (any_of HT_.out (by kernel_rfl)) (fun _ _ _ h => h) (Or.inl ⟨by rfl,?_⟩) ?_ ?_
        rotate_left
        ·intro w'
         go_simp
         with_reducible rfl
        rotate_left
        ·simp only [Act.put,List.setIfInBounds_toArray,List.set_cons_zero,List.set_cons_succ,i64_w,i32_w]
         rfl
        refine pure_ (i:=4) (N:=some 22) (v:=?_) (a':=?_) #[true,false,true,true,true,false,false,false,false,false] rfl rfl (any_of HT_.out (by kernel_rfl)) (fun _ _ _ h => h) (Or.inl ⟨by rfl,?_⟩) ?_ ?_
        rotate_left
        ·intro w'
         go_simp
         with_reducible rfl
        rotate_left
        ·simp only [Act.put,List.setIfInBounds_toArray,List.set_cons_zero,List.set_cons_succ,i64_w,i32_w]
         rfl
        refine take_ (i:=1) (N:=some 19) (v:=?_) (a':=?_) #[true,true,true,true,true,false,false,false,false,false] rfl rfl (take_ofW HT_.out HW_.out (by kernel_rfl)) (fun _ _ _ h => h) (Or.inl ⟨by rfl,?_⟩) hHeld ?_ ?_
        rotate_left
        ·rintro w' ⟨s0,s1⟩
         go_simp
         with_reducible rfl
        rotate_left
        ·simp only [Act.put,List.setIfInBounds_toArray,List.set_cons_zero,List.set_cons_succ,i64_w,i32_w]
         rfl
        refine one_ (i:=5) (N:=some 23) #[true,true,true,true,true,true,false,false,false,false] rfl rfl (one_of HT_.out (by kernel_rfl)) (by decide) (fun K hK => ?_)
        refine goesD_ HQ1.out #[.int .i64 x11_1,.int .i64 x15_2] (by rfl) rfl rfl rfl lp_ ?_
        with_reducible refine (HP1.out x11_1 x15_2 t196 _ ?side1 A9.out).mono ?_
        (case side1 => repeat (first|(with_reducible first|exact HB.out|apply below_alloc|apply pw_below_drewN|apply below_drew1|refine below_set ?_ GE194.out|refine below_set ?_ GE195.out)|exact HB.out))
        rintro e w12 ⟨rfl,hb⟩
        refine ⟨_,rfl,?_⟩
        have n0_:=Aside0.mk (Kd.R_below (pr_ HO_196001.out) hb)
        have n1_:=Aside0.mk (blk_below (g:=gb194) (o:=.cells #[.int .i64 0,.slice none 0 0] 28 (0,0)) (pe_ BK194.out) hb)
        have n2_:=Aside0.mk (blk_below (g:=gb195) (o:=.cells #[.int .i64 a0,u196001] 28 (0,0)) (pe_ BK195.out) hb)
        have n3_:=Aside0.mk (below_step (be2_ HB.out GE194.out GE195.out) hb)
        clear HO_196001
        clear BK194
        clear BK195
        clear HB
        have HO_196001:=n0_
        have BK194:=n1_
        have BK195:=n2_
        have HB:=n3_
        clear n0_ n1_ n2_ n3_
        (try clear hb)
        (try clear hb2)
        (try clear hk)
        (try clear hi)
        refine hK.out _ _ ⟨(blk_cell BK195.out 0).trans rfl,(blk_cell BK195.out 1).trans rfl⟩ (fun hHeld => ?_)
        clear hK K
        refine norm_ (a':=?_) ?_ ?_
        rotate_left
        ·show Act.put _ (some 23) _ = _
         simp only [Act.put,List.setIfInBounds_toArray,List.set_cons_zero,List.set_cons_succ,i64_w,i32_w]
         rfl
        refine one_ (i:=6) (N:=some 24) #[true,true,true,true,true,true,true,false,false,false] rfl rfl (one_of HT_.out (by kernel_rfl)) (by decide) (fun K hK => ?_)
        refine value_ (w1:=?_) (v:=?_) (by rfl) rfl ?_ ?_
        rotate_left 2
        ·go_simp
         constructor
         ·rfl
         ·rfl
        refine hK.out _ _ ⟨(blk_cell (blk_alloc BK195.out _) 0).trans rfl,(blk_cell (blk_alloc BK195.out _) 1).trans rfl⟩ (fun hHeld => ?_)
        clear hK K
        refine norm_ (a':=?_) ?_ ?_
        rotate_left
        ·show Act.put _ (some 24) _ = _
         simp only [Act.put,List.setIfInBounds_toArray,List.set_cons_zero,List.set_cons_succ,i64_w,i32_w]
         rfl
        refine one_ (i:=7) (N:=some 25) #[true,true,true,true,true,true,true,true,false,false] rfl rfl (one_of HT_.out (by kernel_rfl)) (by decide) (fun K hK => ?_)
        refine Kd.R_append_step (Kd.int .i64) (w0:=w) w.heap.size (by rfl) (.tmp 19) (.tmp 24) 24 3 (.int .i64 0) 8 rfl Try.underlying24 info3 rfl (by decide) (by omega) u196001 x196001_2 t196 [.int .i64 t196] (fun _ => True) (fun _ => False) rfl rfl ?aP (fun _ hk => hk.elim) ?aF ?aO ?aB ?aS ?aL ?_
        (case aP => exact rfl)
        (case aB => exact (be2_ HB.out GE194.out GE195.out))
        (case aF => exact (fun _ _ => trivial))
        (case aO => exact (pr_ HO_196001.out))
        (case aS => exact (below_size (be2_ HB.out GE194.out GE195.out)))
        (case aL => have:=LMc10.out;omega)
        intro v198 w13 ho hb hg hat
        rw [← Ny197.out] at ho
        have n0_:=Aside0.mk (blk_grown (g:=gb194) (o:=.cells #[.int .i64 0,.slice none 0 0] 28 (0,0)) (pe_ BK194.out) hg (Kd.R_ne HO_196001.out BK194.out (by decide)))
        have n1_:=Aside0.mk (blk_grown (g:=gb195) (o:=.cells #[.int .i64 a0,u196001] 28 (0,0)) (pe_ BK195.out) hg (Kd.R_ne HO_196001.out BK195.out (by decide)))
        have n2_:=Aside0.mk (hb)
        have n3_:=Aside0.mk (ho)
        clear BK194
        clear BK195
        clear HB
        clear HO_196001
        have BK194:=n0_
        have BK195:=n1_
        have HB:=n2_
        have HO199:=n3_
        clear n0_ n1_ n2_ n3_
        clear ho hb hg hat
        obtain ⟨Ao14,co14,eo14⟩:=Kd.R_slice HO199.out
        (first|subst eo14|(injection eo14 with f1_ f2_ f3_;have f4_:=f1_.symm;have f5_:=f3_.symm;clear f1_ f2_ f3_;subst f4_;subst f5_))
        refine hK.out _ _ ⟨(blk_cell BK195.out 0).trans rfl,(blk_cell BK195.out 1).trans rfl⟩ (fun hHeld => ?_)
        clear hK K
        refine norm_ (a':=?_) ?_ ?_
        rotate_left
        ·show Act.put _ (some 25) _ = _
         simp only [Act.put,List.setIfInBounds_toArray,List.set_cons_zero,List.set_cons_succ,i64_w,i32_w]
         rfl
        refine pure_ (i:=8) (N:=some 26) (v:=?_) (a':=?_) #[true,true,true,true,true,true,true,true,true,false] rfl rfl (any_of HT_.out (by kernel_rfl)) (fun _ _ _ h => h) (Or.inl ⟨by rfl,?_⟩) ?_ ?_
        rotate_left
        ·intro w'
         go_simp
         with_reducible rfl
        rotate_left
        ·simp only [Act.put,List.setIfInBounds_toArray,List.set_cons_zero,List.set_cons_succ,i64_w,i32_w]
         rfl
        refine last_ (i:=9) (N:=none) #[true,true,true,true,true,true,true,true,true,true] rfl rfl (one_of HT_.out (by kernel_rfl)) (by decide) (fun K hK => ?_)
        have hs15 : w13.cell? ⟨gb195,1,none⟩ = some (u196001):=(blk_cell BK195.out 1).trans rfl
        have hfs15:=blk_frozen BK195.out 1
        have hns15_0:=NB194_195.out
        have hms15_0:=NB195_194.out
        refine skip_ (w1:=?_) (by rfl) rfl ?_ ?_
        rotate_left
        ·go_simp
         rfl
        refine hK.out _ _ ?_
        clear hK K
        refine done_ (done_of HT_.out (by kernel_rfl)) ?_
        try go_wp2
        go_roundg k2
        case measure => have:=HK1.out;have:=HK2.out;omega
        case rel => exact ⟨(wrap64 (x15_2 + 1)),(y197),(.slice Ao14 y197.length co14),(by first|rfl|(simp;done)|(simp [*];done)),H',⟨by have:=HK1.out;have:=HK2.out;omega⟩,⟨by refine pr_ ?_;exact Kd.R_mono (Kd.R_far (p:=⟨gb195,1,none⟩) (Kd.R_types HO199.out BK195.out (by decide)) (fun _ hk => hk.2) (.slice Ao14 y197.length co14)) (fun _ hk => trivial)⟩,⟨by refine pe_ ?_;refine blk_far ?_ NB194_195.out _;refine pe_ ?_;exact BK194.out⟩,⟨by refine pe_ ?_;refine blk_put (cs:=#[.int .i64 a0,u196001]) ?_ 1 _ rfl;refine pe_ ?_;exact BK195.out⟩,⟨be2_ HB.out GE194.out GE195.out⟩⟩
       ·rw [if_neg c10] at H
        exact absurd H (by simp)
      ·rw [if_neg c8] at H
       have c8b0 : decide (x15_2 < a0) = false:=decide_eq_false c8
       clear c8
       have H':=Aside0.mk H
       clear H
       go_wp2
       go_roundg k2
       case measure => have:=HK1.out;have:=HK2.out;omega
       case rel => exact ⟨(wrap64 (x11_1 + 1)),(x196001_2),(u196001),(by first|rfl|(simp;done)|(simp [*];done)),H',⟨by have:=HK1.out;have:=HK2.out;omega⟩,⟨pr_ HO_196001.out⟩,⟨pe_ BK194.out⟩,⟨pe_ BK195.out⟩,⟨be2_ HB.out GE194.out GE195.out⟩⟩
   ·rw [if_neg c7] at H
    have c7b0 : decide (x11_1 < a0) = false:=decide_eq_false c7
    clear c7
    simp only [Option.some.injEq,Prod.mk.injEq] at H
    obtain ⟨rfl,rfl⟩:=H
    have hnb16:=NB195_194.out
    have hnc16:=NB194_195.out
    have hcz17_0 : wr.cell? ⟨gb195,0,none⟩ = some (.int .i64 a0):=(blk_cell BK195.out 0).trans rfl
    have hcz17_1 : wr.cell? ⟨gb195,1,none⟩ = some (u196001):=(blk_cell BK195.out 1).trans rfl
    have hfz17_0:=blk_frozen BK195.out 0
    have hfz17_1:=blk_frozen BK195.out 1
    have hcz18_0 : wr.cell? ⟨gb194,0,none⟩ = some (.int .i64 0):=(blk_cell BK194.out 0).trans rfl
    have hcz18_1 : wr.cell? ⟨gb194,1,none⟩ = some (.slice none 0 0):=(blk_cell BK194.out 1).trans rfl
    have hfz18_0:=blk_frozen BK194.out 0
    have hfz18_1:=blk_frozen BK194.out 1
    obtain ⟨Ao19,co19,eo19⟩:=Kd.R_slice HO_196001.out
    subst eo19
    go_wp2
    refine bodyPost_ret (results_cell_row rfl _ _ gb194 28 #[.int .i64 a0,.slice Ao19 x196001_1.length co19] (0,0) _ rfl (by refine pe_ ?_;refine blk_put (cs:=#[.int .i64 a0,.slice none 0 0]) ?_ 1 _ rfl;refine pe_ ?_;refine blk_put (cs:=#[.int .i64 0,.slice none 0 0]) ?_ 0 _ rfl;refine pe_ ?_;exact BK194.out) Try.underlying28 rfl (by kernel_rfl)) rfl ?_
    exact ⟨_,by first|rfl|(simp [errW_none,errW_some] <;> rfl)|(simp [*,errW_none,errW_some] <;> rfl),by refine pr_ ?_;exact Kd.R_mono (Kd.R_far (p:=⟨gb194,1,none⟩) (Kd.R_far (p:=⟨gb194,0,none⟩) (Kd.R_types HO_196001.out BK194.out (by decide)) (fun _ hk => hk.2) (.int .i64 a0)) (fun _ hk => hk.2) (.slice Ao19 x196001_1.length co19)) (fun _ hk => trivial),be2_ HB.out GE194.out GE195.out⟩
theorem impl_filled.monoP_l {p p' : Int → Int → Option (Int)} (hp : ∀ y0 y1,LeO (p y0 y1) (p' y0 y1)) : ∀ k,(∀ y0 y1 y2 y3 y4,LeO (impl_filled.l0 p k y0 y1 y2 y3 y4) (impl_filled.l0 p' k y0 y1 y2 y3 y4)) ∧ (∀ y0 y1 y2 y3 y4 y5 y6 y7,LeO (impl_filled.l1 p k y0 y1 y2 y3 y4 y5 y6 y7) (impl_filled.l1 p' k y0 y1 y2 y3 y4 y5 y6 y7))
 | 0 => by
  refine ⟨?_,?_⟩
  all_goals (intros;intro r h;first|(simp [impl_filled.l0,impl_filled.l1] at h;done)|(unfold impl_filled.l0 at h;simp at h;done))
 | k + 1 => by
  have ih:=impl_filled.monoP_l hp k
  obtain ⟨ih0,ih1⟩:=ih
  refine ⟨?_,?_⟩
  ·intro y0 y1 y2 y3 y4
   unfold impl_filled.l0
   repeat'
    first
    | (with_reducible exact LeO.refl _)
    | (with_reducible exact LeO.none _)
    | (with_reducible exact ih0 _ _ _ _ _)
    | (with_reducible exact ih1 _ _ _ _ _ _ _ _)
    | (with_reducible exact hp _ _)
    | (with_reducible refine LeO.ite ?_ ?_)
    | (with_reducible refine LeO.bind ?_ (fun _ => ?_))
    | exact hp _ _
    | exact LeO.refl _
  ·intro y0 y1 y2 y3 y4 y5 y6 y7
   unfold impl_filled.l1
   repeat'
    first
    | (with_reducible exact LeO.refl _)
    | (with_reducible exact LeO.none _)
    | (with_reducible exact ih0 _ _ _ _ _)
    | (with_reducible exact ih1 _ _ _ _ _ _ _ _)
    | (with_reducible exact hp _ _)
    | (with_reducible refine LeO.ite ?_ ?_)
    | (with_reducible refine LeO.bind ?_ (fun _ => ?_))
    | exact hp _ _
    | exact LeO.refl _
theorem impl_filled.monoP {p p' : Int → Int → Option (Int)} (hp : ∀ y0 y1,LeO (p y0 y1) (p' y0 y1)) : ∀ a0 k,LeO (impl_filled.f p k a0) (impl_filled.f p' (k + 1) a0):=by
 intro a0 k
 refine LeO.trans ?_ (impl_filled.mono p' a0 k)
 have ih:=impl_filled.monoP_l hp k
 obtain ⟨ih0,ih1⟩:=ih
 unfold impl_filled.f
 repeat'
  first
  | (with_reducible exact LeO.refl _)
  | (with_reducible exact LeO.none _)
  | (with_reducible exact ih0 _ _ _ _ _)
  | (with_reducible exact ih1 _ _ _ _ _ _ _ _)
  | (with_reducible exact hp _ _)
  | (with_reducible refine LeO.ite ?_ ?_)
  | (with_reducible refine LeO.bind ?_ (fun _ => ?_))
  | exact hp _ _
  | exact LeO.refl _
end Go.Proofs.Ytengegdaiphfeaa.X
end
section
namespace Go.Proofs.Ytengegdaiphfeaa.X
open Go.RowKit Go.Proofs.YtengegdaiphfeaaW.PrintWords Go.Proofs.YtengegdaiphfeaaW.PrintLast Go.Proofs.YtengegdaiphfeaaW.PrintMore
attribute [local go_sem] max2_int min2_int max_two min_two max_three min_three max_four min_four
set_option linter.unusedVariables false
set_option linter.unusedSimpArgs false
def impl_Matrix_at.f (a0_0 : Int) (l0_1 : List Int) (a1 : Int) (a2 : Int) : Option (Int):=if 0 ≤ (wrap64 ((wrap64 (a1 * a0_0)) + a2)) then (if (wrap64 ((wrap64 (a1 * a0_0)) + a2)) < (l0_1.length : Int) then (some (rd l0_1 (wrap64 ((wrap64 (a1 * a0_0)) + a2)))) else (none)) else (none)
set_option maxHeartbeats 8000000 in
set_option maxRecDepth 100000 in
theorem impl_Matrix_at.calls (a0_0 : Int) (A0_1 : Option Addr) (c0_1 : Nat) (l0_1 : List Int) (a1 : Int) (a2 : Int) (r : Int) (w : World) (hr0_1 : Kd.C (Kd.int .i64) w A0_1 l0_1.length l0_1) (hc0_1 : l0_1.length ≤ c0_1) (h : impl_Matrix_at.f a0_0 l0_1 a1 a2 = some r) :
  Calls Try.prog 61 #[.agg #[.int .i64 a0_0,.slice A0_1 l0_1.length c0_1],.int .i64 a1,.int .i64 a2] w fun e w' => e = .returned (.int .i64 r) ∧ Below w.heap.size w w':=by
 have hu28:=Try.underlying28
 have HR0_1:=Aside0.mk hr0_1
 have HC0_1:=Aside0.mk hc0_1
 clear hr0_1 hc0_1
 have HB:=Aside0.mk (Below.refl w.heap.size w)
 have H : (if 0 ≤ (wrap64 ((wrap64 (a1 * a0_0)) + a2)) then (if (wrap64 ((wrap64 (a1 * a0_0)) + a2)) < (l0_1.length : Int) then (some (rd l0_1 (wrap64 ((wrap64 (a1 * a0_0)) + a2)))) else (none)) else (none)) = some r:=h
 clear h
 obtain ⟨ji4,hji4⟩ : ∃ j_ : Int,(wrap64 ((wrap64 (a1 * a0_0)) + a2)) = j_:=⟨_,rfl⟩
 replace H : (if 0 ≤ (ji4) then (if (ji4) < (l0_1.length : Int) then (some (rd l0_1 (ji4))) else (none)) else (none)) = some r:=by first|(rw [hji4] at H;exact H)|(simp only [hji4] at H ⊢;exact H)
 have hji4w : (IntKind.i64.wrap ((wrap64 (a1 * a0_0)) + a2)) = ji4:=(i64_w _).trans hji4
 by_cases c5 : 0 ≤ (ji4)
 ·rw [if_pos c5] at H
  have c5b0 : decide (0 ≤ (ji4)) = true:=decide_eq_true c5
  clear c5
  by_cases c6 : (ji4) < (l0_1.length : Int)
  ·rw [if_pos c6] at H
   have c6b0 : decide ((ji4) < (l0_1.length : Int)) = true:=decide_eq_true c6
   clear c6
   obtain rfl:=Option.some.inj H
   go_enter Try.func61,Try.ntmps61
   go_wp2_with (first|((with_reducible refine gate_dst (N:=3) rfl ?_);refine box_event ?hg (N:=3) ?hd (cs:=#[.int .i64 a0_0,.slice A0_1 l0_1.length c0_1]) (t:=28) ?hr ?_;(case hd => rfl);(case hg => rfl);(case hr => first|(go_simp;done)|(go_simp;rfl));intro gb200 hg w7 hbox hb;have n0_:=Aside0.mk (below_step (be0_ HB.out) hb);have n1_:=Aside0.mk (hbox);have n2_:=Aside0.mk ((by rw [hg];exact (below_size (be0_ HB.out)) : w.heap.size ≤ gb200));have n3_:=Aside0.mk ((by rw [hg];exact (below_size (be0_ HB.out)) : w.heap.size ≤ gb200));clear HB;have HB:=n0_;have BK200:=n1_;have GW200:=n2_;have GE200:=n3_;clear n0_ n1_ n2_ n3_;clear hb hbox hg;have hcz8_0 : w7.cell? ⟨gb200,0,none⟩ = some (.int .i64 a0_0):=(blk_cell BK200.out 0).trans rfl;have hcz8_1 : w7.cell? ⟨gb200,1,none⟩ = some (.slice A0_1 l0_1.length c0_1):=(blk_cell BK200.out 1).trans rfl;have hfz8_0:=blk_frozen BK200.out 0;have hfz8_1:=blk_frozen BK200.out 1;have p201 : 0 ≤ ((ji4) : Int):=of_decide_eq_true (by first|(with_reducible assumption)|assumption);have q201 : (ji4) < (l0_1.length : Int):=of_decide_eq_true (by first|(with_reducible assumption)|assumption);obtain ⟨ad201,e201,hx201_0⟩:=Kd.at_int HR0_1.out (ji4) p201 q201;cases e201;replace hx201_0:=(HB.out.cell (World.block_lt_of_cell? w _ hx201_0)).trans hx201_0;replace p201:=eq_true p201;replace q201:=eq_true q201))
   go_ret
   exact ⟨by first|rfl|(simp [errW_none,errW_some] <;> rfl)|(simp only [← hji4];first|rfl|(simp [errW_none,errW_some] <;> rfl))|(simp [*,errW_none,errW_some] <;> rfl),be1_ HB.out GE200.out⟩
  ·rw [if_neg c6] at H
   exact absurd H (by simp)
 ·rw [if_neg c5] at H
  exact absurd H (by simp)
end Go.Proofs.Ytengegdaiphfeaa.X
end
section
namespace Go.Proofs.Ytengegdaiphfeaa.X
open Go.RowKit Go.Proofs.YtengegdaiphfeaaW.PrintWords Go.Proofs.YtengegdaiphfeaaW.PrintLast Go.Proofs.YtengegdaiphfeaaW.PrintMore
attribute [local go_sem] max2_int min2_int max_two min_two max_three min_three max_four min_four
set_option linter.unusedVariables false
set_option linter.unusedSimpArgs false
def impl_GradesOf_1.f (a0 : Int) (a1 : Int) (a2_0 : Int) (l2_1 : List Int) : Option (Int):=(impl_Matrix_at.f a2_0 l2_1 a0 a1).bind fun t202 => (if t202 = 0 then (some 0) else (if t202 = 1000000 then (some 3) else (some 1)))
set_option maxHeartbeats 8000000 in
set_option maxRecDepth 100000 in
theorem impl_GradesOf_1.calls (a0 : Int) (a1 : Int) (g2 : Nat) (a2_0 : Int) (A2_1 : Option Addr) (c2_1 : Nat) (l2_1 : List Int) (r : Int) (w : World) (hr2_1 : Kd.C (Kd.int .i64) w A2_1 l2_1.length l2_1) (hc2_1 : l2_1.length ≤ c2_1) (hb2 : w.heap[g2]? = some (.cells #[.int .i64 a2_0,.slice A2_1 l2_1.length c2_1] 28 (0,0))) (h : impl_GradesOf_1.f a0 a1 a2_0 l2_1 = some r) :
  Calls Try.prog 60 #[.int .i64 a0,.int .i64 a1,.pointer (some ⟨g2,0,none⟩)] w fun e w' => e = .returned (.int .i64 r) ∧ Below w.heap.size w w':=by
 have hu28:=Try.underlying28
 have HR2_1:=Aside0.mk hr2_1
 have HC2_1:=Aside0.mk hc2_1
 clear hr2_1 hc2_1
 have BK2:=Aside0.mk hb2
 clear hb2
 have HB:=Aside0.mk (Below.refl w.heap.size w)
 have H : ((impl_Matrix_at.f a2_0 l2_1 a0 a1).bind fun t202 => (if t202 = 0 then (some 0) else (if t202 = 1000000 then (some 3) else (some 1)))) = some r:=h
 clear h
 replace H:=Option.bind_eq_some_iff.mp H
 obtain ⟨t202,A40,H⟩:=H
 replace H : (if t202 = 0 then (some 0) else (if t202 = 1000000 then (some 3) else (some 1))) = some r:=H
 have A4:=Aside0.mk A40
 clear A40
 by_cases c5 : t202 = 0
 ·rw [if_pos c5] at H
  have c5b0 : (t202 == 0) = true:=beq_iff_eq.mpr c5
  have c5b1 : (t202 != 0) = false:=bne_eq_false_iff_eq.mpr c5
  clear c5
  obtain rfl:=Option.some.inj H
  have hcz6_0 : w.cell? ⟨g2,0,none⟩ = some (.int .i64 a2_0):=(blk_cell BK2.out 0).trans rfl
  have hcz6_1 : w.cell? ⟨g2,1,none⟩ = some (.slice A2_1 l2_1.length c2_1):=(blk_cell BK2.out 1).trans rfl
  have hfz6_0:=blk_frozen BK2.out 0
  have hfz6_1:=blk_frozen BK2.out 1
  go_enter Try.func60,Try.ntmps60
  go_wp2_with (first|((with_reducible refine gate_callee (f:=61) rfl ?_);refine goesL_ (some 9) rfl rfl Try.func61 (by kernel_rfl) rfl #[.agg #[.int .i64 a2_0,.slice A2_1 l2_1.length c2_1],.int .i64 a0,.int .i64 a1] rfl lp_ ?_;(with_reducible refine (impl_Matrix_at.calls a2_0 _ _ l2_1 a0 a1 t202 _ ?side1 ?side2 A4.out).mono ?_);(case side1 => repeat (first|exact HR2_1.out|(with_reducible refine Kd.C_alloc ?_ _)|(with_reducible refine Kd.C_drewN ?_ _)|(with_reducible refine Kd.C_drew ?_)));(case side2 => exact HC2_1.out);rintro e w7 ⟨rfl,hb⟩;refine ⟨_,rfl,?_⟩;have n0_:=Aside0.mk (blk_below (g:=g2) (o:=.cells #[.int .i64 a2_0,.slice A2_1 l2_1.length c2_1] 28 (0,0)) (pe_ BK2.out) hb);have n1_:=Aside0.mk (below_step (be0_ HB.out) hb);clear BK2;clear HB;have BK2:=n0_;have HB:=n1_;clear n0_ n1_;(try clear hb);(try clear hb2);(try clear hk);(try clear hi)))
  go_ret
  exact ⟨by first|rfl|(simp [errW_none,errW_some] <;> rfl)|(simp [*,errW_none,errW_some] <;> rfl),be0_ HB.out⟩
 ·rw [if_neg c5] at H
  have c5b0 : (t202 == 0) = false:=beq_eq_false_iff_ne.mpr c5
  have c5b1 : (t202 != 0) = true:=bne_iff_ne.mpr c5
  by_cases c8 : t202 = 1000000
  ·rw [if_pos c8] at H
   have c8b0 : (t202 == 1000000) = true:=beq_iff_eq.mpr c8
   have c8b1 : (t202 != 1000000) = false:=bne_eq_false_iff_eq.mpr c8
   clear c8
   obtain rfl:=Option.some.inj H
   have hcz9_0 : w.cell? ⟨g2,0,none⟩ = some (.int .i64 a2_0):=(blk_cell BK2.out 0).trans rfl
   have hcz9_1 : w.cell? ⟨g2,1,none⟩ = some (.slice A2_1 l2_1.length c2_1):=(blk_cell BK2.out 1).trans rfl
   have hfz9_0:=blk_frozen BK2.out 0
   have hfz9_1:=blk_frozen BK2.out 1
   go_enter Try.func60,Try.ntmps60
   go_wp2_with (first|((with_reducible refine gate_callee (f:=61) rfl ?_);refine goesL_ (some 9) rfl rfl Try.func61 (by kernel_rfl) rfl #[.agg #[.int .i64 a2_0,.slice A2_1 l2_1.length c2_1],.int .i64 a0,.int .i64 a1] rfl lp_ ?_;(with_reducible refine (impl_Matrix_at.calls a2_0 _ _ l2_1 a0 a1 t202 _ ?side1 ?side2 A4.out).mono ?_);(case side1 => repeat (first|exact HR2_1.out|(with_reducible refine Kd.C_alloc ?_ _)|(with_reducible refine Kd.C_drewN ?_ _)|(with_reducible refine Kd.C_drew ?_)));(case side2 => exact HC2_1.out);rintro e w10 ⟨rfl,hb⟩;refine ⟨_,rfl,?_⟩;have n0_:=Aside0.mk (blk_below (g:=g2) (o:=.cells #[.int .i64 a2_0,.slice A2_1 l2_1.length c2_1] 28 (0,0)) (pe_ BK2.out) hb);have n1_:=Aside0.mk (below_step (be0_ HB.out) hb);clear BK2;clear HB;have BK2:=n0_;have HB:=n1_;clear n0_ n1_;(try clear hb);(try clear hb2);(try clear hk);(try clear hi)))
   go_ret
   exact ⟨by first|rfl|(simp [errW_none,errW_some] <;> rfl)|(simp [*,errW_none,errW_some] <;> rfl),be0_ HB.out⟩
  ·rw [if_neg c8] at H
   have c8b0 : (t202 == 1000000) = false:=beq_eq_false_iff_ne.mpr c8
   have c8b1 : (t202 != 1000000) = true:=bne_iff_ne.mpr c8
   obtain rfl:=Option.some.inj H
   have hcz11_0 : w.cell? ⟨g2,0,none⟩ = some (.int .i64 a2_0):=(blk_cell BK2.out 0).trans rfl
   have hcz11_1 : w.cell? ⟨g2,1,none⟩ = some (.slice A2_1 l2_1.length c2_1):=(blk_cell BK2.out 1).trans rfl
   have hfz11_0:=blk_frozen BK2.out 0
   have hfz11_1:=blk_frozen BK2.out 1
   go_enter Try.func60,Try.ntmps60
   go_wp2_with (first|((with_reducible refine gate_callee (f:=61) rfl ?_);refine goesL_ (some 9) rfl rfl Try.func61 (by kernel_rfl) rfl #[.agg #[.int .i64 a2_0,.slice A2_1 l2_1.length c2_1],.int .i64 a0,.int .i64 a1] rfl lp_ ?_;(with_reducible refine (impl_Matrix_at.calls a2_0 _ _ l2_1 a0 a1 t202 _ ?side1 ?side2 A4.out).mono ?_);(case side1 => repeat (first|exact HR2_1.out|(with_reducible refine Kd.C_alloc ?_ _)|(with_reducible refine Kd.C_drewN ?_ _)|(with_reducible refine Kd.C_drew ?_)));(case side2 => exact HC2_1.out);rintro e w12 ⟨rfl,hb⟩;refine ⟨_,rfl,?_⟩;have n0_:=Aside0.mk (blk_below (g:=g2) (o:=.cells #[.int .i64 a2_0,.slice A2_1 l2_1.length c2_1] 28 (0,0)) (pe_ BK2.out) hb);have n1_:=Aside0.mk (below_step (be0_ HB.out) hb);clear BK2;clear HB;have BK2:=n0_;have HB:=n1_;clear n0_ n1_;(try clear hb);(try clear hb2);(try clear hk);(try clear hi)))
   go_ret
   exact ⟨by first|rfl|(simp [errW_none,errW_some] <;> rfl)|(simp [*,errW_none,errW_some] <;> rfl),be0_ HB.out⟩
end Go.Proofs.Ytengegdaiphfeaa.X
end
section
namespace Go.Proofs.Ytengegdaiphfeaa.X
open Go.RowKit Go.Proofs.YtengegdaiphfeaaW.PrintWords Go.Proofs.YtengegdaiphfeaaW.PrintLast Go.Proofs.YtengegdaiphfeaaW.PrintMore
attribute [local go_sem] max2_int min2_int max_two min_two max_three min_three max_four min_four
set_option linter.unusedVariables false
set_option linter.unusedSimpArgs false
def impl_filled__impl_GradesOf_1.f (k : Nat) (a0 : Int) (a1_0 : Int) (l1_1 : List Int) : Option (Int × List Int):=impl_filled.f (fun y0 y1 => impl_GradesOf_1.f  y0 y1 a1_0 l1_1) k a0
theorem impl_filled__impl_GradesOf_1.mono : ∀ b0 b1 b2 k,LeO (impl_filled__impl_GradesOf_1.f k b0 b1 b2) (impl_filled__impl_GradesOf_1.f (k + 1) b0 b1 b2):=by
 intro b0 b1 b2 k
 exact impl_filled.monoP (fun _ _ => LeO.refl _) _ k
set_option maxHeartbeats 2000000 in
theorem impl_filled__impl_GradesOf_1.calls (k : Nat) (a0 : Int) (g1 : Nat) (a1_0 : Int) (A1_1 : Option Addr) (c1_1 : Nat) (l1_1 : List Int) (r1 : Int) (r2 : List Int) (w : World) (hr1_1 : Kd.C (Kd.int .i64) w A1_1 l1_1.length l1_1) (hc1_1 : l1_1.length ≤ c1_1) (hb1 : w.heap[g1]? = some (.cells #[.int .i64 a1_0,.slice A1_1 l1_1.length c1_1] 28 (0,0))) (h : impl_filled__impl_GradesOf_1.f k a0 a1_0 l1_1 = some (r1,r2)) :
  Calls Try.prog 59 #[.int .i64 a0,.func (.func 60) #[] #[.pointer (some ⟨g1,0,none⟩)]] w fun e w' => ∃ v1_ : Value,e = .returned (.agg #[.int .i64 r1,v1_]) ∧ Kd.R (Kd.int .i64) 3 w' w.heap.size (fun _ => True) v1_ r2 ∧ Below w.heap.size w w':=by
 refine impl_filled.calls k a0 60 #[] #[.pointer (some ⟨g1,0,none⟩)] (fun y0 y1 => impl_GradesOf_1.f  y0 y1 a1_0 l1_1) r1 r2 w  ⟨_,Try.func60,rfl,rfl⟩ ?_ h
 intro ay0 ay1 z0 W_ hB_  h_
 refine calls_of_args (args':=#[.int .i64 ay0,.int .i64 ay1,.pointer (some ⟨g1,0,none⟩)]) (by simp) ?_
 refine (impl_GradesOf_1.calls ay0 ay1 g1 a1_0 A1_1 c1_1 l1_1 z0 W_ (Kd.C_below hr1_1 hB_) hc1_1 (blk_below hb1 hB_) h_).mono ?_
 exact fun e w' h => h
end Go.Proofs.Ytengegdaiphfeaa.X
end
section
namespace Go.Proofs.Ytengegdaiphfeaa.X
open Go.RowKit Go.Proofs.YtengegdaiphfeaaW.PrintWords Go.Proofs.YtengegdaiphfeaaW.PrintLast Go.Proofs.YtengegdaiphfeaaW.PrintMore
attribute [local go_sem] max2_int min2_int max_two min_two max_three min_three max_four min_four
set_option linter.unusedVariables false
set_option linter.unusedSimpArgs false
def impl_CostValid.f (a0 : Int) : Option (Bool):=if a0 ≥ 0 then (some (decide (a0 ≤ 1000000))) else (some false)
set_option maxHeartbeats 8000000 in
set_option maxRecDepth 100000 in
theorem impl_CostValid.calls (a0 : Int) (r : Bool) (w : World) (h : impl_CostValid.f a0 = some r) :
  Calls Try.prog 100 #[.int .i64 a0] w fun e w' => e = .returned (.bool r) ∧ Drawn0 w w':=by
 have H : (if a0 ≥ 0 then (some (decide (a0 ≤ 1000000))) else (some false)) = some r:=h
 clear h
 by_cases c2 : a0 ≥ 0
 ·rw [if_pos c2] at H
  have c2b0 : decide (0 ≤ a0) = true:=decide_eq_true c2
  clear c2
  obtain rfl:=Option.some.inj H
  go_enter Try.func100,Try.ntmps100
  go_wp2
  go_ret
  exact ⟨by first|rfl|(simp;done)|(simp [*];done),by repeat (first|exact Drawn0.refl _|apply Drawn0.step)⟩
 ·rw [if_neg c2] at H
  have c2b0 : decide (0 ≤ a0) = false:=decide_eq_false c2
  clear c2
  obtain rfl:=Option.some.inj H
  go_enter Try.func100,Try.ntmps100
  go_wp2
  go_ret
  exact ⟨by first|rfl|(simp;done)|(simp [*];done),by repeat (first|exact Drawn0.refl _|apply Drawn0.step)⟩
end Go.Proofs.Ytengegdaiphfeaa.X
end
section
namespace Go.Proofs.Ytengegdaiphfeaa.X
open Go.RowKit Go.Proofs.YtengegdaiphfeaaW.PrintWords Go.Proofs.YtengegdaiphfeaaW.PrintLast Go.Proofs.YtengegdaiphfeaaW.PrintMore
attribute [local go_sem] max2_int min2_int max_two min_two max_three min_three max_four min_four
set_option linter.unusedVariables false
set_option linter.unusedSimpArgs false
def impl_MatrixValid_1.f (a0 : Int) : Option (Bool):=(impl_CostValid.f a0).bind fun t191 => (some (!t191))
set_option maxHeartbeats 8000000 in
set_option maxRecDepth 100000 in
theorem impl_MatrixValid_1.calls (a0 : Int) (r : Bool) (w : World) (h : impl_MatrixValid_1.f a0 = some r) :
  Calls Try.prog 99 #[.int .i64 a0] w fun e w' => e = .returned (.bool r) ∧ Drawn0 w w':=by
 have H : ((impl_CostValid.f a0).bind fun t191 => (some (!t191))) = some r:=h
 clear h
 replace H:=Option.bind_eq_some_iff.mp H
 obtain ⟨t191,A20,H⟩:=H
 replace H : (some (!t191)) = some r:=H
 have A2:=Aside0.mk A20
 clear A20
 obtain rfl:=Option.some.inj H
 go_enter Try.func99,Try.ntmps99
 go_wp2_with (first|((with_reducible refine gate_callee (f:=100) rfl ?_);refine goesL_ (some 4) rfl rfl Try.func100 (by kernel_rfl) rfl #[.int .i64 a0] rfl lp_ ?_;(with_reducible refine (impl_CostValid.calls a0 t191 _ A2.out).mono ?_);rintro e w' ⟨rfl,⟨nd,rfl⟩⟩;refine ⟨_,rfl,?_⟩))
 go_ret
 exact ⟨by first|rfl|(simp;done)|(simp [*];done),by repeat (first|exact Drawn0.refl _|apply Drawn0.step)⟩
end Go.Proofs.Ytengegdaiphfeaa.X
end
section
namespace Go.Proofs.Ytengegdaiphfeaa.X
open Go.RowKit Go.Proofs.YtengegdaiphfeaaW.PrintWords Go.Proofs.YtengegdaiphfeaaW.PrintLast Go.Proofs.YtengegdaiphfeaaW.PrintMore
attribute [local go_sem] max2_int min2_int max_two min_two max_three min_three max_four min_four
set_option linter.unusedVariables false
set_option linter.unusedSimpArgs false
def slices_IndexFunc_int_int.l0 (p1 : Int → Option (Bool)) : Nat → List Int → Int → Int → Option (Int)
 | 0,_,_,_ => none
 | k + 1,x0,x7,x8 => if x8 < x7 then (if 0 ≤ x8 then (if x8 < (x0.length : Int) then ((p1 (rd x0 x8)).bind fun t190 => (if t190 = true then (some x8) else (slices_IndexFunc_int_int.l0 p1 k x0 x7 (wrap64 (x8 + 1))))) else (none)) else (none)) else (some (-1))
def slices_IndexFunc_int_int.f (p1 : Int → Option (Bool)) (k : Nat) (l0 : List Int)  : Option (Int):=slices_IndexFunc_int_int.l0 p1 k l0 (l0.length : Int) 0
theorem slices_IndexFunc_int_int.mono_l (p1 : Int → Option (Bool)) : ∀ k,(∀ y0 y1 y2,LeO (slices_IndexFunc_int_int.l0 p1 k y0 y1 y2) (slices_IndexFunc_int_int.l0 p1 (k + 1) y0 y1 y2))
 | 0 => fun _ _ _ r h => by simp [slices_IndexFunc_int_int.l0] at h
 | k + 1 => by
  have ih0:=slices_IndexFunc_int_int.mono_l p1 k
  ·intro y0 y1 y2
   unfold slices_IndexFunc_int_int.l0
   repeat' first
   | (with_reducible exact ih0 _ _ _)
   | (with_reducible exact LeO.refl _)
   | (with_reducible exact LeO.none _)
   | (with_reducible refine LeO.ite ?_ ?_)
   | (with_reducible refine LeO.bind ?_ (fun _ => ?_))
   | exact ih0 _ _ _
   | exact LeO.none _
   | refine LeO.ite ?_ ?_
   | refine LeO.bind ?_ (fun _ => ?_)
theorem slices_IndexFunc_int_int.mono (p1 : Int → Option (Bool)) : ∀ a0 k,LeO (slices_IndexFunc_int_int.f p1 k a0) (slices_IndexFunc_int_int.f p1 (k + 1) a0):=by
 intro a0 k
 have ih0:=slices_IndexFunc_int_int.mono_l p1 k
 unfold slices_IndexFunc_int_int.f
 repeat' first
   | (with_reducible exact ih0 _ _ _)
   | (with_reducible exact LeO.refl _)
   | (with_reducible exact LeO.none _)
   | (with_reducible refine LeO.ite ?_ ?_)
   | (with_reducible refine LeO.bind ?_ (fun _ => ?_))
   | exact ih0 _ _ _
   | exact LeO.none _
   | refine LeO.ite ?_ ?_
   | refine LeO.bind ?_ (fun _ => ?_)
set_option maxHeartbeats 8000000 in
set_option maxRecDepth 100000 in
theorem slices_IndexFunc_int_int.calls (k : Nat) (A0 : Option Addr) (c0 : Nat) (l0 : List Int) (q1 : FuncId) (F1 C1 : Array Value) (p1 : Int → Option (Bool)) (r : Int) (w : World) (hr0 : Kd.C (Kd.int .i64) w A0 l0.length l0) (hc0 : l0.length ≤ c0) (hq1 : FnAt Try.prog q1) (hp1 : ∀ (ay0 : Int) (z0 : Bool) (W_ : World),Below w.heap.size w W_ → p1 ay0 = some z0 → Calls Try.prog q1 (F1 ++ #[.int .i64 ay0] ++ C1) W_ fun e w' => e = .returned (.bool z0) ∧ Below W_.heap.size W_ w') (h : slices_IndexFunc_int_int.f p1 k l0 = some r) :
  Calls Try.prog 104 #[.slice A0 l0.length c0,.func (.func q1) F1 C1] w fun e w' => e = .returned (.int .i64 r) ∧ Below w.heap.size w w':=by
 have HR0:=Aside0.mk hr0
 have HC0:=Aside0.mk hc0
 clear hr0 hc0
 have HQ1:=Aside0.mk hq1
 have HP1:=Aside0.mk hp1
 clear hq1 hp1
 have HB:=Aside0.mk (Below.refl w.heap.size w)
 have H : (slices_IndexFunc_int_int.l0 p1 k l0 (l0.length : Int) 0) = some r:=h
 clear h
 have H':=Aside0.mk H
 clear H
 go_enter Try.func104,Try.ntmps104
 go_wp2
 go_loopg [8] k (fun kq v8 w' => ∃ (x8_1 : Int),v8 = .int .i64 x8_1 ∧ Aside0 (slices_IndexFunc_int_int.l0 p1 kq l0 (l0.length : Int) x8_1 = some r) ∧ Aside0 (kq ≤ k) ∧ Aside0 (Below w.heap.size w w'))
 case atStart => exact ⟨(0),(by first|rfl|(simp;done)|(simp [*];done)),H',⟨Nat.le_refl _⟩,⟨be0_ HB.out⟩⟩
 case round =>
  clear H'
  try clear c1
  try clear p1
  try clear q1
  try clear p2
  obtain ⟨x8_1,rfl,HA,HK1,HB⟩:=hrel
  cases gk with
  | zero => exact absurd HA.out (by simp [slices_IndexFunc_int_int.l0])
  | succ k1 =>
   have H:=HA.out
   clear HA
   simp only [slices_IndexFunc_int_int.l0] at H
   by_cases c3 : x8_1 < (l0.length : Int)
   ·rw [if_pos c3] at H
    have c3b0 : decide (x8_1 < (l0.length : Int)) = true:=decide_eq_true c3
    clear c3
    by_cases c4 : 0 ≤ x8_1
    ·rw [if_pos c4] at H
     have c4b0 : decide (0 ≤ x8_1) = true:=decide_eq_true c4
     clear c4
     by_cases c5 : x8_1 < (l0.length : Int)
     ·rw [if_pos c5] at H
      have c5b0 : decide (x8_1 < (l0.length : Int)) = true:=decide_eq_true c5
      clear c5
      replace H:=Option.bind_eq_some_iff.mp H
      obtain ⟨t190,A60,H⟩:=H
      replace H : (if t190 = true then (some x8_1) else (slices_IndexFunc_int_int.l0 p1 k1 l0 (l0.length : Int) (wrap64 (x8_1 + 1)))) = some r:=H
      have A6:=Aside0.mk A60
      clear A60
      by_cases c7 : t190 = true
      ·subst c7
       have H1 : (some x8_1) = some r:=by rw [if_pos rfl] at H;exact H
       clear H
       have H:=H1
       clear H1
       obtain rfl:=Option.some.inj H
       have p189 : 0 ≤ (x8_1 : Int):=of_decide_eq_true (by first|(with_reducible assumption)|assumption)
       have q189 : x8_1 < (l0.length : Int):=of_decide_eq_true (by first|(with_reducible assumption)|assumption)
       obtain ⟨ad189,e189,hx189_0⟩:=Kd.at_int HR0.out x8_1 p189 q189
       cases e189
       replace hx189_0:=(HB.out.cell (World.block_lt_of_cell? w _ hx189_0)).trans hx189_0
       replace p189:=eq_true p189
       replace q189:=eq_true q189
       go_wp2_with (first|((with_reducible refine gate_dyn rfl ?_);refine goesLD_ (some 16) rfl rfl HQ1.out #[.int .i64 (rd l0 x8_1)] rfl rfl lp_ ?_;(with_reducible refine (HP1.out (rd l0 x8_1) true _ ?side1 A6.out).mono ?_);(case side1 => repeat (first|(with_reducible first|exact HB.out|apply below_alloc|apply pw_below_drewN|apply below_drew1)|exact HB.out));rintro e w8 ⟨rfl,hb⟩;refine ⟨_,rfl,?_⟩;have n0_:=Aside0.mk (below_step (be0_ HB.out) hb);clear HB;have HB:=n0_;clear n0_;(try clear hb);(try clear hb2);(try clear hk);(try clear hi)))
       go_ret
       exact ⟨by first|rfl|(simp [errW_none,errW_some] <;> rfl)|(simp [*,errW_none,errW_some] <;> rfl),be0_ HB.out⟩
      ·replace c7:=Bool.eq_false_iff.mpr c7
       subst c7
       have H1 : (slices_IndexFunc_int_int.l0 p1 k1 l0 (l0.length : Int) (wrap64 (x8_1 + 1))) = some r:=by rw [if_neg (show ¬ (false = true) by decide)] at H;exact H
       clear H
       have H:=H1
       clear H1
       have H':=Aside0.mk H
       clear H
       have p189 : 0 ≤ (x8_1 : Int):=of_decide_eq_true (by first|(with_reducible assumption)|assumption)
       have q189 : x8_1 < (l0.length : Int):=of_decide_eq_true (by first|(with_reducible assumption)|assumption)
       obtain ⟨ad189,e189,hx189_0⟩:=Kd.at_int HR0.out x8_1 p189 q189
       cases e189
       replace hx189_0:=(HB.out.cell (World.block_lt_of_cell? w _ hx189_0)).trans hx189_0
       replace p189:=eq_true p189
       replace q189:=eq_true q189
       go_wp2_with (first|((with_reducible refine gate_dyn rfl ?_);refine goesLD_ (some 16) rfl rfl HQ1.out #[.int .i64 (rd l0 x8_1)] rfl rfl lp_ ?_;(with_reducible refine (HP1.out (rd l0 x8_1) false _ ?side1 A6.out).mono ?_);(case side1 => repeat (first|(with_reducible first|exact HB.out|apply below_alloc|apply pw_below_drewN|apply below_drew1)|exact HB.out));rintro e w9 ⟨rfl,hb⟩;refine ⟨_,rfl,?_⟩;have n0_:=Aside0.mk (below_step (be0_ HB.out) hb);clear HB;have HB:=n0_;clear n0_;(try clear hb);(try clear hb2);(try clear hk);(try clear hi)))
       go_roundg k1
       case measure => have:=HK1.out;omega
       case rel => exact ⟨(wrap64 (x8_1 + 1)),(by first|rfl|(simp;done)|(simp [*];done)),H',⟨by have:=HK1.out;omega⟩,⟨be0_ HB.out⟩⟩
     ·rw [if_neg c5] at H
      exact absurd H (by simp)
    ·rw [if_neg c4] at H
     exact absurd H (by simp)
   ·rw [if_neg c3] at H
    have c3b0 : decide (x8_1 < (l0.length : Int)) = false:=decide_eq_false c3
    clear c3
    obtain rfl:=Option.some.inj H
    go_wp2
    go_ret
    exact ⟨by first|rfl|(simp [errW_none,errW_some] <;> rfl)|(simp [*,errW_none,errW_some] <;> rfl),be0_ HB.out⟩
theorem slices_IndexFunc_int_int.monoP_l {p p' : Int → Option (Bool)} (hp : ∀ y0,LeO (p y0) (p' y0)) : ∀ k,(∀ y0 y1 y2,LeO (slices_IndexFunc_int_int.l0 p k y0 y1 y2) (slices_IndexFunc_int_int.l0 p' k y0 y1 y2))
 | 0 => by
  skip
  all_goals (intros;intro r h;first|(simp [slices_IndexFunc_int_int.l0] at h;done)|(unfold slices_IndexFunc_int_int.l0 at h;simp at h;done))
 | k + 1 => by
  have ih:=slices_IndexFunc_int_int.monoP_l hp k
  have ih0:=ih
  ·intro y0 y1 y2
   unfold slices_IndexFunc_int_int.l0
   repeat'
    first
    | (with_reducible exact LeO.refl _)
    | (with_reducible exact LeO.none _)
    | (with_reducible exact ih0 _ _ _)
    | (with_reducible exact hp _)
    | (with_reducible refine LeO.ite ?_ ?_)
    | (with_reducible refine LeO.bind ?_ (fun _ => ?_))
    | exact hp _
    | exact LeO.refl _
theorem slices_IndexFunc_int_int.monoP {p p' : Int → Option (Bool)} (hp : ∀ y0,LeO (p y0) (p' y0)) : ∀ a0 k,LeO (slices_IndexFunc_int_int.f p k a0) (slices_IndexFunc_int_int.f p' (k + 1) a0):=by
 intro a0 k
 refine LeO.trans ?_ (slices_IndexFunc_int_int.mono p' a0 k)
 have ih:=slices_IndexFunc_int_int.monoP_l hp k
 have ih0:=ih
 unfold slices_IndexFunc_int_int.f
 repeat'
  first
  | (with_reducible exact LeO.refl _)
  | (with_reducible exact LeO.none _)
  | (with_reducible exact ih0 _ _ _)
  | (with_reducible exact hp _)
  | (with_reducible refine LeO.ite ?_ ?_)
  | (with_reducible refine LeO.bind ?_ (fun _ => ?_))
  | exact hp _
  | exact LeO.refl _
end Go.Proofs.Ytengegdaiphfeaa.X
end
section
namespace Go.Proofs.Ytengegdaiphfeaa.X
open Go.RowKit Go.Proofs.YtengegdaiphfeaaW.PrintWords Go.Proofs.YtengegdaiphfeaaW.PrintLast Go.Proofs.YtengegdaiphfeaaW.PrintMore
attribute [local go_sem] max2_int min2_int max_two min_two max_three min_three max_four min_four
set_option linter.unusedVariables false
set_option linter.unusedSimpArgs false
def slices_ContainsFunc_int_int.f (p1 : Int → Option (Bool)) (k : Nat) (l0 : List Int) : Option (Bool):=(slices_IndexFunc_int_int.f p1 k l0).bind fun t => some (decide (t ≥ 0))
theorem slices_ContainsFunc_int_int.mono (p1 : Int → Option (Bool)) : ∀ a0 k,LeO (slices_ContainsFunc_int_int.f p1 k a0) (slices_ContainsFunc_int_int.f p1 (k + 1) a0):=by
 intro a0 k
 unfold slices_ContainsFunc_int_int.f
 exact LeO.bind (slices_IndexFunc_int_int.mono p1 _ _) (fun _ => LeO.refl _)
theorem slices_ContainsFunc_int_int.monoP {p p' : Int → Option (Bool)} (hp : ∀ y0,LeO (p y0) (p' y0)) : ∀ a0 k,LeO (slices_ContainsFunc_int_int.f p k a0) (slices_ContainsFunc_int_int.f p' (k + 1) a0):=by
 intro a0 k
 unfold slices_ContainsFunc_int_int.f
 exact LeO.bind (slices_IndexFunc_int_int.monoP hp _ _) (fun _ => LeO.refl _)
set_option maxHeartbeats 8000000 in
theorem slices_ContainsFunc_int_int.calls (k : Nat) (A0 : Option Addr) (c0 : Nat) (l0 : List Int) (q1 : FuncId) (F1 C1 : Array Value) (p1 : Int → Option (Bool)) (r : Bool) (w : World) (hr0 : Kd.C (Kd.int .i64) w A0 l0.length l0) (hc0 : l0.length ≤ c0) (hq1 : FnAt Try.prog q1) (hp1 : ∀ (ay0 : Int) (z0 : Bool) (W_ : World),Below w.heap.size w W_ → p1 ay0 = some z0 → Calls Try.prog q1 (F1 ++ #[.int .i64 ay0] ++ C1) W_ fun e w' => e = .returned (.bool z0) ∧ Below W_.heap.size W_ w') (h : slices_ContainsFunc_int_int.f p1 k l0 = some r) :
  Calls Try.prog 80 #[.slice A0 l0.length c0,.func (.func q1) F1 C1] w fun e w' => e = .returned (.bool r) ∧ Below w.heap.size w w':=by
 obtain ⟨t,h1,h2⟩:=Option.bind_eq_some_iff.mp h
 have C:=Aside0.mk (slices_IndexFunc_int_int.calls k A0 c0 l0 q1 F1 C1 p1 t w hr0 hc0 hq1 hp1 h1)
 clear h hr0 hc0 hq1 hp1 h1
 obtain rfl:=Option.some.inj h2
 clear h2
 go_enter Try.func80,Try.ntmps80
 go_wp2_with (first|((with_reducible refine gate_callee (f:=104) rfl ?_);refine goesL_ (some 7) rfl rfl Try.func104 (by kernel_rfl) rfl #[.slice A0 l0.length c0,.func (.func q1) F1 C1] rfl (by (try simp only [List.map_toArray,List.map_cons,List.map_nil]);first|done|rfl) ?_;refine C.out.mono ?_;rintro e w' ⟨rfl,hb⟩;have HB:=Aside0.mk hb;clear hb;refine ⟨_,rfl,?_⟩))
 go_ret
 exact ⟨by first|rfl|(simp;done)|(simp [*];done),HB.out⟩
end Go.Proofs.Ytengegdaiphfeaa.X
end
section
namespace Go.Proofs.Ytengegdaiphfeaa.X
open Go.RowKit Go.Proofs.YtengegdaiphfeaaW.PrintWords Go.Proofs.YtengegdaiphfeaaW.PrintLast Go.Proofs.YtengegdaiphfeaaW.PrintMore
attribute [local go_sem] max2_int min2_int max_two min_two max_three min_three max_four min_four
set_option linter.unusedVariables false
set_option linter.unusedSimpArgs false
def slices_ContainsFunc_int_int__impl_MatrixValid_1.f (k : Nat) (l0 : List Int) : Option (Bool):=slices_ContainsFunc_int_int.f (fun y0 => impl_MatrixValid_1.f  y0 ) k l0
theorem slices_ContainsFunc_int_int__impl_MatrixValid_1.mono : ∀ b0 k,LeO (slices_ContainsFunc_int_int__impl_MatrixValid_1.f k b0) (slices_ContainsFunc_int_int__impl_MatrixValid_1.f (k + 1) b0):=by
 intro b0 k
 exact slices_ContainsFunc_int_int.monoP (fun _ => LeO.refl _) _ k
set_option maxHeartbeats 2000000 in
theorem slices_ContainsFunc_int_int__impl_MatrixValid_1.calls (k : Nat) (A0 : Option Addr) (c0 : Nat) (l0 : List Int) (r : Bool) (w : World) (hr0 : Kd.C (Kd.int .i64) w A0 l0.length l0) (hc0 : l0.length ≤ c0) (h : slices_ContainsFunc_int_int__impl_MatrixValid_1.f k l0 = some r) :
  Calls Try.prog 80 #[.slice A0 l0.length c0,.func (.func 99) #[] #[]] w fun e w' => e = .returned (.bool r) ∧ Below w.heap.size w w':=by
 refine slices_ContainsFunc_int_int.calls k A0 c0 l0 99 #[] #[] (fun y0 => impl_MatrixValid_1.f  y0 ) r w hr0 hc0 ⟨_,Try.func99,rfl,rfl⟩ ?_ h
 intro ay0 z0 W_ hB_  h_
 refine calls_of_args (args':=#[.int .i64 ay0]) (by simp) ?_
 refine (impl_MatrixValid_1.calls ay0 z0 W_  h_).mono ?_
 rintro e w' ⟨rfl,hd⟩
 exact ⟨rfl,hd.below⟩
end Go.Proofs.Ytengegdaiphfeaa.X
end
section
namespace Go.Proofs.Ytengegdaiphfeaa.X
open Go.RowKit Go.Proofs.YtengegdaiphfeaaW.PrintWords Go.Proofs.YtengegdaiphfeaaW.PrintLast Go.Proofs.YtengegdaiphfeaaW.PrintMore
attribute [local go_sem] max2_int min2_int max_two min_two max_three min_three max_four min_four
set_option linter.unusedVariables false
set_option linter.unusedSimpArgs false
def impl_MatrixValid.f (k : Nat) (a0_0 : Int) (l0_1 : List Int) : Option (Bool):=if a0_0 < 1 then (some false) else (if a0_0 > 4 then (some false) else (if (l0_1.length : Int) = (wrap64 (a0_0 * a0_0)) then ((slices_ContainsFunc_int_int__impl_MatrixValid_1.f k l0_1).bind fun t193 => (some (!t193))) else (some false)))
theorem impl_MatrixValid.mono : ∀ a0 a1 k,LeO (impl_MatrixValid.f k a0 a1) (impl_MatrixValid.f (k + 1) a0 a1):=by
 intro a0 a1 k
 unfold impl_MatrixValid.f
 repeat' first
   | (with_reducible exact slices_ContainsFunc_int_int__impl_MatrixValid_1.mono _ _)
   | (with_reducible exact LeO.refl _)
   | (with_reducible exact LeO.none _)
   | (with_reducible refine LeO.ite ?_ ?_)
   | (with_reducible refine LeO.bind ?_ (fun _ => ?_))
   | exact slices_ContainsFunc_int_int__impl_MatrixValid_1.mono _ _
   | exact LeO.none _
   | refine LeO.ite ?_ ?_
   | refine LeO.bind ?_ (fun _ => ?_)
set_option maxHeartbeats 8000000 in
set_option maxRecDepth 100000 in
theorem impl_MatrixValid.calls (k : Nat) (a0_0 : Int) (A0_1 : Option Addr) (c0_1 : Nat) (l0_1 : List Int) (r : Bool) (w : World) (hr0_1 : Kd.C (Kd.int .i64) w A0_1 l0_1.length l0_1) (hc0_1 : l0_1.length ≤ c0_1) (h : impl_MatrixValid.f k a0_0 l0_1 = some r) :
  Calls Try.prog 58 #[.agg #[.int .i64 a0_0,.slice A0_1 l0_1.length c0_1]] w fun e w' => e = .returned (.bool r) ∧ Below w.heap.size w w':=by
 have hu28:=Try.underlying28
 have HR0_1:=Aside0.mk hr0_1
 have HC0_1:=Aside0.mk hc0_1
 clear hr0_1 hc0_1
 have HB:=Aside0.mk (Below.refl w.heap.size w)
 have H : (if a0_0 < 1 then (some false) else (if a0_0 > 4 then (some false) else (if (l0_1.length : Int) = (wrap64 (a0_0 * a0_0)) then ((slices_ContainsFunc_int_int__impl_MatrixValid_1.f k l0_1).bind fun t193 => (some (!t193))) else (some false)))) = some r:=h
 clear h
 by_cases c2 : a0_0 < 1
 ·rw [if_pos c2] at H
  have c2b0 : decide (a0_0 < 1) = true:=decide_eq_true c2
  clear c2
  obtain rfl:=Option.some.inj H
  go_enter Try.func58,Try.ntmps58
  go_wp2_with (first|((with_reducible refine gate_dst (N:=1) rfl ?_);(try (refine gate_guard (by rfl) ?_;dsimp only));refine box_event ?hg (N:=1) ?hd (cs:=#[.int .i64 a0_0,.slice A0_1 l0_1.length c0_1]) (t:=28) ?hr ?_;(case hd => rfl);(case hg => rfl);(case hr => first|(go_simp;done)|(go_simp;rfl));intro gb192 hg w3 hbox hb;have n0_:=Aside0.mk (below_step (be0_ HB.out) hb);have n1_:=Aside0.mk (hbox);have n2_:=Aside0.mk ((by rw [hg];exact (below_size (be0_ HB.out)) : w.heap.size ≤ gb192));have n3_:=Aside0.mk ((by rw [hg];exact (below_size (be0_ HB.out)) : w.heap.size ≤ gb192));clear HB;have HB:=n0_;have BK192:=n1_;have GW192:=n2_;have GE192:=n3_;clear n0_ n1_ n2_ n3_;clear hb hbox hg;have hcz4_0 : w3.cell? ⟨gb192,0,none⟩ = some (.int .i64 a0_0):=(blk_cell BK192.out 0).trans rfl;have hcz4_1 : w3.cell? ⟨gb192,1,none⟩ = some (.slice A0_1 l0_1.length c0_1):=(blk_cell BK192.out 1).trans rfl;have hfz4_0:=blk_frozen BK192.out 0;have hfz4_1:=blk_frozen BK192.out 1))
  go_ret
  exact ⟨by first|rfl|(simp [errW_none,errW_some] <;> rfl)|(simp [*,errW_none,errW_some] <;> rfl),be1_ HB.out GE192.out⟩
 ·rw [if_neg c2] at H
  have c2b0 : decide (a0_0 < 1) = false:=decide_eq_false c2
  clear c2
  by_cases c5 : a0_0 > 4
  ·rw [if_pos c5] at H
   have c5b0 : decide (4 < a0_0) = true:=decide_eq_true c5
   clear c5
   obtain rfl:=Option.some.inj H
   go_enter Try.func58,Try.ntmps58
   go_wp2_with (first|((with_reducible refine gate_dst (N:=1) rfl ?_);(try (refine gate_guard (by rfl) ?_;dsimp only));refine box_event ?hg (N:=1) ?hd (cs:=#[.int .i64 a0_0,.slice A0_1 l0_1.length c0_1]) (t:=28) ?hr ?_;(case hd => rfl);(case hg => rfl);(case hr => first|(go_simp;done)|(go_simp;rfl));intro gb192 hg w6 hbox hb;have n0_:=Aside0.mk (below_step (be0_ HB.out) hb);have n1_:=Aside0.mk (hbox);have n2_:=Aside0.mk ((by rw [hg];exact (below_size (be0_ HB.out)) : w.heap.size ≤ gb192));have n3_:=Aside0.mk ((by rw [hg];exact (below_size (be0_ HB.out)) : w.heap.size ≤ gb192));clear HB;have HB:=n0_;have BK192:=n1_;have GW192:=n2_;have GE192:=n3_;clear n0_ n1_ n2_ n3_;clear hb hbox hg;have hcz7_0 : w6.cell? ⟨gb192,0,none⟩ = some (.int .i64 a0_0):=(blk_cell BK192.out 0).trans rfl;have hcz7_1 : w6.cell? ⟨gb192,1,none⟩ = some (.slice A0_1 l0_1.length c0_1):=(blk_cell BK192.out 1).trans rfl;have hfz7_0:=blk_frozen BK192.out 0;have hfz7_1:=blk_frozen BK192.out 1))
   go_ret
   exact ⟨by first|rfl|(simp [errW_none,errW_some] <;> rfl)|(simp [*,errW_none,errW_some] <;> rfl),be1_ HB.out GE192.out⟩
  ·rw [if_neg c5] at H
   have c5b0 : decide (4 < a0_0) = false:=decide_eq_false c5
   clear c5
   by_cases c8 : (l0_1.length : Int) = (wrap64 (a0_0 * a0_0))
   ·rw [if_pos c8] at H
    have c8b0 : ((l0_1.length : Int) == (wrap64 (a0_0 * a0_0))) = true:=beq_iff_eq.mpr c8
    have c8b1 : ((l0_1.length : Int) != (wrap64 (a0_0 * a0_0))) = false:=bne_eq_false_iff_eq.mpr c8
    clear c8
    replace H:=Option.bind_eq_some_iff.mp H
    obtain ⟨t193,A90,H⟩:=H
    replace H : (some (!t193)) = some r:=H
    have A9:=Aside0.mk A90
    clear A90
    obtain rfl:=Option.some.inj H
    go_enter Try.func58,Try.ntmps58
    go_wp2_with (first|((with_reducible refine gate_dst (N:=1) rfl ?_);(try (refine gate_guard (by rfl) ?_;dsimp only));refine box_event ?hg (N:=1) ?hd (cs:=#[.int .i64 a0_0,.slice A0_1 l0_1.length c0_1]) (t:=28) ?hr ?_;(case hd => rfl);(case hg => rfl);(case hr => first|(go_simp;done)|(go_simp;rfl));intro gb192 hg w10 hbox hb;have n0_:=Aside0.mk (below_step (be0_ HB.out) hb);have n1_:=Aside0.mk (hbox);have n2_:=Aside0.mk ((by rw [hg];exact (below_size (be0_ HB.out)) : w.heap.size ≤ gb192));have n3_:=Aside0.mk ((by rw [hg];exact (below_size (be0_ HB.out)) : w.heap.size ≤ gb192));clear HB;have HB:=n0_;have BK192:=n1_;have GW192:=n2_;have GE192:=n3_;clear n0_ n1_ n2_ n3_;clear hb hbox hg;have hcz11_0 : w10.cell? ⟨gb192,0,none⟩ = some (.int .i64 a0_0):=(blk_cell BK192.out 0).trans rfl;have hcz11_1 : w10.cell? ⟨gb192,1,none⟩ = some (.slice A0_1 l0_1.length c0_1):=(blk_cell BK192.out 1).trans rfl;have hfz11_0:=blk_frozen BK192.out 0;have hfz11_1:=blk_frozen BK192.out 1)|((with_reducible refine gate_callee (f:=80) rfl ?_);refine goesL_ (some 24) rfl rfl Try.func80 (by kernel_rfl) rfl #[.slice A0_1 l0_1.length c0_1,.func (.func 99) #[] #[]] rfl lp_ ?_;(with_reducible refine (slices_ContainsFunc_int_int__impl_MatrixValid_1.calls k _ _ l0_1 t193 _ ?side1 ?side2 A9.out).mono ?_);(case side1 => repeat (first|exact (Kd.C_below HR0_1.out HB.out)|(with_reducible refine Kd.C_alloc ?_ _)|(with_reducible refine Kd.C_drewN ?_ _)|(with_reducible refine Kd.C_drew ?_)));(case side2 => exact HC0_1.out);rintro e w12 ⟨rfl,hb⟩;refine ⟨_,rfl,?_⟩;have n0_:=Aside0.mk (blk_below (g:=gb192) (o:=.cells #[.int .i64 a0_0,.slice A0_1 l0_1.length c0_1] 28 (0,0)) (pe_ BK192.out) hb);have n1_:=Aside0.mk (below_step (be1_ HB.out GE192.out) hb);clear BK192;clear HB;have BK192:=n0_;have HB:=n1_;clear n0_ n1_;(try clear hb);(try clear hb2);(try clear hk);(try clear hi)))
    go_ret
    exact ⟨by first|rfl|(simp [errW_none,errW_some] <;> rfl)|(simp [*,errW_none,errW_some] <;> rfl),be1_ HB.out GE192.out⟩
   ·rw [if_neg c8] at H
    have c8b0 : ((l0_1.length : Int) == (wrap64 (a0_0 * a0_0))) = false:=beq_eq_false_iff_ne.mpr c8
    have c8b1 : ((l0_1.length : Int) != (wrap64 (a0_0 * a0_0))) = true:=bne_iff_ne.mpr c8
    obtain rfl:=Option.some.inj H
    go_enter Try.func58,Try.ntmps58
    go_wp2_with (first|((with_reducible refine gate_dst (N:=1) rfl ?_);(try (refine gate_guard (by rfl) ?_;dsimp only));refine box_event ?hg (N:=1) ?hd (cs:=#[.int .i64 a0_0,.slice A0_1 l0_1.length c0_1]) (t:=28) ?hr ?_;(case hd => rfl);(case hg => rfl);(case hr => first|(go_simp;done)|(go_simp;rfl));intro gb192 hg w13 hbox hb;have n0_:=Aside0.mk (below_step (be0_ HB.out) hb);have n1_:=Aside0.mk (hbox);have n2_:=Aside0.mk ((by rw [hg];exact (below_size (be0_ HB.out)) : w.heap.size ≤ gb192));have n3_:=Aside0.mk ((by rw [hg];exact (below_size (be0_ HB.out)) : w.heap.size ≤ gb192));clear HB;have HB:=n0_;have BK192:=n1_;have GW192:=n2_;have GE192:=n3_;clear n0_ n1_ n2_ n3_;clear hb hbox hg;have hcz14_0 : w13.cell? ⟨gb192,0,none⟩ = some (.int .i64 a0_0):=(blk_cell BK192.out 0).trans rfl;have hcz14_1 : w13.cell? ⟨gb192,1,none⟩ = some (.slice A0_1 l0_1.length c0_1):=(blk_cell BK192.out 1).trans rfl;have hfz14_0:=blk_frozen BK192.out 0;have hfz14_1:=blk_frozen BK192.out 1))
    go_ret
    exact ⟨by first|rfl|(simp [errW_none,errW_some] <;> rfl)|(simp [*,errW_none,errW_some] <;> rfl),be1_ HB.out GE192.out⟩
end Go.Proofs.Ytengegdaiphfeaa.X
end
section
namespace Go.Proofs.Ytengegdaiphfeaa.X
open Go.RowKit Go.Proofs.YtengegdaiphfeaaW.PrintWords Go.Proofs.YtengegdaiphfeaaW.PrintLast Go.Proofs.YtengegdaiphfeaaW.PrintMore
attribute [local go_sem] max2_int min2_int max_two min_two max_three min_three max_four min_four
set_option linter.unusedVariables false
set_option linter.unusedSimpArgs false
def impl_GradesOf.f (k : Nat) (a0_0 : Int) (l0_1 : List Int) : Option (Int × List Int × Bool):=(impl_MatrixValid.f k a0_0 l0_1).bind fun t205 => (if t205 = true then ((impl_filled__impl_GradesOf_1.f k a0_0 a0_0 l0_1).bind fun bt206 => (some (bt206.1,bt206.2,true))) else (some (0,([] : List Int),false)))
theorem impl_GradesOf.mono : ∀ a0 a1 k,LeO (impl_GradesOf.f k a0 a1) (impl_GradesOf.f (k + 1) a0 a1):=by
 intro a0 a1 k
 unfold impl_GradesOf.f
 repeat' first
   | (with_reducible exact impl_MatrixValid.mono _ _ _)
   | (with_reducible exact impl_filled__impl_GradesOf_1.mono _ _ _ _)
   | (with_reducible exact LeO.refl _)
   | (with_reducible exact LeO.none _)
   | (with_reducible refine LeO.ite ?_ ?_)
   | (with_reducible refine LeO.bind ?_ (fun _ => ?_))
   | exact impl_MatrixValid.mono _ _ _
   | exact impl_filled__impl_GradesOf_1.mono _ _ _ _
   | exact LeO.none _
   | refine LeO.ite ?_ ?_
   | refine LeO.bind ?_ (fun _ => ?_)
set_option maxHeartbeats 8000000 in
set_option maxRecDepth 100000 in
theorem impl_GradesOf.calls (k : Nat) (a0_0 : Int) (A0_1 : Option Addr) (c0_1 : Nat) (l0_1 : List Int) (r1 : Int) (r2 : List Int) (r3 : Bool) (w : World) (hr0_1 : Kd.C (Kd.int .i64) w A0_1 l0_1.length l0_1) (hc0_1 : l0_1.length ≤ c0_1) (h : impl_GradesOf.f k a0_0 l0_1 = some (r1,r2,r3)) :
  Calls Try.prog 20 #[.agg #[.int .i64 a0_0,.slice A0_1 l0_1.length c0_1]] w fun e w' => ∃ v1_ : Value,e = .returned (.tuple #[.agg #[.int .i64 r1,v1_],.bool r3]) ∧ Kd.R (Kd.int .i64) 3 w' w.heap.size (fun _ => True) v1_ r2 ∧ Below w.heap.size w w':=by
 have hu28:=Try.underlying28
 have HR0_1:=Aside0.mk hr0_1
 have HC0_1:=Aside0.mk hc0_1
 clear hr0_1 hc0_1
 have HB:=Aside0.mk (Below.refl w.heap.size w)
 have H : ((impl_MatrixValid.f k a0_0 l0_1).bind fun t205 => (if t205 = true then ((impl_filled__impl_GradesOf_1.f k a0_0 a0_0 l0_1).bind fun bt206 => (some (bt206.1,bt206.2,true))) else (some (0,([] : List Int),false)))) = some (r1,r2,r3):=h
 clear h
 replace H:=Option.bind_eq_some_iff.mp H
 obtain ⟨t205,A20,H⟩:=H
 replace H : (if t205 = true then ((impl_filled__impl_GradesOf_1.f k a0_0 a0_0 l0_1).bind fun bt206 => (some (bt206.1,bt206.2,true))) else (some (0,([] : List Int),false))) = some (r1,r2,r3):=H
 have A2:=Aside0.mk A20
 clear A20
 by_cases c3 : t205 = true
 ·subst c3
  have H1 : ((impl_filled__impl_GradesOf_1.f k a0_0 a0_0 l0_1).bind fun bt206 => (some (bt206.1,bt206.2,true))) = some (r1,r2,r3):=by rw [if_pos rfl] at H;exact H
  clear H
  have H:=H1
  clear H1
  replace H:=Option.bind_eq_some_iff.mp H
  obtain ⟨⟨t206,t207⟩,A40,H⟩:=H
  replace H : (some (t206,t207,true)) = some (r1,r2,r3):=H
  have A4:=Aside0.mk A40
  clear A40
  simp only [Option.some.injEq,Prod.mk.injEq] at H
  obtain ⟨rfl,rfl,rfl⟩:=H
  go_enter Try.func20,Try.ntmps20
  go_wp2_with (first|((with_reducible refine gate_dst (N:=1) rfl ?_);refine box_event ?hg (N:=1) ?hd (cs:=#[.int .i64 a0_0,.slice A0_1 l0_1.length c0_1]) (t:=28) ?hr ?_;(case hd => rfl);(case hg => rfl);(case hr => first|(go_simp;done)|(go_simp;rfl));intro gb203 hg w5 hbox hb;have n0_:=Aside0.mk (below_step (be0_ HB.out) hb);have n1_:=Aside0.mk (hbox);have n2_:=Aside0.mk ((by rw [hg];exact (below_size (be0_ HB.out)) : w.heap.size ≤ gb203));have n3_:=Aside0.mk ((by rw [hg];exact (below_size (be0_ HB.out)) : w.heap.size ≤ gb203));clear HB;have HB:=n0_;have BK203:=n1_;have GW203:=n2_;have GE203:=n3_;clear n0_ n1_ n2_ n3_;clear hb hbox hg)|((with_reducible refine gate_dst (N:=2) rfl ?_);refine box_event ?hg (N:=2) ?hd (cs:=#[.int .i64 0,.slice none 0 0]) (t:=28) ?hr ?_;(case hd => rfl);(case hg => rfl);(case hr => first|(go_simp;done)|(go_simp;rfl));intro gb204 hg w6 hbox hb;have n0_:=Aside0.mk (blk_below (g:=gb203) (o:=.cells #[.int .i64 a0_0,.slice A0_1 l0_1.length c0_1] 28 (0,0)) (pe_ BK203.out) hb);have n1_:=Aside0.mk (below_step (be1_ HB.out GE203.out) hb);have n2_:=Aside0.mk (hbox);have n3_:=Aside0.mk ((by rw [hg];exact (below_size (be1_ HB.out GE203.out)) : w.heap.size ≤ gb204));have n4_:=Aside0.mk ((by rw [hg];exact (below_size (be1_ HB.out GE203.out)) : w.heap.size ≤ gb204));have n5_:=Aside0.mk ((by rw [hg];exact Nat.ne_of_lt (blk_lt (g:=gb203) (o:=.cells #[.int .i64 a0_0,.slice A0_1 l0_1.length c0_1] 28 (0,0)) (pe_ BK203.out)) : gb203 ≠ gb204));have n6_:=Aside0.mk ((by rw [hg];exact Nat.ne_of_gt (blk_lt (g:=gb203) (o:=.cells #[.int .i64 a0_0,.slice A0_1 l0_1.length c0_1] 28 (0,0)) (pe_ BK203.out)) : gb204 ≠ gb203));clear BK203;clear HB;have BK203:=n0_;have HB:=n1_;have BK204:=n2_;have GW204:=n3_;have GE204:=n4_;have NB203_204:=n5_;have NB204_203:=n6_;clear n0_ n1_ n2_ n3_ n4_ n5_ n6_;clear hb hbox hg;have hnb7:=NB203_204.out;have hnc7:=NB204_203.out;have hcz8_0 : w6.cell? ⟨gb203,0,none⟩ = some (.int .i64 a0_0):=(blk_cell BK203.out 0).trans rfl;have hcz8_1 : w6.cell? ⟨gb203,1,none⟩ = some (.slice A0_1 l0_1.length c0_1):=(blk_cell BK203.out 1).trans rfl;have hfz8_0:=blk_frozen BK203.out 0;have hfz8_1:=blk_frozen BK203.out 1)|((with_reducible refine gate_callee (f:=58) rfl ?_);refine goesL_ (some 5) rfl rfl Try.func58 (by kernel_rfl) rfl #[.agg #[.int .i64 a0_0,.slice A0_1 l0_1.length c0_1]] rfl lp_ ?_;(with_reducible refine (impl_MatrixValid.calls k a0_0 _ _ l0_1 true _ ?side1 ?side2 A2.out).mono ?_);(case side1 => repeat (first|exact (Kd.C_below HR0_1.out HB.out)|(with_reducible refine Kd.C_alloc ?_ _)|(with_reducible refine Kd.C_drewN ?_ _)|(with_reducible refine Kd.C_drew ?_)));(case side2 => exact HC0_1.out);rintro e w9 ⟨rfl,hb⟩;refine ⟨_,rfl,?_⟩;have n0_:=Aside0.mk (blk_below (g:=gb203) (o:=.cells #[.int .i64 a0_0,.slice A0_1 l0_1.length c0_1] 28 (0,0)) (pe_ BK203.out) hb);have n1_:=Aside0.mk (blk_below (g:=gb204) (o:=.cells #[.int .i64 0,.slice none 0 0] 28 (0,0)) (pe_ BK204.out) hb);have n2_:=Aside0.mk (below_step (be2_ HB.out GE203.out GE204.out) hb);clear BK203;clear BK204;clear HB;have BK203:=n0_;have BK204:=n1_;have HB:=n2_;clear n0_ n1_ n2_;(try clear hb);(try clear hb2);(try clear hk);(try clear hi);have hcz10_0 : w9.cell? ⟨gb203,0,none⟩ = some (.int .i64 a0_0):=(blk_cell BK203.out 0).trans rfl;have hcz10_1 : w9.cell? ⟨gb203,1,none⟩ = some (.slice A0_1 l0_1.length c0_1):=(blk_cell BK203.out 1).trans rfl;have hfz10_0:=blk_frozen BK203.out 0;have hfz10_1:=blk_frozen BK203.out 1)|((with_reducible refine gate_callee (f:=59) rfl ?_);refine goesL_ (some 11) rfl rfl Try.func59 (by kernel_rfl) rfl #[.int .i64 a0_0,.func (.func 60) #[] #[.pointer (some ⟨gb203,0,none⟩)]] rfl lp_ ?_;(with_reducible refine (impl_filled__impl_GradesOf_1.calls k a0_0 gb203 a0_0 A0_1 c0_1 l0_1 t206 t207 _ ?side1 ?side2 ?side3 A4.out).mono ?_);(case side1 => repeat (first|exact (Kd.C_below HR0_1.out HB.out)|(with_reducible refine Kd.C_alloc ?_ _)|(with_reducible refine Kd.C_drewN ?_ _)|(with_reducible refine Kd.C_drew ?_)));(case side2 => exact HC0_1.out);(case side3 => refine pe_ ?_;exact BK203.out);rintro e w11 ⟨v208,rfl,ho0,hb⟩;refine ⟨_,rfl,?_⟩;have n0_:=Aside0.mk (Kd.R_lower ho0 (below_size (be2_ HB.out GE203.out GE204.out)));have n1_:=Aside0.mk (blk_below (g:=gb203) (o:=.cells #[.int .i64 a0_0,.slice A0_1 l0_1.length c0_1] 28 (0,0)) (pe_ BK203.out) hb);have n2_:=Aside0.mk (blk_below (g:=gb204) (o:=.cells #[.int .i64 0,.slice none 0 0] 28 (0,0)) (pe_ BK204.out) hb);have n3_:=Aside0.mk (below_step (be2_ HB.out GE203.out GE204.out) hb);clear BK203;clear BK204;clear HB;have HO209:=n0_;have BK203:=n1_;have BK204:=n2_;have HB:=n3_;clear n0_ n1_ n2_ n3_;(try clear hb);(try clear hb2);(try clear hk);(try clear hi);(try clear ho0);have hcz12_0 : w11.cell? ⟨gb204,0,none⟩ = some (.int .i64 0):=(blk_cell BK204.out 0).trans rfl;have hcz12_1 : w11.cell? ⟨gb204,1,none⟩ = some (.slice none 0 0):=(blk_cell BK204.out 1).trans rfl;have hfz12_0:=blk_frozen BK204.out 0;have hfz12_1:=blk_frozen BK204.out 1;obtain ⟨Ao13,co13,eo13⟩:=Kd.R_slice HO209.out;subst eo13))
  refine bodyPost_ret (results_ct rfl _ _ gb204 28 #[.int .i64 t206,.slice Ao13 t207.length co13] (0,0) _ rfl (by refine pe_ ?_;refine blk_put (cs:=#[.int .i64 t206,.slice none 0 0]) ?_ 1 _ rfl;refine pe_ ?_;refine blk_put (cs:=#[.int .i64 0,.slice none 0 0]) ?_ 0 _ rfl;refine pe_ ?_;exact BK204.out) Try.underlying28 rfl (by kernel_rfl)) rfl ?_
  exact ⟨_,by first|rfl|(simp [errW_none,errW_some] <;> rfl)|(simp [*,errW_none,errW_some] <;> rfl),by refine pr_ ?_;exact Kd.R_mono (Kd.R_far (p:=⟨gb204,1,none⟩) (Kd.R_far (p:=⟨gb204,0,none⟩) (Kd.R_types HO209.out BK204.out (by decide)) (fun _ hk => hk.2) (.int .i64 t206)) (fun _ hk => hk.2) (.slice Ao13 t207.length co13)) (fun _ hk => trivial),be2_ HB.out GE203.out GE204.out⟩
 ·replace c3:=Bool.eq_false_iff.mpr c3
  subst c3
  have H1 : (some (0,([] : List Int),false)) = some (r1,r2,r3):=by rw [if_neg (show ¬ (false = true) by decide)] at H;exact H
  clear H
  have H:=H1
  clear H1
  simp only [Option.some.injEq,Prod.mk.injEq] at H
  obtain ⟨rfl,rfl,rfl⟩:=H
  go_enter Try.func20,Try.ntmps20
  go_wp2_with (first|((with_reducible refine gate_dst (N:=1) rfl ?_);refine box_event ?hg (N:=1) ?hd (cs:=#[.int .i64 a0_0,.slice A0_1 l0_1.length c0_1]) (t:=28) ?hr ?_;(case hd => rfl);(case hg => rfl);(case hr => first|(go_simp;done)|(go_simp;rfl));intro gb203 hg w14 hbox hb;have n0_:=Aside0.mk (below_step (be0_ HB.out) hb);have n1_:=Aside0.mk (hbox);have n2_:=Aside0.mk ((by rw [hg];exact (below_size (be0_ HB.out)) : w.heap.size ≤ gb203));have n3_:=Aside0.mk ((by rw [hg];exact (below_size (be0_ HB.out)) : w.heap.size ≤ gb203));clear HB;have HB:=n0_;have BK203:=n1_;have GW203:=n2_;have GE203:=n3_;clear n0_ n1_ n2_ n3_;clear hb hbox hg)|((with_reducible refine gate_dst (N:=2) rfl ?_);refine box_event ?hg (N:=2) ?hd (cs:=#[.int .i64 0,.slice none 0 0]) (t:=28) ?hr ?_;(case hd => rfl);(case hg => rfl);(case hr => first|(go_simp;done)|(go_simp;rfl));intro gb204 hg w15 hbox hb;have n0_:=Aside0.mk (blk_below (g:=gb203) (o:=.cells #[.int .i64 a0_0,.slice A0_1 l0_1.length c0_1] 28 (0,0)) (pe_ BK203.out) hb);have n1_:=Aside0.mk (below_step (be1_ HB.out GE203.out) hb);have n2_:=Aside0.mk (hbox);have n3_:=Aside0.mk ((by rw [hg];exact (below_size (be1_ HB.out GE203.out)) : w.heap.size ≤ gb204));have n4_:=Aside0.mk ((by rw [hg];exact (below_size (be1_ HB.out GE203.out)) : w.heap.size ≤ gb204));have n5_:=Aside0.mk ((by rw [hg];exact Nat.ne_of_lt (blk_lt (g:=gb203) (o:=.cells #[.int .i64 a0_0,.slice A0_1 l0_1.length c0_1] 28 (0,0)) (pe_ BK203.out)) : gb203 ≠ gb204));have n6_:=Aside0.mk ((by rw [hg];exact Nat.ne_of_gt (blk_lt (g:=gb203) (o:=.cells #[.int .i64 a0_0,.slice A0_1 l0_1.length c0_1] 28 (0,0)) (pe_ BK203.out)) : gb204 ≠ gb203));clear BK203;clear HB;have BK203:=n0_;have HB:=n1_;have BK204:=n2_;have GW204:=n3_;have GE204:=n4_;have NB203_204:=n5_;have NB204_203:=n6_;clear n0_ n1_ n2_ n3_ n4_ n5_ n6_;clear hb hbox hg;have hnb16:=NB203_204.out;have hnc16:=NB204_203.out;have hcz17_0 : w15.cell? ⟨gb203,0,none⟩ = some (.int .i64 a0_0):=(blk_cell BK203.out 0).trans rfl;have hcz17_1 : w15.cell? ⟨gb203,1,none⟩ = some (.slice A0_1 l0_1.length c0_1):=(blk_cell BK203.out 1).trans rfl;have hfz17_0:=blk_frozen BK203.out 0;have hfz17_1:=blk_frozen BK203.out 1)|((with_reducible refine gate_callee (f:=58) rfl ?_);refine goesL_ (some 5) rfl rfl Try.func58 (by kernel_rfl) rfl #[.agg #[.int .i64 a0_0,.slice A0_1 l0_1.length c0_1]] rfl lp_ ?_;(with_reducible refine (impl_MatrixValid.calls k a0_0 _ _ l0_1 false _ ?side1 ?side2 A2.out).mono ?_);(case side1 => repeat (first|exact (Kd.C_below HR0_1.out HB.out)|(with_reducible refine Kd.C_alloc ?_ _)|(with_reducible refine Kd.C_drewN ?_ _)|(with_reducible refine Kd.C_drew ?_)));(case side2 => exact HC0_1.out);rintro e w18 ⟨rfl,hb⟩;refine ⟨_,rfl,?_⟩;have n0_:=Aside0.mk (blk_below (g:=gb203) (o:=.cells #[.int .i64 a0_0,.slice A0_1 l0_1.length c0_1] 28 (0,0)) (pe_ BK203.out) hb);have n1_:=Aside0.mk (blk_below (g:=gb204) (o:=.cells #[.int .i64 0,.slice none 0 0] 28 (0,0)) (pe_ BK204.out) hb);have n2_:=Aside0.mk (below_step (be2_ HB.out GE203.out GE204.out) hb);clear BK203;clear BK204;clear HB;have BK203:=n0_;have BK204:=n1_;have HB:=n2_;clear n0_ n1_ n2_;(try clear hb);(try clear hb2);(try clear hk);(try clear hi);have hcz19_0 : w18.cell? ⟨gb204,0,none⟩ = some (.int .i64 0):=(blk_cell BK204.out 0).trans rfl;have hcz19_1 : w18.cell? ⟨gb204,1,none⟩ = some (.slice none 0 0):=(blk_cell BK204.out 1).trans rfl;have hfz19_0:=blk_frozen BK204.out 0;have hfz19_1:=blk_frozen BK204.out 1))
  refine bodyPost_ret (results_ct rfl _ _ gb204 28 #[.int .i64 0,.slice none 0 0] (0,0) _ rfl (by refine pe_ ?_;refine blk_put (cs:=#[.int .i64 0,.slice none 0 0]) ?_ 1 _ rfl;refine pe_ ?_;refine blk_put (cs:=#[.int .i64 0,.slice none 0 0]) ?_ 0 _ rfl;refine pe_ ?_;exact BK204.out) Try.underlying28 rfl (by kernel_rfl)) rfl ?_
  exact ⟨_,by first|rfl|(simp [errW_none,errW_some] <;> rfl)|(simp [*,errW_none,errW_some] <;> rfl),by first|exact Kd.R_nil _ _ _ _ _|exact Kd.N_nil _ _ _ _ _|exact Kd.V_nil _ _ _ _ _|exact Kd.Q_nil _ _ _ _ _|exact Kd.S_nil _ _ _ _ _,be2_ HB.out GE203.out GE204.out⟩
end Go.Proofs.Ytengegdaiphfeaa.X
end
section
namespace Go.Proofs.Ytengegdaiphfeaa.X
open Go.RowKit Go.Proofs.YtengegdaiphfeaaW.PrintWords Go.Proofs.YtengegdaiphfeaaW.PrintLast Go.Proofs.YtengegdaiphfeaaW.PrintMore
attribute [local go_sem] max2_int min2_int max_two min_two max_three min_three max_four min_four
set_option linter.unusedVariables false
set_option linter.unusedSimpArgs false
def impl_GradesValid_1.f (a0 : Int) : Option (Bool):=some (decide (a0 > 3))
set_option maxHeartbeats 8000000 in
set_option maxRecDepth 100000 in
theorem impl_GradesValid_1.calls (a0 : Int) (r : Bool) (w : World) (h : impl_GradesValid_1.f a0 = some r) :
  Calls Try.prog 81 #[.int .i64 a0] w fun e w' => e = .returned (.bool r) ∧ Drawn0 w w':=by
 have H : (some (decide (a0 > 3))) = some r:=h
 clear h
 obtain rfl:=Option.some.inj H
 go_enter Try.func81,Try.ntmps81
 go_wp2
 go_ret
 exact ⟨by first|rfl|(simp;done)|(simp [*];done),by repeat (first|exact Drawn0.refl _|apply Drawn0.step)⟩
end Go.Proofs.Ytengegdaiphfeaa.X
end
section
namespace Go.Proofs.Ytengegdaiphfeaa.X
open Go.RowKit Go.Proofs.YtengegdaiphfeaaW.PrintWords Go.Proofs.YtengegdaiphfeaaW.PrintLast Go.Proofs.YtengegdaiphfeaaW.PrintMore
attribute [local go_sem] max2_int min2_int max_two min_two max_three min_three max_four min_four
set_option linter.unusedVariables false
set_option linter.unusedSimpArgs false
def slices_ContainsFunc_int_int__impl_GradesValid_1.f (k : Nat) (l0 : List Int) : Option (Bool):=slices_ContainsFunc_int_int.f (fun y0 => impl_GradesValid_1.f  y0 ) k l0
theorem slices_ContainsFunc_int_int__impl_GradesValid_1.mono : ∀ b0 k,LeO (slices_ContainsFunc_int_int__impl_GradesValid_1.f k b0) (slices_ContainsFunc_int_int__impl_GradesValid_1.f (k + 1) b0):=by
 intro b0 k
 exact slices_ContainsFunc_int_int.monoP (fun _ => LeO.refl _) _ k
set_option maxHeartbeats 2000000 in
theorem slices_ContainsFunc_int_int__impl_GradesValid_1.calls (k : Nat) (A0 : Option Addr) (c0 : Nat) (l0 : List Int) (r : Bool) (w : World) (hr0 : Kd.C (Kd.int .i64) w A0 l0.length l0) (hc0 : l0.length ≤ c0) (h : slices_ContainsFunc_int_int__impl_GradesValid_1.f k l0 = some r) :
  Calls Try.prog 80 #[.slice A0 l0.length c0,.func (.func 81) #[] #[]] w fun e w' => e = .returned (.bool r) ∧ Below w.heap.size w w':=by
 refine slices_ContainsFunc_int_int.calls k A0 c0 l0 81 #[] #[] (fun y0 => impl_GradesValid_1.f  y0 ) r w hr0 hc0 ⟨_,Try.func81,rfl,rfl⟩ ?_ h
 intro ay0 z0 W_ hB_  h_
 refine calls_of_args (args':=#[.int .i64 ay0]) (by simp) ?_
 refine (impl_GradesValid_1.calls ay0 z0 W_  h_).mono ?_
 rintro e w' ⟨rfl,hd⟩
 exact ⟨rfl,hd.below⟩
end Go.Proofs.Ytengegdaiphfeaa.X
end
section
namespace Go.Proofs.Ytengegdaiphfeaa.X
open Go.RowKit Go.Proofs.YtengegdaiphfeaaW.PrintWords Go.Proofs.YtengegdaiphfeaaW.PrintLast Go.Proofs.YtengegdaiphfeaaW.PrintMore
attribute [local go_sem] max2_int min2_int max_two min_two max_three min_three max_four min_four
set_option linter.unusedVariables false
set_option linter.unusedSimpArgs false
def impl_GradesValid.f (k : Nat) (a0_0 : Int) (l0_1 : List Int) : Option (Bool):=(impl_MatrixValid.f k a0_0 l0_1).bind fun t294 => (if t294 = true then ((slices_ContainsFunc_int_int__impl_GradesValid_1.f k l0_1).bind fun t295 => (some (!t295))) else (some false))
theorem impl_GradesValid.mono : ∀ a0 a1 k,LeO (impl_GradesValid.f k a0 a1) (impl_GradesValid.f (k + 1) a0 a1):=by
 intro a0 a1 k
 unfold impl_GradesValid.f
 repeat' first
   | (with_reducible exact impl_MatrixValid.mono _ _ _)
   | (with_reducible exact slices_ContainsFunc_int_int__impl_GradesValid_1.mono _ _)
   | (with_reducible exact LeO.refl _)
   | (with_reducible exact LeO.none _)
   | (with_reducible refine LeO.ite ?_ ?_)
   | (with_reducible refine LeO.bind ?_ (fun _ => ?_))
   | exact impl_MatrixValid.mono _ _ _
   | exact slices_ContainsFunc_int_int__impl_GradesValid_1.mono _ _
   | exact LeO.none _
   | refine LeO.ite ?_ ?_
   | refine LeO.bind ?_ (fun _ => ?_)
set_option maxHeartbeats 8000000 in
set_option maxRecDepth 100000 in
theorem impl_GradesValid.calls (k : Nat) (a0_0 : Int) (A0_1 : Option Addr) (c0_1 : Nat) (l0_1 : List Int) (r : Bool) (w : World) (hr0_1 : Kd.C (Kd.int .i64) w A0_1 l0_1.length l0_1) (hc0_1 : l0_1.length ≤ c0_1) (h : impl_GradesValid.f k a0_0 l0_1 = some r) :
  Calls Try.prog 36 #[.agg #[.int .i64 a0_0,.slice A0_1 l0_1.length c0_1]] w fun e w' => e = .returned (.bool r) ∧ Below w.heap.size w w':=by
 have hu28:=Try.underlying28
 have HR0_1:=Aside0.mk hr0_1
 have HC0_1:=Aside0.mk hc0_1
 clear hr0_1 hc0_1
 have HB:=Aside0.mk (Below.refl w.heap.size w)
 have H : ((impl_MatrixValid.f k a0_0 l0_1).bind fun t294 => (if t294 = true then ((slices_ContainsFunc_int_int__impl_GradesValid_1.f k l0_1).bind fun t295 => (some (!t295))) else (some false))) = some r:=h
 clear h
 replace H:=Option.bind_eq_some_iff.mp H
 obtain ⟨t294,A20,H⟩:=H
 replace H : (if t294 = true then ((slices_ContainsFunc_int_int__impl_GradesValid_1.f k l0_1).bind fun t295 => (some (!t295))) else (some false)) = some r:=H
 have A2:=Aside0.mk A20
 clear A20
 by_cases c3 : t294 = true
 ·subst c3
  have H1 : ((slices_ContainsFunc_int_int__impl_GradesValid_1.f k l0_1).bind fun t295 => (some (!t295))) = some r:=by rw [if_pos rfl] at H;exact H
  clear H
  have H:=H1
  clear H1
  replace H:=Option.bind_eq_some_iff.mp H
  obtain ⟨t295,A40,H⟩:=H
  replace H : (some (!t295)) = some r:=H
  have A4:=Aside0.mk A40
  clear A40
  obtain rfl:=Option.some.inj H
  go_enter Try.func36,Try.ntmps36
  go_wp2_with (first|((with_reducible refine gate_dst (N:=1) rfl ?_);refine box_event ?hg (N:=1) ?hd (cs:=#[.int .i64 a0_0,.slice A0_1 l0_1.length c0_1]) (t:=28) ?hr ?_;(case hd => rfl);(case hg => rfl);(case hr => first|(go_simp;done)|(go_simp;rfl));intro gb293 hg w5 hbox hb;have n0_:=Aside0.mk (below_step (be0_ HB.out) hb);have n1_:=Aside0.mk (hbox);have n2_:=Aside0.mk ((by rw [hg];exact (below_size (be0_ HB.out)) : w.heap.size ≤ gb293));have n3_:=Aside0.mk ((by rw [hg];exact (below_size (be0_ HB.out)) : w.heap.size ≤ gb293));clear HB;have HB:=n0_;have BK293:=n1_;have GW293:=n2_;have GE293:=n3_;clear n0_ n1_ n2_ n3_;clear hb hbox hg;have hcz6_0 : w5.cell? ⟨gb293,0,none⟩ = some (.int .i64 a0_0):=(blk_cell BK293.out 0).trans rfl;have hcz6_1 : w5.cell? ⟨gb293,1,none⟩ = some (.slice A0_1 l0_1.length c0_1):=(blk_cell BK293.out 1).trans rfl;have hfz6_0:=blk_frozen BK293.out 0;have hfz6_1:=blk_frozen BK293.out 1)|((with_reducible refine gate_callee (f:=58) rfl ?_);refine goesL_ (some 4) rfl rfl Try.func58 (by kernel_rfl) rfl #[.agg #[.int .i64 a0_0,.slice A0_1 l0_1.length c0_1]] rfl lp_ ?_;(with_reducible refine (impl_MatrixValid.calls k a0_0 _ _ l0_1 true _ ?side1 ?side2 A2.out).mono ?_);(case side1 => repeat (first|exact (Kd.C_below HR0_1.out HB.out)|(with_reducible refine Kd.C_alloc ?_ _)|(with_reducible refine Kd.C_drewN ?_ _)|(with_reducible refine Kd.C_drew ?_)));(case side2 => exact HC0_1.out);rintro e w7 ⟨rfl,hb⟩;refine ⟨_,rfl,?_⟩;have n0_:=Aside0.mk (blk_below (g:=gb293) (o:=.cells #[.int .i64 a0_0,.slice A0_1 l0_1.length c0_1] 28 (0,0)) (pe_ BK293.out) hb);have n1_:=Aside0.mk (below_step (be1_ HB.out GE293.out) hb);clear BK293;clear HB;have BK293:=n0_;have HB:=n1_;clear n0_ n1_;(try clear hb);(try clear hb2);(try clear hk);(try clear hi);have hcz8_0 : w7.cell? ⟨gb293,0,none⟩ = some (.int .i64 a0_0):=(blk_cell BK293.out 0).trans rfl;have hcz8_1 : w7.cell? ⟨gb293,1,none⟩ = some (.slice A0_1 l0_1.length c0_1):=(blk_cell BK293.out 1).trans rfl;have hfz8_0:=blk_frozen BK293.out 0;have hfz8_1:=blk_frozen BK293.out 1)|(go_at_call 80;(with_reducible refine (slices_ContainsFunc_int_int__impl_GradesValid_1.calls k _ _ l0_1 t295 _ ?side1 ?side2 A4.out).mono ?_);(case side1 => repeat (first|exact (Kd.C_below HR0_1.out HB.out)|(with_reducible refine Kd.C_alloc ?_ _)|(with_reducible refine Kd.C_drewN ?_ _)|(with_reducible refine Kd.C_drew ?_)));(case side2 => exact HC0_1.out);rintro e w9 ⟨rfl,hb⟩;have n0_:=Aside0.mk (blk_below (g:=gb293) (o:=.cells #[.int .i64 a0_0,.slice A0_1 l0_1.length c0_1] 28 (0,0)) (pe_ BK293.out) hb);have n1_:=Aside0.mk (below_step (be1_ HB.out GE293.out) hb);clear BK293;clear HB;have BK293:=n0_;have HB:=n1_;clear n0_ n1_;(try clear hb);(try clear hb2);(try clear hk);(try clear hi)))
  go_ret
  exact ⟨by first|rfl|(simp [errW_none,errW_some] <;> rfl)|(simp [*,errW_none,errW_some] <;> rfl),be1_ HB.out GE293.out⟩
 ·replace c3:=Bool.eq_false_iff.mpr c3
  subst c3
  have H1 : (some false) = some r:=by rw [if_neg (show ¬ (false = true) by decide)] at H;exact H
  clear H
  have H:=H1
  clear H1
  obtain rfl:=Option.some.inj H
  go_enter Try.func36,Try.ntmps36
  go_wp2_with (first|((with_reducible refine gate_dst (N:=1) rfl ?_);refine box_event ?hg (N:=1) ?hd (cs:=#[.int .i64 a0_0,.slice A0_1 l0_1.length c0_1]) (t:=28) ?hr ?_;(case hd => rfl);(case hg => rfl);(case hr => first|(go_simp;done)|(go_simp;rfl));intro gb293 hg w10 hbox hb;have n0_:=Aside0.mk (below_step (be0_ HB.out) hb);have n1_:=Aside0.mk (hbox);have n2_:=Aside0.mk ((by rw [hg];exact (below_size (be0_ HB.out)) : w.heap.size ≤ gb293));have n3_:=Aside0.mk ((by rw [hg];exact (below_size (be0_ HB.out)) : w.heap.size ≤ gb293));clear HB;have HB:=n0_;have BK293:=n1_;have GW293:=n2_;have GE293:=n3_;clear n0_ n1_ n2_ n3_;clear hb hbox hg;have hcz11_0 : w10.cell? ⟨gb293,0,none⟩ = some (.int .i64 a0_0):=(blk_cell BK293.out 0).trans rfl;have hcz11_1 : w10.cell? ⟨gb293,1,none⟩ = some (.slice A0_1 l0_1.length c0_1):=(blk_cell BK293.out 1).trans rfl;have hfz11_0:=blk_frozen BK293.out 0;have hfz11_1:=blk_frozen BK293.out 1)|((with_reducible refine gate_callee (f:=58) rfl ?_);refine goesL_ (some 4) rfl rfl Try.func58 (by kernel_rfl) rfl #[.agg #[.int .i64 a0_0,.slice A0_1 l0_1.length c0_1]] rfl lp_ ?_;(with_reducible refine (impl_MatrixValid.calls k a0_0 _ _ l0_1 false _ ?side1 ?side2 A2.out).mono ?_);(case side1 => repeat (first|exact (Kd.C_below HR0_1.out HB.out)|(with_reducible refine Kd.C_alloc ?_ _)|(with_reducible refine Kd.C_drewN ?_ _)|(with_reducible refine Kd.C_drew ?_)));(case side2 => exact HC0_1.out);rintro e w12 ⟨rfl,hb⟩;refine ⟨_,rfl,?_⟩;have n0_:=Aside0.mk (blk_below (g:=gb293) (o:=.cells #[.int .i64 a0_0,.slice A0_1 l0_1.length c0_1] 28 (0,0)) (pe_ BK293.out) hb);have n1_:=Aside0.mk (below_step (be1_ HB.out GE293.out) hb);clear BK293;clear HB;have BK293:=n0_;have HB:=n1_;clear n0_ n1_;(try clear hb);(try clear hb2);(try clear hk);(try clear hi)))
  go_ret
  exact ⟨by first|rfl|(simp [errW_none,errW_some] <;> rfl)|(simp [*,errW_none,errW_some] <;> rfl),be1_ HB.out GE293.out⟩
end Go.Proofs.Ytengegdaiphfeaa.X
end
section
namespace Go.Proofs.Ytengegdaiphfeaa.X
open Go.RowKit Go.Proofs.YtengegdaiphfeaaW.PrintWords Go.Proofs.YtengegdaiphfeaaW.PrintLast Go.Proofs.YtengegdaiphfeaaW.PrintMore
attribute [local go_sem] max2_int min2_int max_two min_two max_three min_three max_four min_four
set_option linter.unusedVariables false
set_option linter.unusedSimpArgs false
def impl_MulGrades_1.l0 : Nat → Int → Int → Int → Int → Int → Int → List Int → Int → List Int → Option (Int)
 | 0,_,_,_,_,_,_,_,_,_ => none
 | k + 1,x0,x1,x7,x10,x11,x3000,x3001,x4000,x4001 => if x11 < x10 then ((impl_Matrix_at.f x3000 x3001 x0 x11).bind fun t296 => ((impl_Matrix_at.f x4000 x4001 x11 x1).bind fun t297 => (impl_MulGrades_1.l0 k x0 x1 (mn x7 (mx t296 t297)) x10 (wrap64 (x11 + 1)) x3000 x3001 x4000 x4001))) else (some x7)
def impl_MulGrades_1.f (k : Nat) (a0 : Int) (a1 : Int) (a2_0 : Int) (l2_1 : List Int) (a3_0 : Int) (l3_1 : List Int) : Option (Int):=impl_MulGrades_1.l0 k a0 a1 3 a2_0 0 a2_0 l2_1 a3_0 l3_1
theorem impl_MulGrades_1.mono_l : ∀ k,(∀ y0 y1 y2 y3 y4 y5 y6 y7 y8,LeO (impl_MulGrades_1.l0 k y0 y1 y2 y3 y4 y5 y6 y7 y8) (impl_MulGrades_1.l0 (k + 1) y0 y1 y2 y3 y4 y5 y6 y7 y8))
 | 0 => fun _ _ _ _ _ _ _ _ _ r h => by simp [impl_MulGrades_1.l0] at h
 | k + 1 => by
  have ih0:=impl_MulGrades_1.mono_l k
  ·intro y0 y1 y2 y3 y4 y5 y6 y7 y8
   unfold impl_MulGrades_1.l0
   repeat' first
   | (with_reducible exact ih0 _ _ _ _ _ _ _ _ _)
   | (with_reducible exact LeO.refl _)
   | (with_reducible exact LeO.none _)
   | (with_reducible refine LeO.ite ?_ ?_)
   | (with_reducible refine LeO.bind ?_ (fun _ => ?_))
   | exact ih0 _ _ _ _ _ _ _ _ _
   | exact LeO.none _
   | refine LeO.ite ?_ ?_
   | refine LeO.bind ?_ (fun _ => ?_)
theorem impl_MulGrades_1.mono : ∀ a0 a1 a2 a3 a4 a5 k,LeO (impl_MulGrades_1.f k a0 a1 a2 a3 a4 a5) (impl_MulGrades_1.f (k + 1) a0 a1 a2 a3 a4 a5):=by
 intro a0 a1 a2 a3 a4 a5 k
 have ih0:=impl_MulGrades_1.mono_l k
 unfold impl_MulGrades_1.f
 repeat' first
   | (with_reducible exact ih0 _ _ _ _ _ _ _ _ _)
   | (with_reducible exact LeO.refl _)
   | (with_reducible exact LeO.none _)
   | (with_reducible refine LeO.ite ?_ ?_)
   | (with_reducible refine LeO.bind ?_ (fun _ => ?_))
   | exact ih0 _ _ _ _ _ _ _ _ _
   | exact LeO.none _
   | refine LeO.ite ?_ ?_
   | refine LeO.bind ?_ (fun _ => ?_)
def impl_MulGrades_1.T5 : Bool × List (List Nat × List Nat):=(true,[([],[]),([],[]),([],[]),([],[]),([1,2,3],[1,2,3]),([],[]),([],[]),([],[]),([5,6,7,4],[5,6,7]),([4,8],[4,8]),([0,9],[0,9]),([10,8,0,1,2,3,4,5,6,7,8,9,10],[0,10])])
def impl_MulGrades_1.B5 : List Nat:=[0,0,0,0,14,0,0,0,254,510,1023,2047]
theorem impl_MulGrades_1.tab5 : rtab .any (opsOf Try.f69 5) = impl_MulGrades_1.T5:=by kernel_rfl
theorem impl_MulGrades_1.bits5 : waitsOk impl_MulGrades_1.T5.2 impl_MulGrades_1.B5 = true:=by kernel_rfl
set_option maxHeartbeats 8000000 in
set_option maxRecDepth 100000 in
theorem impl_MulGrades_1.calls (k : Nat) (a0 : Int) (a1 : Int) (g2 : Nat) (a2_0 : Int) (A2_1 : Option Addr) (c2_1 : Nat) (l2_1 : List Int) (g3 : Nat) (a3_0 : Int) (A3_1 : Option Addr) (c3_1 : Nat) (l3_1 : List Int) (r : Int) (w : World) (hr2_1 : Kd.C (Kd.int .i64) w A2_1 l2_1.length l2_1) (hc2_1 : l2_1.length ≤ c2_1) (hr3_1 : Kd.C (Kd.int .i64) w A3_1 l3_1.length l3_1) (hc3_1 : l3_1.length ≤ c3_1) (hb2 : w.heap[g2]? = some (.cells #[.int .i64 a2_0,.slice A2_1 l2_1.length c2_1] 28 (0,0))) (hb3 : w.heap[g3]? = some (.cells #[.int .i64 a3_0,.slice A3_1 l3_1.length c3_1] 28 (0,0))) (h : impl_MulGrades_1.f k a0 a1 a2_0 l2_1 a3_0 l3_1 = some r) :
  Calls Try.prog 69 #[.int .i64 a0,.int .i64 a1,.pointer (some ⟨g2,0,none⟩),.pointer (some ⟨g3,0,none⟩)] w fun e w' => e = .returned (.int .i64 r) ∧ Below w.heap.size w w':=by
 have hu28:=Try.underlying28
 have HR2_1:=Aside0.mk hr2_1
 have HC2_1:=Aside0.mk hc2_1
 clear hr2_1 hc2_1
 have HR3_1:=Aside0.mk hr3_1
 have HC3_1:=Aside0.mk hc3_1
 clear hr3_1 hc3_1
 have BK2:=Aside0.mk hb2
 clear hb2
 have BK3:=Aside0.mk hb3
 clear hb3
 have HB:=Aside0.mk (Below.refl w.heap.size w)
 have H : (impl_MulGrades_1.l0 k a0 a1 3 a2_0 0 a2_0 l2_1 a3_0 l3_1) = some r:=h
 clear h
 have H':=Aside0.mk H
 clear H
 have hcz5_0 : w.cell? ⟨g2,0,none⟩ = some (.int .i64 a2_0):=(blk_cell BK2.out 0).trans rfl
 have hcz5_1 : w.cell? ⟨g2,1,none⟩ = some (.slice A2_1 l2_1.length c2_1):=(blk_cell BK2.out 1).trans rfl
 have hfz5_0:=blk_frozen BK2.out 0
 have hfz5_1:=blk_frozen BK2.out 1
 go_enter Try.func69,Try.ntmps69
 go_wp2
 go_loopg [7,11] k (fun kq v7 v11 w' => ∃ (x7_1 : Int) (x11_1 : Int),v7 = .int .i64 x7_1 ∧ v11 = .int .i64 x11_1 ∧ Aside0 (impl_MulGrades_1.l0 kq a0 a1 x7_1 a2_0 x11_1 a2_0 l2_1 a3_0 l3_1 = some r) ∧ Aside0 (kq ≤ k) ∧ Aside0 (w'.heap[g2]? = some (.cells #[.int .i64 a2_0,(.slice A2_1 l2_1.length c2_1)] 28 (0,0))) ∧ Aside0 (w'.heap[g3]? = some (.cells #[.int .i64 a3_0,(.slice A3_1 l3_1.length c3_1)] 28 (0,0))) ∧ Aside0 (Below w.heap.size w w'))
 case atStart => exact ⟨(3),(0),(by first|rfl|(simp;done)|(simp [*];done)),(by first|rfl|(simp;done)|(simp [*];done)),H',⟨Nat.le_refl _⟩,⟨pe_ BK2.out⟩,⟨pe_ BK3.out⟩,⟨be0_ HB.out⟩⟩
 case round =>
  clear H'
  try clear c2
  try clear p2
  try clear c3
  try clear hcz5_0
  try clear hcz5_1
  try clear hfz5_0
  try clear hfz5_1
  obtain ⟨x7_1,x11_1,rfl,rfl,HA,HK1,BK2,BK3,HB⟩:=hrel
  cases gk with
  | zero => exact absurd HA.out (by simp [impl_MulGrades_1.l0])
  | succ k1 =>
   have H:=HA.out
   clear HA
   simp only [impl_MulGrades_1.l0] at H
   by_cases c6 : x11_1 < a2_0
   ·rw [if_pos c6] at H
    have c6b0 : decide (x11_1 < a2_0) = true:=decide_eq_true c6
    clear c6
    replace H:=Option.bind_eq_some_iff.mp H
    obtain ⟨t296,A70,H⟩:=H
    replace H : ((impl_Matrix_at.f a3_0 l3_1 x11_1 a1).bind fun t297 => (impl_MulGrades_1.l0 k1 a0 a1 (mn x7_1 (mx t296 t297)) a2_0 (wrap64 (x11_1 + 1)) a2_0 l2_1 a3_0 l3_1)) = some r:=H
    have A7:=Aside0.mk A70
    clear A70
    replace H:=Option.bind_eq_some_iff.mp H
    obtain ⟨t297,A80,H⟩:=H
    replace H : (impl_MulGrades_1.l0 k1 a0 a1 (mn x7_1 (mx t296 t297)) a2_0 (wrap64 (x11_1 + 1)) a2_0 l2_1 a3_0 l3_1) = some r:=H
    have A8:=Aside0.mk A80
    clear A80
    obtain ⟨ji9,hji9⟩ : ∃ j_ : Int,(mx t296 t297) = j_:=⟨_,rfl⟩
    replace H : (impl_MulGrades_1.l0 k1 a0 a1 (mn x7_1 (ji9)) a2_0 (wrap64 (x11_1 + 1)) a2_0 l2_1 a3_0 l3_1) = some r:=by first|(rw [hji9] at H;exact H)|(simp only [hji9] at H ⊢;exact H)
    (try rw [hji9] at A7)
    (try rw [hji9] at A8)
    have hji9_ : (if t296 < t297 then t297 else t296) = ji9:=hji9
    obtain ⟨ji10,hji10⟩ : ∃ j_ : Int,(mn x7_1 (ji9)) = j_:=⟨_,rfl⟩
    replace H : (impl_MulGrades_1.l0 k1 a0 a1 ji10 a2_0 (wrap64 (x11_1 + 1)) a2_0 l2_1 a3_0 l3_1) = some r:=by first|(rw [hji10] at H;exact H)|(simp only [hji10] at H ⊢;exact H)
    (try rw [hji10] at A7)
    (try rw [hji10] at A8)
    have hji10_ : (if (ji9) < x7_1 then (ji9) else x7_1) = ji10:=hji10
    have H':=Aside0.mk H
    clear H
    try go_wp2
    have n0_:=Aside0.mk (blk_drew BK2.out)
    have n1_:=Aside0.mk (blk_drew BK3.out)
    have n2_:=Aside0.mk (below_drew1 HB.out)
    clear BK2
    clear BK3
    clear HB
    have BK2:=n0_
    have BK3:=n1_
    have HB:=n2_
    clear n0_ n1_ n2_
    refine start_ (n:=12) (S:=fun w' => w'.cell? ⟨g2,0,none⟩ = some (.int .i64 a2_0) ∧ w'.cell? ⟨g2,1,none⟩ = some (.slice A2_1 l2_1.length c2_1) ∧ w'.cell? ⟨g3,0,none⟩ = some (.int .i64 a3_0) ∧ w'.cell? ⟨g3,1,none⟩ = some (.slice A3_1 l3_1.length c3_1)) (ds:=[]) #[false,false,false,false,false,false,false,false,false,false,false,false] (by kernel_rfl) rfl rfl ⟨(blk_cell BK2.out 0).trans rfl,(blk_cell BK2.out 1).trans rfl,(blk_cell BK3.out 0).trans rfl,(blk_cell BK3.out 1).trans rfl⟩ (fun hHeld => ?_);refine with_tabW impl_MulGrades_1.tab5 impl_MulGrades_1.bits5 (fun HT_ HW_ => ?_)
    generalize wr.drew = w11 at BK2 BK3 HB hHeld ⊢
    refine pure_ (i:=0) (N:=some 14) (v:=?_) (a':=?_) #[true,false,false,false,false,false,false,false,false,false,false,false] rfl rfl (any_of HT_.out (by kernel_rfl)) (fun _ _ _ h => h) (Or.inl ⟨by rfl,?_⟩) ?_ ?_
    rotate_left
    ·intro w'
     go_simp
     with_reducible rfl
    rotate_left
    ·simp only [Act.put,List.setIfInBounds_toArray,List.set_cons_zero,List.set_cons_succ,i64_w,i32_w]
     rfl
    refine pure_ (i:=2) (N:=some 16) (v:=?_) (a':=?_) #[true,false,true,false,false,false,false,false,false,false,false,false] rfl rfl (any_of HT_.out (by kernel_rfl)) (fun _ _ _ h => h) (Or.inl ⟨by rfl,?_⟩) ?_ ?_
    rotate_left
    ·intro w'
     go_simp
     with_reducible rfl
    rotate_left
    ·simp only [Act.put,List.setIfInBounds_toArray,List.set_cons_zero,List.set_cons_succ,i64_w,i32_w]
     rfl
    refine pure_ (i:=3) (N:=some 17) (v:=?_) (a':=?_) #[true,false,true,true,false,false,false,false,false,false,false,false] rfl rfl (any_of HT_.out (by kernel_rfl)) (fun _ _ _ h => h) (Or.inl ⟨by rfl,?_⟩) ?_ ?_
    rotate_left
    ·intro w'
     go_simp
     with_reducible rfl
    rotate_left
    ·simp only [Act.put,List.setIfInBounds_toArray,List.set_cons_zero,List.set_cons_succ,i64_w,i32_w]
     rfl
    refine pure_ (i:=6) (N:=some 20) (v:=?_) (a':=?_) #[true,false,true,true,false,false,true,false,false,false,false,false] rfl rfl (any_of HT_.out (by kernel_rfl)) (fun _ _ _ h => h) (Or.inl ⟨by rfl,?_⟩) ?_ ?_
    rotate_left
    ·intro w'
     go_simp
     with_reducible rfl
    rotate_left
    ·simp only [Act.put,List.setIfInBounds_toArray,List.set_cons_zero,List.set_cons_succ,i64_w,i32_w]
     rfl
    refine pure_ (i:=7) (N:=some 21) (v:=?_) (a':=?_) #[true,false,true,true,false,false,true,true,false,false,false,false] rfl rfl (any_of HT_.out (by kernel_rfl)) (fun _ _ _ h => h) (Or.inl ⟨by rfl,?_⟩) ?_ ?_
    rotate_left
    ·intro w'
     go_simp
     with_reducible rfl
    rotate_left
    ·simp only [Act.put,List.setIfInBounds_toArray,List.set_cons_zero,List.set_cons_succ,i64_w,i32_w]
     rfl
    refine take_ (i:=1) (N:=some 15) (v:=?_) (a':=?_) #[true,true,true,true,false,false,true,true,false,false,false,false] rfl rfl (take_ofW HT_.out HW_.out (by kernel_rfl)) (fun _ _ _ h => h) (Or.inl ⟨by rfl,?_⟩) hHeld ?_ ?_
    rotate_left
    ·rintro w' ⟨s0,s1,s2,s3⟩
     go_simp
     with_reducible rfl
    rotate_left
    ·simp only [Act.put,List.setIfInBounds_toArray,List.set_cons_zero,List.set_cons_succ,i64_w,i32_w]
     rfl
    refine take_ (i:=5) (N:=some 19) (v:=?_) (a':=?_) #[true,true,true,true,false,true,true,true,false,false,false,false] rfl rfl (take_ofW HT_.out HW_.out (by kernel_rfl)) (fun _ _ _ h => h) (Or.inl ⟨by rfl,?_⟩) hHeld ?_ ?_
    rotate_left
    ·rintro w' ⟨s0,s1,s2,s3⟩
     go_simp
     with_reducible rfl
    rotate_left
    ·simp only [Act.put,List.setIfInBounds_toArray,List.set_cons_zero,List.set_cons_succ,i64_w,i32_w]
     rfl
    refine one_ (i:=4) (N:=some 18) #[true,true,true,true,true,true,true,true,false,false,false,false] rfl rfl (one_of HT_.out (by kernel_rfl)) (by decide) (fun K hK => ?_)
    refine goes_ Try.func61 (by kernel_rfl) rfl #[.agg #[.int .i64 a2_0,.slice A2_1 l2_1.length c2_1],.int .i64 a0,.int .i64 x11_1] (by rfl) rfl rfl lp_ ?_
    with_reducible refine (impl_Matrix_at.calls a2_0 _ _ l2_1 a0 x11_1 t296 _ ?side1 ?side2 A7.out).mono ?_
    (case side1 => repeat (first|exact (Kd.C_below HR2_1.out HB.out)|(with_reducible refine Kd.C_alloc ?_ _)|(with_reducible refine Kd.C_drewN ?_ _)|(with_reducible refine Kd.C_drew ?_)))
    (case side2 => exact HC2_1.out)
    rintro e w12 ⟨rfl,hb⟩
    refine ⟨_,rfl,?_⟩
    have n0_:=Aside0.mk (blk_below (g:=g2) (o:=.cells #[.int .i64 a2_0,.slice A2_1 l2_1.length c2_1] 28 (0,0)) (pe_ BK2.out) hb)
    have n1_:=Aside0.mk (blk_below (g:=g3) (o:=.cells #[.int .i64 a3_0,.slice A3_1 l3_1.length c3_1] 28 (0,0)) (pe_ BK3.out) hb)
    have n2_:=Aside0.mk (below_step (be0_ HB.out) hb)
    clear BK2
    clear BK3
    clear HB
    have BK2:=n0_
    have BK3:=n1_
    have HB:=n2_
    clear n0_ n1_ n2_
    (try clear hb)
    (try clear hb2)
    (try clear hk)
    (try clear hi)
    refine hK.out _ _ ⟨(blk_cell BK2.out 0).trans rfl,(blk_cell BK2.out 1).trans rfl,(blk_cell BK3.out 0).trans rfl,(blk_cell BK3.out 1).trans rfl⟩ (fun hHeld => ?_)
    clear hK K
    refine norm_ (a':=?_) ?_ ?_
    rotate_left
    ·show Act.put _ (some 18) _ = _
     simp only [Act.put,List.setIfInBounds_toArray,List.set_cons_zero,List.set_cons_succ,i64_w,i32_w]
     rfl
    refine one_ (i:=8) (N:=some 22) #[true,true,true,true,true,true,true,true,true,false,false,false] rfl rfl (one_of HT_.out (by kernel_rfl)) (by decide) (fun K hK => ?_)
    refine goes_ Try.func61 (by kernel_rfl) rfl #[.agg #[.int .i64 a3_0,.slice A3_1 l3_1.length c3_1],.int .i64 x11_1,.int .i64 a1] (by rfl) rfl rfl lp_ ?_
    with_reducible refine (impl_Matrix_at.calls a3_0 _ _ l3_1 x11_1 a1 t297 _ ?side1 ?side2 A8.out).mono ?_
    (case side1 => repeat (first|exact (Kd.C_below HR3_1.out HB.out)|(with_reducible refine Kd.C_alloc ?_ _)|(with_reducible refine Kd.C_drewN ?_ _)|(with_reducible refine Kd.C_drew ?_)))
    (case side2 => exact HC3_1.out)
    rintro e w13 ⟨rfl,hb⟩
    refine ⟨_,rfl,?_⟩
    have n0_:=Aside0.mk (blk_below (g:=g2) (o:=.cells #[.int .i64 a2_0,.slice A2_1 l2_1.length c2_1] 28 (0,0)) (pe_ BK2.out) hb)
    have n1_:=Aside0.mk (blk_below (g:=g3) (o:=.cells #[.int .i64 a3_0,.slice A3_1 l3_1.length c3_1] 28 (0,0)) (pe_ BK3.out) hb)
    have n2_:=Aside0.mk (below_step (be0_ HB.out) hb)
    clear BK2
    clear BK3
    clear HB
    have BK2:=n0_
    have BK3:=n1_
    have HB:=n2_
    clear n0_ n1_ n2_
    (try clear hb)
    (try clear hb2)
    (try clear hk)
    (try clear hi)
    refine hK.out _ _ ⟨(blk_cell BK2.out 0).trans rfl,(blk_cell BK2.out 1).trans rfl,(blk_cell BK3.out 0).trans rfl,(blk_cell BK3.out 1).trans rfl⟩ (fun hHeld => ?_)
    clear hK K
    refine norm_ (a':=?_) ?_ ?_
    rotate_left
    ·show Act.put _ (some 22) _ = _
     simp only [Act.put,List.setIfInBounds_toArray,List.set_cons_zero,List.set_cons_succ,i64_w,i32_w]
     rfl
    refine pure_ (i:=9) (N:=some 23) (v:=?_) (a':=?_) #[true,true,true,true,true,true,true,true,true,true,false,false] rfl rfl (any_of HT_.out (by kernel_rfl)) (fun _ _ _ h => h) (Or.inl ⟨by rfl,?_⟩) ?_ ?_
    rotate_left
    ·intro w'
     go_simp
     with_reducible rfl
    rotate_left
    ·simp only [Act.put,List.setIfInBounds_toArray,List.set_cons_zero,List.set_cons_succ,i64_w,i32_w]
     rfl
    refine pure_ (i:=10) (N:=some 24) (v:=?_) (a':=?_) #[true,true,true,true,true,true,true,true,true,true,true,false] rfl rfl (any_of HT_.out (by kernel_rfl)) (fun _ _ _ h => h) (Or.inl ⟨by rfl,?_⟩) ?_ ?_
    rotate_left
    ·intro w'
     go_simp
     with_reducible rfl
    rotate_left
    ·simp only [Act.put,List.setIfInBounds_toArray,List.set_cons_zero,List.set_cons_succ,i64_w,i32_w]
     rfl
    refine pure_ (i:=11) (N:=some 7) (v:=?_) (a':=?_) #[true,true,true,true,true,true,true,true,true,true,true,true] rfl rfl (any_of HT_.out (by kernel_rfl)) (fun _ _ _ h => h) (Or.inl ⟨by rfl,?_⟩) ?_ ?_
    rotate_left
    ·intro w'
     go_simp
     with_reducible rfl
    rotate_left
    ·simp only [Act.put,List.setIfInBounds_toArray,List.set_cons_zero,List.set_cons_succ,i64_w,i32_w]
     rfl
    refine done_ (done_of HT_.out (by kernel_rfl)) ?_
    try go_wp2
    go_roundg k1
    case measure => have:=HK1.out;omega
    case rel => exact ⟨(ji10),(wrap64 (x11_1 + 1)),(by first|rfl|(simp;done)|(simp only [← hji10] <;> (first|rfl|simp))|(simp [*];done)),(by first|rfl|(simp;done)|(simp [*];done)),H',⟨by have:=HK1.out;omega⟩,⟨pe_ BK2.out⟩,⟨pe_ BK3.out⟩,⟨be0_ HB.out⟩⟩
   ·rw [if_neg c6] at H
    have c6b0 : decide (x11_1 < a2_0) = false:=decide_eq_false c6
    clear c6
    obtain rfl:=Option.some.inj H
    go_wp2
    go_ret
    exact ⟨by first|rfl|(simp [errW_none,errW_some] <;> rfl)|(simp [*,errW_none,errW_some] <;> rfl),be0_ HB.out⟩
end Go.Proofs.Ytengegdaiphfeaa.X
end
section
namespace Go.Proofs.Ytengegdaiphfeaa.X
open Go.RowKit Go.Proofs.YtengegdaiphfeaaW.PrintWords Go.Proofs.YtengegdaiphfeaaW.PrintLast Go.Proofs.YtengegdaiphfeaaW.PrintMore
attribute [local go_sem] max2_int min2_int max_two min_two max_three min_three max_four min_four
set_option linter.unusedVariables false
set_option linter.unusedSimpArgs false
def impl_filled__impl_MulGrades_1.f (k : Nat) (a0 : Int) (a1_0 : Int) (l1_1 : List Int) (a2_0 : Int) (l2_1 : List Int) : Option (Int × List Int):=impl_filled.f (fun y0 y1 => impl_MulGrades_1.f k  y0 y1 a1_0 l1_1 a2_0 l2_1) k a0
theorem impl_filled__impl_MulGrades_1.mono : ∀ b0 b1 b2 b3 b4 k,LeO (impl_filled__impl_MulGrades_1.f k b0 b1 b2 b3 b4) (impl_filled__impl_MulGrades_1.f (k + 1) b0 b1 b2 b3 b4):=by
 intro b0 b1 b2 b3 b4 k
 exact impl_filled.monoP (fun _ _ => impl_MulGrades_1.mono _ _ _ _ _ _ _) _ k
set_option maxHeartbeats 2000000 in
theorem impl_filled__impl_MulGrades_1.calls (k : Nat) (a0 : Int) (g1 : Nat) (a1_0 : Int) (A1_1 : Option Addr) (c1_1 : Nat) (l1_1 : List Int) (g2 : Nat) (a2_0 : Int) (A2_1 : Option Addr) (c2_1 : Nat) (l2_1 : List Int) (r1 : Int) (r2 : List Int) (w : World) (hr1_1 : Kd.C (Kd.int .i64) w A1_1 l1_1.length l1_1) (hc1_1 : l1_1.length ≤ c1_1) (hr2_1 : Kd.C (Kd.int .i64) w A2_1 l2_1.length l2_1) (hc2_1 : l2_1.length ≤ c2_1) (hb1 : w.heap[g1]? = some (.cells #[.int .i64 a1_0,.slice A1_1 l1_1.length c1_1] 28 (0,0))) (hb2 : w.heap[g2]? = some (.cells #[.int .i64 a2_0,.slice A2_1 l2_1.length c2_1] 28 (0,0))) (h : impl_filled__impl_MulGrades_1.f k a0 a1_0 l1_1 a2_0 l2_1 = some (r1,r2)) :
  Calls Try.prog 59 #[.int .i64 a0,.func (.func 69) #[] #[.pointer (some ⟨g1,0,none⟩),.pointer (some ⟨g2,0,none⟩)]] w fun e w' => ∃ v1_ : Value,e = .returned (.agg #[.int .i64 r1,v1_]) ∧ Kd.R (Kd.int .i64) 3 w' w.heap.size (fun _ => True) v1_ r2 ∧ Below w.heap.size w w':=by
 refine impl_filled.calls k a0 69 #[] #[.pointer (some ⟨g1,0,none⟩),.pointer (some ⟨g2,0,none⟩)] (fun y0 y1 => impl_MulGrades_1.f k  y0 y1 a1_0 l1_1 a2_0 l2_1) r1 r2 w  ⟨_,Try.func69,rfl,rfl⟩ ?_ h
 intro ay0 ay1 z0 W_ hB_  h_
 refine calls_of_args (args':=#[.int .i64 ay0,.int .i64 ay1,.pointer (some ⟨g1,0,none⟩),.pointer (some ⟨g2,0,none⟩)]) (by simp) ?_
 refine (impl_MulGrades_1.calls k ay0 ay1 g1 a1_0 A1_1 c1_1 l1_1 g2 a2_0 A2_1 c2_1 l2_1 z0 W_ (Kd.C_below hr1_1 hB_) hc1_1 (Kd.C_below hr2_1 hB_) hc2_1 (blk_below hb1 hB_) (blk_below hb2 hB_) h_).mono ?_
 exact fun e w' h => h
end Go.Proofs.Ytengegdaiphfeaa.X
end
section
namespace Go.Proofs.Ytengegdaiphfeaa.X
open Go.RowKit Go.Proofs.YtengegdaiphfeaaW.PrintWords Go.Proofs.YtengegdaiphfeaaW.PrintLast Go.Proofs.YtengegdaiphfeaaW.PrintMore
attribute [local go_sem] max2_int min2_int max_two min_two max_three min_three max_four min_four
set_option linter.unusedVariables false
set_option linter.unusedSimpArgs false
def impl_MulGrades.f (k : Nat) (a0_0 : Int) (l0_1 : List Int) (a1_0 : Int) (l1_1 : List Int) : Option (Int × List Int × Bool):=(impl_GradesValid.f k a0_0 l0_1).bind fun t301 => (if t301 = true then ((impl_GradesValid.f k a1_0 l1_1).bind fun t302 => (if t302 = true then (if a0_0 = a1_0 then ((impl_filled__impl_MulGrades_1.f k a0_0 a0_0 l0_1 a1_0 l1_1).bind fun bt303 => (some (bt303.1,bt303.2,true))) else (some (0,([] : List Int),false))) else (some (0,([] : List Int),false)))) else (some (0,([] : List Int),false)))
theorem impl_MulGrades.mono : ∀ a0 a1 a2 a3 k,LeO (impl_MulGrades.f k a0 a1 a2 a3) (impl_MulGrades.f (k + 1) a0 a1 a2 a3):=by
 intro a0 a1 a2 a3 k
 unfold impl_MulGrades.f
 repeat' first
   | (with_reducible exact impl_GradesValid.mono _ _ _)
   | (with_reducible exact impl_filled__impl_MulGrades_1.mono _ _ _ _ _ _)
   | (with_reducible exact LeO.refl _)
   | (with_reducible exact LeO.none _)
   | (with_reducible refine LeO.ite ?_ ?_)
   | (with_reducible refine LeO.bind ?_ (fun _ => ?_))
   | exact impl_GradesValid.mono _ _ _
   | exact impl_filled__impl_MulGrades_1.mono _ _ _ _ _ _
   | exact LeO.none _
   | refine LeO.ite ?_ ?_
   | refine LeO.bind ?_ (fun _ => ?_)
set_option maxHeartbeats 8000000 in
set_option maxRecDepth 100000 in
theorem impl_MulGrades.calls (k : Nat) (a0_0 : Int) (A0_1 : Option Addr) (c0_1 : Nat) (l0_1 : List Int) (a1_0 : Int) (A1_1 : Option Addr) (c1_1 : Nat) (l1_1 : List Int) (r1 : Int) (r2 : List Int) (r3 : Bool) (w : World) (hr0_1 : Kd.C (Kd.int .i64) w A0_1 l0_1.length l0_1) (hc0_1 : l0_1.length ≤ c0_1) (hr1_1 : Kd.C (Kd.int .i64) w A1_1 l1_1.length l1_1) (hc1_1 : l1_1.length ≤ c1_1) (h : impl_MulGrades.f k a0_0 l0_1 a1_0 l1_1 = some (r1,r2,r3)) :
  Calls Try.prog 27 #[.agg #[.int .i64 a0_0,.slice A0_1 l0_1.length c0_1],.agg #[.int .i64 a1_0,.slice A1_1 l1_1.length c1_1]] w fun e w' => ∃ v1_ : Value,e = .returned (.tuple #[.agg #[.int .i64 r1,v1_],.bool r3]) ∧ Kd.R (Kd.int .i64) 3 w' w.heap.size (fun _ => True) v1_ r2 ∧ Below w.heap.size w w':=by
 have hu28:=Try.underlying28
 have HR0_1:=Aside0.mk hr0_1
 have HC0_1:=Aside0.mk hc0_1
 clear hr0_1 hc0_1
 have HR1_1:=Aside0.mk hr1_1
 have HC1_1:=Aside0.mk hc1_1
 clear hr1_1 hc1_1
 have HB:=Aside0.mk (Below.refl w.heap.size w)
 have H : ((impl_GradesValid.f k a0_0 l0_1).bind fun t301 => (if t301 = true then ((impl_GradesValid.f k a1_0 l1_1).bind fun t302 => (if t302 = true then (if a0_0 = a1_0 then ((impl_filled__impl_MulGrades_1.f k a0_0 a0_0 l0_1 a1_0 l1_1).bind fun bt303 => (some (bt303.1,bt303.2,true))) else (some (0,([] : List Int),false))) else (some (0,([] : List Int),false)))) else (some (0,([] : List Int),false)))) = some (r1,r2,r3):=h
 clear h
 replace H:=Option.bind_eq_some_iff.mp H
 obtain ⟨t301,A30,H⟩:=H
 replace H : (if t301 = true then ((impl_GradesValid.f k a1_0 l1_1).bind fun t302 => (if t302 = true then (if a0_0 = a1_0 then ((impl_filled__impl_MulGrades_1.f k a0_0 a0_0 l0_1 a1_0 l1_1).bind fun bt303 => (some (bt303.1,bt303.2,true))) else (some (0,([] : List Int),false))) else (some (0,([] : List Int),false)))) else (some (0,([] : List Int),false))) = some (r1,r2,r3):=H
 have A3:=Aside0.mk A30
 clear A30
 by_cases c4 : t301 = true
 ·subst c4
  have H1 : ((impl_GradesValid.f k a1_0 l1_1).bind fun t302 => (if t302 = true then (if a0_0 = a1_0 then ((impl_filled__impl_MulGrades_1.f k a0_0 a0_0 l0_1 a1_0 l1_1).bind fun bt303 => (some (bt303.1,bt303.2,true))) else (some (0,([] : List Int),false))) else (some (0,([] : List Int),false)))) = some (r1,r2,r3):=by rw [if_pos rfl] at H;exact H
  clear H
  have H:=H1
  clear H1
  replace H:=Option.bind_eq_some_iff.mp H
  obtain ⟨t302,A50,H⟩:=H
  replace H : (if t302 = true then (if a0_0 = a1_0 then ((impl_filled__impl_MulGrades_1.f k a0_0 a0_0 l0_1 a1_0 l1_1).bind fun bt303 => (some (bt303.1,bt303.2,true))) else (some (0,([] : List Int),false))) else (some (0,([] : List Int),false))) = some (r1,r2,r3):=H
  have A5:=Aside0.mk A50
  clear A50
  by_cases c6 : t302 = true
  ·subst c6
   have H1 : (if a0_0 = a1_0 then ((impl_filled__impl_MulGrades_1.f k a0_0 a0_0 l0_1 a1_0 l1_1).bind fun bt303 => (some (bt303.1,bt303.2,true))) else (some (0,([] : List Int),false))) = some (r1,r2,r3):=by rw [if_pos rfl] at H;exact H
   clear H
   have H:=H1
   clear H1
   by_cases c7 : a0_0 = a1_0
   ·rw [if_pos c7] at H
    have c7b0 : (a0_0 == a1_0) = true:=beq_iff_eq.mpr c7
    have c7b1 : (a0_0 != a1_0) = false:=bne_eq_false_iff_eq.mpr c7
    clear c7
    replace H:=Option.bind_eq_some_iff.mp H
    obtain ⟨⟨t303,t304⟩,A80,H⟩:=H
    replace H : (some (t303,t304,true)) = some (r1,r2,r3):=H
    have A8:=Aside0.mk A80
    clear A80
    simp only [Option.some.injEq,Prod.mk.injEq] at H
    obtain ⟨rfl,rfl,rfl⟩:=H
    go_enter Try.func27,Try.ntmps27
    go_wp2_with (first|((with_reducible refine gate_dst (N:=2) rfl ?_);refine box_event ?hg (N:=2) ?hd (cs:=#[.int .i64 a0_0,.slice A0_1 l0_1.length c0_1]) (t:=28) ?hr ?_;(case hd => rfl);(case hg => rfl);(case hr => first|(go_simp;done)|(go_simp;rfl));intro gb298 hg w9 hbox hb;have n0_:=Aside0.mk (below_step (be0_ HB.out) hb);have n1_:=Aside0.mk (hbox);have n2_:=Aside0.mk ((by rw [hg];exact (below_size (be0_ HB.out)) : w.heap.size ≤ gb298));have n3_:=Aside0.mk ((by rw [hg];exact (below_size (be0_ HB.out)) : w.heap.size ≤ gb298));clear HB;have HB:=n0_;have BK298:=n1_;have GW298:=n2_;have GE298:=n3_;clear n0_ n1_ n2_ n3_;clear hb hbox hg)|((with_reducible refine gate_dst (N:=3) rfl ?_);refine box_event ?hg (N:=3) ?hd (cs:=#[.int .i64 a1_0,.slice A1_1 l1_1.length c1_1]) (t:=28) ?hr ?_;(case hd => rfl);(case hg => rfl);(case hr => first|(go_simp;done)|(go_simp;rfl));intro gb299 hg w10 hbox hb;have n0_:=Aside0.mk (blk_below (g:=gb298) (o:=.cells #[.int .i64 a0_0,.slice A0_1 l0_1.length c0_1] 28 (0,0)) (pe_ BK298.out) hb);have n1_:=Aside0.mk (below_step (be1_ HB.out GE298.out) hb);have n2_:=Aside0.mk (hbox);have n3_:=Aside0.mk ((by rw [hg];exact (below_size (be1_ HB.out GE298.out)) : w.heap.size ≤ gb299));have n4_:=Aside0.mk ((by rw [hg];exact (below_size (be1_ HB.out GE298.out)) : w.heap.size ≤ gb299));have n5_:=Aside0.mk ((by rw [hg];exact Nat.ne_of_lt (blk_lt (g:=gb298) (o:=.cells #[.int .i64 a0_0,.slice A0_1 l0_1.length c0_1] 28 (0,0)) (pe_ BK298.out)) : gb298 ≠ gb299));have n6_:=Aside0.mk ((by rw [hg];exact Nat.ne_of_gt (blk_lt (g:=gb298) (o:=.cells #[.int .i64 a0_0,.slice A0_1 l0_1.length c0_1] 28 (0,0)) (pe_ BK298.out)) : gb299 ≠ gb298));clear BK298;clear HB;have BK298:=n0_;have HB:=n1_;have BK299:=n2_;have GW299:=n3_;have GE299:=n4_;have NB298_299:=n5_;have NB299_298:=n6_;clear n0_ n1_ n2_ n3_ n4_ n5_ n6_;clear hb hbox hg)|((with_reducible refine gate_dst (N:=4) rfl ?_);refine box_event ?hg (N:=4) ?hd (cs:=#[.int .i64 0,.slice none 0 0]) (t:=28) ?hr ?_;(case hd => rfl);(case hg => rfl);(case hr => first|(go_simp;done)|(go_simp;rfl));intro gb300 hg w11 hbox hb;have n0_:=Aside0.mk (blk_below (g:=gb298) (o:=.cells #[.int .i64 a0_0,.slice A0_1 l0_1.length c0_1] 28 (0,0)) (pe_ BK298.out) hb);have n1_:=Aside0.mk (blk_below (g:=gb299) (o:=.cells #[.int .i64 a1_0,.slice A1_1 l1_1.length c1_1] 28 (0,0)) (pe_ BK299.out) hb);have n2_:=Aside0.mk (below_step (be2_ HB.out GE298.out GE299.out) hb);have n3_:=Aside0.mk (hbox);have n4_:=Aside0.mk ((by rw [hg];exact (below_size (be2_ HB.out GE298.out GE299.out)) : w.heap.size ≤ gb300));have n5_:=Aside0.mk ((by rw [hg];exact (below_size (be2_ HB.out GE298.out GE299.out)) : w.heap.size ≤ gb300));have n6_:=Aside0.mk ((by rw [hg];exact Nat.ne_of_lt (blk_lt (g:=gb298) (o:=.cells #[.int .i64 a0_0,.slice A0_1 l0_1.length c0_1] 28 (0,0)) (pe_ BK298.out)) : gb298 ≠ gb300));have n7_:=Aside0.mk ((by rw [hg];exact Nat.ne_of_gt (blk_lt (g:=gb298) (o:=.cells #[.int .i64 a0_0,.slice A0_1 l0_1.length c0_1] 28 (0,0)) (pe_ BK298.out)) : gb300 ≠ gb298));have n8_:=Aside0.mk ((by rw [hg];exact Nat.ne_of_lt (blk_lt (g:=gb299) (o:=.cells #[.int .i64 a1_0,.slice A1_1 l1_1.length c1_1] 28 (0,0)) (pe_ BK299.out)) : gb299 ≠ gb300));have n9_:=Aside0.mk ((by rw [hg];exact Nat.ne_of_gt (blk_lt (g:=gb299) (o:=.cells #[.int .i64 a1_0,.slice A1_1 l1_1.length c1_1] 28 (0,0)) (pe_ BK299.out)) : gb300 ≠ gb299));clear BK298;clear BK299;clear HB;have BK298:=n0_;have BK299:=n1_;have HB:=n2_;have BK300:=n3_;have GW300:=n4_;have GE300:=n5_;have NB298_300:=n6_;have NB300_298:=n7_;have NB299_300:=n8_;have NB300_299:=n9_;clear n0_ n1_ n2_ n3_ n4_ n5_ n6_ n7_ n8_ n9_;clear hb hbox hg;have hnb12:=NB298_299.out;have hnc12:=NB299_298.out;have hnb13:=NB298_300.out;have hnc13:=NB300_298.out;have hcz14_0 : w11.cell? ⟨gb298,0,none⟩ = some (.int .i64 a0_0):=(blk_cell BK298.out 0).trans rfl;have hcz14_1 : w11.cell? ⟨gb298,1,none⟩ = some (.slice A0_1 l0_1.length c0_1):=(blk_cell BK298.out 1).trans rfl;have hfz14_0:=blk_frozen BK298.out 0;have hfz14_1:=blk_frozen BK298.out 1)|((with_reducible refine gate_callee (f:=36) rfl ?_);refine goesL_ (some 7) rfl rfl Try.func36 (by kernel_rfl) rfl #[.agg #[.int .i64 a0_0,.slice A0_1 l0_1.length c0_1]] rfl lp_ ?_;(with_reducible refine (impl_GradesValid.calls k a0_0 _ _ l0_1 true _ ?side1 ?side2 A3.out).mono ?_);(case side1 => repeat (first|exact (Kd.C_below HR0_1.out HB.out)|(with_reducible refine Kd.C_alloc ?_ _)|(with_reducible refine Kd.C_drewN ?_ _)|(with_reducible refine Kd.C_drew ?_)));(case side2 => exact HC0_1.out);rintro e w15 ⟨rfl,hb⟩;refine ⟨_,rfl,?_⟩;have n0_:=Aside0.mk (blk_below (g:=gb298) (o:=.cells #[.int .i64 a0_0,.slice A0_1 l0_1.length c0_1] 28 (0,0)) (pe_ BK298.out) hb);have n1_:=Aside0.mk (blk_below (g:=gb299) (o:=.cells #[.int .i64 a1_0,.slice A1_1 l1_1.length c1_1] 28 (0,0)) (pe_ BK299.out) hb);have n2_:=Aside0.mk (blk_below (g:=gb300) (o:=.cells #[.int .i64 0,.slice none 0 0] 28 (0,0)) (pe_ BK300.out) hb);have n3_:=Aside0.mk (below_step (be3_ HB.out GE298.out GE299.out GE300.out) hb);clear BK298;clear BK299;clear BK300;clear HB;have BK298:=n0_;have BK299:=n1_;have BK300:=n2_;have HB:=n3_;clear n0_ n1_ n2_ n3_;(try clear hb);(try clear hb2);(try clear hk);(try clear hi);have hnb16:=NB299_300.out;have hnc16:=NB300_299.out;have hcz17_0 : w15.cell? ⟨gb299,0,none⟩ = some (.int .i64 a1_0):=(blk_cell BK299.out 0).trans rfl;have hcz17_1 : w15.cell? ⟨gb299,1,none⟩ = some (.slice A1_1 l1_1.length c1_1):=(blk_cell BK299.out 1).trans rfl;have hfz17_0:=blk_frozen BK299.out 0;have hfz17_1:=blk_frozen BK299.out 1)|(go_at_call 36;(with_reducible refine (impl_GradesValid.calls k a1_0 _ _ l1_1 true _ ?side1 ?side2 A5.out).mono ?_);(case side1 => repeat (first|exact (Kd.C_below HR1_1.out HB.out)|(with_reducible refine Kd.C_alloc ?_ _)|(with_reducible refine Kd.C_drewN ?_ _)|(with_reducible refine Kd.C_drew ?_)));(case side2 => exact HC1_1.out);rintro e w18 ⟨rfl,hb⟩;have n0_:=Aside0.mk (blk_below (g:=gb298) (o:=.cells #[.int .i64 a0_0,.slice A0_1 l0_1.length c0_1] 28 (0,0)) (pe_ BK298.out) hb);have n1_:=Aside0.mk (blk_below (g:=gb299) (o:=.cells #[.int .i64 a1_0,.slice A1_1 l1_1.length c1_1] 28 (0,0)) (pe_ BK299.out) hb);have n2_:=Aside0.mk (blk_below (g:=gb300) (o:=.cells #[.int .i64 0,.slice none 0 0] 28 (0,0)) (pe_ BK300.out) hb);have n3_:=Aside0.mk (below_step (be3_ HB.out GE298.out GE299.out GE300.out) hb);clear BK298;clear BK299;clear BK300;clear HB;have BK298:=n0_;have BK299:=n1_;have BK300:=n2_;have HB:=n3_;clear n0_ n1_ n2_ n3_;(try clear hb);(try clear hb2);(try clear hk);(try clear hi);have hcz19_0 : w18.cell? ⟨gb298,0,none⟩ = some (.int .i64 a0_0):=(blk_cell BK298.out 0).trans rfl;have hcz19_1 : w18.cell? ⟨gb298,1,none⟩ = some (.slice A0_1 l0_1.length c0_1):=(blk_cell BK298.out 1).trans rfl;have hfz19_0:=blk_frozen BK298.out 0;have hfz19_1:=blk_frozen BK298.out 1;have hcz20_0 : w18.cell? ⟨gb299,0,none⟩ = some (.int .i64 a1_0):=(blk_cell BK299.out 0).trans rfl;have hcz20_1 : w18.cell? ⟨gb299,1,none⟩ = some (.slice A1_1 l1_1.length c1_1):=(blk_cell BK299.out 1).trans rfl;have hfz20_0:=blk_frozen BK299.out 0;have hfz20_1:=blk_frozen BK299.out 1)|((with_reducible refine gate_callee (f:=59) rfl ?_);refine goesL_ (some 25) rfl rfl Try.func59 (by kernel_rfl) rfl #[.int .i64 a0_0,.func (.func 69) #[] #[.pointer (some ⟨gb298,0,none⟩),.pointer (some ⟨gb299,0,none⟩)]] rfl lp_ ?_;(with_reducible refine (impl_filled__impl_MulGrades_1.calls k a0_0 gb298 a0_0 A0_1 c0_1 l0_1 gb299 a1_0 A1_1 c1_1 l1_1 t303 t304 _ ?side1 ?side2 ?side3 ?side4 ?side5 ?side6 A8.out).mono ?_);(case side1 => repeat (first|exact (Kd.C_below HR0_1.out HB.out)|(with_reducible refine Kd.C_alloc ?_ _)|(with_reducible refine Kd.C_drewN ?_ _)|(with_reducible refine Kd.C_drew ?_)));(case side2 => exact HC0_1.out);(case side3 => repeat (first|exact (Kd.C_below HR1_1.out HB.out)|(with_reducible refine Kd.C_alloc ?_ _)|(with_reducible refine Kd.C_drewN ?_ _)|(with_reducible refine Kd.C_drew ?_)));(case side4 => exact HC1_1.out);(case side5 => refine pe_ ?_;exact BK298.out);(case side6 => refine pe_ ?_;exact BK299.out);rintro e w21 ⟨v305,rfl,ho0,hb⟩;refine ⟨_,rfl,?_⟩;have n0_:=Aside0.mk (Kd.R_lower ho0 (below_size (be3_ HB.out GE298.out GE299.out GE300.out)));have n1_:=Aside0.mk (blk_below (g:=gb298) (o:=.cells #[.int .i64 a0_0,.slice A0_1 l0_1.length c0_1] 28 (0,0)) (pe_ BK298.out) hb);have n2_:=Aside0.mk (blk_below (g:=gb299) (o:=.cells #[.int .i64 a1_0,.slice A1_1 l1_1.length c1_1] 28 (0,0)) (pe_ BK299.out) hb);have n3_:=Aside0.mk (blk_below (g:=gb300) (o:=.cells #[.int .i64 0,.slice none 0 0] 28 (0,0)) (pe_ BK300.out) hb);have n4_:=Aside0.mk (below_step (be3_ HB.out GE298.out GE299.out GE300.out) hb);clear BK298;clear BK299;clear BK300;clear HB;have HO306:=n0_;have BK298:=n1_;have BK299:=n2_;have BK300:=n3_;have HB:=n4_;clear n0_ n1_ n2_ n3_ n4_;(try clear hb);(try clear hb2);(try clear hk);(try clear hi);(try clear ho0);have hcz22_0 : w21.cell? ⟨gb300,0,none⟩ = some (.int .i64 0):=(blk_cell BK300.out 0).trans rfl;have hcz22_1 : w21.cell? ⟨gb300,1,none⟩ = some (.slice none 0 0):=(blk_cell BK300.out 1).trans rfl;have hfz22_0:=blk_frozen BK300.out 0;have hfz22_1:=blk_frozen BK300.out 1;obtain ⟨Ao23,co23,eo23⟩:=Kd.R_slice HO306.out;subst eo23))
    refine bodyPost_ret (results_ct rfl _ _ gb300 28 #[.int .i64 t303,.slice Ao23 t304.length co23] (0,0) _ rfl (by refine pe_ ?_;refine blk_put (cs:=#[.int .i64 t303,.slice none 0 0]) ?_ 1 _ rfl;refine pe_ ?_;refine blk_put (cs:=#[.int .i64 0,.slice none 0 0]) ?_ 0 _ rfl;refine pe_ ?_;exact BK300.out) Try.underlying28 rfl (by kernel_rfl)) rfl ?_
    exact ⟨_,by first|rfl|(simp [errW_none,errW_some] <;> rfl)|(simp [*,errW_none,errW_some] <;> rfl),by refine pr_ ?_;exact Kd.R_mono (Kd.R_far (p:=⟨gb300,1,none⟩) (Kd.R_far (p:=⟨gb300,0,none⟩) (Kd.R_types HO306.out BK300.out (by decide)) (fun _ hk => hk.2) (.int .i64 t303)) (fun _ hk => hk.2) (.slice Ao23 t304.length co23)) (fun _ hk => trivial),be3_ HB.out GE298.out GE299.out GE300.out⟩
   ·rw [if_neg c7] at H
    have c7b0 : (a0_0 == a1_0) = false:=beq_eq_false_iff_ne.mpr c7
    have c7b1 : (a0_0 != a1_0) = true:=bne_iff_ne.mpr c7
    simp only [Option.some.injEq,Prod.mk.injEq] at H
    obtain ⟨rfl,rfl,rfl⟩:=H
    go_enter Try.func27,Try.ntmps27
    go_wp2_with (first|((with_reducible refine gate_dst (N:=2) rfl ?_);refine box_event ?hg (N:=2) ?hd (cs:=#[.int .i64 a0_0,.slice A0_1 l0_1.length c0_1]) (t:=28) ?hr ?_;(case hd => rfl);(case hg => rfl);(case hr => first|(go_simp;done)|(go_simp;rfl));intro gb298 hg w24 hbox hb;have n0_:=Aside0.mk (below_step (be0_ HB.out) hb);have n1_:=Aside0.mk (hbox);have n2_:=Aside0.mk ((by rw [hg];exact (below_size (be0_ HB.out)) : w.heap.size ≤ gb298));have n3_:=Aside0.mk ((by rw [hg];exact (below_size (be0_ HB.out)) : w.heap.size ≤ gb298));clear HB;have HB:=n0_;have BK298:=n1_;have GW298:=n2_;have GE298:=n3_;clear n0_ n1_ n2_ n3_;clear hb hbox hg)|((with_reducible refine gate_dst (N:=3) rfl ?_);refine box_event ?hg (N:=3) ?hd (cs:=#[.int .i64 a1_0,.slice A1_1 l1_1.length c1_1]) (t:=28) ?hr ?_;(case hd => rfl);(case hg => rfl);(case hr => first|(go_simp;done)|(go_simp;rfl));intro gb299 hg w25 hbox hb;have n0_:=Aside0.mk (blk_below (g:=gb298) (o:=.cells #[.int .i64 a0_0,.slice A0_1 l0_1.length c0_1] 28 (0,0)) (pe_ BK298.out) hb);have n1_:=Aside0.mk (below_step (be1_ HB.out GE298.out) hb);have n2_:=Aside0.mk (hbox);have n3_:=Aside0.mk ((by rw [hg];exact (below_size (be1_ HB.out GE298.out)) : w.heap.size ≤ gb299));have n4_:=Aside0.mk ((by rw [hg];exact (below_size (be1_ HB.out GE298.out)) : w.heap.size ≤ gb299));have n5_:=Aside0.mk ((by rw [hg];exact Nat.ne_of_lt (blk_lt (g:=gb298) (o:=.cells #[.int .i64 a0_0,.slice A0_1 l0_1.length c0_1] 28 (0,0)) (pe_ BK298.out)) : gb298 ≠ gb299));have n6_:=Aside0.mk ((by rw [hg];exact Nat.ne_of_gt (blk_lt (g:=gb298) (o:=.cells #[.int .i64 a0_0,.slice A0_1 l0_1.length c0_1] 28 (0,0)) (pe_ BK298.out)) : gb299 ≠ gb298));clear BK298;clear HB;have BK298:=n0_;have HB:=n1_;have BK299:=n2_;have GW299:=n3_;have GE299:=n4_;have NB298_299:=n5_;have NB299_298:=n6_;clear n0_ n1_ n2_ n3_ n4_ n5_ n6_;clear hb hbox hg)|((with_reducible refine gate_dst (N:=4) rfl ?_);refine box_event ?hg (N:=4) ?hd (cs:=#[.int .i64 0,.slice none 0 0]) (t:=28) ?hr ?_;(case hd => rfl);(case hg => rfl);(case hr => first|(go_simp;done)|(go_simp;rfl));intro gb300 hg w26 hbox hb;have n0_:=Aside0.mk (blk_below (g:=gb298) (o:=.cells #[.int .i64 a0_0,.slice A0_1 l0_1.length c0_1] 28 (0,0)) (pe_ BK298.out) hb);have n1_:=Aside0.mk (blk_below (g:=gb299) (o:=.cells #[.int .i64 a1_0,.slice A1_1 l1_1.length c1_1] 28 (0,0)) (pe_ BK299.out) hb);have n2_:=Aside0.mk (below_step (be2_ HB.out GE298.out GE299.out) hb);have n3_:=Aside0.mk (hbox);have n4_:=Aside0.mk ((by rw [hg];exact (below_size (be2_ HB.out GE298.out GE299.out)) : w.heap.size ≤ gb300));have n5_:=Aside0.mk ((by rw [hg];exact (below_size (be2_ HB.out GE298.out GE299.out)) : w.heap.size ≤ gb300));have n6_:=Aside0.mk ((by rw [hg];exact Nat.ne_of_lt (blk_lt (g:=gb298) (o:=.cells #[.int .i64 a0_0,.slice A0_1 l0_1.length c0_1] 28 (0,0)) (pe_ BK298.out)) : gb298 ≠ gb300));have n7_:=Aside0.mk ((by rw [hg];exact Nat.ne_of_gt (blk_lt (g:=gb298) (o:=.cells #[.int .i64 a0_0,.slice A0_1 l0_1.length c0_1] 28 (0,0)) (pe_ BK298.out)) : gb300 ≠ gb298));have n8_:=Aside0.mk ((by rw [hg];exact Nat.ne_of_lt (blk_lt (g:=gb299) (o:=.cells #[.int .i64 a1_0,.slice A1_1 l1_1.length c1_1] 28 (0,0)) (pe_ BK299.out)) : gb299 ≠ gb300));have n9_:=Aside0.mk ((by rw [hg];exact Nat.ne_of_gt (blk_lt (g:=gb299) (o:=.cells #[.int .i64 a1_0,.slice A1_1 l1_1.length c1_1] 28 (0,0)) (pe_ BK299.out)) : gb300 ≠ gb299));clear BK298;clear BK299;clear HB;have BK298:=n0_;have BK299:=n1_;have HB:=n2_;have BK300:=n3_;have GW300:=n4_;have GE300:=n5_;have NB298_300:=n6_;have NB300_298:=n7_;have NB299_300:=n8_;have NB300_299:=n9_;clear n0_ n1_ n2_ n3_ n4_ n5_ n6_ n7_ n8_ n9_;clear hb hbox hg;have hnb27:=NB298_299.out;have hnc27:=NB299_298.out;have hnb28:=NB298_300.out;have hnc28:=NB300_298.out;have hcz29_0 : w26.cell? ⟨gb298,0,none⟩ = some (.int .i64 a0_0):=(blk_cell BK298.out 0).trans rfl;have hcz29_1 : w26.cell? ⟨gb298,1,none⟩ = some (.slice A0_1 l0_1.length c0_1):=(blk_cell BK298.out 1).trans rfl;have hfz29_0:=blk_frozen BK298.out 0;have hfz29_1:=blk_frozen BK298.out 1)|((with_reducible refine gate_callee (f:=36) rfl ?_);refine goesL_ (some 7) rfl rfl Try.func36 (by kernel_rfl) rfl #[.agg #[.int .i64 a0_0,.slice A0_1 l0_1.length c0_1]] rfl lp_ ?_;(with_reducible refine (impl_GradesValid.calls k a0_0 _ _ l0_1 true _ ?side1 ?side2 A3.out).mono ?_);(case side1 => repeat (first|exact (Kd.C_below HR0_1.out HB.out)|(with_reducible refine Kd.C_alloc ?_ _)|(with_reducible refine Kd.C_drewN ?_ _)|(with_reducible refine Kd.C_drew ?_)));(case side2 => exact HC0_1.out);rintro e w30 ⟨rfl,hb⟩;refine ⟨_,rfl,?_⟩;have n0_:=Aside0.mk (blk_below (g:=gb298) (o:=.cells #[.int .i64 a0_0,.slice A0_1 l0_1.length c0_1] 28 (0,0)) (pe_ BK298.out) hb);have n1_:=Aside0.mk (blk_below (g:=gb299) (o:=.cells #[.int .i64 a1_0,.slice A1_1 l1_1.length c1_1] 28 (0,0)) (pe_ BK299.out) hb);have n2_:=Aside0.mk (blk_below (g:=gb300) (o:=.cells #[.int .i64 0,.slice none 0 0] 28 (0,0)) (pe_ BK300.out) hb);have n3_:=Aside0.mk (below_step (be3_ HB.out GE298.out GE299.out GE300.out) hb);clear BK298;clear BK299;clear BK300;clear HB;have BK298:=n0_;have BK299:=n1_;have BK300:=n2_;have HB:=n3_;clear n0_ n1_ n2_ n3_;(try clear hb);(try clear hb2);(try clear hk);(try clear hi);have hnb31:=NB299_300.out;have hnc31:=NB300_299.out;have hcz32_0 : w30.cell? ⟨gb299,0,none⟩ = some (.int .i64 a1_0):=(blk_cell BK299.out 0).trans rfl;have hcz32_1 : w30.cell? ⟨gb299,1,none⟩ = some (.slice A1_1 l1_1.length c1_1):=(blk_cell BK299.out 1).trans rfl;have hfz32_0:=blk_frozen BK299.out 0;have hfz32_1:=blk_frozen BK299.out 1)|(go_at_call 36;(with_reducible refine (impl_GradesValid.calls k a1_0 _ _ l1_1 true _ ?side1 ?side2 A5.out).mono ?_);(case side1 => repeat (first|exact (Kd.C_below HR1_1.out HB.out)|(with_reducible refine Kd.C_alloc ?_ _)|(with_reducible refine Kd.C_drewN ?_ _)|(with_reducible refine Kd.C_drew ?_)));(case side2 => exact HC1_1.out);rintro e w33 ⟨rfl,hb⟩;have n0_:=Aside0.mk (blk_below (g:=gb298) (o:=.cells #[.int .i64 a0_0,.slice A0_1 l0_1.length c0_1] 28 (0,0)) (pe_ BK298.out) hb);have n1_:=Aside0.mk (blk_below (g:=gb299) (o:=.cells #[.int .i64 a1_0,.slice A1_1 l1_1.length c1_1] 28 (0,0)) (pe_ BK299.out) hb);have n2_:=Aside0.mk (blk_below (g:=gb300) (o:=.cells #[.int .i64 0,.slice none 0 0] 28 (0,0)) (pe_ BK300.out) hb);have n3_:=Aside0.mk (below_step (be3_ HB.out GE298.out GE299.out GE300.out) hb);clear BK298;clear BK299;clear BK300;clear HB;have BK298:=n0_;have BK299:=n1_;have BK300:=n2_;have HB:=n3_;clear n0_ n1_ n2_ n3_;(try clear hb);(try clear hb2);(try clear hk);(try clear hi);have hcz34_0 : w33.cell? ⟨gb298,0,none⟩ = some (.int .i64 a0_0):=(blk_cell BK298.out 0).trans rfl;have hcz34_1 : w33.cell? ⟨gb298,1,none⟩ = some (.slice A0_1 l0_1.length c0_1):=(blk_cell BK298.out 1).trans rfl;have hfz34_0:=blk_frozen BK298.out 0;have hfz34_1:=blk_frozen BK298.out 1;have hcz35_0 : w33.cell? ⟨gb299,0,none⟩ = some (.int .i64 a1_0):=(blk_cell BK299.out 0).trans rfl;have hcz35_1 : w33.cell? ⟨gb299,1,none⟩ = some (.slice A1_1 l1_1.length c1_1):=(blk_cell BK299.out 1).trans rfl;have hfz35_0:=blk_frozen BK299.out 0;have hfz35_1:=blk_frozen BK299.out 1;have hcz36_0 : w33.cell? ⟨gb300,0,none⟩ = some (.int .i64 0):=(blk_cell BK300.out 0).trans rfl;have hcz36_1 : w33.cell? ⟨gb300,1,none⟩ = some (.slice none 0 0):=(blk_cell BK300.out 1).trans rfl;have hfz36_0:=blk_frozen BK300.out 0;have hfz36_1:=blk_frozen BK300.out 1))
    refine bodyPost_ret (results_ct rfl _ _ gb300 28 #[.int .i64 0,.slice none 0 0] (0,0) _ rfl (by refine pe_ ?_;refine blk_put (cs:=#[.int .i64 0,.slice none 0 0]) ?_ 1 _ rfl;refine pe_ ?_;refine blk_put (cs:=#[.int .i64 0,.slice none 0 0]) ?_ 0 _ rfl;refine pe_ ?_;exact BK300.out) Try.underlying28 rfl (by kernel_rfl)) rfl ?_
    exact ⟨_,by first|rfl|(simp [errW_none,errW_some] <;> rfl)|(simp [*,errW_none,errW_some] <;> rfl),by first|exact Kd.R_nil _ _ _ _ _|exact Kd.N_nil _ _ _ _ _|exact Kd.V_nil _ _ _ _ _|exact Kd.Q_nil _ _ _ _ _|exact Kd.S_nil _ _ _ _ _,be3_ HB.out GE298.out GE299.out GE300.out⟩
  ·replace c6:=Bool.eq_false_iff.mpr c6
   subst c6
   have H1 : (some (0,([] : List Int),false)) = some (r1,r2,r3):=by rw [if_neg (show ¬ (false = true) by decide)] at H;exact H
   clear H
   have H:=H1
   clear H1
   simp only [Option.some.injEq,Prod.mk.injEq] at H
   obtain ⟨rfl,rfl,rfl⟩:=H
   go_enter Try.func27,Try.ntmps27
   go_wp2_with (first|((with_reducible refine gate_dst (N:=2) rfl ?_);refine box_event ?hg (N:=2) ?hd (cs:=#[.int .i64 a0_0,.slice A0_1 l0_1.length c0_1]) (t:=28) ?hr ?_;(case hd => rfl);(case hg => rfl);(case hr => first|(go_simp;done)|(go_simp;rfl));intro gb298 hg w37 hbox hb;have n0_:=Aside0.mk (below_step (be0_ HB.out) hb);have n1_:=Aside0.mk (hbox);have n2_:=Aside0.mk ((by rw [hg];exact (below_size (be0_ HB.out)) : w.heap.size ≤ gb298));have n3_:=Aside0.mk ((by rw [hg];exact (below_size (be0_ HB.out)) : w.heap.size ≤ gb298));clear HB;have HB:=n0_;have BK298:=n1_;have GW298:=n2_;have GE298:=n3_;clear n0_ n1_ n2_ n3_;clear hb hbox hg)|((with_reducible refine gate_dst (N:=3) rfl ?_);refine box_event ?hg (N:=3) ?hd (cs:=#[.int .i64 a1_0,.slice A1_1 l1_1.length c1_1]) (t:=28) ?hr ?_;(case hd => rfl);(case hg => rfl);(case hr => first|(go_simp;done)|(go_simp;rfl));intro gb299 hg w38 hbox hb;have n0_:=Aside0.mk (blk_below (g:=gb298) (o:=.cells #[.int .i64 a0_0,.slice A0_1 l0_1.length c0_1] 28 (0,0)) (pe_ BK298.out) hb);have n1_:=Aside0.mk (below_step (be1_ HB.out GE298.out) hb);have n2_:=Aside0.mk (hbox);have n3_:=Aside0.mk ((by rw [hg];exact (below_size (be1_ HB.out GE298.out)) : w.heap.size ≤ gb299));have n4_:=Aside0.mk ((by rw [hg];exact (below_size (be1_ HB.out GE298.out)) : w.heap.size ≤ gb299));have n5_:=Aside0.mk ((by rw [hg];exact Nat.ne_of_lt (blk_lt (g:=gb298) (o:=.cells #[.int .i64 a0_0,.slice A0_1 l0_1.length c0_1] 28 (0,0)) (pe_ BK298.out)) : gb298 ≠ gb299));have n6_:=Aside0.mk ((by rw [hg];exact Nat.ne_of_gt (blk_lt (g:=gb298) (o:=.cells #[.int .i64 a0_0,.slice A0_1 l0_1.length c0_1] 28 (0,0)) (pe_ BK298.out)) : gb299 ≠ gb298));clear BK298;clear HB;have BK298:=n0_;have HB:=n1_;have BK299:=n2_;have GW299:=n3_;have GE299:=n4_;have NB298_299:=n5_;have NB299_298:=n6_;clear n0_ n1_ n2_ n3_ n4_ n5_ n6_;clear hb hbox hg)|((with_reducible refine gate_dst (N:=4) rfl ?_);refine box_event ?hg (N:=4) ?hd (cs:=#[.int .i64 0,.slice none 0 0]) (t:=28) ?hr ?_;(case hd => rfl);(case hg => rfl);(case hr => first|(go_simp;done)|(go_simp;rfl));intro gb300 hg w39 hbox hb;have n0_:=Aside0.mk (blk_below (g:=gb298) (o:=.cells #[.int .i64 a0_0,.slice A0_1 l0_1.length c0_1] 28 (0,0)) (pe_ BK298.out) hb);have n1_:=Aside0.mk (blk_below (g:=gb299) (o:=.cells #[.int .i64 a1_0,.slice A1_1 l1_1.length c1_1] 28 (0,0)) (pe_ BK299.out) hb);have n2_:=Aside0.mk (below_step (be2_ HB.out GE298.out GE299.out) hb);have n3_:=Aside0.mk (hbox);have n4_:=Aside0.mk ((by rw [hg];exact (below_size (be2_ HB.out GE298.out GE299.out)) : w.heap.size ≤ gb300));have n5_:=Aside0.mk ((by rw [hg];exact (below_size (be2_ HB.out GE298.out GE299.out)) : w.heap.size ≤ gb300));have n6_:=Aside0.mk ((by rw [hg];exact Nat.ne_of_lt (blk_lt (g:=gb298) (o:=.cells #[.int .i64 a0_0,.slice A0_1 l0_1.length c0_1] 28 (0,0)) (pe_ BK298.out)) : gb298 ≠ gb300));have n7_:=Aside0.mk ((by rw [hg];exact Nat.ne_of_gt (blk_lt (g:=gb298) (o:=.cells #[.int .i64 a0_0,.slice A0_1 l0_1.length c0_1] 28 (0,0)) (pe_ BK298.out)) : gb300 ≠ gb298));have n8_:=Aside0.mk ((by rw [hg];exact Nat.ne_of_lt (blk_lt (g:=gb299) (o:=.cells #[.int .i64 a1_0,.slice A1_1 l1_1.length c1_1] 28 (0,0)) (pe_ BK299.out)) : gb299 ≠ gb300));have n9_:=Aside0.mk ((by rw [hg];exact Nat.ne_of_gt (blk_lt (g:=gb299) (o:=.cells #[.int .i64 a1_0,.slice A1_1 l1_1.length c1_1] 28 (0,0)) (pe_ BK299.out)) : gb300 ≠ gb299));clear BK298;clear BK299;clear HB;have BK298:=n0_;have BK299:=n1_;have HB:=n2_;have BK300:=n3_;have GW300:=n4_;have GE300:=n5_;have NB298_300:=n6_;have NB300_298:=n7_;have NB299_300:=n8_;have NB300_299:=n9_;clear n0_ n1_ n2_ n3_ n4_ n5_ n6_ n7_ n8_ n9_;clear hb hbox hg;have hnb40:=NB298_299.out;have hnc40:=NB299_298.out;have hnb41:=NB298_300.out;have hnc41:=NB300_298.out;have hcz42_0 : w39.cell? ⟨gb298,0,none⟩ = some (.int .i64 a0_0):=(blk_cell BK298.out 0).trans rfl;have hcz42_1 : w39.cell? ⟨gb298,1,none⟩ = some (.slice A0_1 l0_1.length c0_1):=(blk_cell BK298.out 1).trans rfl;have hfz42_0:=blk_frozen BK298.out 0;have hfz42_1:=blk_frozen BK298.out 1)|((with_reducible refine gate_callee (f:=36) rfl ?_);refine goesL_ (some 7) rfl rfl Try.func36 (by kernel_rfl) rfl #[.agg #[.int .i64 a0_0,.slice A0_1 l0_1.length c0_1]] rfl lp_ ?_;(with_reducible refine (impl_GradesValid.calls k a0_0 _ _ l0_1 true _ ?side1 ?side2 A3.out).mono ?_);(case side1 => repeat (first|exact (Kd.C_below HR0_1.out HB.out)|(with_reducible refine Kd.C_alloc ?_ _)|(with_reducible refine Kd.C_drewN ?_ _)|(with_reducible refine Kd.C_drew ?_)));(case side2 => exact HC0_1.out);rintro e w43 ⟨rfl,hb⟩;refine ⟨_,rfl,?_⟩;have n0_:=Aside0.mk (blk_below (g:=gb298) (o:=.cells #[.int .i64 a0_0,.slice A0_1 l0_1.length c0_1] 28 (0,0)) (pe_ BK298.out) hb);have n1_:=Aside0.mk (blk_below (g:=gb299) (o:=.cells #[.int .i64 a1_0,.slice A1_1 l1_1.length c1_1] 28 (0,0)) (pe_ BK299.out) hb);have n2_:=Aside0.mk (blk_below (g:=gb300) (o:=.cells #[.int .i64 0,.slice none 0 0] 28 (0,0)) (pe_ BK300.out) hb);have n3_:=Aside0.mk (below_step (be3_ HB.out GE298.out GE299.out GE300.out) hb);clear BK298;clear BK299;clear BK300;clear HB;have BK298:=n0_;have BK299:=n1_;have BK300:=n2_;have HB:=n3_;clear n0_ n1_ n2_ n3_;(try clear hb);(try clear hb2);(try clear hk);(try clear hi);have hnb44:=NB299_300.out;have hnc44:=NB300_299.out;have hcz45_0 : w43.cell? ⟨gb299,0,none⟩ = some (.int .i64 a1_0):=(blk_cell BK299.out 0).trans rfl;have hcz45_1 : w43.cell? ⟨gb299,1,none⟩ = some (.slice A1_1 l1_1.length c1_1):=(blk_cell BK299.out 1).trans rfl;have hfz45_0:=blk_frozen BK299.out 0;have hfz45_1:=blk_frozen BK299.out 1)|(go_at_call 36;(with_reducible refine (impl_GradesValid.calls k a1_0 _ _ l1_1 false _ ?side1 ?side2 A5.out).mono ?_);(case side1 => repeat (first|exact (Kd.C_below HR1_1.out HB.out)|(with_reducible refine Kd.C_alloc ?_ _)|(with_reducible refine Kd.C_drewN ?_ _)|(with_reducible refine Kd.C_drew ?_)));(case side2 => exact HC1_1.out);rintro e w46 ⟨rfl,hb⟩;have n0_:=Aside0.mk (blk_below (g:=gb298) (o:=.cells #[.int .i64 a0_0,.slice A0_1 l0_1.length c0_1] 28 (0,0)) (pe_ BK298.out) hb);have n1_:=Aside0.mk (blk_below (g:=gb299) (o:=.cells #[.int .i64 a1_0,.slice A1_1 l1_1.length c1_1] 28 (0,0)) (pe_ BK299.out) hb);have n2_:=Aside0.mk (blk_below (g:=gb300) (o:=.cells #[.int .i64 0,.slice none 0 0] 28 (0,0)) (pe_ BK300.out) hb);have n3_:=Aside0.mk (below_step (be3_ HB.out GE298.out GE299.out GE300.out) hb);clear BK298;clear BK299;clear BK300;clear HB;have BK298:=n0_;have BK299:=n1_;have BK300:=n2_;have HB:=n3_;clear n0_ n1_ n2_ n3_;(try clear hb);(try clear hb2);(try clear hk);(try clear hi);have hcz47_0 : w46.cell? ⟨gb300,0,none⟩ = some (.int .i64 0):=(blk_cell BK300.out 0).trans rfl;have hcz47_1 : w46.cell? ⟨gb300,1,none⟩ = some (.slice none 0 0):=(blk_cell BK300.out 1).trans rfl;have hfz47_0:=blk_frozen BK300.out 0;have hfz47_1:=blk_frozen BK300.out 1))
   refine bodyPost_ret (results_ct rfl _ _ gb300 28 #[.int .i64 0,.slice none 0 0] (0,0) _ rfl (by refine pe_ ?_;refine blk_put (cs:=#[.int .i64 0,.slice none 0 0]) ?_ 1 _ rfl;refine pe_ ?_;refine blk_put (cs:=#[.int .i64 0,.slice none 0 0]) ?_ 0 _ rfl;refine pe_ ?_;exact BK300.out) Try.underlying28 rfl (by kernel_rfl)) rfl ?_
   exact ⟨_,by first|rfl|(simp [errW_none,errW_some] <;> rfl)|(simp [*,errW_none,errW_some] <;> rfl),by first|exact Kd.R_nil _ _ _ _ _|exact Kd.N_nil _ _ _ _ _|exact Kd.V_nil _ _ _ _ _|exact Kd.Q_nil _ _ _ _ _|exact Kd.S_nil _ _ _ _ _,be3_ HB.out GE298.out GE299.out GE300.out⟩
 ·replace c4:=Bool.eq_false_iff.mpr c4
  subst c4
  have H1 : (some (0,([] : List Int),false)) = some (r1,r2,r3):=by rw [if_neg (show ¬ (false = true) by decide)] at H;exact H
  clear H
  have H:=H1
  clear H1
  simp only [Option.some.injEq,Prod.mk.injEq] at H
  obtain ⟨rfl,rfl,rfl⟩:=H
  go_enter Try.func27,Try.ntmps27
  go_wp2_with (first|((with_reducible refine gate_dst (N:=2) rfl ?_);refine box_event ?hg (N:=2) ?hd (cs:=#[.int .i64 a0_0,.slice A0_1 l0_1.length c0_1]) (t:=28) ?hr ?_;(case hd => rfl);(case hg => rfl);(case hr => first|(go_simp;done)|(go_simp;rfl));intro gb298 hg w48 hbox hb;have n0_:=Aside0.mk (below_step (be0_ HB.out) hb);have n1_:=Aside0.mk (hbox);have n2_:=Aside0.mk ((by rw [hg];exact (below_size (be0_ HB.out)) : w.heap.size ≤ gb298));have n3_:=Aside0.mk ((by rw [hg];exact (below_size (be0_ HB.out)) : w.heap.size ≤ gb298));clear HB;have HB:=n0_;have BK298:=n1_;have GW298:=n2_;have GE298:=n3_;clear n0_ n1_ n2_ n3_;clear hb hbox hg)|((with_reducible refine gate_dst (N:=3) rfl ?_);refine box_event ?hg (N:=3) ?hd (cs:=#[.int .i64 a1_0,.slice A1_1 l1_1.length c1_1]) (t:=28) ?hr ?_;(case hd => rfl);(case hg => rfl);(case hr => first|(go_simp;done)|(go_simp;rfl));intro gb299 hg w49 hbox hb;have n0_:=Aside0.mk (blk_below (g:=gb298) (o:=.cells #[.int .i64 a0_0,.slice A0_1 l0_1.length c0_1] 28 (0,0)) (pe_ BK298.out) hb);have n1_:=Aside0.mk (below_step (be1_ HB.out GE298.out) hb);have n2_:=Aside0.mk (hbox);have n3_:=Aside0.mk ((by rw [hg];exact (below_size (be1_ HB.out GE298.out)) : w.heap.size ≤ gb299));have n4_:=Aside0.mk ((by rw [hg];exact (below_size (be1_ HB.out GE298.out)) : w.heap.size ≤ gb299));have n5_:=Aside0.mk ((by rw [hg];exact Nat.ne_of_lt (blk_lt (g:=gb298) (o:=.cells #[.int .i64 a0_0,.slice A0_1 l0_1.length c0_1] 28 (0,0)) (pe_ BK298.out)) : gb298 ≠ gb299));have n6_:=Aside0.mk ((by rw [hg];exact Nat.ne_of_gt (blk_lt (g:=gb298) (o:=.cells #[.int .i64 a0_0,.slice A0_1 l0_1.length c0_1] 28 (0,0)) (pe_ BK298.out)) : gb299 ≠ gb298));clear BK298;clear HB;have BK298:=n0_;have HB:=n1_;have BK299:=n2_;have GW299:=n3_;have GE299:=n4_;have NB298_299:=n5_;have NB299_298:=n6_;clear n0_ n1_ n2_ n3_ n4_ n5_ n6_;clear hb hbox hg)|((with_reducible refine gate_dst (N:=4) rfl ?_);refine box_event ?hg (N:=4) ?hd (cs:=#[.int .i64 0,.slice none 0 0]) (t:=28) ?hr ?_;(case hd => rfl);(case hg => rfl);(case hr => first|(go_simp;done)|(go_simp;rfl));intro gb300 hg w50 hbox hb;have n0_:=Aside0.mk (blk_below (g:=gb298) (o:=.cells #[.int .i64 a0_0,.slice A0_1 l0_1.length c0_1] 28 (0,0)) (pe_ BK298.out) hb);have n1_:=Aside0.mk (blk_below (g:=gb299) (o:=.cells #[.int .i64 a1_0,.slice A1_1 l1_1.length c1_1] 28 (0,0)) (pe_ BK299.out) hb);have n2_:=Aside0.mk (below_step (be2_ HB.out GE298.out GE299.out) hb);have n3_:=Aside0.mk (hbox);have n4_:=Aside0.mk ((by rw [hg];exact (below_size (be2_ HB.out GE298.out GE299.out)) : w.heap.size ≤ gb300));have n5_:=Aside0.mk ((by rw [hg];exact (below_size (be2_ HB.out GE298.out GE299.out)) : w.heap.size ≤ gb300));have n6_:=Aside0.mk ((by rw [hg];exact Nat.ne_of_lt (blk_lt (g:=gb298) (o:=.cells #[.int .i64 a0_0,.slice A0_1 l0_1.length c0_1] 28 (0,0)) (pe_ BK298.out)) : gb298 ≠ gb300));have n7_:=Aside0.mk ((by rw [hg];exact Nat.ne_of_gt (blk_lt (g:=gb298) (o:=.cells #[.int .i64 a0_0,.slice A0_1 l0_1.length c0_1] 28 (0,0)) (pe_ BK298.out)) : gb300 ≠ gb298));have n8_:=Aside0.mk ((by rw [hg];exact Nat.ne_of_lt (blk_lt (g:=gb299) (o:=.cells #[.int .i64 a1_0,.slice A1_1 l1_1.length c1_1] 28 (0,0)) (pe_ BK299.out)) : gb299 ≠ gb300));have n9_:=Aside0.mk ((by rw [hg];exact Nat.ne_of_gt (blk_lt (g:=gb299) (o:=.cells #[.int .i64 a1_0,.slice A1_1 l1_1.length c1_1] 28 (0,0)) (pe_ BK299.out)) : gb300 ≠ gb299));clear BK298;clear BK299;clear HB;have BK298:=n0_;have BK299:=n1_;have HB:=n2_;have BK300:=n3_;have GW300:=n4_;have GE300:=n5_;have NB298_300:=n6_;have NB300_298:=n7_;have NB299_300:=n8_;have NB300_299:=n9_;clear n0_ n1_ n2_ n3_ n4_ n5_ n6_ n7_ n8_ n9_;clear hb hbox hg;have hnb51:=NB298_299.out;have hnc51:=NB299_298.out;have hnb52:=NB298_300.out;have hnc52:=NB300_298.out;have hcz53_0 : w50.cell? ⟨gb298,0,none⟩ = some (.int .i64 a0_0):=(blk_cell BK298.out 0).trans rfl;have hcz53_1 : w50.cell? ⟨gb298,1,none⟩ = some (.slice A0_1 l0_1.length c0_1):=(blk_cell BK298.out 1).trans rfl;have hfz53_0:=blk_frozen BK298.out 0;have hfz53_1:=blk_frozen BK298.out 1)|((with_reducible refine gate_callee (f:=36) rfl ?_);refine goesL_ (some 7) rfl rfl Try.func36 (by kernel_rfl) rfl #[.agg #[.int .i64 a0_0,.slice A0_1 l0_1.length c0_1]] rfl lp_ ?_;(with_reducible refine (impl_GradesValid.calls k a0_0 _ _ l0_1 false _ ?side1 ?side2 A3.out).mono ?_);(case side1 => repeat (first|exact (Kd.C_below HR0_1.out HB.out)|(with_reducible refine Kd.C_alloc ?_ _)|(with_reducible refine Kd.C_drewN ?_ _)|(with_reducible refine Kd.C_drew ?_)));(case side2 => exact HC0_1.out);rintro e w54 ⟨rfl,hb⟩;refine ⟨_,rfl,?_⟩;have n0_:=Aside0.mk (blk_below (g:=gb298) (o:=.cells #[.int .i64 a0_0,.slice A0_1 l0_1.length c0_1] 28 (0,0)) (pe_ BK298.out) hb);have n1_:=Aside0.mk (blk_below (g:=gb299) (o:=.cells #[.int .i64 a1_0,.slice A1_1 l1_1.length c1_1] 28 (0,0)) (pe_ BK299.out) hb);have n2_:=Aside0.mk (blk_below (g:=gb300) (o:=.cells #[.int .i64 0,.slice none 0 0] 28 (0,0)) (pe_ BK300.out) hb);have n3_:=Aside0.mk (below_step (be3_ HB.out GE298.out GE299.out GE300.out) hb);clear BK298;clear BK299;clear BK300;clear HB;have BK298:=n0_;have BK299:=n1_;have BK300:=n2_;have HB:=n3_;clear n0_ n1_ n2_ n3_;(try clear hb);(try clear hb2);(try clear hk);(try clear hi);have hnb55:=NB300_299.out;have hnc55:=NB299_300.out;have hcz56_0 : w54.cell? ⟨gb300,0,none⟩ = some (.int .i64 0):=(blk_cell BK300.out 0).trans rfl;have hcz56_1 : w54.cell? ⟨gb300,1,none⟩ = some (.slice none 0 0):=(blk_cell BK300.out 1).trans rfl;have hfz56_0:=blk_frozen BK300.out 0;have hfz56_1:=blk_frozen BK300.out 1))
  refine bodyPost_ret (results_ct rfl _ _ gb300 28 #[.int .i64 0,.slice none 0 0] (0,0) _ rfl (by refine pe_ ?_;refine blk_put (cs:=#[.int .i64 0,.slice none 0 0]) ?_ 1 _ rfl;refine pe_ ?_;refine blk_put (cs:=#[.int .i64 0,.slice none 0 0]) ?_ 0 _ rfl;refine pe_ ?_;exact BK300.out) Try.underlying28 rfl (by kernel_rfl)) rfl ?_
  exact ⟨_,by first|rfl|(simp [errW_none,errW_some] <;> rfl)|(simp [*,errW_none,errW_some] <;> rfl),by first|exact Kd.R_nil _ _ _ _ _|exact Kd.N_nil _ _ _ _ _|exact Kd.V_nil _ _ _ _ _|exact Kd.Q_nil _ _ _ _ _|exact Kd.S_nil _ _ _ _ _,be3_ HB.out GE298.out GE299.out GE300.out⟩
end Go.Proofs.Ytengegdaiphfeaa.X
end
section
namespace Go.Proofs.Ytengegdaiphfeaa.X
open Go.RowKit Go.Proofs.YtengegdaiphfeaaW.PrintWords Go.Proofs.YtengegdaiphfeaaW.PrintLast Go.Proofs.YtengegdaiphfeaaW.PrintMore
attribute [local go_sem] max2_int min2_int max_two min_two max_three min_three max_four min_four
set_option linter.unusedVariables false
set_option linter.unusedSimpArgs false
def impl_UnitMatrix_1.f (a0 : Int) (a1 : Int) : Option (Int):=if a0 = a1 then (some 0) else (some 1000000)
set_option maxHeartbeats 8000000 in
set_option maxRecDepth 100000 in
theorem impl_UnitMatrix_1.calls (a0 : Int) (a1 : Int) (r : Int) (w : World) (h : impl_UnitMatrix_1.f a0 a1 = some r) :
  Calls Try.prog 82 #[.int .i64 a0,.int .i64 a1] w fun e w' => e = .returned (.int .i64 r) ∧ Drawn0 w w':=by
 have H : (if a0 = a1 then (some 0) else (some 1000000)) = some r:=h
 clear h
 by_cases c3 : a0 = a1
 ·rw [if_pos c3] at H
  have c3b0 : (a0 == a1) = true:=beq_iff_eq.mpr c3
  have c3b1 : (a0 != a1) = false:=bne_eq_false_iff_eq.mpr c3
  clear c3
  obtain rfl:=Option.some.inj H
  go_enter Try.func82,Try.ntmps82
  go_wp2
  go_ret
  exact ⟨by first|rfl|(simp;done)|(simp [*];done),by repeat (first|exact Drawn0.refl _|apply Drawn0.step)⟩
 ·rw [if_neg c3] at H
  have c3b0 : (a0 == a1) = false:=beq_eq_false_iff_ne.mpr c3
  have c3b1 : (a0 != a1) = true:=bne_iff_ne.mpr c3
  obtain rfl:=Option.some.inj H
  go_enter Try.func82,Try.ntmps82
  go_wp2
  go_ret
  exact ⟨by first|rfl|(simp;done)|(simp [*];done),by repeat (first|exact Drawn0.refl _|apply Drawn0.step)⟩
end Go.Proofs.Ytengegdaiphfeaa.X
end
section
namespace Go.Proofs.Ytengegdaiphfeaa.X
open Go.RowKit Go.Proofs.YtengegdaiphfeaaW.PrintWords Go.Proofs.YtengegdaiphfeaaW.PrintLast Go.Proofs.YtengegdaiphfeaaW.PrintMore
attribute [local go_sem] max2_int min2_int max_two min_two max_three min_three max_four min_four
set_option linter.unusedVariables false
set_option linter.unusedSimpArgs false
def impl_filled__impl_UnitMatrix_1.f (k : Nat) (a0 : Int) : Option (Int × List Int):=impl_filled.f (fun y0 y1 => impl_UnitMatrix_1.f  y0 y1 ) k a0
theorem impl_filled__impl_UnitMatrix_1.mono : ∀ b0 k,LeO (impl_filled__impl_UnitMatrix_1.f k b0) (impl_filled__impl_UnitMatrix_1.f (k + 1) b0):=by
 intro b0 k
 exact impl_filled.monoP (fun _ _ => LeO.refl _) _ k
set_option maxHeartbeats 2000000 in
theorem impl_filled__impl_UnitMatrix_1.calls (k : Nat) (a0 : Int) (r1 : Int) (r2 : List Int) (w : World) (h : impl_filled__impl_UnitMatrix_1.f k a0 = some (r1,r2)) :
  Calls Try.prog 59 #[.int .i64 a0,.func (.func 82) #[] #[]] w fun e w' => ∃ v1_ : Value,e = .returned (.agg #[.int .i64 r1,v1_]) ∧ Kd.R (Kd.int .i64) 3 w' w.heap.size (fun _ => True) v1_ r2 ∧ Below w.heap.size w w':=by
 refine impl_filled.calls k a0 82 #[] #[] (fun y0 y1 => impl_UnitMatrix_1.f  y0 y1 ) r1 r2 w  ⟨_,Try.func82,rfl,rfl⟩ ?_ h
 intro ay0 ay1 z0 W_ hB_  h_
 refine calls_of_args (args':=#[.int .i64 ay0,.int .i64 ay1]) (by simp) ?_
 refine (impl_UnitMatrix_1.calls ay0 ay1 z0 W_  h_).mono ?_
 rintro e w' ⟨rfl,hd⟩
 exact ⟨rfl,hd.below⟩
end Go.Proofs.Ytengegdaiphfeaa.X
end
section
namespace Go.Proofs.Ytengegdaiphfeaa.X
open Go.RowKit Go.Proofs.YtengegdaiphfeaaW.PrintWords Go.Proofs.YtengegdaiphfeaaW.PrintLast Go.Proofs.YtengegdaiphfeaaW.PrintMore
attribute [local go_sem] max2_int min2_int max_two min_two max_three min_three max_four min_four
set_option linter.unusedVariables false
set_option linter.unusedSimpArgs false
def impl_UnitMatrix.f (k : Nat) (a0 : Int) : Option (Int × List Int × Bool):=if a0 < 1 then (some (0,([] : List Int),false)) else (if a0 > 4 then (some (0,([] : List Int),false)) else ((impl_filled__impl_UnitMatrix_1.f k a0).bind fun bt654 => (some (bt654.1,bt654.2,true))))
theorem impl_UnitMatrix.mono : ∀ a0 k,LeO (impl_UnitMatrix.f k a0) (impl_UnitMatrix.f (k + 1) a0):=by
 intro a0 k
 unfold impl_UnitMatrix.f
 repeat' first
   | (with_reducible exact impl_filled__impl_UnitMatrix_1.mono _ _)
   | (with_reducible exact LeO.refl _)
   | (with_reducible exact LeO.none _)
   | (with_reducible refine LeO.ite ?_ ?_)
   | (with_reducible refine LeO.bind ?_ (fun _ => ?_))
   | exact impl_filled__impl_UnitMatrix_1.mono _ _
   | exact LeO.none _
   | refine LeO.ite ?_ ?_
   | refine LeO.bind ?_ (fun _ => ?_)
set_option maxHeartbeats 8000000 in
set_option maxRecDepth 100000 in
theorem impl_UnitMatrix.calls (k : Nat) (a0 : Int) (r1 : Int) (r2 : List Int) (r3 : Bool) (w : World) (h : impl_UnitMatrix.f k a0 = some (r1,r2,r3)) :
  Calls Try.prog 37 #[.int .i64 a0] w fun e w' => ∃ v1_ : Value,e = .returned (.tuple #[.agg #[.int .i64 r1,v1_],.bool r3]) ∧ Kd.R (Kd.int .i64) 3 w' w.heap.size (fun _ => True) v1_ r2 ∧ Below w.heap.size w w':=by
 have hu28:=Try.underlying28
 have HB:=Aside0.mk (Below.refl w.heap.size w)
 have H : (if a0 < 1 then (some (0,([] : List Int),false)) else (if a0 > 4 then (some (0,([] : List Int),false)) else ((impl_filled__impl_UnitMatrix_1.f k a0).bind fun bt654 => (some (bt654.1,bt654.2,true))))) = some (r1,r2,r3):=h
 clear h
 by_cases c2 : a0 < 1
 ·rw [if_pos c2] at H
  have c2b0 : decide (a0 < 1) = true:=decide_eq_true c2
  clear c2
  simp only [Option.some.injEq,Prod.mk.injEq] at H
  obtain ⟨rfl,rfl,rfl⟩:=H
  go_enter Try.func37,Try.ntmps37
  go_wp2_with (first|((with_reducible refine gate_dst (N:=2) rfl ?_);refine box_event ?hg (N:=2) ?hd (cs:=#[.int .i64 0,.slice none 0 0]) (t:=28) ?hr ?_;(case hd => rfl);(case hg => rfl);(case hr => first|(go_simp;done)|(go_simp;rfl));intro gb653 hg w3 hbox hb;have n0_:=Aside0.mk (below_step (be0_ HB.out) hb);have n1_:=Aside0.mk (hbox);have n2_:=Aside0.mk ((by rw [hg];exact (below_size (be0_ HB.out)) : w.heap.size ≤ gb653));have n3_:=Aside0.mk ((by rw [hg];exact (below_size (be0_ HB.out)) : w.heap.size ≤ gb653));clear HB;have HB:=n0_;have BK653:=n1_;have GW653:=n2_;have GE653:=n3_;clear n0_ n1_ n2_ n3_;clear hb hbox hg;have hcz4_0 : w3.cell? ⟨gb653,0,none⟩ = some (.int .i64 0):=(blk_cell BK653.out 0).trans rfl;have hcz4_1 : w3.cell? ⟨gb653,1,none⟩ = some (.slice none 0 0):=(blk_cell BK653.out 1).trans rfl;have hfz4_0:=blk_frozen BK653.out 0;have hfz4_1:=blk_frozen BK653.out 1))
  refine bodyPost_ret (results_ct rfl _ _ gb653 28 #[.int .i64 0,.slice none 0 0] (0,0) _ rfl (by refine pe_ ?_;refine blk_put (cs:=#[.int .i64 0,.slice none 0 0]) ?_ 1 _ rfl;refine pe_ ?_;refine blk_put (cs:=#[.int .i64 0,.slice none 0 0]) ?_ 0 _ rfl;refine pe_ ?_;exact BK653.out) Try.underlying28 rfl (by kernel_rfl)) rfl ?_
  exact ⟨_,by first|rfl|(simp [errW_none,errW_some] <;> rfl)|(simp [*,errW_none,errW_some] <;> rfl),by first|exact Kd.R_nil _ _ _ _ _|exact Kd.N_nil _ _ _ _ _|exact Kd.V_nil _ _ _ _ _|exact Kd.Q_nil _ _ _ _ _|exact Kd.S_nil _ _ _ _ _,be1_ HB.out GE653.out⟩
 ·rw [if_neg c2] at H
  have c2b0 : decide (a0 < 1) = false:=decide_eq_false c2
  clear c2
  by_cases c5 : a0 > 4
  ·rw [if_pos c5] at H
   have c5b0 : decide (4 < a0) = true:=decide_eq_true c5
   clear c5
   simp only [Option.some.injEq,Prod.mk.injEq] at H
   obtain ⟨rfl,rfl,rfl⟩:=H
   go_enter Try.func37,Try.ntmps37
   go_wp2_with (first|((with_reducible refine gate_dst (N:=2) rfl ?_);refine box_event ?hg (N:=2) ?hd (cs:=#[.int .i64 0,.slice none 0 0]) (t:=28) ?hr ?_;(case hd => rfl);(case hg => rfl);(case hr => first|(go_simp;done)|(go_simp;rfl));intro gb653 hg w6 hbox hb;have n0_:=Aside0.mk (below_step (be0_ HB.out) hb);have n1_:=Aside0.mk (hbox);have n2_:=Aside0.mk ((by rw [hg];exact (below_size (be0_ HB.out)) : w.heap.size ≤ gb653));have n3_:=Aside0.mk ((by rw [hg];exact (below_size (be0_ HB.out)) : w.heap.size ≤ gb653));clear HB;have HB:=n0_;have BK653:=n1_;have GW653:=n2_;have GE653:=n3_;clear n0_ n1_ n2_ n3_;clear hb hbox hg;have hcz7_0 : w6.cell? ⟨gb653,0,none⟩ = some (.int .i64 0):=(blk_cell BK653.out 0).trans rfl;have hcz7_1 : w6.cell? ⟨gb653,1,none⟩ = some (.slice none 0 0):=(blk_cell BK653.out 1).trans rfl;have hfz7_0:=blk_frozen BK653.out 0;have hfz7_1:=blk_frozen BK653.out 1))
   refine bodyPost_ret (results_ct rfl _ _ gb653 28 #[.int .i64 0,.slice none 0 0] (0,0) _ rfl (by refine pe_ ?_;refine blk_put (cs:=#[.int .i64 0,.slice none 0 0]) ?_ 1 _ rfl;refine pe_ ?_;refine blk_put (cs:=#[.int .i64 0,.slice none 0 0]) ?_ 0 _ rfl;refine pe_ ?_;exact BK653.out) Try.underlying28 rfl (by kernel_rfl)) rfl ?_
   exact ⟨_,by first|rfl|(simp [errW_none,errW_some] <;> rfl)|(simp [*,errW_none,errW_some] <;> rfl),by first|exact Kd.R_nil _ _ _ _ _|exact Kd.N_nil _ _ _ _ _|exact Kd.V_nil _ _ _ _ _|exact Kd.Q_nil _ _ _ _ _|exact Kd.S_nil _ _ _ _ _,be1_ HB.out GE653.out⟩
  ·rw [if_neg c5] at H
   have c5b0 : decide (4 < a0) = false:=decide_eq_false c5
   clear c5
   replace H:=Option.bind_eq_some_iff.mp H
   obtain ⟨⟨t654,t655⟩,A80,H⟩:=H
   replace H : (some (t654,t655,true)) = some (r1,r2,r3):=H
   have A8:=Aside0.mk A80
   clear A80
   simp only [Option.some.injEq,Prod.mk.injEq] at H
   obtain ⟨rfl,rfl,rfl⟩:=H
   go_enter Try.func37,Try.ntmps37
   go_wp2_with (first|((with_reducible refine gate_dst (N:=2) rfl ?_);refine box_event ?hg (N:=2) ?hd (cs:=#[.int .i64 0,.slice none 0 0]) (t:=28) ?hr ?_;(case hd => rfl);(case hg => rfl);(case hr => first|(go_simp;done)|(go_simp;rfl));intro gb653 hg w9 hbox hb;have n0_:=Aside0.mk (below_step (be0_ HB.out) hb);have n1_:=Aside0.mk (hbox);have n2_:=Aside0.mk ((by rw [hg];exact (below_size (be0_ HB.out)) : w.heap.size ≤ gb653));have n3_:=Aside0.mk ((by rw [hg];exact (below_size (be0_ HB.out)) : w.heap.size ≤ gb653));clear HB;have HB:=n0_;have BK653:=n1_;have GW653:=n2_;have GE653:=n3_;clear n0_ n1_ n2_ n3_;clear hb hbox hg)|((with_reducible refine gate_callee (f:=59) rfl ?_);refine goesL_ (some 12) rfl rfl Try.func59 (by kernel_rfl) rfl #[.int .i64 a0,.func (.func 82) #[] #[]] rfl lp_ ?_;(with_reducible refine (impl_filled__impl_UnitMatrix_1.calls k a0 t654 t655 _ A8.out).mono ?_);rintro e w10 ⟨v656,rfl,ho0,hb⟩;refine ⟨_,rfl,?_⟩;have n0_:=Aside0.mk (Kd.R_lower ho0 (below_size (be1_ HB.out GE653.out)));have n1_:=Aside0.mk (blk_below (g:=gb653) (o:=.cells #[.int .i64 0,.slice none 0 0] 28 (0,0)) (pe_ BK653.out) hb);have n2_:=Aside0.mk (below_step (be1_ HB.out GE653.out) hb);clear BK653;clear HB;have HO657:=n0_;have BK653:=n1_;have HB:=n2_;clear n0_ n1_ n2_;(try clear hb);(try clear hb2);(try clear hk);(try clear hi);(try clear ho0);have hcz11_0 : w10.cell? ⟨gb653,0,none⟩ = some (.int .i64 0):=(blk_cell BK653.out 0).trans rfl;have hcz11_1 : w10.cell? ⟨gb653,1,none⟩ = some (.slice none 0 0):=(blk_cell BK653.out 1).trans rfl;have hfz11_0:=blk_frozen BK653.out 0;have hfz11_1:=blk_frozen BK653.out 1;obtain ⟨Ao12,co12,eo12⟩:=Kd.R_slice HO657.out;subst eo12))
   refine bodyPost_ret (results_ct rfl _ _ gb653 28 #[.int .i64 t654,.slice Ao12 t655.length co12] (0,0) _ rfl (by refine pe_ ?_;refine blk_put (cs:=#[.int .i64 t654,.slice none 0 0]) ?_ 1 _ rfl;refine pe_ ?_;refine blk_put (cs:=#[.int .i64 0,.slice none 0 0]) ?_ 0 _ rfl;refine pe_ ?_;exact BK653.out) Try.underlying28 rfl (by kernel_rfl)) rfl ?_
   exact ⟨_,by first|rfl|(simp [errW_none,errW_some] <;> rfl)|(simp [*,errW_none,errW_some] <;> rfl),by refine pr_ ?_;exact Kd.R_mono (Kd.R_far (p:=⟨gb653,1,none⟩) (Kd.R_far (p:=⟨gb653,0,none⟩) (Kd.R_types HO657.out BK653.out (by decide)) (fun _ hk => hk.2) (.int .i64 t654)) (fun _ hk => hk.2) (.slice Ao12 t655.length co12)) (fun _ hk => trivial),be1_ HB.out GE653.out⟩
end Go.Proofs.Ytengegdaiphfeaa.X
end
section
namespace Go.Proofs.Ytengegdaiphfeaa.X
open Go.RowKit Go.Proofs.YtengegdaiphfeaaW.PrintWords Go.Proofs.YtengegdaiphfeaaW.PrintLast Go.Proofs.YtengegdaiphfeaaW.PrintMore
attribute [local go_sem] max2_int min2_int max_two min_two max_three min_three max_four min_four
set_option linter.unusedVariables false
set_option linter.unusedSimpArgs false
def laws_daSame.l0 : Nat → List Int → List Int → Int → Int → Option (Bool)
 | 0,_,_,_,_ => none
 | k + 1,x0,x1,x10,x11 => if x11 < x10 then (if 0 ≤ x11 then (if x11 < (x0.length : Int) then (if x11 < (x1.length : Int) then (if (rd x0 x11) = (rd x1 x11) then (laws_daSame.l0 k x0 x1 x10 (wrap64 (x11 + 1))) else (some false)) else (none)) else (none)) else (none)) else (some ((x0.length : Int) == (x1.length : Int)))
def laws_daSame.f (k : Nat) (l0 : List Int) (l1 : List Int) : Option (Bool):=laws_daSame.l0 k l0 l1 (mn (l0.length : Int) (l1.length : Int)) 0
theorem laws_daSame.mono_l : ∀ k,(∀ y0 y1 y2 y3,LeO (laws_daSame.l0 k y0 y1 y2 y3) (laws_daSame.l0 (k + 1) y0 y1 y2 y3))
 | 0 => fun _ _ _ _ r h => by simp [laws_daSame.l0] at h
 | k + 1 => by
  have ih0:=laws_daSame.mono_l k
  ·intro y0 y1 y2 y3
   unfold laws_daSame.l0
   repeat' first
   | (with_reducible exact ih0 _ _ _ _)
   | (with_reducible exact LeO.refl _)
   | (with_reducible exact LeO.none _)
   | (with_reducible refine LeO.ite ?_ ?_)
   | (with_reducible refine LeO.bind ?_ (fun _ => ?_))
   | exact ih0 _ _ _ _
   | exact LeO.none _
   | refine LeO.ite ?_ ?_
   | refine LeO.bind ?_ (fun _ => ?_)
theorem laws_daSame.mono : ∀ a0 a1 k,LeO (laws_daSame.f k a0 a1) (laws_daSame.f (k + 1) a0 a1):=by
 intro a0 a1 k
 have ih0:=laws_daSame.mono_l k
 unfold laws_daSame.f
 repeat' first
   | (with_reducible exact ih0 _ _ _ _)
   | (with_reducible exact LeO.refl _)
   | (with_reducible exact LeO.none _)
   | (with_reducible refine LeO.ite ?_ ?_)
   | (with_reducible refine LeO.bind ?_ (fun _ => ?_))
   | exact ih0 _ _ _ _
   | exact LeO.none _
   | refine LeO.ite ?_ ?_
   | refine LeO.bind ?_ (fun _ => ?_)
set_option maxHeartbeats 8000000 in
set_option maxRecDepth 100000 in
theorem laws_daSame.calls (k : Nat) (A0 : Option Addr) (c0 : Nat) (l0 : List Int) (A1 : Option Addr) (c1 : Nat) (l1 : List Int) (r : Bool) (w : World) (hr0 : Kd.C (Kd.int .i64) w A0 l0.length l0) (hc0 : l0.length ≤ c0) (hr1 : Kd.C (Kd.int .i64) w A1 l1.length l1) (hc1 : l1.length ≤ c1) (h : laws_daSame.f k l0 l1 = some r) :
  Calls Try.prog 73 #[.slice A0 l0.length c0,.slice A1 l1.length c1] w fun e w' => e = .returned (.bool r) ∧ Below w.heap.size w w':=by
 have HR0:=Aside0.mk hr0
 have HC0:=Aside0.mk hc0
 clear hr0 hc0
 have HR1:=Aside0.mk hr1
 have HC1:=Aside0.mk hc1
 clear hr1 hc1
 have HB:=Aside0.mk (Below.refl w.heap.size w)
 have H : (laws_daSame.l0 k l0 l1 (mn (l0.length : Int) (l1.length : Int)) 0) = some r:=h
 clear h
 obtain ⟨ji3,hji3⟩ : ∃ j_ : Int,(mn (l0.length : Int) (l1.length : Int)) = j_:=⟨_,rfl⟩
 replace H : (laws_daSame.l0 k l0 l1 ji3 0) = some r:=by first|(rw [hji3] at H;exact H)|(simp only [hji3] at H ⊢;exact H)
 (try (have hji3l : 0 ≤ ji3:=by (rw [← hji3];unfold mn;(repeat' split) <;> omega)))
 (try (have hji3m : 0 ≤ ji3:=by omega))
 have hji3_ : (if (l1.length : Int) < (l0.length : Int) then (l1.length : Int) else (l0.length : Int)) = ji3:=hji3
 have hji3n : (if l1.length < l0.length then (l1.length : Int) else (l0.length : Int)) = ji3:=by rw [← hji3];unfold mn;(repeat' split) <;> omega
 have H':=Aside0.mk H
 clear H
 go_enter Try.func73,Try.ntmps73
 go_wp2
 repeat (go_quiet (fail);try go_wp2)
 go_loopg [11] k (fun kq v11 w' => ∃ (x11_1 : Int),v11 = .int .i64 x11_1 ∧ Aside0 (laws_daSame.l0 kq l0 l1 ji3 x11_1 = some r) ∧ Aside0 (kq ≤ k) ∧ Aside0 (Below w.heap.size w w'))
 case atStart => exact ⟨(0),(by first|rfl|(simp;done)|(simp [*];done)),H',⟨Nat.le_refl _⟩,⟨be0_ HB.out⟩⟩
 case round =>
  clear H'
  try clear c1
  try clear p2
  obtain ⟨x11_1,rfl,HA,HK1,HB⟩:=hrel
  cases gk with
  | zero => exact absurd HA.out (by simp [laws_daSame.l0])
  | succ k1 =>
   have H:=HA.out
   clear HA
   simp only [laws_daSame.l0] at H
   by_cases c4 : x11_1 < ji3
   ·rw [if_pos c4] at H
    have c4b0 : decide (x11_1 < ji3) = true:=decide_eq_true c4
    clear c4
    by_cases c5 : 0 ≤ x11_1
    ·rw [if_pos c5] at H
     have c5b0 : decide (0 ≤ x11_1) = true:=decide_eq_true c5
     clear c5
     by_cases c6 : x11_1 < (l0.length : Int)
     ·rw [if_pos c6] at H
      have c6b0 : decide (x11_1 < (l0.length : Int)) = true:=decide_eq_true c6
      clear c6
      by_cases c7 : x11_1 < (l1.length : Int)
      ·rw [if_pos c7] at H
       have c7b0 : decide (x11_1 < (l1.length : Int)) = true:=decide_eq_true c7
       clear c7
       by_cases c8 : (rd l0 x11_1) = (rd l1 x11_1)
       ·rw [if_pos c8] at H
        have c8b0 : ((rd l0 x11_1) == (rd l1 x11_1)) = true:=beq_iff_eq.mpr c8
        have c8b1 : ((rd l0 x11_1) != (rd l1 x11_1)) = false:=bne_eq_false_iff_eq.mpr c8
        clear c8
        have H':=Aside0.mk H
        clear H
        have p517 : 0 ≤ (x11_1 : Int):=of_decide_eq_true (by first|(with_reducible assumption)|assumption)
        have q517 : x11_1 < (l0.length : Int):=of_decide_eq_true (by first|(with_reducible assumption)|assumption)
        obtain ⟨ad517,e517,hx517_0⟩:=Kd.at_int HR0.out x11_1 p517 q517
        cases e517
        replace hx517_0:=(HB.out.cell (World.block_lt_of_cell? w _ hx517_0)).trans hx517_0
        replace p517:=eq_true p517
        replace q517:=eq_true q517
        have p518 : 0 ≤ (x11_1 : Int):=of_decide_eq_true (by first|(with_reducible assumption)|assumption)
        have q518 : x11_1 < (l1.length : Int):=of_decide_eq_true (by first|(with_reducible assumption)|assumption)
        obtain ⟨ad518,e518,hx518_0⟩:=Kd.at_int HR1.out x11_1 p518 q518
        cases e518
        replace hx518_0:=(HB.out.cell (World.block_lt_of_cell? w _ hx518_0)).trans hx518_0
        replace p518:=eq_true p518
        replace q518:=eq_true q518
        go_wp2
        repeat (go_quiet (fail);try go_wp2)
        go_roundg k1
        case measure => have:=HK1.out;omega
        case rel => exact ⟨(wrap64 (x11_1 + 1)),(by first|rfl|(simp;done)|(simp [*];done)),H',⟨by have:=HK1.out;omega⟩,⟨be0_ HB.out⟩⟩
       ·rw [if_neg c8] at H
        have c8b0 : ((rd l0 x11_1) == (rd l1 x11_1)) = false:=beq_eq_false_iff_ne.mpr c8
        have c8b1 : ((rd l0 x11_1) != (rd l1 x11_1)) = true:=bne_iff_ne.mpr c8
        obtain rfl:=Option.some.inj H
        have p517 : 0 ≤ (x11_1 : Int):=of_decide_eq_true (by first|(with_reducible assumption)|assumption)
        have q517 : x11_1 < (l0.length : Int):=of_decide_eq_true (by first|(with_reducible assumption)|assumption)
        obtain ⟨ad517,e517,hx517_0⟩:=Kd.at_int HR0.out x11_1 p517 q517
        cases e517
        replace hx517_0:=(HB.out.cell (World.block_lt_of_cell? w _ hx517_0)).trans hx517_0
        replace p517:=eq_true p517
        replace q517:=eq_true q517
        have p518 : 0 ≤ (x11_1 : Int):=of_decide_eq_true (by first|(with_reducible assumption)|assumption)
        have q518 : x11_1 < (l1.length : Int):=of_decide_eq_true (by first|(with_reducible assumption)|assumption)
        obtain ⟨ad518,e518,hx518_0⟩:=Kd.at_int HR1.out x11_1 p518 q518
        cases e518
        replace hx518_0:=(HB.out.cell (World.block_lt_of_cell? w _ hx518_0)).trans hx518_0
        replace p518:=eq_true p518
        replace q518:=eq_true q518
        go_wp2
        repeat (go_quiet (fail);try go_wp2)
        go_ret
        exact ⟨by first|rfl|(simp [errW_none,errW_some] <;> rfl)|(simp only [← hji3];first|rfl|(simp [errW_none,errW_some] <;> rfl))|(simp [*,errW_none,errW_some] <;> rfl),be0_ HB.out⟩
      ·rw [if_neg c7] at H
       exact absurd H (by simp)
     ·rw [if_neg c6] at H
      exact absurd H (by simp)
    ·rw [if_neg c5] at H
     exact absurd H (by simp)
   ·rw [if_neg c4] at H
    have c4b0 : decide (x11_1 < ji3) = false:=decide_eq_false c4
    clear c4
    obtain rfl:=Option.some.inj H
    go_wp2
    repeat (go_quiet (fail);try go_wp2)
    go_ret
    exact ⟨by first|rfl|(simp [errW_none,errW_some] <;> rfl)|(simp only [← hji3];first|rfl|(simp [errW_none,errW_some] <;> rfl))|(simp [*,errW_none,errW_some] <;> rfl),be0_ HB.out⟩
end Go.Proofs.Ytengegdaiphfeaa.X
end
section
namespace Go.Proofs.Ytengegdaiphfeaa.X
open Go.RowKit Go.Proofs.YtengegdaiphfeaaW.PrintWords Go.Proofs.YtengegdaiphfeaaW.PrintLast Go.Proofs.YtengegdaiphfeaaW.PrintMore
attribute [local go_sem] max2_int min2_int max_two min_two max_three min_three max_four min_four
set_option linter.unusedVariables false
set_option linter.unusedSimpArgs false
def laws_daMatrix.f (k : Nat) (a0_0 : Int) (l0_1 : List Int) (a1_0 : Int) (l1_1 : List Int) : Option (Bool):=if a0_0 = a1_0 then ((laws_daSame.f k l0_1 l1_1).bind fun t521 => (some t521)) else (some false)
theorem laws_daMatrix.mono : ∀ a0 a1 a2 a3 k,LeO (laws_daMatrix.f k a0 a1 a2 a3) (laws_daMatrix.f (k + 1) a0 a1 a2 a3):=by
 intro a0 a1 a2 a3 k
 unfold laws_daMatrix.f
 repeat' first
   | (with_reducible exact laws_daSame.mono _ _ _)
   | (with_reducible exact LeO.refl _)
   | (with_reducible exact LeO.none _)
   | (with_reducible refine LeO.ite ?_ ?_)
   | (with_reducible refine LeO.bind ?_ (fun _ => ?_))
   | exact laws_daSame.mono _ _ _
   | exact LeO.none _
   | refine LeO.ite ?_ ?_
   | refine LeO.bind ?_ (fun _ => ?_)
set_option maxHeartbeats 8000000 in
set_option maxRecDepth 100000 in
theorem laws_daMatrix.calls (k : Nat) (a0_0 : Int) (A0_1 : Option Addr) (c0_1 : Nat) (l0_1 : List Int) (a1_0 : Int) (A1_1 : Option Addr) (c1_1 : Nat) (l1_1 : List Int) (r : Bool) (w : World) (hr0_1 : Kd.C (Kd.int .i64) w A0_1 l0_1.length l0_1) (hc0_1 : l0_1.length ≤ c0_1) (hr1_1 : Kd.C (Kd.int .i64) w A1_1 l1_1.length l1_1) (hc1_1 : l1_1.length ≤ c1_1) (h : laws_daMatrix.f k a0_0 l0_1 a1_0 l1_1 = some r) :
  Calls Try.prog 31 #[.agg #[.int .i64 a0_0,.slice A0_1 l0_1.length c0_1],.agg #[.int .i64 a1_0,.slice A1_1 l1_1.length c1_1]] w fun e w' => e = .returned (.bool r) ∧ Below w.heap.size w w':=by
 have hu28:=Try.underlying28
 have HR0_1:=Aside0.mk hr0_1
 have HC0_1:=Aside0.mk hc0_1
 clear hr0_1 hc0_1
 have HR1_1:=Aside0.mk hr1_1
 have HC1_1:=Aside0.mk hc1_1
 clear hr1_1 hc1_1
 have HB:=Aside0.mk (Below.refl w.heap.size w)
 have H : (if a0_0 = a1_0 then ((laws_daSame.f k l0_1 l1_1).bind fun t521 => (some t521)) else (some false)) = some r:=h
 clear h
 by_cases c3 : a0_0 = a1_0
 ·rw [if_pos c3] at H
  have c3b0 : (a0_0 == a1_0) = true:=beq_iff_eq.mpr c3
  have c3b1 : (a0_0 != a1_0) = false:=bne_eq_false_iff_eq.mpr c3
  clear c3
  replace H:=Option.bind_eq_some_iff.mp H
  obtain ⟨t521,A40,H⟩:=H
  replace H : (some t521) = some r:=H
  have A4:=Aside0.mk A40
  clear A40
  obtain rfl:=Option.some.inj H
  go_enter Try.func31,Try.ntmps31
  go_wp2_with (first|((with_reducible refine gate_dst (N:=2) rfl ?_);refine box_event ?hg (N:=2) ?hd (cs:=#[.int .i64 a0_0,.slice A0_1 l0_1.length c0_1]) (t:=28) ?hr ?_;(case hd => rfl);(case hg => rfl);(case hr => first|(go_simp;done)|(go_simp;rfl));intro gb519 hg w5 hbox hb;have n0_:=Aside0.mk (below_step (be0_ HB.out) hb);have n1_:=Aside0.mk (hbox);have n2_:=Aside0.mk ((by rw [hg];exact (below_size (be0_ HB.out)) : w.heap.size ≤ gb519));have n3_:=Aside0.mk ((by rw [hg];exact (below_size (be0_ HB.out)) : w.heap.size ≤ gb519));clear HB;have HB:=n0_;have BK519:=n1_;have GW519:=n2_;have GE519:=n3_;clear n0_ n1_ n2_ n3_;clear hb hbox hg)|((with_reducible refine gate_dst (N:=3) rfl ?_);refine box_event ?hg (N:=3) ?hd (cs:=#[.int .i64 a1_0,.slice A1_1 l1_1.length c1_1]) (t:=28) ?hr ?_;(case hd => rfl);(case hg => rfl);(case hr => first|(go_simp;done)|(go_simp;rfl));intro gb520 hg w6 hbox hb;have n0_:=Aside0.mk (blk_below (g:=gb519) (o:=.cells #[.int .i64 a0_0,.slice A0_1 l0_1.length c0_1] 28 (0,0)) (pe_ BK519.out) hb);have n1_:=Aside0.mk (below_step (be1_ HB.out GE519.out) hb);have n2_:=Aside0.mk (hbox);have n3_:=Aside0.mk ((by rw [hg];exact (below_size (be1_ HB.out GE519.out)) : w.heap.size ≤ gb520));have n4_:=Aside0.mk ((by rw [hg];exact (below_size (be1_ HB.out GE519.out)) : w.heap.size ≤ gb520));have n5_:=Aside0.mk ((by rw [hg];exact Nat.ne_of_lt (blk_lt (g:=gb519) (o:=.cells #[.int .i64 a0_0,.slice A0_1 l0_1.length c0_1] 28 (0,0)) (pe_ BK519.out)) : gb519 ≠ gb520));have n6_:=Aside0.mk ((by rw [hg];exact Nat.ne_of_gt (blk_lt (g:=gb519) (o:=.cells #[.int .i64 a0_0,.slice A0_1 l0_1.length c0_1] 28 (0,0)) (pe_ BK519.out)) : gb520 ≠ gb519));clear BK519;clear HB;have BK519:=n0_;have HB:=n1_;have BK520:=n2_;have GW520:=n3_;have GE520:=n4_;have NB519_520:=n5_;have NB520_519:=n6_;clear n0_ n1_ n2_ n3_ n4_ n5_ n6_;clear hb hbox hg;have hnb7:=NB519_520.out;have hnc7:=NB520_519.out;have hcz8_0 : w6.cell? ⟨gb519,0,none⟩ = some (.int .i64 a0_0):=(blk_cell BK519.out 0).trans rfl;have hcz8_1 : w6.cell? ⟨gb519,1,none⟩ = some (.slice A0_1 l0_1.length c0_1):=(blk_cell BK519.out 1).trans rfl;have hfz8_0:=blk_frozen BK519.out 0;have hfz8_1:=blk_frozen BK519.out 1;have hcz9_0 : w6.cell? ⟨gb520,0,none⟩ = some (.int .i64 a1_0):=(blk_cell BK520.out 0).trans rfl;have hcz9_1 : w6.cell? ⟨gb520,1,none⟩ = some (.slice A1_1 l1_1.length c1_1):=(blk_cell BK520.out 1).trans rfl;have hfz9_0:=blk_frozen BK520.out 0;have hfz9_1:=blk_frozen BK520.out 1)|(go_at_call 73;(with_reducible refine (laws_daSame.calls k _ _ l0_1 _ _ l1_1 t521 _ ?side1 ?side2 ?side3 ?side4 A4.out).mono ?_);(case side1 => repeat (first|exact (Kd.C_below HR0_1.out HB.out)|(with_reducible refine Kd.C_alloc ?_ _)|(with_reducible refine Kd.C_drewN ?_ _)|(with_reducible refine Kd.C_drew ?_)));(case side2 => exact HC0_1.out);(case side3 => repeat (first|exact (Kd.C_below HR1_1.out HB.out)|(with_reducible refine Kd.C_alloc ?_ _)|(with_reducible refine Kd.C_drewN ?_ _)|(with_reducible refine Kd.C_drew ?_)));(case side4 => exact HC1_1.out);rintro e w10 ⟨rfl,hb⟩;have n0_:=Aside0.mk (blk_below (g:=gb519) (o:=.cells #[.int .i64 a0_0,.slice A0_1 l0_1.length c0_1] 28 (0,0)) (pe_ BK519.out) hb);have n1_:=Aside0.mk (blk_below (g:=gb520) (o:=.cells #[.int .i64 a1_0,.slice A1_1 l1_1.length c1_1] 28 (0,0)) (pe_ BK520.out) hb);have n2_:=Aside0.mk (below_step (be2_ HB.out GE519.out GE520.out) hb);clear BK519;clear BK520;clear HB;have BK519:=n0_;have BK520:=n1_;have HB:=n2_;clear n0_ n1_ n2_;(try clear hb);(try clear hb2);(try clear hk);(try clear hi)))
  go_ret
  exact ⟨by first|rfl|(simp [errW_none,errW_some] <;> rfl)|(simp [*,errW_none,errW_some] <;> rfl),be2_ HB.out GE519.out GE520.out⟩
 ·rw [if_neg c3] at H
  have c3b0 : (a0_0 == a1_0) = false:=beq_eq_false_iff_ne.mpr c3
  have c3b1 : (a0_0 != a1_0) = true:=bne_iff_ne.mpr c3
  obtain rfl:=Option.some.inj H
  go_enter Try.func31,Try.ntmps31
  go_wp2_with (first|((with_reducible refine gate_dst (N:=2) rfl ?_);refine box_event ?hg (N:=2) ?hd (cs:=#[.int .i64 a0_0,.slice A0_1 l0_1.length c0_1]) (t:=28) ?hr ?_;(case hd => rfl);(case hg => rfl);(case hr => first|(go_simp;done)|(go_simp;rfl));intro gb519 hg w11 hbox hb;have n0_:=Aside0.mk (below_step (be0_ HB.out) hb);have n1_:=Aside0.mk (hbox);have n2_:=Aside0.mk ((by rw [hg];exact (below_size (be0_ HB.out)) : w.heap.size ≤ gb519));have n3_:=Aside0.mk ((by rw [hg];exact (below_size (be0_ HB.out)) : w.heap.size ≤ gb519));clear HB;have HB:=n0_;have BK519:=n1_;have GW519:=n2_;have GE519:=n3_;clear n0_ n1_ n2_ n3_;clear hb hbox hg)|((with_reducible refine gate_dst (N:=3) rfl ?_);refine box_event ?hg (N:=3) ?hd (cs:=#[.int .i64 a1_0,.slice A1_1 l1_1.length c1_1]) (t:=28) ?hr ?_;(case hd => rfl);(case hg => rfl);(case hr => first|(go_simp;done)|(go_simp;rfl));intro gb520 hg w12 hbox hb;have n0_:=Aside0.mk (blk_below (g:=gb519) (o:=.cells #[.int .i64 a0_0,.slice A0_1 l0_1.length c0_1] 28 (0,0)) (pe_ BK519.out) hb);have n1_:=Aside0.mk (below_step (be1_ HB.out GE519.out) hb);have n2_:=Aside0.mk (hbox);have n3_:=Aside0.mk ((by rw [hg];exact (below_size (be1_ HB.out GE519.out)) : w.heap.size ≤ gb520));have n4_:=Aside0.mk ((by rw [hg];exact (below_size (be1_ HB.out GE519.out)) : w.heap.size ≤ gb520));have n5_:=Aside0.mk ((by rw [hg];exact Nat.ne_of_lt (blk_lt (g:=gb519) (o:=.cells #[.int .i64 a0_0,.slice A0_1 l0_1.length c0_1] 28 (0,0)) (pe_ BK519.out)) : gb519 ≠ gb520));have n6_:=Aside0.mk ((by rw [hg];exact Nat.ne_of_gt (blk_lt (g:=gb519) (o:=.cells #[.int .i64 a0_0,.slice A0_1 l0_1.length c0_1] 28 (0,0)) (pe_ BK519.out)) : gb520 ≠ gb519));clear BK519;clear HB;have BK519:=n0_;have HB:=n1_;have BK520:=n2_;have GW520:=n3_;have GE520:=n4_;have NB519_520:=n5_;have NB520_519:=n6_;clear n0_ n1_ n2_ n3_ n4_ n5_ n6_;clear hb hbox hg;have hnb13:=NB519_520.out;have hnc13:=NB520_519.out;have hcz14_0 : w12.cell? ⟨gb519,0,none⟩ = some (.int .i64 a0_0):=(blk_cell BK519.out 0).trans rfl;have hcz14_1 : w12.cell? ⟨gb519,1,none⟩ = some (.slice A0_1 l0_1.length c0_1):=(blk_cell BK519.out 1).trans rfl;have hfz14_0:=blk_frozen BK519.out 0;have hfz14_1:=blk_frozen BK519.out 1;have hcz15_0 : w12.cell? ⟨gb520,0,none⟩ = some (.int .i64 a1_0):=(blk_cell BK520.out 0).trans rfl;have hcz15_1 : w12.cell? ⟨gb520,1,none⟩ = some (.slice A1_1 l1_1.length c1_1):=(blk_cell BK520.out 1).trans rfl;have hfz15_0:=blk_frozen BK520.out 0;have hfz15_1:=blk_frozen BK520.out 1))
  go_ret
  exact ⟨by first|rfl|(simp [errW_none,errW_some] <;> rfl)|(simp [*,errW_none,errW_some] <;> rfl),be2_ HB.out GE519.out GE520.out⟩
end Go.Proofs.Ytengegdaiphfeaa.X
end
section
namespace Go.Proofs.Ytengegdaiphfeaa.X
open Go.RowKit Go.Proofs.YtengegdaiphfeaaW.PrintWords Go.Proofs.YtengegdaiphfeaaW.PrintLast Go.Proofs.YtengegdaiphfeaaW.PrintMore
attribute [local go_sem] max2_int min2_int max_two min_two max_three min_three max_four min_four
set_option linter.unusedVariables false
set_option linter.unusedSimpArgs false
def IsS90 (w0 W : World) (g : Nat) (f0 : List Int) (f1 : Int) : Prop := ∃ A0 c0,W.heap[g]? = some (.cells #[.slice A0 f0.length c0,.int .i64 f1] 90 (0,0)) ∧ w0.heap.size ≤ g ∧ Kd.C (Kd.int .u8) w0 A0 f0.length f0
theorem IsS90.grown {w0 W : World} {g : Nat} {f0 : List Int} {f1 : Int} {W1 : World} {row : Option Nat} (h : IsS90 w0 W g f0 f1) (hw : W.grownBy W1 row) (hne : some g ≠ row) : IsS90 w0 W1 g f0 f1:=by
 obtain ⟨A0,c0,hb,hg,hr0⟩:=h
 exact ⟨A0,c0,blk_grown hb hw hne,hg,hr0⟩
theorem IsS90.own_neN {w0 W : World} {g : Nat} {f0 : List Int} {f1 : Int} {α : Type} {d : Kd α} {e : Nat} {base : Nat} {ok : Nat → Prop} {v : Value} {xs : List α} (h : IsS90 w0 W g f0 f1) (ho : Kd.N d e W base ok v xs) (ht : e ≠ 90) : some g ≠ v.ownBlock:=by
 obtain ⟨A0,c0,hb,hg,hr0⟩:=h
 exact Kd.N_ne ho hb ht
theorem IsS90.fresh {w0 W : World} {g : Nat} {f0 : List Int} {f1 : Int} (h : IsS90 w0 W g f0 f1) : ∀ k,W.heap.size ≤ k → k ≠ g:=by
 obtain ⟨A0,c0,hb,hg,hr0⟩:=h
 exact Kd.freshB hb
theorem IsS90.kept {w0 W : World} {g : Nat} {f0 : List Int} {f1 : Int} {W1 : World} {S : Nat → Prop} (h : IsS90 w0 W g f0 f1) (hk : Kept W W1 S) (hne : ¬ S g) : IsS90 w0 W1 g f0 f1:=by
 obtain ⟨A0,c0,hb,hg,hr0⟩:=h
 exact ⟨A0,c0,blk_kept hb hk hne,hg,hr0⟩
theorem IsS90.below {w0 W : World} {g : Nat} {f0 : List Int} {f1 : Int} {W1 : World} (h : IsS90 w0 W g f0 f1) (hw : Below W.heap.size W W1) : IsS90 w0 W1 g f0 f1:=h.grown (grown_of_below hw none) (by simp)
theorem IsS90.alloc {w0 W : World} {g : Nat} {f0 : List Int} {f1 : Int} (h : IsS90 w0 W g f0 f1) (o : Obj) : IsS90 w0 (W.alloc o) g f0 f1:=h.below (below_alloc (Below.refl _ _) o)
theorem IsS90.drewN {w0 W : World} {g : Nat} {f0 : List Int} {f1 : Int} (h : IsS90 w0 W g f0 f1) (m : Nat) : IsS90 w0 (W.drewN m) g f0 f1:=h
theorem IsS90.drew {w0 W : World} {g : Nat} {f0 : List Int} {f1 : Int} (h : IsS90 w0 W g f0 f1) : IsS90 w0 W.drew g f0 f1:=h
theorem IsS90.at_ {w0 W : World} {g : Nat} {f0 : List Int} {f1 : Int} {w' : World} {m : Nat} (hq : W.drewN m = w') (h : IsS90 w0 W g f0 f1) : IsS90 w0 w' g f0 f1:=by subst hq;exact IsS90.drewN h m
theorem IsS90.apart {w0 W : World} {g : Nat} {f0 : List Int} {f1 : Int} {α : Type} {d : Kd α} {e : Nat} {base : Nat} {ok : Nat → Prop} {v : Value} {xs : List α} (h : IsS90 w0 W g f0 f1) (ho : d.R e W base ok v xs) (ht : ∀ q,q ∈ e :: d.E → q ≠ 90) : d.R e W base (fun k => ok k ∧ k ≠ g) v xs:=by
 obtain ⟨A0,c0,hb,hg,hr0⟩:=h
 exact Kd.R_types ho hb ht
theorem IsS90.own_ne {w0 W : World} {g : Nat} {f0 : List Int} {f1 : Int} {α : Type} {d : Kd α} {e : Nat} {base : Nat} {ok : Nat → Prop} {v : Value} {xs : List α} (h : IsS90 w0 W g f0 f1) (ho : d.R e W base ok v xs) (ht : e ≠ 90) : some g ≠ v.ownBlock:=by
 obtain ⟨A0,c0,hb,hg,hr0⟩:=h
 exact Kd.R_ne ho hb ht
theorem IsS90.apartQ {w0 W : World} {g : Nat} {f0 : List Int} {f1 : Int} {α : Type} {d : Kd α} {e : Nat} {base : Nat} {ok : Nat → Prop} {v : Value} {xs : List α} (h : IsS90 w0 W g f0 f1) (ho : d.Q e W base ok v xs) (ht : ∀ q,q ∈ e :: d.E → q ≠ 90) : d.Q e W base (fun k => ok k ∧ k ≠ g) v xs:=by
 obtain ⟨A0,c0,hb,hg,hr0⟩:=h
 exact Kd.Q_types ho hb ht
theorem IsS90.own_neQ {w0 W : World} {g : Nat} {f0 : List Int} {f1 : Int} {α : Type} {d : Kd α} {e : Nat} {base : Nat} {ok : Nat → Prop} {v : Value} {xs : List α} (h : IsS90 w0 W g f0 f1) (ho : d.Q e W base ok v xs) (ht : e ≠ 90) : some g ≠ v.ownBlock:=by
 obtain ⟨A0,c0,hb,hg,hr0⟩:=h
 exact Kd.Q_ne ho hb ht
theorem IsS90.apartS {w0 W : World} {g : Nat} {f0 : List Int} {f1 : Int} {α : Type} {d : Kd α} {e : Nat} {base : Nat} {ok : Nat → Prop} {v : Value} {xs : List α} (h : IsS90 w0 W g f0 f1) (ho : d.S e W base ok v xs) (ht : ∀ q,q ∈ e :: d.E → q ≠ 90) : d.S e W base (fun k => ok k ∧ k ≠ g) v xs:=by
 obtain ⟨A0,c0,hb,hg,hr0⟩:=h
 exact Kd.S_types ho hb ht
theorem IsS90.own_neS {w0 W : World} {g : Nat} {f0 : List Int} {f1 : Int} {α : Type} {d : Kd α} {e : Nat} {base : Nat} {ok : Nat → Prop} {v : Value} {xs : List α} (h : IsS90 w0 W g f0 f1) (ho : d.S e W base ok v xs) (ht : e ≠ 90) : some g ≠ v.ownBlock:=by
 obtain ⟨A0,c0,hb,hg,hr0⟩:=h
 exact Kd.S_ne ho hb ht
theorem IsS90.lt {w0 W : World} {g : Nat} {f0 : List Int} {f1 : Int} (h : IsS90 w0 W g f0 f1) : g < W.heap.size:=by
 obtain ⟨A0,c0,hb,hg,hr0⟩:=h
 exact blk_lt hb
theorem IsS90.ge {w0 W : World} {g : Nat} {f0 : List Int} {f1 : Int} (h : IsS90 w0 W g f0 f1) : w0.heap.size ≤ g:=by
 obtain ⟨A0,c0,hb,hg,hr0⟩:=h
 exact hg
theorem IsS90.ne_blk {w0 W : World} {g : Nat} {f0 : List Int} {f1 : Int} {a : Nat} {cs : Array Value} {t : TypeId} {fr : Nat × Nat} (h : IsS90 w0 W g f0 f1) (hb2 : W.heap[a]? = some (.cells cs t fr)) (ht : t ≠ 90) : g ≠ a:=by
 obtain ⟨A0,c0,hb,hg,hr0⟩:=h
 rintro rfl
 rw [hb] at hb2
 injection hb2 with hb2
 injection hb2 with _ ht2
 exact ht ht2.symm
theorem IsS90.far {w0 W : World} {g : Nat} {f0 : List Int} {f1 : Int} {p : Addr} (h : IsS90 w0 W g f0 f1) (hne : g ≠ p.block) (u : Value) : IsS90 w0 (W.setCell p u) g f0 f1:=by
 obtain ⟨A0,c0,hb,hg,hr0⟩:=h
 exact ⟨A0,c0,blk_far hb hne u,hg,hr0⟩
theorem cellS90_0 {W : World} {g : Nat} {A0 : Option Addr} {c0 : Nat} {f0 : List Int} {f1 : Int} (h : W.heap[g]? = some (.cells #[.slice A0 f0.length c0,.int .i64 f1] 90 (0,0))) : W.cell? ⟨g,0,none⟩ = some (.slice A0 f0.length c0):=(blk_cell h 0).trans rfl
theorem cellS90_1 {W : World} {g : Nat} {A0 : Option Addr} {c0 : Nat} {f0 : List Int} {f1 : Int} (h : W.heap[g]? = some (.cells #[.slice A0 f0.length c0,.int .i64 f1] 90 (0,0))) : W.cell? ⟨g,1,none⟩ = some (.int .i64 f1):=(blk_cell h 1).trans rfl
theorem IsS90.set_1 {w0 W : World} {g : Nat} {f0 : List Int} {f1 : Int} (h : IsS90 w0 W g f0 f1) (x : Int) : IsS90 w0 (W.setCell ⟨g,1,none⟩ (.int .i64 x)) g f0 x:=by
 obtain ⟨A0,c0,hb,hg,hr0⟩:=h
 exact ⟨A0,c0,by simpa using blk_set hb 1 (.int .i64 x),hg,hr0⟩
theorem IsS90.new (w0 W : World) (A0 : Option Addr) (c0 : Nat) (f0 : List Int) (f1 : Int) (hB : Below w0.heap.size w0 W) (hr0 : Kd.C (Kd.int .u8) w0 A0 f0.length f0) : IsS90 w0 (W.alloc (.cells #[.slice A0 f0.length c0,.int .i64 f1] 90)) W.heap.size f0 f1:=⟨A0,c0,by simpa using heap_alloc_new W _,hB.size,hr0⟩
def spec_l13Rd_pick.j0 : Nat → Int → Bool → List Int → Int → Option (Int × Int)
 | 0,_,_,_,_ => none
 | k + 1,x1,x24,x1000,x1001 => if x24 = true then (some (0,x1001)) else (if (wrap64 (x1001 - 1)) < (x1000.length : Int) then (if 0 ≤ (wrap64 (x1001 - 1)) then (if x1 = 0 then (none) else (some (Int.tmod (wrap64 (rd x1000 (wrap64 (x1001 - 1)))) x1,x1001))) else (none)) else (if (x1000.length : Int) = 0 then (none) else (if 0 ≤ (Int.tmod (wrap64 (x1001 - 1)) (x1000.length : Int)) then (if (Int.tmod (wrap64 (x1001 - 1)) (x1000.length : Int)) < (x1000.length : Int) then (if 0 ≤ (Int.tmod (wrap64 ((wrap64 ((wrap64 (x1001 - 1)) * 7)) + 3)) (x1000.length : Int)) then (if (Int.tmod (wrap64 ((wrap64 ((wrap64 (x1001 - 1)) * 7)) + 3)) (x1000.length : Int)) < (x1000.length : Int) then (if x1 = 0 then (none) else (some (Int.tmod (Go.bits .xor .i64 (wrap64 ((wrap64 ((wrap64 ((wrap64 ((wrap64 (rd x1000 (Int.tmod (wrap64 (x1001 - 1)) (x1000.length : Int)))) * 131)) + (wrap64 ((wrap64 (rd x1000 (Int.tmod (wrap64 ((wrap64 ((wrap64 (x1001 - 1)) * 7)) + 3)) (x1000.length : Int)))) * 1117)))) + (wrap64 ((wrap64 (x1001 - 1)) * 29)))) + (wrap64 ((wrap64 (Int.tdiv (wrap64 (x1001 - 1)) (x1000.length : Int))) * 53)))) (wrap64 (Int.tdiv (wrap64 ((wrap64 ((wrap64 ((wrap64 ((wrap64 (rd x1000 (Int.tmod (wrap64 (x1001 - 1)) (x1000.length : Int)))) * 131)) + (wrap64 ((wrap64 (rd x1000 (Int.tmod (wrap64 ((wrap64 ((wrap64 (x1001 - 1)) * 7)) + 3)) (x1000.length : Int)))) * 1117)))) + (wrap64 ((wrap64 (x1001 - 1)) * 29)))) + (wrap64 ((wrap64 (Int.tdiv (wrap64 (x1001 - 1)) (x1000.length : Int))) * 53)))) 64))) x1,x1001))) else (none)) else (none)) else (none)) else (none))))
def spec_l13Rd_pick.f (k : Nat) (s0_0 : List Int) (s0_1 : Int) (a1 : Int) : Option (Int × Int):=if a1 < 1 then (spec_l13Rd_pick.j0 k a1 true s0_0 (wrap64 (s0_1 + 1))) else (spec_l13Rd_pick.j0 k a1 ((s0_0.length : Int) == 0) s0_0 (wrap64 (s0_1 + 1)))
theorem spec_l13Rd_pick.mono_l : ∀ k,(∀ y0 y1 y2 y3,LeO (spec_l13Rd_pick.j0 k y0 y1 y2 y3) (spec_l13Rd_pick.j0 (k + 1) y0 y1 y2 y3))
 | 0 => fun _ _ _ _ r h => by simp [spec_l13Rd_pick.j0] at h
 | k + 1 => by
  have ih0:=spec_l13Rd_pick.mono_l k
  ·intro y0 y1 y2 y3
   unfold spec_l13Rd_pick.j0
   repeat' first
   | (with_reducible exact ih0 _ _ _ _)
   | (with_reducible exact LeO.refl _)
   | (with_reducible exact LeO.none _)
   | (with_reducible refine LeO.ite ?_ ?_)
   | (with_reducible refine LeO.bind ?_ (fun _ => ?_))
   | exact ih0 _ _ _ _
   | exact LeO.none _
   | refine LeO.ite ?_ ?_
   | refine LeO.bind ?_ (fun _ => ?_)
theorem spec_l13Rd_pick.mono : ∀ a0 a1 a2 k,LeO (spec_l13Rd_pick.f k a0 a1 a2) (spec_l13Rd_pick.f (k + 1) a0 a1 a2):=by
 intro a0 a1 a2 k
 have ih0:=spec_l13Rd_pick.mono_l k
 unfold spec_l13Rd_pick.f
 repeat' first
   | (with_reducible exact ih0 _ _ _ _)
   | (with_reducible exact LeO.refl _)
   | (with_reducible exact LeO.none _)
   | (with_reducible refine LeO.ite ?_ ?_)
   | (with_reducible refine LeO.bind ?_ (fun _ => ?_))
   | exact ih0 _ _ _ _
   | exact LeO.none _
   | refine LeO.ite ?_ ?_
   | refine LeO.bind ?_ (fun _ => ?_)
set_option maxHeartbeats 8000000 in
set_option maxRecDepth 100000 in
theorem spec_l13Rd_pick.calls (k : Nat) (g : Nat) (s0_0 : List Int) (s0_1 : Int) (a1 : Int) (r1 : Int) (r2 : Int) (w0 w : World) (hI : IsS90 w0 w g s0_0 s0_1) (hB : Below w0.heap.size w0 w) (h : spec_l13Rd_pick.f k s0_0 s0_1 a1 = some (r1,r2)) :
  Calls Try.prog 76 #[.pointer (some ⟨g,0,none⟩),.int .i64 a1] w fun e w' => e = .returned (.int .i64 r1) ∧ IsS90 w0 w' g s0_0 r2 ∧ Below w0.heap.size w0 w' ∧ KeepBut w w' g none:=by
 have HI0:=Aside0.mk hI
 have HK:=Aside0.mk (KeepBut.refl w g none)
 have HL:=Aside0.mk hB.size
 clear hI
 have HW0:=Aside0.mk hB.size
 have HB:=Aside0.mk hB
 clear hB
 have H : (if a1 < 1 then (spec_l13Rd_pick.j0 k a1 true s0_0 (wrap64 (s0_1 + 1))) else (spec_l13Rd_pick.j0 k a1 ((s0_0.length : Int) == 0) s0_0 (wrap64 (s0_1 + 1)))) = some (r1,r2):=h
 clear h
 have HC3:=Aside0.mk H
 clear H
 obtain ⟨ASz4_0,cSz4_0,HGz4,hgz4,HSz4_0⟩:=HI0.out
 have hcz4_0:=cellS90_0 HGz4
 have hcz4_1:=cellS90_1 HGz4
 have hfz4_1:=blk_frozen HGz4 1
 clear HGz4 hgz4
 go_enter Try.func76,Try.ntmps76
 go_upto_region 2 with (fail)
 repeat (go_quiet (fail);go_upto_region 2 with (fail))
 go_cut [24] (fun v24 wc => ∃ (kq : Nat) (x24_2 : Bool),v24 = .bool x24_2 ∧ Aside0 (spec_l13Rd_pick.j0 kq a1 x24_2 s0_0 (wrap64 (s0_1 + 1)) = some (r1,r2)) ∧ Aside0 (kq ≤ k) ∧ Aside0 (IsS90 w0 wc g s0_0 (wrap64 (s0_1 + 1))) ∧ Aside0 (KeepBut w wc g none) ∧ Aside0 (Below w0.heap.size w0 wc))
 case first =>
  have H:=HC3.out
  clear HC3
  by_cases c5 : a1 < 1
  ·rw [if_pos c5] at H
   have c5b0 : decide (a1 < 1) = true:=decide_eq_true c5
   clear c5
   (first|rw [c5b0]|(simp only [i64_w,i32_w];rw [c5b0])|skip)
   have H':=Aside0.mk H
   clear H
   go_wp2
   repeat (go_quiet (fail);try go_wp2)
   go_meet
   case rel => exact ⟨_,(true),(by first|rfl|(simp;done)|(simp [*];done)),H',⟨by first|omega|exact Nat.le_refl _⟩,⟨by repeat (first|(with_reducible first|exact HI0.out|apply IsS90.alloc|apply IsS90.drewN|apply IsS90.drew|apply IsS90.set_1)|exact HI0.out)⟩,⟨ke0_ HK.out⟩,⟨by repeat (first|(with_reducible first|exact HB.out|apply below_alloc|apply pw_below_drewN|apply below_drew1|refine below_set ?_ (IsS90.ge HI0.out))|exact HB.out)⟩⟩
  ·rw [if_neg c5] at H
   have c5b0 : decide (a1 < 1) = false:=decide_eq_false c5
   clear c5
   (first|rw [c5b0]|(simp only [i64_w,i32_w];rw [c5b0])|skip)
   have H':=Aside0.mk H
   clear H
   obtain ⟨ASz6_0,cSz6_0,HGz6,hgz6,HSz6_0⟩:=HI0.out
   have hcz6_0:=cellS90_0 HGz6
   have hcz6_1:=cellS90_1 HGz6
   have hfz6_1:=blk_frozen HGz6 1
   clear HGz6 hgz6
   go_wp2
   repeat (go_quiet (fail);try go_wp2)
   go_meet
   case rel => exact ⟨_,(((s0_0.length : Int) == 0)),(by first|rfl|(simp;done)|(simp [*];done)),H',⟨by first|omega|exact Nat.le_refl _⟩,⟨by repeat (first|(with_reducible first|exact HI0.out|apply IsS90.alloc|apply IsS90.drewN|apply IsS90.drew|apply IsS90.set_1)|exact HI0.out)⟩,⟨ke0_ HK.out⟩,⟨by repeat (first|(with_reducible first|exact HB.out|apply below_alloc|apply pw_below_drewN|apply below_drew1|refine below_set ?_ (IsS90.ge HI0.out))|exact HB.out)⟩⟩
 case rest =>
  clear HC3
  try clear p2
  try clear c5
  try clear c5b0
  try clear p6
  try clear hcz4_0
  try clear hcz4_1
  try clear hcz6_0
  try clear hcz6_1
  try clear hfz4_1
  try clear hfz6_1
  obtain ⟨kq,x24_2,rfl,HA,HJ2,HI0,HK,HB⟩:=hcut
  cases kq with
  | zero => exact absurd HA.out (by simp [spec_l13Rd_pick.j0])
  | succ kj2 =>
   have H:=HA.out
   clear HA
   simp only [spec_l13Rd_pick.j0] at H
   by_cases c7 : x24_2 = true
   ·subst c7
    have H1 : (some (0,(wrap64 (s0_1 + 1)))) = some (r1,r2):=by rw [if_pos rfl] at H;exact H
    clear H
    have H:=H1
    clear H1
    simp only [Option.some.injEq,Prod.mk.injEq] at H
    obtain ⟨rfl,rfl⟩:=H
    go_wp2
    repeat (go_quiet (fail);try go_wp2)
    go_ret
    exact ⟨by first|rfl|(simp [errW_none,errW_some] <;> rfl)|(simp [*,errW_none,errW_some] <;> rfl),by repeat (first|(with_reducible first|exact HI0.out|apply IsS90.alloc|apply IsS90.drewN|apply IsS90.drew|apply IsS90.set_1)|exact HI0.out),by repeat (first|(with_reducible first|exact HB.out|apply below_alloc|apply pw_below_drewN|apply below_drew1|refine below_set ?_ (IsS90.ge HI0.out))|exact HB.out),ke0_ HK.out⟩
   ·replace c7:=Bool.eq_false_iff.mpr c7
    subst c7
    have H1 : (if (wrap64 ((wrap64 (s0_1 + 1)) - 1)) < (s0_0.length : Int) then (if 0 ≤ (wrap64 ((wrap64 (s0_1 + 1)) - 1)) then (if a1 = 0 then (none) else (some (Int.tmod (wrap64 (rd s0_0 (wrap64 ((wrap64 (s0_1 + 1)) - 1)))) a1,(wrap64 (s0_1 + 1))))) else (none)) else (if (s0_0.length : Int) = 0 then (none) else (if 0 ≤ (Int.tmod (wrap64 ((wrap64 (s0_1 + 1)) - 1)) (s0_0.length : Int)) then (if (Int.tmod (wrap64 ((wrap64 (s0_1 + 1)) - 1)) (s0_0.length : Int)) < (s0_0.length : Int) then (if 0 ≤ (Int.tmod (wrap64 ((wrap64 ((wrap64 ((wrap64 (s0_1 + 1)) - 1)) * 7)) + 3)) (s0_0.length : Int)) then (if (Int.tmod (wrap64 ((wrap64 ((wrap64 ((wrap64 (s0_1 + 1)) - 1)) * 7)) + 3)) (s0_0.length : Int)) < (s0_0.length : Int) then (if a1 = 0 then (none) else (some (Int.tmod (Go.bits .xor .i64 (wrap64 ((wrap64 ((wrap64 ((wrap64 ((wrap64 (rd s0_0 (Int.tmod (wrap64 ((wrap64 (s0_1 + 1)) - 1)) (s0_0.length : Int)))) * 131)) + (wrap64 ((wrap64 (rd s0_0 (Int.tmod (wrap64 ((wrap64 ((wrap64 ((wrap64 (s0_1 + 1)) - 1)) * 7)) + 3)) (s0_0.length : Int)))) * 1117)))) + (wrap64 ((wrap64 ((wrap64 (s0_1 + 1)) - 1)) * 29)))) + (wrap64 ((wrap64 (Int.tdiv (wrap64 ((wrap64 (s0_1 + 1)) - 1)) (s0_0.length : Int))) * 53)))) (wrap64 (Int.tdiv (wrap64 ((wrap64 ((wrap64 ((wrap64 ((wrap64 (rd s0_0 (Int.tmod (wrap64 ((wrap64 (s0_1 + 1)) - 1)) (s0_0.length : Int)))) * 131)) + (wrap64 ((wrap64 (rd s0_0 (Int.tmod (wrap64 ((wrap64 ((wrap64 ((wrap64 (s0_1 + 1)) - 1)) * 7)) + 3)) (s0_0.length : Int)))) * 1117)))) + (wrap64 ((wrap64 ((wrap64 (s0_1 + 1)) - 1)) * 29)))) + (wrap64 ((wrap64 (Int.tdiv (wrap64 ((wrap64 (s0_1 + 1)) - 1)) (s0_0.length : Int))) * 53)))) 64))) a1,(wrap64 (s0_1 + 1))))) else (none)) else (none)) else (none)) else (none)))) = some (r1,r2):=by rw [if_neg (show ¬ (false = true) by decide)] at H;exact H
    clear H
    have H:=H1
    clear H1
    by_cases c8 : (wrap64 ((wrap64 (s0_1 + 1)) - 1)) < (s0_0.length : Int)
    ·rw [if_pos c8] at H
     have c8b0 : decide ((wrap64 ((wrap64 (s0_1 + 1)) - 1)) < (s0_0.length : Int)) = true:=decide_eq_true c8
     clear c8
     obtain ⟨ji9,hji9⟩ : ∃ j_ : Int,(wrap64 ((wrap64 (s0_1 + 1)) - 1)) = j_:=⟨_,rfl⟩
     replace H : (if 0 ≤ (ji9) then (if a1 = 0 then (none) else (some (Int.tmod (wrap64 (rd s0_0 (ji9))) a1,(wrap64 (s0_1 + 1))))) else (none)) = some (r1,r2):=by first|(rw [hji9] at H;exact H)|(simp only [hji9] at H ⊢;exact H)
     (try rw [hji9] at c8b0)
     have hji9w : (IntKind.i64.wrap ((wrap64 (s0_1 + 1)) - 1)) = ji9:=(i64_w _).trans hji9
     by_cases c10 : 0 ≤ (ji9)
     ·rw [if_pos c10] at H
      have c10b0 : decide (0 ≤ (ji9)) = true:=decide_eq_true c10
      clear c10
      by_cases c11 : a1 = 0
      ·rw [if_pos c11] at H
       exact absurd H (by simp)
      ·rw [if_neg c11] at H
       have c11b0 : (a1 == 0) = false:=beq_eq_false_iff_ne.mpr c11
       have c11b1 : (a1 != 0) = true:=bne_iff_ne.mpr c11
       simp only [Option.some.injEq,Prod.mk.injEq] at H
       obtain ⟨rfl,rfl⟩:=H
       obtain ⟨ASz12_0,cSz12_0,HGz12,hgz12,HSz12_0⟩:=HI0.out
       have hcz12_0:=cellS90_0 HGz12
       have hcz12_1:=cellS90_1 HGz12
       have hfz12_1:=blk_frozen HGz12 1
       clear HGz12 hgz12
       have p416 : 0 ≤ ((ji9) : Int):=of_decide_eq_true (by first|(with_reducible assumption)|assumption)
       have q416 : (ji9) < (s0_0.length : Int):=of_decide_eq_true (by first|(with_reducible assumption)|assumption)
       obtain ⟨ad416,e416,hx416_0⟩:=Kd.at_int HSz12_0 (ji9) p416 q416
       cases e416
       replace hx416_0:=pw_cell_below HB.out hx416_0
       replace p416:=eq_true p416
       replace q416:=eq_true q416
       go_wp2
       repeat (go_quiet (fail);try go_wp2)
       go_ret
       exact ⟨by first|rfl|(simp [errW_none,errW_some] <;> rfl)|(simp only [← hji9];first|rfl|(simp [errW_none,errW_some] <;> rfl))|(simp [*,errW_none,errW_some] <;> rfl),by repeat (first|(with_reducible first|exact HI0.out|apply IsS90.alloc|apply IsS90.drewN|apply IsS90.drew|apply IsS90.set_1)|exact HI0.out),by repeat (first|(with_reducible first|exact HB.out|apply below_alloc|apply pw_below_drewN|apply below_drew1|refine below_set ?_ (IsS90.ge HI0.out))|exact HB.out),ke0_ HK.out⟩
     ·rw [if_neg c10] at H
      exact absurd H (by simp)
    ·rw [if_neg c8] at H
     have c8b0 : decide ((wrap64 ((wrap64 (s0_1 + 1)) - 1)) < (s0_0.length : Int)) = false:=decide_eq_false c8
     clear c8
     by_cases c13 : (s0_0.length : Int) = 0
     ·rw [if_pos c13] at H
      exact absurd H (by simp)
     ·rw [if_neg c13] at H
      have c13b0 : ((s0_0.length : Int) == 0) = false:=beq_eq_false_iff_ne.mpr c13
      have c13b1 : ((s0_0.length : Int) != 0) = true:=bne_iff_ne.mpr c13
      have c13b2 : ¬ (s0_0 = []):=fun h_ => c13 (by rw [h_];rfl)
      obtain ⟨ji14,hji14⟩ : ∃ j_ : Int,(Int.tmod (wrap64 ((wrap64 (s0_1 + 1)) - 1)) (s0_0.length : Int)) = j_:=⟨_,rfl⟩
      replace H : (if 0 ≤ (ji14) then (if (ji14) < (s0_0.length : Int) then (if 0 ≤ (Int.tmod (wrap64 ((wrap64 ((wrap64 ((wrap64 (s0_1 + 1)) - 1)) * 7)) + 3)) (s0_0.length : Int)) then (if (Int.tmod (wrap64 ((wrap64 ((wrap64 ((wrap64 (s0_1 + 1)) - 1)) * 7)) + 3)) (s0_0.length : Int)) < (s0_0.length : Int) then (if a1 = 0 then (none) else (some (Int.tmod (Go.bits .xor .i64 (wrap64 ((wrap64 ((wrap64 ((wrap64 ((wrap64 (rd s0_0 (ji14))) * 131)) + (wrap64 ((wrap64 (rd s0_0 (Int.tmod (wrap64 ((wrap64 ((wrap64 ((wrap64 (s0_1 + 1)) - 1)) * 7)) + 3)) (s0_0.length : Int)))) * 1117)))) + (wrap64 ((wrap64 ((wrap64 (s0_1 + 1)) - 1)) * 29)))) + (wrap64 ((wrap64 (Int.tdiv (wrap64 ((wrap64 (s0_1 + 1)) - 1)) (s0_0.length : Int))) * 53)))) (wrap64 (Int.tdiv (wrap64 ((wrap64 ((wrap64 ((wrap64 ((wrap64 (rd s0_0 (ji14))) * 131)) + (wrap64 ((wrap64 (rd s0_0 (Int.tmod (wrap64 ((wrap64 ((wrap64 ((wrap64 (s0_1 + 1)) - 1)) * 7)) + 3)) (s0_0.length : Int)))) * 1117)))) + (wrap64 ((wrap64 ((wrap64 (s0_1 + 1)) - 1)) * 29)))) + (wrap64 ((wrap64 (Int.tdiv (wrap64 ((wrap64 (s0_1 + 1)) - 1)) (s0_0.length : Int))) * 53)))) 64))) a1,(wrap64 (s0_1 + 1))))) else (none)) else (none)) else (none)) else (none)) = some (r1,r2):=by first|(rw [hji14] at H;exact H)|(simp only [hji14] at H ⊢;exact H)
      by_cases c15 : 0 ≤ (ji14)
      ·rw [if_pos c15] at H
       have c15b0 : decide (0 ≤ (ji14)) = true:=decide_eq_true c15
       clear c15
       by_cases c16 : (ji14) < (s0_0.length : Int)
       ·rw [if_pos c16] at H
        have c16b0 : decide ((ji14) < (s0_0.length : Int)) = true:=decide_eq_true c16
        clear c16
        obtain ⟨ji17,hji17⟩ : ∃ j_ : Int,(Int.tmod (wrap64 ((wrap64 ((wrap64 ((wrap64 (s0_1 + 1)) - 1)) * 7)) + 3)) (s0_0.length : Int)) = j_:=⟨_,rfl⟩
        replace H : (if 0 ≤ (ji17) then (if (ji17) < (s0_0.length : Int) then (if a1 = 0 then (none) else (some (Int.tmod (Go.bits .xor .i64 (wrap64 ((wrap64 ((wrap64 ((wrap64 ((wrap64 (rd s0_0 (ji14))) * 131)) + (wrap64 ((wrap64 (rd s0_0 (ji17))) * 1117)))) + (wrap64 ((wrap64 ((wrap64 (s0_1 + 1)) - 1)) * 29)))) + (wrap64 ((wrap64 (Int.tdiv (wrap64 ((wrap64 (s0_1 + 1)) - 1)) (s0_0.length : Int))) * 53)))) (wrap64 (Int.tdiv (wrap64 ((wrap64 ((wrap64 ((wrap64 ((wrap64 (rd s0_0 (ji14))) * 131)) + (wrap64 ((wrap64 (rd s0_0 (ji17))) * 1117)))) + (wrap64 ((wrap64 ((wrap64 (s0_1 + 1)) - 1)) * 29)))) + (wrap64 ((wrap64 (Int.tdiv (wrap64 ((wrap64 (s0_1 + 1)) - 1)) (s0_0.length : Int))) * 53)))) 64))) a1,(wrap64 (s0_1 + 1))))) else (none)) else (none)) = some (r1,r2):=by first|(rw [hji17] at H;exact H)|(simp only [hji17] at H ⊢;exact H)
        by_cases c18 : 0 ≤ (ji17)
        ·rw [if_pos c18] at H
         have c18b0 : decide (0 ≤ (ji17)) = true:=decide_eq_true c18
         clear c18
         by_cases c19 : (ji17) < (s0_0.length : Int)
         ·rw [if_pos c19] at H
          have c19b0 : decide ((ji17) < (s0_0.length : Int)) = true:=decide_eq_true c19
          clear c19
          by_cases c20 : a1 = 0
          ·rw [if_pos c20] at H
           exact absurd H (by simp)
          ·rw [if_neg c20] at H
           have c20b0 : (a1 == 0) = false:=beq_eq_false_iff_ne.mpr c20
           have c20b1 : (a1 != 0) = true:=bne_iff_ne.mpr c20
           simp only [Option.some.injEq,Prod.mk.injEq] at H
           obtain ⟨rfl,rfl⟩:=H
           obtain ⟨ASz21_0,cSz21_0,HGz21,hgz21,HSz21_0⟩:=HI0.out
           have hcz21_0:=cellS90_0 HGz21
           have hcz21_1:=cellS90_1 HGz21
           have hfz21_1:=blk_frozen HGz21 1
           clear HGz21 hgz21
           have p417 : 0 ≤ ((ji14) : Int):=of_decide_eq_true (by first|(with_reducible assumption)|assumption)
           have q417 : (ji14) < (s0_0.length : Int):=of_decide_eq_true (by first|(with_reducible assumption)|assumption)
           obtain ⟨ad417,e417,hx417_0⟩:=Kd.at_int HSz21_0 (ji14) p417 q417
           cases e417
           replace hx417_0:=pw_cell_below HB.out hx417_0
           replace p417:=eq_true p417
           replace q417:=eq_true q417
           have p418 : 0 ≤ ((ji17) : Int):=of_decide_eq_true (by first|(with_reducible assumption)|assumption)
           have q418 : (ji17) < (s0_0.length : Int):=of_decide_eq_true (by first|(with_reducible assumption)|assumption)
           obtain ⟨ad418,e418,hx418_0⟩:=Kd.at_int HSz21_0 (ji17) p418 q418
           obtain rfl : ad417 = ad418:=(by injection e418)
           replace hx418_0:=pw_cell_below HB.out hx418_0
           replace p418:=eq_true p418
           replace q418:=eq_true q418
           go_wp2
           repeat (go_quiet (fail);try go_wp2)
           go_ret
           exact ⟨by first|rfl|(simp [errW_none,errW_some] <;> rfl)|(simp only [← hji14,← hji17];first|rfl|(simp [errW_none,errW_some] <;> rfl))|(simp [*,errW_none,errW_some] <;> rfl),by repeat (first|(with_reducible first|exact HI0.out|apply IsS90.alloc|apply IsS90.drewN|apply IsS90.drew|apply IsS90.set_1)|exact HI0.out),by repeat (first|(with_reducible first|exact HB.out|apply below_alloc|apply pw_below_drewN|apply below_drew1|refine below_set ?_ (IsS90.ge HI0.out))|exact HB.out),ke0_ HK.out⟩
         ·rw [if_neg c19] at H
          exact absurd H (by simp)
        ·rw [if_neg c18] at H
         exact absurd H (by simp)
       ·rw [if_neg c16] at H
        exact absurd H (by simp)
      ·rw [if_neg c15] at H
       exact absurd H (by simp)
end Go.Proofs.Ytengegdaiphfeaa.X
end
section
namespace Go.Proofs.Ytengegdaiphfeaa.X
open Go.RowKit Go.Proofs.YtengegdaiphfeaaW.PrintWords Go.Proofs.YtengegdaiphfeaaW.PrintLast Go.Proofs.YtengegdaiphfeaaW.PrintMore
attribute [local go_sem] max2_int min2_int max_two min_two max_three min_three max_four min_four
set_option linter.unusedVariables false
set_option linter.unusedSimpArgs false
def spec_l13Open.f (l0 : List Int) : Option (List Int × Int):=if (l0.length : Int) > 2000 then (if 2000 ≤ (l0.length : Int) then (some (l0.take 2000,0)) else (none)) else (some (l0,0))
set_option maxHeartbeats 8000000 in
set_option maxRecDepth 100000 in
theorem spec_l13Open.calls (A0 : Option Addr) (c0 : Nat) (l0 : List Int) (r1 : List Int) (r2 : Int) (w0 w : World) (hB : Below w0.heap.size w0 w) (hr0 : Kd.C (Kd.int .u8) w0 A0 l0.length l0) (hc0 : l0.length ≤ c0) (h : spec_l13Open.f l0 = some (r1,r2)) :
  Calls Try.prog 71 #[.slice A0 l0.length c0] w fun e w' => ∃ g_ : Nat,e = .returned (.pointer (some ⟨g_,0,none⟩)) ∧ IsS90 w0 w' g_ r1 r2 ∧ Below w0.heap.size w0 w' ∧ Below w.heap.size w w':=by
 have hu90:=Try.underlying90
 have HR0:=Aside0.mk hr0
 have HC0:=Aside0.mk hc0
 clear hr0 hc0
 have HBW:=Aside0.mk (Below.refl w.heap.size w)
 have HW0:=Aside0.mk hB.size
 have HB:=Aside0.mk hB
 clear hB
 have H : (if (l0.length : Int) > 2000 then (if 2000 ≤ (l0.length : Int) then (some (l0.take 2000,0)) else (none)) else (some (l0,0))) = some (r1,r2):=h
 clear h
 by_cases c2 : (l0.length : Int) > 2000
 ·rw [if_pos c2] at H
  have c2b0 : decide (2000 < (l0.length : Int)) = true:=decide_eq_true c2
  have c2b1 : decide (2000 < l0.length) = true:=decide_eq_true (by omega)
  clear c2
  by_cases c3 : 2000 ≤ (l0.length : Int)
  ·rw [if_pos c3] at H
   have c3b0:=eq_true c3
   have c3b1 : decide (2000 ≤ (l0.length : Int)) = true:=decide_eq_true c3
   clear c3
   simp only [Option.some.injEq,Prod.mk.injEq] at H
   obtain ⟨rfl,rfl⟩:=H
   obtain ⟨i04,hi04,_,hsz4,_⟩:=info_parts info5
   obtain ⟨hcut4,hA4,hC4⟩:=print_take_of (P:=Try.prog) (Value.int .u8) 0 38 5 .i64 Try.underlying38 hi04 hsz4 A0 c0 l0 2000 (by omega) (of_decide_eq_true (by first|(with_reducible assumption)|assumption)) HC0.out
   have HR470:=Aside0.mk (Kd.C_of_reads (h1:=fun _ => rfl) (hA4 _ (Kd.reads_of_C HR0.out)))
   have HC470:=Aside0.mk hC4
   clear hA4 hC4 hi04 hsz4
   go_enter Try.func71,Try.ntmps71
   go_wp2_with (first|((with_reducible refine gate_dst (N:=10) rfl ?_);refine box_event ?hg (N:=10) ?hd (cs:=#[.slice A0 (l0.take 2000).length c0,.int .i64 0]) (t:=90) ?hr ?_;(case hd => rfl);(case hg => rfl);(case hr => first|(go_simp;done)|(go_simp;rfl));intro gb471 hg w5 hbox hb;have n0_:=Aside0.mk (below_step HBW.out hb);have n1_:=Aside0.mk (below_step (be0_ HB.out) hb);have n2_:=Aside0.mk (hbox);have n3_:=Aside0.mk ((by rw [hg];exact (below_size (by repeat (first|(with_reducible first|exact HBW.out|apply below_alloc|apply pw_below_drewN|apply below_drew1)|exact HBW.out))) : w.heap.size ≤ gb471));have n4_:=Aside0.mk ((Nat.le_trans HW0.out (by rw [hg];exact (below_size (by repeat (first|(with_reducible first|exact HBW.out|apply below_alloc|apply pw_below_drewN|apply below_drew1)|exact HBW.out))) : w.heap.size ≤ gb471) : w0.heap.size ≤ gb471));clear HBW;clear HB;have HBW:=n0_;have HB:=n1_;have BK471:=n2_;have GW471:=n3_;have GE471:=n4_;clear n0_ n1_ n2_ n3_ n4_;clear hb hbox hg))
   go_ret
   exact ⟨_,rfl,(show IsS90 w0 _ gb471 (l0.take 2000) 0 from ⟨_,_,pe_ BK471.out,GE471.out,HR470.out⟩),be1_ HB.out GE471.out,by repeat (first|(with_reducible first|exact HBW.out|apply below_alloc|apply pw_below_drewN|apply below_drew1|refine below_set ?_ GW471.out)|exact HBW.out)⟩
  ·rw [if_neg c3] at H
   exact absurd H (by simp)
 ·rw [if_neg c2] at H
  have c2b0 : decide (2000 < (l0.length : Int)) = false:=decide_eq_false c2
  have c2b1 : decide (2000 < l0.length) = false:=decide_eq_false (by omega)
  clear c2
  simp only [Option.some.injEq,Prod.mk.injEq] at H
  obtain ⟨rfl,rfl⟩:=H
  go_enter Try.func71,Try.ntmps71
  go_wp2_with (first|((with_reducible refine gate_dst (N:=10) rfl ?_);refine box_event ?hg (N:=10) ?hd (cs:=#[.slice A0 l0.length c0,.int .i64 0]) (t:=90) ?hr ?_;(case hd => rfl);(case hg => rfl);(case hr => first|(go_simp;done)|(go_simp;rfl));intro gb472 hg w6 hbox hb;have n0_:=Aside0.mk (below_step HBW.out hb);have n1_:=Aside0.mk (below_step (be0_ HB.out) hb);have n2_:=Aside0.mk (hbox);have n3_:=Aside0.mk ((by rw [hg];exact (below_size (by repeat (first|(with_reducible first|exact HBW.out|apply below_alloc|apply pw_below_drewN|apply below_drew1)|exact HBW.out))) : w.heap.size ≤ gb472));have n4_:=Aside0.mk ((Nat.le_trans HW0.out (by rw [hg];exact (below_size (by repeat (first|(with_reducible first|exact HBW.out|apply below_alloc|apply pw_below_drewN|apply below_drew1)|exact HBW.out))) : w.heap.size ≤ gb472) : w0.heap.size ≤ gb472));clear HBW;clear HB;have HBW:=n0_;have HB:=n1_;have BK472:=n2_;have GW472:=n3_;have GE472:=n4_;clear n0_ n1_ n2_ n3_ n4_;clear hb hbox hg))
  go_ret
  exact ⟨_,rfl,(show IsS90 w0 _ gb472 l0 0 from ⟨_,_,pe_ BK472.out,GE472.out,HR0.out⟩),be1_ HB.out GE472.out,by repeat (first|(with_reducible first|exact HBW.out|apply below_alloc|apply pw_below_drewN|apply below_drew1|refine below_set ?_ GW472.out)|exact HBW.out)⟩
end Go.Proofs.Ytengegdaiphfeaa.X
end
section
namespace Go.Proofs.Ytengegdaiphfeaa.X
open Go.RowKit Go.Proofs.YtengegdaiphfeaaW.PrintWords Go.Proofs.YtengegdaiphfeaaW.PrintLast Go.Proofs.YtengegdaiphfeaaW.PrintMore
attribute [local go_sem] max2_int min2_int max_two min_two max_three min_three max_four min_four
set_option linter.unusedVariables false
set_option linter.unusedSimpArgs false
def spec_l1In.f (a0 : Int) (a1 : Int) (a2 : Int) : Option (Bool):=if a0 ≥ a1 then (some (decide (a0 ≤ a2))) else (some false)
set_option maxHeartbeats 8000000 in
set_option maxRecDepth 100000 in
theorem spec_l1In.calls (a0 : Int) (a1 : Int) (a2 : Int) (r : Bool) (w : World) (h : spec_l1In.f a0 a1 a2 = some r) :
  Calls Try.prog 97 #[.int .i64 a0,.int .i64 a1,.int .i64 a2] w fun e w' => e = .returned (.bool r) ∧ Drawn0 w w':=by
 have H : (if a0 ≥ a1 then (some (decide (a0 ≤ a2))) else (some false)) = some r:=h
 clear h
 by_cases c4 : a0 ≥ a1
 ·rw [if_pos c4] at H
  have c4b0 : decide (a1 ≤ a0) = true:=decide_eq_true c4
  clear c4
  obtain rfl:=Option.some.inj H
  go_enter Try.func97,Try.ntmps97
  go_wp2
  go_ret
  exact ⟨by first|rfl|(simp;done)|(simp [*];done),by repeat (first|exact Drawn0.refl _|apply Drawn0.step)⟩
 ·rw [if_neg c4] at H
  have c4b0 : decide (a1 ≤ a0) = false:=decide_eq_false c4
  clear c4
  obtain rfl:=Option.some.inj H
  go_enter Try.func97,Try.ntmps97
  go_wp2
  go_ret
  exact ⟨by first|rfl|(simp;done)|(simp [*];done),by repeat (first|exact Drawn0.refl _|apply Drawn0.step)⟩
end Go.Proofs.Ytengegdaiphfeaa.X
end
section
namespace Go.Proofs.Ytengegdaiphfeaa.X
open Go.RowKit Go.Proofs.YtengegdaiphfeaaW.PrintWords Go.Proofs.YtengegdaiphfeaaW.PrintLast Go.Proofs.YtengegdaiphfeaaW.PrintMore
attribute [local go_sem] max2_int min2_int max_two min_two max_three min_three max_four min_four
set_option linter.unusedVariables false
set_option linter.unusedSimpArgs false
def spec_CostValid.f (a0 : Int) : Option (Bool):=(spec_l1In.f a0 0 1000000).bind fun t104 => (some t104)
set_option maxHeartbeats 8000000 in
set_option maxRecDepth 100000 in
theorem spec_CostValid.calls (a0 : Int) (r : Bool) (w : World) (h : spec_CostValid.f a0 = some r) :
  Calls Try.prog 109 #[.int .i64 a0] w fun e w' => e = .returned (.bool r) ∧ Drawn0 w w':=by
 have H : ((spec_l1In.f a0 0 1000000).bind fun t104 => (some t104)) = some r:=h
 clear h
 replace H:=Option.bind_eq_some_iff.mp H
 obtain ⟨t104,A20,H⟩:=H
 replace H : (some t104) = some r:=H
 have A2:=Aside0.mk A20
 clear A20
 obtain rfl:=Option.some.inj H
 go_enter Try.func109,Try.ntmps109
 go_wp2_with (first|((with_reducible refine gate_callee (f:=97) rfl ?_);refine goesL_ (some 4) rfl rfl Try.func97 (by kernel_rfl) rfl #[.int .i64 a0,.int .i64 0,.int .i64 1000000] rfl lp_ ?_;(with_reducible refine (spec_l1In.calls a0 0 1000000 t104 _ A2.out).mono ?_);rintro e w' ⟨rfl,⟨nd,rfl⟩⟩;refine ⟨_,rfl,?_⟩))
 go_ret
 exact ⟨by first|rfl|(simp;done)|(simp [*];done),by repeat (first|exact Drawn0.refl _|apply Drawn0.step)⟩
end Go.Proofs.Ytengegdaiphfeaa.X
end
section
namespace Go.Proofs.Ytengegdaiphfeaa.X
open Go.RowKit Go.Proofs.YtengegdaiphfeaaW.PrintWords Go.Proofs.YtengegdaiphfeaaW.PrintLast Go.Proofs.YtengegdaiphfeaaW.PrintMore
attribute [local go_sem] max2_int min2_int max_two min_two max_three min_three max_four min_four
set_option linter.unusedVariables false
set_option linter.unusedSimpArgs false
def spec_l1All.l0 : Nat → List Int → Int → Int → Option (Bool)
 | 0,_,_,_ => none
 | k + 1,x5,x6,x7 => if x7 < x6 then (if 0 ≤ x7 then (if x7 < (x5.length : Int) then ((spec_CostValid.f (rd x5 x7)).bind fun t154 => (if t154 = true then (spec_l1All.l0 k x5 x6 (wrap64 (x7 + 1))) else (some false))) else (none)) else (none)) else (some true)
def spec_l1All.f (k : Nat) (l0 : List Int) : Option (Bool):=spec_l1All.l0 k l0 (l0.length : Int) 0
theorem spec_l1All.mono_l : ∀ k,(∀ y0 y1 y2,LeO (spec_l1All.l0 k y0 y1 y2) (spec_l1All.l0 (k + 1) y0 y1 y2))
 | 0 => fun _ _ _ r h => by simp [spec_l1All.l0] at h
 | k + 1 => by
  have ih0:=spec_l1All.mono_l k
  ·intro y0 y1 y2
   unfold spec_l1All.l0
   repeat' first
   | (with_reducible exact ih0 _ _ _)
   | (with_reducible exact LeO.refl _)
   | (with_reducible exact LeO.none _)
   | (with_reducible refine LeO.ite ?_ ?_)
   | (with_reducible refine LeO.bind ?_ (fun _ => ?_))
   | exact ih0 _ _ _
   | exact LeO.none _
   | refine LeO.ite ?_ ?_
   | refine LeO.bind ?_ (fun _ => ?_)
theorem spec_l1All.mono : ∀ a0 k,LeO (spec_l1All.f k a0) (spec_l1All.f (k + 1) a0):=by
 intro a0 k
 have ih0:=spec_l1All.mono_l k
 unfold spec_l1All.f
 repeat' first
   | (with_reducible exact ih0 _ _ _)
   | (with_reducible exact LeO.refl _)
   | (with_reducible exact LeO.none _)
   | (with_reducible refine LeO.ite ?_ ?_)
   | (with_reducible refine LeO.bind ?_ (fun _ => ?_))
   | exact ih0 _ _ _
   | exact LeO.none _
   | refine LeO.ite ?_ ?_
   | refine LeO.bind ?_ (fun _ => ?_)
set_option maxHeartbeats 8000000 in
set_option maxRecDepth 100000 in
theorem spec_l1All.calls (k : Nat) (A0 : Option Addr) (c0 : Nat) (l0 : List Int) (r : Bool) (w : World) (hr0 : Kd.C (Kd.int .i64) w A0 l0.length l0) (hc0 : l0.length ≤ c0) (h : spec_l1All.f k l0 = some r) :
  Calls Try.prog 98 #[.slice A0 l0.length c0] w fun e w' => e = .returned (.bool r) ∧ Drawn0 w w':=by
 have HR0:=Aside0.mk hr0
 have HC0:=Aside0.mk hc0
 clear hr0 hc0
 have H : (spec_l1All.l0 k l0 (l0.length : Int) 0) = some r:=h
 clear h
 have H':=Aside0.mk H
 clear H
 go_enter Try.func98,Try.ntmps98
 go_wp2
 go_loopg [7] k (fun kq v7 w' => ∃ (x7_1 : Int),v7 = .int .i64 x7_1 ∧ Aside0 (spec_l1All.l0 kq l0 (l0.length : Int) x7_1 = some r) ∧ Aside0 (kq ≤ k) ∧ Drawn0 w w')
 case atStart => exact ⟨(0),(by first|rfl|(simp;done)|(simp [*];done)),H',⟨Nat.le_refl _⟩,by repeat (first|exact Drawn0.refl _|apply Drawn0.step)⟩
 case round =>
  clear H'
  obtain ⟨x7_1,rfl,HA,HK1,⟨m1,rfl⟩⟩:=hrel
  cases gk with
  | zero => exact absurd HA.out (by simp [spec_l1All.l0])
  | succ k1 =>
   have H:=HA.out
   clear HA
   simp only [spec_l1All.l0] at H
   by_cases c2 : x7_1 < (l0.length : Int)
   ·rw [if_pos c2] at H
    have c2b0 : decide (x7_1 < (l0.length : Int)) = true:=decide_eq_true c2
    clear c2
    by_cases c3 : 0 ≤ x7_1
    ·rw [if_pos c3] at H
     have c3b0 : decide (0 ≤ x7_1) = true:=decide_eq_true c3
     clear c3
     by_cases c4 : x7_1 < (l0.length : Int)
     ·rw [if_pos c4] at H
      have c4b0 : decide (x7_1 < (l0.length : Int)) = true:=decide_eq_true c4
      clear c4
      replace H:=Option.bind_eq_some_iff.mp H
      obtain ⟨t154,A50,H⟩:=H
      replace H : (if t154 = true then (spec_l1All.l0 k1 l0 (l0.length : Int) (wrap64 (x7_1 + 1))) else (some false)) = some r:=H
      have A5:=Aside0.mk A50
      clear A50
      by_cases c6 : t154 = true
      ·subst c6
       have H1 : (spec_l1All.l0 k1 l0 (l0.length : Int) (wrap64 (x7_1 + 1))) = some r:=by rw [if_pos rfl] at H;exact H
       clear H
       have H:=H1
       clear H1
       have H':=Aside0.mk H
       clear H
       have p153 : 0 ≤ (x7_1 : Int):=of_decide_eq_true (by first|(with_reducible assumption)|assumption)
       have q153 : x7_1 < (l0.length : Int):=of_decide_eq_true (by first|(with_reducible assumption)|assumption)
       obtain ⟨ad153,e153,hx153_0⟩:=Kd.at_int HR0.out x7_1 p153 q153
       cases e153
       replace p153:=eq_true p153
       replace q153:=eq_true q153
       go_wp2_with (first|((with_reducible refine gate_callee (f:=109) rfl ?_);refine goesL_ (some 12) rfl rfl Try.func109 (by kernel_rfl) rfl #[.int .i64 (rd l0 x7_1)] rfl lp_ ?_;(with_reducible refine (spec_CostValid.calls (rd l0 x7_1) true _ A5.out).mono ?_);rintro e w' ⟨rfl,⟨nd,rfl⟩⟩;refine ⟨_,rfl,?_⟩))
       go_roundg k1
       case measure => have:=HK1.out;omega
       case rel => exact ⟨(wrap64 (x7_1 + 1)),(by first|rfl|(simp;done)|(simp [*];done)),H',⟨by have:=HK1.out;omega⟩,by repeat (first|exact Drawn0.refl _|apply Drawn0.step)⟩
      ·replace c6:=Bool.eq_false_iff.mpr c6
       subst c6
       have H1 : (some false) = some r:=by rw [if_neg (show ¬ (false = true) by decide)] at H;exact H
       clear H
       have H:=H1
       clear H1
       obtain rfl:=Option.some.inj H
       have p153 : 0 ≤ (x7_1 : Int):=of_decide_eq_true (by first|(with_reducible assumption)|assumption)
       have q153 : x7_1 < (l0.length : Int):=of_decide_eq_true (by first|(with_reducible assumption)|assumption)
       obtain ⟨ad153,e153,hx153_0⟩:=Kd.at_int HR0.out x7_1 p153 q153
       cases e153
       replace p153:=eq_true p153
       replace q153:=eq_true q153
       go_wp2_with (first|((with_reducible refine gate_callee (f:=109) rfl ?_);refine goesL_ (some 12) rfl rfl Try.func109 (by kernel_rfl) rfl #[.int .i64 (rd l0 x7_1)] rfl lp_ ?_;(with_reducible refine (spec_CostValid.calls (rd l0 x7_1) false _ A5.out).mono ?_);rintro e w' ⟨rfl,⟨nd,rfl⟩⟩;refine ⟨_,rfl,?_⟩))
       go_ret
       exact ⟨by first|rfl|(simp;done)|(simp [*];done),by repeat (first|exact Drawn0.refl _|apply Drawn0.step)⟩
     ·rw [if_neg c4] at H
      exact absurd H (by simp)
    ·rw [if_neg c3] at H
     exact absurd H (by simp)
   ·rw [if_neg c2] at H
    have c2b0 : decide (x7_1 < (l0.length : Int)) = false:=decide_eq_false c2
    clear c2
    obtain rfl:=Option.some.inj H
    go_wp2
    go_ret
    exact ⟨by first|rfl|(simp;done)|(simp [*];done),by repeat (first|exact Drawn0.refl _|apply Drawn0.step)⟩
end Go.Proofs.Ytengegdaiphfeaa.X
end
section
namespace Go.Proofs.Ytengegdaiphfeaa.X
open Go.RowKit Go.Proofs.YtengegdaiphfeaaW.PrintWords Go.Proofs.YtengegdaiphfeaaW.PrintLast Go.Proofs.YtengegdaiphfeaaW.PrintMore
attribute [local go_sem] max2_int min2_int max_two min_two max_three min_three max_four min_four
set_option linter.unusedVariables false
set_option linter.unusedSimpArgs false
def spec_MatrixValid.f (k : Nat) (a0_0 : Int) (l0_1 : List Int) : Option (Bool):=(spec_l1In.f a0_0 1 4).bind fun t156 => (if t156 = true then (if (l0_1.length : Int) = (wrap64 (a0_0 * a0_0)) then ((spec_l1All.f k l0_1).bind fun t157 => (some t157)) else (some false)) else (some false))
theorem spec_MatrixValid.mono : ∀ a0 a1 k,LeO (spec_MatrixValid.f k a0 a1) (spec_MatrixValid.f (k + 1) a0 a1):=by
 intro a0 a1 k
 unfold spec_MatrixValid.f
 repeat' first
   | (with_reducible exact spec_l1All.mono _ _)
   | (with_reducible exact LeO.refl _)
   | (with_reducible exact LeO.none _)
   | (with_reducible refine LeO.ite ?_ ?_)
   | (with_reducible refine LeO.bind ?_ (fun _ => ?_))
   | exact spec_l1All.mono _ _
   | exact LeO.none _
   | refine LeO.ite ?_ ?_
   | refine LeO.bind ?_ (fun _ => ?_)
set_option maxHeartbeats 8000000 in
set_option maxRecDepth 100000 in
theorem spec_MatrixValid.calls (k : Nat) (a0_0 : Int) (A0_1 : Option Addr) (c0_1 : Nat) (l0_1 : List Int) (r : Bool) (w : World) (hr0_1 : Kd.C (Kd.int .i64) w A0_1 l0_1.length l0_1) (hc0_1 : l0_1.length ≤ c0_1) (h : spec_MatrixValid.f k a0_0 l0_1 = some r) :
  Calls Try.prog 55 #[.agg #[.int .i64 a0_0,.slice A0_1 l0_1.length c0_1]] w fun e w' => e = .returned (.bool r) ∧ Below w.heap.size w w':=by
 have hu28:=Try.underlying28
 have HR0_1:=Aside0.mk hr0_1
 have HC0_1:=Aside0.mk hc0_1
 clear hr0_1 hc0_1
 have HB:=Aside0.mk (Below.refl w.heap.size w)
 have H : ((spec_l1In.f a0_0 1 4).bind fun t156 => (if t156 = true then (if (l0_1.length : Int) = (wrap64 (a0_0 * a0_0)) then ((spec_l1All.f k l0_1).bind fun t157 => (some t157)) else (some false)) else (some false))) = some r:=h
 clear h
 replace H:=Option.bind_eq_some_iff.mp H
 obtain ⟨t156,A20,H⟩:=H
 replace H : (if t156 = true then (if (l0_1.length : Int) = (wrap64 (a0_0 * a0_0)) then ((spec_l1All.f k l0_1).bind fun t157 => (some t157)) else (some false)) else (some false)) = some r:=H
 have A2:=Aside0.mk A20
 clear A20
 by_cases c3 : t156 = true
 ·subst c3
  have H1 : (if (l0_1.length : Int) = (wrap64 (a0_0 * a0_0)) then ((spec_l1All.f k l0_1).bind fun t157 => (some t157)) else (some false)) = some r:=by rw [if_pos rfl] at H;exact H
  clear H
  have H:=H1
  clear H1
  by_cases c4 : (l0_1.length : Int) = (wrap64 (a0_0 * a0_0))
  ·rw [if_pos c4] at H
   have c4b0 : ((l0_1.length : Int) == (wrap64 (a0_0 * a0_0))) = true:=beq_iff_eq.mpr c4
   have c4b1 : ((l0_1.length : Int) != (wrap64 (a0_0 * a0_0))) = false:=bne_eq_false_iff_eq.mpr c4
   clear c4
   replace H:=Option.bind_eq_some_iff.mp H
   obtain ⟨t157,A50,H⟩:=H
   replace H : (some t157) = some r:=H
   have A5:=Aside0.mk A50
   clear A50
   obtain rfl:=Option.some.inj H
   go_enter Try.func55,Try.ntmps55
   go_wp2_with (first|((with_reducible refine gate_dst (N:=1) rfl ?_);(try (refine gate_guard (by rfl) ?_;dsimp only));refine box_event ?hg (N:=1) ?hd (cs:=#[.int .i64 a0_0,.slice A0_1 l0_1.length c0_1]) (t:=28) ?hr ?_;(case hd => rfl);(case hg => rfl);(case hr => first|(go_simp;done)|(go_simp;rfl));intro gb155 hg w6 hbox hb;have n0_:=Aside0.mk (below_step (be0_ HB.out) hb);have n1_:=Aside0.mk (hbox);have n2_:=Aside0.mk ((by rw [hg];exact (below_size (be0_ HB.out)) : w.heap.size ≤ gb155));have n3_:=Aside0.mk ((by rw [hg];exact (below_size (be0_ HB.out)) : w.heap.size ≤ gb155));clear HB;have HB:=n0_;have BK155:=n1_;have GW155:=n2_;have GE155:=n3_;clear n0_ n1_ n2_ n3_;clear hb hbox hg;have hcz7_0 : w6.cell? ⟨gb155,0,none⟩ = some (.int .i64 a0_0):=(blk_cell BK155.out 0).trans rfl;have hcz7_1 : w6.cell? ⟨gb155,1,none⟩ = some (.slice A0_1 l0_1.length c0_1):=(blk_cell BK155.out 1).trans rfl;have hfz7_0:=blk_frozen BK155.out 0;have hfz7_1:=blk_frozen BK155.out 1)|((with_reducible refine gate_callee (f:=97) rfl ?_);refine goesL_ (some 5) rfl rfl Try.func97 (by kernel_rfl) rfl #[.int .i64 a0_0,.int .i64 1,.int .i64 4] rfl lp_ ?_;(with_reducible refine (spec_l1In.calls a0_0 1 4 true _ A2.out).mono ?_);rintro e w' ⟨rfl,⟨nd,rfl⟩⟩;refine ⟨_,rfl,?_⟩)|(go_at_call 98;(with_reducible refine (spec_l1All.calls k _ _ l0_1 t157 _ ?side1 ?side2 A5.out).mono ?_);(case side1 => repeat (first|exact (Kd.C_below HR0_1.out (be1_ HB.out GE155.out))|(with_reducible refine Kd.C_alloc ?_ _)|(with_reducible refine Kd.C_drewN ?_ _)|(with_reducible refine Kd.C_drew ?_)));(case side2 => exact HC0_1.out);rintro e w' ⟨rfl,⟨nd,rfl⟩⟩))
   go_ret
   exact ⟨by first|rfl|(simp [errW_none,errW_some] <;> rfl)|(simp [*,errW_none,errW_some] <;> rfl),be1_ HB.out GE155.out⟩
  ·rw [if_neg c4] at H
   have c4b0 : ((l0_1.length : Int) == (wrap64 (a0_0 * a0_0))) = false:=beq_eq_false_iff_ne.mpr c4
   have c4b1 : ((l0_1.length : Int) != (wrap64 (a0_0 * a0_0))) = true:=bne_iff_ne.mpr c4
   obtain rfl:=Option.some.inj H
   go_enter Try.func55,Try.ntmps55
   go_wp2_with (first|((with_reducible refine gate_dst (N:=1) rfl ?_);(try (refine gate_guard (by rfl) ?_;dsimp only));refine box_event ?hg (N:=1) ?hd (cs:=#[.int .i64 a0_0,.slice A0_1 l0_1.length c0_1]) (t:=28) ?hr ?_;(case hd => rfl);(case hg => rfl);(case hr => first|(go_simp;done)|(go_simp;rfl));intro gb155 hg w8 hbox hb;have n0_:=Aside0.mk (below_step (be0_ HB.out) hb);have n1_:=Aside0.mk (hbox);have n2_:=Aside0.mk ((by rw [hg];exact (below_size (be0_ HB.out)) : w.heap.size ≤ gb155));have n3_:=Aside0.mk ((by rw [hg];exact (below_size (be0_ HB.out)) : w.heap.size ≤ gb155));clear HB;have HB:=n0_;have BK155:=n1_;have GW155:=n2_;have GE155:=n3_;clear n0_ n1_ n2_ n3_;clear hb hbox hg;have hcz9_0 : w8.cell? ⟨gb155,0,none⟩ = some (.int .i64 a0_0):=(blk_cell BK155.out 0).trans rfl;have hcz9_1 : w8.cell? ⟨gb155,1,none⟩ = some (.slice A0_1 l0_1.length c0_1):=(blk_cell BK155.out 1).trans rfl;have hfz9_0:=blk_frozen BK155.out 0;have hfz9_1:=blk_frozen BK155.out 1)|((with_reducible refine gate_callee (f:=97) rfl ?_);refine goesL_ (some 5) rfl rfl Try.func97 (by kernel_rfl) rfl #[.int .i64 a0_0,.int .i64 1,.int .i64 4] rfl lp_ ?_;(with_reducible refine (spec_l1In.calls a0_0 1 4 true _ A2.out).mono ?_);rintro e w' ⟨rfl,⟨nd,rfl⟩⟩;refine ⟨_,rfl,?_⟩))
   go_ret
   exact ⟨by first|rfl|(simp [errW_none,errW_some] <;> rfl)|(simp [*,errW_none,errW_some] <;> rfl),be1_ HB.out GE155.out⟩
 ·replace c3:=Bool.eq_false_iff.mpr c3
  subst c3
  have H1 : (some false) = some r:=by rw [if_neg (show ¬ (false = true) by decide)] at H;exact H
  clear H
  have H:=H1
  clear H1
  obtain rfl:=Option.some.inj H
  go_enter Try.func55,Try.ntmps55
  go_wp2_with (first|((with_reducible refine gate_dst (N:=1) rfl ?_);(try (refine gate_guard (by rfl) ?_;dsimp only));refine box_event ?hg (N:=1) ?hd (cs:=#[.int .i64 a0_0,.slice A0_1 l0_1.length c0_1]) (t:=28) ?hr ?_;(case hd => rfl);(case hg => rfl);(case hr => first|(go_simp;done)|(go_simp;rfl));intro gb155 hg w10 hbox hb;have n0_:=Aside0.mk (below_step (be0_ HB.out) hb);have n1_:=Aside0.mk (hbox);have n2_:=Aside0.mk ((by rw [hg];exact (below_size (be0_ HB.out)) : w.heap.size ≤ gb155));have n3_:=Aside0.mk ((by rw [hg];exact (below_size (be0_ HB.out)) : w.heap.size ≤ gb155));clear HB;have HB:=n0_;have BK155:=n1_;have GW155:=n2_;have GE155:=n3_;clear n0_ n1_ n2_ n3_;clear hb hbox hg;have hcz11_0 : w10.cell? ⟨gb155,0,none⟩ = some (.int .i64 a0_0):=(blk_cell BK155.out 0).trans rfl;have hcz11_1 : w10.cell? ⟨gb155,1,none⟩ = some (.slice A0_1 l0_1.length c0_1):=(blk_cell BK155.out 1).trans rfl;have hfz11_0:=blk_frozen BK155.out 0;have hfz11_1:=blk_frozen BK155.out 1)|((with_reducible refine gate_callee (f:=97) rfl ?_);refine goesL_ (some 5) rfl rfl Try.func97 (by kernel_rfl) rfl #[.int .i64 a0_0,.int .i64 1,.int .i64 4] rfl lp_ ?_;(with_reducible refine (spec_l1In.calls a0_0 1 4 false _ A2.out).mono ?_);rintro e w' ⟨rfl,⟨nd,rfl⟩⟩;refine ⟨_,rfl,?_⟩))
  go_ret
  exact ⟨by first|rfl|(simp [errW_none,errW_some] <;> rfl)|(simp [*,errW_none,errW_some] <;> rfl),be1_ HB.out GE155.out⟩
end Go.Proofs.Ytengegdaiphfeaa.X
end
