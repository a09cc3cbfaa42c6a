import Derived.Test.YtfmbpoojpnoafaaProg
import Derived.Below
import Derived.Deep.Draws
import Derived.Deep.AppendLies
import Derived.Maps.AppendAt
import Derived.OwnWalk
import Derived.Laws.BytesArg
import Derived.Laws.MakeOwn
import Derived.Laws.OwnMore
import Derived.Deep.OwnRows
import Derived.Tactics
import Derived.Lib.ConvBytes
import Derived.Laws.Slices
import Derived.WalkKit
import Derived.KernelRfl
import Derived.RowKit3
import Derived.Deep.LoopGhost
import Derived.Deep.QuietTactic
import Derived.BigQuiet
import Derived.WideLaws
import Derived.Deep.DeepCutAuto
import Derived.Deep.CutBlock
import Derived.Deep.RegionHeld3
import Derived.Laws.Rows
import Derived.Lib.AppendStr
import Derived.ArgAppend
import Derived.Laws.IdiomCopy
import Derived.OrdersHeld
import Derived.Laws.BitsLemmas
import Derived.RowKit
import Derived.Test.YtfmbpoojpnoafaaKWv1
import Derived.Laws.StructEq
import Derived.Lib.Bytealg
section
namespace Go.Proofs.Ytfmbpoojpnoafaa.X
open Go.RowKit Go.Proofs.YtfmbpoojpnoafaaW.PrintWords Go.Proofs.YtfmbpoojpnoafaaW.PrintLast Go.Proofs.YtfmbpoojpnoafaaW.PrintMore
attribute [local go_sem] max2_int min2_int max_two min_two max_three min_three max_four min_four
set_option linter.unusedVariables false
set_option linter.unusedSimpArgs false
def FnAt (P : Program) (q : FuncId) : Prop := ∃ fn,P.funcs[q]? = some fn ∧ (fn.name == "runtime.NumGoroutine") = false ∧ fn.body.isSome = true
section
variable {P : Program} {ops : Array Oper} {Q : Exit → Act → World → Prop}
theorem gate_dyn {rest : List Oper} {o : Oper} {a : Act} {W : World} {t : Tmp} {os : Array Operand} {ts : Array TypeId} (_ho : o.op = .call { callee:=.value (.tmp t),args:=os,argTypes:=ts }) (h : wpList P ops Q (o :: rest) a W) : wpList P ops Q (o :: rest) a W:=h
theorem goesLD_ {rest : List Oper} {oi : Oper} {a : Act} {w : World} (N : Option Tmp) (hd : oi.dst = N) (hg : oi.guard = none) {q : FuncId} (hq : FnAt P q) {os : Array Operand} {ts : Array TypeId} {t : Tmp} {Fb C : Array Value} (xs : Array Value)
  (hop : oi.op = .call { callee:=.value (.tmp t),args:=os,argTypes:=ts }) (hv : a.eval (.tmp t) = .func (.func q) Fb C) (hargs : os.map a.eval = xs)
  (h : Calls P q (Fb ++ xs ++ C) w fun e w' => ∃ v,e = .returned v ∧ wpList P ops Q rest (a.put N v) w') : wpList P ops Q (oi :: rest) a w:=by
 obtain ⟨fn,hf,hname,hb⟩:=hq
 refine wpList_plain hg fun K hK => ?_
 have he:=enters_ hf hname hb (Fb ++ xs ++ C) w
 have hrun : (execOp a.eval oi).run P w = .ok (.enter q (Fb ++ xs ++ C)) w:=by
  unfold execOp
  simp [hop,resolve,Deferred.ofValue,invoke,hv,hargs]
  rw [← Array.append_assoc];exact he
 unfold Oper.wp
 rw [hrun,Oper.upon_enter]
 refine h.mono fun e w'' hh => ?_
 obtain ⟨v,rfl,hk⟩:=hh
 subst hd
 exact hK _ _ hk
theorem goesD_ {oi : Oper} {N : Option Tmp} {a : Act} {w : World} {K : Act → World → Prop} {q : FuncId} (hq : FnAt P q) {os : Array Operand} {ts : Array TypeId} {t : Tmp} {Fb C : Array Value} (xs : Array Value)
  (hw : Region.wanted oi (yielded ops a.tmps) = true) (hN : oi.dst = N) (hop : oi.op = .call { callee:=.value (.tmp t),args:=os,argTypes:=ts }) (hv : a.eval (.tmp t) = .func (.func q) Fb C) (hargs : os.map a.eval = xs)
  (h : Calls P q (Fb ++ xs ++ C) w fun e w' => ∃ v,e = .returned v ∧ K (a.put N v) w') : if Region.wanted oi (yielded ops a.tmps) = true then Oper.wp P oi a w K Q else K (a.put N undef) w:=by
 obtain ⟨fn,hf,hname,hb⟩:=hq
 have he:=enters_ hf hname hb (Fb ++ xs ++ C) w
 refine call_ q (Fb ++ xs ++ C) hw hN ?_ h
 unfold execOp
 simp [hop,resolve,Deferred.ofValue,invoke,hv,hargs]
 rw [← Array.append_assoc];exact he
end
end Go.Proofs.Ytfmbpoojpnoafaa.X
end
section
namespace Go.Proofs.Ytfmbpoojpnoafaa.X
open Go.RowKit Go.Proofs.YtfmbpoojpnoafaaW.PrintWords Go.Proofs.YtfmbpoojpnoafaaW.PrintLast Go.Proofs.YtfmbpoojpnoafaaW.PrintMore
attribute [local go_sem] max2_int min2_int max_two min_two max_three min_three max_four min_four
set_option linter.unusedVariables false
set_option linter.unusedSimpArgs false
def errW : Option Int → Value
 | none => .nilIface
 | some c => .iface 0 (.int .i64 c)
theorem errW_none : errW none = .nilIface:=rfl
theorem errW_some (c : Int) : errW (some c) = .iface 0 (.int .i64 c):=rfl
theorem info3 : (Try.prog.info? 3).map (fun i => (i.zero,i.size,i.bytes)) = some (some (.int .i64 0),1,8):=by kernel_rfl
theorem info5 : (Try.prog.info? 5).map (fun i => (i.zero,i.size,i.bytes)) = some (some (.int .u8 0),1,1):=by kernel_rfl
theorem info9 : (Try.prog.info? 9).map (fun i => (i.zero,i.size,i.bytes)) = some (some (.string ⟨#[]⟩),1,16):=by kernel_rfl
theorem info68 : (Try.prog.info? 68).map (fun i => (i.zero,i.size,i.bytes)) = some (some (.agg #[(.int .i64 0),(.slice none 0 0),(.string ⟨#[]⟩)]),3,48):=by kernel_rfl
theorem info92 : (Try.prog.info? 92).map (fun i => (i.zero,i.size,i.bytes)) = some (some (.agg #[(.int .i64 0),(.string ⟨#[]⟩),(.int .i64 0),(.int .i64 0)]),4,40):=by kernel_rfl
theorem info136 : (Try.prog.info? 136).map (fun i => (i.zero,i.size,i.bytes)) = some (some (.agg #[(.string ⟨#[]⟩),(.slice none 0 0)]),2,40):=by kernel_rfl
structure S118 where
 f0 : Int
 f1 : ByteArray
 f2 : Int
 f3 : Int
def z118 : S118:=⟨(0 : Int),(⟨#[]⟩ : ByteArray),(0 : Int),(0 : Int)⟩
def k118 : Kd S118:=Kd.iso (Kd.pair (Kd.int .i64) (Kd.pair Kd.string (Kd.pair (Kd.int .i64) (Kd.int .i64)))) (fun x : S118 => (x.f0,x.f1,x.f2,x.f3))
theorem k118_open {w : World} {x : S118} {cs : List Value} (h : k118.K w x cs) : cs = [.int .i64 x.f0,.string x.f1,.int .i64 x.f2,.int .i64 x.f3]:=by
 obtain ⟨_,_,rfl,rfl,⟨_,_,rfl,rfl,⟨_,_,rfl,rfl,rfl⟩⟩⟩:=h
 exact rfl
theorem k118_openM {w : World} {base : Nat} {ok : Nat → Prop} {x : S118} {cs : List Value} (h : k118.M w base ok x cs) : cs = [.int .i64 x.f0,.string x.f1,.int .i64 x.f2,.int .i64 x.f3]:=by
 obtain ⟨_,_,rfl,rfl,⟨_,_,rfl,rfl,⟨_,_,rfl,rfl,rfl⟩⟩⟩:=h
 exact rfl
theorem k118_mk (w : World) (x : S118)  : k118.K w x [.int .i64 x.f0,.string x.f1,.int .i64 x.f2,.int .i64 x.f3]:=⟨[.int .i64 x.f0],[.string x.f1,.int .i64 x.f2,.int .i64 x.f3],rfl,rfl,⟨[.string x.f1],[.int .i64 x.f2,.int .i64 x.f3],rfl,rfl,⟨[.int .i64 x.f2],[.int .i64 x.f3],rfl,rfl,rfl⟩⟩⟩
theorem k118_mkM (w : World) (base : Nat) (ok : Nat → Prop) (x : S118)  : k118.M w base ok x [.int .i64 x.f0,.string x.f1,.int .i64 x.f2,.int .i64 x.f3]:=⟨[.int .i64 x.f0],[.string x.f1,.int .i64 x.f2,.int .i64 x.f3],rfl,rfl,⟨[.string x.f1],[.int .i64 x.f2,.int .i64 x.f3],rfl,rfl,⟨[.int .i64 x.f2],[.int .i64 x.f3],rfl,rfl,rfl⟩⟩⟩
theorem k118_mkF (W : World) (ok : Nat → Prop) (x : S118) : Kd.FK k118 W ok x [.int .i64 x.f0,.string x.f1,.int .i64 x.f2,.int .i64 x.f3]:=fun W2 _ => k118_mk W2 x
def rd_T118 (xs : List S118) (i : Int) : S118:=xs.getD i.toNat z118
theorem at_T118 {w : World} {A : Option Addr} {n : Nat} {xs : List S118} (h : Kd.C k118 w A n xs) (i : Int) (h0 : 0 ≤ i) (h1 : i < n) : ∃ ad , A = some ad ∧ w.cell? (ad.add (i.toNat * 4)) = some (.int .i64 (rd_T118 xs i).f0) ∧ w.cell? ⟨(ad.add (i.toNat * 4)).block,(ad.add (i.toNat * 4)).off + 1,none⟩ = some (.string (rd_T118 xs i).f1) ∧ w.cell? ⟨(ad.add (i.toNat * 4)).block,(ad.add (i.toNat * 4)).off + 2,none⟩ = some (.int .i64 (rd_T118 xs i).f2) ∧ w.cell? ⟨(ad.add (i.toNat * 4)).block,(ad.add (i.toNat * 4)).off + 3,none⟩ = some (.int .i64 (rd_T118 xs i).f3):=by
 obtain ⟨ad,c,e,_,hK,hc0⟩:=Kd.C_get h z118 i h0 h1
 have hc : ∀ j u,c[j]? = some u → w.cell? (ad.add (i.toNat * 4 + j)) = some u:=hc0
 obtain rfl:=k118_open hK
 exact ⟨ad,e,hc 0 _ rfl,by rw [← add_field _ _ 1 (by omega)];exact hc 1 _ rfl,by rw [← add_field _ _ 2 (by omega)];exact hc 2 _ rfl,by rw [← add_field _ _ 3 (by omega)];exact hc 3 _ rfl⟩
structure S92 where
 f0 : Int
 f1 : ByteArray
 f2 : Int
 f3 : Int
def z92 : S92:=⟨(0 : Int),(⟨#[]⟩ : ByteArray),(0 : Int),(0 : Int)⟩
def k92 : Kd S92:=Kd.iso (Kd.pair (Kd.int .i64) (Kd.pair Kd.string (Kd.pair (Kd.int .i64) (Kd.int .i64)))) (fun x : S92 => (x.f0,x.f1,x.f2,x.f3))
theorem k92_open {w : World} {x : S92} {cs : List Value} (h : k92.K w x cs) : cs = [.int .i64 x.f0,.string x.f1,.int .i64 x.f2,.int .i64 x.f3]:=by
 obtain ⟨_,_,rfl,rfl,⟨_,_,rfl,rfl,⟨_,_,rfl,rfl,rfl⟩⟩⟩:=h
 exact rfl
theorem k92_openM {w : World} {base : Nat} {ok : Nat → Prop} {x : S92} {cs : List Value} (h : k92.M w base ok x cs) : cs = [.int .i64 x.f0,.string x.f1,.int .i64 x.f2,.int .i64 x.f3]:=by
 obtain ⟨_,_,rfl,rfl,⟨_,_,rfl,rfl,⟨_,_,rfl,rfl,rfl⟩⟩⟩:=h
 exact rfl
theorem k92_mk (w : World) (x : S92)  : k92.K w x [.int .i64 x.f0,.string x.f1,.int .i64 x.f2,.int .i64 x.f3]:=⟨[.int .i64 x.f0],[.string x.f1,.int .i64 x.f2,.int .i64 x.f3],rfl,rfl,⟨[.string x.f1],[.int .i64 x.f2,.int .i64 x.f3],rfl,rfl,⟨[.int .i64 x.f2],[.int .i64 x.f3],rfl,rfl,rfl⟩⟩⟩
theorem k92_mkM (w : World) (base : Nat) (ok : Nat → Prop) (x : S92)  : k92.M w base ok x [.int .i64 x.f0,.string x.f1,.int .i64 x.f2,.int .i64 x.f3]:=⟨[.int .i64 x.f0],[.string x.f1,.int .i64 x.f2,.int .i64 x.f3],rfl,rfl,⟨[.string x.f1],[.int .i64 x.f2,.int .i64 x.f3],rfl,rfl,⟨[.int .i64 x.f2],[.int .i64 x.f3],rfl,rfl,rfl⟩⟩⟩
theorem k92_mkF (W : World) (ok : Nat → Prop) (x : S92) : Kd.FK k92 W ok x [.int .i64 x.f0,.string x.f1,.int .i64 x.f2,.int .i64 x.f3]:=fun W2 _ => k92_mk W2 x
def rd_T92 (xs : List S92) (i : Int) : S92:=xs.getD i.toNat z92
theorem at_T92 {w : World} {A : Option Addr} {n : Nat} {xs : List S92} (h : Kd.C k92 w A n xs) (i : Int) (h0 : 0 ≤ i) (h1 : i < n) : ∃ ad , A = some ad ∧ w.cell? (ad.add (i.toNat * 4)) = some (.int .i64 (rd_T92 xs i).f0) ∧ w.cell? ⟨(ad.add (i.toNat * 4)).block,(ad.add (i.toNat * 4)).off + 1,none⟩ = some (.string (rd_T92 xs i).f1) ∧ w.cell? ⟨(ad.add (i.toNat * 4)).block,(ad.add (i.toNat * 4)).off + 2,none⟩ = some (.int .i64 (rd_T92 xs i).f2) ∧ w.cell? ⟨(ad.add (i.toNat * 4)).block,(ad.add (i.toNat * 4)).off + 3,none⟩ = some (.int .i64 (rd_T92 xs i).f3):=by
 obtain ⟨ad,c,e,_,hK,hc0⟩:=Kd.C_get h z92 i h0 h1
 have hc : ∀ j u,c[j]? = some u → w.cell? (ad.add (i.toNat * 4 + j)) = some u:=hc0
 obtain rfl:=k92_open hK
 exact ⟨ad,e,hc 0 _ rfl,by rw [← add_field _ _ 1 (by omega)];exact hc 1 _ rfl,by rw [← add_field _ _ 2 (by omega)];exact hc 2 _ rfl,by rw [← add_field _ _ 3 (by omega)];exact hc 3 _ rfl⟩
structure S136 where
 f0 : ByteArray
 f1 : (List S136)
def z136 : S136:=⟨(⟨#[]⟩ : ByteArray),([] : List S136)⟩
def F136 (d : Kd S136) : Kd S136:=Kd.iso (Kd.pair Kd.string (Kd.slice 136 d)) (fun x : S136 => (x.f0,x.f1))
theorem mono136 : Kd.Mono F136:=Kd.mono_iso _ (Kd.mono_pair (Kd.mono_const _) (Kd.mono_slice 136 Kd.mono_id))
theorem sub136 : Kd.Sub F136 [136]:=Kd.sub_iso _ (Kd.sub_pair (Kd.sub_const _ (by decide)) (Kd.sub_slice 136 (by decide) Kd.sub_id))
theorem sz136 : ∀ n,(Kd.upto F136 2 [136] n).sz = 2:=Kd.upto_sz (fun _ => rfl)
def k136 : Kd S136:=Kd.fix F136 2 [136] sz136 (Kd.upto_E sub136)
theorem k136_open {w : World} {x : S136} {cs : List Value} (h : k136.K w x cs) : ∃ A1 c1,cs = [.string x.f0,.slice A1 x.f1.length c1] ∧ x.f1.length ≤ c1 ∧ k136.C w A1 x.f1.length x.f1:=by
 obtain ⟨n,h⟩:=h
 cases n with
 | zero => exact h.elim
 | succ n =>
  obtain ⟨_,_,rfl,rfl,⟨A1,c1,rfl,l1,g1⟩⟩:=h
  exact ⟨A1,c1,rfl,l1,Kd.fix_C g1⟩
theorem k136_openM {w : World} {base : Nat} {ok : Nat → Prop} {x : S136} {cs : List Value} (h : k136.M w base ok x cs) : ∃ v1,cs = [.string x.f0,v1] ∧ k136.R 136 w base ok v1 x.f1:=by
 obtain ⟨n,h⟩:=h
 cases n with
 | zero => exact h.elim
 | succ n =>
  obtain ⟨_,_,rfl,rfl,⟨v1,rfl,g1⟩⟩:=h
  exact ⟨v1,rfl,Kd.fix_R g1⟩
theorem k136_mk (w : World) (x : S136) {A1 : Option Addr} {c1 : Nat} (l1 : x.f1.length ≤ c1) (g1 : k136.C w A1 x.f1.length x.f1) : k136.K w x [.string x.f0,.slice A1 x.f1.length c1]:=by
 obtain ⟨n1,q1⟩:=Kd.fix_C_back mono136 g1
 have r1:=Kd.upto_C_le mono136 sz136 (show n1 ≤ n1 by omega) q1
 exact ⟨n1 + 1,⟨[.string x.f0],[.slice A1 x.f1.length c1],rfl,rfl,⟨A1,c1,rfl,l1,r1⟩⟩⟩
theorem k136_mkM (w : World) (base : Nat) (ok : Nat → Prop) (x : S136) {v1 : Value} (g1 : k136.R 136 w base ok v1 x.f1) : k136.M w base ok x [.string x.f0,v1]:=by
 obtain ⟨n1,q1⟩:=Kd.fix_R_back mono136 g1
 have r1:=Kd.upto_R_le mono136 sz136 (show n1 ≤ n1 by omega) q1
 exact ⟨n1 + 1,⟨[.string x.f0],[v1],rfl,rfl,⟨v1,rfl,r1⟩⟩⟩
theorem k136_openF {W : World} {ok : Nat → Prop} {x : S136} {cs : List Value} (h : Kd.FK k136 W ok x cs) : ∃ A1 c1,cs = [.string x.f0,.slice A1 x.f1.length c1] ∧ x.f1.length ≤ c1 ∧ Kd.F k136 W ok A1 x.f1.length x.f1:=by
 obtain ⟨A1,c1,rfl,l1,_⟩:=k136_open (Kd.FK_now h)
 exact ⟨A1,c1,rfl,l1,(fun W' hW => by obtain ⟨A1_,c1_,he,l1_,g1_⟩:=k136_open (h W' hW);injection (Option.some.inj (show some (Value.slice A1 x.f1.length c1) = some (Value.slice A1_ x.f1.length c1_) from congrArg (fun l => l[1]?) he)) with ha_ _ _;rw [ha_];exact g1_)⟩
theorem k136_mkF (W : World) (ok : Nat → Prop) (x : S136) {A1 : Option Addr} {c1 : Nat} (l1 : x.f1.length ≤ c1) (g1 : Kd.F k136 W ok A1 x.f1.length x.f1) : Kd.FK k136 W ok x [.string x.f0,.slice A1 x.f1.length c1]:=fun W2 hW => k136_mk W2 x l1 (g1 W2 hW)
def rd_T136 (xs : List S136) (i : Int) : S136:=xs.getD i.toNat z136
theorem at_T136 {w : World} {A : Option Addr} {n : Nat} {xs : List S136} (h : Kd.C k136 w A n xs) (i : Int) (h0 : 0 ≤ i) (h1 : i < n) : ∃ ad A1 c1,A = some ad ∧ w.cell? (ad.add (i.toNat * 2)) = some (.string (rd_T136 xs i).f0) ∧ w.cell? ⟨(ad.add (i.toNat * 2)).block,(ad.add (i.toNat * 2)).off + 1,none⟩ = some (.slice A1 (rd_T136 xs i).f1.length c1) ∧ (rd_T136 xs i).f1.length ≤ c1 ∧ k136.C w A1 (rd_T136 xs i).f1.length (rd_T136 xs i).f1:=by
 obtain ⟨ad,c,e,_,hK,hc0⟩:=Kd.C_get h z136 i h0 h1
 have hc : ∀ j u,c[j]? = some u → w.cell? (ad.add (i.toNat * 2 + j)) = some u:=hc0
 obtain ⟨A1,c1,rfl,l1,g1⟩:=k136_open hK
 exact ⟨ad,A1,c1,e,hc 0 _ rfl,by rw [← add_field _ _ 1 (by omega)];exact hc 1 _ rfl,l1,g1⟩
def rd_L6 (xs : List (List Int)) (i : Int) : (List Int):=xs.getD i.toNat ([] : List Int)
theorem at_L6 {w : World} {A : Option Addr} {n : Nat} {xs : List (List Int)} (h : Kd.C (Kd.slice 3 (Kd.int .i64)) w A n xs) (i : Int) (h0 : 0 ≤ i) (h1 : i < n) : ∃ ad A0 c0,A = some ad ∧ w.cell? (ad.add i.toNat) = some (.slice A0 (rd_L6 xs i).length c0) ∧ (rd_L6 xs i).length ≤ c0 ∧ (Kd.int .i64).C w A0 (rd_L6 xs i).length (rd_L6 xs i):=by
 obtain ⟨ad,c,e,_,hK,hc0⟩:=Kd.C_get h ([] : List Int) i h0 h1
 have hc : ∀ j u,c[j]? = some u → w.cell? (ad.add (i.toNat * 1 + j)) = some u:=hc0
 obtain ⟨A0,c0,rfl,l0,g0⟩:=hK
 exact ⟨ad,A0,c0,e,by have hq:=hc 0 _ rfl;rwa [Nat.mul_one,Nat.add_zero] at hq,l0,g0⟩
structure S35 where
 f0 : Int
 f1 : (List Int)
def z35 : S35:=⟨(0 : Int),([] : List Int)⟩
def k35 : Kd S35:=Kd.iso (Kd.pair (Kd.int .i64) (Kd.slice 3 (Kd.int .i64))) (fun x : S35 => (x.f0,x.f1))
theorem k35_open {w : World} {x : S35} {cs : List Value} (h : k35.K w x cs) : ∃ A1 c1,cs = [.int .i64 x.f0,.slice A1 x.f1.length c1] ∧ x.f1.length ≤ c1 ∧ (Kd.int .i64).C w A1 x.f1.length x.f1:=by
 obtain ⟨_,_,rfl,rfl,⟨A1,c1,rfl,l1,g1⟩⟩:=h
 exact ⟨A1,c1,rfl,l1,g1⟩
theorem k35_openM {w : World} {base : Nat} {ok : Nat → Prop} {x : S35} {cs : List Value} (h : k35.M w base ok x cs) : ∃ v1,cs = [.int .i64 x.f0,v1] ∧ (Kd.int .i64).R 3 w base ok v1 x.f1:=by
 obtain ⟨_,_,rfl,rfl,⟨v1,rfl,g1⟩⟩:=h
 exact ⟨v1,rfl,g1⟩
theorem k35_mk (w : World) (x : S35) {A1 : Option Addr} {c1 : Nat} (l1 : x.f1.length ≤ c1) (g1 : (Kd.int .i64).C w A1 x.f1.length x.f1) : k35.K w x [.int .i64 x.f0,.slice A1 x.f1.length c1]:=⟨[.int .i64 x.f0],[.slice A1 x.f1.length c1],rfl,rfl,⟨A1,c1,rfl,l1,g1⟩⟩
theorem k35_mkM (w : World) (base : Nat) (ok : Nat → Prop) (x : S35) {v1 : Value} (g1 : (Kd.int .i64).R 3 w base ok v1 x.f1) : k35.M w base ok x [.int .i64 x.f0,v1]:=⟨[.int .i64 x.f0],[v1],rfl,rfl,⟨v1,rfl,g1⟩⟩
theorem k35_openF {W : World} {ok : Nat → Prop} {x : S35} {cs : List Value} (h : Kd.FK k35 W ok x cs) : ∃ A1 c1,cs = [.int .i64 x.f0,.slice A1 x.f1.length c1] ∧ x.f1.length ≤ c1 ∧ Kd.F (Kd.int .i64) W ok A1 x.f1.length x.f1:=by
 obtain ⟨A1,c1,rfl,l1,_⟩:=k35_open (Kd.FK_now h)
 exact ⟨A1,c1,rfl,l1,(fun W' hW => by obtain ⟨A1_,c1_,he,l1_,g1_⟩:=k35_open (h W' hW);injection (Option.some.inj (show some (Value.slice A1 x.f1.length c1) = some (Value.slice A1_ x.f1.length c1_) from congrArg (fun l => l[1]?) he)) with ha_ _ _;rw [ha_];exact g1_)⟩
theorem k35_mkF (W : World) (ok : Nat → Prop) (x : S35) {A1 : Option Addr} {c1 : Nat} (l1 : x.f1.length ≤ c1) (g1 : Kd.F (Kd.int .i64) W ok A1 x.f1.length x.f1) : Kd.FK k35 W ok x [.int .i64 x.f0,.slice A1 x.f1.length c1]:=fun W2 hW => k35_mk W2 x l1 (g1 W2 hW)
def rd_T35 (xs : List S35) (i : Int) : S35:=xs.getD i.toNat z35
theorem at_T35 {w : World} {A : Option Addr} {n : Nat} {xs : List S35} (h : Kd.C k35 w A n xs) (i : Int) (h0 : 0 ≤ i) (h1 : i < n) : ∃ ad A1 c1,A = some ad ∧ w.cell? (ad.add (i.toNat * 2)) = some (.int .i64 (rd_T35 xs i).f0) ∧ w.cell? ⟨(ad.add (i.toNat * 2)).block,(ad.add (i.toNat * 2)).off + 1,none⟩ = some (.slice A1 (rd_T35 xs i).f1.length c1) ∧ (rd_T35 xs i).f1.length ≤ c1 ∧ (Kd.int .i64).C w A1 (rd_T35 xs i).f1.length (rd_T35 xs i).f1:=by
 obtain ⟨ad,c,e,_,hK,hc0⟩:=Kd.C_get h z35 i h0 h1
 have hc : ∀ j u,c[j]? = some u → w.cell? (ad.add (i.toNat * 2 + j)) = some u:=hc0
 obtain ⟨A1,c1,rfl,l1,g1⟩:=k35_open hK
 exact ⟨ad,A1,c1,e,hc 0 _ rfl,by rw [← add_field _ _ 1 (by omega)];exact hc 1 _ rfl,l1,g1⟩
structure S68 where
 f0 : S35
 f1 : ByteArray
def z68 : S68:=⟨z35,(⟨#[]⟩ : ByteArray)⟩
def k68 : Kd S68:=Kd.iso (Kd.pair k35 Kd.string) (fun x : S68 => (x.f0,x.f1))
theorem k68_open {w : World} {x : S68} {cs : List Value} (h : k68.K w x cs) : ∃ A1 c1,cs = [.int .i64 x.f0.f0,.slice A1 x.f0.f1.length c1,.string x.f1] ∧ x.f0.f1.length ≤ c1 ∧ (Kd.int .i64).C w A1 x.f0.f1.length x.f0.f1:=by
 obtain ⟨_,_,rfl,s0,rfl⟩:=h
 obtain ⟨A1,c1,rfl,l1,g1⟩:=k35_open s0
 exact ⟨A1,c1,rfl,l1,g1⟩
theorem k68_openM {w : World} {base : Nat} {ok : Nat → Prop} {x : S68} {cs : List Value} (h : k68.M w base ok x cs) : ∃ v1,cs = [.int .i64 x.f0.f0,v1,.string x.f1] ∧ (Kd.int .i64).R 3 w base ok v1 x.f0.f1:=by
 obtain ⟨_,_,rfl,s0,rfl⟩:=h
 obtain ⟨v1,rfl,g1⟩:=k35_openM s0
 exact ⟨v1,rfl,g1⟩
theorem k68_mk (w : World) (x : S68) {A1 : Option Addr} {c1 : Nat} (l1 : x.f0.f1.length ≤ c1) (g1 : (Kd.int .i64).C w A1 x.f0.f1.length x.f0.f1) : k68.K w x [.int .i64 x.f0.f0,.slice A1 x.f0.f1.length c1,.string x.f1]:=⟨[.int .i64 x.f0.f0,.slice A1 x.f0.f1.length c1],[.string x.f1],rfl,(k35_mk w x.f0 l1 g1),rfl⟩
theorem k68_mkM (w : World) (base : Nat) (ok : Nat → Prop) (x : S68) {v1 : Value} (g1 : (Kd.int .i64).R 3 w base ok v1 x.f0.f1) : k68.M w base ok x [.int .i64 x.f0.f0,v1,.string x.f1]:=⟨[.int .i64 x.f0.f0,v1],[.string x.f1],rfl,(k35_mkM w base ok x.f0 g1),rfl⟩
theorem k68_openF {W : World} {ok : Nat → Prop} {x : S68} {cs : List Value} (h : Kd.FK k68 W ok x cs) : ∃ A1 c1,cs = [.int .i64 x.f0.f0,.slice A1 x.f0.f1.length c1,.string x.f1] ∧ x.f0.f1.length ≤ c1 ∧ Kd.F (Kd.int .i64) W ok A1 x.f0.f1.length x.f0.f1:=by
 obtain ⟨A1,c1,rfl,l1,_⟩:=k68_open (Kd.FK_now h)
 exact ⟨A1,c1,rfl,l1,(fun W' hW => by obtain ⟨A1_,c1_,he,l1_,g1_⟩:=k68_open (h W' hW);injection (Option.some.inj (show some (Value.slice A1 x.f0.f1.length c1) = some (Value.slice A1_ x.f0.f1.length c1_) from congrArg (fun l => l[1]?) he)) with ha_ _ _;rw [ha_];exact g1_)⟩
theorem k68_mkF (W : World) (ok : Nat → Prop) (x : S68) {A1 : Option Addr} {c1 : Nat} (l1 : x.f0.f1.length ≤ c1) (g1 : Kd.F (Kd.int .i64) W ok A1 x.f0.f1.length x.f0.f1) : Kd.FK k68 W ok x [.int .i64 x.f0.f0,.slice A1 x.f0.f1.length c1,.string x.f1]:=fun W2 hW => k68_mk W2 x l1 (g1 W2 hW)
def rd_T68 (xs : List S68) (i : Int) : S68:=xs.getD i.toNat z68
theorem at_T68 {w : World} {A : Option Addr} {n : Nat} {xs : List S68} (h : Kd.C k68 w A n xs) (i : Int) (h0 : 0 ≤ i) (h1 : i < n) : ∃ ad A1 c1,A = some ad ∧ w.cell? (ad.add (i.toNat * 3)) = some (.int .i64 (rd_T68 xs i).f0.f0) ∧ w.cell? ⟨(ad.add (i.toNat * 3)).block,(ad.add (i.toNat * 3)).off + 1,none⟩ = some (.slice A1 (rd_T68 xs i).f0.f1.length c1) ∧ w.cell? ⟨(ad.add (i.toNat * 3)).block,(ad.add (i.toNat * 3)).off + 2,none⟩ = some (.string (rd_T68 xs i).f1) ∧ (rd_T68 xs i).f0.f1.length ≤ c1 ∧ (Kd.int .i64).C w A1 (rd_T68 xs i).f0.f1.length (rd_T68 xs i).f0.f1:=by
 obtain ⟨ad,c,e,_,hK,hc0⟩:=Kd.C_get h z68 i h0 h1
 have hc : ∀ j u,c[j]? = some u → w.cell? (ad.add (i.toNat * 3 + j)) = some u:=hc0
 obtain ⟨A1,c1,rfl,l1,g1⟩:=k68_open hK
 exact ⟨ad,A1,c1,e,hc 0 _ rfl,by rw [← add_field _ _ 1 (by omega)];exact hc 1 _ rfl,by rw [← add_field _ _ 2 (by omega)];exact hc 2 _ rfl,l1,g1⟩
end Go.Proofs.Ytfmbpoojpnoafaa.X
namespace Go.Proofs.Ytfmbpoojpnoafaa.X
open Go.RowKit Go.Proofs.YtfmbpoojpnoafaaW.PrintWords Go.Proofs.YtfmbpoojpnoafaaW.PrintLast Go.Proofs.YtfmbpoojpnoafaaW.PrintMore
theorem pe_ {q p : Prop} (h : q) (k : q → p := by intro h_; (with_reducible repeat (first | refine blk_drewN ?_ _ | refine blk_drew ?_ | refine blk_alloc ?_ _)); exact h_) : p := k h
theorem pr_ {q p : Prop} (h : q) (k : q → p := by intro h_; (with_reducible repeat (first | apply Kd.R_alloc | apply Kd.R_drewN | apply Kd.R_drew)); exact h_) : p := k h
theorem be0_ {q p : Prop} (h : q) (k : q → p := by intro h_ ; repeat (first | (with_reducible first | exact h_ | apply below_alloc | apply pw_below_drewN | apply below_drew1) | exact h_)) : p := k h
theorem be1_ {q0 : Prop} {q p : Prop} (h : q) (g0 : q0) (k : q → q0 → p := by intro h_ g0; repeat (first | (with_reducible first | exact h_ | apply below_alloc | apply pw_below_drewN | apply below_drew1 | refine below_set ?_ g0) | exact h_)) : p := k h g0
theorem be2_ {q0 : Prop} {q1 : Prop} {q p : Prop} (h : q) (g0 : q0) (g1 : q1) (k : q → q0 → q1 → p := by intro h_ g0 g1; repeat (first | (with_reducible first | exact h_ | apply below_alloc | apply pw_below_drewN | apply below_drew1 | refine below_set ?_ g0 | refine below_set ?_ g1) | exact h_)) : p := k h g0 g1
theorem be3_ {q0 : Prop} {q1 : Prop} {q2 : Prop} {q p : Prop} (h : q) (g0 : q0) (g1 : q1) (g2 : q2) (k : q → q0 → q1 → q2 → p := by intro h_ g0 g1 g2; repeat (first | (with_reducible first | exact h_ | apply below_alloc | apply pw_below_drewN | apply below_drew1 | refine below_set ?_ g0 | refine below_set ?_ g1 | refine below_set ?_ g2) | exact h_)) : p := k h g0 g1 g2
theorem be4_ {q0 : Prop} {q1 : Prop} {q2 : Prop} {q3 : Prop} {q p : Prop} (h : q) (g0 : q0) (g1 : q1) (g2 : q2) (g3 : q3) (k : q → q0 → q1 → q2 → q3 → p := by intro h_ g0 g1 g2 g3; repeat (first | (with_reducible first | exact h_ | apply below_alloc | apply pw_below_drewN | apply below_drew1 | refine below_set ?_ g0 | refine below_set ?_ g1 | refine below_set ?_ g2 | refine below_set ?_ g3) | exact h_)) : p := k h g0 g1 g2 g3
theorem be5_ {q0 : Prop} {q1 : Prop} {q2 : Prop} {q3 : Prop} {q4 : Prop} {q p : Prop} (h : q) (g0 : q0) (g1 : q1) (g2 : q2) (g3 : q3) (g4 : q4) (k : q → q0 → q1 → q2 → q3 → q4 → p := by intro h_ g0 g1 g2 g3 g4; repeat (first | (with_reducible first | exact h_ | apply below_alloc | apply pw_below_drewN | apply below_drew1 | refine below_set ?_ g0 | refine below_set ?_ g1 | refine below_set ?_ g2 | refine below_set ?_ g3 | refine below_set ?_ g4) | exact h_)) : p := k h g0 g1 g2 g3 g4
theorem be6_ {q0 : Prop} {q1 : Prop} {q2 : Prop} {q3 : Prop} {q4 : Prop} {q5 : Prop} {q p : Prop} (h : q) (g0 : q0) (g1 : q1) (g2 : q2) (g3 : q3) (g4 : q4) (g5 : q5) (k : q → q0 → q1 → q2 → q3 → q4 → q5 → p := by intro h_ g0 g1 g2 g3 g4 g5; repeat (first | (with_reducible first | exact h_ | apply below_alloc | apply pw_below_drewN | apply below_drew1 | refine below_set ?_ g0 | refine below_set ?_ g1 | refine below_set ?_ g2 | refine below_set ?_ g3 | refine below_set ?_ g4 | refine below_set ?_ g5) | exact h_)) : p := k h g0 g1 g2 g3 g4 g5
theorem lp_ {p : Prop} (k : p := by (try simp only [List.map_toArray, List.map_cons, List.map_nil]); first | done | rfl | (simp only [List.length_drop, List.length_take]; rfl)) : p := k
theorem cf2_ {w : World} {g : Nat} {t : TypeId} {v0 v1 : Value} (h : w.heap[g]? = some (.cells #[v0, v1] t (0, 0))) : w.cell? ⟨g, 0, none⟩ = some v0 ∧ w.cell? ⟨g, 1, none⟩ = some v1 ∧ w.frozen? ⟨g, 0, none⟩ = false ∧ w.frozen? ⟨g, 1, none⟩ = false := ⟨(blk_cell h 0).trans rfl, (blk_cell h 1).trans rfl, blk_frozen h 0, blk_frozen h 1⟩
theorem cf4_ {w : World} {g : Nat} {t : TypeId} {v0 v1 v2 v3 : Value} (h : w.heap[g]? = some (.cells #[v0, v1, v2, v3] t (0, 0))) : w.cell? ⟨g, 0, none⟩ = some v0 ∧ w.cell? ⟨g, 1, none⟩ = some v1 ∧ w.cell? ⟨g, 2, none⟩ = some v2 ∧ w.cell? ⟨g, 3, none⟩ = some v3 ∧ w.frozen? ⟨g, 0, none⟩ = false ∧ w.frozen? ⟨g, 1, none⟩ = false ∧ w.frozen? ⟨g, 2, none⟩ = false ∧ w.frozen? ⟨g, 3, none⟩ = false := ⟨(blk_cell h 0).trans rfl, (blk_cell h 1).trans rfl, (blk_cell h 2).trans rfl, (blk_cell h 3).trans rfl, blk_frozen h 0, blk_frozen h 1, blk_frozen h 2, blk_frozen h 3⟩
theorem kb_ {q : Prop} {w w1 : World} {g : Nat} {o : Obj} (h : q) (hb : Below w.heap.size w w1) (k : q → w.heap[g]? = some o := by intro h_; (with_reducible repeat (first | refine blk_drewN ?_ _ | refine blk_drew ?_ | refine blk_alloc ?_ _)); exact h_) : w1.heap[g]? = some o := blk_below (k h) hb
theorem nl_ {q : Prop} {w : World} {g b : Nat} {o : Obj} (hg : b = w.heap.size) (h : q) (k : q → w.heap[g]? = some o := by intro h_; (with_reducible repeat (first | refine blk_drewN ?_ _ | refine blk_drew ?_ | refine blk_alloc ?_ _)); exact h_) : g ≠ b := hg ▸ Nat.ne_of_lt (blk_lt (k h))
theorem ng_ {q : Prop} {w : World} {g b : Nat} {o : Obj} (hg : b = w.heap.size) (h : q) (k : q → w.heap[g]? = some o := by intro h_; (with_reducible repeat (first | refine blk_drewN ?_ _ | refine blk_drew ?_ | refine blk_alloc ?_ _)); exact h_) : b ≠ g := hg ▸ Nat.ne_of_gt (blk_lt (k h))
theorem szg_ {a b c : Nat} (hg : b = c) (h : a ≤ c) : a ≤ b := hg ▸ h
theorem hbc_ {w W : World} {a : Addr} {v : Value} (h : Below w.heap.size w W) (x : w.cell? a = some v) : W.cell? a = some v := (h.cell (World.block_lt_of_cell? w _ x)).trans x
theorem cr_ {q p : Prop} (h : q) (k : q → p := by intro h_; repeat (first | exact h_  | (with_reducible refine Kd.C_alloc ?_ _) | (with_reducible refine Kd.C_drewN ?_ _) | (with_reducible refine Kd.C_drew ?_))) : p := k h
theorem er_ {p : Prop} (k : p := by first | rfl | (simp [errW_none, errW_some] <;> rfl) | (simp [*, errW_none, errW_some] <;> rfl)) : p := k
theorem rs_ {p : Prop} (k : p := by first | rfl | (simp; done) | (simp [*]; done)) : p := k
theorem bev_ {P : Program} {ops : Array Oper} {Q : Exit → Act → World → Prop} {rest : List Oper} {o : Oper} {a : Act} {W : World} {N : Tmp} (_hd : o.dst = some N) (hgd : o.guard = none) {cs : Array Value} {t : TypeId} (hrun : (execOp a.eval o).run P W = .ok (.value (.pointer (some ⟨W.heap.size, 0, none⟩))) (W.alloc (.cells cs t (0, 0)))) (h : ∀ g, g = W.heap.size → ∀ w1, w1.heap[g]? = some (.cells cs t (0, 0)) → Below W.heap.size W w1 → wpList P ops Q rest (a.put o.dst (.pointer (some ⟨g, 0, none⟩))) w1) : wpList P ops Q (o :: rest) a W := box_event hgd _hd hrun h
theorem kc_ {q : Prop} {w w1 : World} {g : Nat} {o : Obj} (h : Aside0 q) (hb : Below w.heap.size w w1) (k : q → w.heap[g]? = some o := by intro h_; (with_reducible repeat (first | refine blk_drewN ?_ _ | refine blk_drew ?_ | refine blk_alloc ?_ _)); exact h_) : Aside0 (w1.heap[g]? = some o) := ⟨blk_below (k h.out) hb⟩
theorem nm_ {q : Prop} {w : World} {g b : Nat} {o : Obj} (hg : b = w.heap.size) (h : Aside0 q) (k : q → w.heap[g]? = some o := by intro h_; (with_reducible repeat (first | refine blk_drewN ?_ _ | refine blk_drew ?_ | refine blk_alloc ?_ _)); exact h_) : Aside0 (g ≠ b) := ⟨hg ▸ Nat.ne_of_lt (blk_lt (k h.out))⟩
theorem nn_ {q : Prop} {w : World} {g b : Nat} {o : Obj} (hg : b = w.heap.size) (h : Aside0 q) (k : q → w.heap[g]? = some o := by intro h_; (with_reducible repeat (first | refine blk_drewN ?_ _ | refine blk_drew ?_ | refine blk_alloc ?_ _)); exact h_) : Aside0 (b ≠ g) := ⟨hg ▸ Nat.ne_of_gt (blk_lt (k h.out))⟩
theorem bf1_ {q p r0 : Prop} (h : q) (n0 : r0) (k : q → r0 → p := by intro h_ n0; repeat (first | (with_reducible first | exact h_ | refine blk_drewN ?_ _ | refine blk_drew ?_ | refine blk_alloc ?_ _ | refine blk_far ?_ n0 _) | exact h_)) : p := k h n0
theorem bf2_ {q p r0 r1 : Prop} (h : q) (n0 : r0) (n1 : r1) (k : q → r0 → r1 → p := by intro h_ n0 n1; repeat (first | (with_reducible first | exact h_ | refine blk_drewN ?_ _ | refine blk_drew ?_ | refine blk_alloc ?_ _ | refine blk_far ?_ n0 _ | refine blk_far ?_ n1 _) | exact h_)) : p := k h n0 n1
theorem hs0_ {q : Prop} {w W w2 : World} (h : Aside0 q) (hb : Below W.heap.size W w2) (k : q → Below w.heap.size w W := by intro h_; repeat (first | (with_reducible first | exact h_ | apply below_alloc | apply pw_below_drewN | apply below_drew1) | exact h_)) : Aside0 (Below w.heap.size w w2) := ⟨below_step (k h.out) hb⟩
theorem gw0_ {q : Prop} {w W : World} {b : Nat} (hg : b = W.heap.size) (h : Aside0 q) (k : q → Below w.heap.size w W := by intro h_; repeat (first | (with_reducible first | exact h_ | apply below_alloc | apply pw_below_drewN | apply below_drew1) | exact h_)) : Aside0 (w.heap.size ≤ b) := ⟨hg ▸ below_size (k h.out)⟩
theorem hs1_ {q : Prop} {q0 : Prop} {w W w2 : World} (h : Aside0 q) (g0 : Aside0 q0) (hb : Below W.heap.size W w2) (k : q → q0 → Below w.heap.size w W := by intro h_ g0; repeat (first | (with_reducible first | exact h_ | apply below_alloc | apply pw_below_drewN | apply below_drew1 | refine below_set ?_ g0) | exact h_)) : Aside0 (Below w.heap.size w w2) := ⟨below_step (k h.out g0.out) hb⟩
theorem gw1_ {q : Prop} {q0 : Prop} {w W : World} {b : Nat} (hg : b = W.heap.size) (h : Aside0 q) (g0 : Aside0 q0) (k : q → q0 → Below w.heap.size w W := by intro h_ g0; repeat (first | (with_reducible first | exact h_ | apply below_alloc | apply pw_below_drewN | apply below_drew1 | refine below_set ?_ g0) | exact h_)) : Aside0 (w.heap.size ≤ b) := ⟨hg ▸ below_size (k h.out g0.out)⟩
theorem hs2_ {q : Prop} {q0 q1 : Prop} {w W w2 : World} (h : Aside0 q) (g0 : Aside0 q0) (g1 : Aside0 q1) (hb : Below W.heap.size W w2) (k : q → q0 → q1 → Below w.heap.size w W := by intro h_ g0 g1; repeat (first | (with_reducible first | exact h_ | apply below_alloc | apply pw_below_drewN | apply below_drew1 | refine below_set ?_ g0 | refine below_set ?_ g1) | exact h_)) : Aside0 (Below w.heap.size w w2) := ⟨below_step (k h.out g0.out g1.out) hb⟩
theorem gw2_ {q : Prop} {q0 q1 : Prop} {w W : World} {b : Nat} (hg : b = W.heap.size) (h : Aside0 q) (g0 : Aside0 q0) (g1 : Aside0 q1) (k : q → q0 → q1 → Below w.heap.size w W := by intro h_ g0 g1; repeat (first | (with_reducible first | exact h_ | apply below_alloc | apply pw_below_drewN | apply below_drew1 | refine below_set ?_ g0 | refine below_set ?_ g1) | exact h_)) : Aside0 (w.heap.size ≤ b) := ⟨hg ▸ below_size (k h.out g0.out g1.out)⟩
theorem hs3_ {q : Prop} {q0 q1 q2 : Prop} {w W w2 : World} (h : Aside0 q) (g0 : Aside0 q0) (g1 : Aside0 q1) (g2 : Aside0 q2) (hb : Below W.heap.size W w2) (k : q → q0 → q1 → q2 → Below w.heap.size w W := by intro h_ g0 g1 g2; repeat (first | (with_reducible first | exact h_ | apply below_alloc | apply pw_below_drewN | apply below_drew1 | refine below_set ?_ g0 | refine below_set ?_ g1 | refine below_set ?_ g2) | exact h_)) : Aside0 (Below w.heap.size w w2) := ⟨below_step (k h.out g0.out g1.out g2.out) hb⟩
theorem gw3_ {q : Prop} {q0 q1 q2 : Prop} {w W : World} {b : Nat} (hg : b = W.heap.size) (h : Aside0 q) (g0 : Aside0 q0) (g1 : Aside0 q1) (g2 : Aside0 q2) (k : q → q0 → q1 → q2 → Below w.heap.size w W := by intro h_ g0 g1 g2; repeat (first | (with_reducible first | exact h_ | apply below_alloc | apply pw_below_drewN | apply below_drew1 | refine below_set ?_ g0 | refine below_set ?_ g1 | refine below_set ?_ g2) | exact h_)) : Aside0 (w.heap.size ≤ b) := ⟨hg ▸ below_size (k h.out g0.out g1.out g2.out)⟩
theorem hs4_ {q : Prop} {q0 q1 q2 q3 : Prop} {w W w2 : World} (h : Aside0 q) (g0 : Aside0 q0) (g1 : Aside0 q1) (g2 : Aside0 q2) (g3 : Aside0 q3) (hb : Below W.heap.size W w2) (k : q → q0 → q1 → q2 → q3 → Below w.heap.size w W := by intro h_ g0 g1 g2 g3; repeat (first | (with_reducible first | exact h_ | apply below_alloc | apply pw_below_drewN | apply below_drew1 | refine below_set ?_ g0 | refine below_set ?_ g1 | refine below_set ?_ g2 | refine below_set ?_ g3) | exact h_)) : Aside0 (Below w.heap.size w w2) := ⟨below_step (k h.out g0.out g1.out g2.out g3.out) hb⟩
theorem gw4_ {q : Prop} {q0 q1 q2 q3 : Prop} {w W : World} {b : Nat} (hg : b = W.heap.size) (h : Aside0 q) (g0 : Aside0 q0) (g1 : Aside0 q1) (g2 : Aside0 q2) (g3 : Aside0 q3) (k : q → q0 → q1 → q2 → q3 → Below w.heap.size w W := by intro h_ g0 g1 g2 g3; repeat (first | (with_reducible first | exact h_ | apply below_alloc | apply pw_below_drewN | apply below_drew1 | refine below_set ?_ g0 | refine below_set ?_ g1 | refine below_set ?_ g2 | refine below_set ?_ g3) | exact h_)) : Aside0 (w.heap.size ≤ b) := ⟨hg ▸ below_size (k h.out g0.out g1.out g2.out g3.out)⟩
theorem hs5_ {q : Prop} {q0 q1 q2 q3 q4 : Prop} {w W w2 : World} (h : Aside0 q) (g0 : Aside0 q0) (g1 : Aside0 q1) (g2 : Aside0 q2) (g3 : Aside0 q3) (g4 : Aside0 q4) (hb : Below W.heap.size W w2) (k : q → q0 → q1 → q2 → q3 → q4 → Below w.heap.size w W := by intro h_ g0 g1 g2 g3 g4; repeat (first | (with_reducible first | exact h_ | apply below_alloc | apply pw_below_drewN | apply below_drew1 | refine below_set ?_ g0 | refine below_set ?_ g1 | refine below_set ?_ g2 | refine below_set ?_ g3 | refine below_set ?_ g4) | exact h_)) : Aside0 (Below w.heap.size w w2) := ⟨below_step (k h.out g0.out g1.out g2.out g3.out g4.out) hb⟩
theorem gw5_ {q : Prop} {q0 q1 q2 q3 q4 : Prop} {w W : World} {b : Nat} (hg : b = W.heap.size) (h : Aside0 q) (g0 : Aside0 q0) (g1 : Aside0 q1) (g2 : Aside0 q2) (g3 : Aside0 q3) (g4 : Aside0 q4) (k : q → q0 → q1 → q2 → q3 → q4 → Below w.heap.size w W := by intro h_ g0 g1 g2 g3 g4; repeat (first | (with_reducible first | exact h_ | apply below_alloc | apply pw_below_drewN | apply below_drew1 | refine below_set ?_ g0 | refine below_set ?_ g1 | refine below_set ?_ g2 | refine below_set ?_ g3 | refine below_set ?_ g4) | exact h_)) : Aside0 (w.heap.size ≤ b) := ⟨hg ▸ below_size (k h.out g0.out g1.out g2.out g3.out g4.out)⟩
theorem hs6_ {q : Prop} {q0 q1 q2 q3 q4 q5 : Prop} {w W w2 : World} (h : Aside0 q) (g0 : Aside0 q0) (g1 : Aside0 q1) (g2 : Aside0 q2) (g3 : Aside0 q3) (g4 : Aside0 q4) (g5 : Aside0 q5) (hb : Below W.heap.size W w2) (k : q → q0 → q1 → q2 → q3 → q4 → q5 → Below w.heap.size w W := by intro h_ g0 g1 g2 g3 g4 g5; repeat (first | (with_reducible first | exact h_ | apply below_alloc | apply pw_below_drewN | apply below_drew1 | refine below_set ?_ g0 | refine below_set ?_ g1 | refine below_set ?_ g2 | refine below_set ?_ g3 | refine below_set ?_ g4 | refine below_set ?_ g5) | exact h_)) : Aside0 (Below w.heap.size w w2) := ⟨below_step (k h.out g0.out g1.out g2.out g3.out g4.out g5.out) hb⟩
theorem ap_ {p : Prop} (k : p := by simp only [Act.put, List.setIfInBounds_toArray, List.set_cons_zero, List.set_cons_succ, i64_w, i32_w]; rfl) : p := k
theorem bc_ {w : World} {g : Nat} {t : TypeId} {cs : Array Value} (h : Aside0 (w.heap[g]? = some (.cells cs t (0, 0)))) (i : Nat) {x : Option Value} (e : cs[i]? = x := by rfl) : w.cell? ⟨g, i, none⟩ = x := (blk_cell h.out i).trans e
theorem od_ {p : Prop} [Decidable p] (h : decide p = true := by first | (with_reducible assumption) | assumption) : p := of_decide_eq_true h
end Go.Proofs.Ytfmbpoojpnoafaa.X
end
section
namespace Go.Proofs.Ytfmbpoojpnoafaa.X
open Go.RowKit Go.Proofs.YtfmbpoojpnoafaaW.PrintWords Go.Proofs.YtfmbpoojpnoafaaW.PrintLast Go.Proofs.YtfmbpoojpnoafaaW.PrintMore
attribute [local go_sem] max2_int min2_int max_two min_two max_three min_three max_four min_four
set_option linter.unusedVariables false
set_option linter.unusedSimpArgs false
section
variable {P : Program} {ops : Array Oper} {Q : Exit → Act → World → Prop} {S : World → Prop} {ds : List Nat}
def mk (n b : Nat) : Array Bool:=((List.range n).map fun i => b.testBit i).toArray
inductive Seg where
 | p : Nat → Nat → Seg
 | t : Nat → Nat → Seg
 | u : Nat → Nat → Seg
inductive Steps (P : Program) (ops : Array Oper) (S : World → Prop) : List Seg → Act → Act → Prop
 | nil {a : Act} : Steps P ops S [] a a
 | p {i : Nat} {is : List Seg} {N : Nat} {oi : Oper} {v : Value} {a : Act} (hi : ops[i]? = some oi) (hN : oi.dst = some N) (hy : Yields P ops oi v a) {a1 a2 : Act} (ha : a.put (some N) v = a1) (hs : Steps P ops S is a1 a2) : Steps P ops S (.p i N :: is) a a2
 | u {i : Nat} {is : List Seg} {N : Nat} {oi : Oper} {a : Act} (hi : ops[i]? = some oi) (hN : oi.dst = some N) (hy : Yields P ops oi undef a) {a1 a2 : Act} (ha : a.put (some N) undef = a1) (hs : Steps P ops S is a1 a2) : Steps P ops S (.u i N :: is) a a2
 | t {i : Nat} {is : List Seg} {N : Nat} {oi : Oper} {v : Value} {a : Act} (hi : ops[i]? = some oi) (hN : oi.dst = some N) (hy : YieldsIf P ops S oi v a) {a1 a2 : Act} (ha : a.put (some N) v = a1) (hs : Steps P ops S is a1 a2) : Steps P ops S (.t i N :: is) a a2
def chk (T : Bool × List (List Nat × List Nat)) (ds : List Nat) : List Seg → List Bool → List Bool → Bool
 | [],l,l' => l == l'
 | .p i _ :: r,l,l' => anyT T l (l.set i true) i && chk T ds r (l.set i true) l'
 | .u i _ :: r,l,l' => anyT T l (l.set i true) i && chk T ds r (l.set i true) l'
 | .t i _ :: r,l,l' => takeT T ds l (l.set i true) i && chk T ds r (l.set i true) l'
def chkW (T : Bool × List (List Nat × List Nat)) (B ds : List Nat) : List Seg → List Bool → List Bool → Bool
 | [],l,l' => l == l'
 | .p i _ :: r,l,l' => anyT T l (l.set i true) i && chkW T B ds r (l.set i true) l'
 | .u i _ :: r,l,l' => anyT T l (l.set i true) i && chkW T B ds r (l.set i true) l'
 | .t i _ :: r,l,l' => takeW T B ds l (l.set i true) i && chkW T B ds r (l.set i true) l'
theorem hQput (hQ : ∀ c (a : Act) t w,Q (.panic c) { a with tmps:=t } w → Q (.panic c) a w) {N : Option Tmp} {v : Value} : ∀ c (a : Act) w,Q (.panic c) (a.put N v) w → Q (.panic c) a w:=fun c a w h => by
 cases N with
 | none => exact h
 | some d => exact hQ c a _ w h
theorem steps0_ {T : Bool × List (List Nat × List Nat)} (HT : rtab .any ops = T) (hQ : ∀ c (a : Act) t w,Q (.panic c) { a with tmps:=t } w → Q (.panic c) a w) {w : World} (hS : S w) {l' : Array Bool} {a' : Act} {fuel : Nat}
  (h : wpAnyLast P .any ops Q S ds fuel l' a' w) : ∀ {is : List Seg} {l : Array Bool} {a : Act},Steps P ops S is a a' → chk T ds is l.toList l'.toList = true → wpAnyLast P .any ops Q S ds (fuel + is.length) l a w
 | [],l,a,hst,hc => by
  cases hst
  simp only [chk,beq_iff_eq] at hc
  have e : l = l':=Array.ext' hc
  subst e
  exact h
 | .p i _ :: r,l,a,hst,hc => by
  cases hst with
  | p hi hN hy ha hs =>
  simp only [chk,Bool.and_eq_true] at hc
  refine pure_ (i:=i) (l:=l) (l.setIfInBounds i true) hi hN (any_of HT ?_) (hQput hQ) hy ha (steps0_ HT hQ hS h hs ?_)
  ·rw [Array.toList_setIfInBounds];exact hc.1
  ·rw [Array.toList_setIfInBounds];exact hc.2
 | .u i _ :: r,l,a,hst,hc => by
  cases hst with
  | u hi hN hy ha hs =>
  simp only [chk,Bool.and_eq_true] at hc
  refine pure_ (i:=i) (l:=l) (l.setIfInBounds i true) hi hN (any_of HT ?_) (hQput hQ) hy ha (steps0_ HT hQ hS h hs ?_)
  ·rw [Array.toList_setIfInBounds];exact hc.1
  ·rw [Array.toList_setIfInBounds];exact hc.2
 | .t i _ :: r,l,a,hst,hc => by
  cases hst with
  | t hi hN hy ha hs =>
  simp only [chk,Bool.and_eq_true] at hc
  refine take_ (i:=i) (l:=l) (l.setIfInBounds i true) hi hN (take_of HT ?_) (hQput hQ) hy hS ha (steps0_ HT hQ hS h hs ?_)
  ·rw [Array.toList_setIfInBounds];exact hc.1
  ·rw [Array.toList_setIfInBounds];exact hc.2
theorem stepsW_ {T : Bool × List (List Nat × List Nat)} {B : List Nat} (HT : rtab .any ops = T) (HW : waitsOk T.2 B = true) (hQ : ∀ c (a : Act) t w,Q (.panic c) { a with tmps:=t } w → Q (.panic c) a w) {w : World} (hS : S w) {l' : Array Bool} {a' : Act} {fuel : Nat}
  (h : wpAnyLast P .any ops Q S ds fuel l' a' w) : ∀ {is : List Seg} {l : Array Bool} {a : Act},Steps P ops S is a a' → chkW T B ds is l.toList l'.toList = true → wpAnyLast P .any ops Q S ds (fuel + is.length) l a w
 | [],l,a,hst,hc => by
  cases hst
  simp only [chkW,beq_iff_eq] at hc
  have e : l = l':=Array.ext' hc
  subst e
  exact h
 | .p i _ :: r,l,a,hst,hc => by
  cases hst with
  | p hi hN hy ha hs =>
  simp only [chkW,Bool.and_eq_true] at hc
  refine pure_ (i:=i) (l:=l) (l.setIfInBounds i true) hi hN (any_of HT ?_) (hQput hQ) hy ha (stepsW_ HT HW hQ hS h hs ?_)
  ·rw [Array.toList_setIfInBounds];exact hc.1
  ·rw [Array.toList_setIfInBounds];exact hc.2
 | .u i _ :: r,l,a,hst,hc => by
  cases hst with
  | u hi hN hy ha hs =>
  simp only [chkW,Bool.and_eq_true] at hc
  refine pure_ (i:=i) (l:=l) (l.setIfInBounds i true) hi hN (any_of HT ?_) (hQput hQ) hy ha (stepsW_ HT HW hQ hS h hs ?_)
  ·rw [Array.toList_setIfInBounds];exact hc.1
  ·rw [Array.toList_setIfInBounds];exact hc.2
 | .t i _ :: r,l,a,hst,hc => by
  cases hst with
  | t hi hN hy ha hs =>
  simp only [chkW,Bool.and_eq_true] at hc
  refine take_ (i:=i) (l:=l) (l.setIfInBounds i true) hi hN (take_ofW HT HW ?_) (hQput hQ) hy hS ha (stepsW_ HT HW hQ hS h hs ?_)
  ·rw [Array.toList_setIfInBounds];exact hc.1
  ·rw [Array.toList_setIfInBounds];exact hc.2
theorem st0_ {T : Bool × List (List Nat × List Nat)} (is : List Seg) (n b m : Nat) (HT : rtab .any ops = T) {w : World} (hS : S w) {a a' : Act} {fuel : Nat} {l : Array Bool} (hst : Steps P ops S is a a') (hn : is.length = n) (hc : chk T ds is l.toList (mk m b).toList = true) (hQ : ∀ c (a : Act) t w,Q (.panic c) { a with tmps:=t } w → Q (.panic c) a w)
  (h : wpAnyLast P .any ops Q S ds fuel (mk m b) a' w) : wpAnyLast P .any ops Q S ds (fuel + n) l a w:=by
 subst hn
 exact steps0_ HT hQ hS h hst hc
theorem stW_ {T : Bool × List (List Nat × List Nat)} {B : List Nat} (is : List Seg) (n b m : Nat) (HT : rtab .any ops = T) (HW : waitsOk T.2 B = true) {w : World} (hS : S w) {a a' : Act} {fuel : Nat} {l : Array Bool} (hst : Steps P ops S is a a') (hn : is.length = n) (hc : chkW T B ds is l.toList (mk m b).toList = true) (hQ : ∀ c (a : Act) t w,Q (.panic c) { a with tmps:=t } w → Q (.panic c) a w)
  (h : wpAnyLast P .any ops Q S ds fuel (mk m b) a' w) : wpAnyLast P .any ops Q S ds (fuel + n) l a w:=by
 subst hn
 exact stepsW_ HT HW hQ hS h hst hc
end
def impl_statesOk.l0 : Nat → List Int → Int → List Int → Int → Int → Option (Bool)
 | 0,_,_,_,_,_ => none
 | k + 1,x0,x1,x7,x8,x9 => if x9 < x8 then (if 0 ≤ x9 then (if x9 < (x7.length : Int) then (if (rd x7 x9) < 0 then (some false) else (if (rd x7 x9) ≥ x1 then (some false) else (if x9 > 0 then (if 0 ≤ (wrap64 (x9 - 1)) then (if (wrap64 (x9 - 1)) < (x0.length : Int) then (if (rd x0 (wrap64 (x9 - 1))) ≥ (rd x7 x9) then (some false) else (impl_statesOk.l0 k x0 x1 x7 x8 (wrap64 (x9 + 1)))) else (none)) else (none)) else (impl_statesOk.l0 k x0 x1 x7 x8 (wrap64 (x9 + 1)))))) else (none)) else (none)) else (some true)
def impl_statesOk.f (k : Nat) (l0 : List Int) (a1 : Int) : Option (Bool):=impl_statesOk.l0 k l0 a1 l0 (l0.length : Int) 0
theorem impl_statesOk.mono_l : ∀ k,(∀ y0 y1 y2 y3 y4,LeO (impl_statesOk.l0 k y0 y1 y2 y3 y4) (impl_statesOk.l0 (k + 1) y0 y1 y2 y3 y4))
 | 0 => fun _ _ _ _ _ r h => by simp [impl_statesOk.l0] at h
 | k + 1 => by
  have ih0:=impl_statesOk.mono_l k
  ·intro y0 y1 y2 y3 y4
   unfold impl_statesOk.l0
   repeat' first
   | (with_reducible exact ih0 _ _ _ _ _)
   | (with_reducible first|exact LeO.refl _|exact LeO.none _|refine LeO.ite ?_ ?_|refine LeO.bind ?_ (fun _ => ?_))
   | exact ih0 _ _ _ _ _
   | exact LeO.none _
   | refine LeO.ite ?_ ?_
   | refine LeO.bind ?_ (fun _ => ?_)
theorem impl_statesOk.mono : ∀ a0 a1 k,LeO (impl_statesOk.f k a0 a1) (impl_statesOk.f (k + 1) a0 a1):=by
 intro a0 a1 k
 have ih0:=impl_statesOk.mono_l k
 unfold impl_statesOk.f
 repeat' first
   | (with_reducible exact ih0 _ _ _ _ _)
   | (with_reducible first|exact LeO.refl _|exact LeO.none _|refine LeO.ite ?_ ?_|refine LeO.bind ?_ (fun _ => ?_))
   | exact ih0 _ _ _ _ _
   | exact LeO.none _
   | refine LeO.ite ?_ ?_
   | refine LeO.bind ?_ (fun _ => ?_)
set_option maxHeartbeats 8000000 in
set_option maxRecDepth 100000 in
theorem impl_statesOk.calls (k : Nat) (A0 : Option Addr) (c0 : Nat) (l0 : List Int) (a1 : Int) (r : Bool) (w : World) (hr0 : Kd.C (Kd.int .i64) w A0 l0.length l0) (hc0 : l0.length ≤ c0) (h : impl_statesOk.f k l0 a1 = some r) :
  Calls Try.prog 124 #[.slice A0 l0.length c0,.int .i64 a1] w fun e w' => e = .returned (.bool r) ∧ Drawn0 w w':=by
 have HR0:=Aside0.mk hr0
 have HC0:=Aside0.mk hc0
 clear hr0 hc0
 have H : (impl_statesOk.l0 k l0 a1 l0 (l0.length : Int) 0) = some r:=h
 clear h
 have H':=Aside0.mk H
 clear H
 go_enter Try.func124,Try.ntmps124
 go_wp2
 go_loopg [9] k (fun kq v9 w' => ∃ (x9_1 : Int),v9 = .int .i64 x9_1 ∧ Aside0 (impl_statesOk.l0 kq l0 a1 l0 (l0.length : Int) x9_1 = some r) ∧ Aside0 (kq ≤ k) ∧ Drawn0 w w')
 case atStart => exact ⟨(0),rs_,H',⟨Nat.le_refl _⟩,by repeat (first|exact Drawn0.refl _|apply Drawn0.step)⟩
 case round =>
  clear H'
  obtain ⟨x9_1,rfl,HA,HK1,⟨m1,rfl⟩⟩:=hrel
  cases gk with
  | zero => exact absurd HA.out (by simp [impl_statesOk.l0])
  | succ k1 =>
   have H:=HA.out
   clear HA
   simp only [impl_statesOk.l0] at H
   by_cases c3 : x9_1 < (l0.length : Int)
   ·rw [if_pos c3] at H
    have c3b0 : decide (x9_1 < (l0.length : Int)) = true:=decide_eq_true c3
    clear c3
    by_cases c4 : 0 ≤ x9_1
    ·rw [if_pos c4] at H
     have c4b0 : decide (0 ≤ x9_1) = true:=decide_eq_true c4
     clear c4
     by_cases c5 : x9_1 < (l0.length : Int)
     ·rw [if_pos c5] at H
      have c5b0 : decide (x9_1 < (l0.length : Int)) = true:=decide_eq_true c5
      clear c5
      by_cases c6 : (rd l0 x9_1) < 0
      ·rw [if_pos c6] at H
       have c6b0 : decide ((rd l0 x9_1) < 0) = true:=decide_eq_true c6
       clear c6
       obtain rfl:=Option.some.inj H
       have p183 : 0 ≤ (x9_1 : Int):=od_
       have q183 : x9_1 < (l0.length : Int):=od_
       obtain ⟨ad183,e183,hx183_0⟩:=Kd.at_int HR0.out x9_1 p183 q183
       cases e183
       replace p183:=eq_true p183
       replace q183:=eq_true q183
       go_wp2
       go_ret
       exact ⟨by first|rfl|(simp;done)|(simp [*];done),by repeat (first|exact Drawn0.refl _|apply Drawn0.step)⟩
      ·rw [if_neg c6] at H
       have c6b0 : decide ((rd l0 x9_1) < 0) = false:=decide_eq_false c6
       clear c6
       by_cases c7 : (rd l0 x9_1) ≥ a1
       ·rw [if_pos c7] at H
        have c7b0 : decide (a1 ≤ (rd l0 x9_1)) = true:=decide_eq_true c7
        clear c7
        obtain rfl:=Option.some.inj H
        have p183 : 0 ≤ (x9_1 : Int):=od_
        have q183 : x9_1 < (l0.length : Int):=od_
        obtain ⟨ad183,e183,hx183_0⟩:=Kd.at_int HR0.out x9_1 p183 q183
        cases e183
        replace p183:=eq_true p183
        replace q183:=eq_true q183
        go_wp2
        go_ret
        exact ⟨by first|rfl|(simp;done)|(simp [*];done),by repeat (first|exact Drawn0.refl _|apply Drawn0.step)⟩
       ·rw [if_neg c7] at H
        have c7b0 : decide (a1 ≤ (rd l0 x9_1)) = false:=decide_eq_false c7
        clear c7
        by_cases c8 : x9_1 > 0
        ·rw [if_pos c8] at H
         have c8b0 : decide (0 < x9_1) = true:=decide_eq_true c8
         clear c8
         obtain ⟨ji9,hji9⟩ : ∃ j_ : Int,(wrap64 (x9_1 - 1)) = j_:=⟨_,rfl⟩
         replace H : (if 0 ≤ (ji9) then (if (ji9) < (l0.length : Int) then (if (rd l0 (ji9)) ≥ (rd l0 x9_1) then (some false) else (impl_statesOk.l0 k1 l0 a1 l0 (l0.length : Int) (wrap64 (x9_1 + 1)))) else (none)) else (none)) = some r:=by first|(rw [hji9] at H;exact H)|(simp only [hji9] at H ⊢;exact H)
         have hji9w : (IntKind.i64.wrap (x9_1 - 1)) = ji9:=(i64_w _).trans hji9
         by_cases c10 : 0 ≤ (ji9)
         ·rw [if_pos c10] at H
          have c10b0 : decide (0 ≤ (ji9)) = true:=decide_eq_true c10
          clear c10
          by_cases c11 : (ji9) < (l0.length : Int)
          ·rw [if_pos c11] at H
           have c11b0 : decide ((ji9) < (l0.length : Int)) = true:=decide_eq_true c11
           clear c11
           by_cases c12 : (rd l0 (ji9)) ≥ (rd l0 x9_1)
           ·rw [if_pos c12] at H
            have c12b0 : decide ((rd l0 x9_1) ≤ (rd l0 (ji9))) = true:=decide_eq_true c12
            clear c12
            obtain rfl:=Option.some.inj H
            have p183 : 0 ≤ (x9_1 : Int):=od_
            have q183 : x9_1 < (l0.length : Int):=od_
            obtain ⟨ad183,e183,hx183_0⟩:=Kd.at_int HR0.out x9_1 p183 q183
            cases e183
            replace p183:=eq_true p183
            replace q183:=eq_true q183
            have p184 : 0 ≤ ((ji9) : Int):=od_
            have q184 : (ji9) < (l0.length : Int):=od_
            obtain ⟨ad184,e184,hx184_0⟩:=Kd.at_int HR0.out (ji9) p184 q184
            obtain rfl : ad183 = ad184:=(by injection e184)
            replace p184:=eq_true p184
            replace q184:=eq_true q184
            go_wp2
            go_ret
            exact ⟨by first|rfl|(simp;done)|(simp only [← hji9] <;> (first|rfl|simp))|(simp [*];done),by repeat (first|exact Drawn0.refl _|apply Drawn0.step)⟩
           ·rw [if_neg c12] at H
            have c12b0 : decide ((rd l0 x9_1) ≤ (rd l0 (ji9))) = false:=decide_eq_false c12
            clear c12
            have H':=Aside0.mk H
            clear H
            have p183 : 0 ≤ (x9_1 : Int):=od_
            have q183 : x9_1 < (l0.length : Int):=od_
            obtain ⟨ad183,e183,hx183_0⟩:=Kd.at_int HR0.out x9_1 p183 q183
            cases e183
            replace p183:=eq_true p183
            replace q183:=eq_true q183
            have p184 : 0 ≤ ((ji9) : Int):=od_
            have q184 : (ji9) < (l0.length : Int):=od_
            obtain ⟨ad184,e184,hx184_0⟩:=Kd.at_int HR0.out (ji9) p184 q184
            obtain rfl : ad183 = ad184:=(by injection e184)
            replace p184:=eq_true p184
            replace q184:=eq_true q184
            go_wp2
            go_roundg k1
            case measure => have:=HK1.out;omega
            case rel => exact ⟨(wrap64 (x9_1 + 1)),rs_,H',⟨by have:=HK1.out;omega⟩,by repeat (first|exact Drawn0.refl _|apply Drawn0.step)⟩
          ·rw [if_neg c11] at H
           exact absurd H (by simp)
         ·rw [if_neg c10] at H
          exact absurd H (by simp)
        ·rw [if_neg c8] at H
         have c8b0 : decide (0 < x9_1) = false:=decide_eq_false c8
         clear c8
         have H':=Aside0.mk H
         clear H
         have p183 : 0 ≤ (x9_1 : Int):=od_
         have q183 : x9_1 < (l0.length : Int):=od_
         obtain ⟨ad183,e183,hx183_0⟩:=Kd.at_int HR0.out x9_1 p183 q183
         cases e183
         replace p183:=eq_true p183
         replace q183:=eq_true q183
         go_wp2
         go_roundg k1
         case measure => have:=HK1.out;omega
         case rel => exact ⟨(wrap64 (x9_1 + 1)),rs_,H',⟨by have:=HK1.out;omega⟩,by repeat (first|exact Drawn0.refl _|apply Drawn0.step)⟩
     ·rw [if_neg c5] at H
      exact absurd H (by simp)
    ·rw [if_neg c4] at H
     exact absurd H (by simp)
   ·rw [if_neg c3] at H
    have c3b0 : decide (x9_1 < (l0.length : Int)) = false:=decide_eq_false c3
    clear c3
    obtain rfl:=Option.some.inj H
    go_wp2
    go_ret
    exact ⟨by first|rfl|(simp;done)|(simp [*];done),by repeat (first|exact Drawn0.refl _|apply Drawn0.step)⟩
def cmp_isNaN_int.f (a0 : Int) : Option (Bool):=some (a0 != a0)
set_option maxHeartbeats 8000000 in
set_option maxRecDepth 100000 in
theorem cmp_isNaN_int.calls (a0 : Int) (r : Bool) (w : World) (h : cmp_isNaN_int.f a0 = some r) :
  Calls Try.prog 179 #[.int .i64 a0] w fun e w' => e = .returned (.bool r) ∧ Drawn0 w w':=by
 have H : (some (a0 != a0)) = some r:=h
 clear h
 obtain rfl:=Option.some.inj H
 go_enter Try.func179,Try.ntmps179
 go_wp2
 go_ret
 exact ⟨by first|rfl|(simp;done)|(simp [*];done),by repeat (first|exact Drawn0.refl _|apply Drawn0.step)⟩
def cmp_Compare_int.f (a0 : Int) (a1 : Int) : Option (Int):=(cmp_isNaN_int.f a0).bind fun t186 => ((cmp_isNaN_int.f a1).bind fun t187 => (if t186 = true then (if t187 = true then (some 0) else (some (-1))) else (if t187 = true then (some 1) else (if a0 < a1 then (some (-1)) else (if a0 > a1 then (some 1) else (some 0))))))
set_option maxHeartbeats 8000000 in
set_option maxRecDepth 100000 in
theorem cmp_Compare_int.calls (a0 : Int) (a1 : Int) (r : Int) (w : World) (h : cmp_Compare_int.f a0 a1 = some r) :
  Calls Try.prog 161 #[.int .i64 a0,.int .i64 a1] w fun e w' => e = .returned (.int .i64 r) ∧ Drawn0 w w':=by
 have H : ((cmp_isNaN_int.f a0).bind fun t186 => ((cmp_isNaN_int.f a1).bind fun t187 => (if t186 = true then (if t187 = true then (some 0) else (some (-1))) else (if t187 = true then (some 1) else (if a0 < a1 then (some (-1)) else (if a0 > a1 then (some 1) else (some 0))))))) = some r:=h
 clear h
 replace H:=Option.bind_eq_some_iff.mp H
 obtain ⟨t186,A30,H⟩:=H
 replace H : ((cmp_isNaN_int.f a1).bind fun t187 => (if t186 = true then (if t187 = true then (some 0) else (some (-1))) else (if t187 = true then (some 1) else (if a0 < a1 then (some (-1)) else (if a0 > a1 then (some 1) else (some 0)))))) = some r:=H
 have A3:=Aside0.mk A30
 clear A30
 replace H:=Option.bind_eq_some_iff.mp H
 obtain ⟨t187,A40,H⟩:=H
 replace H : (if t186 = true then (if t187 = true then (some 0) else (some (-1))) else (if t187 = true then (some 1) else (if a0 < a1 then (some (-1)) else (if a0 > a1 then (some 1) else (some 0))))) = some r:=H
 have A4:=Aside0.mk A40
 clear A40
 by_cases c5 : t186 = true
 ·subst c5
  have H1 : (if t187 = true then (some 0) else (some (-1))) = some r:=by rw [if_pos rfl] at H;exact H
  clear H
  have H:=H1
  clear H1
  by_cases c6 : t187 = true
  ·subst c6
   have H1 : (some 0) = some r:=by rw [if_pos rfl] at H;exact H
   clear H
   have H:=H1
   clear H1
   obtain rfl:=Option.some.inj H
   go_enter Try.func161,Try.ntmps161
   go_wp2_with (first|((with_reducible refine gate_callee (f:=179) rfl ?_);refine goesL_ (some 8) rfl rfl Try.func179 (by kernel_rfl) rfl #[.int .i64 a0] rfl lp_ ?_;(with_reducible refine (cmp_isNaN_int.calls a0 true _ A3.out).mono ?_);rintro e w' ⟨rfl,⟨nd,rfl⟩⟩;refine ⟨_,rfl,?_⟩)|((with_reducible refine gate_callee (f:=179) rfl ?_);refine goesL_ (some 10) rfl rfl Try.func179 (by kernel_rfl) rfl #[.int .i64 a1] rfl lp_ ?_;(with_reducible refine (cmp_isNaN_int.calls a1 true _ A4.out).mono ?_);rintro e w' ⟨rfl,⟨nd,rfl⟩⟩;refine ⟨_,rfl,?_⟩))
   go_ret
   exact ⟨by first|rfl|(simp;done)|(simp [*];done),by repeat (first|exact Drawn0.refl _|apply Drawn0.step)⟩
  ·replace c6:=Bool.eq_false_iff.mpr c6
   subst c6
   have H1 : (some (-1)) = some r:=by rw [if_neg (show ¬ (false = true) by decide)] at H;exact H
   clear H
   have H:=H1
   clear H1
   obtain rfl:=Option.some.inj H
   go_enter Try.func161,Try.ntmps161
   go_wp2_with (first|((with_reducible refine gate_callee (f:=179) rfl ?_);refine goesL_ (some 8) rfl rfl Try.func179 (by kernel_rfl) rfl #[.int .i64 a0] rfl lp_ ?_;(with_reducible refine (cmp_isNaN_int.calls a0 true _ A3.out).mono ?_);rintro e w' ⟨rfl,⟨nd,rfl⟩⟩;refine ⟨_,rfl,?_⟩)|((with_reducible refine gate_callee (f:=179) rfl ?_);refine goesL_ (some 10) rfl rfl Try.func179 (by kernel_rfl) rfl #[.int .i64 a1] rfl lp_ ?_;(with_reducible refine (cmp_isNaN_int.calls a1 false _ A4.out).mono ?_);rintro e w' ⟨rfl,⟨nd,rfl⟩⟩;refine ⟨_,rfl,?_⟩))
   go_ret
   exact ⟨by first|rfl|(simp;done)|(simp [*];done),by repeat (first|exact Drawn0.refl _|apply Drawn0.step)⟩
 ·replace c5:=Bool.eq_false_iff.mpr c5
  subst c5
  have H1 : (if t187 = true then (some 1) else (if a0 < a1 then (some (-1)) else (if a0 > a1 then (some 1) else (some 0)))) = some r:=by rw [if_neg (show ¬ (false = true) by decide)] at H;exact H
  clear H
  have H:=H1
  clear H1
  by_cases c7 : t187 = true
  ·subst c7
   have H1 : (some 1) = some r:=by rw [if_pos rfl] at H;exact H
   clear H
   have H:=H1
   clear H1
   obtain rfl:=Option.some.inj H
   go_enter Try.func161,Try.ntmps161
   go_wp2_with (first|((with_reducible refine gate_callee (f:=179) rfl ?_);refine goesL_ (some 8) rfl rfl Try.func179 (by kernel_rfl) rfl #[.int .i64 a0] rfl lp_ ?_;(with_reducible refine (cmp_isNaN_int.calls a0 false _ A3.out).mono ?_);rintro e w' ⟨rfl,⟨nd,rfl⟩⟩;refine ⟨_,rfl,?_⟩)|((with_reducible refine gate_callee (f:=179) rfl ?_);refine goesL_ (some 10) rfl rfl Try.func179 (by kernel_rfl) rfl #[.int .i64 a1] rfl lp_ ?_;(with_reducible refine (cmp_isNaN_int.calls a1 true _ A4.out).mono ?_);rintro e w' ⟨rfl,⟨nd,rfl⟩⟩;refine ⟨_,rfl,?_⟩))
   go_ret
   exact ⟨by first|rfl|(simp;done)|(simp [*];done),by repeat (first|exact Drawn0.refl _|apply Drawn0.step)⟩
  ·replace c7:=Bool.eq_false_iff.mpr c7
   subst c7
   have H1 : (if a0 < a1 then (some (-1)) else (if a0 > a1 then (some 1) else (some 0))) = some r:=by rw [if_neg (show ¬ (false = true) by decide)] at H;exact H
   clear H
   have H:=H1
   clear H1
   by_cases c8 : a0 < a1
   ·rw [if_pos c8] at H
    have c8b0 : decide (a0 < a1) = true:=decide_eq_true c8
    clear c8
    obtain rfl:=Option.some.inj H
    go_enter Try.func161,Try.ntmps161
    go_wp2_with (first|((with_reducible refine gate_callee (f:=179) rfl ?_);refine goesL_ (some 8) rfl rfl Try.func179 (by kernel_rfl) rfl #[.int .i64 a0] rfl lp_ ?_;(with_reducible refine (cmp_isNaN_int.calls a0 false _ A3.out).mono ?_);rintro e w' ⟨rfl,⟨nd,rfl⟩⟩;refine ⟨_,rfl,?_⟩)|((with_reducible refine gate_callee (f:=179) rfl ?_);refine goesL_ (some 10) rfl rfl Try.func179 (by kernel_rfl) rfl #[.int .i64 a1] rfl lp_ ?_;(with_reducible refine (cmp_isNaN_int.calls a1 false _ A4.out).mono ?_);rintro e w' ⟨rfl,⟨nd,rfl⟩⟩;refine ⟨_,rfl,?_⟩))
    go_ret
    exact ⟨by first|rfl|(simp;done)|(simp [*];done),by repeat (first|exact Drawn0.refl _|apply Drawn0.step)⟩
   ·rw [if_neg c8] at H
    have c8b0 : decide (a0 < a1) = false:=decide_eq_false c8
    clear c8
    by_cases c9 : a0 > a1
    ·rw [if_pos c9] at H
     have c9b0 : decide (a1 < a0) = true:=decide_eq_true c9
     clear c9
     obtain rfl:=Option.some.inj H
     go_enter Try.func161,Try.ntmps161
     go_wp2_with (first|((with_reducible refine gate_callee (f:=179) rfl ?_);refine goesL_ (some 8) rfl rfl Try.func179 (by kernel_rfl) rfl #[.int .i64 a0] rfl lp_ ?_;(with_reducible refine (cmp_isNaN_int.calls a0 false _ A3.out).mono ?_);rintro e w' ⟨rfl,⟨nd,rfl⟩⟩;refine ⟨_,rfl,?_⟩)|((with_reducible refine gate_callee (f:=179) rfl ?_);refine goesL_ (some 10) rfl rfl Try.func179 (by kernel_rfl) rfl #[.int .i64 a1] rfl lp_ ?_;(with_reducible refine (cmp_isNaN_int.calls a1 false _ A4.out).mono ?_);rintro e w' ⟨rfl,⟨nd,rfl⟩⟩;refine ⟨_,rfl,?_⟩))
     go_ret
     exact ⟨by first|rfl|(simp;done)|(simp [*];done),by repeat (first|exact Drawn0.refl _|apply Drawn0.step)⟩
    ·rw [if_neg c9] at H
     have c9b0 : decide (a1 < a0) = false:=decide_eq_false c9
     clear c9
     obtain rfl:=Option.some.inj H
     go_enter Try.func161,Try.ntmps161
     go_wp2_with (first|((with_reducible refine gate_callee (f:=179) rfl ?_);refine goesL_ (some 8) rfl rfl Try.func179 (by kernel_rfl) rfl #[.int .i64 a0] rfl lp_ ?_;(with_reducible refine (cmp_isNaN_int.calls a0 false _ A3.out).mono ?_);rintro e w' ⟨rfl,⟨nd,rfl⟩⟩;refine ⟨_,rfl,?_⟩)|((with_reducible refine gate_callee (f:=179) rfl ?_);refine goesL_ (some 10) rfl rfl Try.func179 (by kernel_rfl) rfl #[.int .i64 a1] rfl lp_ ?_;(with_reducible refine (cmp_isNaN_int.calls a1 false _ A4.out).mono ?_);rintro e w' ⟨rfl,⟨nd,rfl⟩⟩;refine ⟨_,rfl,?_⟩))
     go_ret
     exact ⟨by first|rfl|(simp;done)|(simp [*];done),by repeat (first|exact Drawn0.refl _|apply Drawn0.step)⟩
def cmp_Or_int.l0 : Nat → Int → List Int → Int → Int → Option (Int)
 | 0,_,_,_,_ => none
 | k + 1,x3,x6,x7,x8 => if x8 < x7 then (if 0 ≤ x8 then (if x8 < (x6.length : Int) then (if (rd x6 x8) = x3 then (cmp_Or_int.l0 k x3 x6 x7 (wrap64 (x8 + 1))) else (some (rd x6 x8))) else (none)) else (none)) else (some x3)
def cmp_Or_int.f (k : Nat) (l0 : List Int) : Option (Int):=cmp_Or_int.l0 k 0 l0 (l0.length : Int) 0
theorem cmp_Or_int.mono_l : ∀ k,(∀ y0 y1 y2 y3,LeO (cmp_Or_int.l0 k y0 y1 y2 y3) (cmp_Or_int.l0 (k + 1) y0 y1 y2 y3))
 | 0 => fun _ _ _ _ r h => by simp [cmp_Or_int.l0] at h
 | k + 1 => by
  have ih0:=cmp_Or_int.mono_l k
  ·intro y0 y1 y2 y3
   unfold cmp_Or_int.l0
   repeat' first
   | (with_reducible exact ih0 _ _ _ _)
   | (with_reducible first|exact LeO.refl _|exact LeO.none _|refine LeO.ite ?_ ?_|refine LeO.bind ?_ (fun _ => ?_))
   | exact ih0 _ _ _ _
   | exact LeO.none _
   | refine LeO.ite ?_ ?_
   | refine LeO.bind ?_ (fun _ => ?_)
theorem cmp_Or_int.mono : ∀ a0 k,LeO (cmp_Or_int.f k a0) (cmp_Or_int.f (k + 1) a0):=by
 intro a0 k
 have ih0:=cmp_Or_int.mono_l k
 unfold cmp_Or_int.f
 repeat' first
   | (with_reducible exact ih0 _ _ _ _)
   | (with_reducible first|exact LeO.refl _|exact LeO.none _|refine LeO.ite ?_ ?_|refine LeO.bind ?_ (fun _ => ?_))
   | exact ih0 _ _ _ _
   | exact LeO.none _
   | refine LeO.ite ?_ ?_
   | refine LeO.bind ?_ (fun _ => ?_)
set_option maxHeartbeats 8000000 in
set_option maxRecDepth 100000 in
theorem cmp_Or_int.calls (k : Nat) (A0 : Option Addr) (c0 : Nat) (l0 : List Int) (r : Int) (w : World) (hr0 : Kd.C (Kd.int .i64) w A0 l0.length l0) (hc0 : l0.length ≤ c0) (h : cmp_Or_int.f k l0 = some r) :
  Calls Try.prog 160 #[.slice A0 l0.length c0] w fun e w' => e = .returned (.int .i64 r) ∧ Drawn0 w w':=by
 have HR0:=Aside0.mk hr0
 have HC0:=Aside0.mk hc0
 clear hr0 hc0
 have H : (cmp_Or_int.l0 k 0 l0 (l0.length : Int) 0) = some r:=h
 clear h
 have H':=Aside0.mk H
 clear H
 go_enter Try.func160,Try.ntmps160
 go_wp2
 go_loopg [8] k (fun kq v8 w' => ∃ (x8_1 : Int),v8 = .int .i64 x8_1 ∧ Aside0 (cmp_Or_int.l0 kq 0 l0 (l0.length : Int) x8_1 = some r) ∧ Aside0 (kq ≤ k) ∧ Drawn0 w w')
 case atStart => exact ⟨(0),rs_,H',⟨Nat.le_refl _⟩,by repeat (first|exact Drawn0.refl _|apply Drawn0.step)⟩
 case round =>
  clear H'
  obtain ⟨x8_1,rfl,HA,HK1,⟨m1,rfl⟩⟩:=hrel
  cases gk with
  | zero => exact absurd HA.out (by simp [cmp_Or_int.l0])
  | succ k1 =>
   have H:=HA.out
   clear HA
   simp only [cmp_Or_int.l0] at H
   by_cases c2 : x8_1 < (l0.length : Int)
   ·rw [if_pos c2] at H
    have c2b0 : decide (x8_1 < (l0.length : Int)) = true:=decide_eq_true c2
    clear c2
    by_cases c3 : 0 ≤ x8_1
    ·rw [if_pos c3] at H
     have c3b0 : decide (0 ≤ x8_1) = true:=decide_eq_true c3
     clear c3
     by_cases c4 : x8_1 < (l0.length : Int)
     ·rw [if_pos c4] at H
      have c4b0 : decide (x8_1 < (l0.length : Int)) = true:=decide_eq_true c4
      clear c4
      by_cases c5 : (rd l0 x8_1) = 0
      ·rw [if_pos c5] at H
       have c5b0 : ((rd l0 x8_1) == 0) = true:=beq_iff_eq.mpr c5
       have c5b1 : ((rd l0 x8_1) != 0) = false:=bne_eq_false_iff_eq.mpr c5
       clear c5
       have H':=Aside0.mk H
       clear H
       have p185 : 0 ≤ (x8_1 : Int):=od_
       have q185 : x8_1 < (l0.length : Int):=od_
       obtain ⟨ad185,e185,hx185_0⟩:=Kd.at_int HR0.out x8_1 p185 q185
       cases e185
       replace p185:=eq_true p185
       replace q185:=eq_true q185
       go_wp2
       go_roundg k1
       case measure => have:=HK1.out;omega
       case rel => exact ⟨(wrap64 (x8_1 + 1)),rs_,H',⟨by have:=HK1.out;omega⟩,by repeat (first|exact Drawn0.refl _|apply Drawn0.step)⟩
      ·rw [if_neg c5] at H
       have c5b0 : ((rd l0 x8_1) == 0) = false:=beq_eq_false_iff_ne.mpr c5
       have c5b1 : ((rd l0 x8_1) != 0) = true:=bne_iff_ne.mpr c5
       obtain rfl:=Option.some.inj H
       have p185 : 0 ≤ (x8_1 : Int):=od_
       have q185 : x8_1 < (l0.length : Int):=od_
       obtain ⟨ad185,e185,hx185_0⟩:=Kd.at_int HR0.out x8_1 p185 q185
       cases e185
       replace p185:=eq_true p185
       replace q185:=eq_true q185
       go_wp2
       go_ret
       exact ⟨by first|rfl|(simp;done)|(simp [*];done),by repeat (first|exact Drawn0.refl _|apply Drawn0.step)⟩
     ·rw [if_neg c4] at H
      exact absurd H (by simp)
    ·rw [if_neg c3] at H
     exact absurd H (by simp)
   ·rw [if_neg c2] at H
    have c2b0 : decide (x8_1 < (l0.length : Int)) = false:=decide_eq_false c2
    clear c2
    obtain rfl:=Option.some.inj H
    go_wp2
    go_ret
    exact ⟨by first|rfl|(simp;done)|(simp [*];done),by repeat (first|exact Drawn0.refl _|apply Drawn0.step)⟩
def bytealg_CompareString.f (a0 : ByteArray) (a1 : ByteArray) : Option (Int):=some (Lib.compareBytes a0.data.toList a1.data.toList)
set_option maxRecDepth 100000 in
set_option maxHeartbeats 8000000 in
theorem bytealg_CompareString.calls (a0 : ByteArray) (a1 : ByteArray) (r : Int) (w : World) (h : bytealg_CompareString.f a0 a1 = some r) :
  Calls Try.prog 180 #[.string a0,.string a1] w fun e w' => e = .returned (.int .i64 r) ∧ Drawn0 w w':=by
 obtain rfl:=Option.some.inj h
 go_enter Try.func180,Try.ntmps180
 go_wp2
 rw [run_callFunc_extern Try.func189 (by kernel_rfl) (by kernel_rfl) (by kernel_rfl) (e:=Extern.BytealgCompare.compare) (by kernel_rfl),Lib.run_compareString]
 simp only [Result.andThen]
 rw [Oper.upon_value]
 go_wp2
 go_ret
 exact ⟨rfl,Drawn0.refl _⟩
def strings_Compare.f (a0 : ByteArray) (a1 : ByteArray) : Option (Int):=(bytealg_CompareString.f a0 a1).bind fun t188 => (some t188)
set_option maxHeartbeats 8000000 in
set_option maxRecDepth 100000 in
theorem strings_Compare.calls (a0 : ByteArray) (a1 : ByteArray) (r : Int) (w : World) (h : strings_Compare.f a0 a1 = some r) :
  Calls Try.prog 162 #[.string a0,.string a1] w fun e w' => e = .returned (.int .i64 r) ∧ Drawn0 w w':=by
 have H : ((bytealg_CompareString.f a0 a1).bind fun t188 => (some t188)) = some r:=h
 clear h
 replace H:=Option.bind_eq_some_iff.mp H
 obtain ⟨t188,A30,H⟩:=H
 replace H : (some t188) = some r:=H
 have A3:=Aside0.mk A30
 clear A30
 obtain rfl:=Option.some.inj H
 go_enter Try.func162,Try.ntmps162
 go_wp2_with (first|((with_reducible refine gate_callee (f:=180) rfl ?_);refine goesL_ (some 7) rfl rfl Try.func180 (by kernel_rfl) rfl #[.string a0,.string a1] rfl lp_ ?_;(with_reducible refine (bytealg_CompareString.calls a0 a1 t188 _ A3.out).mono ?_);rintro e w' ⟨rfl,⟨nd,rfl⟩⟩;refine ⟨_,rfl,?_⟩))
 go_ret
 exact ⟨by first|rfl|(simp;done)|(simp [*];done),by repeat (first|exact Drawn0.refl _|apply Drawn0.step)⟩
def impl_stepOrder.f (k : Nat) (a0_0 : Int) (a0_1 : ByteArray) (a0_2 : Int) (a0_3 : Int) (a1_0 : Int) (a1_1 : ByteArray) (a1_2 : Int) (a1_3 : Int) : Option (Int):=(cmp_Compare_int.f a0_0 a1_0).bind fun t191 => ((strings_Compare.f a0_1 a1_1).bind fun t192 => ((cmp_Compare_int.f a0_2 a1_2).bind fun t193 => ((cmp_Or_int.f k (([t191,t192,t193] : List Int))).bind fun t197 => (some t197))))
theorem impl_stepOrder.mono : ∀ a0 a1 a2 a3 a4 a5 a6 a7 k,LeO (impl_stepOrder.f k a0 a1 a2 a3 a4 a5 a6 a7) (impl_stepOrder.f (k + 1) a0 a1 a2 a3 a4 a5 a6 a7):=by
 intro a0 a1 a2 a3 a4 a5 a6 a7 k
 unfold impl_stepOrder.f
 repeat' first
   | (with_reducible exact cmp_Or_int.mono _ _)
   | (with_reducible first|exact LeO.refl _|exact LeO.none _|refine LeO.ite ?_ ?_|refine LeO.bind ?_ (fun _ => ?_))
   | exact cmp_Or_int.mono _ _
   | exact LeO.none _
   | refine LeO.ite ?_ ?_
   | refine LeO.bind ?_ (fun _ => ?_)
def impl_stepOrder.T1 : Bool × List (List Nat × List Nat):=(true,[([],[]),([0],[0]),([],[]),([2],[2]),([1,3],[1,3]),([],[]),([5],[5]),([],[]),([7],[7]),([6,8,4],[6,8]),([],[]),([10],[10]),([],[]),([12],[12]),([11,13,9],[11,13]),([4,9,14],[4,9,14]),([15,14],[15]),([16,16,0,1,2,3,4,5,6,7,8,9,10,11,12,13,14,15,16],[16])])
def impl_stepOrder.B1 : List Nat:=[0,1,0,4,15,0,32,0,128,511,0,1024,0,4096,16383,32767,65535,131071]
theorem impl_stepOrder.tab1 : rtab .any (opsOf Try.f125 1) = impl_stepOrder.T1:=by kernel_rfl
theorem impl_stepOrder.bits1 : waitsOk impl_stepOrder.T1.2 impl_stepOrder.B1 = true:=by kernel_rfl
set_option maxHeartbeats 8000000 in
set_option maxRecDepth 100000 in
theorem impl_stepOrder.calls (k : Nat) (a0_0 : Int) (a0_1 : ByteArray) (a0_2 : Int) (a0_3 : Int) (a1_0 : Int) (a1_1 : ByteArray) (a1_2 : Int) (a1_3 : Int) (r : Int) (w : World) (h : impl_stepOrder.f k a0_0 a0_1 a0_2 a0_3 a1_0 a1_1 a1_2 a1_3 = some r) :
  Calls Try.prog 125 #[.agg #[.int .i64 a0_0,.string a0_1,.int .i64 a0_2,.int .i64 a0_3],.agg #[.int .i64 a1_0,.string a1_1,.int .i64 a1_2,.int .i64 a1_3]] w fun e w' => e = .returned (.int .i64 r) ∧ Below w.heap.size w w':=by
 have hu92:=Try.underlying92
 have HB:=Aside0.mk (Below.refl w.heap.size w)
 have H : ((cmp_Compare_int.f a0_0 a1_0).bind fun t191 => ((strings_Compare.f a0_1 a1_1).bind fun t192 => ((cmp_Compare_int.f a0_2 a1_2).bind fun t193 => ((cmp_Or_int.f k (([t191,t192,t193] : List Int))).bind fun t197 => (some t197))))) = some r:=h
 clear h
 replace H:=Option.bind_eq_some_iff.mp H
 obtain ⟨t191,A30,H⟩:=H
 replace H : ((strings_Compare.f a0_1 a1_1).bind fun t192 => ((cmp_Compare_int.f a0_2 a1_2).bind fun t193 => ((cmp_Or_int.f k (([t191,t192,t193] : List Int))).bind fun t197 => (some t197)))) = some r:=H
 have A3:=Aside0.mk A30
 clear A30
 replace H:=Option.bind_eq_some_iff.mp H
 obtain ⟨t192,A40,H⟩:=H
 replace H : ((cmp_Compare_int.f a0_2 a1_2).bind fun t193 => ((cmp_Or_int.f k (([t191,t192,t193] : List Int))).bind fun t197 => (some t197))) = some r:=H
 have A4:=Aside0.mk A40
 clear A40
 replace H:=Option.bind_eq_some_iff.mp H
 obtain ⟨t193,A50,H⟩:=H
 replace H : ((cmp_Or_int.f k (([t191,t192,t193] : List Int))).bind fun t197 => (some t197)) = some r:=H
 have A5:=Aside0.mk A50
 clear A50
 obtain ⟨y194,hy194⟩ : ∃ y_ : List Int,y_ = (([t191,t192,t193] : List Int)):=⟨_,rfl⟩
 replace H : ((cmp_Or_int.f k y194).bind fun t197 => (some t197)) = some r:=by first|(rw [hy194];with_reducible exact H)|(have H2_:=(Option.bind_some _ _).symm.trans H;rw [hy194];with_reducible exact H2_)|(have H2_:=(Option.bind_some _ _).symm.trans H;with_reducible exact H2_)|with_reducible exact H|(rw [hy194];exact H)|exact H
 have Ny194:=Aside0.mk hy194
 clear hy194
 replace H:=Option.bind_eq_some_iff.mp H
 obtain ⟨t197,A60,H⟩:=H
 replace H : (some t197) = some r:=H
 have A6:=Aside0.mk A60
 clear A60
 obtain rfl:=Option.some.inj H
 go_enter Try.func125,Try.ntmps125
 try go_wp2_with (first|((with_reducible refine bev_ (N:=2) rfl rfl (cs:=#[.int .i64 a0_0,.string a0_1,.int .i64 a0_2,.int .i64 a0_3]) (t:=92) ?hr ?_);(case hr => first|(go_simp;done)|(go_simp;rfl));intro gb189 hg w7 hbox hb;have BK189:=Aside0.mk (hbox);have GW189:=gw0_ hg HB;have GE189:=GW189;replace HB:=hs0_ HB hb;clear hb hbox hg)|((with_reducible refine bev_ (N:=3) rfl rfl (cs:=#[.int .i64 a1_0,.string a1_1,.int .i64 a1_2,.int .i64 a1_3]) (t:=92) ?hr ?_);(case hr => first|(go_simp;done)|(go_simp;rfl));intro gb190 hg w8 hbox hb;have BK190:=Aside0.mk (hbox);have GW190:=gw1_ hg HB GE189;have GE190:=GW190;replace HB:=hs1_ HB GE189 hb;have NB189_190:=nm_ hg BK189;have NB190_189:=nn_ hg BK189;replace BK189:=kc_ BK189 hb;clear hb hbox hg))
 replace BK189:=Aside0.mk (blk_drew BK189.out)
 replace BK190:=Aside0.mk (blk_drew BK190.out)
 replace HB:=Aside0.mk (below_drew1 HB.out)
 refine start_ (n:=18) (S:=fun w' => w'.cell? ⟨gb189,0,none⟩ = some (.int .i64 a0_0) ∧ w'.cell? ⟨gb189,1,none⟩ = some (.string a0_1) ∧ w'.cell? ⟨gb189,2,none⟩ = some (.int .i64 a0_2) ∧ w'.cell? ⟨gb189,3,none⟩ = some (.int .i64 a0_3) ∧ w'.cell? ⟨gb190,0,none⟩ = some (.int .i64 a1_0) ∧ w'.cell? ⟨gb190,1,none⟩ = some (.string a1_1) ∧ w'.cell? ⟨gb190,2,none⟩ = some (.int .i64 a1_2) ∧ w'.cell? ⟨gb190,3,none⟩ = some (.int .i64 a1_3)) (ds:=[]) #[false,false,false,false,false,false,false,false,false,false,false,false,false,false,false,false,false,false] (by kernel_rfl) rfl rfl ⟨bc_ BK189 0,bc_ BK189 1,bc_ BK189 2,bc_ BK189 3,bc_ BK190 0,bc_ BK190 1,bc_ BK190 2,bc_ BK190 3⟩ (fun hHeld => ?_);refine with_tabW impl_stepOrder.tab1 impl_stepOrder.bits1 (fun HT_ HW_ => ?_)
 generalize w8.drew = w9 at BK189 BK190 HB hHeld ⊢
 refine stW_ [.p 0 5,.p 2 7,.p 5 10,.p 7 12,.p 10 15,.p 12 17,.t 1 6,.t 3 8,.t 6 11,.t 8 13,.t 11 16,.t 13 18] 12 15855 18 HT_.out HW_.out hHeld (a':=?_) ?_ rfl (by kernel_rfl) (fun _ _ _ _ h => h) ?_
 rotate_left
 ·repeat (first|exact Steps.nil|(refine Steps.p (oi:=?_) (v:=?_) (a1:=?_) ?_ ?_ ?_ ?_ ?_;rotate_left 2;rfl;rfl;(refine Or.inl ⟨by rfl,?_⟩;intro w';go_simp;with_reducible rfl);rotate_left;exact ap_)|(refine Steps.t (oi:=?_) (v:=?_) (a1:=?_) ?_ ?_ ?_ ?_ ?_;rotate_left 2;rfl;rfl;(refine Or.inl ⟨by rfl,?_⟩;rintro w' ⟨s0,s1,s2,s3,s4,s5,s6,s7⟩;go_simp;with_reducible rfl);rotate_left;exact ap_))
 refine one_ (i:=4) (N:=some 9) #[true,true,true,true,true,true,true,true,true,false,true,true,true,true,false,false,false,false] rfl rfl (one_of HT_.out (by kernel_rfl)) (by decide) (fun K hK => ?_)
 refine goes_ Try.func161 (by kernel_rfl) rfl #[.int .i64 a0_0,.int .i64 a1_0] (by rfl) rfl rfl lp_ ?_
 with_reducible refine (cmp_Compare_int.calls a0_0 a1_0 t191 _ A3.out).mono ?_
 rintro e w' ⟨rfl,⟨nd,rfl⟩⟩
 refine ⟨_,rfl,?_⟩
 refine hK.out _ _ ⟨bc_ BK189 0,bc_ BK189 1,bc_ BK189 2,bc_ BK189 3,bc_ BK190 0,bc_ BK190 1,bc_ BK190 2,bc_ BK190 3⟩ (fun hHeld => ?_)
 clear hK K
 refine norm_ (a':=?_) ?_ ?_
 rotate_left
 ·show Act.put _ (some 9) _ = _
  simp only [Act.put,List.setIfInBounds_toArray,List.set_cons_zero,List.set_cons_succ,i64_w,i32_w]
  rfl
 refine one_ (i:=9) (N:=some 14) #[true,true,true,true,true,true,true,true,true,true,true,true,true,true,false,false,false,false] rfl rfl (one_of HT_.out (by kernel_rfl)) (by decide) (fun K hK => ?_)
 refine goes_ Try.func162 (by kernel_rfl) rfl #[.string a0_1,.string a1_1] (by rfl) rfl rfl lp_ ?_
 with_reducible refine (strings_Compare.calls a0_1 a1_1 t192 _ A4.out).mono ?_
 rintro e w' ⟨rfl,⟨nd,rfl⟩⟩
 refine ⟨_,rfl,?_⟩
 refine hK.out _ _ ⟨bc_ BK189 0,bc_ BK189 1,bc_ BK189 2,bc_ BK189 3,bc_ BK190 0,bc_ BK190 1,bc_ BK190 2,bc_ BK190 3⟩ (fun hHeld => ?_)
 clear hK K
 refine norm_ (a':=?_) ?_ ?_
 rotate_left
 ·show Act.put _ (some 14) _ = _
  simp only [Act.put,List.setIfInBounds_toArray,List.set_cons_zero,List.set_cons_succ,i64_w,i32_w]
  rfl
 refine one_ (i:=14) (N:=some 19) #[true,true,true,true,true,true,true,true,true,true,true,true,true,true,true,false,false,false] rfl rfl (one_of HT_.out (by kernel_rfl)) (by decide) (fun K hK => ?_)
 refine goes_ Try.func161 (by kernel_rfl) rfl #[.int .i64 a0_2,.int .i64 a1_2] (by rfl) rfl rfl lp_ ?_
 with_reducible refine (cmp_Compare_int.calls a0_2 a1_2 t193 _ A5.out).mono ?_
 rintro e w' ⟨rfl,⟨nd,rfl⟩⟩
 refine ⟨_,rfl,?_⟩
 refine hK.out _ _ ⟨bc_ BK189 0,bc_ BK189 1,bc_ BK189 2,bc_ BK189 3,bc_ BK190 0,bc_ BK190 1,bc_ BK190 2,bc_ BK190 3⟩ (fun hHeld => ?_)
 clear hK K
 refine norm_ (a':=?_) ?_ ?_
 rotate_left
 ·show Act.put _ (some 19) _ = _
  simp only [Act.put,List.setIfInBounds_toArray,List.set_cons_zero,List.set_cons_succ,i64_w,i32_w]
  rfl
 refine one_ (i:=15) (N:=some 20) #[true,true,true,true,true,true,true,true,true,true,true,true,true,true,true,true,false,false] rfl rfl (one_of HT_.out (by kernel_rfl)) (by decide) (fun K hK => ?_)
 refine Kd.R_lit_step (Kd.int .i64) _ 3 ?hg (N:=20) ?hd (xs:=([t191,t192,t193] : List Int)) (inner:=[.int .i64 t191,.int .i64 t192,.int .i64 t193]) (ok:=fun _ => True) (okp:=fun _ => True) ?hr ?hp (fun _ hk => hk) trivial (Below.refl _ _) (Nat.le_refl _) (by simp) ?_;(case hd => rfl);(case hg => rfl);(case hr => first|(go_simp;done)|(go_simp;rfl));(case hp => exact (Reps.one (show Kd.M (Kd.int .i64) _ _ _ t191 [.int .i64 t191] from rfl) (Reps.one (show Kd.M (Kd.int .i64) _ _ _ t192 [.int .i64 t192] from rfl) (Reps.one (show Kd.M (Kd.int .i64) _ _ _ t193 [.int .i64 t193] from rfl) (Reps.none _ _)))))
 intro v195 w10 ho11 hb hg_ hnew_
 clear hg_ hnew_
 (first|rw [← Ny194.out] at ho11|(simp only [Int.reduceToNat] at ho11;rw [← Ny194.out] at ho11))
 have HO196:=Aside0.mk (Kd.R_lower ho11 (below_size (be2_ HB.out GE189.out GE190.out)))
 replace BK189:=kc_ BK189 hb
 replace BK190:=kc_ BK190 hb
 replace HB:=hs2_ HB GE189 GE190 hb
 clear hb ho11
 obtain ⟨Ao12,co12,eo12⟩:=Kd.R_slice HO196.out
 (first|subst eo12|(injection eo12 with f1_ f2_ f3_;have f4_:=f1_.symm;have f5_:=f3_.symm;clear f1_ f2_ f3_;subst f4_;subst f5_))
 refine hK.out _ _ ⟨bc_ BK189 0,bc_ BK189 1,bc_ BK189 2,bc_ BK189 3,bc_ BK190 0,bc_ BK190 1,bc_ BK190 2,bc_ BK190 3⟩ (fun hHeld => ?_)
 clear hK K
 refine norm_ (a':=?_) ?_ ?_
 rotate_left
 ·show Act.put _ (some 20) _ = _
  simp only [Act.put,List.setIfInBounds_toArray,List.set_cons_zero,List.set_cons_succ,i64_w,i32_w]
  rfl
 refine one_ (i:=16) (N:=some 21) #[true,true,true,true,true,true,true,true,true,true,true,true,true,true,true,true,true,false] rfl rfl (one_of HT_.out (by kernel_rfl)) (by decide) (fun K hK => ?_)
 refine goes_ Try.func160 (by kernel_rfl) rfl #[.slice Ao12 y194.length co12] (by rfl) rfl rfl lp_ ?_
 with_reducible refine (cmp_Or_int.calls k _ _ y194 t197 _ ?side1 ?side2 A6.out).mono ?_
 (case side1 => exact cr_ (Kd.R_reads' HO196.out).2.2)
 (case side2 => exact (Kd.R_reads' HO196.out).2.1)
 rintro e w' ⟨rfl,⟨nd,rfl⟩⟩
 refine ⟨_,rfl,?_⟩
 refine hK.out _ _ ⟨bc_ BK189 0,bc_ BK189 1,bc_ BK189 2,bc_ BK189 3,bc_ BK190 0,bc_ BK190 1,bc_ BK190 2,bc_ BK190 3⟩ (fun hHeld => ?_)
 clear hK K
 refine norm_ (a':=?_) ?_ ?_
 rotate_left
 ·show Act.put _ (some 21) _ = _
  simp only [Act.put,List.setIfInBounds_toArray,List.set_cons_zero,List.set_cons_succ,i64_w,i32_w]
  rfl
 refine pure_ (i:=17) (N:=some 4) (v:=?_) (a':=?_) #[true,true,true,true,true,true,true,true,true,true,true,true,true,true,true,true,true,true] rfl rfl (any_of HT_.out (by kernel_rfl)) (fun _ _ _ h => h) (Or.inl ⟨by rfl,?_⟩) ?_ ?_
 rotate_left
 ·intro w'
  go_simp
  with_reducible rfl
 rotate_left
 ·simp only [Act.put,List.setIfInBounds_toArray,List.set_cons_zero,List.set_cons_succ,i64_w,i32_w]
  rfl
 refine done_ (done_of HT_.out (by kernel_rfl)) ?_
 try go_wp2
 go_ret
 exact ⟨er_,be2_ HB.out GE189.out GE190.out⟩
mutual
def impl_AutomatonValid.j0 : Nat → Bool → Int → List Int → List Int → List (S92) → Option (Bool)
 | 0,_,_,_,_,_ => none
 | k + 1,x34,x199000,x199001,x199002,x199003 => if x34 = true then (some false) else (impl_AutomatonValid.l0 k x199003 (x199003.length : Int) 0 x199000 x199001 x199002 x199003)
def impl_AutomatonValid.l0 : Nat → List (S92) → Int → Int → Int → List Int → List Int → List (S92) → Option (Bool)
 | 0,_,_,_,_,_,_,_ => none
 | k + 1,x36,x37,x38,x199000,x199001,x199002,x199003 => if x38 < x37 then (if 0 ≤ x38 then (if x38 < (x36.length : Int) then (if ((rd_T92 x36 x38).f0) < 0 then (some false) else (if ((rd_T92 x36 x38).f0) ≥ x199000 then (some false) else (if ((rd_T92 x36 x38).f2) < 0 then (some false) else (if ((rd_T92 x36 x38).f2) ≥ x199000 then (some false) else (if ((rd_T92 x36 x38).f1).toList = ([97] : List UInt8) then (if ((rd_T92 x36 x38).f3) < 0 then (some false) else (if ((rd_T92 x36 x38).f3) > 3 then (some false) else (if x38 > 0 then (if 0 ≤ (wrap64 (x38 - 1)) then (if (wrap64 (x38 - 1)) < (x199003.length : Int) then ((impl_stepOrder.f k ((rd_T92 x199003 (wrap64 (x38 - 1))).f0) ((rd_T92 x199003 (wrap64 (x38 - 1))).f1) ((rd_T92 x199003 (wrap64 (x38 - 1))).f2) ((rd_T92 x199003 (wrap64 (x38 - 1))).f3) ((rd_T92 x36 x38).f0) ((rd_T92 x36 x38).f1) ((rd_T92 x36 x38).f2) ((rd_T92 x36 x38).f3)).bind fun t204 => (if t204 ≥ 0 then (some false) else (impl_AutomatonValid.l0 k x36 x37 (wrap64 (x38 + 1)) x199000 x199001 x199002 x199003))) else (none)) else (none)) else (impl_AutomatonValid.l0 k x36 x37 (wrap64 (x38 + 1)) x199000 x199001 x199002 x199003)))) else (if ((rd_T92 x36 x38).f1).toList = ([98] : List UInt8) then (if ((rd_T92 x36 x38).f3) < 0 then (some false) else (if ((rd_T92 x36 x38).f3) > 3 then (some false) else (if x38 > 0 then (if 0 ≤ (wrap64 (x38 - 1)) then (if (wrap64 (x38 - 1)) < (x199003.length : Int) then ((impl_stepOrder.f k ((rd_T92 x199003 (wrap64 (x38 - 1))).f0) ((rd_T92 x199003 (wrap64 (x38 - 1))).f1) ((rd_T92 x199003 (wrap64 (x38 - 1))).f2) ((rd_T92 x199003 (wrap64 (x38 - 1))).f3) ((rd_T92 x36 x38).f0) ((rd_T92 x36 x38).f1) ((rd_T92 x36 x38).f2) ((rd_T92 x36 x38).f3)).bind fun t206 => (if t206 ≥ 0 then (some false) else (impl_AutomatonValid.l0 k x36 x37 (wrap64 (x38 + 1)) x199000 x199001 x199002 x199003))) else (none)) else (none)) else (impl_AutomatonValid.l0 k x36 x37 (wrap64 (x38 + 1)) x199000 x199001 x199002 x199003)))) else (some false))))))) else (none)) else (none)) else (some true)
end
def impl_AutomatonValid.f (k : Nat) (a0_0 : Int) (l0_1 : List Int) (l0_2 : List Int) (l0_3 : List (S92)) : Option (Bool):=if a0_0 < 1 then (impl_AutomatonValid.j0 k true a0_0 l0_1 l0_2 l0_3) else (if a0_0 > 4 then (impl_AutomatonValid.j0 k true a0_0 l0_1 l0_2 l0_3) else (if (l0_3.length : Int) > 24 then (impl_AutomatonValid.j0 k true a0_0 l0_1 l0_2 l0_3) else ((impl_statesOk.f k l0_1 a0_0).bind fun t199 => (if t199 = true then ((impl_statesOk.f k l0_2 a0_0).bind fun t200 => (impl_AutomatonValid.j0 k (!t200) a0_0 l0_1 l0_2 l0_3)) else (impl_AutomatonValid.j0 k true a0_0 l0_1 l0_2 l0_3)))))
theorem impl_AutomatonValid.mono_l : ∀ k,(∀ y0 y1 y2 y3 y4,LeO (impl_AutomatonValid.j0 k y0 y1 y2 y3 y4) (impl_AutomatonValid.j0 (k + 1) y0 y1 y2 y3 y4)) ∧ (∀ y0 y1 y2 y3 y4 y5 y6,LeO (impl_AutomatonValid.l0 k y0 y1 y2 y3 y4 y5 y6) (impl_AutomatonValid.l0 (k + 1) y0 y1 y2 y3 y4 y5 y6))
 | 0 => ⟨fun _ _ _ _ _ r h => by simp [impl_AutomatonValid.j0] at h,fun _ _ _ _ _ _ _ r h => by simp [impl_AutomatonValid.l0] at h⟩
 | k + 1 => by
  obtain ⟨ih0,ih1⟩:=impl_AutomatonValid.mono_l k
  refine ⟨?_,?_⟩
  ·intro y0 y1 y2 y3 y4
   unfold impl_AutomatonValid.j0
   repeat' first
   | (with_reducible exact ih0 _ _ _ _ _)
   | (with_reducible exact ih1 _ _ _ _ _ _ _)
   | (with_reducible exact impl_statesOk.mono _ _ _)
   | (with_reducible exact impl_stepOrder.mono _ _ _ _ _ _ _ _ _)
   | (with_reducible first|exact LeO.refl _|exact LeO.none _|refine LeO.ite ?_ ?_|refine LeO.bind ?_ (fun _ => ?_))
   | exact ih0 _ _ _ _ _
   | exact ih1 _ _ _ _ _ _ _
   | exact impl_statesOk.mono _ _ _
   | exact impl_stepOrder.mono _ _ _ _ _ _ _ _ _
   | exact LeO.none _
   | refine LeO.ite ?_ ?_
   | refine LeO.bind ?_ (fun _ => ?_)
  ·intro y0 y1 y2 y3 y4 y5 y6
   unfold impl_AutomatonValid.l0
   repeat' first
   | (with_reducible exact ih0 _ _ _ _ _)
   | (with_reducible exact ih1 _ _ _ _ _ _ _)
   | (with_reducible exact impl_statesOk.mono _ _ _)
   | (with_reducible exact impl_stepOrder.mono _ _ _ _ _ _ _ _ _)
   | (with_reducible first|exact LeO.refl _|exact LeO.none _|refine LeO.ite ?_ ?_|refine LeO.bind ?_ (fun _ => ?_))
   | exact ih0 _ _ _ _ _
   | exact ih1 _ _ _ _ _ _ _
   | exact impl_statesOk.mono _ _ _
   | exact impl_stepOrder.mono _ _ _ _ _ _ _ _ _
   | exact LeO.none _
   | refine LeO.ite ?_ ?_
   | refine LeO.bind ?_ (fun _ => ?_)
theorem impl_AutomatonValid.mono : ∀ a0 a1 a2 a3 k,LeO (impl_AutomatonValid.f k a0 a1 a2 a3) (impl_AutomatonValid.f (k + 1) a0 a1 a2 a3):=by
 intro a0 a1 a2 a3 k
 obtain ⟨ih0,ih1⟩:=impl_AutomatonValid.mono_l k
 unfold impl_AutomatonValid.f
 repeat' first
   | (with_reducible exact ih0 _ _ _ _ _)
   | (with_reducible exact ih1 _ _ _ _ _ _ _)
   | (with_reducible exact impl_statesOk.mono _ _ _)
   | (with_reducible exact impl_stepOrder.mono _ _ _ _ _ _ _ _ _)
   | (with_reducible first|exact LeO.refl _|exact LeO.none _|refine LeO.ite ?_ ?_|refine LeO.bind ?_ (fun _ => ?_))
   | exact ih0 _ _ _ _ _
   | exact ih1 _ _ _ _ _ _ _
   | exact impl_statesOk.mono _ _ _
   | exact impl_stepOrder.mono _ _ _ _ _ _ _ _ _
   | exact LeO.none _
   | refine LeO.ite ?_ ?_
   | refine LeO.bind ?_ (fun _ => ?_)
def impl_AutomatonValid.T6 : Bool × List (List Nat × List Nat):=(true,[([],[]),([0],[0]),([1],[1]),([2],[2]),([3],[3]),([4,3],[3,4]),([3],[3]),([6,3],[3,6]),([5,7,3],[3,5,7]),([3,8],[3,8]),([9,3],[9]),([10],[10]),([11,10],[10,11]),([12,10],[10,12]),([10,13],[10,13]),([14,10],[14]),([15],[15]),([16,15],[15,16]),([15],[15]),([18,15],[15,18]),([17,19,15],[15,17,19]),([15,20],[15,20]),([21,15],[21]),([22],[22]),([23,22],[22,23]),([24,22],[22,24]),([25,22,22],[22,25]),([26],[26]),([27,26],[26,27]),([28,26],[26,28]),([26,29,22],[22,26,29]),([22,30],[22,30]),([31,26],[31]),([32],[32]),([33,32],[32,33]),([34,32],[32,34]),([32,35],[32,35]),([36,32],[36]),([37],[37]),([38,37],[37,38]),([39,37],[37,39]),([37,40],[37,40]),([41,37],[41]),([42],[42]),([43,42],[42,43]),([44,42,42],[42,44]),([45],[45]),([46,45],[45,46]),([45],[45]),([48,45],[45,48]),([47,49,45],[45,47,49]),([50,45],[45,50]),([45],[45]),([51,52,45,45],[45,51,52]),([53,45],[45,53]),([45,54,42],[42,45,54]),([42,55],[42,55])])
def impl_AutomatonValid.B6 : List Nat:=[0,1,3,7,15,31,15,79,255,511,1023,2047,4095,8191,16383,32767,65535,131071,65535,327679,1048575,2097151,4194303,8388607,16777215,33554431,67108863,134217727,268435455,536870911,1073741823,2147483647,4294967295,8589934591,17179869183,34359738367,68719476735,137438953471,274877906943,549755813887,1099511627775,2199023255551,4398046511103,8796093022207,17592186044415,35184372088831,70368744177663,140737488355327,70368744177663,351843720888319,1125899906842623,2251799813685247,70368744177663,9007199254740991,18014398509481983,36028797018963967,72057594037927935]
theorem impl_AutomatonValid.tab6 : rtab .any (opsOf Try.f72 6) = impl_AutomatonValid.T6:=by kernel_rfl
theorem impl_AutomatonValid.bits6 : waitsOk impl_AutomatonValid.T6.2 impl_AutomatonValid.B6 = true:=by kernel_rfl
set_option maxHeartbeats 8000000 in
set_option maxRecDepth 100000 in
theorem impl_AutomatonValid.calls (k : Nat) (a0_0 : Int) (A0_1 : Option Addr) (c0_1 : Nat) (l0_1 : List Int) (A0_2 : Option Addr) (c0_2 : Nat) (l0_2 : List Int) (A0_3 : Option Addr) (c0_3 : Nat) (l0_3 : List (S92)) (r : Bool) (w : World) (hr0_1 : Kd.C (Kd.int .i64) w A0_1 l0_1.length l0_1) (hc0_1 : l0_1.length ≤ c0_1) (hr0_2 : Kd.C (Kd.int .i64) w A0_2 l0_2.length l0_2) (hc0_2 : l0_2.length ≤ c0_2) (hr0_3 : Kd.C k92 w A0_3 l0_3.length l0_3) (hc0_3 : l0_3.length ≤ c0_3) (h : impl_AutomatonValid.f k a0_0 l0_1 l0_2 l0_3 = some r) :
  Calls Try.prog 72 #[.agg #[.int .i64 a0_0,.slice A0_1 l0_1.length c0_1,.slice A0_2 l0_2.length c0_2,.slice A0_3 l0_3.length c0_3]] w fun e w' => e = .returned (.bool r) ∧ Below w.heap.size w w':=by
 have hu33:=Try.underlying33
 have hu92:=Try.underlying92
 have HR0_1:=Aside0.mk hr0_1
 have HC0_1:=Aside0.mk hc0_1
 clear hr0_1 hc0_1
 have HR0_2:=Aside0.mk hr0_2
 have HC0_2:=Aside0.mk hc0_2
 clear hr0_2 hc0_2
 have HR0_3:=Aside0.mk hr0_3
 have HC0_3:=Aside0.mk hc0_3
 clear hr0_3 hc0_3
 have HB:=Aside0.mk (Below.refl w.heap.size w)
 have H : (if a0_0 < 1 then (impl_AutomatonValid.j0 k true a0_0 l0_1 l0_2 l0_3) else (if a0_0 > 4 then (impl_AutomatonValid.j0 k true a0_0 l0_1 l0_2 l0_3) else (if (l0_3.length : Int) > 24 then (impl_AutomatonValid.j0 k true a0_0 l0_1 l0_2 l0_3) else ((impl_statesOk.f k l0_1 a0_0).bind fun t199 => (if t199 = true then ((impl_statesOk.f k l0_2 a0_0).bind fun t200 => (impl_AutomatonValid.j0 k (!t200) a0_0 l0_1 l0_2 l0_3)) else (impl_AutomatonValid.j0 k true a0_0 l0_1 l0_2 l0_3)))))) = some r:=h
 clear h
 have HC2:=Aside0.mk H
 clear H
 go_enter Try.func72,Try.ntmps72
 go_upto_region 1 with (first|((with_reducible refine gate_dst (N:=1) rfl ?_);(try (refine gate_guard (by rfl) ?_;dsimp only));refine box_event ?hg (N:=1) ?hd (cs:=#[.int .i64 a0_0,.slice A0_1 l0_1.length c0_1,.slice A0_2 l0_2.length c0_2,.slice A0_3 l0_3.length c0_3]) (t:=33) ?hr ?_;(case hd => rfl);(case hg => rfl);(case hr => first|(go_simp;done)|(go_simp;rfl));intro gb198 hg w3 hbox hb;have BK198:=Aside0.mk (hbox);have GW198:=gw0_ hg HB;have GE198:=GW198;replace HB:=hs0_ HB hb;clear hb hbox hg))
 (try simp only [Act.put,List.setIfInBounds_toArray,List.set_cons_zero,List.set_cons_succ])
 go_cut [34] (fun v34 wc => ∃ (kq : Nat) (x34_1 : Bool),v34 = .bool x34_1 ∧ Aside0 (impl_AutomatonValid.j0 kq x34_1 a0_0 l0_1 l0_2 l0_3 = some r) ∧ Aside0 (kq ≤ k) ∧ Aside0 (wc.heap[gb198]? = some (.cells #[.int .i64 a0_0,(.slice A0_1 l0_1.length c0_1),(.slice A0_2 l0_2.length c0_2),(.slice A0_3 l0_3.length c0_3)] 33 (0,0))) ∧ Aside0 (Below w.heap.size w wc))
 case first =>
  have H:=HC2.out
  clear HC2
  by_cases c4 : a0_0 < 1
  ·rw [if_pos c4] at H
   have c4b0 : decide (a0_0 < 1) = true:=decide_eq_true c4
   clear c4
   (first|rw [c4b0]|(simp only [i64_w,i32_w];rw [c4b0])|skip)
   have H':=Aside0.mk H
   clear H
   obtain ⟨hcz5_0,hcz5_1,hcz5_2,hcz5_3,hfz5_0,hfz5_1,hfz5_2,hfz5_3⟩:=cf4_ BK198.out
   go_wp2
   go_meet
   case rel => exact ⟨_,(true),rs_,H',⟨by first|omega|exact Nat.le_refl _⟩,⟨pe_ BK198.out⟩,⟨be1_ HB.out GE198.out⟩⟩
  ·rw [if_neg c4] at H
   have c4b0 : decide (a0_0 < 1) = false:=decide_eq_false c4
   clear c4
   (first|rw [c4b0]|(simp only [i64_w,i32_w];rw [c4b0])|skip)
   by_cases c6 : a0_0 > 4
   ·rw [if_pos c6] at H
    have c6b0 : decide (4 < a0_0) = true:=decide_eq_true c6
    clear c6
    have H':=Aside0.mk H
    clear H
    obtain ⟨hcz7_0,hcz7_1,hcz7_2,hcz7_3,hfz7_0,hfz7_1,hfz7_2,hfz7_3⟩:=cf4_ BK198.out
    go_wp2
    go_meet
    case rel => exact ⟨_,(true),rs_,H',⟨by first|omega|exact Nat.le_refl _⟩,⟨pe_ BK198.out⟩,⟨be1_ HB.out GE198.out⟩⟩
   ·rw [if_neg c6] at H
    have c6b0 : decide (4 < a0_0) = false:=decide_eq_false c6
    clear c6
    by_cases c8 : (l0_3.length : Int) > 24
    ·rw [if_pos c8] at H
     have c8b0 : decide (24 < (l0_3.length : Int)) = true:=decide_eq_true c8
     have c8b1 : decide (24 < l0_3.length) = true:=decide_eq_true (by omega)
     clear c8
     have H':=Aside0.mk H
     clear H
     obtain ⟨hcz9_0,hcz9_1,hcz9_2,hcz9_3,hfz9_0,hfz9_1,hfz9_2,hfz9_3⟩:=cf4_ BK198.out
     go_wp2
     go_meet
     case rel => exact ⟨_,(true),rs_,H',⟨by first|omega|exact Nat.le_refl _⟩,⟨pe_ BK198.out⟩,⟨be1_ HB.out GE198.out⟩⟩
    ·rw [if_neg c8] at H
     have c8b0 : decide (24 < (l0_3.length : Int)) = false:=decide_eq_false c8
     have c8b1 : decide (24 < l0_3.length) = false:=decide_eq_false (by omega)
     clear c8
     replace H:=Option.bind_eq_some_iff.mp H
     obtain ⟨t199,A100,H⟩:=H
     replace H : (if t199 = true then ((impl_statesOk.f k l0_2 a0_0).bind fun t200 => (impl_AutomatonValid.j0 k (!t200) a0_0 l0_1 l0_2 l0_3)) else (impl_AutomatonValid.j0 k true a0_0 l0_1 l0_2 l0_3)) = some r:=H
     have A10:=Aside0.mk A100
     clear A100
     by_cases c11 : t199 = true
     ·subst c11
      have H1 : ((impl_statesOk.f k l0_2 a0_0).bind fun t200 => (impl_AutomatonValid.j0 k (!t200) a0_0 l0_1 l0_2 l0_3)) = some r:=by rw [if_pos rfl] at H;exact H
      clear H
      have H:=H1
      clear H1
      replace H:=Option.bind_eq_some_iff.mp H
      obtain ⟨t200,A120,H⟩:=H
      replace H : (impl_AutomatonValid.j0 k (!t200) a0_0 l0_1 l0_2 l0_3) = some r:=H
      have A12:=Aside0.mk A120
      clear A120
      have H':=Aside0.mk H
      clear H
      obtain ⟨hcz13_0,hcz13_1,hcz13_2,hcz13_3,hfz13_0,hfz13_1,hfz13_2,hfz13_3⟩:=cf4_ BK198.out
      go_wp2_with (first|(go_at_call 124;(with_reducible refine (impl_statesOk.calls k _ _ l0_1 a0_0 true _ ?side1 ?side2 A10.out).mono ?_);(case side1 => exact cr_ (Kd.C_below HR0_1.out HB.out));(case side2 => exact HC0_1.out);rintro e w' ⟨rfl,⟨nd,rfl⟩⟩)|(go_at_call 124;(with_reducible refine (impl_statesOk.calls k _ _ l0_2 a0_0 t200 _ ?side1 ?side2 A12.out).mono ?_);(case side1 => exact cr_ (Kd.C_below HR0_2.out (be1_ HB.out GE198.out)));(case side2 => exact HC0_2.out);rintro e w' ⟨rfl,⟨nd,rfl⟩⟩))
      go_meet
      case rel => exact ⟨_,(!t200),rs_,H',⟨by first|omega|exact Nat.le_refl _⟩,⟨pe_ BK198.out⟩,⟨be1_ HB.out GE198.out⟩⟩
     ·replace c11:=Bool.eq_false_iff.mpr c11
      subst c11
      have H1 : (impl_AutomatonValid.j0 k true a0_0 l0_1 l0_2 l0_3) = some r:=by rw [if_neg (show ¬ (false = true) by decide)] at H;exact H
      clear H
      have H:=H1
      clear H1
      have H':=Aside0.mk H
      clear H
      obtain ⟨hcz14_0,hcz14_1,hcz14_2,hcz14_3,hfz14_0,hfz14_1,hfz14_2,hfz14_3⟩:=cf4_ BK198.out
      go_wp2_with (first|(go_at_call 124;(with_reducible refine (impl_statesOk.calls k _ _ l0_1 a0_0 false _ ?side1 ?side2 A10.out).mono ?_);(case side1 => exact cr_ (Kd.C_below HR0_1.out HB.out));(case side2 => exact HC0_1.out);rintro e w' ⟨rfl,⟨nd,rfl⟩⟩))
      go_meet
      case rel => exact ⟨_,(true),rs_,H',⟨by first|omega|exact Nat.le_refl _⟩,⟨pe_ BK198.out⟩,⟨be1_ HB.out GE198.out⟩⟩
 case rest =>
  clear HC2
  obtain ⟨kq,x34_1,rfl,HA,HJ1,BK198,HB⟩:=hcut
  cases kq with
  | zero => exact absurd HA.out (by simp [impl_AutomatonValid.j0])
  | succ kj1 =>
   have H:=HA.out
   clear HA
   simp only [impl_AutomatonValid.j0] at H
   by_cases c15 : x34_1 = true
   ·subst c15
    have H1 : (some false) = some r:=by rw [if_pos rfl] at H;exact H
    clear H
    have H:=H1
    clear H1
    obtain rfl:=Option.some.inj H
    go_wp2
    go_ret
    exact ⟨er_,be1_ HB.out GE198.out⟩
   ·replace c15:=Bool.eq_false_iff.mpr c15
    subst c15
    have H1 : (impl_AutomatonValid.l0 kj1 l0_3 (l0_3.length : Int) 0 a0_0 l0_1 l0_2 l0_3) = some r:=by rw [if_neg (show ¬ (false = true) by decide)] at H;exact H
    clear H
    have H:=H1
    clear H1
    have H':=Aside0.mk H
    clear H
    obtain ⟨hcz16_0,hcz16_1,hcz16_2,hcz16_3,hfz16_0,hfz16_1,hfz16_2,hfz16_3⟩:=cf4_ BK198.out
    go_wp2
    go_loopg [38] kj1 (fun kq v38 w' => ∃ (x38_2 : Int),v38 = .int .i64 x38_2 ∧ Aside0 (impl_AutomatonValid.l0 kq l0_3 (l0_3.length : Int) x38_2 a0_0 l0_1 l0_2 l0_3 = some r) ∧ Aside0 (kq ≤ kj1) ∧ Aside0 (w'.heap[gb198]? = some (.cells #[.int .i64 a0_0,(.slice A0_1 l0_1.length c0_1),(.slice A0_2 l0_2.length c0_2),(.slice A0_3 l0_3.length c0_3)] 33 (0,0))) ∧ Aside0 (Below w.heap.size w w'))
    case atStart => exact ⟨(0),rs_,H',⟨Nat.le_refl _⟩,⟨pe_ BK198.out⟩,⟨be1_ HB.out GE198.out⟩⟩
    case round =>
     clear H'
     obtain ⟨x38_2,rfl,HA,HK2,BK198,HB⟩:=hrel
     cases gk with
     | zero => exact absurd HA.out (by simp [impl_AutomatonValid.l0])
     | succ k2 =>
      have H:=HA.out
      clear HA
      simp only [impl_AutomatonValid.l0] at H
      by_cases c17 : x38_2 < (l0_3.length : Int)
      ·rw [if_pos c17] at H
       have c17b0 : decide (x38_2 < (l0_3.length : Int)) = true:=decide_eq_true c17
       clear c17
       by_cases c18 : 0 ≤ x38_2
       ·rw [if_pos c18] at H
        have c18b0 : decide (0 ≤ x38_2) = true:=decide_eq_true c18
        clear c18
        by_cases c19 : x38_2 < (l0_3.length : Int)
        ·rw [if_pos c19] at H
         have c19b0 : decide (x38_2 < (l0_3.length : Int)) = true:=decide_eq_true c19
         clear c19
         have HH_:=Aside0.mk H
         clear H
         have p201 : 0 ≤ (x38_2 : Int):=od_
         have q201 : x38_2 < (l0_3.length : Int):=od_
         obtain ⟨ad201,e201,hx201_0,hx201_1,hx201_2,hx201_3⟩:=at_T92 HR0_3.out x38_2 p201 q201
         cases e201
         replace hx201_0:=hbc_ HB.out hx201_0
         replace hx201_1:=hbc_ HB.out hx201_1
         replace hx201_2:=hbc_ HB.out hx201_2
         replace hx201_3:=hbc_ HB.out hx201_3
         replace p201:=eq_true p201
         replace q201:=eq_true q201
         try go_wp2_with (first|((with_reducible refine gate_dst (N:=4) rfl ?_);(try (refine gate_guard (by rfl) ?_;dsimp only));refine box_event ?hg (N:=4) ?hd (cs:=#[.int .i64 0,.string (⟨#[]⟩ : ByteArray),.int .i64 0,.int .i64 0]) (t:=92) ?hr ?_;(case hd => rfl);(case hg => rfl);(case hr => first|(go_simp;done)|(go_simp;rfl));intro gb202 hg w21 hbox hb;have BK202:=Aside0.mk (hbox);have GW202:=gw1_ hg HB GE198;have GE202:=GW202;replace HB:=hs1_ HB GE198 hb;have NB198_202:=nm_ hg BK198;have NB202_198:=nn_ hg BK198;replace BK198:=kc_ BK198 hb;clear hb hbox hg;have hnb22:=NB202_198.out;have hnc22:=NB198_202.out;obtain ⟨hcz23_0,hcz23_1,hcz23_2,hcz23_3,hfz23_0,hfz23_1,hfz23_2,hfz23_3⟩:=cf4_ BK202.out))
         have n0_ : Aside0 (((((w21.setCell ⟨gb202,0,none⟩ (.int .i64 ((rd_T92 l0_3 x38_2).f0))).setCell ⟨gb202,1,none⟩ (.string ((rd_T92 l0_3 x38_2).f1))).setCell ⟨gb202,2,none⟩ (.int .i64 ((rd_T92 l0_3 x38_2).f2))).setCell ⟨gb202,3,none⟩ (.int .i64 ((rd_T92 l0_3 x38_2).f3))).heap[gb198]? = some (.cells #[.int .i64 a0_0,.slice A0_1 l0_1.length c0_1,.slice A0_2 l0_2.length c0_2,.slice (some ad201) l0_3.length c0_3] 33 (0,0))):=⟨bf1_ BK198.out NB198_202.out⟩
         have n1_ : Aside0 (((((w21.setCell ⟨gb202,0,none⟩ (.int .i64 ((rd_T92 l0_3 x38_2).f0))).setCell ⟨gb202,1,none⟩ (.string ((rd_T92 l0_3 x38_2).f1))).setCell ⟨gb202,2,none⟩ (.int .i64 ((rd_T92 l0_3 x38_2).f2))).setCell ⟨gb202,3,none⟩ (.int .i64 ((rd_T92 l0_3 x38_2).f3))).heap[gb202]? = some (.cells #[.int .i64 ((rd_T92 l0_3 x38_2).f0),.string ((rd_T92 l0_3 x38_2).f1),.int .i64 ((rd_T92 l0_3 x38_2).f2),.int .i64 ((rd_T92 l0_3 x38_2).f3)] 92 (0,0))):=⟨by refine pe_ ?_;refine blk_put (cs:=#[.int .i64 ((rd_T92 l0_3 x38_2).f0),.string ((rd_T92 l0_3 x38_2).f1),.int .i64 ((rd_T92 l0_3 x38_2).f2),.int .i64 0]) ?_ 3 _ rfl;refine pe_ ?_;refine blk_put (cs:=#[.int .i64 ((rd_T92 l0_3 x38_2).f0),.string ((rd_T92 l0_3 x38_2).f1),.int .i64 0,.int .i64 0]) ?_ 2 _ rfl;refine pe_ ?_;refine blk_put (cs:=#[.int .i64 ((rd_T92 l0_3 x38_2).f0),.string (⟨#[]⟩ : ByteArray),.int .i64 0,.int .i64 0]) ?_ 1 _ rfl;refine pe_ ?_;refine blk_put (cs:=#[.int .i64 0,.string (⟨#[]⟩ : ByteArray),.int .i64 0,.int .i64 0]) ?_ 0 _ rfl;refine pe_ ?_;exact BK202.out⟩
         have n2_ : Aside0 (Below w.heap.size w ((((w21.setCell ⟨gb202,0,none⟩ (.int .i64 ((rd_T92 l0_3 x38_2).f0))).setCell ⟨gb202,1,none⟩ (.string ((rd_T92 l0_3 x38_2).f1))).setCell ⟨gb202,2,none⟩ (.int .i64 ((rd_T92 l0_3 x38_2).f2))).setCell ⟨gb202,3,none⟩ (.int .i64 ((rd_T92 l0_3 x38_2).f3)))):=⟨be2_ HB.out GE198.out GE202.out⟩
         (try clear BK198)
         (try clear BK202)
         (try clear HB)
         generalize ((((w21.setCell ⟨gb202,0,none⟩ (.int .i64 ((rd_T92 l0_3 x38_2).f0))).setCell ⟨gb202,1,none⟩ (.string ((rd_T92 l0_3 x38_2).f1))).setCell ⟨gb202,2,none⟩ (.int .i64 ((rd_T92 l0_3 x38_2).f2))).setCell ⟨gb202,3,none⟩ (.int .i64 ((rd_T92 l0_3 x38_2).f3))) = w24 at n0_ n1_ n2_ ⊢
         have BK198:=n0_
         have BK202:=n1_
         have HB:=n2_
         clear n0_ n1_ n2_
         replace BK198:=Aside0.mk (blk_drew BK198.out)
         replace BK202:=Aside0.mk (blk_drew BK202.out)
         replace HB:=Aside0.mk (below_drew1 HB.out)
         have H:=HH_.out
         clear HH_
         by_cases c20 : ((rd_T92 l0_3 x38_2).f0) < 0
         ·rw [if_pos c20] at H
          have c20b0 : decide (((rd_T92 l0_3 x38_2).f0) < 0) = true:=decide_eq_true c20
          clear c20
          obtain rfl:=Option.some.inj H
          refine start_ (n:=57) (S:=fun w' => w'.cell? ⟨gb202,0,none⟩ = some (.int .i64 ((rd_T92 l0_3 x38_2).f0)) ∧ w'.cell? ⟨gb202,1,none⟩ = some (.string ((rd_T92 l0_3 x38_2).f1)) ∧ w'.cell? ⟨gb202,2,none⟩ = some (.int .i64 ((rd_T92 l0_3 x38_2).f2)) ∧ w'.cell? ⟨gb202,3,none⟩ = some (.int .i64 ((rd_T92 l0_3 x38_2).f3))) (ds:=[]) #[false,false,false,false,false,false,false,false,false,false,false,false,false,false,false,false,false,false,false,false,false,false,false,false,false,false,false,false,false,false,false,false,false,false,false,false,false,false,false,false,false,false,false,false,false,false,false,false,false,false,false,false,false,false,false,false,false] (by kernel_rfl) rfl rfl ⟨bc_ BK202 0,bc_ BK202 1,bc_ BK202 2,bc_ BK202 3⟩ (fun hHeld => ?_);refine with_tabW impl_AutomatonValid.tab6 impl_AutomatonValid.bits6 (fun HT_ HW_ => ?_)
          generalize w24.drew = w25 at BK198 BK202 HB hHeld ⊢
          refine stW_ [.p 0 43,.t 1 44,.p 2 45,.p 3 46,.u 4 47,.u 5 48,.u 6 49,.u 7 50,.u 8 51,.p 9 52,.p 10 53,.u 11 54,.u 12 55,.u 13 56,.p 14 57,.p 15 58,.u 16 59,.u 17 60,.u 18 61,.u 19 62,.u 20 63,.p 21 64,.p 22 65,.u 23 66,.u 24 67,.u 25 68,.u 26 69,.u 27 70,.u 28 71,.u 29 72,.u 30 73,.p 31 74,.p 32 75,.u 33 76,.u 34 77,.u 35 78,.p 36 79,.p 37 80,.u 38 81,.u 39 82,.u 40 83,.p 41 84,.p 42 85,.u 43 86,.u 44 87,.u 45 88,.u 46 89,.u 47 90,.u 48 91,.u 49 92,.u 50 93,.u 51 94,.u 52 95,.u 53 96,.u 54 97,.u 55 98,.p 56 99] 57 144115188075855871 57 HT_.out HW_.out hHeld (a':=?_) ?_ rfl (by kernel_rfl) (fun _ _ _ _ h => h) ?_
          rotate_left
          ·repeat (first|exact Steps.nil|(refine Steps.u (oi:=?_) (a1:=?_) ?_ ?_ ?_ ?_ ?_;rotate_left 1;rfl;rfl;exact Or.inr ⟨by rfl,rfl⟩;rotate_left;exact ap_)|(refine Steps.p (oi:=?_) (v:=?_) (a1:=?_) ?_ ?_ ?_ ?_ ?_;rotate_left 2;rfl;rfl;(refine Or.inl ⟨by rfl,?_⟩;intro w';go_simp;with_reducible rfl);rotate_left;exact ap_)|(refine Steps.t (oi:=?_) (v:=?_) (a1:=?_) ?_ ?_ ?_ ?_ ?_;rotate_left 2;rfl;rfl;(refine Or.inl ⟨by rfl,?_⟩;rintro w' ⟨s0,s1,s2,s3⟩;go_simp;with_reducible rfl);rotate_left;exact ap_))
          refine done_ (done_of HT_.out (by kernel_rfl)) ?_
          try go_wp2
          go_ret
          exact ⟨er_,be2_ HB.out GE198.out GE202.out⟩
         ·rw [if_neg c20] at H
          have c20b0 : decide (((rd_T92 l0_3 x38_2).f0) < 0) = false:=decide_eq_false c20
          clear c20
          by_cases c26 : ((rd_T92 l0_3 x38_2).f0) ≥ a0_0
          ·rw [if_pos c26] at H
           have c26b0 : decide (a0_0 ≤ ((rd_T92 l0_3 x38_2).f0)) = true:=decide_eq_true c26
           clear c26
           obtain rfl:=Option.some.inj H
           refine start_ (n:=57) (S:=fun w' => w'.cell? ⟨gb202,0,none⟩ = some (.int .i64 ((rd_T92 l0_3 x38_2).f0)) ∧ w'.cell? ⟨gb202,1,none⟩ = some (.string ((rd_T92 l0_3 x38_2).f1)) ∧ w'.cell? ⟨gb202,2,none⟩ = some (.int .i64 ((rd_T92 l0_3 x38_2).f2)) ∧ w'.cell? ⟨gb202,3,none⟩ = some (.int .i64 ((rd_T92 l0_3 x38_2).f3)) ∧ w'.cell? ⟨gb198,0,none⟩ = some (.int .i64 a0_0) ∧ w'.cell? ⟨gb198,1,none⟩ = some (.slice A0_1 l0_1.length c0_1) ∧ w'.cell? ⟨gb198,2,none⟩ = some (.slice A0_2 l0_2.length c0_2) ∧ w'.cell? ⟨gb198,3,none⟩ = some (.slice (some ad201) l0_3.length c0_3)) (ds:=[]) #[false,false,false,false,false,false,false,false,false,false,false,false,false,false,false,false,false,false,false,false,false,false,false,false,false,false,false,false,false,false,false,false,false,false,false,false,false,false,false,false,false,false,false,false,false,false,false,false,false,false,false,false,false,false,false,false,false] (by kernel_rfl) rfl rfl ⟨bc_ BK202 0,bc_ BK202 1,bc_ BK202 2,bc_ BK202 3,bc_ BK198 0,bc_ BK198 1,bc_ BK198 2,bc_ BK198 3⟩ (fun hHeld => ?_);refine with_tabW impl_AutomatonValid.tab6 impl_AutomatonValid.bits6 (fun HT_ HW_ => ?_)
           generalize w24.drew = w31 at BK198 BK202 HB hHeld ⊢
           refine stW_ [.p 0 43,.t 1 44,.p 2 45,.p 3 46,.p 4 47,.p 6 49,.t 5 48,.t 7 50,.p 8 51,.p 9 52,.p 10 53,.u 11 54,.u 12 55,.u 13 56,.p 14 57,.p 15 58,.u 16 59,.u 17 60,.u 18 61,.u 19 62,.u 20 63,.p 21 64,.p 22 65,.u 23 66,.u 24 67,.u 25 68,.u 26 69,.u 27 70,.u 28 71,.u 29 72,.u 30 73,.p 31 74,.p 32 75,.u 33 76,.u 34 77,.u 35 78,.p 36 79,.p 37 80,.u 38 81,.u 39 82,.u 40 83,.p 41 84,.p 42 85,.u 43 86,.u 44 87,.u 45 88,.u 46 89,.u 47 90,.u 48 91,.u 49 92,.u 50 93,.u 51 94,.u 52 95,.u 53 96,.u 54 97,.u 55 98,.p 56 99] 57 144115188075855871 57 HT_.out HW_.out hHeld (a':=?_) ?_ rfl (by kernel_rfl) (fun _ _ _ _ h => h) ?_
           rotate_left
           ·repeat (first|exact Steps.nil|(refine Steps.u (oi:=?_) (a1:=?_) ?_ ?_ ?_ ?_ ?_;rotate_left 1;rfl;rfl;exact Or.inr ⟨by rfl,rfl⟩;rotate_left;exact ap_)|(refine Steps.p (oi:=?_) (v:=?_) (a1:=?_) ?_ ?_ ?_ ?_ ?_;rotate_left 2;rfl;rfl;(refine Or.inl ⟨by rfl,?_⟩;intro w';go_simp;with_reducible rfl);rotate_left;exact ap_)|(refine Steps.t (oi:=?_) (v:=?_) (a1:=?_) ?_ ?_ ?_ ?_ ?_;rotate_left 2;rfl;rfl;(refine Or.inl ⟨by rfl,?_⟩;rintro w' ⟨s0,s1,s2,s3,s4,s5,s6,s7⟩;go_simp;with_reducible rfl);rotate_left;exact ap_))
           refine done_ (done_of HT_.out (by kernel_rfl)) ?_
           try go_wp2
           go_ret
           exact ⟨er_,be2_ HB.out GE198.out GE202.out⟩
          ·rw [if_neg c26] at H
           have c26b0 : decide (a0_0 ≤ ((rd_T92 l0_3 x38_2).f0)) = false:=decide_eq_false c26
           clear c26
           by_cases c32 : ((rd_T92 l0_3 x38_2).f2) < 0
           ·rw [if_pos c32] at H
            have c32b0 : decide (((rd_T92 l0_3 x38_2).f2) < 0) = true:=decide_eq_true c32
            clear c32
            obtain rfl:=Option.some.inj H
            refine start_ (n:=57) (S:=fun w' => w'.cell? ⟨gb202,0,none⟩ = some (.int .i64 ((rd_T92 l0_3 x38_2).f0)) ∧ w'.cell? ⟨gb202,1,none⟩ = some (.string ((rd_T92 l0_3 x38_2).f1)) ∧ w'.cell? ⟨gb202,2,none⟩ = some (.int .i64 ((rd_T92 l0_3 x38_2).f2)) ∧ w'.cell? ⟨gb202,3,none⟩ = some (.int .i64 ((rd_T92 l0_3 x38_2).f3)) ∧ w'.cell? ⟨gb198,0,none⟩ = some (.int .i64 a0_0) ∧ w'.cell? ⟨gb198,1,none⟩ = some (.slice A0_1 l0_1.length c0_1) ∧ w'.cell? ⟨gb198,2,none⟩ = some (.slice A0_2 l0_2.length c0_2) ∧ w'.cell? ⟨gb198,3,none⟩ = some (.slice (some ad201) l0_3.length c0_3)) (ds:=[]) #[false,false,false,false,false,false,false,false,false,false,false,false,false,false,false,false,false,false,false,false,false,false,false,false,false,false,false,false,false,false,false,false,false,false,false,false,false,false,false,false,false,false,false,false,false,false,false,false,false,false,false,false,false,false,false,false,false] (by kernel_rfl) rfl rfl ⟨bc_ BK202 0,bc_ BK202 1,bc_ BK202 2,bc_ BK202 3,bc_ BK198 0,bc_ BK198 1,bc_ BK198 2,bc_ BK198 3⟩ (fun hHeld => ?_);refine with_tabW impl_AutomatonValid.tab6 impl_AutomatonValid.bits6 (fun HT_ HW_ => ?_)
            generalize w24.drew = w37 at BK198 BK202 HB hHeld ⊢
            refine stW_ [.p 0 43,.t 1 44,.p 2 45,.p 3 46,.p 4 47,.p 6 49,.t 5 48,.t 7 50,.p 8 51,.p 9 52,.p 10 53,.p 11 54,.t 12 55,.p 13 56,.p 14 57,.p 15 58,.u 16 59,.u 17 60,.u 18 61,.u 19 62,.u 20 63,.p 21 64,.p 22 65,.u 23 66,.u 24 67,.u 25 68,.u 26 69,.u 27 70,.u 28 71,.u 29 72,.u 30 73,.p 31 74,.p 32 75,.u 33 76,.u 34 77,.u 35 78,.p 36 79,.p 37 80,.u 38 81,.u 39 82,.u 40 83,.p 41 84,.p 42 85,.u 43 86,.u 44 87,.u 45 88,.u 46 89,.u 47 90,.u 48 91,.u 49 92,.u 50 93,.u 51 94,.u 52 95,.u 53 96,.u 54 97,.u 55 98,.p 56 99] 57 144115188075855871 57 HT_.out HW_.out hHeld (a':=?_) ?_ rfl (by kernel_rfl) (fun _ _ _ _ h => h) ?_
            rotate_left
            ·repeat (first|exact Steps.nil|(refine Steps.u (oi:=?_) (a1:=?_) ?_ ?_ ?_ ?_ ?_;rotate_left 1;rfl;rfl;exact Or.inr ⟨by rfl,rfl⟩;rotate_left;exact ap_)|(refine Steps.p (oi:=?_) (v:=?_) (a1:=?_) ?_ ?_ ?_ ?_ ?_;rotate_left 2;rfl;rfl;(refine Or.inl ⟨by rfl,?_⟩;intro w';go_simp;with_reducible rfl);rotate_left;exact ap_)|(refine Steps.t (oi:=?_) (v:=?_) (a1:=?_) ?_ ?_ ?_ ?_ ?_;rotate_left 2;rfl;rfl;(refine Or.inl ⟨by rfl,?_⟩;rintro w' ⟨s0,s1,s2,s3,s4,s5,s6,s7⟩;go_simp;with_reducible rfl);rotate_left;exact ap_))
            refine done_ (done_of HT_.out (by kernel_rfl)) ?_
            try go_wp2
            go_ret
            exact ⟨er_,be2_ HB.out GE198.out GE202.out⟩
           ·rw [if_neg c32] at H
            have c32b0 : decide (((rd_T92 l0_3 x38_2).f2) < 0) = false:=decide_eq_false c32
            clear c32
            by_cases c38 : ((rd_T92 l0_3 x38_2).f2) ≥ a0_0
            ·rw [if_pos c38] at H
             have c38b0 : decide (a0_0 ≤ ((rd_T92 l0_3 x38_2).f2)) = true:=decide_eq_true c38
             clear c38
             obtain rfl:=Option.some.inj H
             refine start_ (n:=57) (S:=fun w' => w'.cell? ⟨gb202,0,none⟩ = some (.int .i64 ((rd_T92 l0_3 x38_2).f0)) ∧ w'.cell? ⟨gb202,1,none⟩ = some (.string ((rd_T92 l0_3 x38_2).f1)) ∧ w'.cell? ⟨gb202,2,none⟩ = some (.int .i64 ((rd_T92 l0_3 x38_2).f2)) ∧ w'.cell? ⟨gb202,3,none⟩ = some (.int .i64 ((rd_T92 l0_3 x38_2).f3)) ∧ w'.cell? ⟨gb198,0,none⟩ = some (.int .i64 a0_0) ∧ w'.cell? ⟨gb198,1,none⟩ = some (.slice A0_1 l0_1.length c0_1) ∧ w'.cell? ⟨gb198,2,none⟩ = some (.slice A0_2 l0_2.length c0_2) ∧ w'.cell? ⟨gb198,3,none⟩ = some (.slice (some ad201) l0_3.length c0_3)) (ds:=[]) #[false,false,false,false,false,false,false,false,false,false,false,false,false,false,false,false,false,false,false,false,false,false,false,false,false,false,false,false,false,false,false,false,false,false,false,false,false,false,false,false,false,false,false,false,false,false,false,false,false,false,false,false,false,false,false,false,false] (by kernel_rfl) rfl rfl ⟨bc_ BK202 0,bc_ BK202 1,bc_ BK202 2,bc_ BK202 3,bc_ BK198 0,bc_ BK198 1,bc_ BK198 2,bc_ BK198 3⟩ (fun hHeld => ?_);refine with_tabW impl_AutomatonValid.tab6 impl_AutomatonValid.bits6 (fun HT_ HW_ => ?_)
             generalize w24.drew = w43 at BK198 BK202 HB hHeld ⊢
             refine stW_ [.p 0 43,.t 1 44,.p 2 45,.p 3 46,.p 4 47,.p 6 49,.t 5 48,.t 7 50,.p 8 51,.p 9 52,.p 10 53,.p 11 54,.t 12 55,.p 13 56,.p 14 57,.p 15 58,.p 16 59,.p 18 61,.t 17 60,.t 19 62,.p 20 63,.p 21 64,.p 22 65,.u 23 66,.u 24 67,.u 25 68,.u 26 69,.u 27 70,.u 28 71,.u 29 72,.u 30 73,.p 31 74,.p 32 75,.u 33 76,.u 34 77,.u 35 78,.p 36 79,.p 37 80,.u 38 81,.u 39 82,.u 40 83,.p 41 84,.p 42 85,.u 43 86,.u 44 87,.u 45 88,.u 46 89,.u 47 90,.u 48 91,.u 49 92,.u 50 93,.u 51 94,.u 52 95,.u 53 96,.u 54 97,.u 55 98,.p 56 99] 57 144115188075855871 57 HT_.out HW_.out hHeld (a':=?_) ?_ rfl (by kernel_rfl) (fun _ _ _ _ h => h) ?_
             rotate_left
             ·repeat (first|exact Steps.nil|(refine Steps.u (oi:=?_) (a1:=?_) ?_ ?_ ?_ ?_ ?_;rotate_left 1;rfl;rfl;exact Or.inr ⟨by rfl,rfl⟩;rotate_left;exact ap_)|(refine Steps.p (oi:=?_) (v:=?_) (a1:=?_) ?_ ?_ ?_ ?_ ?_;rotate_left 2;rfl;rfl;(refine Or.inl ⟨by rfl,?_⟩;intro w';go_simp;with_reducible rfl);rotate_left;exact ap_)|(refine Steps.t (oi:=?_) (v:=?_) (a1:=?_) ?_ ?_ ?_ ?_ ?_;rotate_left 2;rfl;rfl;(refine Or.inl ⟨by rfl,?_⟩;rintro w' ⟨s0,s1,s2,s3,s4,s5,s6,s7⟩;go_simp;with_reducible rfl);rotate_left;exact ap_))
             refine done_ (done_of HT_.out (by kernel_rfl)) ?_
             try go_wp2
             go_ret
             exact ⟨er_,be2_ HB.out GE198.out GE202.out⟩
            ·rw [if_neg c38] at H
             have c38b0 : decide (a0_0 ≤ ((rd_T92 l0_3 x38_2).f2)) = false:=decide_eq_false c38
             clear c38
             by_cases c44 : ((rd_T92 l0_3 x38_2).f1).toList = ([97] : List UInt8)
             ·rw [if_pos c44] at H
              have c44b0 : (((rd_T92 l0_3 x38_2).f1).toList == ([97] : List UInt8)) = true:=beq_iff_eq.mpr c44
              have c44b1 : (((rd_T92 l0_3 x38_2).f1).toList != ([97] : List UInt8)) = false:=bne_eq_false_iff_eq.mpr c44
              clear c44
              by_cases c45 : ((rd_T92 l0_3 x38_2).f3) < 0
              ·rw [if_pos c45] at H
               have c45b0 : decide (((rd_T92 l0_3 x38_2).f3) < 0) = true:=decide_eq_true c45
               clear c45
               obtain rfl:=Option.some.inj H
               refine start_ (n:=57) (S:=fun w' => w'.cell? ⟨gb202,0,none⟩ = some (.int .i64 ((rd_T92 l0_3 x38_2).f0)) ∧ w'.cell? ⟨gb202,1,none⟩ = some (.string ((rd_T92 l0_3 x38_2).f1)) ∧ w'.cell? ⟨gb202,2,none⟩ = some (.int .i64 ((rd_T92 l0_3 x38_2).f2)) ∧ w'.cell? ⟨gb202,3,none⟩ = some (.int .i64 ((rd_T92 l0_3 x38_2).f3)) ∧ w'.cell? ⟨gb198,0,none⟩ = some (.int .i64 a0_0) ∧ w'.cell? ⟨gb198,1,none⟩ = some (.slice A0_1 l0_1.length c0_1) ∧ w'.cell? ⟨gb198,2,none⟩ = some (.slice A0_2 l0_2.length c0_2) ∧ w'.cell? ⟨gb198,3,none⟩ = some (.slice (some ad201) l0_3.length c0_3)) (ds:=[]) #[false,false,false,false,false,false,false,false,false,false,false,false,false,false,false,false,false,false,false,false,false,false,false,false,false,false,false,false,false,false,false,false,false,false,false,false,false,false,false,false,false,false,false,false,false,false,false,false,false,false,false,false,false,false,false,false,false] (by kernel_rfl) rfl rfl ⟨bc_ BK202 0,bc_ BK202 1,bc_ BK202 2,bc_ BK202 3,bc_ BK198 0,bc_ BK198 1,bc_ BK198 2,bc_ BK198 3⟩ (fun hHeld => ?_);refine with_tabW impl_AutomatonValid.tab6 impl_AutomatonValid.bits6 (fun HT_ HW_ => ?_)
               generalize w24.drew = w50 at BK198 BK202 HB hHeld ⊢
               refine stW_ [.p 0 43,.t 1 44,.p 2 45,.p 3 46,.p 4 47,.p 6 49,.t 5 48,.t 7 50,.p 8 51,.p 9 52,.p 10 53,.p 11 54,.t 12 55,.p 13 56,.p 14 57,.p 15 58,.p 16 59,.p 18 61,.t 17 60,.t 19 62,.p 20 63,.p 21 64,.p 22 65,.p 23 66,.t 24 67,.p 25 68,.p 26 69,.u 27 70,.u 28 71,.u 29 72,.p 30 73,.p 31 74,.p 32 75,.p 33 76,.t 34 77,.p 35 78,.p 36 79,.p 37 80,.u 38 81,.u 39 82,.u 40 83,.p 41 84,.p 42 85,.u 43 86,.u 44 87,.u 45 88,.u 46 89,.u 47 90,.u 48 91,.u 49 92,.u 50 93,.u 51 94,.u 52 95,.u 53 96,.u 54 97,.u 55 98,.p 56 99] 57 144115188075855871 57 HT_.out HW_.out hHeld (a':=?_) ?_ rfl (by kernel_rfl) (fun _ _ _ _ h => h) ?_
               rotate_left
               ·repeat (first|exact Steps.nil|(refine Steps.u (oi:=?_) (a1:=?_) ?_ ?_ ?_ ?_ ?_;rotate_left 1;rfl;rfl;exact Or.inr ⟨by rfl,rfl⟩;rotate_left;exact ap_)|(refine Steps.p (oi:=?_) (v:=?_) (a1:=?_) ?_ ?_ ?_ ?_ ?_;rotate_left 2;rfl;rfl;(refine Or.inl ⟨by rfl,?_⟩;intro w';go_simp;with_reducible rfl);rotate_left;exact ap_)|(refine Steps.t (oi:=?_) (v:=?_) (a1:=?_) ?_ ?_ ?_ ?_ ?_;rotate_left 2;rfl;rfl;(refine Or.inl ⟨by rfl,?_⟩;rintro w' ⟨s0,s1,s2,s3,s4,s5,s6,s7⟩;go_simp;with_reducible rfl);rotate_left;exact ap_))
               refine done_ (done_of HT_.out (by kernel_rfl)) ?_
               try go_wp2
               go_ret
               exact ⟨er_,be2_ HB.out GE198.out GE202.out⟩
              ·rw [if_neg c45] at H
               have c45b0 : decide (((rd_T92 l0_3 x38_2).f3) < 0) = false:=decide_eq_false c45
               clear c45
               by_cases c51 : ((rd_T92 l0_3 x38_2).f3) > 3
               ·rw [if_pos c51] at H
                have c51b0 : decide (3 < ((rd_T92 l0_3 x38_2).f3)) = true:=decide_eq_true c51
                clear c51
                obtain rfl:=Option.some.inj H
                refine start_ (n:=57) (S:=fun w' => w'.cell? ⟨gb202,0,none⟩ = some (.int .i64 ((rd_T92 l0_3 x38_2).f0)) ∧ w'.cell? ⟨gb202,1,none⟩ = some (.string ((rd_T92 l0_3 x38_2).f1)) ∧ w'.cell? ⟨gb202,2,none⟩ = some (.int .i64 ((rd_T92 l0_3 x38_2).f2)) ∧ w'.cell? ⟨gb202,3,none⟩ = some (.int .i64 ((rd_T92 l0_3 x38_2).f3)) ∧ w'.cell? ⟨gb198,0,none⟩ = some (.int .i64 a0_0) ∧ w'.cell? ⟨gb198,1,none⟩ = some (.slice A0_1 l0_1.length c0_1) ∧ w'.cell? ⟨gb198,2,none⟩ = some (.slice A0_2 l0_2.length c0_2) ∧ w'.cell? ⟨gb198,3,none⟩ = some (.slice (some ad201) l0_3.length c0_3)) (ds:=[]) #[false,false,false,false,false,false,false,false,false,false,false,false,false,false,false,false,false,false,false,false,false,false,false,false,false,false,false,false,false,false,false,false,false,false,false,false,false,false,false,false,false,false,false,false,false,false,false,false,false,false,false,false,false,false,false,false,false] (by kernel_rfl) rfl rfl ⟨bc_ BK202 0,bc_ BK202 1,bc_ BK202 2,bc_ BK202 3,bc_ BK198 0,bc_ BK198 1,bc_ BK198 2,bc_ BK198 3⟩ (fun hHeld => ?_);refine with_tabW impl_AutomatonValid.tab6 impl_AutomatonValid.bits6 (fun HT_ HW_ => ?_)
                generalize w24.drew = w56 at BK198 BK202 HB hHeld ⊢
                refine stW_ [.p 0 43,.t 1 44,.p 2 45,.p 3 46,.p 4 47,.p 6 49,.t 5 48,.t 7 50,.p 8 51,.p 9 52,.p 10 53,.p 11 54,.t 12 55,.p 13 56,.p 14 57,.p 15 58,.p 16 59,.p 18 61,.t 17 60,.t 19 62,.p 20 63,.p 21 64,.p 22 65,.p 23 66,.t 24 67,.p 25 68,.p 26 69,.u 27 70,.u 28 71,.u 29 72,.p 30 73,.p 31 74,.p 32 75,.p 33 76,.t 34 77,.p 35 78,.p 36 79,.p 37 80,.p 38 81,.t 39 82,.p 40 83,.p 41 84,.p 42 85,.u 43 86,.u 44 87,.u 45 88,.u 46 89,.u 47 90,.u 48 91,.u 49 92,.u 50 93,.u 51 94,.u 52 95,.u 53 96,.u 54 97,.u 55 98,.p 56 99] 57 144115188075855871 57 HT_.out HW_.out hHeld (a':=?_) ?_ rfl (by kernel_rfl) (fun _ _ _ _ h => h) ?_
                rotate_left
                ·repeat (first|exact Steps.nil|(refine Steps.u (oi:=?_) (a1:=?_) ?_ ?_ ?_ ?_ ?_;rotate_left 1;rfl;rfl;exact Or.inr ⟨by rfl,rfl⟩;rotate_left;exact ap_)|(refine Steps.p (oi:=?_) (v:=?_) (a1:=?_) ?_ ?_ ?_ ?_ ?_;rotate_left 2;rfl;rfl;(refine Or.inl ⟨by rfl,?_⟩;intro w';go_simp;with_reducible rfl);rotate_left;exact ap_)|(refine Steps.t (oi:=?_) (v:=?_) (a1:=?_) ?_ ?_ ?_ ?_ ?_;rotate_left 2;rfl;rfl;(refine Or.inl ⟨by rfl,?_⟩;rintro w' ⟨s0,s1,s2,s3,s4,s5,s6,s7⟩;go_simp;with_reducible rfl);rotate_left;exact ap_))
                refine done_ (done_of HT_.out (by kernel_rfl)) ?_
                try go_wp2
                go_ret
                exact ⟨er_,be2_ HB.out GE198.out GE202.out⟩
               ·rw [if_neg c51] at H
                have c51b0 : decide (3 < ((rd_T92 l0_3 x38_2).f3)) = false:=decide_eq_false c51
                clear c51
                by_cases c57 : x38_2 > 0
                ·rw [if_pos c57] at H
                 have c57b0 : decide (0 < x38_2) = true:=decide_eq_true c57
                 clear c57
                 obtain ⟨ji58,hji58⟩ : ∃ j_ : Int,(wrap64 (x38_2 - 1)) = j_:=⟨_,rfl⟩
                 replace H : (if 0 ≤ (ji58) then (if (ji58) < (l0_3.length : Int) then ((impl_stepOrder.f k2 ((rd_T92 l0_3 (ji58)).f0) ((rd_T92 l0_3 (ji58)).f1) ((rd_T92 l0_3 (ji58)).f2) ((rd_T92 l0_3 (ji58)).f3) ((rd_T92 l0_3 x38_2).f0) ((rd_T92 l0_3 x38_2).f1) ((rd_T92 l0_3 x38_2).f2) ((rd_T92 l0_3 x38_2).f3)).bind fun t204 => (if t204 ≥ 0 then (some false) else (impl_AutomatonValid.l0 k2 l0_3 (l0_3.length : Int) (wrap64 (x38_2 + 1)) a0_0 l0_1 l0_2 l0_3))) else (none)) else (none)) = some r:=by first|(rw [hji58] at H;exact H)|(simp only [hji58] at H ⊢;exact H)
                 have hji58w : (IntKind.i64.wrap (x38_2 - 1)) = ji58:=(i64_w _).trans hji58
                 by_cases c59 : 0 ≤ (ji58)
                 ·rw [if_pos c59] at H
                  have c59b0 : decide (0 ≤ (ji58)) = true:=decide_eq_true c59
                  clear c59
                  by_cases c60 : (ji58) < (l0_3.length : Int)
                  ·rw [if_pos c60] at H
                   have c60b0 : decide ((ji58) < (l0_3.length : Int)) = true:=decide_eq_true c60
                   clear c60
                   replace H:=Option.bind_eq_some_iff.mp H
                   obtain ⟨t204,A610,H⟩:=H
                   replace H : (if t204 ≥ 0 then (some false) else (impl_AutomatonValid.l0 k2 l0_3 (l0_3.length : Int) (wrap64 (x38_2 + 1)) a0_0 l0_1 l0_2 l0_3)) = some r:=H
                   have A61:=Aside0.mk A610
                   clear A610
                   by_cases c62 : t204 ≥ 0
                   ·rw [if_pos c62] at H
                    have c62b0 : decide (0 ≤ t204) = true:=decide_eq_true c62
                    clear c62
                    obtain rfl:=Option.some.inj H
                    have p203 : 0 ≤ ((ji58) : Int):=od_
                    have q203 : (ji58) < (l0_3.length : Int):=od_
                    obtain ⟨ad203,e203,hx203_0,hx203_1,hx203_2,hx203_3⟩:=at_T92 HR0_3.out (ji58) p203 q203
                    have hw203_3:=hx203_3
                    have hw203_2:=hx203_2
                    have hw203_1:=hx203_1
                    have hw203_0:=hx203_0
                    obtain rfl : ad201 = ad203:=(by injection e203)
                    replace hx203_0:=hbc_ HB.out hx203_0
                    replace hx203_1:=hbc_ HB.out hx203_1
                    replace hx203_2:=hbc_ HB.out hx203_2
                    replace hx203_3:=hbc_ HB.out hx203_3
                    replace p203:=eq_true p203
                    replace q203:=eq_true q203
                    refine start_ (n:=57) (S:=fun w' => w'.cell? ⟨gb202,0,none⟩ = some (.int .i64 ((rd_T92 l0_3 x38_2).f0)) ∧ w'.cell? ⟨gb202,1,none⟩ = some (.string ((rd_T92 l0_3 x38_2).f1)) ∧ w'.cell? ⟨gb202,2,none⟩ = some (.int .i64 ((rd_T92 l0_3 x38_2).f2)) ∧ w'.cell? ⟨gb202,3,none⟩ = some (.int .i64 ((rd_T92 l0_3 x38_2).f3)) ∧ w'.cell? ⟨gb198,0,none⟩ = some (.int .i64 a0_0) ∧ w'.cell? ⟨gb198,1,none⟩ = some (.slice A0_1 l0_1.length c0_1) ∧ w'.cell? ⟨gb198,2,none⟩ = some (.slice A0_2 l0_2.length c0_2) ∧ w'.cell? ⟨gb198,3,none⟩ = some (.slice (some ad201) l0_3.length c0_3) ∧ w'.cell? (ad201.add (((ji58)).toNat * 4)) = some (.int .i64 ((rd_T92 l0_3 (ji58)).f0)) ∧ w'.cell? ⟨(ad201.add (((ji58)).toNat * 4)).block,(ad201.add (((ji58)).toNat * 4)).off + 1,none⟩ = some (.string ((rd_T92 l0_3 (ji58)).f1)) ∧ w'.cell? ⟨(ad201.add (((ji58)).toNat * 4)).block,(ad201.add (((ji58)).toNat * 4)).off + 2,none⟩ = some (.int .i64 ((rd_T92 l0_3 (ji58)).f2)) ∧ w'.cell? ⟨(ad201.add (((ji58)).toNat * 4)).block,(ad201.add (((ji58)).toNat * 4)).off + 3,none⟩ = some (.int .i64 ((rd_T92 l0_3 (ji58)).f3))) (ds:=[]) #[false,false,false,false,false,false,false,false,false,false,false,false,false,false,false,false,false,false,false,false,false,false,false,false,false,false,false,false,false,false,false,false,false,false,false,false,false,false,false,false,false,false,false,false,false,false,false,false,false,false,false,false,false,false,false,false,false] (by kernel_rfl) rfl rfl ⟨bc_ BK202 0,bc_ BK202 1,bc_ BK202 2,bc_ BK202 3,bc_ BK198 0,bc_ BK198 1,bc_ BK198 2,bc_ BK198 3,(hbc_ HB.out hw203_0),(hbc_ HB.out hw203_1),(hbc_ HB.out hw203_2),(hbc_ HB.out hw203_3)⟩ (fun hHeld => ?_);refine with_tabW impl_AutomatonValid.tab6 impl_AutomatonValid.bits6 (fun HT_ HW_ => ?_)
                    generalize w24.drew = w67 at BK198 BK202 HB hx203_0 hx203_1 hx203_2 hx203_3 hHeld ⊢
                    refine stW_ [.p 0 43,.t 1 44,.p 2 45,.p 3 46,.p 4 47,.p 6 49,.t 5 48,.t 7 50,.p 8 51,.p 9 52,.p 10 53,.p 11 54,.t 12 55,.p 13 56,.p 14 57,.p 15 58,.p 16 59,.p 18 61,.t 17 60,.t 19 62,.p 20 63,.p 21 64,.p 22 65,.p 23 66,.t 24 67,.p 25 68,.p 26 69,.u 27 70,.u 28 71,.u 29 72,.p 30 73,.p 31 74,.p 32 75,.p 33 76,.t 34 77,.p 35 78,.p 36 79,.p 37 80,.p 38 81,.t 39 82,.p 40 83,.p 41 84,.p 42 85,.p 43 86,.p 44 87,.p 45 88,.p 46 89,.p 48 91,.p 49 92,.t 47 90,.p 50 93,.t 51 94,.t 52 95] 53 9007199254740991 57 HT_.out HW_.out hHeld (a':=?_) ?_ rfl (by kernel_rfl) (fun _ _ _ _ h => h) ?_
                    rotate_left
                    ·repeat (first|exact Steps.nil|(refine Steps.u (oi:=?_) (a1:=?_) ?_ ?_ ?_ ?_ ?_;rotate_left 1;rfl;rfl;exact Or.inr ⟨by rfl,rfl⟩;rotate_left;exact ap_)|(refine Steps.p (oi:=?_) (v:=?_) (a1:=?_) ?_ ?_ ?_ ?_ ?_;rotate_left 2;rfl;rfl;(refine Or.inl ⟨by rfl,?_⟩;intro w';go_simp;with_reducible rfl);rotate_left;exact ap_)|(refine Steps.t (oi:=?_) (v:=?_) (a1:=?_) ?_ ?_ ?_ ?_ ?_;rotate_left 2;rfl;rfl;(refine Or.inl ⟨by rfl,?_⟩;rintro w' ⟨s0,s1,s2,s3,s4,s5,s6,s7,s8,s9,s10,s11⟩;go_simp;with_reducible rfl);rotate_left;exact ap_))
                    refine one_ (i:=53) (N:=some 96) #[true,true,true,true,true,true,true,true,true,true,true,true,true,true,true,true,true,true,true,true,true,true,true,true,true,true,true,true,true,true,true,true,true,true,true,true,true,true,true,true,true,true,true,true,true,true,true,true,true,true,true,true,true,true,false,false,false] rfl rfl (one_of HT_.out (by kernel_rfl)) (by decide) (fun K hK => ?_)
                    refine goes_ Try.func125 (by kernel_rfl) rfl #[.agg #[.int .i64 ((rd_T92 l0_3 (ji58)).f0),.string ((rd_T92 l0_3 (ji58)).f1),.int .i64 ((rd_T92 l0_3 (ji58)).f2),.int .i64 ((rd_T92 l0_3 (ji58)).f3)],.agg #[.int .i64 ((rd_T92 l0_3 x38_2).f0),.string ((rd_T92 l0_3 x38_2).f1),.int .i64 ((rd_T92 l0_3 x38_2).f2),.int .i64 ((rd_T92 l0_3 x38_2).f3)]] (by rfl) rfl rfl (by (try simp only [List.map_toArray,List.map_cons,List.map_nil]);first|done|(simp only [hji58];rfl)|rfl|(simp only [List.length_drop,List.length_take];rfl)) ?_
                    with_reducible refine (impl_stepOrder.calls k2 ((rd_T92 l0_3 (ji58)).f0) ((rd_T92 l0_3 (ji58)).f1) ((rd_T92 l0_3 (ji58)).f2) ((rd_T92 l0_3 (ji58)).f3) ((rd_T92 l0_3 x38_2).f0) ((rd_T92 l0_3 x38_2).f1) ((rd_T92 l0_3 x38_2).f2) ((rd_T92 l0_3 x38_2).f3) t204 _ A61.out).mono ?_
                    rintro e w68 ⟨rfl,hb⟩
                    refine ⟨_,rfl,?_⟩
                    replace BK198:=kc_ BK198 hb
                    replace BK202:=kc_ BK202 hb
                    replace HB:=hs2_ HB GE198 GE202 hb
                    (try clear hb)
                    (try clear hb2)
                    (try clear hk)
                    (try clear hi)
                    refine hK.out _ _ ⟨bc_ BK202 0,bc_ BK202 1,bc_ BK202 2,bc_ BK202 3,bc_ BK198 0,bc_ BK198 1,bc_ BK198 2,bc_ BK198 3,(hbc_ HB.out hw203_0),(hbc_ HB.out hw203_1),(hbc_ HB.out hw203_2),(hbc_ HB.out hw203_3)⟩ (fun hHeld => ?_)
                    clear hK K
                    refine norm_ (a':=?_) ?_ ?_
                    rotate_left
                    ·show Act.put _ (some 96) _ = _
                     simp only [Act.put,List.setIfInBounds_toArray,List.set_cons_zero,List.set_cons_succ,i64_w,i32_w]
                     rfl
                    refine stW_ [.p 54 97,.p 55 98,.p 56 99] 3 144115188075855871 57 HT_.out HW_.out hHeld (a':=?_) ?_ rfl (by kernel_rfl) (fun _ _ _ _ h => h) ?_
                    rotate_left
                    ·repeat (first|exact Steps.nil|(refine Steps.p (oi:=?_) (v:=?_) (a1:=?_) ?_ ?_ ?_ ?_ ?_;rotate_left 2;rfl;rfl;(refine Or.inl ⟨by rfl,?_⟩;intro w';go_simp;with_reducible rfl);rotate_left;exact ap_))
                    refine done_ (done_of HT_.out (by kernel_rfl)) ?_
                    try go_wp2
                    go_ret
                    exact ⟨by first|rfl|(simp [errW_none,errW_some] <;> rfl)|(simp only [← hji58];first|rfl|(simp [errW_none,errW_some] <;> rfl))|(simp [*,errW_none,errW_some] <;> rfl),be2_ HB.out GE198.out GE202.out⟩
                   ·rw [if_neg c62] at H
                    have c62b0 : decide (0 ≤ t204) = false:=decide_eq_false c62
                    clear c62
                    have H':=Aside0.mk H
                    clear H
                    have p203 : 0 ≤ ((ji58) : Int):=od_
                    have q203 : (ji58) < (l0_3.length : Int):=od_
                    obtain ⟨ad203,e203,hx203_0,hx203_1,hx203_2,hx203_3⟩:=at_T92 HR0_3.out (ji58) p203 q203
                    have hw203_3:=hx203_3
                    have hw203_2:=hx203_2
                    have hw203_1:=hx203_1
                    have hw203_0:=hx203_0
                    obtain rfl : ad201 = ad203:=(by injection e203)
                    replace hx203_0:=hbc_ HB.out hx203_0
                    replace hx203_1:=hbc_ HB.out hx203_1
                    replace hx203_2:=hbc_ HB.out hx203_2
                    replace hx203_3:=hbc_ HB.out hx203_3
                    replace p203:=eq_true p203
                    replace q203:=eq_true q203
                    refine start_ (n:=57) (S:=fun w' => w'.cell? ⟨gb202,0,none⟩ = some (.int .i64 ((rd_T92 l0_3 x38_2).f0)) ∧ w'.cell? ⟨gb202,1,none⟩ = some (.string ((rd_T92 l0_3 x38_2).f1)) ∧ w'.cell? ⟨gb202,2,none⟩ = some (.int .i64 ((rd_T92 l0_3 x38_2).f2)) ∧ w'.cell? ⟨gb202,3,none⟩ = some (.int .i64 ((rd_T92 l0_3 x38_2).f3)) ∧ w'.cell? ⟨gb198,0,none⟩ = some (.int .i64 a0_0) ∧ w'.cell? ⟨gb198,1,none⟩ = some (.slice A0_1 l0_1.length c0_1) ∧ w'.cell? ⟨gb198,2,none⟩ = some (.slice A0_2 l0_2.length c0_2) ∧ w'.cell? ⟨gb198,3,none⟩ = some (.slice (some ad201) l0_3.length c0_3) ∧ w'.cell? (ad201.add (((ji58)).toNat * 4)) = some (.int .i64 ((rd_T92 l0_3 (ji58)).f0)) ∧ w'.cell? ⟨(ad201.add (((ji58)).toNat * 4)).block,(ad201.add (((ji58)).toNat * 4)).off + 1,none⟩ = some (.string ((rd_T92 l0_3 (ji58)).f1)) ∧ w'.cell? ⟨(ad201.add (((ji58)).toNat * 4)).block,(ad201.add (((ji58)).toNat * 4)).off + 2,none⟩ = some (.int .i64 ((rd_T92 l0_3 (ji58)).f2)) ∧ w'.cell? ⟨(ad201.add (((ji58)).toNat * 4)).block,(ad201.add (((ji58)).toNat * 4)).off + 3,none⟩ = some (.int .i64 ((rd_T92 l0_3 (ji58)).f3))) (ds:=[]) #[false,false,false,false,false,false,false,false,false,false,false,false,false,false,false,false,false,false,false,false,false,false,false,false,false,false,false,false,false,false,false,false,false,false,false,false,false,false,false,false,false,false,false,false,false,false,false,false,false,false,false,false,false,false,false,false,false] (by kernel_rfl) rfl rfl ⟨bc_ BK202 0,bc_ BK202 1,bc_ BK202 2,bc_ BK202 3,bc_ BK198 0,bc_ BK198 1,bc_ BK198 2,bc_ BK198 3,(hbc_ HB.out hw203_0),(hbc_ HB.out hw203_1),(hbc_ HB.out hw203_2),(hbc_ HB.out hw203_3)⟩ (fun hHeld => ?_);refine with_tabW impl_AutomatonValid.tab6 impl_AutomatonValid.bits6 (fun HT_ HW_ => ?_)
                    generalize w24.drew = w73 at BK198 BK202 HB hx203_0 hx203_1 hx203_2 hx203_3 hHeld ⊢
                    refine stW_ [.p 0 43,.t 1 44,.p 2 45,.p 3 46,.p 4 47,.p 6 49,.t 5 48,.t 7 50,.p 8 51,.p 9 52,.p 10 53,.p 11 54,.t 12 55,.p 13 56,.p 14 57,.p 15 58,.p 16 59,.p 18 61,.t 17 60,.t 19 62,.p 20 63,.p 21 64,.p 22 65,.p 23 66,.t 24 67,.p 25 68,.p 26 69,.u 27 70,.u 28 71,.u 29 72,.p 30 73,.p 31 74,.p 32 75,.p 33 76,.t 34 77,.p 35 78,.p 36 79,.p 37 80,.p 38 81,.t 39 82,.p 40 83,.p 41 84,.p 42 85,.p 43 86,.p 44 87,.p 45 88,.p 46 89,.p 48 91,.p 49 92,.t 47 90,.p 50 93,.t 51 94,.t 52 95] 53 9007199254740991 57 HT_.out HW_.out hHeld (a':=?_) ?_ rfl (by kernel_rfl) (fun _ _ _ _ h => h) ?_
                    rotate_left
                    ·repeat (first|exact Steps.nil|(refine Steps.u (oi:=?_) (a1:=?_) ?_ ?_ ?_ ?_ ?_;rotate_left 1;rfl;rfl;exact Or.inr ⟨by rfl,rfl⟩;rotate_left;exact ap_)|(refine Steps.p (oi:=?_) (v:=?_) (a1:=?_) ?_ ?_ ?_ ?_ ?_;rotate_left 2;rfl;rfl;(refine Or.inl ⟨by rfl,?_⟩;intro w';go_simp;with_reducible rfl);rotate_left;exact ap_)|(refine Steps.t (oi:=?_) (v:=?_) (a1:=?_) ?_ ?_ ?_ ?_ ?_;rotate_left 2;rfl;rfl;(refine Or.inl ⟨by rfl,?_⟩;rintro w' ⟨s0,s1,s2,s3,s4,s5,s6,s7,s8,s9,s10,s11⟩;go_simp;with_reducible rfl);rotate_left;exact ap_))
                    refine one_ (i:=53) (N:=some 96) #[true,true,true,true,true,true,true,true,true,true,true,true,true,true,true,true,true,true,true,true,true,true,true,true,true,true,true,true,true,true,true,true,true,true,true,true,true,true,true,true,true,true,true,true,true,true,true,true,true,true,true,true,true,true,false,false,false] rfl rfl (one_of HT_.out (by kernel_rfl)) (by decide) (fun K hK => ?_)
                    refine goes_ Try.func125 (by kernel_rfl) rfl #[.agg #[.int .i64 ((rd_T92 l0_3 (ji58)).f0),.string ((rd_T92 l0_3 (ji58)).f1),.int .i64 ((rd_T92 l0_3 (ji58)).f2),.int .i64 ((rd_T92 l0_3 (ji58)).f3)],.agg #[.int .i64 ((rd_T92 l0_3 x38_2).f0),.string ((rd_T92 l0_3 x38_2).f1),.int .i64 ((rd_T92 l0_3 x38_2).f2),.int .i64 ((rd_T92 l0_3 x38_2).f3)]] (by rfl) rfl rfl (by (try simp only [List.map_toArray,List.map_cons,List.map_nil]);first|done|(simp only [hji58];rfl)|rfl|(simp only [List.length_drop,List.length_take];rfl)) ?_
                    with_reducible refine (impl_stepOrder.calls k2 ((rd_T92 l0_3 (ji58)).f0) ((rd_T92 l0_3 (ji58)).f1) ((rd_T92 l0_3 (ji58)).f2) ((rd_T92 l0_3 (ji58)).f3) ((rd_T92 l0_3 x38_2).f0) ((rd_T92 l0_3 x38_2).f1) ((rd_T92 l0_3 x38_2).f2) ((rd_T92 l0_3 x38_2).f3) t204 _ A61.out).mono ?_
                    rintro e w74 ⟨rfl,hb⟩
                    refine ⟨_,rfl,?_⟩
                    replace BK198:=kc_ BK198 hb
                    replace BK202:=kc_ BK202 hb
                    replace HB:=hs2_ HB GE198 GE202 hb
                    (try clear hb)
                    (try clear hb2)
                    (try clear hk)
                    (try clear hi)
                    refine hK.out _ _ ⟨bc_ BK202 0,bc_ BK202 1,bc_ BK202 2,bc_ BK202 3,bc_ BK198 0,bc_ BK198 1,bc_ BK198 2,bc_ BK198 3,(hbc_ HB.out hw203_0),(hbc_ HB.out hw203_1),(hbc_ HB.out hw203_2),(hbc_ HB.out hw203_3)⟩ (fun hHeld => ?_)
                    clear hK K
                    refine norm_ (a':=?_) ?_ ?_
                    rotate_left
                    ·show Act.put _ (some 96) _ = _
                     simp only [Act.put,List.setIfInBounds_toArray,List.set_cons_zero,List.set_cons_succ,i64_w,i32_w]
                     rfl
                    refine stW_ [.p 54 97,.p 55 98,.p 56 99] 3 144115188075855871 57 HT_.out HW_.out hHeld (a':=?_) ?_ rfl (by kernel_rfl) (fun _ _ _ _ h => h) ?_
                    rotate_left
                    ·repeat (first|exact Steps.nil|(refine Steps.p (oi:=?_) (v:=?_) (a1:=?_) ?_ ?_ ?_ ?_ ?_;rotate_left 2;rfl;rfl;(refine Or.inl ⟨by rfl,?_⟩;intro w';go_simp;with_reducible rfl);rotate_left;exact ap_))
                    refine done_ (done_of HT_.out (by kernel_rfl)) ?_
                    try go_wp2
                    go_roundg k2
                    case measure => have:=HJ1.out;have:=HK2.out;omega
                    case rel => exact ⟨(wrap64 (x38_2 + 1)),rs_,H',⟨by have:=HJ1.out;have:=HK2.out;omega⟩,⟨pe_ BK198.out⟩,⟨be2_ HB.out GE198.out GE202.out⟩⟩
                  ·rw [if_neg c60] at H
                   exact absurd H (by simp)
                 ·rw [if_neg c59] at H
                  exact absurd H (by simp)
                ·rw [if_neg c57] at H
                 have c57b0 : decide (0 < x38_2) = false:=decide_eq_false c57
                 clear c57
                 have H':=Aside0.mk H
                 clear H
                 refine start_ (n:=57) (S:=fun w' => w'.cell? ⟨gb202,0,none⟩ = some (.int .i64 ((rd_T92 l0_3 x38_2).f0)) ∧ w'.cell? ⟨gb202,1,none⟩ = some (.string ((rd_T92 l0_3 x38_2).f1)) ∧ w'.cell? ⟨gb202,2,none⟩ = some (.int .i64 ((rd_T92 l0_3 x38_2).f2)) ∧ w'.cell? ⟨gb202,3,none⟩ = some (.int .i64 ((rd_T92 l0_3 x38_2).f3)) ∧ w'.cell? ⟨gb198,0,none⟩ = some (.int .i64 a0_0) ∧ w'.cell? ⟨gb198,1,none⟩ = some (.slice A0_1 l0_1.length c0_1) ∧ w'.cell? ⟨gb198,2,none⟩ = some (.slice A0_2 l0_2.length c0_2) ∧ w'.cell? ⟨gb198,3,none⟩ = some (.slice (some ad201) l0_3.length c0_3)) (ds:=[]) #[false,false,false,false,false,false,false,false,false,false,false,false,false,false,false,false,false,false,false,false,false,false,false,false,false,false,false,false,false,false,false,false,false,false,false,false,false,false,false,false,false,false,false,false,false,false,false,false,false,false,false,false,false,false,false,false,false] (by kernel_rfl) rfl rfl ⟨bc_ BK202 0,bc_ BK202 1,bc_ BK202 2,bc_ BK202 3,bc_ BK198 0,bc_ BK198 1,bc_ BK198 2,bc_ BK198 3⟩ (fun hHeld => ?_);refine with_tabW impl_AutomatonValid.tab6 impl_AutomatonValid.bits6 (fun HT_ HW_ => ?_)
                 generalize w24.drew = w79 at BK198 BK202 HB hHeld ⊢
                 refine stW_ [.p 0 43,.t 1 44,.p 2 45,.p 3 46,.p 4 47,.p 6 49,.t 5 48,.t 7 50,.p 8 51,.p 9 52,.p 10 53,.p 11 54,.t 12 55,.p 13 56,.p 14 57,.p 15 58,.p 16 59,.p 18 61,.t 17 60,.t 19 62,.p 20 63,.p 21 64,.p 22 65,.p 23 66,.t 24 67,.p 25 68,.p 26 69,.u 27 70,.u 28 71,.u 29 72,.p 30 73,.p 31 74,.p 32 75,.p 33 76,.t 34 77,.p 35 78,.p 36 79,.p 37 80,.p 38 81,.t 39 82,.p 40 83,.p 41 84,.p 42 85,.p 43 86,.p 44 87,.p 45 88,.u 46 89,.u 47 90,.u 48 91,.u 49 92,.u 50 93,.u 51 94,.u 52 95,.u 53 96,.u 54 97,.p 55 98,.p 56 99] 57 144115188075855871 57 HT_.out HW_.out hHeld (a':=?_) ?_ rfl (by kernel_rfl) (fun _ _ _ _ h => h) ?_
                 rotate_left
                 ·repeat (first|exact Steps.nil|(refine Steps.u (oi:=?_) (a1:=?_) ?_ ?_ ?_ ?_ ?_;rotate_left 1;rfl;rfl;exact Or.inr ⟨by rfl,rfl⟩;rotate_left;exact ap_)|(refine Steps.p (oi:=?_) (v:=?_) (a1:=?_) ?_ ?_ ?_ ?_ ?_;rotate_left 2;rfl;rfl;(refine Or.inl ⟨by rfl,?_⟩;intro w';go_simp;with_reducible rfl);rotate_left;exact ap_)|(refine Steps.t (oi:=?_) (v:=?_) (a1:=?_) ?_ ?_ ?_ ?_ ?_;rotate_left 2;rfl;rfl;(refine Or.inl ⟨by rfl,?_⟩;rintro w' ⟨s0,s1,s2,s3,s4,s5,s6,s7⟩;go_simp;with_reducible rfl);rotate_left;exact ap_))
                 refine done_ (done_of HT_.out (by kernel_rfl)) ?_
                 try go_wp2
                 go_roundg k2
                 case measure => have:=HJ1.out;have:=HK2.out;omega
                 case rel => exact ⟨(wrap64 (x38_2 + 1)),rs_,H',⟨by have:=HJ1.out;have:=HK2.out;omega⟩,⟨pe_ BK198.out⟩,⟨be2_ HB.out GE198.out GE202.out⟩⟩
             ·rw [if_neg c44] at H
              have c44b0 : (((rd_T92 l0_3 x38_2).f1).toList == ([97] : List UInt8)) = false:=beq_eq_false_iff_ne.mpr c44
              have c44b1 : (((rd_T92 l0_3 x38_2).f1).toList != ([97] : List UInt8)) = true:=bne_iff_ne.mpr c44
              by_cases c80 : ((rd_T92 l0_3 x38_2).f1).toList = ([98] : List UInt8)
              ·rw [if_pos c80] at H
               have c80b0 : (((rd_T92 l0_3 x38_2).f1).toList == ([98] : List UInt8)) = true:=beq_iff_eq.mpr c80
               have c80b1 : (((rd_T92 l0_3 x38_2).f1).toList != ([98] : List UInt8)) = false:=bne_eq_false_iff_eq.mpr c80
               clear c80
               by_cases c81 : ((rd_T92 l0_3 x38_2).f3) < 0
               ·rw [if_pos c81] at H
                have c81b0 : decide (((rd_T92 l0_3 x38_2).f3) < 0) = true:=decide_eq_true c81
                clear c81
                obtain rfl:=Option.some.inj H
                refine start_ (n:=57) (S:=fun w' => w'.cell? ⟨gb202,0,none⟩ = some (.int .i64 ((rd_T92 l0_3 x38_2).f0)) ∧ w'.cell? ⟨gb202,1,none⟩ = some (.string ((rd_T92 l0_3 x38_2).f1)) ∧ w'.cell? ⟨gb202,2,none⟩ = some (.int .i64 ((rd_T92 l0_3 x38_2).f2)) ∧ w'.cell? ⟨gb202,3,none⟩ = some (.int .i64 ((rd_T92 l0_3 x38_2).f3)) ∧ w'.cell? ⟨gb198,0,none⟩ = some (.int .i64 a0_0) ∧ w'.cell? ⟨gb198,1,none⟩ = some (.slice A0_1 l0_1.length c0_1) ∧ w'.cell? ⟨gb198,2,none⟩ = some (.slice A0_2 l0_2.length c0_2) ∧ w'.cell? ⟨gb198,3,none⟩ = some (.slice (some ad201) l0_3.length c0_3)) (ds:=[]) #[false,false,false,false,false,false,false,false,false,false,false,false,false,false,false,false,false,false,false,false,false,false,false,false,false,false,false,false,false,false,false,false,false,false,false,false,false,false,false,false,false,false,false,false,false,false,false,false,false,false,false,false,false,false,false,false,false] (by kernel_rfl) rfl rfl ⟨bc_ BK202 0,bc_ BK202 1,bc_ BK202 2,bc_ BK202 3,bc_ BK198 0,bc_ BK198 1,bc_ BK198 2,bc_ BK198 3⟩ (fun hHeld => ?_);refine with_tabW impl_AutomatonValid.tab6 impl_AutomatonValid.bits6 (fun HT_ HW_ => ?_)
                generalize w24.drew = w86 at BK198 BK202 HB hHeld ⊢
                refine stW_ [.p 0 43,.t 1 44,.p 2 45,.p 3 46,.p 4 47,.p 6 49,.t 5 48,.t 7 50,.p 8 51,.p 9 52,.p 10 53,.p 11 54,.t 12 55,.p 13 56,.p 14 57,.p 15 58,.p 16 59,.p 18 61,.t 17 60,.t 19 62,.p 20 63,.p 21 64,.p 22 65,.p 23 66,.t 24 67,.p 25 68,.p 26 69,.p 27 70,.t 28 71,.p 29 72,.p 30 73,.p 31 74,.p 32 75,.p 33 76,.t 34 77,.p 35 78,.p 36 79,.p 37 80,.u 38 81,.u 39 82,.u 40 83,.p 41 84,.p 42 85,.u 43 86,.u 44 87,.u 45 88,.u 46 89,.u 47 90,.u 48 91,.u 49 92,.u 50 93,.u 51 94,.u 52 95,.u 53 96,.u 54 97,.u 55 98,.p 56 99] 57 144115188075855871 57 HT_.out HW_.out hHeld (a':=?_) ?_ rfl (by kernel_rfl) (fun _ _ _ _ h => h) ?_
                rotate_left
                ·repeat (first|exact Steps.nil|(refine Steps.u (oi:=?_) (a1:=?_) ?_ ?_ ?_ ?_ ?_;rotate_left 1;rfl;rfl;exact Or.inr ⟨by rfl,rfl⟩;rotate_left;exact ap_)|(refine Steps.p (oi:=?_) (v:=?_) (a1:=?_) ?_ ?_ ?_ ?_ ?_;rotate_left 2;rfl;rfl;(refine Or.inl ⟨by rfl,?_⟩;intro w';go_simp;with_reducible rfl);rotate_left;exact ap_)|(refine Steps.t (oi:=?_) (v:=?_) (a1:=?_) ?_ ?_ ?_ ?_ ?_;rotate_left 2;rfl;rfl;(refine Or.inl ⟨by rfl,?_⟩;rintro w' ⟨s0,s1,s2,s3,s4,s5,s6,s7⟩;go_simp;with_reducible rfl);rotate_left;exact ap_))
                refine done_ (done_of HT_.out (by kernel_rfl)) ?_
                try go_wp2
                go_ret
                exact ⟨er_,be2_ HB.out GE198.out GE202.out⟩
               ·rw [if_neg c81] at H
                have c81b0 : decide (((rd_T92 l0_3 x38_2).f3) < 0) = false:=decide_eq_false c81
                clear c81
                by_cases c87 : ((rd_T92 l0_3 x38_2).f3) > 3
                ·rw [if_pos c87] at H
                 have c87b0 : decide (3 < ((rd_T92 l0_3 x38_2).f3)) = true:=decide_eq_true c87
                 clear c87
                 obtain rfl:=Option.some.inj H
                 refine start_ (n:=57) (S:=fun w' => w'.cell? ⟨gb202,0,none⟩ = some (.int .i64 ((rd_T92 l0_3 x38_2).f0)) ∧ w'.cell? ⟨gb202,1,none⟩ = some (.string ((rd_T92 l0_3 x38_2).f1)) ∧ w'.cell? ⟨gb202,2,none⟩ = some (.int .i64 ((rd_T92 l0_3 x38_2).f2)) ∧ w'.cell? ⟨gb202,3,none⟩ = some (.int .i64 ((rd_T92 l0_3 x38_2).f3)) ∧ w'.cell? ⟨gb198,0,none⟩ = some (.int .i64 a0_0) ∧ w'.cell? ⟨gb198,1,none⟩ = some (.slice A0_1 l0_1.length c0_1) ∧ w'.cell? ⟨gb198,2,none⟩ = some (.slice A0_2 l0_2.length c0_2) ∧ w'.cell? ⟨gb198,3,none⟩ = some (.slice (some ad201) l0_3.length c0_3)) (ds:=[]) #[false,false,false,false,false,false,false,false,false,false,false,false,false,false,false,false,false,false,false,false,false,false,false,false,false,false,false,false,false,false,false,false,false,false,false,false,false,false,false,false,false,false,false,false,false,false,false,false,false,false,false,false,false,false,false,false,false] (by kernel_rfl) rfl rfl ⟨bc_ BK202 0,bc_ BK202 1,bc_ BK202 2,bc_ BK202 3,bc_ BK198 0,bc_ BK198 1,bc_ BK198 2,bc_ BK198 3⟩ (fun hHeld => ?_);refine with_tabW impl_AutomatonValid.tab6 impl_AutomatonValid.bits6 (fun HT_ HW_ => ?_)
                 generalize w24.drew = w92 at BK198 BK202 HB hHeld ⊢
                 refine stW_ [.p 0 43,.t 1 44,.p 2 45,.p 3 46,.p 4 47,.p 6 49,.t 5 48,.t 7 50,.p 8 51,.p 9 52,.p 10 53,.p 11 54,.t 12 55,.p 13 56,.p 14 57,.p 15 58,.p 16 59,.p 18 61,.t 17 60,.t 19 62,.p 20 63,.p 21 64,.p 22 65,.p 23 66,.t 24 67,.p 25 68,.p 26 69,.p 27 70,.t 28 71,.p 29 72,.p 30 73,.p 31 74,.p 32 75,.p 33 76,.t 34 77,.p 35 78,.p 36 79,.p 37 80,.p 38 81,.t 39 82,.p 40 83,.p 41 84,.p 42 85,.u 43 86,.u 44 87,.u 45 88,.u 46 89,.u 47 90,.u 48 91,.u 49 92,.u 50 93,.u 51 94,.u 52 95,.u 53 96,.u 54 97,.u 55 98,.p 56 99] 57 144115188075855871 57 HT_.out HW_.out hHeld (a':=?_) ?_ rfl (by kernel_rfl) (fun _ _ _ _ h => h) ?_
                 rotate_left
                 ·repeat (first|exact Steps.nil|(refine Steps.u (oi:=?_) (a1:=?_) ?_ ?_ ?_ ?_ ?_;rotate_left 1;rfl;rfl;exact Or.inr ⟨by rfl,rfl⟩;rotate_left;exact ap_)|(refine Steps.p (oi:=?_) (v:=?_) (a1:=?_) ?_ ?_ ?_ ?_ ?_;rotate_left 2;rfl;rfl;(refine Or.inl ⟨by rfl,?_⟩;intro w';go_simp;with_reducible rfl);rotate_left;exact ap_)|(refine Steps.t (oi:=?_) (v:=?_) (a1:=?_) ?_ ?_ ?_ ?_ ?_;rotate_left 2;rfl;rfl;(refine Or.inl ⟨by rfl,?_⟩;rintro w' ⟨s0,s1,s2,s3,s4,s5,s6,s7⟩;go_simp;with_reducible rfl);rotate_left;exact ap_))
                 refine done_ (done_of HT_.out (by kernel_rfl)) ?_
                 try go_wp2
                 go_ret
                 exact ⟨er_,be2_ HB.out GE198.out GE202.out⟩
                ·rw [if_neg c87] at H
                 have c87b0 : decide (3 < ((rd_T92 l0_3 x38_2).f3)) = false:=decide_eq_false c87
                 clear c87
                 by_cases c93 : x38_2 > 0
                 ·rw [if_pos c93] at H
                  have c93b0 : decide (0 < x38_2) = true:=decide_eq_true c93
                  clear c93
                  obtain ⟨ji94,hji94⟩ : ∃ j_ : Int,(wrap64 (x38_2 - 1)) = j_:=⟨_,rfl⟩
                  replace H : (if 0 ≤ (ji94) then (if (ji94) < (l0_3.length : Int) then ((impl_stepOrder.f k2 ((rd_T92 l0_3 (ji94)).f0) ((rd_T92 l0_3 (ji94)).f1) ((rd_T92 l0_3 (ji94)).f2) ((rd_T92 l0_3 (ji94)).f3) ((rd_T92 l0_3 x38_2).f0) ((rd_T92 l0_3 x38_2).f1) ((rd_T92 l0_3 x38_2).f2) ((rd_T92 l0_3 x38_2).f3)).bind fun t206 => (if t206 ≥ 0 then (some false) else (impl_AutomatonValid.l0 k2 l0_3 (l0_3.length : Int) (wrap64 (x38_2 + 1)) a0_0 l0_1 l0_2 l0_3))) else (none)) else (none)) = some r:=by first|(rw [hji94] at H;exact H)|(simp only [hji94] at H ⊢;exact H)
                  have hji94w : (IntKind.i64.wrap (x38_2 - 1)) = ji94:=(i64_w _).trans hji94
                  by_cases c95 : 0 ≤ (ji94)
                  ·rw [if_pos c95] at H
                   have c95b0 : decide (0 ≤ (ji94)) = true:=decide_eq_true c95
                   clear c95
                   by_cases c96 : (ji94) < (l0_3.length : Int)
                   ·rw [if_pos c96] at H
                    have c96b0 : decide ((ji94) < (l0_3.length : Int)) = true:=decide_eq_true c96
                    clear c96
                    replace H:=Option.bind_eq_some_iff.mp H
                    obtain ⟨t206,A970,H⟩:=H
                    replace H : (if t206 ≥ 0 then (some false) else (impl_AutomatonValid.l0 k2 l0_3 (l0_3.length : Int) (wrap64 (x38_2 + 1)) a0_0 l0_1 l0_2 l0_3)) = some r:=H
                    have A97:=Aside0.mk A970
                    clear A970
                    by_cases c98 : t206 ≥ 0
                    ·rw [if_pos c98] at H
                     have c98b0 : decide (0 ≤ t206) = true:=decide_eq_true c98
                     clear c98
                     obtain rfl:=Option.some.inj H
                     have p205 : 0 ≤ ((ji94) : Int):=od_
                     have q205 : (ji94) < (l0_3.length : Int):=od_
                     obtain ⟨ad205,e205,hx205_0,hx205_1,hx205_2,hx205_3⟩:=at_T92 HR0_3.out (ji94) p205 q205
                     have hw205_3:=hx205_3
                     have hw205_2:=hx205_2
                     have hw205_1:=hx205_1
                     have hw205_0:=hx205_0
                     obtain rfl : ad201 = ad205:=(by injection e205)
                     replace hx205_0:=hbc_ HB.out hx205_0
                     replace hx205_1:=hbc_ HB.out hx205_1
                     replace hx205_2:=hbc_ HB.out hx205_2
                     replace hx205_3:=hbc_ HB.out hx205_3
                     replace p205:=eq_true p205
                     replace q205:=eq_true q205
                     refine start_ (n:=57) (S:=fun w' => w'.cell? ⟨gb202,0,none⟩ = some (.int .i64 ((rd_T92 l0_3 x38_2).f0)) ∧ w'.cell? ⟨gb202,1,none⟩ = some (.string ((rd_T92 l0_3 x38_2).f1)) ∧ w'.cell? ⟨gb202,2,none⟩ = some (.int .i64 ((rd_T92 l0_3 x38_2).f2)) ∧ w'.cell? ⟨gb202,3,none⟩ = some (.int .i64 ((rd_T92 l0_3 x38_2).f3)) ∧ w'.cell? ⟨gb198,0,none⟩ = some (.int .i64 a0_0) ∧ w'.cell? ⟨gb198,1,none⟩ = some (.slice A0_1 l0_1.length c0_1) ∧ w'.cell? ⟨gb198,2,none⟩ = some (.slice A0_2 l0_2.length c0_2) ∧ w'.cell? ⟨gb198,3,none⟩ = some (.slice (some ad201) l0_3.length c0_3) ∧ w'.cell? (ad201.add (((ji94)).toNat * 4)) = some (.int .i64 ((rd_T92 l0_3 (ji94)).f0)) ∧ w'.cell? ⟨(ad201.add (((ji94)).toNat * 4)).block,(ad201.add (((ji94)).toNat * 4)).off + 1,none⟩ = some (.string ((rd_T92 l0_3 (ji94)).f1)) ∧ w'.cell? ⟨(ad201.add (((ji94)).toNat * 4)).block,(ad201.add (((ji94)).toNat * 4)).off + 2,none⟩ = some (.int .i64 ((rd_T92 l0_3 (ji94)).f2)) ∧ w'.cell? ⟨(ad201.add (((ji94)).toNat * 4)).block,(ad201.add (((ji94)).toNat * 4)).off + 3,none⟩ = some (.int .i64 ((rd_T92 l0_3 (ji94)).f3))) (ds:=[]) #[false,false,false,false,false,false,false,false,false,false,false,false,false,false,false,false,false,false,false,false,false,false,false,false,false,false,false,false,false,false,false,false,false,false,false,false,false,false,false,false,false,false,false,false,false,false,false,false,false,false,false,false,false,false,false,false,false] (by kernel_rfl) rfl rfl ⟨bc_ BK202 0,bc_ BK202 1,bc_ BK202 2,bc_ BK202 3,bc_ BK198 0,bc_ BK198 1,bc_ BK198 2,bc_ BK198 3,(hbc_ HB.out hw205_0),(hbc_ HB.out hw205_1),(hbc_ HB.out hw205_2),(hbc_ HB.out hw205_3)⟩ (fun hHeld => ?_);refine with_tabW impl_AutomatonValid.tab6 impl_AutomatonValid.bits6 (fun HT_ HW_ => ?_)
                     generalize w24.drew = w103 at BK198 BK202 HB hx205_0 hx205_1 hx205_2 hx205_3 hHeld ⊢
                     refine stW_ [.p 0 43,.t 1 44,.p 2 45,.p 3 46,.p 4 47,.p 6 49,.t 5 48,.t 7 50,.p 8 51,.p 9 52,.p 10 53,.p 11 54,.t 12 55,.p 13 56,.p 14 57,.p 15 58,.p 16 59,.p 18 61,.t 17 60,.t 19 62,.p 20 63,.p 21 64,.p 22 65,.p 23 66,.t 24 67,.p 25 68,.p 26 69,.p 27 70,.t 28 71,.p 29 72,.p 30 73,.p 31 74,.p 32 75,.p 33 76,.t 34 77,.p 35 78,.p 36 79,.p 37 80,.p 38 81,.t 39 82,.p 40 83,.p 41 84,.p 42 85,.p 43 86,.p 44 87,.p 45 88,.p 46 89,.p 48 91,.p 49 92,.t 47 90,.p 50 93,.t 51 94,.t 52 95] 53 9007199254740991 57 HT_.out HW_.out hHeld (a':=?_) ?_ rfl (by kernel_rfl) (fun _ _ _ _ h => h) ?_
                     rotate_left
                     ·repeat (first|exact Steps.nil|(refine Steps.p (oi:=?_) (v:=?_) (a1:=?_) ?_ ?_ ?_ ?_ ?_;rotate_left 2;rfl;rfl;(refine Or.inl ⟨by rfl,?_⟩;intro w';go_simp;with_reducible rfl);rotate_left;exact ap_)|(refine Steps.t (oi:=?_) (v:=?_) (a1:=?_) ?_ ?_ ?_ ?_ ?_;rotate_left 2;rfl;rfl;(refine Or.inl ⟨by rfl,?_⟩;rintro w' ⟨s0,s1,s2,s3,s4,s5,s6,s7,s8,s9,s10,s11⟩;go_simp;with_reducible rfl);rotate_left;exact ap_))
                     refine one_ (i:=53) (N:=some 96) #[true,true,true,true,true,true,true,true,true,true,true,true,true,true,true,true,true,true,true,true,true,true,true,true,true,true,true,true,true,true,true,true,true,true,true,true,true,true,true,true,true,true,true,true,true,true,true,true,true,true,true,true,true,true,false,false,false] rfl rfl (one_of HT_.out (by kernel_rfl)) (by decide) (fun K hK => ?_)
                     refine goes_ Try.func125 (by kernel_rfl) rfl #[.agg #[.int .i64 ((rd_T92 l0_3 (ji94)).f0),.string ((rd_T92 l0_3 (ji94)).f1),.int .i64 ((rd_T92 l0_3 (ji94)).f2),.int .i64 ((rd_T92 l0_3 (ji94)).f3)],.agg #[.int .i64 ((rd_T92 l0_3 x38_2).f0),.string ((rd_T92 l0_3 x38_2).f1),.int .i64 ((rd_T92 l0_3 x38_2).f2),.int .i64 ((rd_T92 l0_3 x38_2).f3)]] (by rfl) rfl rfl (by (try simp only [List.map_toArray,List.map_cons,List.map_nil]);first|done|(simp only [hji94];rfl)|rfl|(simp only [List.length_drop,List.length_take];rfl)) ?_
                     with_reducible refine (impl_stepOrder.calls k2 ((rd_T92 l0_3 (ji94)).f0) ((rd_T92 l0_3 (ji94)).f1) ((rd_T92 l0_3 (ji94)).f2) ((rd_T92 l0_3 (ji94)).f3) ((rd_T92 l0_3 x38_2).f0) ((rd_T92 l0_3 x38_2).f1) ((rd_T92 l0_3 x38_2).f2) ((rd_T92 l0_3 x38_2).f3) t206 _ A97.out).mono ?_
                     rintro e w104 ⟨rfl,hb⟩
                     refine ⟨_,rfl,?_⟩
                     replace BK198:=kc_ BK198 hb
                     replace BK202:=kc_ BK202 hb
                     replace HB:=hs2_ HB GE198 GE202 hb
                     (try clear hb)
                     (try clear hb2)
                     (try clear hk)
                     (try clear hi)
                     refine hK.out _ _ ⟨bc_ BK202 0,bc_ BK202 1,bc_ BK202 2,bc_ BK202 3,bc_ BK198 0,bc_ BK198 1,bc_ BK198 2,bc_ BK198 3,(hbc_ HB.out hw205_0),(hbc_ HB.out hw205_1),(hbc_ HB.out hw205_2),(hbc_ HB.out hw205_3)⟩ (fun hHeld => ?_)
                     clear hK K
                     refine norm_ (a':=?_) ?_ ?_
                     rotate_left
                     ·show Act.put _ (some 96) _ = _
                      simp only [Act.put,List.setIfInBounds_toArray,List.set_cons_zero,List.set_cons_succ,i64_w,i32_w]
                      rfl
                     refine stW_ [.p 54 97,.p 55 98,.p 56 99] 3 144115188075855871 57 HT_.out HW_.out hHeld (a':=?_) ?_ rfl (by kernel_rfl) (fun _ _ _ _ h => h) ?_
                     rotate_left
                     ·repeat (first|exact Steps.nil|(refine Steps.p (oi:=?_) (v:=?_) (a1:=?_) ?_ ?_ ?_ ?_ ?_;rotate_left 2;rfl;rfl;(refine Or.inl ⟨by rfl,?_⟩;intro w';go_simp;with_reducible rfl);rotate_left;exact ap_))
                     refine done_ (done_of HT_.out (by kernel_rfl)) ?_
                     try go_wp2
                     go_ret
                     exact ⟨by first|rfl|(simp [errW_none,errW_some] <;> rfl)|(simp only [← hji94];first|rfl|(simp [errW_none,errW_some] <;> rfl))|(simp [*,errW_none,errW_some] <;> rfl),be2_ HB.out GE198.out GE202.out⟩
                    ·rw [if_neg c98] at H
                     have c98b0 : decide (0 ≤ t206) = false:=decide_eq_false c98
                     clear c98
                     have H':=Aside0.mk H
                     clear H
                     have p205 : 0 ≤ ((ji94) : Int):=od_
                     have q205 : (ji94) < (l0_3.length : Int):=od_
                     obtain ⟨ad205,e205,hx205_0,hx205_1,hx205_2,hx205_3⟩:=at_T92 HR0_3.out (ji94) p205 q205
                     have hw205_3:=hx205_3
                     have hw205_2:=hx205_2
                     have hw205_1:=hx205_1
                     have hw205_0:=hx205_0
                     obtain rfl : ad201 = ad205:=(by injection e205)
                     replace hx205_0:=hbc_ HB.out hx205_0
                     replace hx205_1:=hbc_ HB.out hx205_1
                     replace hx205_2:=hbc_ HB.out hx205_2
                     replace hx205_3:=hbc_ HB.out hx205_3
                     replace p205:=eq_true p205
                     replace q205:=eq_true q205
                     refine start_ (n:=57) (S:=fun w' => w'.cell? ⟨gb202,0,none⟩ = some (.int .i64 ((rd_T92 l0_3 x38_2).f0)) ∧ w'.cell? ⟨gb202,1,none⟩ = some (.string ((rd_T92 l0_3 x38_2).f1)) ∧ w'.cell? ⟨gb202,2,none⟩ = some (.int .i64 ((rd_T92 l0_3 x38_2).f2)) ∧ w'.cell? ⟨gb202,3,none⟩ = some (.int .i64 ((rd_T92 l0_3 x38_2).f3)) ∧ w'.cell? ⟨gb198,0,none⟩ = some (.int .i64 a0_0) ∧ w'.cell? ⟨gb198,1,none⟩ = some (.slice A0_1 l0_1.length c0_1) ∧ w'.cell? ⟨gb198,2,none⟩ = some (.slice A0_2 l0_2.length c0_2) ∧ w'.cell? ⟨gb198,3,none⟩ = some (.slice (some ad201) l0_3.length c0_3) ∧ w'.cell? (ad201.add (((ji94)).toNat * 4)) = some (.int .i64 ((rd_T92 l0_3 (ji94)).f0)) ∧ w'.cell? ⟨(ad201.add (((ji94)).toNat * 4)).block,(ad201.add (((ji94)).toNat * 4)).off + 1,none⟩ = some (.string ((rd_T92 l0_3 (ji94)).f1)) ∧ w'.cell? ⟨(ad201.add (((ji94)).toNat * 4)).block,(ad201.add (((ji94)).toNat * 4)).off + 2,none⟩ = some (.int .i64 ((rd_T92 l0_3 (ji94)).f2)) ∧ w'.cell? ⟨(ad201.add (((ji94)).toNat * 4)).block,(ad201.add (((ji94)).toNat * 4)).off + 3,none⟩ = some (.int .i64 ((rd_T92 l0_3 (ji94)).f3))) (ds:=[]) #[false,false,false,false,false,false,false,false,false,false,false,false,false,false,false,false,false,false,false,false,false,false,false,false,false,false,false,false,false,false,false,false,false,false,false,false,false,false,false,false,false,false,false,false,false,false,false,false,false,false,false,false,false,false,false,false,false] (by kernel_rfl) rfl rfl ⟨bc_ BK202 0,bc_ BK202 1,bc_ BK202 2,bc_ BK202 3,bc_ BK198 0,bc_ BK198 1,bc_ BK198 2,bc_ BK198 3,(hbc_ HB.out hw205_0),(hbc_ HB.out hw205_1),(hbc_ HB.out hw205_2),(hbc_ HB.out hw205_3)⟩ (fun hHeld => ?_);refine with_tabW impl_AutomatonValid.tab6 impl_AutomatonValid.bits6 (fun HT_ HW_ => ?_)
                     generalize w24.drew = w109 at BK198 BK202 HB hx205_0 hx205_1 hx205_2 hx205_3 hHeld ⊢
                     refine stW_ [.p 0 43,.t 1 44,.p 2 45,.p 3 46,.p 4 47,.p 6 49,.t 5 48,.t 7 50,.p 8 51,.p 9 52,.p 10 53,.p 11 54,.t 12 55,.p 13 56,.p 14 57,.p 15 58,.p 16 59,.p 18 61,.t 17 60,.t 19 62,.p 20 63,.p 21 64,.p 22 65,.p 23 66,.t 24 67,.p 25 68,.p 26 69,.p 27 70,.t 28 71,.p 29 72,.p 30 73,.p 31 74,.p 32 75,.p 33 76,.t 34 77,.p 35 78,.p 36 79,.p 37 80,.p 38 81,.t 39 82,.p 40 83,.p 41 84,.p 42 85,.p 43 86,.p 44 87,.p 45 88,.p 46 89,.p 48 91,.p 49 92,.t 47 90,.p 50 93,.t 51 94,.t 52 95] 53 9007199254740991 57 HT_.out HW_.out hHeld (a':=?_) ?_ rfl (by kernel_rfl) (fun _ _ _ _ h => h) ?_
                     rotate_left
                     ·repeat (first|exact Steps.nil|(refine Steps.p (oi:=?_) (v:=?_) (a1:=?_) ?_ ?_ ?_ ?_ ?_;rotate_left 2;rfl;rfl;(refine Or.inl ⟨by rfl,?_⟩;intro w';go_simp;with_reducible rfl);rotate_left;exact ap_)|(refine Steps.t (oi:=?_) (v:=?_) (a1:=?_) ?_ ?_ ?_ ?_ ?_;rotate_left 2;rfl;rfl;(refine Or.inl ⟨by rfl,?_⟩;rintro w' ⟨s0,s1,s2,s3,s4,s5,s6,s7,s8,s9,s10,s11⟩;go_simp;with_reducible rfl);rotate_left;exact ap_))
                     refine one_ (i:=53) (N:=some 96) #[true,true,true,true,true,true,true,true,true,true,true,true,true,true,true,true,true,true,true,true,true,true,true,true,true,true,true,true,true,true,true,true,true,true,true,true,true,true,true,true,true,true,true,true,true,true,true,true,true,true,true,true,true,true,false,false,false] rfl rfl (one_of HT_.out (by kernel_rfl)) (by decide) (fun K hK => ?_)
                     refine goes_ Try.func125 (by kernel_rfl) rfl #[.agg #[.int .i64 ((rd_T92 l0_3 (ji94)).f0),.string ((rd_T92 l0_3 (ji94)).f1),.int .i64 ((rd_T92 l0_3 (ji94)).f2),.int .i64 ((rd_T92 l0_3 (ji94)).f3)],.agg #[.int .i64 ((rd_T92 l0_3 x38_2).f0),.string ((rd_T92 l0_3 x38_2).f1),.int .i64 ((rd_T92 l0_3 x38_2).f2),.int .i64 ((rd_T92 l0_3 x38_2).f3)]] (by rfl) rfl rfl (by (try simp only [List.map_toArray,List.map_cons,List.map_nil]);first|done|(simp only [hji94];rfl)|rfl|(simp only [List.length_drop,List.length_take];rfl)) ?_
                     with_reducible refine (impl_stepOrder.calls k2 ((rd_T92 l0_3 (ji94)).f0) ((rd_T92 l0_3 (ji94)).f1) ((rd_T92 l0_3 (ji94)).f2) ((rd_T92 l0_3 (ji94)).f3) ((rd_T92 l0_3 x38_2).f0) ((rd_T92 l0_3 x38_2).f1) ((rd_T92 l0_3 x38_2).f2) ((rd_T92 l0_3 x38_2).f3) t206 _ A97.out).mono ?_
                     rintro e w110 ⟨rfl,hb⟩
                     refine ⟨_,rfl,?_⟩
                     replace BK198:=kc_ BK198 hb
                     replace BK202:=kc_ BK202 hb
                     replace HB:=hs2_ HB GE198 GE202 hb
                     (try clear hb)
                     (try clear hb2)
                     (try clear hk)
                     (try clear hi)
                     refine hK.out _ _ ⟨bc_ BK202 0,bc_ BK202 1,bc_ BK202 2,bc_ BK202 3,bc_ BK198 0,bc_ BK198 1,bc_ BK198 2,bc_ BK198 3,(hbc_ HB.out hw205_0),(hbc_ HB.out hw205_1),(hbc_ HB.out hw205_2),(hbc_ HB.out hw205_3)⟩ (fun hHeld => ?_)
                     clear hK K
                     refine norm_ (a':=?_) ?_ ?_
                     rotate_left
                     ·show Act.put _ (some 96) _ = _
                      simp only [Act.put,List.setIfInBounds_toArray,List.set_cons_zero,List.set_cons_succ,i64_w,i32_w]
                      rfl
                     refine stW_ [.p 54 97,.p 55 98,.p 56 99] 3 144115188075855871 57 HT_.out HW_.out hHeld (a':=?_) ?_ rfl (by kernel_rfl) (fun _ _ _ _ h => h) ?_
                     rotate_left
                     ·repeat (first|exact Steps.nil|(refine Steps.p (oi:=?_) (v:=?_) (a1:=?_) ?_ ?_ ?_ ?_ ?_;rotate_left 2;rfl;rfl;(refine Or.inl ⟨by rfl,?_⟩;intro w';go_simp;with_reducible rfl);rotate_left;exact ap_))
                     refine done_ (done_of HT_.out (by kernel_rfl)) ?_
                     try go_wp2
                     go_roundg k2
                     case measure => have:=HJ1.out;have:=HK2.out;omega
                     case rel => exact ⟨(wrap64 (x38_2 + 1)),rs_,H',⟨by have:=HJ1.out;have:=HK2.out;omega⟩,⟨pe_ BK198.out⟩,⟨be2_ HB.out GE198.out GE202.out⟩⟩
                   ·rw [if_neg c96] at H
                    exact absurd H (by simp)
                  ·rw [if_neg c95] at H
                   exact absurd H (by simp)
                 ·rw [if_neg c93] at H
                  have c93b0 : decide (0 < x38_2) = false:=decide_eq_false c93
                  clear c93
                  have H':=Aside0.mk H
                  clear H
                  refine start_ (n:=57) (S:=fun w' => w'.cell? ⟨gb202,0,none⟩ = some (.int .i64 ((rd_T92 l0_3 x38_2).f0)) ∧ w'.cell? ⟨gb202,1,none⟩ = some (.string ((rd_T92 l0_3 x38_2).f1)) ∧ w'.cell? ⟨gb202,2,none⟩ = some (.int .i64 ((rd_T92 l0_3 x38_2).f2)) ∧ w'.cell? ⟨gb202,3,none⟩ = some (.int .i64 ((rd_T92 l0_3 x38_2).f3)) ∧ w'.cell? ⟨gb198,0,none⟩ = some (.int .i64 a0_0) ∧ w'.cell? ⟨gb198,1,none⟩ = some (.slice A0_1 l0_1.length c0_1) ∧ w'.cell? ⟨gb198,2,none⟩ = some (.slice A0_2 l0_2.length c0_2) ∧ w'.cell? ⟨gb198,3,none⟩ = some (.slice (some ad201) l0_3.length c0_3)) (ds:=[]) #[false,false,false,false,false,false,false,false,false,false,false,false,false,false,false,false,false,false,false,false,false,false,false,false,false,false,false,false,false,false,false,false,false,false,false,false,false,false,false,false,false,false,false,false,false,false,false,false,false,false,false,false,false,false,false,false,false] (by kernel_rfl) rfl rfl ⟨bc_ BK202 0,bc_ BK202 1,bc_ BK202 2,bc_ BK202 3,bc_ BK198 0,bc_ BK198 1,bc_ BK198 2,bc_ BK198 3⟩ (fun hHeld => ?_);refine with_tabW impl_AutomatonValid.tab6 impl_AutomatonValid.bits6 (fun HT_ HW_ => ?_)
                  generalize w24.drew = w115 at BK198 BK202 HB hHeld ⊢
                  refine stW_ [.p 0 43,.t 1 44,.p 2 45,.p 3 46,.p 4 47,.p 6 49,.t 5 48,.t 7 50,.p 8 51,.p 9 52,.p 10 53,.p 11 54,.t 12 55,.p 13 56,.p 14 57,.p 15 58,.p 16 59,.p 18 61,.t 17 60,.t 19 62,.p 20 63,.p 21 64,.p 22 65,.p 23 66,.t 24 67,.p 25 68,.p 26 69,.p 27 70,.t 28 71,.p 29 72,.p 30 73,.p 31 74,.p 32 75,.p 33 76,.t 34 77,.p 35 78,.p 36 79,.p 37 80,.p 38 81,.t 39 82,.p 40 83,.p 41 84,.p 42 85,.p 43 86,.p 44 87,.p 45 88,.u 46 89,.u 47 90,.u 48 91,.u 49 92,.u 50 93,.u 51 94,.u 52 95,.u 53 96,.u 54 97,.p 55 98,.p 56 99] 57 144115188075855871 57 HT_.out HW_.out hHeld (a':=?_) ?_ rfl (by kernel_rfl) (fun _ _ _ _ h => h) ?_
                  rotate_left
                  ·repeat (first|exact Steps.nil|(refine Steps.u (oi:=?_) (a1:=?_) ?_ ?_ ?_ ?_ ?_;rotate_left 1;rfl;rfl;exact Or.inr ⟨by rfl,rfl⟩;rotate_left;exact ap_)|(refine Steps.p (oi:=?_) (v:=?_) (a1:=?_) ?_ ?_ ?_ ?_ ?_;rotate_left 2;rfl;rfl;(refine Or.inl ⟨by rfl,?_⟩;intro w';go_simp;with_reducible rfl);rotate_left;exact ap_)|(refine Steps.t (oi:=?_) (v:=?_) (a1:=?_) ?_ ?_ ?_ ?_ ?_;rotate_left 2;rfl;rfl;(refine Or.inl ⟨by rfl,?_⟩;rintro w' ⟨s0,s1,s2,s3,s4,s5,s6,s7⟩;go_simp;with_reducible rfl);rotate_left;exact ap_))
                  refine done_ (done_of HT_.out (by kernel_rfl)) ?_
                  try go_wp2
                  go_roundg k2
                  case measure => have:=HJ1.out;have:=HK2.out;omega
                  case rel => exact ⟨(wrap64 (x38_2 + 1)),rs_,H',⟨by have:=HJ1.out;have:=HK2.out;omega⟩,⟨pe_ BK198.out⟩,⟨be2_ HB.out GE198.out GE202.out⟩⟩
              ·rw [if_neg c80] at H
               have c80b0 : (((rd_T92 l0_3 x38_2).f1).toList == ([98] : List UInt8)) = false:=beq_eq_false_iff_ne.mpr c80
               have c80b1 : (((rd_T92 l0_3 x38_2).f1).toList != ([98] : List UInt8)) = true:=bne_iff_ne.mpr c80
               obtain rfl:=Option.some.inj H
               refine start_ (n:=57) (S:=fun w' => w'.cell? ⟨gb202,0,none⟩ = some (.int .i64 ((rd_T92 l0_3 x38_2).f0)) ∧ w'.cell? ⟨gb202,1,none⟩ = some (.string ((rd_T92 l0_3 x38_2).f1)) ∧ w'.cell? ⟨gb202,2,none⟩ = some (.int .i64 ((rd_T92 l0_3 x38_2).f2)) ∧ w'.cell? ⟨gb202,3,none⟩ = some (.int .i64 ((rd_T92 l0_3 x38_2).f3)) ∧ w'.cell? ⟨gb198,0,none⟩ = some (.int .i64 a0_0) ∧ w'.cell? ⟨gb198,1,none⟩ = some (.slice A0_1 l0_1.length c0_1) ∧ w'.cell? ⟨gb198,2,none⟩ = some (.slice A0_2 l0_2.length c0_2) ∧ w'.cell? ⟨gb198,3,none⟩ = some (.slice (some ad201) l0_3.length c0_3)) (ds:=[]) #[false,false,false,false,false,false,false,false,false,false,false,false,false,false,false,false,false,false,false,false,false,false,false,false,false,false,false,false,false,false,false,false,false,false,false,false,false,false,false,false,false,false,false,false,false,false,false,false,false,false,false,false,false,false,false,false,false] (by kernel_rfl) rfl rfl ⟨bc_ BK202 0,bc_ BK202 1,bc_ BK202 2,bc_ BK202 3,bc_ BK198 0,bc_ BK198 1,bc_ BK198 2,bc_ BK198 3⟩ (fun hHeld => ?_);refine with_tabW impl_AutomatonValid.tab6 impl_AutomatonValid.bits6 (fun HT_ HW_ => ?_)
               generalize w24.drew = w120 at BK198 BK202 HB hHeld ⊢
               refine stW_ [.p 0 43,.t 1 44,.p 2 45,.p 3 46,.p 4 47,.p 6 49,.t 5 48,.t 7 50,.p 8 51,.p 9 52,.p 10 53,.p 11 54,.t 12 55,.p 13 56,.p 14 57,.p 15 58,.p 16 59,.p 18 61,.t 17 60,.t 19 62,.p 20 63,.p 21 64,.p 22 65,.p 23 66,.t 24 67,.p 25 68,.p 26 69,.p 27 70,.t 28 71,.p 29 72,.p 30 73,.p 31 74,.p 32 75,.u 33 76,.u 34 77,.u 35 78,.p 36 79,.p 37 80,.u 38 81,.u 39 82,.u 40 83,.p 41 84,.p 42 85,.u 43 86,.u 44 87,.u 45 88,.u 46 89,.u 47 90,.u 48 91,.u 49 92,.u 50 93,.u 51 94,.u 52 95,.u 53 96,.u 54 97,.u 55 98,.p 56 99] 57 144115188075855871 57 HT_.out HW_.out hHeld (a':=?_) ?_ rfl (by kernel_rfl) (fun _ _ _ _ h => h) ?_
               rotate_left
               ·repeat (first|exact Steps.nil|(refine Steps.u (oi:=?_) (a1:=?_) ?_ ?_ ?_ ?_ ?_;rotate_left 1;rfl;rfl;exact Or.inr ⟨by rfl,rfl⟩;rotate_left;exact ap_)|(refine Steps.p (oi:=?_) (v:=?_) (a1:=?_) ?_ ?_ ?_ ?_ ?_;rotate_left 2;rfl;rfl;(refine Or.inl ⟨by rfl,?_⟩;intro w';go_simp;with_reducible rfl);rotate_left;exact ap_)|(refine Steps.t (oi:=?_) (v:=?_) (a1:=?_) ?_ ?_ ?_ ?_ ?_;rotate_left 2;rfl;rfl;(refine Or.inl ⟨by rfl,?_⟩;rintro w' ⟨s0,s1,s2,s3,s4,s5,s6,s7⟩;go_simp;with_reducible rfl);rotate_left;exact ap_))
               refine done_ (done_of HT_.out (by kernel_rfl)) ?_
               try go_wp2
               go_ret
               exact ⟨er_,be2_ HB.out GE198.out GE202.out⟩
        ·rw [if_neg c19] at H
         exact absurd H (by simp)
       ·rw [if_neg c18] at H
        exact absurd H (by simp)
      ·rw [if_neg c17] at H
       have c17b0 : decide (x38_2 < (l0_3.length : Int)) = false:=decide_eq_false c17
       clear c17
       obtain rfl:=Option.some.inj H
       go_wp2
       go_ret
       exact ⟨er_,be1_ HB.out GE198.out⟩
def stringslite_HasPrefix.f (a0 : ByteArray) (a1 : ByteArray) : Option (Bool):=if (a0.size : Int) ≥ (a1.size : Int) then (if 0 ≤ (a1.size : Int) then (if (a1.size : Int) ≤ (a0.size : Int) then (some ((a0.extract 0 ((a1.size : Int) : Int).toNat).toList == a1.toList)) else (none)) else (none)) else (some false)
set_option maxHeartbeats 8000000 in
set_option maxRecDepth 100000 in
theorem stringslite_HasPrefix.calls (a0 : ByteArray) (a1 : ByteArray) (r : Bool) (w : World) (h : stringslite_HasPrefix.f a0 a1 = some r) :
  Calls Try.prog 183 #[.string a0,.string a1] w fun e w' => e = .returned (.bool r) ∧ Drawn0 w w':=by
 have H : (if (a0.size : Int) ≥ (a1.size : Int) then (if 0 ≤ (a1.size : Int) then (if (a1.size : Int) ≤ (a0.size : Int) then (some ((a0.extract 0 ((a1.size : Int) : Int).toNat).toList == a1.toList)) else (none)) else (none)) else (some false)) = some r:=h
 clear h
 by_cases c3 : (a0.size : Int) ≥ (a1.size : Int)
 ·rw [if_pos c3] at H
  have c3b0 : decide ((a1.size : Int) ≤ (a0.size : Int)) = true:=decide_eq_true c3
  have c3b1 : decide (a1.size ≤ a0.size) = true:=decide_eq_true (Int.ofNat_le.mp c3)
  clear c3
  by_cases c4 : 0 ≤ (a1.size : Int)
  ·rw [if_pos c4] at H
   have c4b0:=eq_true c4
   have c4b1 : decide (0 ≤ (a1.size : Int)) = true:=decide_eq_true c4
   clear c4
   by_cases c5 : (a1.size : Int) ≤ (a0.size : Int)
   ·rw [if_pos c5] at H
    have c5b0:=eq_true c5
    have c5b1 : decide ((a1.size : Int) ≤ (a0.size : Int)) = true:=decide_eq_true c5
    clear c5
    obtain rfl:=Option.some.inj H
    go_enter Try.func183,Try.ntmps183
    go_wp2
    go_ret
    exact ⟨by first|rfl|(simp;done)|(simp [*];done),by repeat (first|exact Drawn0.refl _|apply Drawn0.step)⟩
   ·rw [if_neg c5] at H
    exact absurd H (by simp)
  ·rw [if_neg c4] at H
   exact absurd H (by simp)
 ·rw [if_neg c3] at H
  have c3b0 : decide ((a1.size : Int) ≤ (a0.size : Int)) = false:=decide_eq_false c3
  have c3b1 : decide (a1.size ≤ a0.size) = false:=decide_eq_false (fun h => c3 (Int.ofNat_le.mpr h))
  clear c3
  obtain rfl:=Option.some.inj H
  go_enter Try.func183,Try.ntmps183
  go_wp2
  go_ret
  exact ⟨by first|rfl|(simp;done)|(simp [*];done),by repeat (first|exact Drawn0.refl _|apply Drawn0.step)⟩
def strings_HasPrefix.f (a0 : ByteArray) (a1 : ByteArray) : Option (Bool):=(stringslite_HasPrefix.f a0 a1).bind fun t699 => (some t699)
set_option maxHeartbeats 8000000 in
set_option maxRecDepth 100000 in
theorem strings_HasPrefix.calls (a0 : ByteArray) (a1 : ByteArray) (r : Bool) (w : World) (h : strings_HasPrefix.f a0 a1 = some r) :
  Calls Try.prog 168 #[.string a0,.string a1] w fun e w' => e = .returned (.bool r) ∧ Drawn0 w w':=by
 have H : ((stringslite_HasPrefix.f a0 a1).bind fun t699 => (some t699)) = some r:=h
 clear h
 replace H:=Option.bind_eq_some_iff.mp H
 obtain ⟨t699,A30,H⟩:=H
 replace H : (some t699) = some r:=H
 have A3:=Aside0.mk A30
 clear A30
 obtain rfl:=Option.some.inj H
 go_enter Try.func168,Try.ntmps168
 go_wp2_with (first|((with_reducible refine gate_callee (f:=183) rfl ?_);refine goesL_ (some 7) rfl rfl Try.func183 (by kernel_rfl) rfl #[.string a0,.string a1] rfl lp_ ?_;(with_reducible refine (stringslite_HasPrefix.calls a0 a1 t699 _ A3.out).mono ?_);rintro e w' ⟨rfl,⟨nd,rfl⟩⟩;refine ⟨_,rfl,?_⟩))
 go_ret
 exact ⟨by first|rfl|(simp;done)|(simp [*];done),by repeat (first|exact Drawn0.refl _|apply Drawn0.step)⟩
mutual
def impl_readParts.l0 : Nat → ByteArray → List (S136) → Option ((List (S136)) × ByteArray)
 | 0,_,_ => none
 | k + 1,x0,x4 => if x0.toList = ([] : List UInt8) then (some (x4,x0)) else (if 0 < (x0.size : Int) then (if (bt x0 0) = 97 then (impl_readParts.j1 k x0 x4 (bt x0 0) ((bt x0 0) == 97)) else (impl_readParts.j1 k x0 x4 (bt x0 0) ((bt x0 0) == 98))) else (none))
def impl_readParts.j1 : Nat → ByteArray → List (S136) → Int → Bool → Option ((List (S136)) × ByteArray)
 | 0,_,_,_,_ => none
 | k + 1,x0,x4,x11,x12 => if x12 = true then (if 0 ≤ 1 then (if 1 ≤ (x0.size : Int) then (if x4.length < 3518437208883 then (impl_readParts.l0 k (x0.extract 1 x0.size) (x4 ++ [(⟨x0.extract 0 1,([] : List (S136))⟩ : S136)])) else (none)) else (none)) else (none)) else (if x11 = 40 then (if 1 ≤ (x0.size : Int) then ((impl_readParts.f k (x0.extract 1 x0.size)).bind fun bt706 => (if (bt706.1.length : Int) > 0 then ((strings_HasPrefix.f bt706.2 (⟨#[41,35]⟩ : ByteArray)).bind fun t710 => (if t710 = true then (if x4.length < 3518437208883 then (if 2 ≤ (bt706.2.size : Int) then (impl_readParts.l0 k (bt706.2.extract 2 bt706.2.size) (x4 ++ [(⟨(⟨#[]⟩ : ByteArray),bt706.1⟩ : S136)])) else (none)) else (none)) else (some (x4,x0)))) else (some (x4,x0)))) else (none)) else (some (x4,x0)))
def impl_readParts.f : Nat → ByteArray → Option ((List (S136)) × ByteArray)
 | 0,_ => none
 | k + 1,a0 => impl_readParts.l0 k a0 (([] : List (S136)))
end
theorem impl_readParts.mono_l : ∀ k,(∀ y0,LeO (impl_readParts.f k y0) (impl_readParts.f (k + 1) y0)) ∧ (∀ y0 y1,LeO (impl_readParts.l0 k y0 y1) (impl_readParts.l0 (k + 1) y0 y1)) ∧ (∀ y0 y1 y2 y3,LeO (impl_readParts.j1 k y0 y1 y2 y3) (impl_readParts.j1 (k + 1) y0 y1 y2 y3))
 | 0 => ⟨fun _ r h => by simp [impl_readParts.f] at h,fun _ _ r h => by simp [impl_readParts.l0] at h,fun _ _ _ _ r h => by simp [impl_readParts.j1] at h⟩
 | k + 1 => by
  obtain ⟨ih0,ih1,ih2⟩:=impl_readParts.mono_l k
  refine ⟨?_,?_,?_⟩
  ·intro y0
   unfold impl_readParts.f
   repeat' first
   | (with_reducible exact ih0 _)
   | (with_reducible exact ih1 _ _)
   | (with_reducible exact ih2 _ _ _ _)
   | (with_reducible first|exact LeO.refl _|exact LeO.none _|refine LeO.ite ?_ ?_|refine LeO.bind ?_ (fun _ => ?_))
   | exact ih0 _
   | exact ih1 _ _
   | exact ih2 _ _ _ _
   | exact LeO.none _
   | refine LeO.ite ?_ ?_
   | refine LeO.bind ?_ (fun _ => ?_)
  ·intro y0 y1
   unfold impl_readParts.l0
   repeat' first
   | (with_reducible exact ih0 _)
   | (with_reducible exact ih1 _ _)
   | (with_reducible exact ih2 _ _ _ _)
   | (with_reducible first|exact LeO.refl _|exact LeO.none _|refine LeO.ite ?_ ?_|refine LeO.bind ?_ (fun _ => ?_))
   | exact ih0 _
   | exact ih1 _ _
   | exact ih2 _ _ _ _
   | exact LeO.none _
   | refine LeO.ite ?_ ?_
   | refine LeO.bind ?_ (fun _ => ?_)
  ·intro y0 y1 y2 y3
   unfold impl_readParts.j1
   repeat' first
   | (with_reducible exact ih0 _)
   | (with_reducible exact ih1 _ _)
   | (with_reducible exact ih2 _ _ _ _)
   | (with_reducible first|exact LeO.refl _|exact LeO.none _|refine LeO.ite ?_ ?_|refine LeO.bind ?_ (fun _ => ?_))
   | exact ih0 _
   | exact ih1 _ _
   | exact ih2 _ _ _ _
   | exact LeO.none _
   | refine LeO.ite ?_ ?_
   | refine LeO.bind ?_ (fun _ => ?_)
theorem impl_readParts.mono : ∀ a0 k,LeO (impl_readParts.f k a0) (impl_readParts.f (k + 1) a0):=by
 intro a0 k
 obtain ⟨ih0,ih1,ih2⟩:=impl_readParts.mono_l k
 exact ih0 a0
set_option maxHeartbeats 8000000 in
set_option maxRecDepth 100000 in
theorem impl_readParts.calls (k : Nat) : ∀ (a0 : ByteArray) (r1 : List (S136)) (r2 : ByteArray) (w : World) (h : impl_readParts.f k a0 = some (r1,r2)),
  Calls Try.prog 145 #[.string a0] w fun e w' => ∃ v0_ : Value,e = .returned (.tuple #[v0_,.string r2]) ∧ Kd.R k136 136 w' w.heap.size (fun _ => True) v0_ r1 ∧ Below w.heap.size w w':=by
 induction k using Nat.strongRecOn with
 | _ k ih =>
 intro a0 r1 r2 w h
 cases k with
 | zero => exact absurd h (by simp [impl_readParts.f])
 | succ k =>
 simp only [impl_readParts.f] at h
 have hu136:=Try.underlying136
 have HB:=Aside0.mk (Below.refl w.heap.size w)
 have H : (impl_readParts.l0 k a0 (([] : List (S136)))) = some (r1,r2):=h
 clear h
 obtain ⟨y700,hy700⟩ : ∃ y_ : List (S136),y_ = (([] : List (S136))):=⟨_,rfl⟩
 replace H : (impl_readParts.l0 k a0 y700) = some (r1,r2):=by first|(rw [hy700];with_reducible exact H)|(have H2_:=(Option.bind_some _ _).symm.trans H;rw [hy700];with_reducible exact H2_)|(have H2_:=(Option.bind_some _ _).symm.trans H;with_reducible exact H2_)|with_reducible exact H|(rw [hy700];exact H)|exact H
 have Ny700:=Aside0.mk hy700
 clear hy700
 have H':=Aside0.mk H
 clear H
 go_enter Try.func145,Try.ntmps145
 go_wp2_with (first|((with_reducible refine gate_dst (N:=7) rfl ?_);refine Kd.R_lit k136 _ 136 ?hg (N:=7) ?hd (xs:=([] : List (S136))) (inner:=[]) (ok:=fun _ => True) (okp:=fun _ => True) ?hr ?hp (fun _ hk => hk) trivial (Below.refl _ _) (Nat.le_refl _) (by simp) ?_;(case hd => rfl);(case hg => rfl);(case hr => first|(go_simp;done)|(go_simp;rfl));(case hp => exact (Reps.none _ _));intro v701 w2 ho3 hb hg_ hnew_;clear hg_ hnew_;(first|rw [← Ny700.out] at ho3|(simp only [Int.reduceToNat] at ho3;rw [← Ny700.out] at ho3));have HO702:=Aside0.mk (Kd.R_lower ho3 (below_size (be0_ HB.out)));replace HB:=hs0_ HB hb;clear hb ho3))
 go_loopg [0,4] k (fun kq v0 v4 w' => ∃ (x0_1 : ByteArray) (x4_1 : List (S136)),v0 = .string x0_1 ∧ Aside0 (impl_readParts.l0 kq x0_1 x4_1 = some (r1,r2)) ∧ Aside0 (kq ≤ k) ∧ Aside0 (Kd.R k136 136 w' w.heap.size (fun _ => True) v4 x4_1) ∧ Aside0 (Below w.heap.size w w'))
 case atStart => exact ⟨(a0),(y700),rs_,H',⟨Nat.le_refl _⟩,⟨pr_ HO702.out⟩,⟨be0_ HB.out⟩⟩
 case round =>
  clear H'
  obtain ⟨x0_1,x4_1,rfl,HA,HK1,HO_4,HB⟩:=hrel
  cases gk with
  | zero => exact absurd HA.out (by simp [impl_readParts.l0])
  | succ k1 =>
   have H:=HA.out
   clear HA
   simp only [impl_readParts.l0] at H
   by_cases c4 : x0_1.toList = ([] : List UInt8)
   ·rw [if_pos c4] at H
    have c4b0 : (x0_1.toList == ([] : List UInt8)) = true:=beq_iff_eq.mpr c4
    have c4b1 : (x0_1.toList != ([] : List UInt8)) = false:=bne_eq_false_iff_eq.mpr c4
    clear c4
    simp only [Option.some.injEq,Prod.mk.injEq] at H
    obtain ⟨rfl,rfl⟩:=H
    go_wp2
    go_ret2
    exact ⟨_,er_,pr_ HO_4.out,be0_ HB.out⟩
   ·rw [if_neg c4] at H
    have c4b0 : (x0_1.toList == ([] : List UInt8)) = false:=beq_eq_false_iff_ne.mpr c4
    have c4b1 : (x0_1.toList != ([] : List UInt8)) = true:=bne_iff_ne.mpr c4
    by_cases c5 : 0 < (x0_1.size : Int)
    ·rw [if_pos c5] at H
     have c5b0 : decide (0 < (x0_1.size : Int)) = true:=decide_eq_true c5
     have c5b1 : decide (0 < x0_1.size) = true:=decide_eq_true (by omega)
     clear c5
     have HC7:=Aside0.mk H
     clear H
     have p6 : 0 ≤ (0 : Int):=(by omega)
     have q6 : 0 < x0_1.size:=(by have : (0 : Int) < (x0_1.size : Int):=od_;omega)
     have hx6 : ∀ h : 0 < x0_1.size,((x0_1[0]'h).toNat : Int) = bt x0_1 0:=bt_at x0_1 0
     clear p6
     have qi6 : (0 < (x0_1.size : Int)) = True:=eq_true (od_)
     replace q6:=eq_true q6
     go_upto_if 12 with (fail)
     go_cut [12] (fun v12 wc => ∃ (kq : Nat) (x12_6 : Bool),v12 = .bool x12_6 ∧ Aside0 (impl_readParts.j1 kq x0_1 x4_1 (bt x0_1 0) x12_6 = some (r1,r2)) ∧ Aside0 (kq ≤ k1) ∧ Aside0 (Kd.R k136 136 wc w.heap.size (fun _ => True) u4 x4_1) ∧ Aside0 (Below w.heap.size w wc))
     case first =>
      have H:=HC7.out
      clear HC7
      by_cases c8 : (bt x0_1 0) = 97
      ·rw [if_pos c8] at H
       have c8b0 : ((bt x0_1 0) == 97) = true:=beq_iff_eq.mpr c8
       have c8b1 : ((bt x0_1 0) != 97) = false:=bne_eq_false_iff_eq.mpr c8
       clear c8
       (first|rw [c8b0]|(simp only [i64_w,i32_w];rw [c8b0])|skip)
       have H':=Aside0.mk H
       clear H
       go_wp2
       go_meet
       case rel => exact ⟨_,(((bt x0_1 0) == 97)),rs_,H',⟨by have:=HK1.out;first|omega|exact Nat.le_refl _⟩,⟨pr_ HO_4.out⟩,⟨be0_ HB.out⟩⟩
      ·rw [if_neg c8] at H
       have c8b0 : ((bt x0_1 0) == 97) = false:=beq_eq_false_iff_ne.mpr c8
       have c8b1 : ((bt x0_1 0) != 97) = true:=bne_iff_ne.mpr c8
       (first|rw [c8b0]|(simp only [i64_w,i32_w];rw [c8b0])|skip)
       have H':=Aside0.mk H
       clear H
       go_wp2
       go_meet
       case rel => exact ⟨_,(((bt x0_1 0) == 98)),rs_,H',⟨by have:=HK1.out;first|omega|exact Nat.le_refl _⟩,⟨pr_ HO_4.out⟩,⟨be0_ HB.out⟩⟩
     case rest =>
      clear HC7
      try clear hx6
      try clear qi6
      obtain ⟨kq,x12_6,rfl,HA,HJ6,HO_4,HB⟩:=hcut
      cases kq with
      | zero => exact absurd HA.out (by simp [impl_readParts.j1])
      | succ kj6 =>
       have H:=HA.out
       clear HA
       simp only [impl_readParts.j1] at H
       by_cases c9 : x12_6 = true
       ·subst c9
        have H1 : (if 0 ≤ 1 then (if 1 ≤ (x0_1.size : Int) then (if x4_1.length < 3518437208883 then (impl_readParts.l0 kj6 (x0_1.extract 1 x0_1.size) (x4_1 ++ [(⟨x0_1.extract 0 1,([] : List (S136))⟩ : S136)])) else (none)) else (none)) else (none)) = some (r1,r2):=by rw [if_pos rfl] at H;exact H
        clear H
        have H:=H1
        clear H1
        by_cases c10 : 0 ≤ 1
        ·rw [if_pos c10] at H
         have c10b0:=eq_true c10
         have c10b1 : decide (0 ≤ 1) = true:=decide_eq_true c10
         clear c10
         by_cases c11 : 1 ≤ (x0_1.size : Int)
         ·rw [if_pos c11] at H
          have c11b0:=eq_true c11
          have c11b1 : decide (1 ≤ (x0_1.size : Int)) = true:=decide_eq_true c11
          clear c11
          by_cases c12 : x4_1.length < 3518437208883
          ·rw [if_pos c12] at H
           have LMc12:=Aside0.mk c12
           clear c12
           obtain ⟨y703,hy703⟩ : ∃ y_ : List (S136),y_ = (x4_1 ++ [(⟨x0_1.extract 0 1,([] : List (S136))⟩ : S136)]):=⟨_,rfl⟩
           replace H : (impl_readParts.l0 kj6 (x0_1.extract 1 x0_1.size) y703) = some (r1,r2):=by first|(rw [hy703];with_reducible exact H)|(have H2_:=(Option.bind_some _ _).symm.trans H;rw [hy703];with_reducible exact H2_)|(have H2_:=(Option.bind_some _ _).symm.trans H;with_reducible exact H2_)|with_reducible exact H|(rw [hy703];exact H)|exact H
           have Ny703:=Aside0.mk hy703
           clear hy703
           have c13b0:=eq_true (od_ : 1 ≤ (x0_1.size : Int))
           have H':=Aside0.mk H
           clear H
           go_wp2_with (first|((with_reducible refine gate_builtin (b:=.append) (xs:=#[.tmp 15,.tmp 19]) rfl ?_);at_builtin;refine Kd.R_append k136 (w0:=w) w.heap.size rfl (.tmp 15) (.tmp 19) 95 136 (.agg #[(.string ⟨#[]⟩),(.slice none 0 0)]) 40 rfl Try.underlying95 info136 rfl (by decide) (by omega) u4 x4_1 (⟨x0_1.extract 0 1,([] : List (S136))⟩ : S136) [.string (x0_1.extract 0 1),.slice none 0 0] (fun _ => True) (fun k_ => ((fun _ => True)) k_ ∧ some k_ ≠ (u4 : Value).ownBlock) rfl rfl ?aP (fun _ hk => hk) ?aF ?aO ?aB ?aS ?aL ?_;(case aP => exact k136_mkM _ _ _ (⟨x0_1.extract 0 1,([] : List (S136))⟩ : S136) (Kd.R_nil _ _ _ _ _));(case aB => exact (be0_ HB.out));(case aF => exact (fun _ _ => trivial));(case aO => exact (pr_ HO_4.out));(case aS => exact (below_size (be0_ HB.out)));(case aL => have:=LMc12.out;omega);intro v704 w14 ho hb hg hat;rw [← Ny703.out] at ho;replace HB:=Aside0.mk (hb);have HO705:=Aside0.mk (ho);clear HO_4;clear ho hb hg hat))
           go_roundg kj6
           case measure => have:=HK1.out;have:=HJ6.out;omega
           case rel => exact ⟨(x0_1.extract 1 x0_1.size),(y703),rs_,H',⟨by have:=HK1.out;have:=HJ6.out;omega⟩,⟨pr_ HO705.out⟩,⟨be0_ HB.out⟩⟩
          ·rw [if_neg c12] at H
           exact absurd H (by simp)
         ·rw [if_neg c11] at H
          exact absurd H (by simp)
        ·rw [if_neg c10] at H
         exact absurd H (by simp)
       ·replace c9:=Bool.eq_false_iff.mpr c9
        subst c9
        have H1 : (if (bt x0_1 0) = 40 then (if 1 ≤ (x0_1.size : Int) then ((impl_readParts.f kj6 (x0_1.extract 1 x0_1.size)).bind fun bt706 => (if (bt706.1.length : Int) > 0 then ((strings_HasPrefix.f bt706.2 (⟨#[41,35]⟩ : ByteArray)).bind fun t710 => (if t710 = true then (if x4_1.length < 3518437208883 then (if 2 ≤ (bt706.2.size : Int) then (impl_readParts.l0 kj6 (bt706.2.extract 2 bt706.2.size) (x4_1 ++ [(⟨(⟨#[]⟩ : ByteArray),bt706.1⟩ : S136)])) else (none)) else (none)) else (some (x4_1,x0_1)))) else (some (x4_1,x0_1)))) else (none)) else (some (x4_1,x0_1))) = some (r1,r2):=by rw [if_neg (show ¬ (false = true) by decide)] at H;exact H
        clear H
        have H:=H1
        clear H1
        by_cases c15 : (bt x0_1 0) = 40
        ·rw [if_pos c15] at H
         have c15b0 : ((bt x0_1 0) == 40) = true:=beq_iff_eq.mpr c15
         have c15b1 : ((bt x0_1 0) != 40) = false:=bne_eq_false_iff_eq.mpr c15
         clear c15
         by_cases c16 : 1 ≤ (x0_1.size : Int)
         ·rw [if_pos c16] at H
          have c16b0:=eq_true c16
          have c16b1 : decide (1 ≤ (x0_1.size : Int)) = true:=decide_eq_true c16
          clear c16
          replace H:=Option.bind_eq_some_iff.mp H
          obtain ⟨⟨t706,t707⟩,A170,H⟩:=H
          replace H : (if (t706.length : Int) > 0 then ((strings_HasPrefix.f t707 (⟨#[41,35]⟩ : ByteArray)).bind fun t710 => (if t710 = true then (if x4_1.length < 3518437208883 then (if 2 ≤ (t707.size : Int) then (impl_readParts.l0 kj6 (t707.extract 2 t707.size) (x4_1 ++ [(⟨(⟨#[]⟩ : ByteArray),t706⟩ : S136)])) else (none)) else (none)) else (some (x4_1,x0_1)))) else (some (x4_1,x0_1))) = some (r1,r2):=H
          have A17:=Aside0.mk A170
          clear A170
          by_cases c18 : (t706.length : Int) > 0
          ·rw [if_pos c18] at H
           have c18b0 : decide (0 < (t706.length : Int)) = true:=decide_eq_true c18
           have c18b1 : decide (0 < t706.length) = true:=decide_eq_true (by omega)
           clear c18
           replace H:=Option.bind_eq_some_iff.mp H
           obtain ⟨t710,A190,H⟩:=H
           replace H : (if t710 = true then (if x4_1.length < 3518437208883 then (if 2 ≤ (t707.size : Int) then (impl_readParts.l0 kj6 (t707.extract 2 t707.size) (x4_1 ++ [(⟨(⟨#[]⟩ : ByteArray),t706⟩ : S136)])) else (none)) else (none)) else (some (x4_1,x0_1))) = some (r1,r2):=H
           have A19:=Aside0.mk A190
           clear A190
           by_cases c20 : t710 = true
           ·subst c20
            have H1 : (if x4_1.length < 3518437208883 then (if 2 ≤ (t707.size : Int) then (impl_readParts.l0 kj6 (t707.extract 2 t707.size) (x4_1 ++ [(⟨(⟨#[]⟩ : ByteArray),t706⟩ : S136)])) else (none)) else (none)) = some (r1,r2):=by rw [if_pos rfl] at H;exact H
            clear H
            have H:=H1
            clear H1
            by_cases c21 : x4_1.length < 3518437208883
            ·rw [if_pos c21] at H
             have LMc21:=Aside0.mk c21
             clear c21
             obtain ⟨y711,hy711⟩ : ∃ y_ : List (S136),y_ = (x4_1 ++ [(⟨(⟨#[]⟩ : ByteArray),t706⟩ : S136)]):=⟨_,rfl⟩
             replace H : (if 2 ≤ (t707.size : Int) then (impl_readParts.l0 kj6 (t707.extract 2 t707.size) y711) else (none)) = some (r1,r2):=by first|(rw [hy711];with_reducible exact H)|(have H2_:=(Option.bind_some _ _).symm.trans H;rw [hy711];with_reducible exact H2_)|(have H2_:=(Option.bind_some _ _).symm.trans H;with_reducible exact H2_)|with_reducible exact H|(rw [hy711];exact H)|exact H
             have Ny711:=Aside0.mk hy711
             clear hy711
             by_cases c22 : 2 ≤ (t707.size : Int)
             ·rw [if_pos c22] at H
              have c22b0:=eq_true c22
              have c22b1 : decide (2 ≤ (t707.size : Int)) = true:=decide_eq_true c22
              clear c22
              have H':=Aside0.mk H
              clear H
              go_wp2_with (first|((with_reducible refine gate_callee (f:=145) rfl ?_);refine goesL_ (some 28) rfl rfl Try.func145 (by kernel_rfl) rfl #[.string (x0_1.extract 1 x0_1.size)] rfl lp_ ?_;(with_reducible refine (ih kj6 (by have:=HK1.out;have:=HJ6.out;omega) (x0_1.extract 1 x0_1.size) t706 t707 _ A17.out).mono ?_);rintro e w23 ⟨v708,rfl,ho0,hb⟩;refine ⟨_,rfl,?_⟩;have HO709:=Aside0.mk (Kd.R_lower (Kd.R_new' ho0 (Kd.R_lt (pr_ HO_4.out))) (below_size (be0_ HB.out)));replace HO_4:=Aside0.mk (Kd.R_elder' (pr_ HO_4.out) (Kd.R_base ho0) hb);replace HB:=hs0_ HB hb;(try clear hb);(try clear hb2);(try clear hk);(try clear hi);(try clear ho0);obtain ⟨Ao24,co24,eo24⟩:=Kd.R_slice HO709.out;subst eo24)|(go_at_call 168;(with_reducible refine (strings_HasPrefix.calls t707 (⟨#[41,35]⟩ : ByteArray) true _ A19.out).mono ?_);rintro e w' ⟨rfl,⟨nd,rfl⟩⟩)|((with_reducible refine gate_builtin (b:=.append) (xs:=#[.tmp 38,.tmp 41]) rfl ?_);at_builtin;refine Kd.R_append k136 (w0:=w) w.heap.size rfl (.tmp 38) (.tmp 41) 95 136 (.agg #[(.string ⟨#[]⟩),(.slice none 0 0)]) 40 rfl Try.underlying95 info136 rfl (by decide) (by omega) u4 x4_1 (⟨(⟨#[]⟩ : ByteArray),t706⟩ : S136) [.string (⟨#[]⟩ : ByteArray),.slice Ao24 t706.length co24] (fun _ => True) (fun k_ => ((fun _ => True)) k_ ∧ some k_ ≠ (u4 : Value).ownBlock) rfl rfl ?aP (fun _ hk => hk) ?aF ?aO ?aB ?aS ?aL ?_;(case aP => first|exact k136_mkM _ _ _ (⟨(⟨#[]⟩ : ByteArray),t706⟩ : S136) (Kd.R_mono (HO709.out) (fun k_ hk => ⟨trivial,hk.2⟩))|exact k136_mkM _ _ _ (⟨(⟨#[]⟩ : ByteArray),t706⟩ : S136) (Kd.R_mono (Kd.R_drewN HO709.out _) (fun k_ hk => ⟨trivial,hk.2⟩))|exact k136_mkM _ _ _ (⟨(⟨#[]⟩ : ByteArray),t706⟩ : S136) (Kd.R_mono (Kd.R_drewN (Kd.R_drewN HO709.out _) _) (fun k_ hk => ⟨trivial,hk.2⟩)));(case aB => exact (be0_ HB.out));(case aF => exact (fun _ _ => trivial));(case aO => exact (by refine pr_ ?_;exact Kd.R_mono HO_4.out (fun _ hk => trivial)));(case aS => exact (below_size (be0_ HB.out)));(case aL => have:=LMc21.out;omega);intro v712 w25 ho hb hg hat;rw [← Ny711.out] at ho;replace HB:=Aside0.mk (hb);have HO713:=Aside0.mk (ho);clear HO_4;clear HO709;clear ho hb hg hat))
              go_roundg kj6
              case measure => have:=HK1.out;have:=HJ6.out;omega
              case rel => exact ⟨(t707.extract 2 t707.size),(y711),rs_,H',⟨by have:=HK1.out;have:=HJ6.out;omega⟩,⟨pr_ HO713.out⟩,⟨be0_ HB.out⟩⟩
             ·rw [if_neg c22] at H
              exact absurd H (by simp)
            ·rw [if_neg c21] at H
             exact absurd H (by simp)
           ·replace c20:=Bool.eq_false_iff.mpr c20
            subst c20
            have H1 : (some (x4_1,x0_1)) = some (r1,r2):=by rw [if_neg (show ¬ (false = true) by decide)] at H;exact H
            clear H
            have H:=H1
            clear H1
            simp only [Option.some.injEq,Prod.mk.injEq] at H
            obtain ⟨rfl,rfl⟩:=H
            go_wp2_with (first|((with_reducible refine gate_callee (f:=145) rfl ?_);refine goesL_ (some 28) rfl rfl Try.func145 (by kernel_rfl) rfl #[.string (x0_1.extract 1 x0_1.size)] rfl lp_ ?_;(with_reducible refine (ih kj6 (by have:=HK1.out;have:=HJ6.out;omega) (x0_1.extract 1 x0_1.size) t706 t707 _ A17.out).mono ?_);rintro e w26 ⟨v708,rfl,ho0,hb⟩;refine ⟨_,rfl,?_⟩;have HO709:=Aside0.mk (Kd.R_lower (Kd.R_new' ho0 (Kd.R_lt (pr_ HO_4.out))) (below_size (be0_ HB.out)));replace HO_4:=Aside0.mk (Kd.R_elder' (pr_ HO_4.out) (Kd.R_base ho0) hb);replace HB:=hs0_ HB hb;(try clear hb);(try clear hb2);(try clear hk);(try clear hi);(try clear ho0);obtain ⟨Ao27,co27,eo27⟩:=Kd.R_slice HO709.out;subst eo27)|(go_at_call 168;(with_reducible refine (strings_HasPrefix.calls t707 (⟨#[41,35]⟩ : ByteArray) false _ A19.out).mono ?_);rintro e w' ⟨rfl,⟨nd,rfl⟩⟩))
            go_ret2
            exact ⟨_,er_,by refine pr_ ?_;exact Kd.R_mono HO_4.out (fun _ hk => trivial),be0_ HB.out⟩
          ·rw [if_neg c18] at H
           have c18b0 : decide (0 < (t706.length : Int)) = false:=decide_eq_false c18
           have c18b1 : decide (0 < t706.length) = false:=decide_eq_false (by omega)
           clear c18
           simp only [Option.some.injEq,Prod.mk.injEq] at H
           obtain ⟨rfl,rfl⟩:=H
           go_wp2_with (first|((with_reducible refine gate_callee (f:=145) rfl ?_);refine goesL_ (some 28) rfl rfl Try.func145 (by kernel_rfl) rfl #[.string (x0_1.extract 1 x0_1.size)] rfl lp_ ?_;(with_reducible refine (ih kj6 (by have:=HK1.out;have:=HJ6.out;omega) (x0_1.extract 1 x0_1.size) t706 t707 _ A17.out).mono ?_);rintro e w28 ⟨v708,rfl,ho0,hb⟩;refine ⟨_,rfl,?_⟩;have HO709:=Aside0.mk (Kd.R_lower (Kd.R_new' ho0 (Kd.R_lt (pr_ HO_4.out))) (below_size (be0_ HB.out)));replace HO_4:=Aside0.mk (Kd.R_elder' (pr_ HO_4.out) (Kd.R_base ho0) hb);replace HB:=hs0_ HB hb;(try clear hb);(try clear hb2);(try clear hk);(try clear hi);(try clear ho0);obtain ⟨Ao29,co29,eo29⟩:=Kd.R_slice HO709.out;subst eo29))
           go_ret2
           exact ⟨_,er_,by refine pr_ ?_;exact Kd.R_mono HO_4.out (fun _ hk => trivial),be0_ HB.out⟩
         ·rw [if_neg c16] at H
          exact absurd H (by simp)
        ·rw [if_neg c15] at H
         have c15b0 : ((bt x0_1 0) == 40) = false:=beq_eq_false_iff_ne.mpr c15
         have c15b1 : ((bt x0_1 0) != 40) = true:=bne_iff_ne.mpr c15
         simp only [Option.some.injEq,Prod.mk.injEq] at H
         obtain ⟨rfl,rfl⟩:=H
         go_wp2
         go_ret2
         exact ⟨_,er_,pr_ HO_4.out,be0_ HB.out⟩
    ·rw [if_neg c5] at H
     exact absurd H (by simp)
def impl_parts.f (k : Nat) (a0 : ByteArray) : Option ((List (S136)) × Bool):=if (a0.size : Int) > 120 then (some (([] : List (S136)),false)) else ((impl_readParts.f k a0).bind fun bt714 => (if (bt714.1.length : Int) > 0 then (some (bt714.1,(bt714.2.toList == ([] : List UInt8)))) else (some (bt714.1,false))))
theorem impl_parts.mono : ∀ a0 k,LeO (impl_parts.f k a0) (impl_parts.f (k + 1) a0):=by
 intro a0 k
 unfold impl_parts.f
 repeat' first
   | (with_reducible exact impl_readParts.mono _ _)
   | (with_reducible first|exact LeO.refl _|exact LeO.none _|refine LeO.ite ?_ ?_|refine LeO.bind ?_ (fun _ => ?_))
   | exact impl_readParts.mono _ _
   | exact LeO.none _
   | refine LeO.ite ?_ ?_
   | refine LeO.bind ?_ (fun _ => ?_)
set_option maxHeartbeats 8000000 in
set_option maxRecDepth 100000 in
theorem impl_parts.calls (k : Nat) (a0 : ByteArray) (r1 : List (S136)) (r2 : Bool) (w : World) (h : impl_parts.f k a0 = some (r1,r2)) :
  Calls Try.prog 88 #[.string a0] w fun e w' => ∃ v0_ : Value,e = .returned (.tuple #[v0_,.bool r2]) ∧ Kd.R k136 136 w' w.heap.size (fun _ => True) v0_ r1 ∧ Below w.heap.size w w':=by
 have HB:=Aside0.mk (Below.refl w.heap.size w)
 have H : (if (a0.size : Int) > 120 then (some (([] : List (S136)),false)) else ((impl_readParts.f k a0).bind fun bt714 => (if (bt714.1.length : Int) > 0 then (some (bt714.1,(bt714.2.toList == ([] : List UInt8)))) else (some (bt714.1,false))))) = some (r1,r2):=h
 clear h
 by_cases c2 : (a0.size : Int) > 120
 ·rw [if_pos c2] at H
  have c2b0 : decide (120 < (a0.size : Int)) = true:=decide_eq_true c2
  have c2b1 : decide (120 < a0.size) = true:=decide_eq_true (by omega)
  clear c2
  simp only [Option.some.injEq,Prod.mk.injEq] at H
  obtain ⟨rfl,rfl⟩:=H
  go_enter Try.func88,Try.ntmps88
  go_wp2
  go_ret2
  exact ⟨_,er_,by first|exact Kd.R_nil _ _ _ _ _|exact Kd.N_nil _ _ _ _ _|exact Kd.V_nil _ _ _ _ _|exact Kd.Q_nil _ _ _ _ _|exact Kd.S_nil _ _ _ _ _,be0_ HB.out⟩
 ·rw [if_neg c2] at H
  have c2b0 : decide (120 < (a0.size : Int)) = false:=decide_eq_false c2
  have c2b1 : decide (120 < a0.size) = false:=decide_eq_false (by omega)
  clear c2
  replace H:=Option.bind_eq_some_iff.mp H
  obtain ⟨⟨t714,t715⟩,A30,H⟩:=H
  replace H : (if (t714.length : Int) > 0 then (some (t714,(t715.toList == ([] : List UInt8)))) else (some (t714,false))) = some (r1,r2):=H
  have A3:=Aside0.mk A30
  clear A30
  by_cases c4 : (t714.length : Int) > 0
  ·rw [if_pos c4] at H
   have c4b0 : decide (0 < (t714.length : Int)) = true:=decide_eq_true c4
   have c4b1 : decide (0 < t714.length) = true:=decide_eq_true (by omega)
   clear c4
   simp only [Option.some.injEq,Prod.mk.injEq] at H
   obtain ⟨rfl,rfl⟩:=H
   go_enter Try.func88,Try.ntmps88
   go_wp2_with (first|((with_reducible refine gate_callee (f:=145) rfl ?_);refine goesL_ (some 11) rfl rfl Try.func145 (by kernel_rfl) rfl #[.string a0] rfl lp_ ?_;(with_reducible refine (impl_readParts.calls k a0 t714 t715 _ A3.out).mono ?_);rintro e w5 ⟨v716,rfl,ho0,hb⟩;refine ⟨_,rfl,?_⟩;have HO717:=Aside0.mk (Kd.R_lower ho0 (below_size (be0_ HB.out)));replace HB:=hs0_ HB hb;(try clear hb);(try clear hb2);(try clear hk);(try clear hi);(try clear ho0);obtain ⟨Ao6,co6,eo6⟩:=Kd.R_slice HO717.out;subst eo6))
   go_ret2
   exact ⟨_,er_,pr_ HO717.out,be0_ HB.out⟩
  ·rw [if_neg c4] at H
   have c4b0 : decide (0 < (t714.length : Int)) = false:=decide_eq_false c4
   have c4b1 : decide (0 < t714.length) = false:=decide_eq_false (by omega)
   clear c4
   simp only [Option.some.injEq,Prod.mk.injEq] at H
   obtain ⟨rfl,rfl⟩:=H
   go_enter Try.func88,Try.ntmps88
   go_wp2_with (first|((with_reducible refine gate_callee (f:=145) rfl ?_);refine goesL_ (some 11) rfl rfl Try.func145 (by kernel_rfl) rfl #[.string a0] rfl lp_ ?_;(with_reducible refine (impl_readParts.calls k a0 t714 t715 _ A3.out).mono ?_);rintro e w7 ⟨v716,rfl,ho0,hb⟩;refine ⟨_,rfl,?_⟩;have HO717:=Aside0.mk (Kd.R_lower ho0 (below_size (be0_ HB.out)));replace HB:=hs0_ HB hb;(try clear hb);(try clear hb2);(try clear hk);(try clear hi);(try clear ho0);obtain ⟨Ao8,co8,eo8⟩:=Kd.R_slice HO717.out;subst eo8))
   go_ret2
   exact ⟨_,er_,pr_ HO717.out,be0_ HB.out⟩
mutual
def impl_filled.l0 (p1 : Int → Int → Option (Int)) : Nat → Int → Int → Int → Int → List Int → Option (Int × List Int)
 | 0,_,_,_,_,_ => none
 | k + 1,x0,x10,x11,x355000,x355001 => if x11 < x10 then (impl_filled.l1 p1 k x0 x11 x10 x11 x0 0 x355000 x355001) else (some (x355000,x355001))
def impl_filled.l1 (p1 : Int → Int → Option (Int)) : Nat → Int → Int → Int → Int → Int → Int → Int → List Int → Option (Int × List Int)
 | 0,_,_,_,_,_,_,_,_ => none
 | k + 1,x0,x6,x10,x11,x14,x15,x355000,x355001 => if x15 < x14 then ((p1 x6 x15).bind fun t355 => (if x355001.length < 17592186044416 then (impl_filled.l1 p1 k x0 x6 x10 x11 x14 (wrap64 (x15 + 1)) x355000 (x355001 ++ [t355])) else (none))) else (impl_filled.l0 p1 k x0 x10 (wrap64 (x11 + 1)) x355000 x355001)
end
def impl_filled.f (p1 : Int → Int → Option (Int)) (k : Nat) (a0 : Int)  : Option (Int × List Int):=impl_filled.l0 p1 k a0 a0 0 a0 ([] : List Int)
theorem impl_filled.mono_l (p1 : Int → Int → Option (Int)) : ∀ k,(∀ y0 y1 y2 y3 y4,LeO (impl_filled.l0 p1 k y0 y1 y2 y3 y4) (impl_filled.l0 p1 (k + 1) y0 y1 y2 y3 y4)) ∧ (∀ y0 y1 y2 y3 y4 y5 y6 y7,LeO (impl_filled.l1 p1 k y0 y1 y2 y3 y4 y5 y6 y7) (impl_filled.l1 p1 (k + 1) y0 y1 y2 y3 y4 y5 y6 y7))
 | 0 => ⟨fun _ _ _ _ _ r h => by simp [impl_filled.l0] at h,fun _ _ _ _ _ _ _ _ r h => by simp [impl_filled.l1] at h⟩
 | k + 1 => by
  obtain ⟨ih0,ih1⟩:=impl_filled.mono_l p1 k
  refine ⟨?_,?_⟩
  ·intro y0 y1 y2 y3 y4
   unfold impl_filled.l0
   repeat' first
   | (with_reducible exact ih0 _ _ _ _ _)
   | (with_reducible exact ih1 _ _ _ _ _ _ _ _)
   | (with_reducible first|exact LeO.refl _|exact LeO.none _|refine LeO.ite ?_ ?_|refine LeO.bind ?_ (fun _ => ?_))
   | exact ih0 _ _ _ _ _
   | exact ih1 _ _ _ _ _ _ _ _
   | exact LeO.none _
   | refine LeO.ite ?_ ?_
   | refine LeO.bind ?_ (fun _ => ?_)
  ·intro y0 y1 y2 y3 y4 y5 y6 y7
   unfold impl_filled.l1
   repeat' first
   | (with_reducible exact ih0 _ _ _ _ _)
   | (with_reducible exact ih1 _ _ _ _ _ _ _ _)
   | (with_reducible first|exact LeO.refl _|exact LeO.none _|refine LeO.ite ?_ ?_|refine LeO.bind ?_ (fun _ => ?_))
   | exact ih0 _ _ _ _ _
   | exact ih1 _ _ _ _ _ _ _ _
   | exact LeO.none _
   | refine LeO.ite ?_ ?_
   | refine LeO.bind ?_ (fun _ => ?_)
theorem impl_filled.mono (p1 : Int → Int → Option (Int)) : ∀ a0 k,LeO (impl_filled.f p1 k a0) (impl_filled.f p1 (k + 1) a0):=by
 intro a0 k
 obtain ⟨ih0,ih1⟩:=impl_filled.mono_l p1 k
 unfold impl_filled.f
 repeat' first
   | (with_reducible exact ih0 _ _ _ _ _)
   | (with_reducible exact ih1 _ _ _ _ _ _ _ _)
   | (with_reducible first|exact LeO.refl _|exact LeO.none _|refine LeO.ite ?_ ?_|refine LeO.bind ?_ (fun _ => ?_))
   | exact ih0 _ _ _ _ _
   | exact ih1 _ _ _ _ _ _ _ _
   | exact LeO.none _
   | refine LeO.ite ?_ ?_
   | refine LeO.bind ?_ (fun _ => ?_)
def impl_filled.T8 : Bool × List (List Nat × List Nat):=(true,[([],[]),([0],[0]),([],[]),([],[]),([],[]),([2,3,4],[2,3,4]),([5],[5]),([1,6,5],[1,6]),([0,1,2,3,4,5,6,7],[]),([8,7,7,0,1,2,3,4,5,6,7],[7,8])])
def impl_filled.B8 : List Nat:=[0,1,0,0,0,28,60,127,255,511]
theorem impl_filled.tab8 : rtab .any (opsOf Try.f112 8) = impl_filled.T8:=by kernel_rfl
theorem impl_filled.bits8 : waitsOk impl_filled.T8.2 impl_filled.B8 = true:=by kernel_rfl
set_option maxHeartbeats 8000000 in
set_option maxRecDepth 100000 in
theorem impl_filled.calls (k : Nat) (a0 : Int) (q1 : FuncId) (F1 C1 : Array Value) (p1 : Int → Int → Option (Int)) (r1 : Int) (r2 : List Int) (w : World) (hq1 : FnAt Try.prog q1) (hp1 : ∀ (ay0 : Int) (ay1 : Int) (z0 : Int) (W_ : World),Below w.heap.size w W_ → p1 ay0 ay1 = some z0 → Calls Try.prog q1 (F1 ++ #[.int .i64 ay0,.int .i64 ay1] ++ C1) W_ fun e w' => e = .returned (.int .i64 z0) ∧ Below W_.heap.size W_ w') (h : impl_filled.f p1 k a0 = some (r1,r2)) :
  Calls Try.prog 112 #[.int .i64 a0,.func (.func q1) F1 C1] w fun e w' => ∃ v1_ : Value,e = .returned (.agg #[.int .i64 r1,v1_]) ∧ Kd.R (Kd.int .i64) 3 w' w.heap.size (fun _ => True) v1_ r2 ∧ Below w.heap.size w w':=by
 have hu35:=Try.underlying35
 have HQ1:=Aside0.mk hq1
 have HP1:=Aside0.mk hp1
 clear hq1 hp1
 have HB:=Aside0.mk (Below.refl w.heap.size w)
 have H : (impl_filled.l0 p1 k a0 a0 0 a0 ([] : List Int)) = some (r1,r2):=h
 clear h
 have H':=Aside0.mk H
 clear H
 go_enter Try.func112,Try.ntmps112
 go_wp2_with (first|((with_reducible refine bev_ (N:=4) rfl rfl (cs:=#[.int .i64 0,.slice none 0 0]) (t:=35) ?hr ?_);(case hr => first|(go_simp;done)|(go_simp;rfl));intro gb353 hg w3 hbox hb;have BK353:=Aside0.mk (hbox);have GW353:=gw0_ hg HB;have GE353:=GW353;replace HB:=hs0_ HB hb;clear hb hbox hg)|((with_reducible refine bev_ (N:=5) rfl rfl (cs:=#[.int .i64 0,.slice none 0 0]) (t:=35) ?hr ?_);(case hr => first|(go_simp;done)|(go_simp;rfl));intro gb354 hg w4 hbox hb;have BK354:=Aside0.mk (hbox);have GW354:=gw1_ hg HB GE353;have GE354:=GW354;replace HB:=hs1_ HB GE353 hb;have NB353_354:=nm_ hg BK353;have NB354_353:=nn_ hg BK353;replace BK353:=kc_ BK353 hb;clear hb hbox hg;have hnb5:=NB354_353.out;have hnc5:=NB353_354.out;obtain ⟨hcz6_0,hcz6_1,hfz6_0,hfz6_1⟩:=cf2_ BK354.out))
 go_loopg [11] k (fun kq v11 w' => ∃ (x11_1 : Int) (x355001_1 : List Int) (u355001 : Value),v11 = .int .i64 x11_1 ∧ Aside0 (impl_filled.l0 p1 kq a0 a0 x11_1 a0 x355001_1 = some (r1,r2)) ∧ Aside0 (kq ≤ k) ∧ Aside0 (Kd.R (Kd.int .i64) 3 w' w.heap.size (fun _ => True) u355001 x355001_1) ∧ Aside0 (w'.heap[gb353]? = some (.cells #[.int .i64 0,(.slice none 0 0)] 35 (0,0))) ∧ Aside0 (w'.heap[gb354]? = some (.cells #[.int .i64 a0,u355001] 35 (0,0))) ∧ Aside0 (Below w.heap.size w w'))
 case atStart => exact ⟨(0),(([] : List Int)),(.slice none 0 0),rs_,H',⟨Nat.le_refl _⟩,⟨by first|exact Kd.R_nil _ _ _ _ _|exact Kd.N_nil _ _ _ _ _|exact Kd.V_nil _ _ _ _ _|exact Kd.Q_nil _ _ _ _ _|exact Kd.S_nil _ _ _ _ _⟩,⟨bf1_ BK353.out NB353_354.out⟩,⟨by refine pe_ ?_;refine blk_put (cs:=#[.int .i64 a0,.slice none 0 0]) ?_ 1 _ rfl;refine pe_ ?_;refine blk_put (cs:=#[.int .i64 0,.slice none 0 0]) ?_ 0 _ rfl;refine pe_ ?_;exact BK354.out⟩,⟨be2_ HB.out GE353.out GE354.out⟩⟩
 case round =>
  clear H'
  obtain ⟨x11_1,x355001_1,u355001,rfl,HA,HK1,HO_355001,BK353,BK354,HB⟩:=hrel
  cases gk with
  | zero => exact absurd HA.out (by simp [impl_filled.l0])
  | succ k1 =>
   have H:=HA.out
   clear HA
   simp only [impl_filled.l0] at H
   by_cases c7 : x11_1 < a0
   ·rw [if_pos c7] at H
    have c7b0 : decide (x11_1 < a0) = true:=decide_eq_true c7
    clear c7
    have H':=Aside0.mk H
    clear H
    go_wp2
    go_loopg [15] k1 (fun kq v15 w' => ∃ (x15_2 : Int) (x355001_2 : List Int) (u355001 : Value),v15 = .int .i64 x15_2 ∧ Aside0 (impl_filled.l1 p1 kq a0 x11_1 a0 x11_1 a0 x15_2 a0 x355001_2 = some (r1,r2)) ∧ Aside0 (kq ≤ k1) ∧ Aside0 (Kd.R (Kd.int .i64) 3 w' w.heap.size (fun _ => True) u355001 x355001_2) ∧ Aside0 (w'.heap[gb353]? = some (.cells #[.int .i64 0,(.slice none 0 0)] 35 (0,0))) ∧ Aside0 (w'.heap[gb354]? = some (.cells #[.int .i64 a0,u355001] 35 (0,0))) ∧ Aside0 (Below w.heap.size w w'))
    case atStart => exact ⟨(0),(x355001_1),(u355001),rs_,H',⟨Nat.le_refl _⟩,⟨pr_ HO_355001.out⟩,⟨pe_ BK353.out⟩,⟨pe_ BK354.out⟩,⟨be2_ HB.out GE353.out GE354.out⟩⟩
    case round =>
     clear H'
     obtain ⟨x15_2,x355001_2,u355001,rfl,HA,HK2,HO_355001,BK353,BK354,HB⟩:=hrel
     cases gk with
     | zero => exact absurd HA.out (by simp [impl_filled.l1])
     | succ k2 =>
      have H:=HA.out
      clear HA
      simp only [impl_filled.l1] at H
      by_cases c8 : x15_2 < a0
      ·rw [if_pos c8] at H
       have c8b0 : decide (x15_2 < a0) = true:=decide_eq_true c8
       clear c8
       replace H:=Option.bind_eq_some_iff.mp H
       obtain ⟨t355,A90,H⟩:=H
       replace H : (if x355001_2.length < 17592186044416 then (impl_filled.l1 p1 k2 a0 x11_1 a0 x11_1 a0 (wrap64 (x15_2 + 1)) a0 (x355001_2 ++ [t355])) else (none)) = some (r1,r2):=H
       have A9:=Aside0.mk A90
       clear A90
       by_cases c10 : x355001_2.length < 17592186044416
       ·rw [if_pos c10] at H
        have LMc10:=Aside0.mk c10
        clear c10
        obtain ⟨y356,hy356⟩ : ∃ y_ : List Int,y_ = (x355001_2 ++ [t355]):=⟨_,rfl⟩
        replace H : (impl_filled.l1 p1 k2 a0 x11_1 a0 x11_1 a0 (wrap64 (x15_2 + 1)) a0 y356) = some (r1,r2):=by first|(rw [hy356];with_reducible exact H)|(have H2_:=(Option.bind_some _ _).symm.trans H;rw [hy356];with_reducible exact H2_)|(have H2_:=(Option.bind_some _ _).symm.trans H;with_reducible exact H2_)|with_reducible exact H|(rw [hy356];exact H)|exact H
        have Ny356:=Aside0.mk hy356
        clear hy356
        have H':=Aside0.mk H
        clear H
        try go_wp2
        replace HO_355001:=Aside0.mk (Kd.R_drew HO_355001.out)
        replace BK353:=Aside0.mk (blk_drew BK353.out)
        replace BK354:=Aside0.mk (blk_drew BK354.out)
        replace HB:=Aside0.mk (below_drew1 HB.out)
        refine start_ (n:=10) (S:=fun w' => w'.cell? ⟨gb354,0,none⟩ = some (.int .i64 a0) ∧ w'.cell? ⟨gb354,1,none⟩ = some (u355001)) (ds:=[9]) #[false,false,false,false,false,false,false,false,false,false] (by kernel_rfl) rfl rfl ⟨bc_ BK354 0,bc_ BK354 1⟩ (fun hHeld => ?_);refine with_tabW impl_filled.tab8 impl_filled.bits8 (fun HT_ HW_ => ?_)
        generalize wr.drew = w11 at HO_355001 BK353 BK354 HB hHeld ⊢
        refine pure_ (i:=0) (N:=some 18) (v:=?_) (a':=?_) #[true,false,false,false,false,false,false,false,false,false] rfl rfl (any_of HT_.out (by kernel_rfl)) (fun _ _ _ h => h) (Or.inl ⟨by rfl,?_⟩) ?_ ?_
        rotate_left
        ·intro w'
         go_simp
         with_reducible rfl
        rotate_left
        ·simp only [Act.put,List.setIfInBounds_toArray,List.set_cons_zero,List.set_cons_succ,i64_w,i32_w]
         rfl
        refine pure_ (i:=2) (N:=some 20) (v:=?_) (a':=?_) #[true,false,true,false,false,false,false,false,false,false] rfl rfl (any_of HT_.out (by kernel_rfl)) (fun _ _ _ h => h) (Or.inl ⟨by rfl,?_⟩) ?_ ?_
        rotate_left
        ·intro w'
         go_simp
         with_reducible rfl
        rotate_left
        ·simp only [Act.put,List.setIfInBounds_toArray,List.set_cons_zero,List.set_cons_succ,i64_w,i32_w]
         rfl
        refine pure_ (i:=3) (N:=some 21) (v:=?_) (a':=?_) #[true,false,true,true,false,false,false,false,false,false] rfl rfl (any_of HT_.out (by kernel_rfl)) (fun _ _ _ h => h) (Or.inl ⟨by rfl,?_⟩) ?_ ?_
        rotate_left
        ·intro w'
         go_simp
         with_reducible rfl
        rotate_left
        ·simp only [Act.put,List.setIfInBounds_toArray,List.set_cons_zero,List.set_cons_succ,i64_w,i32_w]
         rfl
        refine pure_ (i:=4) (N:=some 22) (v:=?_) (a':=?_) #[true,false,true,true,true,false,false,false,false,false] rfl rfl (any_of HT_.out (by kernel_rfl)) (fun _ _ _ h => h) (Or.inl ⟨by rfl,?_⟩) ?_ ?_
        rotate_left
        ·intro w'
         go_simp
         with_reducible rfl
        rotate_left
        ·simp only [Act.put,List.setIfInBounds_toArray,List.set_cons_zero,List.set_cons_succ,i64_w,i32_w]
         rfl
        refine take_ (i:=1) (N:=some 19) (v:=?_) (a':=?_) #[true,true,true,true,true,false,false,false,false,false] rfl rfl (take_ofW HT_.out HW_.out (by kernel_rfl)) (fun _ _ _ h => h) (Or.inl ⟨by rfl,?_⟩) hHeld ?_ ?_
        rotate_left
        ·rintro w' ⟨s0,s1⟩
         go_simp
         with_reducible rfl
        rotate_left
        ·simp only [Act.put,List.setIfInBounds_toArray,List.set_cons_zero,List.set_cons_succ,i64_w,i32_w]
         rfl
        refine one_ (i:=5) (N:=some 23) #[true,true,true,true,true,true,false,false,false,false] rfl rfl (one_of HT_.out (by kernel_rfl)) (by decide) (fun K hK => ?_)
        refine goesD_ HQ1.out #[.int .i64 x11_1,.int .i64 x15_2] (by rfl) rfl rfl rfl lp_ ?_
        with_reducible refine (HP1.out x11_1 x15_2 t355 _ ?side1 A9.out).mono ?_
        (case side1 => repeat (first|(with_reducible first|exact HB.out|apply below_alloc|apply pw_below_drewN|apply below_drew1|refine below_set ?_ GE353.out|refine below_set ?_ GE354.out)|exact HB.out))
        rintro e w12 ⟨rfl,hb⟩
        refine ⟨_,rfl,?_⟩
        replace HO_355001:=Aside0.mk (Kd.R_below (pr_ HO_355001.out) hb)
        replace BK353:=kc_ BK353 hb
        replace BK354:=kc_ BK354 hb
        replace HB:=hs2_ HB GE353 GE354 hb
        (try clear hb)
        (try clear hb2)
        (try clear hk)
        (try clear hi)
        refine hK.out _ _ ⟨bc_ BK354 0,bc_ BK354 1⟩ (fun hHeld => ?_)
        clear hK K
        refine norm_ (a':=?_) ?_ ?_
        rotate_left
        ·show Act.put _ (some 23) _ = _
         simp only [Act.put,List.setIfInBounds_toArray,List.set_cons_zero,List.set_cons_succ,i64_w,i32_w]
         rfl
        refine one_ (i:=6) (N:=some 24) #[true,true,true,true,true,true,true,false,false,false] rfl rfl (one_of HT_.out (by kernel_rfl)) (by decide) (fun K hK => ?_)
        refine value_ (w1:=?_) (v:=?_) (by rfl) rfl ?_ ?_
        rotate_left 2
        ·go_simp
         constructor
         ·rfl
         ·rfl
        refine hK.out _ _ ⟨(blk_cell (blk_alloc BK354.out _) 0).trans rfl,(blk_cell (blk_alloc BK354.out _) 1).trans rfl⟩ (fun hHeld => ?_)
        clear hK K
        refine norm_ (a':=?_) ?_ ?_
        rotate_left
        ·show Act.put _ (some 24) _ = _
         simp only [Act.put,List.setIfInBounds_toArray,List.set_cons_zero,List.set_cons_succ,i64_w,i32_w]
         rfl
        refine one_ (i:=7) (N:=some 25) #[true,true,true,true,true,true,true,true,false,false] rfl rfl (one_of HT_.out (by kernel_rfl)) (by decide) (fun K hK => ?_)
        refine Kd.R_append_step (Kd.int .i64) (w0:=w) w.heap.size (by rfl) (.tmp 19) (.tmp 24) 22 3 (.int .i64 0) 8 rfl Try.underlying22 info3 rfl (by decide) (by omega) u355001 x355001_2 t355 [.int .i64 t355] (fun _ => True) (fun _ => False) rfl rfl ?aP (fun _ hk => hk.elim) ?aF ?aO ?aB ?aS ?aL ?_
        (case aP => exact rfl)
        (case aB => exact (be2_ HB.out GE353.out GE354.out))
        (case aF => exact (fun _ _ => trivial))
        (case aO => exact (pr_ HO_355001.out))
        (case aS => exact (below_size (be2_ HB.out GE353.out GE354.out)))
        (case aL => have:=LMc10.out;omega)
        intro v357 w13 ho hb hg hat
        rw [← Ny356.out] at ho
        replace BK353:=Aside0.mk (blk_grown (g:=gb353) (o:=.cells #[.int .i64 0,.slice none 0 0] 35 (0,0)) (pe_ BK353.out) hg (Kd.R_ne HO_355001.out BK353.out (by decide)))
        replace BK354:=Aside0.mk (blk_grown (g:=gb354) (o:=.cells #[.int .i64 a0,u355001] 35 (0,0)) (pe_ BK354.out) hg (Kd.R_ne HO_355001.out BK354.out (by decide)))
        replace HB:=Aside0.mk (hb)
        have HO358:=Aside0.mk (ho)
        clear HO_355001
        clear ho hb hg hat
        obtain ⟨Ao14,co14,eo14⟩:=Kd.R_slice HO358.out
        (first|subst eo14|(injection eo14 with f1_ f2_ f3_;have f4_:=f1_.symm;have f5_:=f3_.symm;clear f1_ f2_ f3_;subst f4_;subst f5_))
        refine hK.out _ _ ⟨bc_ BK354 0,bc_ BK354 1⟩ (fun hHeld => ?_)
        clear hK K
        refine norm_ (a':=?_) ?_ ?_
        rotate_left
        ·show Act.put _ (some 25) _ = _
         simp only [Act.put,List.setIfInBounds_toArray,List.set_cons_zero,List.set_cons_succ,i64_w,i32_w]
         rfl
        refine pure_ (i:=8) (N:=some 26) (v:=?_) (a':=?_) #[true,true,true,true,true,true,true,true,true,false] rfl rfl (any_of HT_.out (by kernel_rfl)) (fun _ _ _ h => h) (Or.inl ⟨by rfl,?_⟩) ?_ ?_
        rotate_left
        ·intro w'
         go_simp
         with_reducible rfl
        rotate_left
        ·simp only [Act.put,List.setIfInBounds_toArray,List.set_cons_zero,List.set_cons_succ,i64_w,i32_w]
         rfl
        refine last_ (i:=9) (N:=none) #[true,true,true,true,true,true,true,true,true,true] rfl rfl (one_of HT_.out (by kernel_rfl)) (by decide) (fun K hK => ?_)
        have hs15 : w13.cell? ⟨gb354,1,none⟩ = some (u355001):=bc_ BK354 1
        have hfs15:=blk_frozen BK354.out 1
        have hns15_0:=NB353_354.out
        have hms15_0:=NB354_353.out
        refine skip_ (w1:=?_) (by rfl) rfl ?_ ?_
        rotate_left
        ·go_simp
         rfl
        refine hK.out _ _ ?_
        clear hK K
        refine done_ (done_of HT_.out (by kernel_rfl)) ?_
        try go_wp2
        go_roundg k2
        case measure => have:=HK1.out;have:=HK2.out;omega
        case rel => exact ⟨(wrap64 (x15_2 + 1)),(y356),(.slice Ao14 y356.length co14),rs_,H',⟨by have:=HK1.out;have:=HK2.out;omega⟩,⟨by refine pr_ ?_;exact Kd.R_mono (Kd.R_far (p:=⟨gb354,1,none⟩) (Kd.R_types HO358.out BK354.out (by decide)) (fun _ hk => hk.2) (.slice Ao14 y356.length co14)) (fun _ hk => trivial)⟩,⟨bf1_ BK353.out NB353_354.out⟩,⟨by refine pe_ ?_;refine blk_put (cs:=#[.int .i64 a0,u355001]) ?_ 1 _ rfl;refine pe_ ?_;exact BK354.out⟩,⟨be2_ HB.out GE353.out GE354.out⟩⟩
       ·rw [if_neg c10] at H
        exact absurd H (by simp)
      ·rw [if_neg c8] at H
       have c8b0 : decide (x15_2 < a0) = false:=decide_eq_false c8
       clear c8
       have H':=Aside0.mk H
       clear H
       go_wp2
       go_roundg k2
       case measure => have:=HK1.out;have:=HK2.out;omega
       case rel => exact ⟨(wrap64 (x11_1 + 1)),(x355001_2),(u355001),rs_,H',⟨by have:=HK1.out;have:=HK2.out;omega⟩,⟨pr_ HO_355001.out⟩,⟨pe_ BK353.out⟩,⟨pe_ BK354.out⟩,⟨be2_ HB.out GE353.out GE354.out⟩⟩
   ·rw [if_neg c7] at H
    have c7b0 : decide (x11_1 < a0) = false:=decide_eq_false c7
    clear c7
    simp only [Option.some.injEq,Prod.mk.injEq] at H
    obtain ⟨rfl,rfl⟩:=H
    have hnb16:=NB354_353.out
    have hnc16:=NB353_354.out
    obtain ⟨hcz17_0,hcz17_1,hfz17_0,hfz17_1⟩:=cf2_ BK354.out
    obtain ⟨hcz18_0,hcz18_1,hfz18_0,hfz18_1⟩:=cf2_ BK353.out
    obtain ⟨Ao19,co19,eo19⟩:=Kd.R_slice HO_355001.out
    subst eo19
    go_wp2
    refine bodyPost_ret (results_cell_row rfl _ _ gb353 35 #[.int .i64 a0,.slice Ao19 x355001_1.length co19] (0,0) _ rfl (by refine pe_ ?_;refine blk_put (cs:=#[.int .i64 a0,.slice none 0 0]) ?_ 1 _ rfl;refine pe_ ?_;refine blk_put (cs:=#[.int .i64 0,.slice none 0 0]) ?_ 0 _ rfl;refine pe_ ?_;exact BK353.out) Try.underlying35 rfl (by kernel_rfl)) rfl ?_
    exact ⟨_,er_,by refine pr_ ?_;exact Kd.R_mono (Kd.R_far (p:=⟨gb353,1,none⟩) (Kd.R_far (p:=⟨gb353,0,none⟩) (Kd.R_types HO_355001.out BK353.out (by decide)) (fun _ hk => hk.2) (.int .i64 a0)) (fun _ hk => hk.2) (.slice Ao19 x355001_1.length co19)) (fun _ hk => trivial),be2_ HB.out GE353.out GE354.out⟩
theorem impl_filled.monoP_l {p p' : Int → Int → Option (Int)} (hp : ∀ y0 y1,LeO (p y0 y1) (p' y0 y1)) : ∀ k,(∀ y0 y1 y2 y3 y4,LeO (impl_filled.l0 p k y0 y1 y2 y3 y4) (impl_filled.l0 p' k y0 y1 y2 y3 y4)) ∧ (∀ y0 y1 y2 y3 y4 y5 y6 y7,LeO (impl_filled.l1 p k y0 y1 y2 y3 y4 y5 y6 y7) (impl_filled.l1 p' k y0 y1 y2 y3 y4 y5 y6 y7))
 | 0 => by
  refine ⟨?_,?_⟩
  all_goals (intros;intro r h;first|(simp [impl_filled.l0,impl_filled.l1] at h;done)|(unfold impl_filled.l0 at h;simp at h;done))
 | k + 1 => by
  have ih:=impl_filled.monoP_l hp k
  obtain ⟨ih0,ih1⟩:=ih
  refine ⟨?_,?_⟩
  ·intro y0 y1 y2 y3 y4
   unfold impl_filled.l0
   repeat'
    first
    | (with_reducible exact ih0 _ _ _ _ _)
    | (with_reducible exact ih1 _ _ _ _ _ _ _ _)
    | (with_reducible exact hp _ _)
    | (with_reducible first|exact LeO.refl _|exact LeO.none _|refine LeO.ite ?_ ?_|refine LeO.bind ?_ (fun _ => ?_))
    | exact hp _ _
    | exact LeO.refl _
  ·intro y0 y1 y2 y3 y4 y5 y6 y7
   unfold impl_filled.l1
   repeat'
    first
    | (with_reducible exact ih0 _ _ _ _ _)
    | (with_reducible exact ih1 _ _ _ _ _ _ _ _)
    | (with_reducible exact hp _ _)
    | (with_reducible first|exact LeO.refl _|exact LeO.none _|refine LeO.ite ?_ ?_|refine LeO.bind ?_ (fun _ => ?_))
    | exact hp _ _
    | exact LeO.refl _
theorem impl_filled.monoP {p p' : Int → Int → Option (Int)} (hp : ∀ y0 y1,LeO (p y0 y1) (p' y0 y1)) : ∀ a0 k,LeO (impl_filled.f p k a0) (impl_filled.f p' (k + 1) a0):=by
 intro a0 k
 refine LeO.trans ?_ (impl_filled.mono p' a0 k)
 have ih:=impl_filled.monoP_l hp k
 obtain ⟨ih0,ih1⟩:=ih
 unfold impl_filled.f
 repeat'
  first
  | (with_reducible exact ih0 _ _ _ _ _)
  | (with_reducible exact ih1 _ _ _ _ _ _ _ _)
  | (with_reducible exact hp _ _)
  | (with_reducible first|exact LeO.refl _|exact LeO.none _|refine LeO.ite ?_ ?_|refine LeO.bind ?_ (fun _ => ?_))
  | exact hp _ _
  | exact LeO.refl _
def impl_Matrix_at.f (a0_0 : Int) (l0_1 : List Int) (a1 : Int) (a2 : Int) : Option (Int):=if 0 ≤ (wrap64 ((wrap64 (a1 * a0_0)) + a2)) then (if (wrap64 ((wrap64 (a1 * a0_0)) + a2)) < (l0_1.length : Int) then (some (rd l0_1 (wrap64 ((wrap64 (a1 * a0_0)) + a2)))) else (none)) else (none)
set_option maxHeartbeats 8000000 in
set_option maxRecDepth 100000 in
theorem impl_Matrix_at.calls (a0_0 : Int) (A0_1 : Option Addr) (c0_1 : Nat) (l0_1 : List Int) (a1 : Int) (a2 : Int) (r : Int) (w : World) (hr0_1 : Kd.C (Kd.int .i64) w A0_1 l0_1.length l0_1) (hc0_1 : l0_1.length ≤ c0_1) (h : impl_Matrix_at.f a0_0 l0_1 a1 a2 = some r) :
  Calls Try.prog 74 #[.agg #[.int .i64 a0_0,.slice A0_1 l0_1.length c0_1],.int .i64 a1,.int .i64 a2] w fun e w' => e = .returned (.int .i64 r) ∧ Below w.heap.size w w':=by
 have hu35:=Try.underlying35
 have HR0_1:=Aside0.mk hr0_1
 have HC0_1:=Aside0.mk hc0_1
 clear hr0_1 hc0_1
 have HB:=Aside0.mk (Below.refl w.heap.size w)
 have H : (if 0 ≤ (wrap64 ((wrap64 (a1 * a0_0)) + a2)) then (if (wrap64 ((wrap64 (a1 * a0_0)) + a2)) < (l0_1.length : Int) then (some (rd l0_1 (wrap64 ((wrap64 (a1 * a0_0)) + a2)))) else (none)) else (none)) = some r:=h
 clear h
 obtain ⟨ji4,hji4⟩ : ∃ j_ : Int,(wrap64 ((wrap64 (a1 * a0_0)) + a2)) = j_:=⟨_,rfl⟩
 replace H : (if 0 ≤ (ji4) then (if (ji4) < (l0_1.length : Int) then (some (rd l0_1 (ji4))) else (none)) else (none)) = some r:=by first|(rw [hji4] at H;exact H)|(simp only [hji4] at H ⊢;exact H)
 have hji4w : (IntKind.i64.wrap ((wrap64 (a1 * a0_0)) + a2)) = ji4:=(i64_w _).trans hji4
 by_cases c5 : 0 ≤ (ji4)
 ·rw [if_pos c5] at H
  have c5b0 : decide (0 ≤ (ji4)) = true:=decide_eq_true c5
  clear c5
  by_cases c6 : (ji4) < (l0_1.length : Int)
  ·rw [if_pos c6] at H
   have c6b0 : decide ((ji4) < (l0_1.length : Int)) = true:=decide_eq_true c6
   clear c6
   obtain rfl:=Option.some.inj H
   go_enter Try.func74,Try.ntmps74
   go_wp2_with (first|((with_reducible refine bev_ (N:=3) rfl rfl (cs:=#[.int .i64 a0_0,.slice A0_1 l0_1.length c0_1]) (t:=35) ?hr ?_);(case hr => first|(go_simp;done)|(go_simp;rfl));intro gb215 hg w7 hbox hb;have BK215:=Aside0.mk (hbox);have GW215:=gw0_ hg HB;have GE215:=GW215;replace HB:=hs0_ HB hb;clear hb hbox hg;obtain ⟨hcz8_0,hcz8_1,hfz8_0,hfz8_1⟩:=cf2_ BK215.out;have p216 : 0 ≤ ((ji4) : Int):=od_;have q216 : (ji4) < (l0_1.length : Int):=od_;obtain ⟨ad216,e216,hx216_0⟩:=Kd.at_int HR0_1.out (ji4) p216 q216;cases e216;replace hx216_0:=hbc_ HB.out hx216_0;replace p216:=eq_true p216;replace q216:=eq_true q216))
   go_ret
   exact ⟨by first|rfl|(simp [errW_none,errW_some] <;> rfl)|(simp only [← hji4];first|rfl|(simp [errW_none,errW_some] <;> rfl))|(simp [*,errW_none,errW_some] <;> rfl),be1_ HB.out GE215.out⟩
  ·rw [if_neg c6] at H
   exact absurd H (by simp)
 ·rw [if_neg c5] at H
  exact absurd H (by simp)
def impl_GradesOf_1.f (a0 : Int) (a1 : Int) (a2_0 : Int) (l2_1 : List Int) : Option (Int):=(impl_Matrix_at.f a2_0 l2_1 a0 a1).bind fun t754 => (if t754 = 0 then (some 0) else (if t754 = 1000000 then (some 3) else (some 1)))
set_option maxHeartbeats 8000000 in
set_option maxRecDepth 100000 in
theorem impl_GradesOf_1.calls (a0 : Int) (a1 : Int) (g2 : Nat) (a2_0 : Int) (A2_1 : Option Addr) (c2_1 : Nat) (l2_1 : List Int) (r : Int) (w : World) (hr2_1 : Kd.C (Kd.int .i64) w A2_1 l2_1.length l2_1) (hc2_1 : l2_1.length ≤ c2_1) (hb2 : w.heap[g2]? = some (.cells #[.int .i64 a2_0,.slice A2_1 l2_1.length c2_1] 35 (0,0))) (h : impl_GradesOf_1.f a0 a1 a2_0 l2_1 = some r) :
  Calls Try.prog 169 #[.int .i64 a0,.int .i64 a1,.pointer (some ⟨g2,0,none⟩)] w fun e w' => e = .returned (.int .i64 r) ∧ Below w.heap.size w w':=by
 have hu35:=Try.underlying35
 have HR2_1:=Aside0.mk hr2_1
 have HC2_1:=Aside0.mk hc2_1
 clear hr2_1 hc2_1
 have BK2:=Aside0.mk hb2
 clear hb2
 have HB:=Aside0.mk (Below.refl w.heap.size w)
 have H : ((impl_Matrix_at.f a2_0 l2_1 a0 a1).bind fun t754 => (if t754 = 0 then (some 0) else (if t754 = 1000000 then (some 3) else (some 1)))) = some r:=h
 clear h
 replace H:=Option.bind_eq_some_iff.mp H
 obtain ⟨t754,A40,H⟩:=H
 replace H : (if t754 = 0 then (some 0) else (if t754 = 1000000 then (some 3) else (some 1))) = some r:=H
 have A4:=Aside0.mk A40
 clear A40
 by_cases c5 : t754 = 0
 ·rw [if_pos c5] at H
  have c5b0 : (t754 == 0) = true:=beq_iff_eq.mpr c5
  have c5b1 : (t754 != 0) = false:=bne_eq_false_iff_eq.mpr c5
  clear c5
  obtain rfl:=Option.some.inj H
  obtain ⟨hcz6_0,hcz6_1,hfz6_0,hfz6_1⟩:=cf2_ BK2.out
  go_enter Try.func169,Try.ntmps169
  go_wp2_with (first|((with_reducible refine gate_callee (f:=74) rfl ?_);refine goesL_ (some 9) rfl rfl Try.func74 (by kernel_rfl) rfl #[.agg #[.int .i64 a2_0,.slice A2_1 l2_1.length c2_1],.int .i64 a0,.int .i64 a1] rfl lp_ ?_;(with_reducible refine (impl_Matrix_at.calls a2_0 _ _ l2_1 a0 a1 t754 _ ?side1 ?side2 A4.out).mono ?_);(case side1 => repeat (first|exact HR2_1.out|(with_reducible refine Kd.C_alloc ?_ _)|(with_reducible refine Kd.C_drewN ?_ _)|(with_reducible refine Kd.C_drew ?_)));(case side2 => exact HC2_1.out);rintro e w7 ⟨rfl,hb⟩;refine ⟨_,rfl,?_⟩;replace BK2:=kc_ BK2 hb;replace HB:=hs0_ HB hb;(try clear hb);(try clear hb2);(try clear hk);(try clear hi)))
  go_ret
  exact ⟨er_,be0_ HB.out⟩
 ·rw [if_neg c5] at H
  have c5b0 : (t754 == 0) = false:=beq_eq_false_iff_ne.mpr c5
  have c5b1 : (t754 != 0) = true:=bne_iff_ne.mpr c5
  by_cases c8 : t754 = 1000000
  ·rw [if_pos c8] at H
   have c8b0 : (t754 == 1000000) = true:=beq_iff_eq.mpr c8
   have c8b1 : (t754 != 1000000) = false:=bne_eq_false_iff_eq.mpr c8
   clear c8
   obtain rfl:=Option.some.inj H
   obtain ⟨hcz9_0,hcz9_1,hfz9_0,hfz9_1⟩:=cf2_ BK2.out
   go_enter Try.func169,Try.ntmps169
   go_wp2_with (first|((with_reducible refine gate_callee (f:=74) rfl ?_);refine goesL_ (some 9) rfl rfl Try.func74 (by kernel_rfl) rfl #[.agg #[.int .i64 a2_0,.slice A2_1 l2_1.length c2_1],.int .i64 a0,.int .i64 a1] rfl lp_ ?_;(with_reducible refine (impl_Matrix_at.calls a2_0 _ _ l2_1 a0 a1 t754 _ ?side1 ?side2 A4.out).mono ?_);(case side1 => repeat (first|exact HR2_1.out|(with_reducible refine Kd.C_alloc ?_ _)|(with_reducible refine Kd.C_drewN ?_ _)|(with_reducible refine Kd.C_drew ?_)));(case side2 => exact HC2_1.out);rintro e w10 ⟨rfl,hb⟩;refine ⟨_,rfl,?_⟩;replace BK2:=kc_ BK2 hb;replace HB:=hs0_ HB hb;(try clear hb);(try clear hb2);(try clear hk);(try clear hi)))
   go_ret
   exact ⟨er_,be0_ HB.out⟩
  ·rw [if_neg c8] at H
   have c8b0 : (t754 == 1000000) = false:=beq_eq_false_iff_ne.mpr c8
   have c8b1 : (t754 != 1000000) = true:=bne_iff_ne.mpr c8
   obtain rfl:=Option.some.inj H
   obtain ⟨hcz11_0,hcz11_1,hfz11_0,hfz11_1⟩:=cf2_ BK2.out
   go_enter Try.func169,Try.ntmps169
   go_wp2_with (first|((with_reducible refine gate_callee (f:=74) rfl ?_);refine goesL_ (some 9) rfl rfl Try.func74 (by kernel_rfl) rfl #[.agg #[.int .i64 a2_0,.slice A2_1 l2_1.length c2_1],.int .i64 a0,.int .i64 a1] rfl lp_ ?_;(with_reducible refine (impl_Matrix_at.calls a2_0 _ _ l2_1 a0 a1 t754 _ ?side1 ?side2 A4.out).mono ?_);(case side1 => repeat (first|exact HR2_1.out|(with_reducible refine Kd.C_alloc ?_ _)|(with_reducible refine Kd.C_drewN ?_ _)|(with_reducible refine Kd.C_drew ?_)));(case side2 => exact HC2_1.out);rintro e w12 ⟨rfl,hb⟩;refine ⟨_,rfl,?_⟩;replace BK2:=kc_ BK2 hb;replace HB:=hs0_ HB hb;(try clear hb);(try clear hb2);(try clear hk);(try clear hi)))
   go_ret
   exact ⟨er_,be0_ HB.out⟩
def impl_filled__impl_GradesOf_1.f (k : Nat) (a0 : Int) (a1_0 : Int) (l1_1 : List Int) : Option (Int × List Int):=impl_filled.f (fun y0 y1 => impl_GradesOf_1.f  y0 y1 a1_0 l1_1) k a0
theorem impl_filled__impl_GradesOf_1.mono : ∀ b0 b1 b2 k,LeO (impl_filled__impl_GradesOf_1.f k b0 b1 b2) (impl_filled__impl_GradesOf_1.f (k + 1) b0 b1 b2):=by
 intro b0 b1 b2 k
 exact impl_filled.monoP (fun _ _ => LeO.refl _) _ k
set_option maxHeartbeats 2000000 in
theorem impl_filled__impl_GradesOf_1.calls (k : Nat) (a0 : Int) (g1 : Nat) (a1_0 : Int) (A1_1 : Option Addr) (c1_1 : Nat) (l1_1 : List Int) (r1 : Int) (r2 : List Int) (w : World) (hr1_1 : Kd.C (Kd.int .i64) w A1_1 l1_1.length l1_1) (hc1_1 : l1_1.length ≤ c1_1) (hb1 : w.heap[g1]? = some (.cells #[.int .i64 a1_0,.slice A1_1 l1_1.length c1_1] 35 (0,0))) (h : impl_filled__impl_GradesOf_1.f k a0 a1_0 l1_1 = some (r1,r2)) :
  Calls Try.prog 112 #[.int .i64 a0,.func (.func 169) #[] #[.pointer (some ⟨g1,0,none⟩)]] w fun e w' => ∃ v1_ : Value,e = .returned (.agg #[.int .i64 r1,v1_]) ∧ Kd.R (Kd.int .i64) 3 w' w.heap.size (fun _ => True) v1_ r2 ∧ Below w.heap.size w w':=by
 refine impl_filled.calls k a0 169 #[] #[.pointer (some ⟨g1,0,none⟩)] (fun y0 y1 => impl_GradesOf_1.f  y0 y1 a1_0 l1_1) r1 r2 w  ⟨_,Try.func169,rfl,rfl⟩ ?_ h
 intro ay0 ay1 z0 W_ hB_  h_
 refine calls_of_args (args':=#[.int .i64 ay0,.int .i64 ay1,.pointer (some ⟨g1,0,none⟩)]) (by simp) ?_
 refine (impl_GradesOf_1.calls ay0 ay1 g1 a1_0 A1_1 c1_1 l1_1 z0 W_ (Kd.C_below hr1_1 hB_) hc1_1 (blk_below hb1 hB_) h_).mono ?_
 exact fun e w' h => h
def impl_CostValid.f (a0 : Int) : Option (Bool):=if a0 ≥ 0 then (some (decide (a0 ≤ 1000000))) else (some false)
set_option maxHeartbeats 8000000 in
set_option maxRecDepth 100000 in
theorem impl_CostValid.calls (a0 : Int) (r : Bool) (w : World) (h : impl_CostValid.f a0 = some r) :
  Calls Try.prog 164 #[.int .i64 a0] w fun e w' => e = .returned (.bool r) ∧ Drawn0 w w':=by
 have H : (if a0 ≥ 0 then (some (decide (a0 ≤ 1000000))) else (some false)) = some r:=h
 clear h
 by_cases c2 : a0 ≥ 0
 ·rw [if_pos c2] at H
  have c2b0 : decide (0 ≤ a0) = true:=decide_eq_true c2
  clear c2
  obtain rfl:=Option.some.inj H
  go_enter Try.func164,Try.ntmps164
  go_wp2
  go_ret
  exact ⟨by first|rfl|(simp;done)|(simp [*];done),by repeat (first|exact Drawn0.refl _|apply Drawn0.step)⟩
 ·rw [if_neg c2] at H
  have c2b0 : decide (0 ≤ a0) = false:=decide_eq_false c2
  clear c2
  obtain rfl:=Option.some.inj H
  go_enter Try.func164,Try.ntmps164
  go_wp2
  go_ret
  exact ⟨by first|rfl|(simp;done)|(simp [*];done),by repeat (first|exact Drawn0.refl _|apply Drawn0.step)⟩
def impl_MatrixValid_1.f (a0 : Int) : Option (Bool):=(impl_CostValid.f a0).bind fun t209 => (some (!t209))
set_option maxHeartbeats 8000000 in
set_option maxRecDepth 100000 in
theorem impl_MatrixValid_1.calls (a0 : Int) (r : Bool) (w : World) (h : impl_MatrixValid_1.f a0 = some r) :
  Calls Try.prog 163 #[.int .i64 a0] w fun e w' => e = .returned (.bool r) ∧ Drawn0 w w':=by
 have H : ((impl_CostValid.f a0).bind fun t209 => (some (!t209))) = some r:=h
 clear h
 replace H:=Option.bind_eq_some_iff.mp H
 obtain ⟨t209,A20,H⟩:=H
 replace H : (some (!t209)) = some r:=H
 have A2:=Aside0.mk A20
 clear A20
 obtain rfl:=Option.some.inj H
 go_enter Try.func163,Try.ntmps163
 go_wp2_with (first|((with_reducible refine gate_callee (f:=164) rfl ?_);refine goesL_ (some 4) rfl rfl Try.func164 (by kernel_rfl) rfl #[.int .i64 a0] rfl lp_ ?_;(with_reducible refine (impl_CostValid.calls a0 t209 _ A2.out).mono ?_);rintro e w' ⟨rfl,⟨nd,rfl⟩⟩;refine ⟨_,rfl,?_⟩))
 go_ret
 exact ⟨by first|rfl|(simp;done)|(simp [*];done),by repeat (first|exact Drawn0.refl _|apply Drawn0.step)⟩
end Go.Proofs.Ytfmbpoojpnoafaa.X
end
