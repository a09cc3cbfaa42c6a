import Derived.Test.YtoeeeafknajkkaaProg
import Derived.Below
import Derived.Deep.Draws
import Derived.Deep.AppendLies
import Derived.Maps.AppendAt
import Derived.OwnWalk
import Derived.Laws.BytesArg
import Derived.Laws.MakeOwn
import Derived.Laws.OwnMore
import Derived.Deep.OwnRows
import Derived.Tactics
import Derived.Lib.ConvBytes
import Derived.Laws.Slices
import Derived.WalkKit
import Derived.KernelRfl
import Derived.RowKit3
import Derived.Deep.LoopGhost
import Derived.Deep.QuietTactic
import Derived.BigQuiet
import Derived.WideLaws
import Derived.Deep.DeepCutAuto
import Derived.Deep.CutBlock
import Derived.Deep.RegionHeld3
import Derived.Laws.Rows
import Derived.Lib.AppendStr
import Derived.ArgAppend
import Derived.Laws.IdiomCopy
import Derived.OrdersHeld
import Derived.Laws.BitsLemmas
import Derived.RowKit
import Derived.Test.YtoeeeafknajkkaaQFnExactPrefixCosts3
import Derived.Laws.StructEq
import Derived.Laws.CopyOwn
import Derived.LoopN
import Derived.Shelf.SlGeneric
import Derived.Shelf.SortM.Plain
import Derived.Shelf.SortM.SortNone
import Derived.Shelf.SlSortCmp.NoneTotal
import Derived.Shelf.SlicesE.Clone
import Derived.Shelf.Spec.SlicesGrow
import Derived.Ground.SlgnProg
import Derived.Ground.SlsfProg
import Derived.Ground.SlgmProg
import Derived.Ground.Names8Prog
section
namespace Go.Proofs.Ytoeeeafknajkkaa.X
open Go.RowKit Go.Proofs.YtoeeeafknajkkaaW.PrintWords Go.Proofs.YtoeeeafknajkkaaW.PrintLast Go.Proofs.YtoeeeafknajkkaaW.PrintMore
attribute [local go_sem] max2_int min2_int max_two min_two max_three min_three max_four min_four
set_option linter.unusedVariables false
set_option linter.unusedSimpArgs false
def FnAt (P : Program) (q : FuncId) : Prop := ∃ fn,P.funcs[q]? = some fn ∧ (fn.name == "runtime.NumGoroutine") = false ∧ fn.body.isSome = true
section
variable {P : Program} {ops : Array Oper} {Q : Exit → Act → World → Prop}
theorem gate_dyn {rest : List Oper} {o : Oper} {a : Act} {W : World} {t : Tmp} {os : Array Operand} {ts : Array TypeId} (_ho : o.op = .call { callee:=.value (.tmp t),args:=os,argTypes:=ts }) (h : wpList P ops Q (o :: rest) a W) : wpList P ops Q (o :: rest) a W:=h
theorem goesLD_ {rest : List Oper} {oi : Oper} {a : Act} {w : World} (N : Option Tmp) (hd : oi.dst = N) (hg : oi.guard = none) {q : FuncId} (hq : FnAt P q) {os : Array Operand} {ts : Array TypeId} {t : Tmp} {Fb C : Array Value} (xs : Array Value)
  (hop : oi.op = .call { callee:=.value (.tmp t),args:=os,argTypes:=ts }) (hv : a.eval (.tmp t) = .func (.func q) Fb C) (hargs : os.map a.eval = xs)
  (h : Calls P q (Fb ++ xs ++ C) w fun e w' => ∃ v,e = .returned v ∧ wpList P ops Q rest (a.put N v) w') : wpList P ops Q (oi :: rest) a w:=by
 obtain ⟨fn,hf,hname,hb⟩:=hq
 refine wpList_plain hg fun K hK => ?_
 have he:=enters_ hf hname hb (Fb ++ xs ++ C) w
 have hrun : (execOp a.eval oi).run P w = .ok (.enter q (Fb ++ xs ++ C)) w:=by
  unfold execOp
  simp [hop,resolve,Deferred.ofValue,invoke,hv,hargs]
  rw [← Array.append_assoc];exact he
 unfold Oper.wp
 rw [hrun,Oper.upon_enter]
 refine h.mono fun e w'' hh => ?_
 obtain ⟨v,rfl,hk⟩:=hh
 subst hd
 exact hK _ _ hk
theorem goesD_ {oi : Oper} {N : Option Tmp} {a : Act} {w : World} {K : Act → World → Prop} {q : FuncId} (hq : FnAt P q) {os : Array Operand} {ts : Array TypeId} {t : Tmp} {Fb C : Array Value} (xs : Array Value)
  (hw : Region.wanted oi (yielded ops a.tmps) = true) (hN : oi.dst = N) (hop : oi.op = .call { callee:=.value (.tmp t),args:=os,argTypes:=ts }) (hv : a.eval (.tmp t) = .func (.func q) Fb C) (hargs : os.map a.eval = xs)
  (h : Calls P q (Fb ++ xs ++ C) w fun e w' => ∃ v,e = .returned v ∧ K (a.put N v) w') : if Region.wanted oi (yielded ops a.tmps) = true then Oper.wp P oi a w K Q else K (a.put N undef) w:=by
 obtain ⟨fn,hf,hname,hb⟩:=hq
 have he:=enters_ hf hname hb (Fb ++ xs ++ C) w
 refine call_ q (Fb ++ xs ++ C) hw hN ?_ h
 unfold execOp
 simp [hop,resolve,Deferred.ofValue,invoke,hv,hargs]
 rw [← Array.append_assoc];exact he
end
end Go.Proofs.Ytoeeeafknajkkaa.X
end
section
namespace Go.Proofs.Ytoeeeafknajkkaa.X
open Go.RowKit Go.Proofs.YtoeeeafknajkkaaW.PrintWords Go.Proofs.YtoeeeafknajkkaaW.PrintLast Go.Proofs.YtoeeeafknajkkaaW.PrintMore
attribute [local go_sem] max2_int min2_int max_two min_two max_three min_three max_four min_four
set_option linter.unusedVariables false
set_option linter.unusedSimpArgs false
def errW : Option Int → Value
 | none => .nilIface
 | some c => .iface 0 (.int .i64 c)
theorem errW_none : errW none = .nilIface:=rfl
theorem errW_some (c : Int) : errW (some c) = .iface 0 (.int .i64 c):=rfl
theorem info3 : (Try.prog.info? 3).map (fun i => (i.zero,i.size,i.bytes)) = some (some (.int .i64 0),1,8):=by kernel_rfl
theorem info4 : (Try.prog.info? 4).map (fun i => (i.zero,i.size,i.bytes)) = some (some (.bool false),1,1):=by kernel_rfl
theorem info5 : (Try.prog.info? 5).map (fun i => (i.zero,i.size,i.bytes)) = some (some (.int .u8 0),1,1):=by kernel_rfl
theorem info9 : (Try.prog.info? 9).map (fun i => (i.zero,i.size,i.bytes)) = some (some (.string ⟨#[]⟩),1,16):=by kernel_rfl
theorem info22 : (Try.prog.info? 22).map (fun i => (i.zero,i.size,i.bytes)) = some (some (.slice none 0 0),1,24):=by kernel_rfl
theorem info67 : (Try.prog.info? 67).map (fun i => (i.zero,i.size,i.bytes)) = some (some (.agg #[(.int .i64 0),(.string ⟨#[]⟩),(.int .i64 0),(.int .i64 0)]),4,40):=by kernel_rfl
structure S103 where
 f0 : Int
 f1 : ByteArray
 f2 : Int
 f3 : Int
def z103 : S103:=⟨(0 : Int),(⟨#[]⟩ : ByteArray),(0 : Int),(0 : Int)⟩
def k103 : Kd S103:=Kd.iso (Kd.pair (Kd.int .i64) (Kd.pair Kd.string (Kd.pair (Kd.int .i64) (Kd.int .i64)))) (fun x : S103 => (x.f0,x.f1,x.f2,x.f3))
theorem k103_open {w : World} {x : S103} {cs : List Value} (h : k103.K w x cs) : cs = [.int .i64 x.f0,.string x.f1,.int .i64 x.f2,.int .i64 x.f3]:=by
 obtain ⟨_,_,rfl,rfl,⟨_,_,rfl,rfl,⟨_,_,rfl,rfl,rfl⟩⟩⟩:=h
 exact rfl
theorem k103_openM {w : World} {base : Nat} {ok : Nat → Prop} {x : S103} {cs : List Value} (h : k103.M w base ok x cs) : cs = [.int .i64 x.f0,.string x.f1,.int .i64 x.f2,.int .i64 x.f3]:=by
 obtain ⟨_,_,rfl,rfl,⟨_,_,rfl,rfl,⟨_,_,rfl,rfl,rfl⟩⟩⟩:=h
 exact rfl
theorem k103_mk (w : World) (x : S103)  : k103.K w x [.int .i64 x.f0,.string x.f1,.int .i64 x.f2,.int .i64 x.f3]:=⟨[.int .i64 x.f0],[.string x.f1,.int .i64 x.f2,.int .i64 x.f3],rfl,rfl,⟨[.string x.f1],[.int .i64 x.f2,.int .i64 x.f3],rfl,rfl,⟨[.int .i64 x.f2],[.int .i64 x.f3],rfl,rfl,rfl⟩⟩⟩
theorem k103_mkM (w : World) (base : Nat) (ok : Nat → Prop) (x : S103)  : k103.M w base ok x [.int .i64 x.f0,.string x.f1,.int .i64 x.f2,.int .i64 x.f3]:=⟨[.int .i64 x.f0],[.string x.f1,.int .i64 x.f2,.int .i64 x.f3],rfl,rfl,⟨[.string x.f1],[.int .i64 x.f2,.int .i64 x.f3],rfl,rfl,⟨[.int .i64 x.f2],[.int .i64 x.f3],rfl,rfl,rfl⟩⟩⟩
theorem k103_mkF (W : World) (ok : Nat → Prop) (x : S103) : Kd.FK k103 W ok x [.int .i64 x.f0,.string x.f1,.int .i64 x.f2,.int .i64 x.f3]:=fun W2 _ => k103_mk W2 x
def rd_T103 (xs : List S103) (i : Int) : S103:=xs.getD i.toNat z103
theorem at_T103 {w : World} {A : Option Addr} {n : Nat} {xs : List S103} (h : Kd.C k103 w A n xs) (i : Int) (h0 : 0 ≤ i) (h1 : i < n) : ∃ ad , A = some ad ∧ w.cell? (ad.add (i.toNat * 4)) = some (.int .i64 (rd_T103 xs i).f0) ∧ w.cell? ⟨(ad.add (i.toNat * 4)).block,(ad.add (i.toNat * 4)).off + 1,none⟩ = some (.string (rd_T103 xs i).f1) ∧ w.cell? ⟨(ad.add (i.toNat * 4)).block,(ad.add (i.toNat * 4)).off + 2,none⟩ = some (.int .i64 (rd_T103 xs i).f2) ∧ w.cell? ⟨(ad.add (i.toNat * 4)).block,(ad.add (i.toNat * 4)).off + 3,none⟩ = some (.int .i64 (rd_T103 xs i).f3):=by
 obtain ⟨ad,c,e,_,hK,hc0⟩:=Kd.C_get h z103 i h0 h1
 have hc : ∀ j u,c[j]? = some u → w.cell? (ad.add (i.toNat * 4 + j)) = some u:=hc0
 obtain rfl:=k103_open hK
 exact ⟨ad,e,hc 0 _ rfl,by rw [← add_field _ _ 1 (by omega)];exact hc 1 _ rfl,by rw [← add_field _ _ 2 (by omega)];exact hc 2 _ rfl,by rw [← add_field _ _ 3 (by omega)];exact hc 3 _ rfl⟩
structure S67 where
 f0 : Int
 f1 : ByteArray
 f2 : Int
 f3 : Int
def z67 : S67:=⟨(0 : Int),(⟨#[]⟩ : ByteArray),(0 : Int),(0 : Int)⟩
def k67 : Kd S67:=Kd.iso (Kd.pair (Kd.int .i64) (Kd.pair Kd.string (Kd.pair (Kd.int .i64) (Kd.int .i64)))) (fun x : S67 => (x.f0,x.f1,x.f2,x.f3))
theorem k67_open {w : World} {x : S67} {cs : List Value} (h : k67.K w x cs) : cs = [.int .i64 x.f0,.string x.f1,.int .i64 x.f2,.int .i64 x.f3]:=by
 obtain ⟨_,_,rfl,rfl,⟨_,_,rfl,rfl,⟨_,_,rfl,rfl,rfl⟩⟩⟩:=h
 exact rfl
theorem k67_openM {w : World} {base : Nat} {ok : Nat → Prop} {x : S67} {cs : List Value} (h : k67.M w base ok x cs) : cs = [.int .i64 x.f0,.string x.f1,.int .i64 x.f2,.int .i64 x.f3]:=by
 obtain ⟨_,_,rfl,rfl,⟨_,_,rfl,rfl,⟨_,_,rfl,rfl,rfl⟩⟩⟩:=h
 exact rfl
theorem k67_mk (w : World) (x : S67)  : k67.K w x [.int .i64 x.f0,.string x.f1,.int .i64 x.f2,.int .i64 x.f3]:=⟨[.int .i64 x.f0],[.string x.f1,.int .i64 x.f2,.int .i64 x.f3],rfl,rfl,⟨[.string x.f1],[.int .i64 x.f2,.int .i64 x.f3],rfl,rfl,⟨[.int .i64 x.f2],[.int .i64 x.f3],rfl,rfl,rfl⟩⟩⟩
theorem k67_mkM (w : World) (base : Nat) (ok : Nat → Prop) (x : S67)  : k67.M w base ok x [.int .i64 x.f0,.string x.f1,.int .i64 x.f2,.int .i64 x.f3]:=⟨[.int .i64 x.f0],[.string x.f1,.int .i64 x.f2,.int .i64 x.f3],rfl,rfl,⟨[.string x.f1],[.int .i64 x.f2,.int .i64 x.f3],rfl,rfl,⟨[.int .i64 x.f2],[.int .i64 x.f3],rfl,rfl,rfl⟩⟩⟩
theorem k67_mkF (W : World) (ok : Nat → Prop) (x : S67) : Kd.FK k67 W ok x [.int .i64 x.f0,.string x.f1,.int .i64 x.f2,.int .i64 x.f3]:=fun W2 _ => k67_mk W2 x
def rd_T67 (xs : List S67) (i : Int) : S67:=xs.getD i.toNat z67
theorem at_T67 {w : World} {A : Option Addr} {n : Nat} {xs : List S67} (h : Kd.C k67 w A n xs) (i : Int) (h0 : 0 ≤ i) (h1 : i < n) : ∃ ad , A = some ad ∧ w.cell? (ad.add (i.toNat * 4)) = some (.int .i64 (rd_T67 xs i).f0) ∧ w.cell? ⟨(ad.add (i.toNat * 4)).block,(ad.add (i.toNat * 4)).off + 1,none⟩ = some (.string (rd_T67 xs i).f1) ∧ w.cell? ⟨(ad.add (i.toNat * 4)).block,(ad.add (i.toNat * 4)).off + 2,none⟩ = some (.int .i64 (rd_T67 xs i).f2) ∧ w.cell? ⟨(ad.add (i.toNat * 4)).block,(ad.add (i.toNat * 4)).off + 3,none⟩ = some (.int .i64 (rd_T67 xs i).f3):=by
 obtain ⟨ad,c,e,_,hK,hc0⟩:=Kd.C_get h z67 i h0 h1
 have hc : ∀ j u,c[j]? = some u → w.cell? (ad.add (i.toNat * 4 + j)) = some u:=hc0
 obtain rfl:=k67_open hK
 exact ⟨ad,e,hc 0 _ rfl,by rw [← add_field _ _ 1 (by omega)];exact hc 1 _ rfl,by rw [← add_field _ _ 2 (by omega)];exact hc 2 _ rfl,by rw [← add_field _ _ 3 (by omega)];exact hc 3 _ rfl⟩
def rd_L5 (xs : List (List Int)) (i : Int) : (List Int):=xs.getD i.toNat ([] : List Int)
theorem at_L5 {w : World} {A : Option Addr} {n : Nat} {xs : List (List Int)} (h : Kd.C (Kd.slice 3 (Kd.int .i64)) w A n xs) (i : Int) (h0 : 0 ≤ i) (h1 : i < n) : ∃ ad A0 c0,A = some ad ∧ w.cell? (ad.add i.toNat) = some (.slice A0 (rd_L5 xs i).length c0) ∧ (rd_L5 xs i).length ≤ c0 ∧ (Kd.int .i64).C w A0 (rd_L5 xs i).length (rd_L5 xs i):=by
 obtain ⟨ad,c,e,_,hK,hc0⟩:=Kd.C_get h ([] : List Int) i h0 h1
 have hc : ∀ j u,c[j]? = some u → w.cell? (ad.add (i.toNat * 1 + j)) = some u:=hc0
 obtain ⟨A0,c0,rfl,l0,g0⟩:=hK
 exact ⟨ad,A0,c0,e,by have hq:=hc 0 _ rfl;rwa [Nat.mul_one,Nat.add_zero] at hq,l0,g0⟩
def rd_L6 (xs : List (List S67)) (i : Int) : (List S67):=xs.getD i.toNat ([] : List S67)
theorem at_L6 {w : World} {A : Option Addr} {n : Nat} {xs : List (List S67)} (h : Kd.C (Kd.slice 67 k67) w A n xs) (i : Int) (h0 : 0 ≤ i) (h1 : i < n) : ∃ ad A0 c0,A = some ad ∧ w.cell? (ad.add i.toNat) = some (.slice A0 (rd_L6 xs i).length c0) ∧ (rd_L6 xs i).length ≤ c0 ∧ k67.C w A0 (rd_L6 xs i).length (rd_L6 xs i):=by
 obtain ⟨ad,c,e,_,hK,hc0⟩:=Kd.C_get h ([] : List S67) i h0 h1
 have hc : ∀ j u,c[j]? = some u → w.cell? (ad.add (i.toNat * 1 + j)) = some u:=hc0
 obtain ⟨A0,c0,rfl,l0,g0⟩:=hK
 exact ⟨ad,A0,c0,e,by have hq:=hc 0 _ rfl;rwa [Nat.mul_one,Nat.add_zero] at hq,l0,g0⟩
end Go.Proofs.Ytoeeeafknajkkaa.X
end
section
namespace Go.Proofs.Ytoeeeafknajkkaa.X
open Go.RowKit Go.Proofs.YtoeeeafknajkkaaW.PrintWords Go.Proofs.YtoeeeafknajkkaaW.PrintLast Go.Proofs.YtoeeeafknajkkaaW.PrintMore
attribute [local go_sem] max2_int min2_int max_two min_two max_three min_three max_four min_four
set_option linter.unusedVariables false
set_option linter.unusedSimpArgs false
section
variable {P : Program} {ops : Array Oper} {Q : Exit → Act → World → Prop} {S : World → Prop} {ds : List Nat}
def mk (n b : Nat) : Array Bool:=((List.range n).map fun i => b.testBit i).toArray
inductive Seg where
 | p : Nat → Nat → Seg
 | t : Nat → Nat → Seg
 | u : Nat → Nat → Seg
inductive Steps (P : Program) (ops : Array Oper) (S : World → Prop) : List Seg → Act → Act → Prop
 | nil {a : Act} : Steps P ops S [] a a
 | p {i : Nat} {is : List Seg} {N : Nat} {oi : Oper} {v : Value} {a : Act} (hi : ops[i]? = some oi) (hN : oi.dst = some N) (hy : Yields P ops oi v a) {a1 a2 : Act} (ha : a.put (some N) v = a1) (hs : Steps P ops S is a1 a2) : Steps P ops S (.p i N :: is) a a2
 | u {i : Nat} {is : List Seg} {N : Nat} {oi : Oper} {a : Act} (hi : ops[i]? = some oi) (hN : oi.dst = some N) (hy : Yields P ops oi undef a) {a1 a2 : Act} (ha : a.put (some N) undef = a1) (hs : Steps P ops S is a1 a2) : Steps P ops S (.u i N :: is) a a2
 | t {i : Nat} {is : List Seg} {N : Nat} {oi : Oper} {v : Value} {a : Act} (hi : ops[i]? = some oi) (hN : oi.dst = some N) (hy : YieldsIf P ops S oi v a) {a1 a2 : Act} (ha : a.put (some N) v = a1) (hs : Steps P ops S is a1 a2) : Steps P ops S (.t i N :: is) a a2
def chk (T : Bool × List (List Nat × List Nat)) (ds : List Nat) : List Seg → List Bool → List Bool → Bool
 | [],l,l' => l == l'
 | .p i _ :: r,l,l' => anyT T l (l.set i true) i && chk T ds r (l.set i true) l'
 | .u i _ :: r,l,l' => anyT T l (l.set i true) i && chk T ds r (l.set i true) l'
 | .t i _ :: r,l,l' => takeT T ds l (l.set i true) i && chk T ds r (l.set i true) l'
def chkW (T : Bool × List (List Nat × List Nat)) (B ds : List Nat) : List Seg → List Bool → List Bool → Bool
 | [],l,l' => l == l'
 | .p i _ :: r,l,l' => anyT T l (l.set i true) i && chkW T B ds r (l.set i true) l'
 | .u i _ :: r,l,l' => anyT T l (l.set i true) i && chkW T B ds r (l.set i true) l'
 | .t i _ :: r,l,l' => takeW T B ds l (l.set i true) i && chkW T B ds r (l.set i true) l'
theorem hQput (hQ : ∀ c (a : Act) t w,Q (.panic c) { a with tmps:=t } w → Q (.panic c) a w) {N : Option Tmp} {v : Value} : ∀ c (a : Act) w,Q (.panic c) (a.put N v) w → Q (.panic c) a w:=fun c a w h => by
 cases N with
 | none => exact h
 | some d => exact hQ c a _ w h
theorem steps0_ {T : Bool × List (List Nat × List Nat)} (HT : rtab .any ops = T) (hQ : ∀ c (a : Act) t w,Q (.panic c) { a with tmps:=t } w → Q (.panic c) a w) {w : World} (hS : S w) {l' : Array Bool} {a' : Act} {fuel : Nat}
  (h : wpAnyLast P .any ops Q S ds fuel l' a' w) : ∀ {is : List Seg} {l : Array Bool} {a : Act},Steps P ops S is a a' → chk T ds is l.toList l'.toList = true → wpAnyLast P .any ops Q S ds (fuel + is.length) l a w
 | [],l,a,hst,hc => by
  cases hst
  simp only [chk,beq_iff_eq] at hc
  have e : l = l':=Array.ext' hc
  subst e
  exact h
 | .p i _ :: r,l,a,hst,hc => by
  cases hst with
  | p hi hN hy ha hs =>
  simp only [chk,Bool.and_eq_true] at hc
  refine pure_ (i:=i) (l:=l) (l.setIfInBounds i true) hi hN (any_of HT ?_) (hQput hQ) hy ha (steps0_ HT hQ hS h hs ?_)
  ·rw [Array.toList_setIfInBounds];exact hc.1
  ·rw [Array.toList_setIfInBounds];exact hc.2
 | .u i _ :: r,l,a,hst,hc => by
  cases hst with
  | u hi hN hy ha hs =>
  simp only [chk,Bool.and_eq_true] at hc
  refine pure_ (i:=i) (l:=l) (l.setIfInBounds i true) hi hN (any_of HT ?_) (hQput hQ) hy ha (steps0_ HT hQ hS h hs ?_)
  ·rw [Array.toList_setIfInBounds];exact hc.1
  ·rw [Array.toList_setIfInBounds];exact hc.2
 | .t i _ :: r,l,a,hst,hc => by
  cases hst with
  | t hi hN hy ha hs =>
  simp only [chk,Bool.and_eq_true] at hc
  refine take_ (i:=i) (l:=l) (l.setIfInBounds i true) hi hN (take_of HT ?_) (hQput hQ) hy hS ha (steps0_ HT hQ hS h hs ?_)
  ·rw [Array.toList_setIfInBounds];exact hc.1
  ·rw [Array.toList_setIfInBounds];exact hc.2
theorem stepsW_ {T : Bool × List (List Nat × List Nat)} {B : List Nat} (HT : rtab .any ops = T) (HW : waitsOk T.2 B = true) (hQ : ∀ c (a : Act) t w,Q (.panic c) { a with tmps:=t } w → Q (.panic c) a w) {w : World} (hS : S w) {l' : Array Bool} {a' : Act} {fuel : Nat}
  (h : wpAnyLast P .any ops Q S ds fuel l' a' w) : ∀ {is : List Seg} {l : Array Bool} {a : Act},Steps P ops S is a a' → chkW T B ds is l.toList l'.toList = true → wpAnyLast P .any ops Q S ds (fuel + is.length) l a w
 | [],l,a,hst,hc => by
  cases hst
  simp only [chkW,beq_iff_eq] at hc
  have e : l = l':=Array.ext' hc
  subst e
  exact h
 | .p i _ :: r,l,a,hst,hc => by
  cases hst with
  | p hi hN hy ha hs =>
  simp only [chkW,Bool.and_eq_true] at hc
  refine pure_ (i:=i) (l:=l) (l.setIfInBounds i true) hi hN (any_of HT ?_) (hQput hQ) hy ha (stepsW_ HT HW hQ hS h hs ?_)
  ·rw [Array.toList_setIfInBounds];exact hc.1
  ·rw [Array.toList_setIfInBounds];exact hc.2
 | .u i _ :: r,l,a,hst,hc => by
  cases hst with
  | u hi hN hy ha hs =>
  simp only [chkW,Bool.and_eq_true] at hc
  refine pure_ (i:=i) (l:=l) (l.setIfInBounds i true) hi hN (any_of HT ?_) (hQput hQ) hy ha (stepsW_ HT HW hQ hS h hs ?_)
  ·rw [Array.toList_setIfInBounds];exact hc.1
  ·rw [Array.toList_setIfInBounds];exact hc.2
 | .t i _ :: r,l,a,hst,hc => by
  cases hst with
  | t hi hN hy ha hs =>
  simp only [chkW,Bool.and_eq_true] at hc
  refine take_ (i:=i) (l:=l) (l.setIfInBounds i true) hi hN (take_ofW HT HW ?_) (hQput hQ) hy hS ha (stepsW_ HT HW hQ hS h hs ?_)
  ·rw [Array.toList_setIfInBounds];exact hc.1
  ·rw [Array.toList_setIfInBounds];exact hc.2
theorem st0_ {T : Bool × List (List Nat × List Nat)} (is : List Seg) (n b m : Nat) (HT : rtab .any ops = T) {w : World} (hS : S w) {a a' : Act} {fuel : Nat} {l : Array Bool} (hst : Steps P ops S is a a') (hn : is.length = n) (hc : chk T ds is l.toList (mk m b).toList = true) (hQ : ∀ c (a : Act) t w,Q (.panic c) { a with tmps:=t } w → Q (.panic c) a w)
  (h : wpAnyLast P .any ops Q S ds fuel (mk m b) a' w) : wpAnyLast P .any ops Q S ds (fuel + n) l a w:=by
 subst hn
 exact steps0_ HT hQ hS h hst hc
theorem stW_ {T : Bool × List (List Nat × List Nat)} {B : List Nat} (is : List Seg) (n b m : Nat) (HT : rtab .any ops = T) (HW : waitsOk T.2 B = true) {w : World} (hS : S w) {a a' : Act} {fuel : Nat} {l : Array Bool} (hst : Steps P ops S is a a') (hn : is.length = n) (hc : chkW T B ds is l.toList (mk m b).toList = true) (hQ : ∀ c (a : Act) t w,Q (.panic c) { a with tmps:=t } w → Q (.panic c) a w)
  (h : wpAnyLast P .any ops Q S ds fuel (mk m b) a' w) : wpAnyLast P .any ops Q S ds (fuel + n) l a w:=by
 subst hn
 exact stepsW_ HT HW hQ hS h hst hc
end
end Go.Proofs.Ytoeeeafknajkkaa.X
end
section
namespace Go.Proofs.Ytoeeeafknajkkaa.X
open Go.RowKit Go.Proofs.YtoeeeafknajkkaaW.PrintWords Go.Proofs.YtoeeeafknajkkaaW.PrintLast Go.Proofs.YtoeeeafknajkkaaW.PrintMore
attribute [local go_sem] max2_int min2_int max_two min_two max_three min_three max_four min_four
set_option linter.unusedVariables false
set_option linter.unusedSimpArgs false
def bits_Mul64.f (a0 : Int) (a1 : Int) : Option (Int × Int):=some (IntKind.u64.wrap ((IntKind.u64.wrap ((IntKind.u64.wrap ((a0 / 4294967296) * (a1 / 4294967296))) + ((IntKind.u64.wrap ((IntKind.u64.wrap ((a0 / 4294967296) * (Go.bits .and .u64 a1 4294967295))) + ((IntKind.u64.wrap ((Go.bits .and .u64 a0 4294967295) * (Go.bits .and .u64 a1 4294967295))) / 4294967296))) / 4294967296))) + ((IntKind.u64.wrap ((Go.bits .and .u64 (IntKind.u64.wrap ((IntKind.u64.wrap ((a0 / 4294967296) * (Go.bits .and .u64 a1 4294967295))) + ((IntKind.u64.wrap ((Go.bits .and .u64 a0 4294967295) * (Go.bits .and .u64 a1 4294967295))) / 4294967296))) 4294967295) + (IntKind.u64.wrap ((Go.bits .and .u64 a0 4294967295) * (a1 / 4294967296))))) / 4294967296)),IntKind.u64.wrap (a0 * a1))
set_option maxHeartbeats 8000000 in
set_option maxRecDepth 100000 in
theorem bits_Mul64.calls (a0 : Int) (a1 : Int) (r1 : Int) (r2 : Int) (w : World) (h : bits_Mul64.f a0 a1 = some (r1,r2)) :
  Calls Try.prog 171 #[.int .u64 a0,.int .u64 a1] w fun e w' => e = .returned (.tuple #[.int .u64 r1,.int .u64 r2]) ∧ Drawn0 w w':=by
 have H : (some (IntKind.u64.wrap ((IntKind.u64.wrap ((IntKind.u64.wrap ((a0 / 4294967296) * (a1 / 4294967296))) + ((IntKind.u64.wrap ((IntKind.u64.wrap ((a0 / 4294967296) * (Go.bits .and .u64 a1 4294967295))) + ((IntKind.u64.wrap ((Go.bits .and .u64 a0 4294967295) * (Go.bits .and .u64 a1 4294967295))) / 4294967296))) / 4294967296))) + ((IntKind.u64.wrap ((Go.bits .and .u64 (IntKind.u64.wrap ((IntKind.u64.wrap ((a0 / 4294967296) * (Go.bits .and .u64 a1 4294967295))) + ((IntKind.u64.wrap ((Go.bits .and .u64 a0 4294967295) * (Go.bits .and .u64 a1 4294967295))) / 4294967296))) 4294967295) + (IntKind.u64.wrap ((Go.bits .and .u64 a0 4294967295) * (a1 / 4294967296))))) / 4294967296)),IntKind.u64.wrap (a0 * a1))) = some (r1,r2):=h
 clear h
 simp only [Option.some.injEq,Prod.mk.injEq] at H
 obtain ⟨rfl,rfl⟩:=H
 go_enter Try.func171,Try.ntmps171
 go_wp2
 go_ret2
 exact ⟨by first|rfl|(simp;done)|(simp [*];done),by repeat (first|exact Drawn0.refl _|apply Drawn0.step)⟩
end Go.Proofs.Ytoeeeafknajkkaa.X
end
section
namespace Go.Proofs.Ytoeeeafknajkkaa.X
open Go.RowKit Go.Proofs.YtoeeeafknajkkaaW.PrintWords Go.Proofs.YtoeeeafknajkkaaW.PrintLast Go.Proofs.YtoeeeafknajkkaaW.PrintMore
attribute [local go_sem] max2_int min2_int max_two min_two max_three min_three max_four min_four
set_option linter.unusedVariables false
set_option linter.unusedSimpArgs false
def bits_Mul.f (a0 : Int) (a1 : Int) : Option (Int × Int):=(bits_Mul64.f a0 a1).bind fun bt1121 => (some (bt1121.1,bt1121.2))
set_option maxHeartbeats 8000000 in
set_option maxRecDepth 100000 in
theorem bits_Mul.calls (a0 : Int) (a1 : Int) (r1 : Int) (r2 : Int) (w : World) (h : bits_Mul.f a0 a1 = some (r1,r2)) :
  Calls Try.prog 147 #[.int .u64 a0,.int .u64 a1] w fun e w' => e = .returned (.tuple #[.int .u64 r1,.int .u64 r2]) ∧ Drawn0 w w':=by
 have H : ((bits_Mul64.f a0 a1).bind fun bt1121 => (some (bt1121.1,bt1121.2))) = some (r1,r2):=h
 clear h
 replace H:=Option.bind_eq_some_iff.mp H
 obtain ⟨⟨t1121,t1122⟩,A30,H⟩:=H
 replace H : (some (t1121,t1122)) = some (r1,r2):=H
 have A3:=Aside0.mk A30
 clear A30
 simp only [Option.some.injEq,Prod.mk.injEq] at H
 obtain ⟨rfl,rfl⟩:=H
 go_enter Try.func147,Try.ntmps147
 go_wp2_with (first|((with_reducible refine gate_callee (f:=171) rfl ?_);refine goesL_ (some 25) rfl rfl Try.func171 (by kernel_rfl) rfl #[.int .u64 a0,.int .u64 a1] rfl (by (try simp only [List.map_toArray,List.map_cons,List.map_nil]);first|done|rfl|(simp only [List.length_drop,List.length_take];rfl)) ?_;(with_reducible refine (bits_Mul64.calls a0 a1 t1121 t1122 _ A3.out).mono ?_);rintro e w' ⟨rfl,⟨nd,rfl⟩⟩;refine ⟨_,rfl,?_⟩))
 go_ret2
 exact ⟨by first|rfl|(simp;done)|(simp [*];done),by repeat (first|exact Drawn0.refl _|apply Drawn0.step)⟩
end Go.Proofs.Ytoeeeafknajkkaa.X
end
section
namespace Go.Proofs.Ytoeeeafknajkkaa.X
open Go.RowKit Go.Proofs.YtoeeeafknajkkaaW.PrintWords Go.Proofs.YtoeeeafknajkkaaW.PrintLast Go.Proofs.YtoeeeafknajkkaaW.PrintMore
attribute [local go_sem] max2_int min2_int max_two min_two max_three min_three max_four min_four
set_option linter.unusedVariables false
set_option linter.unusedSimpArgs false
def slices_Repeat_int_int.f (l0 : List Int) (a1 : Int) : Option (List Int):=if l0.length = 1 ∧ 1 ≤ a1 ∧ a1 ≤ 4 then some (List.replicate a1.toNat (rd l0 0)) else none
theorem slices_Repeat_int_int.row {w : World} {base g cap : Nat} {xs : List Int} {rest : List Value} (hb : base ≤ g) (hc : xs.length ≤ cap) (hm : cap ≤ maxLen) (hl : xs.length + rest.length = cap) (h : w.heap[g]? = some (.cells ((xs.map (Value.int .i64)) ++ rest).toArray 3 (0,0))) :
  Kd.R (Kd.int .i64) 3 w base (fun _ => True) (.slice (some ⟨g,0,none⟩) xs.length cap) xs :=
 Kd.R_of_own ⟨by simp [encs],.inr ⟨g,cap,_,rfl,hb,h,hc,hm,by simp;omega,by simp [encs]⟩⟩ (fun _ _ => trivial)
theorem slices_Repeat_int_int.cells {w : World} {base : Nat} {ok : Nat → Prop} {v : Value} {xs : List Int} (h : Kd.R (Kd.int .i64) 3 w base ok v xs) (hp : 0 < xs.length) :
  ∃ g cap rest,v = .slice (some ⟨g,0,none⟩) xs.length cap ∧ base ≤ g ∧ w.heap[g]? = some (.cells ((xs.map (Value.int .i64)) ++ rest).toArray 3 (0,0)) ∧ xs.length ≤ cap ∧ cap ≤ maxLen ∧ xs.length + rest.length = cap:=by
 obtain ⟨h1,h2⟩:=Kd.own_of_R (enc:=Value.int .i64) (h1:=fun _ => rfl) h
 rcases h2 with ⟨_,h0⟩ | ⟨g,cap,cur,rfl,hb,hh,hnc,hcm,hcs,ht⟩
 ·omega
 refine ⟨g,cap,cur.toList.drop xs.length,rfl,hb,?_,hnc,hcm,?_⟩
 ·have e : (xs.map (Value.int .i64)) ++ cur.toList.drop xs.length = cur.toList:=by
   have:=List.take_append_drop xs.length cur.toList
   rw [Nat.mul_one] at ht
   rw [ht] at this
   exact this
  rw [e];exact hh
 ·rw [List.length_drop];have : cur.toList.length = cap:=by simp;omega
  omega
set_option maxHeartbeats 4000000 in
set_option maxRecDepth 100000 in
theorem slices_Repeat_int_int.n1 (ad : Addr) (c0 : Nat) (x : Int) (w : World) (hx : w.cell? (ad.add 0) = some (.int .i64 x)) :
  Calls Try.prog 132 #[.slice (some ad) 1 c0,.int .i64 1] w fun e w' => ∃ v0_ : Value,e = .returned (v0_) ∧ Kd.R (Kd.int .i64) 3 w' w.heap.size (fun _ => True) v0_ [x] ∧ Below w.heap.size w w':=by
 have HB:=Aside0.mk (Below.refl w.heap.size w)
 go_enter Try.func132,Try.ntmps132
 go_wp2_with (first|((with_reducible refine gate_callee (f:=147) rfl ?_);refine goesL_ (some 18) rfl rfl Try.func147 (by kernel_rfl) rfl #[.int .u64 1,.int .u64 1] rfl (by (try simp only [List.map_toArray,List.map_cons,List.map_nil]);first|done|rfl) ?_;(refine (bits_Mul.calls 1 1 0 1 _ (by kernel_rfl)).mono ?_);rintro e w' ⟨rfl,⟨nd,rfl⟩⟩;refine ⟨_,rfl,?_⟩)|((with_reducible refine gate_dst (N:=30) rfl ?_);refine Kd.R_make (Kd.int .i64) _ 3 rfl (N:=30) rfl 22 _ _ rfl (1 : Int) rfl rfl Try.underlying22 (.int .i64 0) 8 info3 rfl (by decide) (by omega) 0 (ok:=fun _ => True) (okp:=fun _ => True) rfl (fun _ hk => hk) trivial (by omega) (by decide) (Below.refl _ _) (Nat.le_refl _) ?_;intro v149 w4 ho5 hb hg_ hnew_;clear hg_ hnew_;have n0_:=Aside0.mk (Kd.R_lower ho5 (below_size (by repeat (first|(with_reducible first|exact HB.out|apply below_alloc|apply pw_below_drewN|apply below_drew1)|exact HB.out))));have n1_:=Aside0.mk (below_step (by repeat (first|(with_reducible first|exact HB.out|apply below_alloc|apply pw_below_drewN|apply below_drew1)|exact HB.out)) hb);clear HB;have HB:=n1_;obtain ⟨g,cap,rest,rfl,hbg,hg4,hcap,hcm,hrl⟩:=slices_Repeat_int_int.cells (xs:=[0]) n0_.out (by simp);clear n0_ n1_;clear hb ho5;have HG:=Aside0.mk hg4;clear hg4)|((with_reducible refine gate_dst (N:=33) rfl ?_);refine wpList_copy_splice rfl (.tmp 31) (.tmp 32) 22 22 rfl 3 Try.underlying22 (by kernel_rfl) (some ⟨g,0,none⟩) (some ad) 1 cap 1 c0 rfl rfl g 0 _ 3 HG.out [.int .i64 x] rfl (fun _ => ⟨rfl,ad,rfl,?src⟩) (by simp) (by simp [Value.oneCell']) _ _ HB.out hbg ?_;(case src => intro j v hj;obtain ⟨rfl,rfl⟩ : j = 0 ∧ v = .int .i64 x:=(by cases j <;> simp at hj;exact ⟨rfl,hj.symm⟩);exact (HB.out.cell (World.block_lt_of_cell? w _ hx)).trans hx);intro w5 hg5 hb5;have n0_:=Aside0.mk hg5;clear HG HB;have HG:=n0_;have HB:=Aside0.mk hb5;clear n0_ hg5 hb5))
 have hc1 : (1 : Int) ≤ (cap : Int):=by simp at hcap;omega
 refine wp_loop_rounds 1 ?_
 rw [rounds_succ]
 go_wp2
 go_ret
 exact ⟨_,rfl,slices_Repeat_int_int.row (xs:=[x]) (rest:=rest) hbg hcap hcm hrl HG.out,HB.out⟩
set_option maxHeartbeats 4000000 in
set_option maxRecDepth 100000 in
theorem slices_Repeat_int_int.n2 (ad : Addr) (c0 : Nat) (x : Int) (w : World) (hx : w.cell? (ad.add 0) = some (.int .i64 x)) :
  Calls Try.prog 132 #[.slice (some ad) 1 c0,.int .i64 2] w fun e w' => ∃ v0_ : Value,e = .returned (v0_) ∧ Kd.R (Kd.int .i64) 3 w' w.heap.size (fun _ => True) v0_ [x,x] ∧ Below w.heap.size w w':=by
 have HB:=Aside0.mk (Below.refl w.heap.size w)
 go_enter Try.func132,Try.ntmps132
 go_wp2_with (first|((with_reducible refine gate_callee (f:=147) rfl ?_);refine goesL_ (some 18) rfl rfl Try.func147 (by kernel_rfl) rfl #[.int .u64 1,.int .u64 2] rfl (by (try simp only [List.map_toArray,List.map_cons,List.map_nil]);first|done|rfl) ?_;(refine (bits_Mul.calls 1 2 0 2 _ (by kernel_rfl)).mono ?_);rintro e w' ⟨rfl,⟨nd,rfl⟩⟩;refine ⟨_,rfl,?_⟩)|((with_reducible refine gate_dst (N:=30) rfl ?_);refine Kd.R_make (Kd.int .i64) _ 3 rfl (N:=30) rfl 22 _ _ rfl (2 : Int) rfl rfl Try.underlying22 (.int .i64 0) 8 info3 rfl (by decide) (by omega) 0 (ok:=fun _ => True) (okp:=fun _ => True) rfl (fun _ hk => hk) trivial (by omega) (by decide) (Below.refl _ _) (Nat.le_refl _) ?_;intro v149 w4 ho5 hb hg_ hnew_;clear hg_ hnew_;have n0_:=Aside0.mk (Kd.R_lower ho5 (below_size (by repeat (first|(with_reducible first|exact HB.out|apply below_alloc|apply pw_below_drewN|apply below_drew1)|exact HB.out))));have n1_:=Aside0.mk (below_step (by repeat (first|(with_reducible first|exact HB.out|apply below_alloc|apply pw_below_drewN|apply below_drew1)|exact HB.out)) hb);clear HB;have HB:=n1_;obtain ⟨g,cap,rest,rfl,hbg,hg4,hcap,hcm,hrl⟩:=slices_Repeat_int_int.cells (xs:=[0,0]) n0_.out (by simp);clear n0_ n1_;clear hb ho5;have HG:=Aside0.mk hg4;clear hg4)|((with_reducible refine gate_dst (N:=33) rfl ?_);refine wpList_copy_splice rfl (.tmp 31) (.tmp 32) 22 22 rfl 3 Try.underlying22 (by kernel_rfl) (some ⟨g,0,none⟩) (some ad) 2 cap 1 c0 rfl rfl g 0 _ 3 HG.out [.int .i64 x] rfl (fun _ => ⟨rfl,ad,rfl,?src⟩) (by simp) (by simp [Value.oneCell']) _ _ HB.out hbg ?_;(case src => intro j v hj;obtain ⟨rfl,rfl⟩ : j = 0 ∧ v = .int .i64 x:=(by cases j <;> simp at hj;exact ⟨rfl,hj.symm⟩);exact (HB.out.cell (World.block_lt_of_cell? w _ hx)).trans hx);intro w5 hg5 hb5;have n0_:=Aside0.mk hg5;clear HG HB;have HG:=n0_;have HB:=Aside0.mk hb5;clear n0_ hg5 hb5))
 have hc1 : (1 : Int) ≤ (cap : Int):=by simp at hcap;omega
 have hc2 : (2 : Int) ≤ (cap : Int):=by simp at hcap;omega
 have hd1:=eq_false (show ¬ cap = 1 by simp at hcap;omega)
 have hw2 : wrap64 2 = 2:=by unfold wrap64;omega
 refine wp_loop_rounds 2 ?_
 rw [rounds_succ]
 go_wp2
 refine start_ (n:=10) (S:=fun _ => True) (ds:=[]) #[false,false,false,false,false,false,false,false,false,false] (by kernel_rfl) rfl rfl trivial (fun hHeld => ?_)
 have n0_:=Aside0.mk (below_drew1 HB.out)
 have n1_:=Aside0.mk (show w5.drew.heap[g]? = _ from HG.out)
 clear HB HG
 have HB:=n0_
 have HG:=n1_
 clear n0_ n1_
 generalize w5.drew = w6 at HB HG ⊢
 refine st0_ [.p 0 38,.p 1 39,.p 2 40,.p 3 41,.p 4 42,.p 5 43,.p 6 44] 7 127 10 rfl hHeld (a':=?_) ?_ rfl (by kernel_rfl) (fun _ _ _ _ h => h) ?_
 rotate_left
 ·repeat (first|exact Steps.nil|(refine Steps.p (oi:=?_) (v:=?_) (a1:=?_) ?_ ?_ ?_ ?_ ?_;rotate_left 2;rfl;rfl;(refine Or.inl ⟨by rfl,?_⟩;intro w';go_simp;with_reducible rfl);rotate_left;(simp only [Act.put,List.setIfInBounds_toArray,List.set_cons_zero,List.set_cons_succ,i64_w,i32_w];rfl)))
 refine one_ (i:=7) (N:=some 45) (mk 10 255) rfl rfl (by kernel_rfl) (by decide) (fun K hK => ?_)
 refine step_copy_splice rfl (.tmp 41) (.tmp 44) 22 22 rfl 3 Try.underlying22 (by kernel_rfl) (some ⟨g,1,none⟩) (some ⟨g,0,none⟩) 1 (cap - 1) 1 cap rfl rfl g 1 _ 3 HG.out [.int .i64 x] rfl (fun _ => ⟨rfl,_,rfl,?src⟩) ?fit (by simp [Value.oneCell']) _ _ HB.out hbg ?_
 case src =>
  intro j v hj
  obtain ⟨rfl,rfl⟩ : j = 0 ∧ v = .int .i64 x:=by cases j <;> simp at hj;exact ⟨rfl,hj.symm⟩
  exact (blk_cell HG.out 0).trans rfl
 case fit => simp [splice]
 intro w7 hg7 hb7
 have n0_:=Aside0.mk hg7
 clear HG HB
 have HG:=n0_
 have HB:=Aside0.mk hb7
 clear n0_ hg7 hb7
 refine hK.out _ _ trivial (fun hHeld => ?_)
 refine norm_ (a':=?_) ?_ ?_
 rotate_left
 ·show Act.put _ (some 45) _ = _
  simp only [Act.put,List.setIfInBounds_toArray,List.set_cons_zero,List.set_cons_succ,i64_w,i32_w]
  rfl
 refine st0_ [.p 8 46,.p 9 8] 2 1023 10 rfl hHeld (a':=?_) ?_ rfl (by kernel_rfl) (fun _ _ _ _ h => h) ?_
 rotate_left
 ·repeat (first|exact Steps.nil|(refine Steps.p (oi:=?_) (v:=?_) (a1:=?_) ?_ ?_ ?_ ?_ ?_;rotate_left 2;rfl;rfl;(refine Or.inl ⟨by rfl,?_⟩;intro w';go_simp;with_reducible rfl);rotate_left;(simp only [Act.put,List.setIfInBounds_toArray,List.set_cons_zero,List.set_cons_succ,i64_w,i32_w];rfl)))
 refine done_ (by kernel_rfl) ?_
 (try simp only [hw2])
 go_wp2
 rw [rounds_succ]
 go_wp2
 go_ret
 exact ⟨_,rfl,slices_Repeat_int_int.row (xs:=[x,x]) (rest:=rest) hbg hcap hcm hrl HG.out,HB.out⟩
set_option maxHeartbeats 4000000 in
set_option maxRecDepth 100000 in
theorem slices_Repeat_int_int.n3 (ad : Addr) (c0 : Nat) (x : Int) (w : World) (hx : w.cell? (ad.add 0) = some (.int .i64 x)) :
  Calls Try.prog 132 #[.slice (some ad) 1 c0,.int .i64 3] w fun e w' => ∃ v0_ : Value,e = .returned (v0_) ∧ Kd.R (Kd.int .i64) 3 w' w.heap.size (fun _ => True) v0_ [x,x,x] ∧ Below w.heap.size w w':=by
 have HB:=Aside0.mk (Below.refl w.heap.size w)
 go_enter Try.func132,Try.ntmps132
 go_wp2_with (first|((with_reducible refine gate_callee (f:=147) rfl ?_);refine goesL_ (some 18) rfl rfl Try.func147 (by kernel_rfl) rfl #[.int .u64 1,.int .u64 3] rfl (by (try simp only [List.map_toArray,List.map_cons,List.map_nil]);first|done|rfl) ?_;(refine (bits_Mul.calls 1 3 0 3 _ (by kernel_rfl)).mono ?_);rintro e w' ⟨rfl,⟨nd,rfl⟩⟩;refine ⟨_,rfl,?_⟩)|((with_reducible refine gate_dst (N:=30) rfl ?_);refine Kd.R_make (Kd.int .i64) _ 3 rfl (N:=30) rfl 22 _ _ rfl (3 : Int) rfl rfl Try.underlying22 (.int .i64 0) 8 info3 rfl (by decide) (by omega) 0 (ok:=fun _ => True) (okp:=fun _ => True) rfl (fun _ hk => hk) trivial (by omega) (by decide) (Below.refl _ _) (Nat.le_refl _) ?_;intro v149 w4 ho5 hb hg_ hnew_;clear hg_ hnew_;have n0_:=Aside0.mk (Kd.R_lower ho5 (below_size (by repeat (first|(with_reducible first|exact HB.out|apply below_alloc|apply pw_below_drewN|apply below_drew1)|exact HB.out))));have n1_:=Aside0.mk (below_step (by repeat (first|(with_reducible first|exact HB.out|apply below_alloc|apply pw_below_drewN|apply below_drew1)|exact HB.out)) hb);clear HB;have HB:=n1_;obtain ⟨g,cap,rest,rfl,hbg,hg4,hcap,hcm,hrl⟩:=slices_Repeat_int_int.cells (xs:=[0,0,0]) n0_.out (by simp);clear n0_ n1_;clear hb ho5;have HG:=Aside0.mk hg4;clear hg4)|((with_reducible refine gate_dst (N:=33) rfl ?_);refine wpList_copy_splice rfl (.tmp 31) (.tmp 32) 22 22 rfl 3 Try.underlying22 (by kernel_rfl) (some ⟨g,0,none⟩) (some ad) 3 cap 1 c0 rfl rfl g 0 _ 3 HG.out [.int .i64 x] rfl (fun _ => ⟨rfl,ad,rfl,?src⟩) (by simp) (by simp [Value.oneCell']) _ _ HB.out hbg ?_;(case src => intro j v hj;obtain ⟨rfl,rfl⟩ : j = 0 ∧ v = .int .i64 x:=(by cases j <;> simp at hj;exact ⟨rfl,hj.symm⟩);exact (HB.out.cell (World.block_lt_of_cell? w _ hx)).trans hx);intro w5 hg5 hb5;have n0_:=Aside0.mk hg5;clear HG HB;have HG:=n0_;have HB:=Aside0.mk hb5;clear n0_ hg5 hb5))
 have hc1 : (1 : Int) ≤ (cap : Int):=by simp at hcap;omega
 have hc2 : (2 : Int) ≤ (cap : Int):=by simp at hcap;omega
 have hc3 : (3 : Int) ≤ (cap : Int):=by simp at hcap;omega
 have hd1:=eq_false (show ¬ cap = 1 by simp at hcap;omega)
 have hd2:=eq_false (show ¬ cap = 2 by simp at hcap;omega)
 have hw2 : wrap64 2 = 2:=by unfold wrap64;omega
 have hw3 : wrap64 3 = 3:=by unfold wrap64;omega
 refine wp_loop_rounds 3 ?_
 rw [rounds_succ]
 go_wp2
 refine start_ (n:=10) (S:=fun _ => True) (ds:=[]) #[false,false,false,false,false,false,false,false,false,false] (by kernel_rfl) rfl rfl trivial (fun hHeld => ?_)
 have n0_:=Aside0.mk (below_drew1 HB.out)
 have n1_:=Aside0.mk (show w5.drew.heap[g]? = _ from HG.out)
 clear HB HG
 have HB:=n0_
 have HG:=n1_
 clear n0_ n1_
 generalize w5.drew = w6 at HB HG ⊢
 refine st0_ [.p 0 38,.p 1 39,.p 2 40,.p 3 41,.p 4 42,.p 5 43,.p 6 44] 7 127 10 rfl hHeld (a':=?_) ?_ rfl (by kernel_rfl) (fun _ _ _ _ h => h) ?_
 rotate_left
 ·repeat (first|exact Steps.nil|(refine Steps.p (oi:=?_) (v:=?_) (a1:=?_) ?_ ?_ ?_ ?_ ?_;rotate_left 2;rfl;rfl;(refine Or.inl ⟨by rfl,?_⟩;intro w';go_simp;with_reducible rfl);rotate_left;(simp only [Act.put,List.setIfInBounds_toArray,List.set_cons_zero,List.set_cons_succ,i64_w,i32_w];rfl)))
 refine one_ (i:=7) (N:=some 45) (mk 10 255) rfl rfl (by kernel_rfl) (by decide) (fun K hK => ?_)
 refine step_copy_splice rfl (.tmp 41) (.tmp 44) 22 22 rfl 3 Try.underlying22 (by kernel_rfl) (some ⟨g,1,none⟩) (some ⟨g,0,none⟩) 2 (cap - 1) 1 cap rfl rfl g 1 _ 3 HG.out [.int .i64 x] rfl (fun _ => ⟨rfl,_,rfl,?src⟩) ?fit (by simp [Value.oneCell']) _ _ HB.out hbg ?_
 case src =>
  intro j v hj
  obtain ⟨rfl,rfl⟩ : j = 0 ∧ v = .int .i64 x:=by cases j <;> simp at hj;exact ⟨rfl,hj.symm⟩
  exact (blk_cell HG.out 0).trans rfl
 case fit => simp [splice]
 intro w7 hg7 hb7
 have n0_:=Aside0.mk hg7
 clear HG HB
 have HG:=n0_
 have HB:=Aside0.mk hb7
 clear n0_ hg7 hb7
 refine hK.out _ _ trivial (fun hHeld => ?_)
 refine norm_ (a':=?_) ?_ ?_
 rotate_left
 ·show Act.put _ (some 45) _ = _
  simp only [Act.put,List.setIfInBounds_toArray,List.set_cons_zero,List.set_cons_succ,i64_w,i32_w]
  rfl
 refine st0_ [.p 8 46,.p 9 8] 2 1023 10 rfl hHeld (a':=?_) ?_ rfl (by kernel_rfl) (fun _ _ _ _ h => h) ?_
 rotate_left
 ·repeat (first|exact Steps.nil|(refine Steps.p (oi:=?_) (v:=?_) (a1:=?_) ?_ ?_ ?_ ?_ ?_;rotate_left 2;rfl;rfl;(refine Or.inl ⟨by rfl,?_⟩;intro w';go_simp;with_reducible rfl);rotate_left;(simp only [Act.put,List.setIfInBounds_toArray,List.set_cons_zero,List.set_cons_succ,i64_w,i32_w];rfl)))
 refine done_ (by kernel_rfl) ?_
 (try simp only [hw2])
 go_wp2
 rw [rounds_succ]
 go_wp2
 refine start_ (n:=10) (S:=fun _ => True) (ds:=[]) #[false,false,false,false,false,false,false,false,false,false] (by kernel_rfl) rfl rfl trivial (fun hHeld => ?_)
 have n0_:=Aside0.mk (below_drew1 HB.out)
 have n1_:=Aside0.mk (show w7.drew.heap[g]? = _ from HG.out)
 clear HB HG
 have HB:=n0_
 have HG:=n1_
 clear n0_ n1_
 generalize w7.drew = w8 at HB HG ⊢
 refine st0_ [.p 0 38,.p 1 39,.p 2 40,.p 3 41,.p 4 42,.p 5 43,.p 6 44] 7 127 10 rfl hHeld (a':=?_) ?_ rfl (by kernel_rfl) (fun _ _ _ _ h => h) ?_
 rotate_left
 ·repeat (first|exact Steps.nil|(refine Steps.p (oi:=?_) (v:=?_) (a1:=?_) ?_ ?_ ?_ ?_ ?_;rotate_left 2;rfl;rfl;(refine Or.inl ⟨by rfl,?_⟩;intro w';go_simp;with_reducible rfl);rotate_left;(simp only [Act.put,List.setIfInBounds_toArray,List.set_cons_zero,List.set_cons_succ,i64_w,i32_w];rfl)))
 refine one_ (i:=7) (N:=some 45) (mk 10 255) rfl rfl (by kernel_rfl) (by decide) (fun K hK => ?_)
 refine step_copy_splice rfl (.tmp 41) (.tmp 44) 22 22 rfl 3 Try.underlying22 (by kernel_rfl) (some ⟨g,2,none⟩) (some ⟨g,0,none⟩) 1 (cap - 2) 2 cap rfl rfl g 2 _ 3 HG.out [.int .i64 x] rfl (fun _ => ⟨rfl,_,rfl,?src⟩) ?fit (by simp [Value.oneCell']) _ _ HB.out hbg ?_
 case src =>
  intro j v hj
  obtain ⟨rfl,rfl⟩ : j = 0 ∧ v = .int .i64 x:=by cases j <;> simp at hj;exact ⟨rfl,hj.symm⟩
  exact (blk_cell HG.out 0).trans rfl
 case fit => simp [splice]
 intro w9 hg7 hb7
 have n0_:=Aside0.mk hg7
 clear HG HB
 have HG:=n0_
 have HB:=Aside0.mk hb7
 clear n0_ hg7 hb7
 refine hK.out _ _ trivial (fun hHeld => ?_)
 refine norm_ (a':=?_) ?_ ?_
 rotate_left
 ·show Act.put _ (some 45) _ = _
  simp only [Act.put,List.setIfInBounds_toArray,List.set_cons_zero,List.set_cons_succ,i64_w,i32_w]
  rfl
 refine st0_ [.p 8 46,.p 9 8] 2 1023 10 rfl hHeld (a':=?_) ?_ rfl (by kernel_rfl) (fun _ _ _ _ h => h) ?_
 rotate_left
 ·repeat (first|exact Steps.nil|(refine Steps.p (oi:=?_) (v:=?_) (a1:=?_) ?_ ?_ ?_ ?_ ?_;rotate_left 2;rfl;rfl;(refine Or.inl ⟨by rfl,?_⟩;intro w';go_simp;with_reducible rfl);rotate_left;(simp only [Act.put,List.setIfInBounds_toArray,List.set_cons_zero,List.set_cons_succ,i64_w,i32_w];rfl)))
 refine done_ (by kernel_rfl) ?_
 (try simp only [hw3])
 go_wp2
 rw [rounds_succ]
 go_wp2
 go_ret
 exact ⟨_,rfl,slices_Repeat_int_int.row (xs:=[x,x,x]) (rest:=rest) hbg hcap hcm hrl HG.out,HB.out⟩
set_option maxHeartbeats 4000000 in
set_option maxRecDepth 100000 in
theorem slices_Repeat_int_int.n4 (ad : Addr) (c0 : Nat) (x : Int) (w : World) (hx : w.cell? (ad.add 0) = some (.int .i64 x)) :
  Calls Try.prog 132 #[.slice (some ad) 1 c0,.int .i64 4] w fun e w' => ∃ v0_ : Value,e = .returned (v0_) ∧ Kd.R (Kd.int .i64) 3 w' w.heap.size (fun _ => True) v0_ [x,x,x,x] ∧ Below w.heap.size w w':=by
 have HB:=Aside0.mk (Below.refl w.heap.size w)
 go_enter Try.func132,Try.ntmps132
 go_wp2_with (first|((with_reducible refine gate_callee (f:=147) rfl ?_);refine goesL_ (some 18) rfl rfl Try.func147 (by kernel_rfl) rfl #[.int .u64 1,.int .u64 4] rfl (by (try simp only [List.map_toArray,List.map_cons,List.map_nil]);first|done|rfl) ?_;(refine (bits_Mul.calls 1 4 0 4 _ (by kernel_rfl)).mono ?_);rintro e w' ⟨rfl,⟨nd,rfl⟩⟩;refine ⟨_,rfl,?_⟩)|((with_reducible refine gate_dst (N:=30) rfl ?_);refine Kd.R_make (Kd.int .i64) _ 3 rfl (N:=30) rfl 22 _ _ rfl (4 : Int) rfl rfl Try.underlying22 (.int .i64 0) 8 info3 rfl (by decide) (by omega) 0 (ok:=fun _ => True) (okp:=fun _ => True) rfl (fun _ hk => hk) trivial (by omega) (by decide) (Below.refl _ _) (Nat.le_refl _) ?_;intro v149 w4 ho5 hb hg_ hnew_;clear hg_ hnew_;have n0_:=Aside0.mk (Kd.R_lower ho5 (below_size (by repeat (first|(with_reducible first|exact HB.out|apply below_alloc|apply pw_below_drewN|apply below_drew1)|exact HB.out))));have n1_:=Aside0.mk (below_step (by repeat (first|(with_reducible first|exact HB.out|apply below_alloc|apply pw_below_drewN|apply below_drew1)|exact HB.out)) hb);clear HB;have HB:=n1_;obtain ⟨g,cap,rest,rfl,hbg,hg4,hcap,hcm,hrl⟩:=slices_Repeat_int_int.cells (xs:=[0,0,0,0]) n0_.out (by simp);clear n0_ n1_;clear hb ho5;have HG:=Aside0.mk hg4;clear hg4)|((with_reducible refine gate_dst (N:=33) rfl ?_);refine wpList_copy_splice rfl (.tmp 31) (.tmp 32) 22 22 rfl 3 Try.underlying22 (by kernel_rfl) (some ⟨g,0,none⟩) (some ad) 4 cap 1 c0 rfl rfl g 0 _ 3 HG.out [.int .i64 x] rfl (fun _ => ⟨rfl,ad,rfl,?src⟩) (by simp) (by simp [Value.oneCell']) _ _ HB.out hbg ?_;(case src => intro j v hj;obtain ⟨rfl,rfl⟩ : j = 0 ∧ v = .int .i64 x:=(by cases j <;> simp at hj;exact ⟨rfl,hj.symm⟩);exact (HB.out.cell (World.block_lt_of_cell? w _ hx)).trans hx);intro w5 hg5 hb5;have n0_:=Aside0.mk hg5;clear HG HB;have HG:=n0_;have HB:=Aside0.mk hb5;clear n0_ hg5 hb5))
 have hc1 : (1 : Int) ≤ (cap : Int):=by simp at hcap;omega
 have hc2 : (2 : Int) ≤ (cap : Int):=by simp at hcap;omega
 have hc3 : (3 : Int) ≤ (cap : Int):=by simp at hcap;omega
 have hc4 : (4 : Int) ≤ (cap : Int):=by simp at hcap;omega
 have hd1:=eq_false (show ¬ cap = 1 by simp at hcap;omega)
 have hd2:=eq_false (show ¬ cap = 2 by simp at hcap;omega)
 have hw2 : wrap64 2 = 2:=by unfold wrap64;omega
 have hw4 : wrap64 4 = 4:=by unfold wrap64;omega
 refine wp_loop_rounds 3 ?_
 rw [rounds_succ]
 go_wp2
 refine start_ (n:=10) (S:=fun _ => True) (ds:=[]) #[false,false,false,false,false,false,false,false,false,false] (by kernel_rfl) rfl rfl trivial (fun hHeld => ?_)
 have n0_:=Aside0.mk (below_drew1 HB.out)
 have n1_:=Aside0.mk (show w5.drew.heap[g]? = _ from HG.out)
 clear HB HG
 have HB:=n0_
 have HG:=n1_
 clear n0_ n1_
 generalize w5.drew = w6 at HB HG ⊢
 refine st0_ [.p 0 38,.p 1 39,.p 2 40,.p 3 41,.p 4 42,.p 5 43,.p 6 44] 7 127 10 rfl hHeld (a':=?_) ?_ rfl (by kernel_rfl) (fun _ _ _ _ h => h) ?_
 rotate_left
 ·repeat (first|exact Steps.nil|(refine Steps.p (oi:=?_) (v:=?_) (a1:=?_) ?_ ?_ ?_ ?_ ?_;rotate_left 2;rfl;rfl;(refine Or.inl ⟨by rfl,?_⟩;intro w';go_simp;with_reducible rfl);rotate_left;(simp only [Act.put,List.setIfInBounds_toArray,List.set_cons_zero,List.set_cons_succ,i64_w,i32_w];rfl)))
 refine one_ (i:=7) (N:=some 45) (mk 10 255) rfl rfl (by kernel_rfl) (by decide) (fun K hK => ?_)
 refine step_copy_splice rfl (.tmp 41) (.tmp 44) 22 22 rfl 3 Try.underlying22 (by kernel_rfl) (some ⟨g,1,none⟩) (some ⟨g,0,none⟩) 3 (cap - 1) 1 cap rfl rfl g 1 _ 3 HG.out [.int .i64 x] rfl (fun _ => ⟨rfl,_,rfl,?src⟩) ?fit (by simp [Value.oneCell']) _ _ HB.out hbg ?_
 case src =>
  intro j v hj
  obtain ⟨rfl,rfl⟩ : j = 0 ∧ v = .int .i64 x:=by cases j <;> simp at hj;exact ⟨rfl,hj.symm⟩
  exact (blk_cell HG.out 0).trans rfl
 case fit => simp [splice]
 intro w7 hg7 hb7
 have n0_:=Aside0.mk hg7
 clear HG HB
 have HG:=n0_
 have HB:=Aside0.mk hb7
 clear n0_ hg7 hb7
 refine hK.out _ _ trivial (fun hHeld => ?_)
 refine norm_ (a':=?_) ?_ ?_
 rotate_left
 ·show Act.put _ (some 45) _ = _
  simp only [Act.put,List.setIfInBounds_toArray,List.set_cons_zero,List.set_cons_succ,i64_w,i32_w]
  rfl
 refine st0_ [.p 8 46,.p 9 8] 2 1023 10 rfl hHeld (a':=?_) ?_ rfl (by kernel_rfl) (fun _ _ _ _ h => h) ?_
 rotate_left
 ·repeat (first|exact Steps.nil|(refine Steps.p (oi:=?_) (v:=?_) (a1:=?_) ?_ ?_ ?_ ?_ ?_;rotate_left 2;rfl;rfl;(refine Or.inl ⟨by rfl,?_⟩;intro w';go_simp;with_reducible rfl);rotate_left;(simp only [Act.put,List.setIfInBounds_toArray,List.set_cons_zero,List.set_cons_succ,i64_w,i32_w];rfl)))
 refine done_ (by kernel_rfl) ?_
 (try simp only [hw2])
 go_wp2
 rw [rounds_succ]
 go_wp2
 refine start_ (n:=10) (S:=fun _ => True) (ds:=[]) #[false,false,false,false,false,false,false,false,false,false] (by kernel_rfl) rfl rfl trivial (fun hHeld => ?_)
 have n0_:=Aside0.mk (below_drew1 HB.out)
 have n1_:=Aside0.mk (show w7.drew.heap[g]? = _ from HG.out)
 clear HB HG
 have HB:=n0_
 have HG:=n1_
 clear n0_ n1_
 generalize w7.drew = w8 at HB HG ⊢
 refine st0_ [.p 0 38,.p 1 39,.p 2 40,.p 3 41,.p 4 42,.p 5 43,.p 6 44] 7 127 10 rfl hHeld (a':=?_) ?_ rfl (by kernel_rfl) (fun _ _ _ _ h => h) ?_
 rotate_left
 ·repeat (first|exact Steps.nil|(refine Steps.p (oi:=?_) (v:=?_) (a1:=?_) ?_ ?_ ?_ ?_ ?_;rotate_left 2;rfl;rfl;(refine Or.inl ⟨by rfl,?_⟩;intro w';go_simp;with_reducible rfl);rotate_left;(simp only [Act.put,List.setIfInBounds_toArray,List.set_cons_zero,List.set_cons_succ,i64_w,i32_w];rfl)))
 refine one_ (i:=7) (N:=some 45) (mk 10 255) rfl rfl (by kernel_rfl) (by decide) (fun K hK => ?_)
 refine step_copy_splice rfl (.tmp 41) (.tmp 44) 22 22 rfl 3 Try.underlying22 (by kernel_rfl) (some ⟨g,2,none⟩) (some ⟨g,0,none⟩) 2 (cap - 2) 2 cap rfl rfl g 2 _ 3 HG.out [.int .i64 x,.int .i64 x] rfl (fun _ => ⟨rfl,_,rfl,?src⟩) ?fit (by simp [Value.oneCell']) _ _ HB.out hbg ?_
 case src =>
  intro j v hj
  match j,hj with
  | 0,hj => obtain rfl:=Option.some.inj hj;exact (blk_cell HG.out 0).trans rfl
  | 1,hj => obtain rfl:=Option.some.inj hj;exact (blk_cell HG.out 1).trans rfl
  | j + 2,hj => simp at hj
 case fit => simp [splice]
 intro w9 hg7 hb7
 have n0_:=Aside0.mk hg7
 clear HG HB
 have HG:=n0_
 have HB:=Aside0.mk hb7
 clear n0_ hg7 hb7
 refine hK.out _ _ trivial (fun hHeld => ?_)
 refine norm_ (a':=?_) ?_ ?_
 rotate_left
 ·show Act.put _ (some 45) _ = _
  simp only [Act.put,List.setIfInBounds_toArray,List.set_cons_zero,List.set_cons_succ,i64_w,i32_w]
  rfl
 refine st0_ [.p 8 46,.p 9 8] 2 1023 10 rfl hHeld (a':=?_) ?_ rfl (by kernel_rfl) (fun _ _ _ _ h => h) ?_
 rotate_left
 ·repeat (first|exact Steps.nil|(refine Steps.p (oi:=?_) (v:=?_) (a1:=?_) ?_ ?_ ?_ ?_ ?_;rotate_left 2;rfl;rfl;(refine Or.inl ⟨by rfl,?_⟩;intro w';go_simp;with_reducible rfl);rotate_left;(simp only [Act.put,List.setIfInBounds_toArray,List.set_cons_zero,List.set_cons_succ,i64_w,i32_w];rfl)))
 refine done_ (by kernel_rfl) ?_
 (try simp only [hw4])
 go_wp2
 rw [rounds_succ]
 go_wp2
 go_ret
 exact ⟨_,rfl,slices_Repeat_int_int.row (xs:=[x,x,x,x]) (rest:=rest) hbg hcap hcm hrl HG.out,HB.out⟩
theorem slices_Repeat_int_int.calls (A0 : Option Addr) (c0 : Nat) (l0 : List Int) (a1 : Int) (r : List Int) (w : World) (hr0 : Kd.C (Kd.int .i64) w A0 l0.length l0) (hc0 : l0.length ≤ c0) (h : slices_Repeat_int_int.f l0 a1 = some r) :
  Calls Try.prog 132 #[.slice A0 l0.length c0,.int .i64 a1] w fun e w' => ∃ v0_ : Value,e = .returned (v0_) ∧ Kd.R (Kd.int .i64) 3 w' w.heap.size (fun _ => True) v0_ r ∧ Below w.heap.size w w':=by
 unfold slices_Repeat_int_int.f at h
 by_cases g : l0.length = 1 ∧ 1 ≤ a1 ∧ a1 ≤ 4
 ·rw [if_pos g] at h
  obtain rfl:=Option.some.inj h
  obtain ⟨g1,g2,g3⟩:=g
  obtain ⟨ad,rfl,hx⟩:=Kd.at_int hr0 0 (by omega) (by omega)
  rw [g1]
  have ha : a1 = 1 ∨ a1 = 2 ∨ a1 = 3 ∨ a1 = 4:=by omega
  rcases ha with rfl|rfl|rfl|rfl
  ·exact slices_Repeat_int_int.n1 ad c0 (rd l0 0) w hx
  ·exact slices_Repeat_int_int.n2 ad c0 (rd l0 0) w hx
  ·exact slices_Repeat_int_int.n3 ad c0 (rd l0 0) w hx
  ·exact slices_Repeat_int_int.n4 ad c0 (rd l0 0) w hx
 ·rw [if_neg g] at h
  cases h
end Go.Proofs.Ytoeeeafknajkkaa.X
end
section
namespace Go.Proofs
open Go.Shelf
def Try.laySortI_ren : Go.Shelf.Ren:=⟨fun | 5 => 116 | 8 => 139 | 7 => 138 | 19 => 158 | 20 => 159 | 10 => 149 | 11 => 150 | 12 => 151 | 13 => 152 | 14 => 153 | 15 => 154 | 16 => 155 | 17 => 156 | 18 => 157 | 30 => 175 | 31 => 176 | 32 => 177 | 33 => 178 | 34 => 179 | 35 => 141 | 40 => 183|n => n,fun | 23 => 22 | 25 => 3 | 3 => 3 | 32 => 132 | 22 => 22 | 0 => 0 | 44 => 150 | 46 => 152 | 4 => 4 | 36 => 142 | 35 => 141 | 41 => 147 | 5 => 5 | 9 => 9 | 53 => 165 | 57 => 169 | 63 => 173 | 64 => 174|n => n,fun|n => n⟩
theorem Try.laySortI : Go.Proofs.SlLaysM.n5 Try.prog Try.laySortI_ren:={
 mixed:=by kernel_rfl
 f5:=⟨Try.f116.name,by decide,Try.func116.trans (congrArg some (by kernel_rfl))⟩
 f7:=⟨Try.f138.name,by decide,Try.func138.trans (congrArg some (by kernel_rfl))⟩
 f8:=Try.func139.trans (congrArg some (by kernel_rfl))
 f10:=⟨Try.f149.name,by decide,Try.func149.trans (congrArg some (by kernel_rfl))⟩
 f11:=⟨Try.f150.name,by decide,Try.func150.trans (congrArg some (by kernel_rfl))⟩
 f12:=⟨Try.f151.name,by decide,Try.func151.trans (congrArg some (by kernel_rfl))⟩
 f13:=⟨Try.f152.name,by decide,Try.func152.trans (congrArg some (by kernel_rfl))⟩
 f14:=⟨Try.f153.name,by decide,Try.func153.trans (congrArg some (by kernel_rfl))⟩
 f15:=⟨Try.f154.name,by decide,Try.func154.trans (congrArg some (by kernel_rfl))⟩
 f16:=⟨Try.f155.name,by decide,Try.func155.trans (congrArg some (by kernel_rfl))⟩
 f17:=⟨Try.f156.name,by decide,Try.func156.trans (congrArg some (by kernel_rfl))⟩
 f18:=⟨Try.f157.name,by decide,Try.func157.trans (congrArg some (by kernel_rfl))⟩
 f19:=Try.func158.trans (congrArg some (by kernel_rfl))
 f20:=Try.func159.trans (congrArg some (by kernel_rfl))
 f30:=⟨Try.f175.name,by decide,Try.func175.trans (congrArg some (by kernel_rfl))⟩
 f31:=Try.func176.trans (congrArg some (by kernel_rfl))
 f32:=Try.func177.trans (congrArg some (by kernel_rfl))
 f33:=⟨Try.f178.name,by decide,Try.func178.trans (congrArg some (by kernel_rfl))⟩
 f34:=⟨Try.f179.name,by decide,Try.func179.trans (congrArg some (by kernel_rfl))⟩
 f35:=⟨Try.f141.name,by decide,Try.func141.trans (congrArg some (by kernel_rfl))⟩
 f40:=⟨Try.f183.name,by decide,Try.func183.trans (congrArg some (by kernel_rfl))⟩
 t0:=Try.underlying0
 a0:=Try.isAgg0
 z0:=Try.sizeOf0
 v0:=Try.zeroValue0
 t3:=Try.underlying3
 a3:=Try.isAgg3
 z3:=Try.sizeOf3
 v3:=Try.zeroValue3
 t4:=Try.underlying4
 a4:=Try.isAgg4
 z4:=Try.sizeOf4
 v4:=Try.zeroValue4
 t5:=Try.underlying5
 a5:=Try.isAgg5
 z5:=Try.sizeOf5
 v5:=Try.zeroValue5
 t9:=Try.underlying9
 a9:=Try.isAgg9
 z9:=Try.sizeOf9
 v9:=Try.zeroValue9
 t22:=Try.underlying22
 a22:=Try.isAgg22
 z22:=Try.sizeOf22
 v22:=Try.zeroValue22
 t23:=Try.underlying22
 a23:=Try.isAgg22
 z23:=Try.sizeOf22
 v23:=Try.zeroValue22
 t25:=Try.underlying3
 a25:=Try.isAgg3
 z25:=Try.sizeOf3
 v25:=Try.zeroValue3
 t32:=Try.underlying132
 a32:=Try.isAgg132
 z32:=Try.sizeOf132
 v32:=Try.zeroValue132
 t35:=Try.underlying141
 a35:=Try.isAgg141
 z35:=Try.sizeOf141
 v35:=Try.zeroValue141
 t36:=Try.underlying142
 a36:=Try.isAgg142
 z36:=Try.sizeOf142
 v36:=Try.zeroValue142
 t41:=Try.underlying147
 a41:=Try.isAgg147
 z41:=Try.sizeOf147
 v41:=Try.zeroValue147
 t44:=Try.underlying150
 a44:=Try.isAgg150
 z44:=Try.sizeOf150
 v44:=Try.zeroValue150
 t46:=Try.underlying152
 a46:=Try.isAgg152
 z46:=Try.sizeOf152
 v46:=Try.zeroValue152
 t53:=Try.underlying165
 a53:=Try.isAgg165
 z53:=Try.sizeOf165
 v53:=Try.zeroValue165
 t57:=Try.underlying169
 a57:=Try.isAgg169
 z57:=Try.sizeOf169
 v57:=Try.zeroValue169
 t63:=Try.underlying173
 a63:=Try.isAgg173
 z63:=Try.sizeOf173
 v63:=Try.zeroValue173
 t64:=Try.underlying174
 a64:=Try.isAgg174
 z64:=Try.sizeOf174
 v64:=Try.zeroValue174 }
def Try.laySortT_ren : Go.Shelf.Ren:=⟨fun | 6 => 117 | 15 => 139 | 14 => 140 | 28 => 158 | 29 => 159 | 20 => 160 | 21 => 161 | 22 => 162 | 23 => 163 | 24 => 164 | 25 => 165 | 26 => 166 | 27 => 167 | 46 => 180 | 47 => 176 | 48 => 177 | 49 => 181 | 50 => 182 | 57 => 184|n => n,fun | 22 => 27 | 24 => 67 | 25 => 85 | 3 => 3 | 39 => 132 | 0 => 0 | 53 => 150 | 55 => 152 | 4 => 4 | 46 => 142 | 45 => 141 | 50 => 147 | 5 => 5 | 9 => 9 | 66 => 165 | 70 => 169 | 76 => 173 | 77 => 174|n => n,fun|n => n⟩
theorem Try.laySortT : Go.Proofs.SlLaysF0.n6 Try.prog Try.laySortT_ren:={
 mixed:=by kernel_rfl
 f6:=⟨Try.f117.name,by decide,Try.func117.trans (congrArg some (by kernel_rfl))⟩
 f14:=⟨Try.f140.name,by decide,Try.func140.trans (congrArg some (by kernel_rfl))⟩
 f15:=Try.func139.trans (congrArg some (by kernel_rfl))
 f20:=⟨Try.f160.name,by decide,Try.func160.trans (congrArg some (by kernel_rfl))⟩
 f21:=⟨Try.f161.name,by decide,Try.func161.trans (congrArg some (by kernel_rfl))⟩
 f22:=⟨Try.f162.name,by decide,Try.func162.trans (congrArg some (by kernel_rfl))⟩
 f23:=⟨Try.f163.name,by decide,Try.func163.trans (congrArg some (by kernel_rfl))⟩
 f24:=⟨Try.f164.name,by decide,Try.func164.trans (congrArg some (by kernel_rfl))⟩
 f25:=⟨Try.f165.name,by decide,Try.func165.trans (congrArg some (by kernel_rfl))⟩
 f26:=⟨Try.f166.name,by decide,Try.func166.trans (congrArg some (by kernel_rfl))⟩
 f27:=⟨Try.f167.name,by decide,Try.func167.trans (congrArg some (by kernel_rfl))⟩
 f28:=Try.func158.trans (congrArg some (by kernel_rfl))
 f29:=Try.func159.trans (congrArg some (by kernel_rfl))
 f46:=⟨Try.f180.name,by decide,Try.func180.trans (congrArg some (by kernel_rfl))⟩
 f47:=Try.func176.trans (congrArg some (by kernel_rfl))
 f48:=Try.func177.trans (congrArg some (by kernel_rfl))
 f49:=⟨Try.f181.name,by decide,Try.func181.trans (congrArg some (by kernel_rfl))⟩
 f50:=⟨Try.f182.name,by decide,Try.func182.trans (congrArg some (by kernel_rfl))⟩
 f57:=⟨Try.f184.name,by decide,Try.func184.trans (congrArg some (by kernel_rfl))⟩
 t0:=Try.underlying0
 a0:=Try.isAgg0
 z0:=Try.sizeOf0
 v0:=Try.zeroValue0
 t3:=Try.underlying3
 a3:=Try.isAgg3
 z3:=Try.sizeOf3
 v3:=Try.zeroValue3
 t4:=Try.underlying4
 a4:=Try.isAgg4
 z4:=Try.sizeOf4
 v4:=Try.zeroValue4
 t5:=Try.underlying5
 a5:=Try.isAgg5
 z5:=Try.sizeOf5
 v5:=Try.zeroValue5
 t9:=Try.underlying9
 a9:=Try.isAgg9
 z9:=Try.sizeOf9
 v9:=Try.zeroValue9
 t22:=Try.underlying27
 a22:=Try.isAgg27
 z22:=Try.sizeOf27
 v22:=Try.zeroValue27
 t25:=Try.underlying85
 a25:=Try.isAgg85
 z25:=Try.sizeOf85
 v25:=Try.zeroValue85
 t39:=Try.underlying132
 a39:=Try.isAgg132
 z39:=Try.sizeOf132
 v39:=Try.zeroValue132
 t45:=Try.underlying141
 a45:=Try.isAgg141
 z45:=Try.sizeOf141
 v45:=Try.zeroValue141
 t46:=Try.underlying142
 a46:=Try.isAgg142
 z46:=Try.sizeOf142
 v46:=Try.zeroValue142
 t50:=Try.underlying147
 a50:=Try.isAgg147
 z50:=Try.sizeOf147
 v50:=Try.zeroValue147
 t53:=Try.underlying150
 a53:=Try.isAgg150
 z53:=Try.sizeOf150
 v53:=Try.zeroValue150
 t55:=Try.underlying152
 a55:=Try.isAgg152
 z55:=Try.sizeOf152
 v55:=Try.zeroValue152
 t66:=Try.underlying165
 a66:=Try.isAgg165
 z66:=Try.sizeOf165
 v66:=Try.zeroValue165
 t70:=Try.underlying169
 a70:=Try.isAgg169
 z70:=Try.sizeOf169
 v70:=Try.zeroValue169
 t76:=Try.underlying173
 a76:=Try.isAgg173
 z76:=Try.sizeOf173
 v76:=Try.zeroValue173
 t77:=Try.underlying174
 a77:=Try.isAgg174
 z77:=Try.sizeOf174
 v77:=Try.zeroValue174 }
def Try.layCloneI_ren : Go.Shelf.Ren:=⟨fun | 41 => 90|n => n,fun | 22 => 22 | 23 => 3 | 4 => 4|n => n,fun|n => n⟩
theorem Try.layCloneI : Go.Proofs.SlLaysE0.n41 Try.prog Try.layCloneI_ren:={
 mixed:=by kernel_rfl
 f41:=⟨Try.f90.name,by decide,Try.func90.trans (congrArg some (by kernel_rfl))⟩
 t4:=Try.underlying4
 a4:=Try.isAgg4
 z4:=Try.sizeOf4
 v4:=Try.zeroValue4
 t22:=Try.underlying22
 a22:=Try.isAgg22
 z22:=Try.sizeOf22
 v22:=Try.zeroValue22 }
def Try.layCloneT_ren : Go.Shelf.Ren:=⟨fun | 41 => 115|n => n,fun | 22 => 27 | 23 => 67 | 4 => 4|n => n,fun|n => n⟩
theorem Try.layCloneT : Go.Proofs.SlLaysE0.n41 Try.prog Try.layCloneT_ren:={
 mixed:=by kernel_rfl
 f41:=⟨Try.f115.name,by decide,Try.func115.trans (congrArg some (by kernel_rfl))⟩
 t4:=Try.underlying4
 a4:=Try.isAgg4
 z4:=Try.sizeOf4
 v4:=Try.zeroValue4
 t22:=Try.underlying27
 a22:=Try.isAgg27
 z22:=Try.sizeOf27
 v22:=Try.zeroValue27 }
def Try.layGrowI_ren : Go.Shelf.Ren:=⟨fun | 4 => 120|n => n,fun | 22 => 22 | 25 => 3 | 3 => 3 | 4 => 4 | 9 => 9 | 20 => 20 | 0 => 0|n => n,fun|n => n⟩
theorem Try.layGrowI : Go.Proofs.Lays8.n4 Try.prog Try.layGrowI_ren:={
 mixed:=by kernel_rfl
 f4:=⟨Try.f120.name,by decide,Try.func120.trans (congrArg some (by kernel_rfl))⟩
 t0:=Try.underlying0
 a0:=Try.isAgg0
 z0:=Try.sizeOf0
 v0:=Try.zeroValue0
 t3:=Try.underlying3
 a3:=Try.isAgg3
 z3:=Try.sizeOf3
 v3:=Try.zeroValue3
 t4:=Try.underlying4
 a4:=Try.isAgg4
 z4:=Try.sizeOf4
 v4:=Try.zeroValue4
 t9:=Try.underlying9
 a9:=Try.isAgg9
 z9:=Try.sizeOf9
 v9:=Try.zeroValue9
 t20:=Try.underlying20
 a20:=Try.isAgg20
 z20:=Try.sizeOf20
 v20:=Try.zeroValue20
 t22:=Try.underlying22
 a22:=Try.isAgg22
 z22:=Try.sizeOf22
 v22:=Try.zeroValue22 }
def Try.layGrowT_ren : Go.Shelf.Ren:=⟨fun | 4 => 121|n => n,fun | 22 => 27 | 25 => 67 | 3 => 3 | 4 => 4 | 9 => 9 | 20 => 20 | 0 => 0|n => n,fun|n => n⟩
theorem Try.layGrowT : Go.Proofs.Lays8.n4 Try.prog Try.layGrowT_ren:={
 mixed:=by kernel_rfl
 f4:=⟨Try.f121.name,by decide,Try.func121.trans (congrArg some (by kernel_rfl))⟩
 t0:=Try.underlying0
 a0:=Try.isAgg0
 z0:=Try.sizeOf0
 v0:=Try.zeroValue0
 t3:=Try.underlying3
 a3:=Try.isAgg3
 z3:=Try.sizeOf3
 v3:=Try.zeroValue3
 t4:=Try.underlying4
 a4:=Try.isAgg4
 z4:=Try.sizeOf4
 v4:=Try.zeroValue4
 t9:=Try.underlying9
 a9:=Try.isAgg9
 z9:=Try.sizeOf9
 v9:=Try.zeroValue9
 t20:=Try.underlying20
 a20:=Try.isAgg20
 z20:=Try.sizeOf20
 v20:=Try.zeroValue20
 t22:=Try.underlying27
 a22:=Try.isAgg27
 z22:=Try.sizeOf27
 v22:=Try.zeroValue27 }
end Go.Proofs
end
