import Derived.Test.YthnjbjihphbcpaaGreatProg
import Derived.Below
import Derived.Deep.Draws
import Derived.Deep.AppendLies
import Derived.Maps.AppendAt
import Derived.OwnWalk
import Derived.Laws.BytesArg
import Derived.Laws.MakeOwn
import Derived.Laws.OwnMore
import Derived.Deep.OwnRows
import Derived.Tactics
import Derived.Lib.ConvBytes
import Derived.Laws.Slices
import Derived.WalkKit
import Derived.KernelRfl
import Derived.RowKit3
import Derived.Deep.LoopGhost
import Derived.Deep.QuietTactic
import Derived.BigQuiet
import Derived.WideLaws
import Derived.Deep.DeepCutAuto
import Derived.Deep.CutBlock
import Derived.Deep.RegionHeld3
import Derived.Laws.Rows
import Derived.Lib.AppendStr
import Derived.ArgAppend
import Derived.Laws.IdiomCopy
import Derived.OrdersHeld
import Derived.Laws.BitsLemmas
import Derived.RowKit
import Derived.Test.YthnjbjihphbcpaaGreatQFnWordMatrix3
import Derived.Laws.StructEq
import Derived.Laws.CopyOwn
import Derived.LoopN
import Derived.Shelf.SlGeneric
import Derived.Shelf.SortM.Plain
import Derived.Shelf.SortM.SortNone
import Derived.Shelf.SlSortCmp.NoneTotal
import Derived.Shelf.SlicesE.Clone
import Derived.Shelf.Spec.SlicesGrow
import Derived.Ground.SlgnProg
import Derived.Ground.SlsfProg
import Derived.Ground.SlgmProg
import Derived.Ground.Names8Prog
section
namespace Go.Proofs.YthnjbjihphbcpaaGreat.X
open Go.RowKit Go.Proofs.YthnjbjihphbcpaaGreatW.PrintWords Go.Proofs.YthnjbjihphbcpaaGreatW.PrintLast Go.Proofs.YthnjbjihphbcpaaGreatW.PrintMore
attribute [local go_sem] max2_int min2_int max_two min_two max_three min_three max_four min_four
set_option linter.unusedVariables false
set_option linter.unusedSimpArgs false
def FnAt (P : Program) (q : FuncId) : Prop := ∃ fn,P.funcs[q]? = some fn ∧ (fn.name == "runtime.NumGoroutine") = false ∧ fn.body.isSome = true
section
variable {P : Program} {ops : Array Oper} {Q : Exit → Act → World → Prop}
theorem gate_dyn {rest : List Oper} {o : Oper} {a : Act} {W : World} {t : Tmp} {os : Array Operand} {ts : Array TypeId} (_ho : o.op = .call { callee:=.value (.tmp t),args:=os,argTypes:=ts }) (h : wpList P ops Q (o :: rest) a W) : wpList P ops Q (o :: rest) a W:=h
theorem goesLD_ {rest : List Oper} {oi : Oper} {a : Act} {w : World} (N : Option Tmp) (hd : oi.dst = N) (hg : oi.guard = none) {q : FuncId} (hq : FnAt P q) {os : Array Operand} {ts : Array TypeId} {t : Tmp} {Fb C : Array Value} (xs : Array Value)
  (hop : oi.op = .call { callee:=.value (.tmp t),args:=os,argTypes:=ts }) (hv : a.eval (.tmp t) = .func (.func q) Fb C) (hargs : os.map a.eval = xs)
  (h : Calls P q (Fb ++ xs ++ C) w fun e w' => ∃ v,e = .returned v ∧ wpList P ops Q rest (a.put N v) w') : wpList P ops Q (oi :: rest) a w:=by
 obtain ⟨fn,hf,hname,hb⟩:=hq
 refine wpList_plain hg fun K hK => ?_
 have he:=enters_ hf hname hb (Fb ++ xs ++ C) w
 have hrun : (execOp a.eval oi).run P w = .ok (.enter q (Fb ++ xs ++ C)) w:=by
  unfold execOp
  simp [hop,resolve,Deferred.ofValue,invoke,hv,hargs]
  rw [← Array.append_assoc];exact he
 unfold Oper.wp
 rw [hrun,Oper.upon_enter]
 refine h.mono fun e w'' hh => ?_
 obtain ⟨v,rfl,hk⟩:=hh
 subst hd
 exact hK _ _ hk
theorem goesD_ {oi : Oper} {N : Option Tmp} {a : Act} {w : World} {K : Act → World → Prop} {q : FuncId} (hq : FnAt P q) {os : Array Operand} {ts : Array TypeId} {t : Tmp} {Fb C : Array Value} (xs : Array Value)
  (hw : Region.wanted oi (yielded ops a.tmps) = true) (hN : oi.dst = N) (hop : oi.op = .call { callee:=.value (.tmp t),args:=os,argTypes:=ts }) (hv : a.eval (.tmp t) = .func (.func q) Fb C) (hargs : os.map a.eval = xs)
  (h : Calls P q (Fb ++ xs ++ C) w fun e w' => ∃ v,e = .returned v ∧ K (a.put N v) w') : if Region.wanted oi (yielded ops a.tmps) = true then Oper.wp P oi a w K Q else K (a.put N undef) w:=by
 obtain ⟨fn,hf,hname,hb⟩:=hq
 have he:=enters_ hf hname hb (Fb ++ xs ++ C) w
 refine call_ q (Fb ++ xs ++ C) hw hN ?_ h
 unfold execOp
 simp [hop,resolve,Deferred.ofValue,invoke,hv,hargs]
 rw [← Array.append_assoc];exact he
end
end Go.Proofs.YthnjbjihphbcpaaGreat.X
end
section
namespace Go.Proofs.YthnjbjihphbcpaaGreat.X
open Go.RowKit Go.Proofs.YthnjbjihphbcpaaGreatW.PrintWords Go.Proofs.YthnjbjihphbcpaaGreatW.PrintLast Go.Proofs.YthnjbjihphbcpaaGreatW.PrintMore
attribute [local go_sem] max2_int min2_int max_two min_two max_three min_three max_four min_four
set_option linter.unusedVariables false
set_option linter.unusedSimpArgs false
def errW : Option Int → Value
 | none => .nilIface
 | some c => .iface 0 (.int .i64 c)
theorem errW_none : errW none = .nilIface:=rfl
theorem errW_some (c : Int) : errW (some c) = .iface 0 (.int .i64 c):=rfl
theorem info3 : (Tryz.prog.info? 3).map (fun i => (i.zero,i.size,i.bytes)) = some (some (.int .i64 0),1,8):=by kernel_rfl
theorem info5 : (Tryz.prog.info? 5).map (fun i => (i.zero,i.size,i.bytes)) = some (some (.int .u8 0),1,1):=by kernel_rfl
theorem info9 : (Tryz.prog.info? 9).map (fun i => (i.zero,i.size,i.bytes)) = some (some (.string ⟨#[]⟩),1,16):=by kernel_rfl
theorem info23 : (Tryz.prog.info? 23).map (fun i => (i.zero,i.size,i.bytes)) = some (some (.slice none 0 0),1,24):=by kernel_rfl
theorem info77 : (Tryz.prog.info? 77).map (fun i => (i.zero,i.size,i.bytes)) = some (some (.agg #[(.int .i64 0),(.string ⟨#[]⟩),(.int .i64 0),(.int .i64 0)]),4,40):=by kernel_rfl
theorem info93 : (Tryz.prog.info? 93).map (fun i => (i.zero,i.size,i.bytes)) = some (some (.agg #[(.string ⟨#[]⟩),(.slice none 0 0)]),2,40):=by kernel_rfl
structure S77 where
 f0 : Int
 f1 : ByteArray
 f2 : Int
 f3 : Int
def z77 : S77:=⟨(0 : Int),(⟨#[]⟩ : ByteArray),(0 : Int),(0 : Int)⟩
def k77 : Kd S77:=Kd.iso (Kd.pair (Kd.int .i64) (Kd.pair Kd.string (Kd.pair (Kd.int .i64) (Kd.int .i64)))) (fun x : S77 => (x.f0,x.f1,x.f2,x.f3))
theorem k77_open {w : World} {x : S77} {cs : List Value} (h : k77.K w x cs) : cs = [.int .i64 x.f0,.string x.f1,.int .i64 x.f2,.int .i64 x.f3]:=by
 obtain ⟨_,_,rfl,rfl,⟨_,_,rfl,rfl,⟨_,_,rfl,rfl,rfl⟩⟩⟩:=h
 exact rfl
theorem k77_openM {w : World} {base : Nat} {ok : Nat → Prop} {x : S77} {cs : List Value} (h : k77.M w base ok x cs) : cs = [.int .i64 x.f0,.string x.f1,.int .i64 x.f2,.int .i64 x.f3]:=by
 obtain ⟨_,_,rfl,rfl,⟨_,_,rfl,rfl,⟨_,_,rfl,rfl,rfl⟩⟩⟩:=h
 exact rfl
theorem k77_mk (w : World) (x : S77)  : k77.K w x [.int .i64 x.f0,.string x.f1,.int .i64 x.f2,.int .i64 x.f3]:=⟨[.int .i64 x.f0],[.string x.f1,.int .i64 x.f2,.int .i64 x.f3],rfl,rfl,⟨[.string x.f1],[.int .i64 x.f2,.int .i64 x.f3],rfl,rfl,⟨[.int .i64 x.f2],[.int .i64 x.f3],rfl,rfl,rfl⟩⟩⟩
theorem k77_mkM (w : World) (base : Nat) (ok : Nat → Prop) (x : S77)  : k77.M w base ok x [.int .i64 x.f0,.string x.f1,.int .i64 x.f2,.int .i64 x.f3]:=⟨[.int .i64 x.f0],[.string x.f1,.int .i64 x.f2,.int .i64 x.f3],rfl,rfl,⟨[.string x.f1],[.int .i64 x.f2,.int .i64 x.f3],rfl,rfl,⟨[.int .i64 x.f2],[.int .i64 x.f3],rfl,rfl,rfl⟩⟩⟩
theorem k77_mkF (W : World) (ok : Nat → Prop) (x : S77) : Kd.FK k77 W ok x [.int .i64 x.f0,.string x.f1,.int .i64 x.f2,.int .i64 x.f3]:=fun W2 _ => k77_mk W2 x
def rd_T77 (xs : List S77) (i : Int) : S77:=xs.getD i.toNat z77
theorem at_T77 {w : World} {A : Option Addr} {n : Nat} {xs : List S77} (h : Kd.C k77 w A n xs) (i : Int) (h0 : 0 ≤ i) (h1 : i < n) : ∃ ad , A = some ad ∧ w.cell? (ad.add (i.toNat * 4)) = some (.int .i64 (rd_T77 xs i).f0) ∧ w.cell? ⟨(ad.add (i.toNat * 4)).block,(ad.add (i.toNat * 4)).off + 1,none⟩ = some (.string (rd_T77 xs i).f1) ∧ w.cell? ⟨(ad.add (i.toNat * 4)).block,(ad.add (i.toNat * 4)).off + 2,none⟩ = some (.int .i64 (rd_T77 xs i).f2) ∧ w.cell? ⟨(ad.add (i.toNat * 4)).block,(ad.add (i.toNat * 4)).off + 3,none⟩ = some (.int .i64 (rd_T77 xs i).f3):=by
 obtain ⟨ad,c,e,_,hK,hc0⟩:=Kd.C_get h z77 i h0 h1
 have hc : ∀ j u,c[j]? = some u → w.cell? (ad.add (i.toNat * 4 + j)) = some u:=hc0
 obtain rfl:=k77_open hK
 exact ⟨ad,e,hc 0 _ rfl,by rw [← add_field _ _ 1 (by omega)];exact hc 1 _ rfl,by rw [← add_field _ _ 2 (by omega)];exact hc 2 _ rfl,by rw [← add_field _ _ 3 (by omega)];exact hc 3 _ rfl⟩
def rd_L4 (xs : List (List Int)) (i : Int) : (List Int):=xs.getD i.toNat ([] : List Int)
theorem at_L4 {w : World} {A : Option Addr} {n : Nat} {xs : List (List Int)} (h : Kd.C (Kd.slice 3 (Kd.int .i64)) w A n xs) (i : Int) (h0 : 0 ≤ i) (h1 : i < n) : ∃ ad A0 c0,A = some ad ∧ w.cell? (ad.add i.toNat) = some (.slice A0 (rd_L4 xs i).length c0) ∧ (rd_L4 xs i).length ≤ c0 ∧ (Kd.int .i64).C w A0 (rd_L4 xs i).length (rd_L4 xs i):=by
 obtain ⟨ad,c,e,_,hK,hc0⟩:=Kd.C_get h ([] : List Int) i h0 h1
 have hc : ∀ j u,c[j]? = some u → w.cell? (ad.add (i.toNat * 1 + j)) = some u:=hc0
 obtain ⟨A0,c0,rfl,l0,g0⟩:=hK
 exact ⟨ad,A0,c0,e,by have hq:=hc 0 _ rfl;rwa [Nat.mul_one,Nat.add_zero] at hq,l0,g0⟩
structure S93 where
 f0 : ByteArray
 f1 : (List S93)
def z93 : S93:=⟨(⟨#[]⟩ : ByteArray),([] : List S93)⟩
def F93 (d : Kd S93) : Kd S93:=Kd.iso (Kd.pair Kd.string (Kd.slice 93 d)) (fun x : S93 => (x.f0,x.f1))
theorem mono93 : Kd.Mono F93:=Kd.mono_iso _ (Kd.mono_pair (Kd.mono_const _) (Kd.mono_slice 93 Kd.mono_id))
theorem sub93 : Kd.Sub F93 [93]:=Kd.sub_iso _ (Kd.sub_pair (Kd.sub_const _ (by decide)) (Kd.sub_slice 93 (by decide) Kd.sub_id))
theorem sz93 : ∀ n,(Kd.upto F93 2 [93] n).sz = 2:=Kd.upto_sz (fun _ => rfl)
def k93 : Kd S93:=Kd.fix F93 2 [93] sz93 (Kd.upto_E sub93)
theorem k93_open {w : World} {x : S93} {cs : List Value} (h : k93.K w x cs) : ∃ A1 c1,cs = [.string x.f0,.slice A1 x.f1.length c1] ∧ x.f1.length ≤ c1 ∧ k93.C w A1 x.f1.length x.f1:=by
 obtain ⟨n,h⟩:=h
 cases n with
 | zero => exact h.elim
 | succ n =>
  obtain ⟨_,_,rfl,rfl,⟨A1,c1,rfl,l1,g1⟩⟩:=h
  exact ⟨A1,c1,rfl,l1,Kd.fix_C g1⟩
theorem k93_openM {w : World} {base : Nat} {ok : Nat → Prop} {x : S93} {cs : List Value} (h : k93.M w base ok x cs) : ∃ v1,cs = [.string x.f0,v1] ∧ k93.R 93 w base ok v1 x.f1:=by
 obtain ⟨n,h⟩:=h
 cases n with
 | zero => exact h.elim
 | succ n =>
  obtain ⟨_,_,rfl,rfl,⟨v1,rfl,g1⟩⟩:=h
  exact ⟨v1,rfl,Kd.fix_R g1⟩
theorem k93_mk (w : World) (x : S93) {A1 : Option Addr} {c1 : Nat} (l1 : x.f1.length ≤ c1) (g1 : k93.C w A1 x.f1.length x.f1) : k93.K w x [.string x.f0,.slice A1 x.f1.length c1]:=by
 obtain ⟨n1,q1⟩:=Kd.fix_C_back mono93 g1
 have r1:=Kd.upto_C_le mono93 sz93 (show n1 ≤ n1 by omega) q1
 exact ⟨n1 + 1,⟨[.string x.f0],[.slice A1 x.f1.length c1],rfl,rfl,⟨A1,c1,rfl,l1,r1⟩⟩⟩
theorem k93_mkM (w : World) (base : Nat) (ok : Nat → Prop) (x : S93) {v1 : Value} (g1 : k93.R 93 w base ok v1 x.f1) : k93.M w base ok x [.string x.f0,v1]:=by
 obtain ⟨n1,q1⟩:=Kd.fix_R_back mono93 g1
 have r1:=Kd.upto_R_le mono93 sz93 (show n1 ≤ n1 by omega) q1
 exact ⟨n1 + 1,⟨[.string x.f0],[v1],rfl,rfl,⟨v1,rfl,r1⟩⟩⟩
theorem k93_openF {W : World} {ok : Nat → Prop} {x : S93} {cs : List Value} (h : Kd.FK k93 W ok x cs) : ∃ A1 c1,cs = [.string x.f0,.slice A1 x.f1.length c1] ∧ x.f1.length ≤ c1 ∧ Kd.F k93 W ok A1 x.f1.length x.f1:=by
 obtain ⟨A1,c1,rfl,l1,_⟩:=k93_open (Kd.FK_now h)
 exact ⟨A1,c1,rfl,l1,(fun W' hW => by obtain ⟨A1_,c1_,he,l1_,g1_⟩:=k93_open (h W' hW);injection (Option.some.inj (show some (Value.slice A1 x.f1.length c1) = some (Value.slice A1_ x.f1.length c1_) from congrArg (fun l => l[1]?) he)) with ha_ _ _;rw [ha_];exact g1_)⟩
theorem k93_mkF (W : World) (ok : Nat → Prop) (x : S93) {A1 : Option Addr} {c1 : Nat} (l1 : x.f1.length ≤ c1) (g1 : Kd.F k93 W ok A1 x.f1.length x.f1) : Kd.FK k93 W ok x [.string x.f0,.slice A1 x.f1.length c1]:=fun W2 hW => k93_mk W2 x l1 (g1 W2 hW)
def rd_T93 (xs : List S93) (i : Int) : S93:=xs.getD i.toNat z93
theorem at_T93 {w : World} {A : Option Addr} {n : Nat} {xs : List S93} (h : Kd.C k93 w A n xs) (i : Int) (h0 : 0 ≤ i) (h1 : i < n) : ∃ ad A1 c1,A = some ad ∧ w.cell? (ad.add (i.toNat * 2)) = some (.string (rd_T93 xs i).f0) ∧ w.cell? ⟨(ad.add (i.toNat * 2)).block,(ad.add (i.toNat * 2)).off + 1,none⟩ = some (.slice A1 (rd_T93 xs i).f1.length c1) ∧ (rd_T93 xs i).f1.length ≤ c1 ∧ k93.C w A1 (rd_T93 xs i).f1.length (rd_T93 xs i).f1:=by
 obtain ⟨ad,c,e,_,hK,hc0⟩:=Kd.C_get h z93 i h0 h1
 have hc : ∀ j u,c[j]? = some u → w.cell? (ad.add (i.toNat * 2 + j)) = some u:=hc0
 obtain ⟨A1,c1,rfl,l1,g1⟩:=k93_open hK
 exact ⟨ad,A1,c1,e,hc 0 _ rfl,by rw [← add_field _ _ 1 (by omega)];exact hc 1 _ rfl,l1,g1⟩
end Go.Proofs.YthnjbjihphbcpaaGreat.X
end
section
namespace Go.Proofs.YthnjbjihphbcpaaGreat.X
open Go.RowKit Go.Proofs.YthnjbjihphbcpaaGreatW.PrintWords Go.Proofs.YthnjbjihphbcpaaGreatW.PrintLast Go.Proofs.YthnjbjihphbcpaaGreatW.PrintMore
attribute [local go_sem] max2_int min2_int max_two min_two max_three min_three max_four min_four
set_option linter.unusedVariables false
set_option linter.unusedSimpArgs false
section
variable {P : Program} {ops : Array Oper} {Q : Exit → Act → World → Prop} {S : World → Prop} {ds : List Nat}
def mk (n b : Nat) : Array Bool:=((List.range n).map fun i => b.testBit i).toArray
inductive Seg where
 | p : Nat → Nat → Seg
 | t : Nat → Nat → Seg
 | u : Nat → Nat → Seg
inductive Steps (P : Program) (ops : Array Oper) (S : World → Prop) : List Seg → Act → Act → Prop
 | nil {a : Act} : Steps P ops S [] a a
 | p {i : Nat} {is : List Seg} {N : Nat} {oi : Oper} {v : Value} {a : Act} (hi : ops[i]? = some oi) (hN : oi.dst = some N) (hy : Yields P ops oi v a) {a1 a2 : Act} (ha : a.put (some N) v = a1) (hs : Steps P ops S is a1 a2) : Steps P ops S (.p i N :: is) a a2
 | u {i : Nat} {is : List Seg} {N : Nat} {oi : Oper} {a : Act} (hi : ops[i]? = some oi) (hN : oi.dst = some N) (hy : Yields P ops oi undef a) {a1 a2 : Act} (ha : a.put (some N) undef = a1) (hs : Steps P ops S is a1 a2) : Steps P ops S (.u i N :: is) a a2
 | t {i : Nat} {is : List Seg} {N : Nat} {oi : Oper} {v : Value} {a : Act} (hi : ops[i]? = some oi) (hN : oi.dst = some N) (hy : YieldsIf P ops S oi v a) {a1 a2 : Act} (ha : a.put (some N) v = a1) (hs : Steps P ops S is a1 a2) : Steps P ops S (.t i N :: is) a a2
def chk (T : Bool × List (List Nat × List Nat)) (ds : List Nat) : List Seg → List Bool → List Bool → Bool
 | [],l,l' => l == l'
 | .p i _ :: r,l,l' => anyT T l (l.set i true) i && chk T ds r (l.set i true) l'
 | .u i _ :: r,l,l' => anyT T l (l.set i true) i && chk T ds r (l.set i true) l'
 | .t i _ :: r,l,l' => takeT T ds l (l.set i true) i && chk T ds r (l.set i true) l'
def chkW (T : Bool × List (List Nat × List Nat)) (B ds : List Nat) : List Seg → List Bool → List Bool → Bool
 | [],l,l' => l == l'
 | .p i _ :: r,l,l' => anyT T l (l.set i true) i && chkW T B ds r (l.set i true) l'
 | .u i _ :: r,l,l' => anyT T l (l.set i true) i && chkW T B ds r (l.set i true) l'
 | .t i _ :: r,l,l' => takeW T B ds l (l.set i true) i && chkW T B ds r (l.set i true) l'
theorem hQput (hQ : ∀ c (a : Act) t w,Q (.panic c) { a with tmps:=t } w → Q (.panic c) a w) {N : Option Tmp} {v : Value} : ∀ c (a : Act) w,Q (.panic c) (a.put N v) w → Q (.panic c) a w:=fun c a w h => by
 cases N with
 | none => exact h
 | some d => exact hQ c a _ w h
theorem steps0_ {T : Bool × List (List Nat × List Nat)} (HT : rtab .any ops = T) (hQ : ∀ c (a : Act) t w,Q (.panic c) { a with tmps:=t } w → Q (.panic c) a w) {w : World} (hS : S w) {l' : Array Bool} {a' : Act} {fuel : Nat}
  (h : wpAnyLast P .any ops Q S ds fuel l' a' w) : ∀ {is : List Seg} {l : Array Bool} {a : Act},Steps P ops S is a a' → chk T ds is l.toList l'.toList = true → wpAnyLast P .any ops Q S ds (fuel + is.length) l a w
 | [],l,a,hst,hc => by
  cases hst
  simp only [chk,beq_iff_eq] at hc
  have e : l = l':=Array.ext' hc
  subst e
  exact h
 | .p i _ :: r,l,a,hst,hc => by
  cases hst with
  | p hi hN hy ha hs =>
  simp only [chk,Bool.and_eq_true] at hc
  refine pure_ (i:=i) (l:=l) (l.setIfInBounds i true) hi hN (any_of HT ?_) (hQput hQ) hy ha (steps0_ HT hQ hS h hs ?_)
  ·rw [Array.toList_setIfInBounds];exact hc.1
  ·rw [Array.toList_setIfInBounds];exact hc.2
 | .u i _ :: r,l,a,hst,hc => by
  cases hst with
  | u hi hN hy ha hs =>
  simp only [chk,Bool.and_eq_true] at hc
  refine pure_ (i:=i) (l:=l) (l.setIfInBounds i true) hi hN (any_of HT ?_) (hQput hQ) hy ha (steps0_ HT hQ hS h hs ?_)
  ·rw [Array.toList_setIfInBounds];exact hc.1
  ·rw [Array.toList_setIfInBounds];exact hc.2
 | .t i _ :: r,l,a,hst,hc => by
  cases hst with
  | t hi hN hy ha hs =>
  simp only [chk,Bool.and_eq_true] at hc
  refine take_ (i:=i) (l:=l) (l.setIfInBounds i true) hi hN (take_of HT ?_) (hQput hQ) hy hS ha (steps0_ HT hQ hS h hs ?_)
  ·rw [Array.toList_setIfInBounds];exact hc.1
  ·rw [Array.toList_setIfInBounds];exact hc.2
theorem stepsW_ {T : Bool × List (List Nat × List Nat)} {B : List Nat} (HT : rtab .any ops = T) (HW : waitsOk T.2 B = true) (hQ : ∀ c (a : Act) t w,Q (.panic c) { a with tmps:=t } w → Q (.panic c) a w) {w : World} (hS : S w) {l' : Array Bool} {a' : Act} {fuel : Nat}
  (h : wpAnyLast P .any ops Q S ds fuel l' a' w) : ∀ {is : List Seg} {l : Array Bool} {a : Act},Steps P ops S is a a' → chkW T B ds is l.toList l'.toList = true → wpAnyLast P .any ops Q S ds (fuel + is.length) l a w
 | [],l,a,hst,hc => by
  cases hst
  simp only [chkW,beq_iff_eq] at hc
  have e : l = l':=Array.ext' hc
  subst e
  exact h
 | .p i _ :: r,l,a,hst,hc => by
  cases hst with
  | p hi hN hy ha hs =>
  simp only [chkW,Bool.and_eq_true] at hc
  refine pure_ (i:=i) (l:=l) (l.setIfInBounds i true) hi hN (any_of HT ?_) (hQput hQ) hy ha (stepsW_ HT HW hQ hS h hs ?_)
  ·rw [Array.toList_setIfInBounds];exact hc.1
  ·rw [Array.toList_setIfInBounds];exact hc.2
 | .u i _ :: r,l,a,hst,hc => by
  cases hst with
  | u hi hN hy ha hs =>
  simp only [chkW,Bool.and_eq_true] at hc
  refine pure_ (i:=i) (l:=l) (l.setIfInBounds i true) hi hN (any_of HT ?_) (hQput hQ) hy ha (stepsW_ HT HW hQ hS h hs ?_)
  ·rw [Array.toList_setIfInBounds];exact hc.1
  ·rw [Array.toList_setIfInBounds];exact hc.2
 | .t i _ :: r,l,a,hst,hc => by
  cases hst with
  | t hi hN hy ha hs =>
  simp only [chkW,Bool.and_eq_true] at hc
  refine take_ (i:=i) (l:=l) (l.setIfInBounds i true) hi hN (take_ofW HT HW ?_) (hQput hQ) hy hS ha (stepsW_ HT HW hQ hS h hs ?_)
  ·rw [Array.toList_setIfInBounds];exact hc.1
  ·rw [Array.toList_setIfInBounds];exact hc.2
theorem st0_ {T : Bool × List (List Nat × List Nat)} (is : List Seg) (n b m : Nat) (HT : rtab .any ops = T) {w : World} (hS : S w) {a a' : Act} {fuel : Nat} {l : Array Bool} (hst : Steps P ops S is a a') (hn : is.length = n) (hc : chk T ds is l.toList (mk m b).toList = true) (hQ : ∀ c (a : Act) t w,Q (.panic c) { a with tmps:=t } w → Q (.panic c) a w)
  (h : wpAnyLast P .any ops Q S ds fuel (mk m b) a' w) : wpAnyLast P .any ops Q S ds (fuel + n) l a w:=by
 subst hn
 exact steps0_ HT hQ hS h hst hc
theorem stW_ {T : Bool × List (List Nat × List Nat)} {B : List Nat} (is : List Seg) (n b m : Nat) (HT : rtab .any ops = T) (HW : waitsOk T.2 B = true) {w : World} (hS : S w) {a a' : Act} {fuel : Nat} {l : Array Bool} (hst : Steps P ops S is a a') (hn : is.length = n) (hc : chkW T B ds is l.toList (mk m b).toList = true) (hQ : ∀ c (a : Act) t w,Q (.panic c) { a with tmps:=t } w → Q (.panic c) a w)
  (h : wpAnyLast P .any ops Q S ds fuel (mk m b) a' w) : wpAnyLast P .any ops Q S ds (fuel + n) l a w:=by
 subst hn
 exact stepsW_ HT HW hQ hS h hst hc
end
end Go.Proofs.YthnjbjihphbcpaaGreat.X
end
section
namespace Go.Proofs.YthnjbjihphbcpaaGreat.X
open Go.RowKit Go.Proofs.YthnjbjihphbcpaaGreatW.PrintWords Go.Proofs.YthnjbjihphbcpaaGreatW.PrintLast Go.Proofs.YthnjbjihphbcpaaGreatW.PrintMore
attribute [local go_sem] max2_int min2_int max_two min_two max_three min_three max_four min_four
set_option linter.unusedVariables false
set_option linter.unusedSimpArgs false
def bits_Mul64.f (a0 : Int) (a1 : Int) : Option (Int × Int):=some (IntKind.u64.wrap ((IntKind.u64.wrap ((IntKind.u64.wrap ((a0 / 4294967296) * (a1 / 4294967296))) + ((IntKind.u64.wrap ((IntKind.u64.wrap ((a0 / 4294967296) * (Go.bits .and .u64 a1 4294967295))) + ((IntKind.u64.wrap ((Go.bits .and .u64 a0 4294967295) * (Go.bits .and .u64 a1 4294967295))) / 4294967296))) / 4294967296))) + ((IntKind.u64.wrap ((Go.bits .and .u64 (IntKind.u64.wrap ((IntKind.u64.wrap ((a0 / 4294967296) * (Go.bits .and .u64 a1 4294967295))) + ((IntKind.u64.wrap ((Go.bits .and .u64 a0 4294967295) * (Go.bits .and .u64 a1 4294967295))) / 4294967296))) 4294967295) + (IntKind.u64.wrap ((Go.bits .and .u64 a0 4294967295) * (a1 / 4294967296))))) / 4294967296)),IntKind.u64.wrap (a0 * a1))
set_option maxHeartbeats 8000000 in
set_option maxRecDepth 100000 in
theorem bits_Mul64.calls (a0 : Int) (a1 : Int) (r1 : Int) (r2 : Int) (w : World) (h : bits_Mul64.f a0 a1 = some (r1,r2)) :
  Calls Tryz.prog 138 #[.int .u64 a0,.int .u64 a1] w fun e w' => e = .returned (.tuple #[.int .u64 r1,.int .u64 r2]) ∧ Drawn0 w w':=by
 have H : (some (IntKind.u64.wrap ((IntKind.u64.wrap ((IntKind.u64.wrap ((a0 / 4294967296) * (a1 / 4294967296))) + ((IntKind.u64.wrap ((IntKind.u64.wrap ((a0 / 4294967296) * (Go.bits .and .u64 a1 4294967295))) + ((IntKind.u64.wrap ((Go.bits .and .u64 a0 4294967295) * (Go.bits .and .u64 a1 4294967295))) / 4294967296))) / 4294967296))) + ((IntKind.u64.wrap ((Go.bits .and .u64 (IntKind.u64.wrap ((IntKind.u64.wrap ((a0 / 4294967296) * (Go.bits .and .u64 a1 4294967295))) + ((IntKind.u64.wrap ((Go.bits .and .u64 a0 4294967295) * (Go.bits .and .u64 a1 4294967295))) / 4294967296))) 4294967295) + (IntKind.u64.wrap ((Go.bits .and .u64 a0 4294967295) * (a1 / 4294967296))))) / 4294967296)),IntKind.u64.wrap (a0 * a1))) = some (r1,r2):=h
 clear h
 simp only [Option.some.injEq,Prod.mk.injEq] at H
 obtain ⟨rfl,rfl⟩:=H
 go_enter Tryz.func138,Tryz.ntmps138
 go_wp2
 go_ret2
 exact ⟨by first|rfl|(simp;done)|(simp [*];done),by repeat (first|exact Drawn0.refl _|apply Drawn0.step)⟩
end Go.Proofs.YthnjbjihphbcpaaGreat.X
end
section
namespace Go.Proofs.YthnjbjihphbcpaaGreat.X
open Go.RowKit Go.Proofs.YthnjbjihphbcpaaGreatW.PrintWords Go.Proofs.YthnjbjihphbcpaaGreatW.PrintLast Go.Proofs.YthnjbjihphbcpaaGreatW.PrintMore
attribute [local go_sem] max2_int min2_int max_two min_two max_three min_three max_four min_four
set_option linter.unusedVariables false
set_option linter.unusedSimpArgs false
def bits_Mul.f (a0 : Int) (a1 : Int) : Option (Int × Int):=(bits_Mul64.f a0 a1).bind fun bt793 => (some (bt793.1,bt793.2))
set_option maxHeartbeats 8000000 in
set_option maxRecDepth 100000 in
theorem bits_Mul.calls (a0 : Int) (a1 : Int) (r1 : Int) (r2 : Int) (w : World) (h : bits_Mul.f a0 a1 = some (r1,r2)) :
  Calls Tryz.prog 115 #[.int .u64 a0,.int .u64 a1] w fun e w' => e = .returned (.tuple #[.int .u64 r1,.int .u64 r2]) ∧ Drawn0 w w':=by
 have H : ((bits_Mul64.f a0 a1).bind fun bt793 => (some (bt793.1,bt793.2))) = some (r1,r2):=h
 clear h
 replace H:=Option.bind_eq_some_iff.mp H
 obtain ⟨⟨t793,t794⟩,A30,H⟩:=H
 replace H : (some (t793,t794)) = some (r1,r2):=H
 have A3:=Aside0.mk A30
 clear A30
 simp only [Option.some.injEq,Prod.mk.injEq] at H
 obtain ⟨rfl,rfl⟩:=H
 go_enter Tryz.func115,Tryz.ntmps115
 go_wp2_with (first|((with_reducible refine gate_callee (f:=138) rfl ?_);refine goesL_ (some 25) rfl rfl Tryz.func138 (by kernel_rfl) rfl #[.int .u64 a0,.int .u64 a1] rfl (by (try simp only [List.map_toArray,List.map_cons,List.map_nil]);first|done|rfl|(simp only [List.length_drop,List.length_take];rfl)) ?_;(with_reducible refine (bits_Mul64.calls a0 a1 t793 t794 _ A3.out).mono ?_);rintro e w' ⟨rfl,⟨nd,rfl⟩⟩;refine ⟨_,rfl,?_⟩))
 go_ret2
 exact ⟨by first|rfl|(simp;done)|(simp [*];done),by repeat (first|exact Drawn0.refl _|apply Drawn0.step)⟩
end Go.Proofs.YthnjbjihphbcpaaGreat.X
end
section
namespace Go.Proofs.YthnjbjihphbcpaaGreat.X
open Go.RowKit Go.Proofs.YthnjbjihphbcpaaGreatW.PrintWords Go.Proofs.YthnjbjihphbcpaaGreatW.PrintLast Go.Proofs.YthnjbjihphbcpaaGreatW.PrintMore
attribute [local go_sem] max2_int min2_int max_two min_two max_three min_three max_four min_four
set_option linter.unusedVariables false
set_option linter.unusedSimpArgs false
def slices_Repeat_int_int.f (l0 : List Int) (a1 : Int) : Option (List Int):=if l0.length = 1 ∧ 1 ≤ a1 ∧ a1 ≤ 4 then some (List.replicate a1.toNat (rd l0 0)) else none
theorem slices_Repeat_int_int.row {w : World} {base g cap : Nat} {xs : List Int} {rest : List Value} (hb : base ≤ g) (hc : xs.length ≤ cap) (hm : cap ≤ maxLen) (hl : xs.length + rest.length = cap) (h : w.heap[g]? = some (.cells ((xs.map (Value.int .i64)) ++ rest).toArray 3 (0,0))) :
  Kd.R (Kd.int .i64) 3 w base (fun _ => True) (.slice (some ⟨g,0,none⟩) xs.length cap) xs :=
 Kd.R_of_own ⟨by simp [encs],.inr ⟨g,cap,_,rfl,hb,h,hc,hm,by simp;omega,by simp [encs]⟩⟩ (fun _ _ => trivial)
theorem slices_Repeat_int_int.cells {w : World} {base : Nat} {ok : Nat → Prop} {v : Value} {xs : List Int} (h : Kd.R (Kd.int .i64) 3 w base ok v xs) (hp : 0 < xs.length) :
  ∃ g cap rest,v = .slice (some ⟨g,0,none⟩) xs.length cap ∧ base ≤ g ∧ w.heap[g]? = some (.cells ((xs.map (Value.int .i64)) ++ rest).toArray 3 (0,0)) ∧ xs.length ≤ cap ∧ cap ≤ maxLen ∧ xs.length + rest.length = cap:=by
 obtain ⟨h1,h2⟩:=Kd.own_of_R (enc:=Value.int .i64) (h1:=fun _ => rfl) h
 rcases h2 with ⟨_,h0⟩ | ⟨g,cap,cur,rfl,hb,hh,hnc,hcm,hcs,ht⟩
 ·omega
 refine ⟨g,cap,cur.toList.drop xs.length,rfl,hb,?_,hnc,hcm,?_⟩
 ·have e : (xs.map (Value.int .i64)) ++ cur.toList.drop xs.length = cur.toList:=by
   have:=List.take_append_drop xs.length cur.toList
   rw [Nat.mul_one] at ht
   rw [ht] at this
   exact this
  rw [e];exact hh
 ·rw [List.length_drop];have : cur.toList.length = cap:=by simp;omega
  omega
set_option maxHeartbeats 4000000 in
set_option maxRecDepth 100000 in
theorem slices_Repeat_int_int.n1 (ad : Addr) (c0 : Nat) (x : Int) (w : World) (hx : w.cell? (ad.add 0) = some (.int .i64 x)) :
  Calls Tryz.prog 79 #[.slice (some ad) 1 c0,.int .i64 1] w fun e w' => ∃ v0_ : Value,e = .returned (v0_) ∧ Kd.R (Kd.int .i64) 3 w' w.heap.size (fun _ => True) v0_ [x] ∧ Below w.heap.size w w':=by
 have HB:=Aside0.mk (Below.refl w.heap.size w)
 go_enter Tryz.func79,Tryz.ntmps79
 go_wp2_with (first|((with_reducible refine gate_callee (f:=115) rfl ?_);refine goesL_ (some 18) rfl rfl Tryz.func115 (by kernel_rfl) rfl #[.int .u64 1,.int .u64 1] rfl (by (try simp only [List.map_toArray,List.map_cons,List.map_nil]);first|done|rfl) ?_;(refine (bits_Mul.calls 1 1 0 1 _ (by kernel_rfl)).mono ?_);rintro e w' ⟨rfl,⟨nd,rfl⟩⟩;refine ⟨_,rfl,?_⟩)|((with_reducible refine gate_dst (N:=30) rfl ?_);refine Kd.R_make (Kd.int .i64) _ 3 rfl (N:=30) rfl 23 _ _ rfl (1 : Int) rfl rfl Tryz.underlying23 (.int .i64 0) 8 info3 rfl (by decide) (by omega) 0 (ok:=fun _ => True) (okp:=fun _ => True) rfl (fun _ hk => hk) trivial (by omega) (by decide) (Below.refl _ _) (Nat.le_refl _) ?_;intro v149 w4 ho5 hb hg_ hnew_;clear hg_ hnew_;have n0_:=Aside0.mk (Kd.R_lower ho5 (below_size (by repeat (first|(with_reducible first|exact HB.out|apply below_alloc|apply pw_below_drewN|apply below_drew1)|exact HB.out))));have n1_:=Aside0.mk (below_step (by repeat (first|(with_reducible first|exact HB.out|apply below_alloc|apply pw_below_drewN|apply below_drew1)|exact HB.out)) hb);clear HB;have HB:=n1_;obtain ⟨g,cap,rest,rfl,hbg,hg4,hcap,hcm,hrl⟩:=slices_Repeat_int_int.cells (xs:=[0]) n0_.out (by simp);clear n0_ n1_;clear hb ho5;have HG:=Aside0.mk hg4;clear hg4)|((with_reducible refine gate_dst (N:=33) rfl ?_);refine wpList_copy_splice rfl (.tmp 31) (.tmp 32) 23 23 rfl 3 Tryz.underlying23 (by kernel_rfl) (some ⟨g,0,none⟩) (some ad) 1 cap 1 c0 rfl rfl g 0 _ 3 HG.out [.int .i64 x] rfl (fun _ => ⟨rfl,ad,rfl,?src⟩) (by simp) (by simp [Value.oneCell']) _ _ HB.out hbg ?_;(case src => intro j v hj;obtain ⟨rfl,rfl⟩ : j = 0 ∧ v = .int .i64 x:=(by cases j <;> simp at hj;exact ⟨rfl,hj.symm⟩);exact (HB.out.cell (World.block_lt_of_cell? w _ hx)).trans hx);intro w5 hg5 hb5;have n0_:=Aside0.mk hg5;clear HG HB;have HG:=n0_;have HB:=Aside0.mk hb5;clear n0_ hg5 hb5))
 have hc1 : (1 : Int) ≤ (cap : Int):=by simp at hcap;omega
 refine wp_loop_rounds 1 ?_
 rw [rounds_succ]
 go_wp2
 go_ret
 exact ⟨_,rfl,slices_Repeat_int_int.row (xs:=[x]) (rest:=rest) hbg hcap hcm hrl HG.out,HB.out⟩
set_option maxHeartbeats 4000000 in
set_option maxRecDepth 100000 in
theorem slices_Repeat_int_int.n2 (ad : Addr) (c0 : Nat) (x : Int) (w : World) (hx : w.cell? (ad.add 0) = some (.int .i64 x)) :
  Calls Tryz.prog 79 #[.slice (some ad) 1 c0,.int .i64 2] w fun e w' => ∃ v0_ : Value,e = .returned (v0_) ∧ Kd.R (Kd.int .i64) 3 w' w.heap.size (fun _ => True) v0_ [x,x] ∧ Below w.heap.size w w':=by
 have HB:=Aside0.mk (Below.refl w.heap.size w)
 go_enter Tryz.func79,Tryz.ntmps79
 go_wp2_with (first|((with_reducible refine gate_callee (f:=115) rfl ?_);refine goesL_ (some 18) rfl rfl Tryz.func115 (by kernel_rfl) rfl #[.int .u64 1,.int .u64 2] rfl (by (try simp only [List.map_toArray,List.map_cons,List.map_nil]);first|done|rfl) ?_;(refine (bits_Mul.calls 1 2 0 2 _ (by kernel_rfl)).mono ?_);rintro e w' ⟨rfl,⟨nd,rfl⟩⟩;refine ⟨_,rfl,?_⟩)|((with_reducible refine gate_dst (N:=30) rfl ?_);refine Kd.R_make (Kd.int .i64) _ 3 rfl (N:=30) rfl 23 _ _ rfl (2 : Int) rfl rfl Tryz.underlying23 (.int .i64 0) 8 info3 rfl (by decide) (by omega) 0 (ok:=fun _ => True) (okp:=fun _ => True) rfl (fun _ hk => hk) trivial (by omega) (by decide) (Below.refl _ _) (Nat.le_refl _) ?_;intro v149 w4 ho5 hb hg_ hnew_;clear hg_ hnew_;have n0_:=Aside0.mk (Kd.R_lower ho5 (below_size (by repeat (first|(with_reducible first|exact HB.out|apply below_alloc|apply pw_below_drewN|apply below_drew1)|exact HB.out))));have n1_:=Aside0.mk (below_step (by repeat (first|(with_reducible first|exact HB.out|apply below_alloc|apply pw_below_drewN|apply below_drew1)|exact HB.out)) hb);clear HB;have HB:=n1_;obtain ⟨g,cap,rest,rfl,hbg,hg4,hcap,hcm,hrl⟩:=slices_Repeat_int_int.cells (xs:=[0,0]) n0_.out (by simp);clear n0_ n1_;clear hb ho5;have HG:=Aside0.mk hg4;clear hg4)|((with_reducible refine gate_dst (N:=33) rfl ?_);refine wpList_copy_splice rfl (.tmp 31) (.tmp 32) 23 23 rfl 3 Tryz.underlying23 (by kernel_rfl) (some ⟨g,0,none⟩) (some ad) 2 cap 1 c0 rfl rfl g 0 _ 3 HG.out [.int .i64 x] rfl (fun _ => ⟨rfl,ad,rfl,?src⟩) (by simp) (by simp [Value.oneCell']) _ _ HB.out hbg ?_;(case src => intro j v hj;obtain ⟨rfl,rfl⟩ : j = 0 ∧ v = .int .i64 x:=(by cases j <;> simp at hj;exact ⟨rfl,hj.symm⟩);exact (HB.out.cell (World.block_lt_of_cell? w _ hx)).trans hx);intro w5 hg5 hb5;have n0_:=Aside0.mk hg5;clear HG HB;have HG:=n0_;have HB:=Aside0.mk hb5;clear n0_ hg5 hb5))
 have hc1 : (1 : Int) ≤ (cap : Int):=by simp at hcap;omega
 have hc2 : (2 : Int) ≤ (cap : Int):=by simp at hcap;omega
 have hd1:=eq_false (show ¬ cap = 1 by simp at hcap;omega)
 have hw2 : wrap64 2 = 2:=by unfold wrap64;omega
 refine wp_loop_rounds 2 ?_
 rw [rounds_succ]
 go_wp2
 refine start_ (n:=10) (S:=fun _ => True) (ds:=[]) #[false,false,false,false,false,false,false,false,false,false] (by kernel_rfl) rfl rfl trivial (fun hHeld => ?_)
 have n0_:=Aside0.mk (below_drew1 HB.out)
 have n1_:=Aside0.mk (show w5.drew.heap[g]? = _ from HG.out)
 clear HB HG
 have HB:=n0_
 have HG:=n1_
 clear n0_ n1_
 generalize w5.drew = w6 at HB HG ⊢
 refine st0_ [.p 0 38,.p 1 39,.p 2 40,.p 3 41,.p 4 42,.p 5 43,.p 6 44] 7 127 10 rfl hHeld (a':=?_) ?_ rfl (by kernel_rfl) (fun _ _ _ _ h => h) ?_
 rotate_left
 ·repeat (first|exact Steps.nil|(refine Steps.p (oi:=?_) (v:=?_) (a1:=?_) ?_ ?_ ?_ ?_ ?_;rotate_left 2;rfl;rfl;(refine Or.inl ⟨by rfl,?_⟩;intro w';go_simp;with_reducible rfl);rotate_left;(simp only [Act.put,List.setIfInBounds_toArray,List.set_cons_zero,List.set_cons_succ,i64_w,i32_w];rfl)))
 refine one_ (i:=7) (N:=some 45) (mk 10 255) rfl rfl (by kernel_rfl) (by decide) (fun K hK => ?_)
 refine step_copy_splice rfl (.tmp 41) (.tmp 44) 23 23 rfl 3 Tryz.underlying23 (by kernel_rfl) (some ⟨g,1,none⟩) (some ⟨g,0,none⟩) 1 (cap - 1) 1 cap rfl rfl g 1 _ 3 HG.out [.int .i64 x] rfl (fun _ => ⟨rfl,_,rfl,?src⟩) ?fit (by simp [Value.oneCell']) _ _ HB.out hbg ?_
 case src =>
  intro j v hj
  obtain ⟨rfl,rfl⟩ : j = 0 ∧ v = .int .i64 x:=by cases j <;> simp at hj;exact ⟨rfl,hj.symm⟩
  exact (blk_cell HG.out 0).trans rfl
 case fit => simp [splice]
 intro w7 hg7 hb7
 have n0_:=Aside0.mk hg7
 clear HG HB
 have HG:=n0_
 have HB:=Aside0.mk hb7
 clear n0_ hg7 hb7
 refine hK.out _ _ trivial (fun hHeld => ?_)
 refine norm_ (a':=?_) ?_ ?_
 rotate_left
 ·show Act.put _ (some 45) _ = _
  simp only [Act.put,List.setIfInBounds_toArray,List.set_cons_zero,List.set_cons_succ,i64_w,i32_w]
  rfl
 refine st0_ [.p 8 46,.p 9 8] 2 1023 10 rfl hHeld (a':=?_) ?_ rfl (by kernel_rfl) (fun _ _ _ _ h => h) ?_
 rotate_left
 ·repeat (first|exact Steps.nil|(refine Steps.p (oi:=?_) (v:=?_) (a1:=?_) ?_ ?_ ?_ ?_ ?_;rotate_left 2;rfl;rfl;(refine Or.inl ⟨by rfl,?_⟩;intro w';go_simp;with_reducible rfl);rotate_left;(simp only [Act.put,List.setIfInBounds_toArray,List.set_cons_zero,List.set_cons_succ,i64_w,i32_w];rfl)))
 refine done_ (by kernel_rfl) ?_
 (try simp only [hw2])
 go_wp2
 rw [rounds_succ]
 go_wp2
 go_ret
 exact ⟨_,rfl,slices_Repeat_int_int.row (xs:=[x,x]) (rest:=rest) hbg hcap hcm hrl HG.out,HB.out⟩
set_option maxHeartbeats 4000000 in
set_option maxRecDepth 100000 in
theorem slices_Repeat_int_int.n3 (ad : Addr) (c0 : Nat) (x : Int) (w : World) (hx : w.cell? (ad.add 0) = some (.int .i64 x)) :
  Calls Tryz.prog 79 #[.slice (some ad) 1 c0,.int .i64 3] w fun e w' => ∃ v0_ : Value,e = .returned (v0_) ∧ Kd.R (Kd.int .i64) 3 w' w.heap.size (fun _ => True) v0_ [x,x,x] ∧ Below w.heap.size w w':=by
 have HB:=Aside0.mk (Below.refl w.heap.size w)
 go_enter Tryz.func79,Tryz.ntmps79
 go_wp2_with (first|((with_reducible refine gate_callee (f:=115) rfl ?_);refine goesL_ (some 18) rfl rfl Tryz.func115 (by kernel_rfl) rfl #[.int .u64 1,.int .u64 3] rfl (by (try simp only [List.map_toArray,List.map_cons,List.map_nil]);first|done|rfl) ?_;(refine (bits_Mul.calls 1 3 0 3 _ (by kernel_rfl)).mono ?_);rintro e w' ⟨rfl,⟨nd,rfl⟩⟩;refine ⟨_,rfl,?_⟩)|((with_reducible refine gate_dst (N:=30) rfl ?_);refine Kd.R_make (Kd.int .i64) _ 3 rfl (N:=30) rfl 23 _ _ rfl (3 : Int) rfl rfl Tryz.underlying23 (.int .i64 0) 8 info3 rfl (by decide) (by omega) 0 (ok:=fun _ => True) (okp:=fun _ => True) rfl (fun _ hk => hk) trivial (by omega) (by decide) (Below.refl _ _) (Nat.le_refl _) ?_;intro v149 w4 ho5 hb hg_ hnew_;clear hg_ hnew_;have n0_:=Aside0.mk (Kd.R_lower ho5 (below_size (by repeat (first|(with_reducible first|exact HB.out|apply below_alloc|apply pw_below_drewN|apply below_drew1)|exact HB.out))));have n1_:=Aside0.mk (below_step (by repeat (first|(with_reducible first|exact HB.out|apply below_alloc|apply pw_below_drewN|apply below_drew1)|exact HB.out)) hb);clear HB;have HB:=n1_;obtain ⟨g,cap,rest,rfl,hbg,hg4,hcap,hcm,hrl⟩:=slices_Repeat_int_int.cells (xs:=[0,0,0]) n0_.out (by simp);clear n0_ n1_;clear hb ho5;have HG:=Aside0.mk hg4;clear hg4)|((with_reducible refine gate_dst (N:=33) rfl ?_);refine wpList_copy_splice rfl (.tmp 31) (.tmp 32) 23 23 rfl 3 Tryz.underlying23 (by kernel_rfl) (some ⟨g,0,none⟩) (some ad) 3 cap 1 c0 rfl rfl g 0 _ 3 HG.out [.int .i64 x] rfl (fun _ => ⟨rfl,ad,rfl,?src⟩) (by simp) (by simp [Value.oneCell']) _ _ HB.out hbg ?_;(case src => intro j v hj;obtain ⟨rfl,rfl⟩ : j = 0 ∧ v = .int .i64 x:=(by cases j <;> simp at hj;exact ⟨rfl,hj.symm⟩);exact (HB.out.cell (World.block_lt_of_cell? w _ hx)).trans hx);intro w5 hg5 hb5;have n0_:=Aside0.mk hg5;clear HG HB;have HG:=n0_;have HB:=Aside0.mk hb5;clear n0_ hg5 hb5))
 have hc1 : (1 : Int) ≤ (cap : Int):=by simp at hcap;omega
 have hc2 : (2 : Int) ≤ (cap : Int):=by simp at hcap;omega
 have hc3 : (3 : Int) ≤ (cap : Int):=by simp at hcap;omega
 have hd1:=eq_false (show ¬ cap = 1 by simp at hcap;omega)
 have hd2:=eq_false (show ¬ cap = 2 by simp at hcap;omega)
 have hw2 : wrap64 2 = 2:=by unfold wrap64;omega
 have hw3 : wrap64 3 = 3:=by unfold wrap64;omega
 refine wp_loop_rounds 3 ?_
 rw [rounds_succ]
 go_wp2
 refine start_ (n:=10) (S:=fun _ => True) (ds:=[]) #[false,false,false,false,false,false,false,false,false,false] (by kernel_rfl) rfl rfl trivial (fun hHeld => ?_)
 have n0_:=Aside0.mk (below_drew1 HB.out)
 have n1_:=Aside0.mk (show w5.drew.heap[g]? = _ from HG.out)
 clear HB HG
 have HB:=n0_
 have HG:=n1_
 clear n0_ n1_
 generalize w5.drew = w6 at HB HG ⊢
 refine st0_ [.p 0 38,.p 1 39,.p 2 40,.p 3 41,.p 4 42,.p 5 43,.p 6 44] 7 127 10 rfl hHeld (a':=?_) ?_ rfl (by kernel_rfl) (fun _ _ _ _ h => h) ?_
 rotate_left
 ·repeat (first|exact Steps.nil|(refine Steps.p (oi:=?_) (v:=?_) (a1:=?_) ?_ ?_ ?_ ?_ ?_;rotate_left 2;rfl;rfl;(refine Or.inl ⟨by rfl,?_⟩;intro w';go_simp;with_reducible rfl);rotate_left;(simp only [Act.put,List.setIfInBounds_toArray,List.set_cons_zero,List.set_cons_succ,i64_w,i32_w];rfl)))
 refine one_ (i:=7) (N:=some 45) (mk 10 255) rfl rfl (by kernel_rfl) (by decide) (fun K hK => ?_)
 refine step_copy_splice rfl (.tmp 41) (.tmp 44) 23 23 rfl 3 Tryz.underlying23 (by kernel_rfl) (some ⟨g,1,none⟩) (some ⟨g,0,none⟩) 2 (cap - 1) 1 cap rfl rfl g 1 _ 3 HG.out [.int .i64 x] rfl (fun _ => ⟨rfl,_,rfl,?src⟩) ?fit (by simp [Value.oneCell']) _ _ HB.out hbg ?_
 case src =>
  intro j v hj
  obtain ⟨rfl,rfl⟩ : j = 0 ∧ v = .int .i64 x:=by cases j <;> simp at hj;exact ⟨rfl,hj.symm⟩
  exact (blk_cell HG.out 0).trans rfl
 case fit => simp [splice]
 intro w7 hg7 hb7
 have n0_:=Aside0.mk hg7
 clear HG HB
 have HG:=n0_
 have HB:=Aside0.mk hb7
 clear n0_ hg7 hb7
 refine hK.out _ _ trivial (fun hHeld => ?_)
 refine norm_ (a':=?_) ?_ ?_
 rotate_left
 ·show Act.put _ (some 45) _ = _
  simp only [Act.put,List.setIfInBounds_toArray,List.set_cons_zero,List.set_cons_succ,i64_w,i32_w]
  rfl
 refine st0_ [.p 8 46,.p 9 8] 2 1023 10 rfl hHeld (a':=?_) ?_ rfl (by kernel_rfl) (fun _ _ _ _ h => h) ?_
 rotate_left
 ·repeat (first|exact Steps.nil|(refine Steps.p (oi:=?_) (v:=?_) (a1:=?_) ?_ ?_ ?_ ?_ ?_;rotate_left 2;rfl;rfl;(refine Or.inl ⟨by rfl,?_⟩;intro w';go_simp;with_reducible rfl);rotate_left;(simp only [Act.put,List.setIfInBounds_toArray,List.set_cons_zero,List.set_cons_succ,i64_w,i32_w];rfl)))
 refine done_ (by kernel_rfl) ?_
 (try simp only [hw2])
 go_wp2
 rw [rounds_succ]
 go_wp2
 refine start_ (n:=10) (S:=fun _ => True) (ds:=[]) #[false,false,false,false,false,false,false,false,false,false] (by kernel_rfl) rfl rfl trivial (fun hHeld => ?_)
 have n0_:=Aside0.mk (below_drew1 HB.out)
 have n1_:=Aside0.mk (show w7.drew.heap[g]? = _ from HG.out)
 clear HB HG
 have HB:=n0_
 have HG:=n1_
 clear n0_ n1_
 generalize w7.drew = w8 at HB HG ⊢
 refine st0_ [.p 0 38,.p 1 39,.p 2 40,.p 3 41,.p 4 42,.p 5 43,.p 6 44] 7 127 10 rfl hHeld (a':=?_) ?_ rfl (by kernel_rfl) (fun _ _ _ _ h => h) ?_
 rotate_left
 ·repeat (first|exact Steps.nil|(refine Steps.p (oi:=?_) (v:=?_) (a1:=?_) ?_ ?_ ?_ ?_ ?_;rotate_left 2;rfl;rfl;(refine Or.inl ⟨by rfl,?_⟩;intro w';go_simp;with_reducible rfl);rotate_left;(simp only [Act.put,List.setIfInBounds_toArray,List.set_cons_zero,List.set_cons_succ,i64_w,i32_w];rfl)))
 refine one_ (i:=7) (N:=some 45) (mk 10 255) rfl rfl (by kernel_rfl) (by decide) (fun K hK => ?_)
 refine step_copy_splice rfl (.tmp 41) (.tmp 44) 23 23 rfl 3 Tryz.underlying23 (by kernel_rfl) (some ⟨g,2,none⟩) (some ⟨g,0,none⟩) 1 (cap - 2) 2 cap rfl rfl g 2 _ 3 HG.out [.int .i64 x] rfl (fun _ => ⟨rfl,_,rfl,?src⟩) ?fit (by simp [Value.oneCell']) _ _ HB.out hbg ?_
 case src =>
  intro j v hj
  obtain ⟨rfl,rfl⟩ : j = 0 ∧ v = .int .i64 x:=by cases j <;> simp at hj;exact ⟨rfl,hj.symm⟩
  exact (blk_cell HG.out 0).trans rfl
 case fit => simp [splice]
 intro w9 hg7 hb7
 have n0_:=Aside0.mk hg7
 clear HG HB
 have HG:=n0_
 have HB:=Aside0.mk hb7
 clear n0_ hg7 hb7
 refine hK.out _ _ trivial (fun hHeld => ?_)
 refine norm_ (a':=?_) ?_ ?_
 rotate_left
 ·show Act.put _ (some 45) _ = _
  simp only [Act.put,List.setIfInBounds_toArray,List.set_cons_zero,List.set_cons_succ,i64_w,i32_w]
  rfl
 refine st0_ [.p 8 46,.p 9 8] 2 1023 10 rfl hHeld (a':=?_) ?_ rfl (by kernel_rfl) (fun _ _ _ _ h => h) ?_
 rotate_left
 ·repeat (first|exact Steps.nil|(refine Steps.p (oi:=?_) (v:=?_) (a1:=?_) ?_ ?_ ?_ ?_ ?_;rotate_left 2;rfl;rfl;(refine Or.inl ⟨by rfl,?_⟩;intro w';go_simp;with_reducible rfl);rotate_left;(simp only [Act.put,List.setIfInBounds_toArray,List.set_cons_zero,List.set_cons_succ,i64_w,i32_w];rfl)))
 refine done_ (by kernel_rfl) ?_
 (try simp only [hw3])
 go_wp2
 rw [rounds_succ]
 go_wp2
 go_ret
 exact ⟨_,rfl,slices_Repeat_int_int.row (xs:=[x,x,x]) (rest:=rest) hbg hcap hcm hrl HG.out,HB.out⟩
set_option maxHeartbeats 4000000 in
set_option maxRecDepth 100000 in
theorem slices_Repeat_int_int.n4 (ad : Addr) (c0 : Nat) (x : Int) (w : World) (hx : w.cell? (ad.add 0) = some (.int .i64 x)) :
  Calls Tryz.prog 79 #[.slice (some ad) 1 c0,.int .i64 4] w fun e w' => ∃ v0_ : Value,e = .returned (v0_) ∧ Kd.R (Kd.int .i64) 3 w' w.heap.size (fun _ => True) v0_ [x,x,x,x] ∧ Below w.heap.size w w':=by
 have HB:=Aside0.mk (Below.refl w.heap.size w)
 go_enter Tryz.func79,Tryz.ntmps79
 go_wp2_with (first|((with_reducible refine gate_callee (f:=115) rfl ?_);refine goesL_ (some 18) rfl rfl Tryz.func115 (by kernel_rfl) rfl #[.int .u64 1,.int .u64 4] rfl (by (try simp only [List.map_toArray,List.map_cons,List.map_nil]);first|done|rfl) ?_;(refine (bits_Mul.calls 1 4 0 4 _ (by kernel_rfl)).mono ?_);rintro e w' ⟨rfl,⟨nd,rfl⟩⟩;refine ⟨_,rfl,?_⟩)|((with_reducible refine gate_dst (N:=30) rfl ?_);refine Kd.R_make (Kd.int .i64) _ 3 rfl (N:=30) rfl 23 _ _ rfl (4 : Int) rfl rfl Tryz.underlying23 (.int .i64 0) 8 info3 rfl (by decide) (by omega) 0 (ok:=fun _ => True) (okp:=fun _ => True) rfl (fun _ hk => hk) trivial (by omega) (by decide) (Below.refl _ _) (Nat.le_refl _) ?_;intro v149 w4 ho5 hb hg_ hnew_;clear hg_ hnew_;have n0_:=Aside0.mk (Kd.R_lower ho5 (below_size (by repeat (first|(with_reducible first|exact HB.out|apply below_alloc|apply pw_below_drewN|apply below_drew1)|exact HB.out))));have n1_:=Aside0.mk (below_step (by repeat (first|(with_reducible first|exact HB.out|apply below_alloc|apply pw_below_drewN|apply below_drew1)|exact HB.out)) hb);clear HB;have HB:=n1_;obtain ⟨g,cap,rest,rfl,hbg,hg4,hcap,hcm,hrl⟩:=slices_Repeat_int_int.cells (xs:=[0,0,0,0]) n0_.out (by simp);clear n0_ n1_;clear hb ho5;have HG:=Aside0.mk hg4;clear hg4)|((with_reducible refine gate_dst (N:=33) rfl ?_);refine wpList_copy_splice rfl (.tmp 31) (.tmp 32) 23 23 rfl 3 Tryz.underlying23 (by kernel_rfl) (some ⟨g,0,none⟩) (some ad) 4 cap 1 c0 rfl rfl g 0 _ 3 HG.out [.int .i64 x] rfl (fun _ => ⟨rfl,ad,rfl,?src⟩) (by simp) (by simp [Value.oneCell']) _ _ HB.out hbg ?_;(case src => intro j v hj;obtain ⟨rfl,rfl⟩ : j = 0 ∧ v = .int .i64 x:=(by cases j <;> simp at hj;exact ⟨rfl,hj.symm⟩);exact (HB.out.cell (World.block_lt_of_cell? w _ hx)).trans hx);intro w5 hg5 hb5;have n0_:=Aside0.mk hg5;clear HG HB;have HG:=n0_;have HB:=Aside0.mk hb5;clear n0_ hg5 hb5))
 have hc1 : (1 : Int) ≤ (cap : Int):=by simp at hcap;omega
 have hc2 : (2 : Int) ≤ (cap : Int):=by simp at hcap;omega
 have hc3 : (3 : Int) ≤ (cap : Int):=by simp at hcap;omega
 have hc4 : (4 : Int) ≤ (cap : Int):=by simp at hcap;omega
 have hd1:=eq_false (show ¬ cap = 1 by simp at hcap;omega)
 have hd2:=eq_false (show ¬ cap = 2 by simp at hcap;omega)
 have hw2 : wrap64 2 = 2:=by unfold wrap64;omega
 have hw4 : wrap64 4 = 4:=by unfold wrap64;omega
 refine wp_loop_rounds 3 ?_
 rw [rounds_succ]
 go_wp2
 refine start_ (n:=10) (S:=fun _ => True) (ds:=[]) #[false,false,false,false,false,false,false,false,false,false] (by kernel_rfl) rfl rfl trivial (fun hHeld => ?_)
 have n0_:=Aside0.mk (below_drew1 HB.out)
 have n1_:=Aside0.mk (show w5.drew.heap[g]? = _ from HG.out)
 clear HB HG
 have HB:=n0_
 have HG:=n1_
 clear n0_ n1_
 generalize w5.drew = w6 at HB HG ⊢
 refine st0_ [.p 0 38,.p 1 39,.p 2 40,.p 3 41,.p 4 42,.p 5 43,.p 6 44] 7 127 10 rfl hHeld (a':=?_) ?_ rfl (by kernel_rfl) (fun _ _ _ _ h => h) ?_
 rotate_left
 ·repeat (first|exact Steps.nil|(refine Steps.p (oi:=?_) (v:=?_) (a1:=?_) ?_ ?_ ?_ ?_ ?_;rotate_left 2;rfl;rfl;(refine Or.inl ⟨by rfl,?_⟩;intro w';go_simp;with_reducible rfl);rotate_left;(simp only [Act.put,List.setIfInBounds_toArray,List.set_cons_zero,List.set_cons_succ,i64_w,i32_w];rfl)))
 refine one_ (i:=7) (N:=some 45) (mk 10 255) rfl rfl (by kernel_rfl) (by decide) (fun K hK => ?_)
 refine step_copy_splice rfl (.tmp 41) (.tmp 44) 23 23 rfl 3 Tryz.underlying23 (by kernel_rfl) (some ⟨g,1,none⟩) (some ⟨g,0,none⟩) 3 (cap - 1) 1 cap rfl rfl g 1 _ 3 HG.out [.int .i64 x] rfl (fun _ => ⟨rfl,_,rfl,?src⟩) ?fit (by simp [Value.oneCell']) _ _ HB.out hbg ?_
 case src =>
  intro j v hj
  obtain ⟨rfl,rfl⟩ : j = 0 ∧ v = .int .i64 x:=by cases j <;> simp at hj;exact ⟨rfl,hj.symm⟩
  exact (blk_cell HG.out 0).trans rfl
 case fit => simp [splice]
 intro w7 hg7 hb7
 have n0_:=Aside0.mk hg7
 clear HG HB
 have HG:=n0_
 have HB:=Aside0.mk hb7
 clear n0_ hg7 hb7
 refine hK.out _ _ trivial (fun hHeld => ?_)
 refine norm_ (a':=?_) ?_ ?_
 rotate_left
 ·show Act.put _ (some 45) _ = _
  simp only [Act.put,List.setIfInBounds_toArray,List.set_cons_zero,List.set_cons_succ,i64_w,i32_w]
  rfl
 refine st0_ [.p 8 46,.p 9 8] 2 1023 10 rfl hHeld (a':=?_) ?_ rfl (by kernel_rfl) (fun _ _ _ _ h => h) ?_
 rotate_left
 ·repeat (first|exact Steps.nil|(refine Steps.p (oi:=?_) (v:=?_) (a1:=?_) ?_ ?_ ?_ ?_ ?_;rotate_left 2;rfl;rfl;(refine Or.inl ⟨by rfl,?_⟩;intro w';go_simp;with_reducible rfl);rotate_left;(simp only [Act.put,List.setIfInBounds_toArray,List.set_cons_zero,List.set_cons_succ,i64_w,i32_w];rfl)))
 refine done_ (by kernel_rfl) ?_
 (try simp only [hw2])
 go_wp2
 rw [rounds_succ]
 go_wp2
 refine start_ (n:=10) (S:=fun _ => True) (ds:=[]) #[false,false,false,false,false,false,false,false,false,false] (by kernel_rfl) rfl rfl trivial (fun hHeld => ?_)
 have n0_:=Aside0.mk (below_drew1 HB.out)
 have n1_:=Aside0.mk (show w7.drew.heap[g]? = _ from HG.out)
 clear HB HG
 have HB:=n0_
 have HG:=n1_
 clear n0_ n1_
 generalize w7.drew = w8 at HB HG ⊢
 refine st0_ [.p 0 38,.p 1 39,.p 2 40,.p 3 41,.p 4 42,.p 5 43,.p 6 44] 7 127 10 rfl hHeld (a':=?_) ?_ rfl (by kernel_rfl) (fun _ _ _ _ h => h) ?_
 rotate_left
 ·repeat (first|exact Steps.nil|(refine Steps.p (oi:=?_) (v:=?_) (a1:=?_) ?_ ?_ ?_ ?_ ?_;rotate_left 2;rfl;rfl;(refine Or.inl ⟨by rfl,?_⟩;intro w';go_simp;with_reducible rfl);rotate_left;(simp only [Act.put,List.setIfInBounds_toArray,List.set_cons_zero,List.set_cons_succ,i64_w,i32_w];rfl)))
 refine one_ (i:=7) (N:=some 45) (mk 10 255) rfl rfl (by kernel_rfl) (by decide) (fun K hK => ?_)
 refine step_copy_splice rfl (.tmp 41) (.tmp 44) 23 23 rfl 3 Tryz.underlying23 (by kernel_rfl) (some ⟨g,2,none⟩) (some ⟨g,0,none⟩) 2 (cap - 2) 2 cap rfl rfl g 2 _ 3 HG.out [.int .i64 x,.int .i64 x] rfl (fun _ => ⟨rfl,_,rfl,?src⟩) ?fit (by simp [Value.oneCell']) _ _ HB.out hbg ?_
 case src =>
  intro j v hj
  match j,hj with
  | 0,hj => obtain rfl:=Option.some.inj hj;exact (blk_cell HG.out 0).trans rfl
  | 1,hj => obtain rfl:=Option.some.inj hj;exact (blk_cell HG.out 1).trans rfl
  | j + 2,hj => simp at hj
 case fit => simp [splice]
 intro w9 hg7 hb7
 have n0_:=Aside0.mk hg7
 clear HG HB
 have HG:=n0_
 have HB:=Aside0.mk hb7
 clear n0_ hg7 hb7
 refine hK.out _ _ trivial (fun hHeld => ?_)
 refine norm_ (a':=?_) ?_ ?_
 rotate_left
 ·show Act.put _ (some 45) _ = _
  simp only [Act.put,List.setIfInBounds_toArray,List.set_cons_zero,List.set_cons_succ,i64_w,i32_w]
  rfl
 refine st0_ [.p 8 46,.p 9 8] 2 1023 10 rfl hHeld (a':=?_) ?_ rfl (by kernel_rfl) (fun _ _ _ _ h => h) ?_
 rotate_left
 ·repeat (first|exact Steps.nil|(refine Steps.p (oi:=?_) (v:=?_) (a1:=?_) ?_ ?_ ?_ ?_ ?_;rotate_left 2;rfl;rfl;(refine Or.inl ⟨by rfl,?_⟩;intro w';go_simp;with_reducible rfl);rotate_left;(simp only [Act.put,List.setIfInBounds_toArray,List.set_cons_zero,List.set_cons_succ,i64_w,i32_w];rfl)))
 refine done_ (by kernel_rfl) ?_
 (try simp only [hw4])
 go_wp2
 rw [rounds_succ]
 go_wp2
 go_ret
 exact ⟨_,rfl,slices_Repeat_int_int.row (xs:=[x,x,x,x]) (rest:=rest) hbg hcap hcm hrl HG.out,HB.out⟩
theorem slices_Repeat_int_int.calls (A0 : Option Addr) (c0 : Nat) (l0 : List Int) (a1 : Int) (r : List Int) (w : World) (hr0 : Kd.C (Kd.int .i64) w A0 l0.length l0) (hc0 : l0.length ≤ c0) (h : slices_Repeat_int_int.f l0 a1 = some r) :
  Calls Tryz.prog 79 #[.slice A0 l0.length c0,.int .i64 a1] w fun e w' => ∃ v0_ : Value,e = .returned (v0_) ∧ Kd.R (Kd.int .i64) 3 w' w.heap.size (fun _ => True) v0_ r ∧ Below w.heap.size w w':=by
 unfold slices_Repeat_int_int.f at h
 by_cases g : l0.length = 1 ∧ 1 ≤ a1 ∧ a1 ≤ 4
 ·rw [if_pos g] at h
  obtain rfl:=Option.some.inj h
  obtain ⟨g1,g2,g3⟩:=g
  obtain ⟨ad,rfl,hx⟩:=Kd.at_int hr0 0 (by omega) (by omega)
  rw [g1]
  have ha : a1 = 1 ∨ a1 = 2 ∨ a1 = 3 ∨ a1 = 4:=by omega
  rcases ha with rfl|rfl|rfl|rfl
  ·exact slices_Repeat_int_int.n1 ad c0 (rd l0 0) w hx
  ·exact slices_Repeat_int_int.n2 ad c0 (rd l0 0) w hx
  ·exact slices_Repeat_int_int.n3 ad c0 (rd l0 0) w hx
  ·exact slices_Repeat_int_int.n4 ad c0 (rd l0 0) w hx
 ·rw [if_neg g] at h
  cases h
end Go.Proofs.YthnjbjihphbcpaaGreat.X
end
section
namespace Go.Proofs
open Go.Shelf
def Tryz.laySortI_ren : Go.Shelf.Ren:=⟨fun | 5 => 106 | 8 => 130 | 7 => 129 | 19 => 152 | 20 => 153 | 10 => 143 | 11 => 144 | 12 => 145 | 13 => 146 | 14 => 147 | 15 => 148 | 16 => 149 | 17 => 150 | 18 => 151 | 30 => 167 | 31 => 168 | 32 => 169 | 33 => 170 | 34 => 171 | 35 => 135 | 40 => 178|n => n,fun | 23 => 23 | 25 => 3 | 3 => 3 | 32 => 114 | 22 => 23 | 0 => 0 | 44 => 134 | 46 => 137 | 4 => 4 | 36 => 143 | 35 => 142 | 41 => 148 | 5 => 5 | 9 => 9 | 53 => 161 | 57 => 165 | 63 => 172 | 64 => 173|n => n,fun|n => n⟩
theorem Tryz.laySortI : Go.Proofs.SlLaysM.n5 Tryz.prog Tryz.laySortI_ren:={
 mixed:=by kernel_rfl
 f5:=⟨Tryz.f106.name,by decide,Tryz.func106.trans (congrArg some (by kernel_rfl))⟩
 f7:=⟨Tryz.f129.name,by decide,Tryz.func129.trans (congrArg some (by kernel_rfl))⟩
 f8:=Tryz.func130.trans (congrArg some (by kernel_rfl))
 f10:=⟨Tryz.f143.name,by decide,Tryz.func143.trans (congrArg some (by kernel_rfl))⟩
 f11:=⟨Tryz.f144.name,by decide,Tryz.func144.trans (congrArg some (by kernel_rfl))⟩
 f12:=⟨Tryz.f145.name,by decide,Tryz.func145.trans (congrArg some (by kernel_rfl))⟩
 f13:=⟨Tryz.f146.name,by decide,Tryz.func146.trans (congrArg some (by kernel_rfl))⟩
 f14:=⟨Tryz.f147.name,by decide,Tryz.func147.trans (congrArg some (by kernel_rfl))⟩
 f15:=⟨Tryz.f148.name,by decide,Tryz.func148.trans (congrArg some (by kernel_rfl))⟩
 f16:=⟨Tryz.f149.name,by decide,Tryz.func149.trans (congrArg some (by kernel_rfl))⟩
 f17:=⟨Tryz.f150.name,by decide,Tryz.func150.trans (congrArg some (by kernel_rfl))⟩
 f18:=⟨Tryz.f151.name,by decide,Tryz.func151.trans (congrArg some (by kernel_rfl))⟩
 f19:=Tryz.func152.trans (congrArg some (by kernel_rfl))
 f20:=Tryz.func153.trans (congrArg some (by kernel_rfl))
 f30:=⟨Tryz.f167.name,by decide,Tryz.func167.trans (congrArg some (by kernel_rfl))⟩
 f31:=Tryz.func168.trans (congrArg some (by kernel_rfl))
 f32:=Tryz.func169.trans (congrArg some (by kernel_rfl))
 f33:=⟨Tryz.f170.name,by decide,Tryz.func170.trans (congrArg some (by kernel_rfl))⟩
 f34:=⟨Tryz.f171.name,by decide,Tryz.func171.trans (congrArg some (by kernel_rfl))⟩
 f35:=⟨Tryz.f135.name,by decide,Tryz.func135.trans (congrArg some (by kernel_rfl))⟩
 f40:=⟨Tryz.f178.name,by decide,Tryz.func178.trans (congrArg some (by kernel_rfl))⟩
 t0:=Tryz.underlying0
 a0:=Tryz.isAgg0
 z0:=Tryz.sizeOf0
 v0:=Tryz.zeroValue0
 t3:=Tryz.underlying3
 a3:=Tryz.isAgg3
 z3:=Tryz.sizeOf3
 v3:=Tryz.zeroValue3
 t4:=Tryz.underlying4
 a4:=Tryz.isAgg4
 z4:=Tryz.sizeOf4
 v4:=Tryz.zeroValue4
 t5:=Tryz.underlying5
 a5:=Tryz.isAgg5
 z5:=Tryz.sizeOf5
 v5:=Tryz.zeroValue5
 t9:=Tryz.underlying9
 a9:=Tryz.isAgg9
 z9:=Tryz.sizeOf9
 v9:=Tryz.zeroValue9
 t22:=Tryz.underlying23
 a22:=Tryz.isAgg23
 z22:=Tryz.sizeOf23
 v22:=Tryz.zeroValue23
 t23:=Tryz.underlying23
 a23:=Tryz.isAgg23
 z23:=Tryz.sizeOf23
 v23:=Tryz.zeroValue23
 t25:=Tryz.underlying3
 a25:=Tryz.isAgg3
 z25:=Tryz.sizeOf3
 v25:=Tryz.zeroValue3
 t32:=Tryz.underlying114
 a32:=Tryz.isAgg114
 z32:=Tryz.sizeOf114
 v32:=Tryz.zeroValue114
 t35:=Tryz.underlying142
 a35:=Tryz.isAgg142
 z35:=Tryz.sizeOf142
 v35:=Tryz.zeroValue142
 t36:=Tryz.underlying143
 a36:=Tryz.isAgg143
 z36:=Tryz.sizeOf143
 v36:=Tryz.zeroValue143
 t41:=Tryz.underlying148
 a41:=Tryz.isAgg148
 z41:=Tryz.sizeOf148
 v41:=Tryz.zeroValue148
 t44:=Tryz.underlying134
 a44:=Tryz.isAgg134
 z44:=Tryz.sizeOf134
 v44:=Tryz.zeroValue134
 t46:=Tryz.underlying137
 a46:=Tryz.isAgg137
 z46:=Tryz.sizeOf137
 v46:=Tryz.zeroValue137
 t53:=Tryz.underlying161
 a53:=Tryz.isAgg161
 z53:=Tryz.sizeOf161
 v53:=Tryz.zeroValue161
 t57:=Tryz.underlying165
 a57:=Tryz.isAgg165
 z57:=Tryz.sizeOf165
 v57:=Tryz.zeroValue165
 t63:=Tryz.underlying172
 a63:=Tryz.isAgg172
 z63:=Tryz.sizeOf172
 v63:=Tryz.zeroValue172
 t64:=Tryz.underlying173
 a64:=Tryz.isAgg173
 z64:=Tryz.sizeOf173
 v64:=Tryz.zeroValue173 }
def Tryz.laySortT_ren : Go.Shelf.Ren:=⟨fun | 6 => 107 | 15 => 130 | 14 => 131 | 28 => 152 | 29 => 153 | 20 => 154 | 21 => 155 | 22 => 156 | 23 => 157 | 24 => 158 | 25 => 159 | 26 => 160 | 27 => 161 | 46 => 172 | 47 => 168 | 48 => 169 | 49 => 173 | 50 => 174 | 57 => 179|n => n,fun | 22 => 24 | 24 => 77 | 25 => 84 | 3 => 3 | 39 => 114 | 0 => 0 | 53 => 134 | 55 => 137 | 4 => 4 | 46 => 143 | 45 => 142 | 50 => 148 | 5 => 5 | 9 => 9 | 66 => 161 | 70 => 165 | 76 => 172 | 77 => 173|n => n,fun|n => n⟩
theorem Tryz.laySortT : Go.Proofs.SlLaysF0.n6 Tryz.prog Tryz.laySortT_ren:={
 mixed:=by kernel_rfl
 f6:=⟨Tryz.f107.name,by decide,Tryz.func107.trans (congrArg some (by kernel_rfl))⟩
 f14:=⟨Tryz.f131.name,by decide,Tryz.func131.trans (congrArg some (by kernel_rfl))⟩
 f15:=Tryz.func130.trans (congrArg some (by kernel_rfl))
 f20:=⟨Tryz.f154.name,by decide,Tryz.func154.trans (congrArg some (by kernel_rfl))⟩
 f21:=⟨Tryz.f155.name,by decide,Tryz.func155.trans (congrArg some (by kernel_rfl))⟩
 f22:=⟨Tryz.f156.name,by decide,Tryz.func156.trans (congrArg some (by kernel_rfl))⟩
 f23:=⟨Tryz.f157.name,by decide,Tryz.func157.trans (congrArg some (by kernel_rfl))⟩
 f24:=⟨Tryz.f158.name,by decide,Tryz.func158.trans (congrArg some (by kernel_rfl))⟩
 f25:=⟨Tryz.f159.name,by decide,Tryz.func159.trans (congrArg some (by kernel_rfl))⟩
 f26:=⟨Tryz.f160.name,by decide,Tryz.func160.trans (congrArg some (by kernel_rfl))⟩
 f27:=⟨Tryz.f161.name,by decide,Tryz.func161.trans (congrArg some (by kernel_rfl))⟩
 f28:=Tryz.func152.trans (congrArg some (by kernel_rfl))
 f29:=Tryz.func153.trans (congrArg some (by kernel_rfl))
 f46:=⟨Tryz.f172.name,by decide,Tryz.func172.trans (congrArg some (by kernel_rfl))⟩
 f47:=Tryz.func168.trans (congrArg some (by kernel_rfl))
 f48:=Tryz.func169.trans (congrArg some (by kernel_rfl))
 f49:=⟨Tryz.f173.name,by decide,Tryz.func173.trans (congrArg some (by kernel_rfl))⟩
 f50:=⟨Tryz.f174.name,by decide,Tryz.func174.trans (congrArg some (by kernel_rfl))⟩
 f57:=⟨Tryz.f179.name,by decide,Tryz.func179.trans (congrArg some (by kernel_rfl))⟩
 t0:=Tryz.underlying0
 a0:=Tryz.isAgg0
 z0:=Tryz.sizeOf0
 v0:=Tryz.zeroValue0
 t3:=Tryz.underlying3
 a3:=Tryz.isAgg3
 z3:=Tryz.sizeOf3
 v3:=Tryz.zeroValue3
 t4:=Tryz.underlying4
 a4:=Tryz.isAgg4
 z4:=Tryz.sizeOf4
 v4:=Tryz.zeroValue4
 t5:=Tryz.underlying5
 a5:=Tryz.isAgg5
 z5:=Tryz.sizeOf5
 v5:=Tryz.zeroValue5
 t9:=Tryz.underlying9
 a9:=Tryz.isAgg9
 z9:=Tryz.sizeOf9
 v9:=Tryz.zeroValue9
 t22:=Tryz.underlying24
 a22:=Tryz.isAgg24
 z22:=Tryz.sizeOf24
 v22:=Tryz.zeroValue24
 t25:=Tryz.underlying84
 a25:=Tryz.isAgg84
 z25:=Tryz.sizeOf84
 v25:=Tryz.zeroValue84
 t39:=Tryz.underlying114
 a39:=Tryz.isAgg114
 z39:=Tryz.sizeOf114
 v39:=Tryz.zeroValue114
 t45:=Tryz.underlying142
 a45:=Tryz.isAgg142
 z45:=Tryz.sizeOf142
 v45:=Tryz.zeroValue142
 t46:=Tryz.underlying143
 a46:=Tryz.isAgg143
 z46:=Tryz.sizeOf143
 v46:=Tryz.zeroValue143
 t50:=Tryz.underlying148
 a50:=Tryz.isAgg148
 z50:=Tryz.sizeOf148
 v50:=Tryz.zeroValue148
 t53:=Tryz.underlying134
 a53:=Tryz.isAgg134
 z53:=Tryz.sizeOf134
 v53:=Tryz.zeroValue134
 t55:=Tryz.underlying137
 a55:=Tryz.isAgg137
 z55:=Tryz.sizeOf137
 v55:=Tryz.zeroValue137
 t66:=Tryz.underlying161
 a66:=Tryz.isAgg161
 z66:=Tryz.sizeOf161
 v66:=Tryz.zeroValue161
 t70:=Tryz.underlying165
 a70:=Tryz.isAgg165
 z70:=Tryz.sizeOf165
 v70:=Tryz.zeroValue165
 t76:=Tryz.underlying172
 a76:=Tryz.isAgg172
 z76:=Tryz.sizeOf172
 v76:=Tryz.zeroValue172
 t77:=Tryz.underlying173
 a77:=Tryz.isAgg173
 z77:=Tryz.sizeOf173
 v77:=Tryz.zeroValue173 }
def Tryz.layCloneI_ren : Go.Shelf.Ren:=⟨fun | 41 => 104|n => n,fun | 22 => 23 | 23 => 3 | 4 => 4|n => n,fun|n => n⟩
theorem Tryz.layCloneI : Go.Proofs.SlLaysE0.n41 Tryz.prog Tryz.layCloneI_ren:={
 mixed:=by kernel_rfl
 f41:=⟨Tryz.f104.name,by decide,Tryz.func104.trans (congrArg some (by kernel_rfl))⟩
 t4:=Tryz.underlying4
 a4:=Tryz.isAgg4
 z4:=Tryz.sizeOf4
 v4:=Tryz.zeroValue4
 t22:=Tryz.underlying23
 a22:=Tryz.isAgg23
 z22:=Tryz.sizeOf23
 v22:=Tryz.zeroValue23 }
def Tryz.layCloneT_ren : Go.Shelf.Ren:=⟨fun | 41 => 105|n => n,fun | 22 => 24 | 23 => 77 | 4 => 4|n => n,fun|n => n⟩
theorem Tryz.layCloneT : Go.Proofs.SlLaysE0.n41 Tryz.prog Tryz.layCloneT_ren:={
 mixed:=by kernel_rfl
 f41:=⟨Tryz.f105.name,by decide,Tryz.func105.trans (congrArg some (by kernel_rfl))⟩
 t4:=Tryz.underlying4
 a4:=Tryz.isAgg4
 z4:=Tryz.sizeOf4
 v4:=Tryz.zeroValue4
 t22:=Tryz.underlying24
 a22:=Tryz.isAgg24
 z22:=Tryz.sizeOf24
 v22:=Tryz.zeroValue24 }
end Go.Proofs
end
