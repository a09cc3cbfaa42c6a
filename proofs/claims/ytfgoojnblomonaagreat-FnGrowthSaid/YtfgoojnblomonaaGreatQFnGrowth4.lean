import Derived.Test.YtfgoojnblomonaaGreatProg
import Derived.Below
import Derived.Deep.Draws
import Derived.Deep.AppendLies
import Derived.Maps.AppendAt
import Derived.OwnWalk
import Derived.Laws.BytesArg
import Derived.Laws.MakeOwn
import Derived.Laws.OwnMore
import Derived.Deep.OwnRows
import Derived.Tactics
import Derived.Lib.ConvBytes
import Derived.Laws.Slices
import Derived.WalkKit
import Derived.KernelRfl
import Derived.RowKit3
import Derived.Deep.LoopGhost
import Derived.Deep.QuietTactic
import Derived.BigQuiet
import Derived.WideLaws
import Derived.Deep.DeepCutAuto
import Derived.Deep.CutBlock
import Derived.Deep.RegionHeld3
import Derived.Laws.Rows
import Derived.Lib.AppendStr
import Derived.ArgAppend
import Derived.Laws.IdiomCopy
import Derived.OrdersHeld
import Derived.Laws.BitsLemmas
import Derived.RowKit
import Derived.Test.YtfgoojnblomonaaGreatQFnGrowth3
import Derived.Laws.StructEq
import Derived.Laws.CopyOwn
import Derived.LoopN
import Derived.Shelf.Strings.Builder1
import Derived.Shelf.Strings.Builder2
import Derived.Shelf.Small.Strs
import Derived.Shelf.Strings.BuilderF
import Derived.Shelf.Strings.Prefix
import Derived.Shelf.Bits.Mul64
import Derived.Shelf.Strings.Repeat
section
namespace Go.Proofs.YtfgoojnblomonaaGreat.X
open Go.RowKit Go.Proofs.YtfgoojnblomonaaGreatW.PrintWords Go.Proofs.YtfgoojnblomonaaGreatW.PrintLast Go.Proofs.YtfgoojnblomonaaGreatW.PrintMore
attribute [local go_sem] max2_int min2_int max_two min_two max_three min_three max_four min_four
set_option linter.unusedVariables false
set_option linter.unusedSimpArgs false
def FnAt (P : Program) (q : FuncId) : Prop := ∃ fn,P.funcs[q]? = some fn ∧ (fn.name == "runtime.NumGoroutine") = false ∧ fn.body.isSome = true
section
variable {P : Program} {ops : Array Oper} {Q : Exit → Act → World → Prop}
theorem gate_dyn {rest : List Oper} {o : Oper} {a : Act} {W : World} {t : Tmp} {os : Array Operand} {ts : Array TypeId} (_ho : o.op = .call { callee:=.value (.tmp t),args:=os,argTypes:=ts }) (h : wpList P ops Q (o :: rest) a W) : wpList P ops Q (o :: rest) a W:=h
theorem goesLD_ {rest : List Oper} {oi : Oper} {a : Act} {w : World} (N : Option Tmp) (hd : oi.dst = N) (hg : oi.guard = none) {q : FuncId} (hq : FnAt P q) {os : Array Operand} {ts : Array TypeId} {t : Tmp} {Fb C : Array Value} (xs : Array Value)
  (hop : oi.op = .call { callee:=.value (.tmp t),args:=os,argTypes:=ts }) (hv : a.eval (.tmp t) = .func (.func q) Fb C) (hargs : os.map a.eval = xs)
  (h : Calls P q (Fb ++ xs ++ C) w fun e w' => ∃ v,e = .returned v ∧ wpList P ops Q rest (a.put N v) w') : wpList P ops Q (oi :: rest) a w:=by
 obtain ⟨fn,hf,hname,hb⟩:=hq
 refine wpList_plain hg fun K hK => ?_
 have he:=enters_ hf hname hb (Fb ++ xs ++ C) w
 have hrun : (execOp a.eval oi).run P w = .ok (.enter q (Fb ++ xs ++ C)) w:=by
  unfold execOp
  simp [hop,resolve,Deferred.ofValue,invoke,hv,hargs]
  rw [← Array.append_assoc];exact he
 unfold Oper.wp
 rw [hrun,Oper.upon_enter]
 refine h.mono fun e w'' hh => ?_
 obtain ⟨v,rfl,hk⟩:=hh
 subst hd
 exact hK _ _ hk
theorem goesD_ {oi : Oper} {N : Option Tmp} {a : Act} {w : World} {K : Act → World → Prop} {q : FuncId} (hq : FnAt P q) {os : Array Operand} {ts : Array TypeId} {t : Tmp} {Fb C : Array Value} (xs : Array Value)
  (hw : Region.wanted oi (yielded ops a.tmps) = true) (hN : oi.dst = N) (hop : oi.op = .call { callee:=.value (.tmp t),args:=os,argTypes:=ts }) (hv : a.eval (.tmp t) = .func (.func q) Fb C) (hargs : os.map a.eval = xs)
  (h : Calls P q (Fb ++ xs ++ C) w fun e w' => ∃ v,e = .returned v ∧ K (a.put N v) w') : if Region.wanted oi (yielded ops a.tmps) = true then Oper.wp P oi a w K Q else K (a.put N undef) w:=by
 obtain ⟨fn,hf,hname,hb⟩:=hq
 have he:=enters_ hf hname hb (Fb ++ xs ++ C) w
 refine call_ q (Fb ++ xs ++ C) hw hN ?_ h
 unfold execOp
 simp [hop,resolve,Deferred.ofValue,invoke,hv,hargs]
 rw [← Array.append_assoc];exact he
end
end Go.Proofs.YtfgoojnblomonaaGreat.X
end
section
namespace Go.Proofs.YtfgoojnblomonaaGreat.X
open Go.RowKit Go.Proofs.YtfgoojnblomonaaGreatW.PrintWords Go.Proofs.YtfgoojnblomonaaGreatW.PrintLast Go.Proofs.YtfgoojnblomonaaGreatW.PrintMore
attribute [local go_sem] max2_int min2_int max_two min_two max_three min_three max_four min_four
set_option linter.unusedVariables false
set_option linter.unusedSimpArgs false
def errW : Option Int → Value
 | none => .nilIface
 | some c => .iface 0 (.int .i64 c)
theorem errW_none : errW none = .nilIface:=rfl
theorem errW_some (c : Int) : errW (some c) = .iface 0 (.int .i64 c):=rfl
theorem info3 : (Tryz.prog.info? 3).map (fun i => (i.zero,i.size,i.bytes)) = some (some (.int .i64 0),1,8):=by kernel_rfl
theorem info5 : (Tryz.prog.info? 5).map (fun i => (i.zero,i.size,i.bytes)) = some (some (.int .u8 0),1,1):=by kernel_rfl
theorem info9 : (Tryz.prog.info? 9).map (fun i => (i.zero,i.size,i.bytes)) = some (some (.string ⟨#[]⟩),1,16):=by kernel_rfl
theorem info23 : (Tryz.prog.info? 23).map (fun i => (i.zero,i.size,i.bytes)) = some (some (.slice none 0 0),1,24):=by kernel_rfl
theorem info75 : (Tryz.prog.info? 75).map (fun i => (i.zero,i.size,i.bytes)) = some (some (.agg #[(.int .i64 0),(.string ⟨#[]⟩),(.int .i64 0),(.int .i64 0)]),4,40):=by kernel_rfl
theorem info78 : (Tryz.prog.info? 78).map (fun i => (i.zero,i.size,i.bytes)) = some (some (.agg #[(.string ⟨#[]⟩),(.slice none 0 0)]),2,40):=by kernel_rfl
structure S75 where
 f0 : Int
 f1 : ByteArray
 f2 : Int
 f3 : Int
def z75 : S75:=⟨(0 : Int),(⟨#[]⟩ : ByteArray),(0 : Int),(0 : Int)⟩
def k75 : Kd S75:=Kd.iso (Kd.pair (Kd.int .i64) (Kd.pair Kd.string (Kd.pair (Kd.int .i64) (Kd.int .i64)))) (fun x : S75 => (x.f0,x.f1,x.f2,x.f3))
theorem k75_open {w : World} {x : S75} {cs : List Value} (h : k75.K w x cs) : cs = [.int .i64 x.f0,.string x.f1,.int .i64 x.f2,.int .i64 x.f3]:=by
 obtain ⟨_,_,rfl,rfl,⟨_,_,rfl,rfl,⟨_,_,rfl,rfl,rfl⟩⟩⟩:=h
 exact rfl
theorem k75_openM {w : World} {base : Nat} {ok : Nat → Prop} {x : S75} {cs : List Value} (h : k75.M w base ok x cs) : cs = [.int .i64 x.f0,.string x.f1,.int .i64 x.f2,.int .i64 x.f3]:=by
 obtain ⟨_,_,rfl,rfl,⟨_,_,rfl,rfl,⟨_,_,rfl,rfl,rfl⟩⟩⟩:=h
 exact rfl
theorem k75_mk (w : World) (x : S75)  : k75.K w x [.int .i64 x.f0,.string x.f1,.int .i64 x.f2,.int .i64 x.f3]:=⟨[.int .i64 x.f0],[.string x.f1,.int .i64 x.f2,.int .i64 x.f3],rfl,rfl,⟨[.string x.f1],[.int .i64 x.f2,.int .i64 x.f3],rfl,rfl,⟨[.int .i64 x.f2],[.int .i64 x.f3],rfl,rfl,rfl⟩⟩⟩
theorem k75_mkM (w : World) (base : Nat) (ok : Nat → Prop) (x : S75)  : k75.M w base ok x [.int .i64 x.f0,.string x.f1,.int .i64 x.f2,.int .i64 x.f3]:=⟨[.int .i64 x.f0],[.string x.f1,.int .i64 x.f2,.int .i64 x.f3],rfl,rfl,⟨[.string x.f1],[.int .i64 x.f2,.int .i64 x.f3],rfl,rfl,⟨[.int .i64 x.f2],[.int .i64 x.f3],rfl,rfl,rfl⟩⟩⟩
theorem k75_mkF (W : World) (ok : Nat → Prop) (x : S75) : Kd.FK k75 W ok x [.int .i64 x.f0,.string x.f1,.int .i64 x.f2,.int .i64 x.f3]:=fun W2 _ => k75_mk W2 x
def rd_T75 (xs : List S75) (i : Int) : S75:=xs.getD i.toNat z75
theorem at_T75 {w : World} {A : Option Addr} {n : Nat} {xs : List S75} (h : Kd.C k75 w A n xs) (i : Int) (h0 : 0 ≤ i) (h1 : i < n) : ∃ ad , A = some ad ∧ w.cell? (ad.add (i.toNat * 4)) = some (.int .i64 (rd_T75 xs i).f0) ∧ w.cell? ⟨(ad.add (i.toNat * 4)).block,(ad.add (i.toNat * 4)).off + 1,none⟩ = some (.string (rd_T75 xs i).f1) ∧ w.cell? ⟨(ad.add (i.toNat * 4)).block,(ad.add (i.toNat * 4)).off + 2,none⟩ = some (.int .i64 (rd_T75 xs i).f2) ∧ w.cell? ⟨(ad.add (i.toNat * 4)).block,(ad.add (i.toNat * 4)).off + 3,none⟩ = some (.int .i64 (rd_T75 xs i).f3):=by
 obtain ⟨ad,c,e,_,hK,hc0⟩:=Kd.C_get h z75 i h0 h1
 have hc : ∀ j u,c[j]? = some u → w.cell? (ad.add (i.toNat * 4 + j)) = some u:=hc0
 obtain rfl:=k75_open hK
 exact ⟨ad,e,hc 0 _ rfl,by rw [← add_field _ _ 1 (by omega)];exact hc 1 _ rfl,by rw [← add_field _ _ 2 (by omega)];exact hc 2 _ rfl,by rw [← add_field _ _ 3 (by omega)];exact hc 3 _ rfl⟩
structure S78 where
 f0 : ByteArray
 f1 : (List S78)
def z78 : S78:=⟨(⟨#[]⟩ : ByteArray),([] : List S78)⟩
def F78 (d : Kd S78) : Kd S78:=Kd.iso (Kd.pair Kd.string (Kd.slice 78 d)) (fun x : S78 => (x.f0,x.f1))
theorem mono78 : Kd.Mono F78:=Kd.mono_iso _ (Kd.mono_pair (Kd.mono_const _) (Kd.mono_slice 78 Kd.mono_id))
theorem sub78 : Kd.Sub F78 [78]:=Kd.sub_iso _ (Kd.sub_pair (Kd.sub_const _ (by decide)) (Kd.sub_slice 78 (by decide) Kd.sub_id))
theorem sz78 : ∀ n,(Kd.upto F78 2 [78] n).sz = 2:=Kd.upto_sz (fun _ => rfl)
def k78 : Kd S78:=Kd.fix F78 2 [78] sz78 (Kd.upto_E sub78)
theorem k78_open {w : World} {x : S78} {cs : List Value} (h : k78.K w x cs) : ∃ A1 c1,cs = [.string x.f0,.slice A1 x.f1.length c1] ∧ x.f1.length ≤ c1 ∧ k78.C w A1 x.f1.length x.f1:=by
 obtain ⟨n,h⟩:=h
 cases n with
 | zero => exact h.elim
 | succ n =>
  obtain ⟨_,_,rfl,rfl,⟨A1,c1,rfl,l1,g1⟩⟩:=h
  exact ⟨A1,c1,rfl,l1,Kd.fix_C g1⟩
theorem k78_openM {w : World} {base : Nat} {ok : Nat → Prop} {x : S78} {cs : List Value} (h : k78.M w base ok x cs) : ∃ v1,cs = [.string x.f0,v1] ∧ k78.R 78 w base ok v1 x.f1:=by
 obtain ⟨n,h⟩:=h
 cases n with
 | zero => exact h.elim
 | succ n =>
  obtain ⟨_,_,rfl,rfl,⟨v1,rfl,g1⟩⟩:=h
  exact ⟨v1,rfl,Kd.fix_R g1⟩
theorem k78_mk (w : World) (x : S78) {A1 : Option Addr} {c1 : Nat} (l1 : x.f1.length ≤ c1) (g1 : k78.C w A1 x.f1.length x.f1) : k78.K w x [.string x.f0,.slice A1 x.f1.length c1]:=by
 obtain ⟨n1,q1⟩:=Kd.fix_C_back mono78 g1
 have r1:=Kd.upto_C_le mono78 sz78 (show n1 ≤ n1 by omega) q1
 exact ⟨n1 + 1,⟨[.string x.f0],[.slice A1 x.f1.length c1],rfl,rfl,⟨A1,c1,rfl,l1,r1⟩⟩⟩
theorem k78_mkM (w : World) (base : Nat) (ok : Nat → Prop) (x : S78) {v1 : Value} (g1 : k78.R 78 w base ok v1 x.f1) : k78.M w base ok x [.string x.f0,v1]:=by
 obtain ⟨n1,q1⟩:=Kd.fix_R_back mono78 g1
 have r1:=Kd.upto_R_le mono78 sz78 (show n1 ≤ n1 by omega) q1
 exact ⟨n1 + 1,⟨[.string x.f0],[v1],rfl,rfl,⟨v1,rfl,r1⟩⟩⟩
theorem k78_openF {W : World} {ok : Nat → Prop} {x : S78} {cs : List Value} (h : Kd.FK k78 W ok x cs) : ∃ A1 c1,cs = [.string x.f0,.slice A1 x.f1.length c1] ∧ x.f1.length ≤ c1 ∧ Kd.F k78 W ok A1 x.f1.length x.f1:=by
 obtain ⟨A1,c1,rfl,l1,_⟩:=k78_open (Kd.FK_now h)
 exact ⟨A1,c1,rfl,l1,(fun W' hW => by obtain ⟨A1_,c1_,he,l1_,g1_⟩:=k78_open (h W' hW);injection (Option.some.inj (show some (Value.slice A1 x.f1.length c1) = some (Value.slice A1_ x.f1.length c1_) from congrArg (fun l => l[1]?) he)) with ha_ _ _;rw [ha_];exact g1_)⟩
theorem k78_mkF (W : World) (ok : Nat → Prop) (x : S78) {A1 : Option Addr} {c1 : Nat} (l1 : x.f1.length ≤ c1) (g1 : Kd.F k78 W ok A1 x.f1.length x.f1) : Kd.FK k78 W ok x [.string x.f0,.slice A1 x.f1.length c1]:=fun W2 hW => k78_mk W2 x l1 (g1 W2 hW)
def rd_T78 (xs : List S78) (i : Int) : S78:=xs.getD i.toNat z78
theorem at_T78 {w : World} {A : Option Addr} {n : Nat} {xs : List S78} (h : Kd.C k78 w A n xs) (i : Int) (h0 : 0 ≤ i) (h1 : i < n) : ∃ ad A1 c1,A = some ad ∧ w.cell? (ad.add (i.toNat * 2)) = some (.string (rd_T78 xs i).f0) ∧ w.cell? ⟨(ad.add (i.toNat * 2)).block,(ad.add (i.toNat * 2)).off + 1,none⟩ = some (.slice A1 (rd_T78 xs i).f1.length c1) ∧ (rd_T78 xs i).f1.length ≤ c1 ∧ k78.C w A1 (rd_T78 xs i).f1.length (rd_T78 xs i).f1:=by
 obtain ⟨ad,c,e,_,hK,hc0⟩:=Kd.C_get h z78 i h0 h1
 have hc : ∀ j u,c[j]? = some u → w.cell? (ad.add (i.toNat * 2 + j)) = some u:=hc0
 obtain ⟨A1,c1,rfl,l1,g1⟩:=k78_open hK
 exact ⟨ad,A1,c1,e,hc 0 _ rfl,by rw [← add_field _ _ 1 (by omega)];exact hc 1 _ rfl,l1,g1⟩
def rd_L5 (xs : List (List Int)) (i : Int) : (List Int):=xs.getD i.toNat ([] : List Int)
theorem at_L5 {w : World} {A : Option Addr} {n : Nat} {xs : List (List Int)} (h : Kd.C (Kd.slice 3 (Kd.int .i64)) w A n xs) (i : Int) (h0 : 0 ≤ i) (h1 : i < n) : ∃ ad A0 c0,A = some ad ∧ w.cell? (ad.add i.toNat) = some (.slice A0 (rd_L5 xs i).length c0) ∧ (rd_L5 xs i).length ≤ c0 ∧ (Kd.int .i64).C w A0 (rd_L5 xs i).length (rd_L5 xs i):=by
 obtain ⟨ad,c,e,_,hK,hc0⟩:=Kd.C_get h ([] : List Int) i h0 h1
 have hc : ∀ j u,c[j]? = some u → w.cell? (ad.add (i.toNat * 1 + j)) = some u:=hc0
 obtain ⟨A0,c0,rfl,l0,g0⟩:=hK
 exact ⟨ad,A0,c0,e,by have hq:=hc 0 _ rfl;rwa [Nat.mul_one,Nat.add_zero] at hq,l0,g0⟩
end Go.Proofs.YtfgoojnblomonaaGreat.X
end
section
namespace Go.Proofs.YtfgoojnblomonaaGreat.X
open Go.RowKit Go.Proofs.YtfgoojnblomonaaGreatW.PrintWords Go.Proofs.YtfgoojnblomonaaGreatW.PrintLast Go.Proofs.YtfgoojnblomonaaGreatW.PrintMore
attribute [local go_sem] max2_int min2_int max_two min_two max_three min_three max_four min_four
set_option linter.unusedVariables false
set_option linter.unusedSimpArgs false
section
variable {P : Program} {ops : Array Oper} {Q : Exit → Act → World → Prop} {S : World → Prop} {ds : List Nat}
def mk (n b : Nat) : Array Bool:=((List.range n).map fun i => b.testBit i).toArray
inductive Seg where
 | p : Nat → Nat → Seg
 | t : Nat → Nat → Seg
 | u : Nat → Nat → Seg
inductive Steps (P : Program) (ops : Array Oper) (S : World → Prop) : List Seg → Act → Act → Prop
 | nil {a : Act} : Steps P ops S [] a a
 | p {i : Nat} {is : List Seg} {N : Nat} {oi : Oper} {v : Value} {a : Act} (hi : ops[i]? = some oi) (hN : oi.dst = some N) (hy : Yields P ops oi v a) {a1 a2 : Act} (ha : a.put (some N) v = a1) (hs : Steps P ops S is a1 a2) : Steps P ops S (.p i N :: is) a a2
 | u {i : Nat} {is : List Seg} {N : Nat} {oi : Oper} {a : Act} (hi : ops[i]? = some oi) (hN : oi.dst = some N) (hy : Yields P ops oi undef a) {a1 a2 : Act} (ha : a.put (some N) undef = a1) (hs : Steps P ops S is a1 a2) : Steps P ops S (.u i N :: is) a a2
 | t {i : Nat} {is : List Seg} {N : Nat} {oi : Oper} {v : Value} {a : Act} (hi : ops[i]? = some oi) (hN : oi.dst = some N) (hy : YieldsIf P ops S oi v a) {a1 a2 : Act} (ha : a.put (some N) v = a1) (hs : Steps P ops S is a1 a2) : Steps P ops S (.t i N :: is) a a2
def chk (T : Bool × List (List Nat × List Nat)) (ds : List Nat) : List Seg → List Bool → List Bool → Bool
 | [],l,l' => l == l'
 | .p i _ :: r,l,l' => anyT T l (l.set i true) i && chk T ds r (l.set i true) l'
 | .u i _ :: r,l,l' => anyT T l (l.set i true) i && chk T ds r (l.set i true) l'
 | .t i _ :: r,l,l' => takeT T ds l (l.set i true) i && chk T ds r (l.set i true) l'
def chkW (T : Bool × List (List Nat × List Nat)) (B ds : List Nat) : List Seg → List Bool → List Bool → Bool
 | [],l,l' => l == l'
 | .p i _ :: r,l,l' => anyT T l (l.set i true) i && chkW T B ds r (l.set i true) l'
 | .u i _ :: r,l,l' => anyT T l (l.set i true) i && chkW T B ds r (l.set i true) l'
 | .t i _ :: r,l,l' => takeW T B ds l (l.set i true) i && chkW T B ds r (l.set i true) l'
theorem hQput (hQ : ∀ c (a : Act) t w,Q (.panic c) { a with tmps:=t } w → Q (.panic c) a w) {N : Option Tmp} {v : Value} : ∀ c (a : Act) w,Q (.panic c) (a.put N v) w → Q (.panic c) a w:=fun c a w h => by
 cases N with
 | none => exact h
 | some d => exact hQ c a _ w h
theorem steps0_ {T : Bool × List (List Nat × List Nat)} (HT : rtab .any ops = T) (hQ : ∀ c (a : Act) t w,Q (.panic c) { a with tmps:=t } w → Q (.panic c) a w) {w : World} (hS : S w) {l' : Array Bool} {a' : Act} {fuel : Nat}
  (h : wpAnyLast P .any ops Q S ds fuel l' a' w) : ∀ {is : List Seg} {l : Array Bool} {a : Act},Steps P ops S is a a' → chk T ds is l.toList l'.toList = true → wpAnyLast P .any ops Q S ds (fuel + is.length) l a w
 | [],l,a,hst,hc => by
  cases hst
  simp only [chk,beq_iff_eq] at hc
  have e : l = l':=Array.ext' hc
  subst e
  exact h
 | .p i _ :: r,l,a,hst,hc => by
  cases hst with
  | p hi hN hy ha hs =>
  simp only [chk,Bool.and_eq_true] at hc
  refine pure_ (i:=i) (l:=l) (l.setIfInBounds i true) hi hN (any_of HT ?_) (hQput hQ) hy ha (steps0_ HT hQ hS h hs ?_)
  ·rw [Array.toList_setIfInBounds];exact hc.1
  ·rw [Array.toList_setIfInBounds];exact hc.2
 | .u i _ :: r,l,a,hst,hc => by
  cases hst with
  | u hi hN hy ha hs =>
  simp only [chk,Bool.and_eq_true] at hc
  refine pure_ (i:=i) (l:=l) (l.setIfInBounds i true) hi hN (any_of HT ?_) (hQput hQ) hy ha (steps0_ HT hQ hS h hs ?_)
  ·rw [Array.toList_setIfInBounds];exact hc.1
  ·rw [Array.toList_setIfInBounds];exact hc.2
 | .t i _ :: r,l,a,hst,hc => by
  cases hst with
  | t hi hN hy ha hs =>
  simp only [chk,Bool.and_eq_true] at hc
  refine take_ (i:=i) (l:=l) (l.setIfInBounds i true) hi hN (take_of HT ?_) (hQput hQ) hy hS ha (steps0_ HT hQ hS h hs ?_)
  ·rw [Array.toList_setIfInBounds];exact hc.1
  ·rw [Array.toList_setIfInBounds];exact hc.2
theorem stepsW_ {T : Bool × List (List Nat × List Nat)} {B : List Nat} (HT : rtab .any ops = T) (HW : waitsOk T.2 B = true) (hQ : ∀ c (a : Act) t w,Q (.panic c) { a with tmps:=t } w → Q (.panic c) a w) {w : World} (hS : S w) {l' : Array Bool} {a' : Act} {fuel : Nat}
  (h : wpAnyLast P .any ops Q S ds fuel l' a' w) : ∀ {is : List Seg} {l : Array Bool} {a : Act},Steps P ops S is a a' → chkW T B ds is l.toList l'.toList = true → wpAnyLast P .any ops Q S ds (fuel + is.length) l a w
 | [],l,a,hst,hc => by
  cases hst
  simp only [chkW,beq_iff_eq] at hc
  have e : l = l':=Array.ext' hc
  subst e
  exact h
 | .p i _ :: r,l,a,hst,hc => by
  cases hst with
  | p hi hN hy ha hs =>
  simp only [chkW,Bool.and_eq_true] at hc
  refine pure_ (i:=i) (l:=l) (l.setIfInBounds i true) hi hN (any_of HT ?_) (hQput hQ) hy ha (stepsW_ HT HW hQ hS h hs ?_)
  ·rw [Array.toList_setIfInBounds];exact hc.1
  ·rw [Array.toList_setIfInBounds];exact hc.2
 | .u i _ :: r,l,a,hst,hc => by
  cases hst with
  | u hi hN hy ha hs =>
  simp only [chkW,Bool.and_eq_true] at hc
  refine pure_ (i:=i) (l:=l) (l.setIfInBounds i true) hi hN (any_of HT ?_) (hQput hQ) hy ha (stepsW_ HT HW hQ hS h hs ?_)
  ·rw [Array.toList_setIfInBounds];exact hc.1
  ·rw [Array.toList_setIfInBounds];exact hc.2
 | .t i _ :: r,l,a,hst,hc => by
  cases hst with
  | t hi hN hy ha hs =>
  simp only [chkW,Bool.and_eq_true] at hc
  refine take_ (i:=i) (l:=l) (l.setIfInBounds i true) hi hN (take_ofW HT HW ?_) (hQput hQ) hy hS ha (stepsW_ HT HW hQ hS h hs ?_)
  ·rw [Array.toList_setIfInBounds];exact hc.1
  ·rw [Array.toList_setIfInBounds];exact hc.2
theorem st0_ {T : Bool × List (List Nat × List Nat)} (is : List Seg) (n b m : Nat) (HT : rtab .any ops = T) {w : World} (hS : S w) {a a' : Act} {fuel : Nat} {l : Array Bool} (hst : Steps P ops S is a a') (hn : is.length = n) (hc : chk T ds is l.toList (mk m b).toList = true) (hQ : ∀ c (a : Act) t w,Q (.panic c) { a with tmps:=t } w → Q (.panic c) a w)
  (h : wpAnyLast P .any ops Q S ds fuel (mk m b) a' w) : wpAnyLast P .any ops Q S ds (fuel + n) l a w:=by
 subst hn
 exact steps0_ HT hQ hS h hst hc
theorem stW_ {T : Bool × List (List Nat × List Nat)} {B : List Nat} (is : List Seg) (n b m : Nat) (HT : rtab .any ops = T) (HW : waitsOk T.2 B = true) {w : World} (hS : S w) {a a' : Act} {fuel : Nat} {l : Array Bool} (hst : Steps P ops S is a a') (hn : is.length = n) (hc : chkW T B ds is l.toList (mk m b).toList = true) (hQ : ∀ c (a : Act) t w,Q (.panic c) { a with tmps:=t } w → Q (.panic c) a w)
  (h : wpAnyLast P .any ops Q S ds fuel (mk m b) a' w) : wpAnyLast P .any ops Q S ds (fuel + n) l a w:=by
 subst hn
 exact stepsW_ HT HW hQ hS h hst hc
end
end Go.Proofs.YtfgoojnblomonaaGreat.X
end
section
namespace Go.Proofs.YtfgoojnblomonaaGreat.X
open Go.RowKit Go.Proofs.YtfgoojnblomonaaGreatW.PrintWords Go.Proofs.YtfgoojnblomonaaGreatW.PrintLast Go.Proofs.YtfgoojnblomonaaGreatW.PrintMore
attribute [local go_sem] max2_int min2_int max_two min_two max_three min_three max_four min_four
set_option linter.unusedVariables false
set_option linter.unusedSimpArgs false
def bits_Mul64.f (a0 : Int) (a1 : Int) : Option (Int × Int):=some (IntKind.u64.wrap ((IntKind.u64.wrap ((IntKind.u64.wrap ((a0 / 4294967296) * (a1 / 4294967296))) + ((IntKind.u64.wrap ((IntKind.u64.wrap ((a0 / 4294967296) * (Go.bits .and .u64 a1 4294967295))) + ((IntKind.u64.wrap ((Go.bits .and .u64 a0 4294967295) * (Go.bits .and .u64 a1 4294967295))) / 4294967296))) / 4294967296))) + ((IntKind.u64.wrap ((Go.bits .and .u64 (IntKind.u64.wrap ((IntKind.u64.wrap ((a0 / 4294967296) * (Go.bits .and .u64 a1 4294967295))) + ((IntKind.u64.wrap ((Go.bits .and .u64 a0 4294967295) * (Go.bits .and .u64 a1 4294967295))) / 4294967296))) 4294967295) + (IntKind.u64.wrap ((Go.bits .and .u64 a0 4294967295) * (a1 / 4294967296))))) / 4294967296)),IntKind.u64.wrap (a0 * a1))
set_option maxHeartbeats 8000000 in
set_option maxRecDepth 100000 in
theorem bits_Mul64.calls (a0 : Int) (a1 : Int) (r1 : Int) (r2 : Int) (w : World) (h : bits_Mul64.f a0 a1 = some (r1,r2)) :
  Calls Tryz.prog 115 #[.int .u64 a0,.int .u64 a1] w fun e w' => e = .returned (.tuple #[.int .u64 r1,.int .u64 r2]) ∧ Drawn0 w w':=by
 have H : (some (IntKind.u64.wrap ((IntKind.u64.wrap ((IntKind.u64.wrap ((a0 / 4294967296) * (a1 / 4294967296))) + ((IntKind.u64.wrap ((IntKind.u64.wrap ((a0 / 4294967296) * (Go.bits .and .u64 a1 4294967295))) + ((IntKind.u64.wrap ((Go.bits .and .u64 a0 4294967295) * (Go.bits .and .u64 a1 4294967295))) / 4294967296))) / 4294967296))) + ((IntKind.u64.wrap ((Go.bits .and .u64 (IntKind.u64.wrap ((IntKind.u64.wrap ((a0 / 4294967296) * (Go.bits .and .u64 a1 4294967295))) + ((IntKind.u64.wrap ((Go.bits .and .u64 a0 4294967295) * (Go.bits .and .u64 a1 4294967295))) / 4294967296))) 4294967295) + (IntKind.u64.wrap ((Go.bits .and .u64 a0 4294967295) * (a1 / 4294967296))))) / 4294967296)),IntKind.u64.wrap (a0 * a1))) = some (r1,r2):=h
 clear h
 simp only [Option.some.injEq,Prod.mk.injEq] at H
 obtain ⟨rfl,rfl⟩:=H
 go_enter Tryz.func115,Tryz.ntmps115
 go_wp2
 go_ret2
 exact ⟨by first|rfl|(simp;done)|(simp [*];done),by repeat (first|exact Drawn0.refl _|apply Drawn0.step)⟩
end Go.Proofs.YtfgoojnblomonaaGreat.X
end
section
namespace Go.Proofs.YtfgoojnblomonaaGreat.X
open Go.RowKit Go.Proofs.YtfgoojnblomonaaGreatW.PrintWords Go.Proofs.YtfgoojnblomonaaGreatW.PrintLast Go.Proofs.YtfgoojnblomonaaGreatW.PrintMore
attribute [local go_sem] max2_int min2_int max_two min_two max_three min_three max_four min_four
set_option linter.unusedVariables false
set_option linter.unusedSimpArgs false
def bits_Mul.f (a0 : Int) (a1 : Int) : Option (Int × Int):=(bits_Mul64.f a0 a1).bind fun bt751 => (some (bt751.1,bt751.2))
set_option maxHeartbeats 8000000 in
set_option maxRecDepth 100000 in
theorem bits_Mul.calls (a0 : Int) (a1 : Int) (r1 : Int) (r2 : Int) (w : World) (h : bits_Mul.f a0 a1 = some (r1,r2)) :
  Calls Tryz.prog 99 #[.int .u64 a0,.int .u64 a1] w fun e w' => e = .returned (.tuple #[.int .u64 r1,.int .u64 r2]) ∧ Drawn0 w w':=by
 have H : ((bits_Mul64.f a0 a1).bind fun bt751 => (some (bt751.1,bt751.2))) = some (r1,r2):=h
 clear h
 replace H:=Option.bind_eq_some_iff.mp H
 obtain ⟨⟨t751,t752⟩,A30,H⟩:=H
 replace H : (some (t751,t752)) = some (r1,r2):=H
 have A3:=Aside0.mk A30
 clear A30
 simp only [Option.some.injEq,Prod.mk.injEq] at H
 obtain ⟨rfl,rfl⟩:=H
 go_enter Tryz.func99,Tryz.ntmps99
 go_wp2_with (first|((with_reducible refine gate_callee (f:=115) rfl ?_);refine goesL_ (some 25) rfl rfl Tryz.func115 (by kernel_rfl) rfl #[.int .u64 a0,.int .u64 a1] rfl (by (try simp only [List.map_toArray,List.map_cons,List.map_nil]);first|done|rfl|(simp only [List.length_drop,List.length_take];rfl)) ?_;(with_reducible refine (bits_Mul64.calls a0 a1 t751 t752 _ A3.out).mono ?_);rintro e w' ⟨rfl,⟨nd,rfl⟩⟩;refine ⟨_,rfl,?_⟩))
 go_ret2
 exact ⟨by first|rfl|(simp;done)|(simp [*];done),by repeat (first|exact Drawn0.refl _|apply Drawn0.step)⟩
end Go.Proofs.YtfgoojnblomonaaGreat.X
end
section
namespace Go.Proofs.YtfgoojnblomonaaGreat.X
open Go.RowKit Go.Proofs.YtfgoojnblomonaaGreatW.PrintWords Go.Proofs.YtfgoojnblomonaaGreatW.PrintLast Go.Proofs.YtfgoojnblomonaaGreatW.PrintMore
attribute [local go_sem] max2_int min2_int max_two min_two max_three min_three max_four min_four
set_option linter.unusedVariables false
set_option linter.unusedSimpArgs false
def slices_Repeat_int_int.f (l0 : List Int) (a1 : Int) : Option (List Int):=if l0.length = 1 ∧ 1 ≤ a1 ∧ a1 ≤ 4 then some (List.replicate a1.toNat (rd l0 0)) else none
theorem slices_Repeat_int_int.row {w : World} {base g cap : Nat} {xs : List Int} {rest : List Value} (hb : base ≤ g) (hc : xs.length ≤ cap) (hm : cap ≤ maxLen) (hl : xs.length + rest.length = cap) (h : w.heap[g]? = some (.cells ((xs.map (Value.int .i64)) ++ rest).toArray 3 (0,0))) :
  Kd.R (Kd.int .i64) 3 w base (fun _ => True) (.slice (some ⟨g,0,none⟩) xs.length cap) xs :=
 Kd.R_of_own ⟨by simp [encs],.inr ⟨g,cap,_,rfl,hb,h,hc,hm,by simp;omega,by simp [encs]⟩⟩ (fun _ _ => trivial)
theorem slices_Repeat_int_int.cells {w : World} {base : Nat} {ok : Nat → Prop} {v : Value} {xs : List Int} (h : Kd.R (Kd.int .i64) 3 w base ok v xs) (hp : 0 < xs.length) :
  ∃ g cap rest,v = .slice (some ⟨g,0,none⟩) xs.length cap ∧ base ≤ g ∧ w.heap[g]? = some (.cells ((xs.map (Value.int .i64)) ++ rest).toArray 3 (0,0)) ∧ xs.length ≤ cap ∧ cap ≤ maxLen ∧ xs.length + rest.length = cap:=by
 obtain ⟨h1,h2⟩:=Kd.own_of_R (enc:=Value.int .i64) (h1:=fun _ => rfl) h
 rcases h2 with ⟨_,h0⟩ | ⟨g,cap,cur,rfl,hb,hh,hnc,hcm,hcs,ht⟩
 ·omega
 refine ⟨g,cap,cur.toList.drop xs.length,rfl,hb,?_,hnc,hcm,?_⟩
 ·have e : (xs.map (Value.int .i64)) ++ cur.toList.drop xs.length = cur.toList:=by
   have:=List.take_append_drop xs.length cur.toList
   rw [Nat.mul_one] at ht
   rw [ht] at this
   exact this
  rw [e];exact hh
 ·rw [List.length_drop];have : cur.toList.length = cap:=by simp;omega
  omega
set_option maxHeartbeats 4000000 in
set_option maxRecDepth 100000 in
theorem slices_Repeat_int_int.n1 (ad : Addr) (c0 : Nat) (x : Int) (w : World) (hx : w.cell? (ad.add 0) = some (.int .i64 x)) :
  Calls Tryz.prog 85 #[.slice (some ad) 1 c0,.int .i64 1] w fun e w' => ∃ v0_ : Value,e = .returned (v0_) ∧ Kd.R (Kd.int .i64) 3 w' w.heap.size (fun _ => True) v0_ [x] ∧ Below w.heap.size w w':=by
 have HB:=Aside0.mk (Below.refl w.heap.size w)
 go_enter Tryz.func85,Tryz.ntmps85
 go_wp2_with (first|((with_reducible refine gate_callee (f:=99) rfl ?_);refine goesL_ (some 18) rfl rfl Tryz.func99 (by kernel_rfl) rfl #[.int .u64 1,.int .u64 1] rfl (by (try simp only [List.map_toArray,List.map_cons,List.map_nil]);first|done|rfl) ?_;(refine (bits_Mul.calls 1 1 0 1 _ (by kernel_rfl)).mono ?_);rintro e w' ⟨rfl,⟨nd,rfl⟩⟩;refine ⟨_,rfl,?_⟩)|((with_reducible refine gate_dst (N:=30) rfl ?_);refine Kd.R_make (Kd.int .i64) _ 3 rfl (N:=30) rfl 23 _ _ rfl (1 : Int) rfl rfl Tryz.underlying23 (.int .i64 0) 8 info3 rfl (by decide) (by omega) 0 (ok:=fun _ => True) (okp:=fun _ => True) rfl (fun _ hk => hk) trivial (by omega) (by decide) (Below.refl _ _) (Nat.le_refl _) ?_;intro v149 w4 ho5 hb hg_ hnew_;clear hg_ hnew_;have n0_:=Aside0.mk (Kd.R_lower ho5 (below_size (by repeat (first|(with_reducible first|exact HB.out|apply below_alloc|apply pw_below_drewN|apply below_drew1)|exact HB.out))));have n1_:=Aside0.mk (below_step (by repeat (first|(with_reducible first|exact HB.out|apply below_alloc|apply pw_below_drewN|apply below_drew1)|exact HB.out)) hb);clear HB;have HB:=n1_;obtain ⟨g,cap,rest,rfl,hbg,hg4,hcap,hcm,hrl⟩:=slices_Repeat_int_int.cells (xs:=[0]) n0_.out (by simp);clear n0_ n1_;clear hb ho5;have HG:=Aside0.mk hg4;clear hg4)|((with_reducible refine gate_dst (N:=33) rfl ?_);refine wpList_copy_splice rfl (.tmp 31) (.tmp 32) 23 23 rfl 3 Tryz.underlying23 (by kernel_rfl) (some ⟨g,0,none⟩) (some ad) 1 cap 1 c0 rfl rfl g 0 _ 3 HG.out [.int .i64 x] rfl (fun _ => ⟨rfl,ad,rfl,?src⟩) (by simp) (by simp [Value.oneCell']) _ _ HB.out hbg ?_;(case src => intro j v hj;obtain ⟨rfl,rfl⟩ : j = 0 ∧ v = .int .i64 x:=(by cases j <;> simp at hj;exact ⟨rfl,hj.symm⟩);exact (HB.out.cell (World.block_lt_of_cell? w _ hx)).trans hx);intro w5 hg5 hb5;have n0_:=Aside0.mk hg5;clear HG HB;have HG:=n0_;have HB:=Aside0.mk hb5;clear n0_ hg5 hb5))
 have hc1 : (1 : Int) ≤ (cap : Int):=by simp at hcap;omega
 refine wp_loop_rounds 1 ?_
 rw [rounds_succ]
 go_wp2
 go_ret
 exact ⟨_,rfl,slices_Repeat_int_int.row (xs:=[x]) (rest:=rest) hbg hcap hcm hrl HG.out,HB.out⟩
set_option maxHeartbeats 4000000 in
set_option maxRecDepth 100000 in
theorem slices_Repeat_int_int.n2 (ad : Addr) (c0 : Nat) (x : Int) (w : World) (hx : w.cell? (ad.add 0) = some (.int .i64 x)) :
  Calls Tryz.prog 85 #[.slice (some ad) 1 c0,.int .i64 2] w fun e w' => ∃ v0_ : Value,e = .returned (v0_) ∧ Kd.R (Kd.int .i64) 3 w' w.heap.size (fun _ => True) v0_ [x,x] ∧ Below w.heap.size w w':=by
 have HB:=Aside0.mk (Below.refl w.heap.size w)
 go_enter Tryz.func85,Tryz.ntmps85
 go_wp2_with (first|((with_reducible refine gate_callee (f:=99) rfl ?_);refine goesL_ (some 18) rfl rfl Tryz.func99 (by kernel_rfl) rfl #[.int .u64 1,.int .u64 2] rfl (by (try simp only [List.map_toArray,List.map_cons,List.map_nil]);first|done|rfl) ?_;(refine (bits_Mul.calls 1 2 0 2 _ (by kernel_rfl)).mono ?_);rintro e w' ⟨rfl,⟨nd,rfl⟩⟩;refine ⟨_,rfl,?_⟩)|((with_reducible refine gate_dst (N:=30) rfl ?_);refine Kd.R_make (Kd.int .i64) _ 3 rfl (N:=30) rfl 23 _ _ rfl (2 : Int) rfl rfl Tryz.underlying23 (.int .i64 0) 8 info3 rfl (by decide) (by omega) 0 (ok:=fun _ => True) (okp:=fun _ => True) rfl (fun _ hk => hk) trivial (by omega) (by decide) (Below.refl _ _) (Nat.le_refl _) ?_;intro v149 w4 ho5 hb hg_ hnew_;clear hg_ hnew_;have n0_:=Aside0.mk (Kd.R_lower ho5 (below_size (by repeat (first|(with_reducible first|exact HB.out|apply below_alloc|apply pw_below_drewN|apply below_drew1)|exact HB.out))));have n1_:=Aside0.mk (below_step (by repeat (first|(with_reducible first|exact HB.out|apply below_alloc|apply pw_below_drewN|apply below_drew1)|exact HB.out)) hb);clear HB;have HB:=n1_;obtain ⟨g,cap,rest,rfl,hbg,hg4,hcap,hcm,hrl⟩:=slices_Repeat_int_int.cells (xs:=[0,0]) n0_.out (by simp);clear n0_ n1_;clear hb ho5;have HG:=Aside0.mk hg4;clear hg4)|((with_reducible refine gate_dst (N:=33) rfl ?_);refine wpList_copy_splice rfl (.tmp 31) (.tmp 32) 23 23 rfl 3 Tryz.underlying23 (by kernel_rfl) (some ⟨g,0,none⟩) (some ad) 2 cap 1 c0 rfl rfl g 0 _ 3 HG.out [.int .i64 x] rfl (fun _ => ⟨rfl,ad,rfl,?src⟩) (by simp) (by simp [Value.oneCell']) _ _ HB.out hbg ?_;(case src => intro j v hj;obtain ⟨rfl,rfl⟩ : j = 0 ∧ v = .int .i64 x:=(by cases j <;> simp at hj;exact ⟨rfl,hj.symm⟩);exact (HB.out.cell (World.block_lt_of_cell? w _ hx)).trans hx);intro w5 hg5 hb5;have n0_:=Aside0.mk hg5;clear HG HB;have HG:=n0_;have HB:=Aside0.mk hb5;clear n0_ hg5 hb5))
 have hc1 : (1 : Int) ≤ (cap : Int):=by simp at hcap;omega
 have hc2 : (2 : Int) ≤ (cap : Int):=by simp at hcap;omega
 have hd1:=eq_false (show ¬ cap = 1 by simp at hcap;omega)
 have hw2 : wrap64 2 = 2:=by unfold wrap64;omega
 refine wp_loop_rounds 2 ?_
 rw [rounds_succ]
 go_wp2
 refine start_ (n:=10) (S:=fun _ => True) (ds:=[]) #[false,false,false,false,false,false,false,false,false,false] (by kernel_rfl) rfl rfl trivial (fun hHeld => ?_)
 have n0_:=Aside0.mk (below_drew1 HB.out)
 have n1_:=Aside0.mk (show w5.drew.heap[g]? = _ from HG.out)
 clear HB HG
 have HB:=n0_
 have HG:=n1_
 clear n0_ n1_
 generalize w5.drew = w6 at HB HG ⊢
 refine st0_ [.p 0 38,.p 1 39,.p 2 40,.p 3 41,.p 4 42,.p 5 43,.p 6 44] 7 127 10 rfl hHeld (a':=?_) ?_ rfl (by kernel_rfl) (fun _ _ _ _ h => h) ?_
 rotate_left
 ·repeat (first|exact Steps.nil|(refine Steps.p (oi:=?_) (v:=?_) (a1:=?_) ?_ ?_ ?_ ?_ ?_;rotate_left 2;rfl;rfl;(refine Or.inl ⟨by rfl,?_⟩;intro w';go_simp;with_reducible rfl);rotate_left;(simp only [Act.put,List.setIfInBounds_toArray,List.set_cons_zero,List.set_cons_succ,i64_w,i32_w];rfl)))
 refine one_ (i:=7) (N:=some 45) (mk 10 255) rfl rfl (by kernel_rfl) (by decide) (fun K hK => ?_)
 refine step_copy_splice rfl (.tmp 41) (.tmp 44) 23 23 rfl 3 Tryz.underlying23 (by kernel_rfl) (some ⟨g,1,none⟩) (some ⟨g,0,none⟩) 1 (cap - 1) 1 cap rfl rfl g 1 _ 3 HG.out [.int .i64 x] rfl (fun _ => ⟨rfl,_,rfl,?src⟩) ?fit (by simp [Value.oneCell']) _ _ HB.out hbg ?_
 case src =>
  intro j v hj
  obtain ⟨rfl,rfl⟩ : j = 0 ∧ v = .int .i64 x:=by cases j <;> simp at hj;exact ⟨rfl,hj.symm⟩
  exact (blk_cell HG.out 0).trans rfl
 case fit => simp [splice]
 intro w7 hg7 hb7
 have n0_:=Aside0.mk hg7
 clear HG HB
 have HG:=n0_
 have HB:=Aside0.mk hb7
 clear n0_ hg7 hb7
 refine hK.out _ _ trivial (fun hHeld => ?_)
 refine norm_ (a':=?_) ?_ ?_
 rotate_left
 ·show Act.put _ (some 45) _ = _
  simp only [Act.put,List.setIfInBounds_toArray,List.set_cons_zero,List.set_cons_succ,i64_w,i32_w]
  rfl
 refine st0_ [.p 8 46,.p 9 8] 2 1023 10 rfl hHeld (a':=?_) ?_ rfl (by kernel_rfl) (fun _ _ _ _ h => h) ?_
 rotate_left
 ·repeat (first|exact Steps.nil|(refine Steps.p (oi:=?_) (v:=?_) (a1:=?_) ?_ ?_ ?_ ?_ ?_;rotate_left 2;rfl;rfl;(refine Or.inl ⟨by rfl,?_⟩;intro w';go_simp;with_reducible rfl);rotate_left;(simp only [Act.put,List.setIfInBounds_toArray,List.set_cons_zero,List.set_cons_succ,i64_w,i32_w];rfl)))
 refine done_ (by kernel_rfl) ?_
 (try simp only [hw2])
 go_wp2
 rw [rounds_succ]
 go_wp2
 go_ret
 exact ⟨_,rfl,slices_Repeat_int_int.row (xs:=[x,x]) (rest:=rest) hbg hcap hcm hrl HG.out,HB.out⟩
set_option maxHeartbeats 4000000 in
set_option maxRecDepth 100000 in
theorem slices_Repeat_int_int.n3 (ad : Addr) (c0 : Nat) (x : Int) (w : World) (hx : w.cell? (ad.add 0) = some (.int .i64 x)) :
  Calls Tryz.prog 85 #[.slice (some ad) 1 c0,.int .i64 3] w fun e w' => ∃ v0_ : Value,e = .returned (v0_) ∧ Kd.R (Kd.int .i64) 3 w' w.heap.size (fun _ => True) v0_ [x,x,x] ∧ Below w.heap.size w w':=by
 have HB:=Aside0.mk (Below.refl w.heap.size w)
 go_enter Tryz.func85,Tryz.ntmps85
 go_wp2_with (first|((with_reducible refine gate_callee (f:=99) rfl ?_);refine goesL_ (some 18) rfl rfl Tryz.func99 (by kernel_rfl) rfl #[.int .u64 1,.int .u64 3] rfl (by (try simp only [List.map_toArray,List.map_cons,List.map_nil]);first|done|rfl) ?_;(refine (bits_Mul.calls 1 3 0 3 _ (by kernel_rfl)).mono ?_);rintro e w' ⟨rfl,⟨nd,rfl⟩⟩;refine ⟨_,rfl,?_⟩)|((with_reducible refine gate_dst (N:=30) rfl ?_);refine Kd.R_make (Kd.int .i64) _ 3 rfl (N:=30) rfl 23 _ _ rfl (3 : Int) rfl rfl Tryz.underlying23 (.int .i64 0) 8 info3 rfl (by decide) (by omega) 0 (ok:=fun _ => True) (okp:=fun _ => True) rfl (fun _ hk => hk) trivial (by omega) (by decide) (Below.refl _ _) (Nat.le_refl _) ?_;intro v149 w4 ho5 hb hg_ hnew_;clear hg_ hnew_;have n0_:=Aside0.mk (Kd.R_lower ho5 (below_size (by repeat (first|(with_reducible first|exact HB.out|apply below_alloc|apply pw_below_drewN|apply below_drew1)|exact HB.out))));have n1_:=Aside0.mk (below_step (by repeat (first|(with_reducible first|exact HB.out|apply below_alloc|apply pw_below_drewN|apply below_drew1)|exact HB.out)) hb);clear HB;have HB:=n1_;obtain ⟨g,cap,rest,rfl,hbg,hg4,hcap,hcm,hrl⟩:=slices_Repeat_int_int.cells (xs:=[0,0,0]) n0_.out (by simp);clear n0_ n1_;clear hb ho5;have HG:=Aside0.mk hg4;clear hg4)|((with_reducible refine gate_dst (N:=33) rfl ?_);refine wpList_copy_splice rfl (.tmp 31) (.tmp 32) 23 23 rfl 3 Tryz.underlying23 (by kernel_rfl) (some ⟨g,0,none⟩) (some ad) 3 cap 1 c0 rfl rfl g 0 _ 3 HG.out [.int .i64 x] rfl (fun _ => ⟨rfl,ad,rfl,?src⟩) (by simp) (by simp [Value.oneCell']) _ _ HB.out hbg ?_;(case src => intro j v hj;obtain ⟨rfl,rfl⟩ : j = 0 ∧ v = .int .i64 x:=(by cases j <;> simp at hj;exact ⟨rfl,hj.symm⟩);exact (HB.out.cell (World.block_lt_of_cell? w _ hx)).trans hx);intro w5 hg5 hb5;have n0_:=Aside0.mk hg5;clear HG HB;have HG:=n0_;have HB:=Aside0.mk hb5;clear n0_ hg5 hb5))
 have hc1 : (1 : Int) ≤ (cap : Int):=by simp at hcap;omega
 have hc2 : (2 : Int) ≤ (cap : Int):=by simp at hcap;omega
 have hc3 : (3 : Int) ≤ (cap : Int):=by simp at hcap;omega
 have hd1:=eq_false (show ¬ cap = 1 by simp at hcap;omega)
 have hd2:=eq_false (show ¬ cap = 2 by simp at hcap;omega)
 have hw2 : wrap64 2 = 2:=by unfold wrap64;omega
 have hw3 : wrap64 3 = 3:=by unfold wrap64;omega
 refine wp_loop_rounds 3 ?_
 rw [rounds_succ]
 go_wp2
 refine start_ (n:=10) (S:=fun _ => True) (ds:=[]) #[false,false,false,false,false,false,false,false,false,false] (by kernel_rfl) rfl rfl trivial (fun hHeld => ?_)
 have n0_:=Aside0.mk (below_drew1 HB.out)
 have n1_:=Aside0.mk (show w5.drew.heap[g]? = _ from HG.out)
 clear HB HG
 have HB:=n0_
 have HG:=n1_
 clear n0_ n1_
 generalize w5.drew = w6 at HB HG ⊢
 refine st0_ [.p 0 38,.p 1 39,.p 2 40,.p 3 41,.p 4 42,.p 5 43,.p 6 44] 7 127 10 rfl hHeld (a':=?_) ?_ rfl (by kernel_rfl) (fun _ _ _ _ h => h) ?_
 rotate_left
 ·repeat (first|exact Steps.nil|(refine Steps.p (oi:=?_) (v:=?_) (a1:=?_) ?_ ?_ ?_ ?_ ?_;rotate_left 2;rfl;rfl;(refine Or.inl ⟨by rfl,?_⟩;intro w';go_simp;with_reducible rfl);rotate_left;(simp only [Act.put,List.setIfInBounds_toArray,List.set_cons_zero,List.set_cons_succ,i64_w,i32_w];rfl)))
 refine one_ (i:=7) (N:=some 45) (mk 10 255) rfl rfl (by kernel_rfl) (by decide) (fun K hK => ?_)
 refine step_copy_splice rfl (.tmp 41) (.tmp 44) 23 23 rfl 3 Tryz.underlying23 (by kernel_rfl) (some ⟨g,1,none⟩) (some ⟨g,0,none⟩) 2 (cap - 1) 1 cap rfl rfl g 1 _ 3 HG.out [.int .i64 x] rfl (fun _ => ⟨rfl,_,rfl,?src⟩) ?fit (by simp [Value.oneCell']) _ _ HB.out hbg ?_
 case src =>
  intro j v hj
  obtain ⟨rfl,rfl⟩ : j = 0 ∧ v = .int .i64 x:=by cases j <;> simp at hj;exact ⟨rfl,hj.symm⟩
  exact (blk_cell HG.out 0).trans rfl
 case fit => simp [splice]
 intro w7 hg7 hb7
 have n0_:=Aside0.mk hg7
 clear HG HB
 have HG:=n0_
 have HB:=Aside0.mk hb7
 clear n0_ hg7 hb7
 refine hK.out _ _ trivial (fun hHeld => ?_)
 refine norm_ (a':=?_) ?_ ?_
 rotate_left
 ·show Act.put _ (some 45) _ = _
  simp only [Act.put,List.setIfInBounds_toArray,List.set_cons_zero,List.set_cons_succ,i64_w,i32_w]
  rfl
 refine st0_ [.p 8 46,.p 9 8] 2 1023 10 rfl hHeld (a':=?_) ?_ rfl (by kernel_rfl) (fun _ _ _ _ h => h) ?_
 rotate_left
 ·repeat (first|exact Steps.nil|(refine Steps.p (oi:=?_) (v:=?_) (a1:=?_) ?_ ?_ ?_ ?_ ?_;rotate_left 2;rfl;rfl;(refine Or.inl ⟨by rfl,?_⟩;intro w';go_simp;with_reducible rfl);rotate_left;(simp only [Act.put,List.setIfInBounds_toArray,List.set_cons_zero,List.set_cons_succ,i64_w,i32_w];rfl)))
 refine done_ (by kernel_rfl) ?_
 (try simp only [hw2])
 go_wp2
 rw [rounds_succ]
 go_wp2
 refine start_ (n:=10) (S:=fun _ => True) (ds:=[]) #[false,false,false,false,false,false,false,false,false,false] (by kernel_rfl) rfl rfl trivial (fun hHeld => ?_)
 have n0_:=Aside0.mk (below_drew1 HB.out)
 have n1_:=Aside0.mk (show w7.drew.heap[g]? = _ from HG.out)
 clear HB HG
 have HB:=n0_
 have HG:=n1_
 clear n0_ n1_
 generalize w7.drew = w8 at HB HG ⊢
 refine st0_ [.p 0 38,.p 1 39,.p 2 40,.p 3 41,.p 4 42,.p 5 43,.p 6 44] 7 127 10 rfl hHeld (a':=?_) ?_ rfl (by kernel_rfl) (fun _ _ _ _ h => h) ?_
 rotate_left
 ·repeat (first|exact Steps.nil|(refine Steps.p (oi:=?_) (v:=?_) (a1:=?_) ?_ ?_ ?_ ?_ ?_;rotate_left 2;rfl;rfl;(refine Or.inl ⟨by rfl,?_⟩;intro w';go_simp;with_reducible rfl);rotate_left;(simp only [Act.put,List.setIfInBounds_toArray,List.set_cons_zero,List.set_cons_succ,i64_w,i32_w];rfl)))
 refine one_ (i:=7) (N:=some 45) (mk 10 255) rfl rfl (by kernel_rfl) (by decide) (fun K hK => ?_)
 refine step_copy_splice rfl (.tmp 41) (.tmp 44) 23 23 rfl 3 Tryz.underlying23 (by kernel_rfl) (some ⟨g,2,none⟩) (some ⟨g,0,none⟩) 1 (cap - 2) 2 cap rfl rfl g 2 _ 3 HG.out [.int .i64 x] rfl (fun _ => ⟨rfl,_,rfl,?src⟩) ?fit (by simp [Value.oneCell']) _ _ HB.out hbg ?_
 case src =>
  intro j v hj
  obtain ⟨rfl,rfl⟩ : j = 0 ∧ v = .int .i64 x:=by cases j <;> simp at hj;exact ⟨rfl,hj.symm⟩
  exact (blk_cell HG.out 0).trans rfl
 case fit => simp [splice]
 intro w9 hg7 hb7
 have n0_:=Aside0.mk hg7
 clear HG HB
 have HG:=n0_
 have HB:=Aside0.mk hb7
 clear n0_ hg7 hb7
 refine hK.out _ _ trivial (fun hHeld => ?_)
 refine norm_ (a':=?_) ?_ ?_
 rotate_left
 ·show Act.put _ (some 45) _ = _
  simp only [Act.put,List.setIfInBounds_toArray,List.set_cons_zero,List.set_cons_succ,i64_w,i32_w]
  rfl
 refine st0_ [.p 8 46,.p 9 8] 2 1023 10 rfl hHeld (a':=?_) ?_ rfl (by kernel_rfl) (fun _ _ _ _ h => h) ?_
 rotate_left
 ·repeat (first|exact Steps.nil|(refine Steps.p (oi:=?_) (v:=?_) (a1:=?_) ?_ ?_ ?_ ?_ ?_;rotate_left 2;rfl;rfl;(refine Or.inl ⟨by rfl,?_⟩;intro w';go_simp;with_reducible rfl);rotate_left;(simp only [Act.put,List.setIfInBounds_toArray,List.set_cons_zero,List.set_cons_succ,i64_w,i32_w];rfl)))
 refine done_ (by kernel_rfl) ?_
 (try simp only [hw3])
 go_wp2
 rw [rounds_succ]
 go_wp2
 go_ret
 exact ⟨_,rfl,slices_Repeat_int_int.row (xs:=[x,x,x]) (rest:=rest) hbg hcap hcm hrl HG.out,HB.out⟩
set_option maxHeartbeats 4000000 in
set_option maxRecDepth 100000 in
theorem slices_Repeat_int_int.n4 (ad : Addr) (c0 : Nat) (x : Int) (w : World) (hx : w.cell? (ad.add 0) = some (.int .i64 x)) :
  Calls Tryz.prog 85 #[.slice (some ad) 1 c0,.int .i64 4] w fun e w' => ∃ v0_ : Value,e = .returned (v0_) ∧ Kd.R (Kd.int .i64) 3 w' w.heap.size (fun _ => True) v0_ [x,x,x,x] ∧ Below w.heap.size w w':=by
 have HB:=Aside0.mk (Below.refl w.heap.size w)
 go_enter Tryz.func85,Tryz.ntmps85
 go_wp2_with (first|((with_reducible refine gate_callee (f:=99) rfl ?_);refine goesL_ (some 18) rfl rfl Tryz.func99 (by kernel_rfl) rfl #[.int .u64 1,.int .u64 4] rfl (by (try simp only [List.map_toArray,List.map_cons,List.map_nil]);first|done|rfl) ?_;(refine (bits_Mul.calls 1 4 0 4 _ (by kernel_rfl)).mono ?_);rintro e w' ⟨rfl,⟨nd,rfl⟩⟩;refine ⟨_,rfl,?_⟩)|((with_reducible refine gate_dst (N:=30) rfl ?_);refine Kd.R_make (Kd.int .i64) _ 3 rfl (N:=30) rfl 23 _ _ rfl (4 : Int) rfl rfl Tryz.underlying23 (.int .i64 0) 8 info3 rfl (by decide) (by omega) 0 (ok:=fun _ => True) (okp:=fun _ => True) rfl (fun _ hk => hk) trivial (by omega) (by decide) (Below.refl _ _) (Nat.le_refl _) ?_;intro v149 w4 ho5 hb hg_ hnew_;clear hg_ hnew_;have n0_:=Aside0.mk (Kd.R_lower ho5 (below_size (by repeat (first|(with_reducible first|exact HB.out|apply below_alloc|apply pw_below_drewN|apply below_drew1)|exact HB.out))));have n1_:=Aside0.mk (below_step (by repeat (first|(with_reducible first|exact HB.out|apply below_alloc|apply pw_below_drewN|apply below_drew1)|exact HB.out)) hb);clear HB;have HB:=n1_;obtain ⟨g,cap,rest,rfl,hbg,hg4,hcap,hcm,hrl⟩:=slices_Repeat_int_int.cells (xs:=[0,0,0,0]) n0_.out (by simp);clear n0_ n1_;clear hb ho5;have HG:=Aside0.mk hg4;clear hg4)|((with_reducible refine gate_dst (N:=33) rfl ?_);refine wpList_copy_splice rfl (.tmp 31) (.tmp 32) 23 23 rfl 3 Tryz.underlying23 (by kernel_rfl) (some ⟨g,0,none⟩) (some ad) 4 cap 1 c0 rfl rfl g 0 _ 3 HG.out [.int .i64 x] rfl (fun _ => ⟨rfl,ad,rfl,?src⟩) (by simp) (by simp [Value.oneCell']) _ _ HB.out hbg ?_;(case src => intro j v hj;obtain ⟨rfl,rfl⟩ : j = 0 ∧ v = .int .i64 x:=(by cases j <;> simp at hj;exact ⟨rfl,hj.symm⟩);exact (HB.out.cell (World.block_lt_of_cell? w _ hx)).trans hx);intro w5 hg5 hb5;have n0_:=Aside0.mk hg5;clear HG HB;have HG:=n0_;have HB:=Aside0.mk hb5;clear n0_ hg5 hb5))
 have hc1 : (1 : Int) ≤ (cap : Int):=by simp at hcap;omega
 have hc2 : (2 : Int) ≤ (cap : Int):=by simp at hcap;omega
 have hc3 : (3 : Int) ≤ (cap : Int):=by simp at hcap;omega
 have hc4 : (4 : Int) ≤ (cap : Int):=by simp at hcap;omega
 have hd1:=eq_false (show ¬ cap = 1 by simp at hcap;omega)
 have hd2:=eq_false (show ¬ cap = 2 by simp at hcap;omega)
 have hw2 : wrap64 2 = 2:=by unfold wrap64;omega
 have hw4 : wrap64 4 = 4:=by unfold wrap64;omega
 refine wp_loop_rounds 3 ?_
 rw [rounds_succ]
 go_wp2
 refine start_ (n:=10) (S:=fun _ => True) (ds:=[]) #[false,false,false,false,false,false,false,false,false,false] (by kernel_rfl) rfl rfl trivial (fun hHeld => ?_)
 have n0_:=Aside0.mk (below_drew1 HB.out)
 have n1_:=Aside0.mk (show w5.drew.heap[g]? = _ from HG.out)
 clear HB HG
 have HB:=n0_
 have HG:=n1_
 clear n0_ n1_
 generalize w5.drew = w6 at HB HG ⊢
 refine st0_ [.p 0 38,.p 1 39,.p 2 40,.p 3 41,.p 4 42,.p 5 43,.p 6 44] 7 127 10 rfl hHeld (a':=?_) ?_ rfl (by kernel_rfl) (fun _ _ _ _ h => h) ?_
 rotate_left
 ·repeat (first|exact Steps.nil|(refine Steps.p (oi:=?_) (v:=?_) (a1:=?_) ?_ ?_ ?_ ?_ ?_;rotate_left 2;rfl;rfl;(refine Or.inl ⟨by rfl,?_⟩;intro w';go_simp;with_reducible rfl);rotate_left;(simp only [Act.put,List.setIfInBounds_toArray,List.set_cons_zero,List.set_cons_succ,i64_w,i32_w];rfl)))
 refine one_ (i:=7) (N:=some 45) (mk 10 255) rfl rfl (by kernel_rfl) (by decide) (fun K hK => ?_)
 refine step_copy_splice rfl (.tmp 41) (.tmp 44) 23 23 rfl 3 Tryz.underlying23 (by kernel_rfl) (some ⟨g,1,none⟩) (some ⟨g,0,none⟩) 3 (cap - 1) 1 cap rfl rfl g 1 _ 3 HG.out [.int .i64 x] rfl (fun _ => ⟨rfl,_,rfl,?src⟩) ?fit (by simp [Value.oneCell']) _ _ HB.out hbg ?_
 case src =>
  intro j v hj
  obtain ⟨rfl,rfl⟩ : j = 0 ∧ v = .int .i64 x:=by cases j <;> simp at hj;exact ⟨rfl,hj.symm⟩
  exact (blk_cell HG.out 0).trans rfl
 case fit => simp [splice]
 intro w7 hg7 hb7
 have n0_:=Aside0.mk hg7
 clear HG HB
 have HG:=n0_
 have HB:=Aside0.mk hb7
 clear n0_ hg7 hb7
 refine hK.out _ _ trivial (fun hHeld => ?_)
 refine norm_ (a':=?_) ?_ ?_
 rotate_left
 ·show Act.put _ (some 45) _ = _
  simp only [Act.put,List.setIfInBounds_toArray,List.set_cons_zero,List.set_cons_succ,i64_w,i32_w]
  rfl
 refine st0_ [.p 8 46,.p 9 8] 2 1023 10 rfl hHeld (a':=?_) ?_ rfl (by kernel_rfl) (fun _ _ _ _ h => h) ?_
 rotate_left
 ·repeat (first|exact Steps.nil|(refine Steps.p (oi:=?_) (v:=?_) (a1:=?_) ?_ ?_ ?_ ?_ ?_;rotate_left 2;rfl;rfl;(refine Or.inl ⟨by rfl,?_⟩;intro w';go_simp;with_reducible rfl);rotate_left;(simp only [Act.put,List.setIfInBounds_toArray,List.set_cons_zero,List.set_cons_succ,i64_w,i32_w];rfl)))
 refine done_ (by kernel_rfl) ?_
 (try simp only [hw2])
 go_wp2
 rw [rounds_succ]
 go_wp2
 refine start_ (n:=10) (S:=fun _ => True) (ds:=[]) #[false,false,false,false,false,false,false,false,false,false] (by kernel_rfl) rfl rfl trivial (fun hHeld => ?_)
 have n0_:=Aside0.mk (below_drew1 HB.out)
 have n1_:=Aside0.mk (show w7.drew.heap[g]? = _ from HG.out)
 clear HB HG
 have HB:=n0_
 have HG:=n1_
 clear n0_ n1_
 generalize w7.drew = w8 at HB HG ⊢
 refine st0_ [.p 0 38,.p 1 39,.p 2 40,.p 3 41,.p 4 42,.p 5 43,.p 6 44] 7 127 10 rfl hHeld (a':=?_) ?_ rfl (by kernel_rfl) (fun _ _ _ _ h => h) ?_
 rotate_left
 ·repeat (first|exact Steps.nil|(refine Steps.p (oi:=?_) (v:=?_) (a1:=?_) ?_ ?_ ?_ ?_ ?_;rotate_left 2;rfl;rfl;(refine Or.inl ⟨by rfl,?_⟩;intro w';go_simp;with_reducible rfl);rotate_left;(simp only [Act.put,List.setIfInBounds_toArray,List.set_cons_zero,List.set_cons_succ,i64_w,i32_w];rfl)))
 refine one_ (i:=7) (N:=some 45) (mk 10 255) rfl rfl (by kernel_rfl) (by decide) (fun K hK => ?_)
 refine step_copy_splice rfl (.tmp 41) (.tmp 44) 23 23 rfl 3 Tryz.underlying23 (by kernel_rfl) (some ⟨g,2,none⟩) (some ⟨g,0,none⟩) 2 (cap - 2) 2 cap rfl rfl g 2 _ 3 HG.out [.int .i64 x,.int .i64 x] rfl (fun _ => ⟨rfl,_,rfl,?src⟩) ?fit (by simp [Value.oneCell']) _ _ HB.out hbg ?_
 case src =>
  intro j v hj
  match j,hj with
  | 0,hj => obtain rfl:=Option.some.inj hj;exact (blk_cell HG.out 0).trans rfl
  | 1,hj => obtain rfl:=Option.some.inj hj;exact (blk_cell HG.out 1).trans rfl
  | j + 2,hj => simp at hj
 case fit => simp [splice]
 intro w9 hg7 hb7
 have n0_:=Aside0.mk hg7
 clear HG HB
 have HG:=n0_
 have HB:=Aside0.mk hb7
 clear n0_ hg7 hb7
 refine hK.out _ _ trivial (fun hHeld => ?_)
 refine norm_ (a':=?_) ?_ ?_
 rotate_left
 ·show Act.put _ (some 45) _ = _
  simp only [Act.put,List.setIfInBounds_toArray,List.set_cons_zero,List.set_cons_succ,i64_w,i32_w]
  rfl
 refine st0_ [.p 8 46,.p 9 8] 2 1023 10 rfl hHeld (a':=?_) ?_ rfl (by kernel_rfl) (fun _ _ _ _ h => h) ?_
 rotate_left
 ·repeat (first|exact Steps.nil|(refine Steps.p (oi:=?_) (v:=?_) (a1:=?_) ?_ ?_ ?_ ?_ ?_;rotate_left 2;rfl;rfl;(refine Or.inl ⟨by rfl,?_⟩;intro w';go_simp;with_reducible rfl);rotate_left;(simp only [Act.put,List.setIfInBounds_toArray,List.set_cons_zero,List.set_cons_succ,i64_w,i32_w];rfl)))
 refine done_ (by kernel_rfl) ?_
 (try simp only [hw4])
 go_wp2
 rw [rounds_succ]
 go_wp2
 go_ret
 exact ⟨_,rfl,slices_Repeat_int_int.row (xs:=[x,x,x,x]) (rest:=rest) hbg hcap hcm hrl HG.out,HB.out⟩
theorem slices_Repeat_int_int.calls (A0 : Option Addr) (c0 : Nat) (l0 : List Int) (a1 : Int) (r : List Int) (w : World) (hr0 : Kd.C (Kd.int .i64) w A0 l0.length l0) (hc0 : l0.length ≤ c0) (h : slices_Repeat_int_int.f l0 a1 = some r) :
  Calls Tryz.prog 85 #[.slice A0 l0.length c0,.int .i64 a1] w fun e w' => ∃ v0_ : Value,e = .returned (v0_) ∧ Kd.R (Kd.int .i64) 3 w' w.heap.size (fun _ => True) v0_ r ∧ Below w.heap.size w w':=by
 unfold slices_Repeat_int_int.f at h
 by_cases g : l0.length = 1 ∧ 1 ≤ a1 ∧ a1 ≤ 4
 ·rw [if_pos g] at h
  obtain rfl:=Option.some.inj h
  obtain ⟨g1,g2,g3⟩:=g
  obtain ⟨ad,rfl,hx⟩:=Kd.at_int hr0 0 (by omega) (by omega)
  rw [g1]
  have ha : a1 = 1 ∨ a1 = 2 ∨ a1 = 3 ∨ a1 = 4:=by omega
  rcases ha with rfl|rfl|rfl|rfl
  ·exact slices_Repeat_int_int.n1 ad c0 (rd l0 0) w hx
  ·exact slices_Repeat_int_int.n2 ad c0 (rd l0 0) w hx
  ·exact slices_Repeat_int_int.n3 ad c0 (rd l0 0) w hx
  ·exact slices_Repeat_int_int.n4 ad c0 (rd l0 0) w hx
 ·rw [if_neg g] at h
  cases h
end Go.Proofs.YtfgoojnblomonaaGreat.X
end
section
namespace Go.Proofs
open Go.Shelf
def Tryz.lays170_ren : Go.Shelf.Ren:=⟨fun | 170 => 102|n => n,fun | 70 => 105 | 3 => 3 | 0 => 0 | 72 => 107 | 37 => 22 | 5 => 5|n => n,fun|n => n⟩
theorem Tryz.lays170 : Go.Proofs.Lays.n170 Tryz.prog Tryz.lays170_ren:={
 mixed:=by kernel_rfl
 f170:=Tryz.func102.trans (congrArg some (by kernel_rfl))
 t0:=Tryz.underlying0
 a0:=Tryz.isAgg0
 z0:=Tryz.sizeOf0
 v0:=Tryz.zeroValue0
 t3:=Tryz.underlying3
 a3:=Tryz.isAgg3
 z3:=Tryz.sizeOf3
 v3:=Tryz.zeroValue3
 t37:=Tryz.underlying22
 a37:=Tryz.isAgg22
 z37:=Tryz.sizeOf22
 v37:=Tryz.zeroValue22
 t70:=Tryz.underlying105
 a70:=Tryz.isAgg105
 z70:=Tryz.sizeOf105
 v70:=Tryz.zeroValue105
 t72:=Tryz.underlying107
 a72:=Tryz.isAgg107
 z72:=Tryz.sizeOf107
 v72:=Tryz.zeroValue107 }
open Go.RowKit in
theorem Tryz.Builder_Len (B b : Nat) (bs : List Value) (w : World) (h : Lib.IsBuilder 107 5 B b bs w) :
  Calls Tryz.prog 102 #[.pointer (some ⟨b,0,none⟩)] w fun e w' => e = .returned (.int .i64 bs.length) ∧ w' = w:=Any.Builder_Len Tryz.lays170 B b bs w h
def Tryz.lays169_ren : Go.Shelf.Ren:=⟨fun | 169 => 103|n => n,fun | 70 => 105 | 9 => 9 | 0 => 0 | 72 => 107 | 37 => 22 | 127 => 124 | 3 => 3 | 5 => 5|n => n,fun|n => n⟩
theorem Tryz.lays169 : Go.Proofs.Lays.n169 Tryz.prog Tryz.lays169_ren:={
 mixed:=by kernel_rfl
 f169:=Tryz.func103.trans (congrArg some (by kernel_rfl))
 t0:=Tryz.underlying0
 a0:=Tryz.isAgg0
 z0:=Tryz.sizeOf0
 v0:=Tryz.zeroValue0
 t3:=Tryz.underlying3
 a3:=Tryz.isAgg3
 z3:=Tryz.sizeOf3
 v3:=Tryz.zeroValue3
 t9:=Tryz.underlying9
 a9:=Tryz.isAgg9
 z9:=Tryz.sizeOf9
 v9:=Tryz.zeroValue9
 t37:=Tryz.underlying22
 a37:=Tryz.isAgg22
 z37:=Tryz.sizeOf22
 v37:=Tryz.zeroValue22
 t70:=Tryz.underlying105
 a70:=Tryz.isAgg105
 z70:=Tryz.sizeOf105
 v70:=Tryz.zeroValue105
 t72:=Tryz.underlying107
 a72:=Tryz.isAgg107
 z72:=Tryz.sizeOf107
 v72:=Tryz.zeroValue107
 t127:=Tryz.underlying124
 a127:=Tryz.isAgg124
 z127:=Tryz.sizeOf124
 v127:=Tryz.zeroValue124 }
theorem Tryz.Builder_Extra_169 : Builder.Extra Tryz.prog Tryz.lays169_ren:={
 sizeBuilder:=by kernel_rfl
 liesBuilder:=by kernel_rfl
 t5:=Tryz.underlying5
 a5:=Tryz.isAgg5
 z5:=Tryz.sizeOf5
 v5:=Tryz.zeroValue5
 infoByte:=by kernel_rfl
 cellsByte:=by kernel_rfl
 sizeByte:=by kernel_rfl
 neB5:=by decide }
open Go.RowKit in
theorem Tryz.Builder_String (B b : Nat) (l : List UInt8) (w : World) (h : Lib.IsBuilder 107 5 B b (Lib.byteCells l) w) (h0 : l ≠ []) :
  Calls Tryz.prog 103 #[.pointer (some ⟨b,0,none⟩)] w fun e w' => e = .returned (.string ⟨l.toArray⟩) ∧ Below B w w':=Any.Builder_String Tryz.lays169 Tryz.Builder_Extra_169 B b l w h h0
open Go.RowKit in
theorem Tryz.Builder_String_empty (B b : Nat) (w : World) (h : Lib.IsBuilder 107 5 B b [] w) (hBw : B ≤ w.heap.size) :
  Calls Tryz.prog 103 #[.pointer (some ⟨b,0,none⟩)] w fun e w' => e = .returned (.string ⟨#[]⟩) ∧ Below B w w':=Any.Builder_String_empty Tryz.lays169 Tryz.Builder_Extra_169 B b w h hBw
open Go.RowKit in
theorem Tryz.Builder_String_any (B b : Nat) (l : List UInt8) (w : World) (h : Lib.IsBuilder 107 5 B b (Lib.byteCells l) w) (hBw : B ≤ w.heap.size) :
  Calls Tryz.prog 103 #[.pointer (some ⟨b,0,none⟩)] w fun e w' => e = .returned (.string ⟨l.toArray⟩) ∧ Below B w w':=Any.Builder_String_any Tryz.lays169 Tryz.Builder_Extra_169 B b l w h hBw
def Tryz.lays241_ren : Go.Shelf.Ren:=⟨fun | 241 => 117 | 277 => 122|n => n,fun | 70 => 105 | 3 => 3 | 0 => 0 | 72 => 107 | 37 => 22 | 5 => 5|n => n,fun|n => n⟩
theorem Tryz.lays241 : Go.Proofs.Lays.n241 Tryz.prog Tryz.lays241_ren:={
 mixed:=by kernel_rfl
 f241:=Tryz.func117.trans (congrArg some (by kernel_rfl))
 f277:=Tryz.func122.trans (congrArg some (by kernel_rfl))
 t0:=Tryz.underlying0
 a0:=Tryz.isAgg0
 z0:=Tryz.sizeOf0
 v0:=Tryz.zeroValue0
 t3:=Tryz.underlying3
 a3:=Tryz.isAgg3
 z3:=Tryz.sizeOf3
 v3:=Tryz.zeroValue3
 t37:=Tryz.underlying22
 a37:=Tryz.isAgg22
 z37:=Tryz.sizeOf22
 v37:=Tryz.zeroValue22
 t70:=Tryz.underlying105
 a70:=Tryz.isAgg105
 z70:=Tryz.sizeOf105
 v70:=Tryz.zeroValue105
 t72:=Tryz.underlying107
 a72:=Tryz.isAgg107
 z72:=Tryz.sizeOf107
 v72:=Tryz.zeroValue107 }
theorem Tryz.Builder_Extra_241 : Builder.Extra Tryz.prog Tryz.lays241_ren:={
 sizeBuilder:=by kernel_rfl
 liesBuilder:=by kernel_rfl
 t5:=Tryz.underlying5
 a5:=Tryz.isAgg5
 z5:=Tryz.sizeOf5
 v5:=Tryz.zeroValue5
 infoByte:=by kernel_rfl
 cellsByte:=by kernel_rfl
 sizeByte:=by kernel_rfl
 neB5:=by decide }
open Go.RowKit in
theorem Tryz.Builder_grow_fresh (B b n : Nat) (w : World) (hB : B ≤ b) (hbk : w.heap[b]? = some (.cells #[.pointer (some ⟨b,0,none⟩),.slice none 0 0] 107 (0,0))) (hBw : B ≤ w.heap.size) (hn : n ≤ 281474976710656) :
  Calls Tryz.prog 117 #[.pointer (some ⟨b,0,none⟩),.int .i64 n] w fun e w' => e = .returned (.tuple #[]) ∧ (Lib.BuilderAt 107 5 B b (.pointer (some ⟨b,0,none⟩)) [] w' ∧ Below B w w'):=Any.Builder_grow_fresh Tryz.lays241 Tryz.Builder_Extra_241 B b n w hB hbk hBw hn
def Tryz.lays165_ren : Go.Shelf.Ren:=⟨fun | 165 => 100 | 240 => 116 | 241 => 117 | 276 => 121 | 277 => 122|n => n,fun | 70 => 105 | 3 => 3 | 0 => 0 | 4 => 4 | 9 => 9 | 20 => 20 | 72 => 107 | 37 => 22 | 164 => 127 | 5 => 5|n => n,fun|n => n⟩
theorem Tryz.lays165 : Go.Proofs.Lays.n165 Tryz.prog Tryz.lays165_ren:={
 mixed:=by kernel_rfl
 f165:=Tryz.func100.trans (congrArg some (by kernel_rfl))
 f240:=Tryz.func116.trans (congrArg some (by kernel_rfl))
 f241:=Tryz.func117.trans (congrArg some (by kernel_rfl))
 f276:=Tryz.func121.trans (congrArg some (by kernel_rfl))
 f277:=Tryz.func122.trans (congrArg some (by kernel_rfl))
 t0:=Tryz.underlying0
 a0:=Tryz.isAgg0
 z0:=Tryz.sizeOf0
 v0:=Tryz.zeroValue0
 t3:=Tryz.underlying3
 a3:=Tryz.isAgg3
 z3:=Tryz.sizeOf3
 v3:=Tryz.zeroValue3
 t4:=Tryz.underlying4
 a4:=Tryz.isAgg4
 z4:=Tryz.sizeOf4
 v4:=Tryz.zeroValue4
 t9:=Tryz.underlying9
 a9:=Tryz.isAgg9
 z9:=Tryz.sizeOf9
 v9:=Tryz.zeroValue9
 t20:=Tryz.underlying20
 a20:=Tryz.isAgg20
 z20:=Tryz.sizeOf20
 v20:=Tryz.zeroValue20
 t37:=Tryz.underlying22
 a37:=Tryz.isAgg22
 z37:=Tryz.sizeOf22
 v37:=Tryz.zeroValue22
 t70:=Tryz.underlying105
 a70:=Tryz.isAgg105
 z70:=Tryz.sizeOf105
 v70:=Tryz.zeroValue105
 t72:=Tryz.underlying107
 a72:=Tryz.isAgg107
 z72:=Tryz.sizeOf107
 v72:=Tryz.zeroValue107
 t164:=Tryz.underlying127
 a164:=Tryz.isAgg127
 z164:=Tryz.sizeOf127
 v164:=Tryz.zeroValue127 }
theorem Tryz.Builder_Extra_165 : Builder.Extra Tryz.prog Tryz.lays165_ren:={
 sizeBuilder:=by kernel_rfl
 liesBuilder:=by kernel_rfl
 t5:=Tryz.underlying5
 a5:=Tryz.isAgg5
 z5:=Tryz.sizeOf5
 v5:=Tryz.zeroValue5
 infoByte:=by kernel_rfl
 cellsByte:=by kernel_rfl
 sizeByte:=by kernel_rfl
 neB5:=by decide }
open Go.RowKit in
theorem Tryz.Builder_Grow_fresh (B b n : Nat) (w : World) (hB : B ≤ b) (hbk : w.heap[b]? = some (.cells #[.pointer none,.slice none 0 0] 107 (0,0))) (hBw : B ≤ w.heap.size) (hn : n ≤ 281474976710656) :
  Calls Tryz.prog 100 #[.pointer (some ⟨b,0,none⟩),.int .i64 n] w fun e w' => e = .returned (.tuple #[]) ∧ (Lib.BuilderAt 107 5 B b (.pointer (some ⟨b,0,none⟩)) [] w' ∧ Below B w w'):=Any.Builder_Grow_fresh Tryz.lays165 Tryz.Builder_Extra_165 B b n w hB hbk hBw hn
def Tryz.lays213_ren : Go.Shelf.Ren:=⟨fun | 213 => 112 | 265 => 119|n => n,fun | 9 => 9 | 3 => 3|n => n,fun|n => n⟩
theorem Tryz.lays213 : Go.Proofs.Lays.n213 Tryz.prog Tryz.lays213_ren:={
 mixed:=by kernel_rfl
 f213:=Tryz.func112.trans (congrArg some (by kernel_rfl))
 f265:=Tryz.func119.trans (congrArg some (by kernel_rfl))
 t3:=Tryz.underlying3
 a3:=Tryz.isAgg3
 z3:=Tryz.sizeOf3
 v3:=Tryz.zeroValue3
 t9:=Tryz.underlying9
 a9:=Tryz.isAgg9
 z9:=Tryz.sizeOf9
 v9:=Tryz.zeroValue9 }
open Go.RowKit in
theorem Tryz.bytealg_CompareString (a b : ByteArray) (w : World) :
  Calls Tryz.prog 112 #[.string a,.string b] w fun e w' => e = .returned (.int .i64 (Lib.compareBytes a.data.toList b.data.toList)) ∧ w' = w:=Any.bytealg_CompareString Tryz.lays213 a b w
def Tryz.lays106_ren : Go.Shelf.Ren:=⟨fun | 106 => 92 | 213 => 112 | 265 => 119|n => n,fun | 9 => 9 | 3 => 3|n => n,fun|n => n⟩
theorem Tryz.lays106 : Go.Proofs.Lays.n106 Tryz.prog Tryz.lays106_ren:={
 mixed:=by kernel_rfl
 f106:=Tryz.func92.trans (congrArg some (by kernel_rfl))
 f213:=Tryz.func112.trans (congrArg some (by kernel_rfl))
 f265:=Tryz.func119.trans (congrArg some (by kernel_rfl))
 t3:=Tryz.underlying3
 a3:=Tryz.isAgg3
 z3:=Tryz.sizeOf3
 v3:=Tryz.zeroValue3
 t9:=Tryz.underlying9
 a9:=Tryz.isAgg9
 z9:=Tryz.sizeOf9
 v9:=Tryz.zeroValue9 }
open Go.RowKit in
theorem Tryz.strings_Compare (a b : ByteArray) (w : World) :
  Calls Tryz.prog 92 #[.string a,.string b] w fun e w' => e = .returned (.int .i64 (Lib.compareBytes a.data.toList b.data.toList)) ∧ w' = w:=Any.strings_Compare Tryz.lays106 a b w
open Go.RowKit in
theorem Tryz.Builder_Len_f (B b : Nat) (bs : List Value) (w : World) (h : Lib.IsBuilderF 107 5 B b bs w) :
  Calls Tryz.prog 102 #[.pointer (some ⟨b,0,none⟩)] w fun e w' => e = .returned (.int .i64 bs.length) ∧ w' = w:=Any.Builder_Len_f Tryz.lays170 B b bs w h
open Go.RowKit in
theorem Tryz.Builder_String_f (B b : Nat) (l : List UInt8) (w : World) (h : Lib.IsBuilderF 107 5 B b (Lib.byteCells l) w) (h0 : l ≠ []) :
  Calls Tryz.prog 103 #[.pointer (some ⟨b,0,none⟩)] w fun e w' => e = .returned (.string ⟨l.toArray⟩) ∧ (Lib.IsBuilderF 107 5 B b (Lib.byteCells l) w' ∧ Below B w w'):=Any.Builder_String_f Tryz.lays169 Tryz.Builder_Extra_169 B b l w h h0
open Go.RowKit in
theorem Tryz.Builder_String_empty_f (B b : Nat) (w : World) (h : Lib.IsBuilderF 107 5 B b [] w) (hBw : B ≤ w.heap.size) :
  Calls Tryz.prog 103 #[.pointer (some ⟨b,0,none⟩)] w fun e w' => e = .returned (.string ⟨#[]⟩) ∧ (Lib.IsBuilderF 107 5 B b [] w' ∧ Below B w w'):=Any.Builder_String_empty_f Tryz.lays169 Tryz.Builder_Extra_169 B b w h hBw
open Go.RowKit in
theorem Tryz.Builder_String_any_f (B b : Nat) (l : List UInt8) (w : World) (h : Lib.IsBuilderF 107 5 B b (Lib.byteCells l) w) (hBw : B ≤ w.heap.size) :
  Calls Tryz.prog 103 #[.pointer (some ⟨b,0,none⟩)] w fun e w' => e = .returned (.string ⟨l.toArray⟩) ∧ (Lib.IsBuilderF 107 5 B b (Lib.byteCells l) w' ∧ Below B w w'):=Any.Builder_String_any_f Tryz.lays169 Tryz.Builder_Extra_169 B b l w h hBw
def Tryz.lays206_ren : Go.Shelf.Ren:=⟨fun | 206 => 110|n => n,fun | 9 => 9 | 4 => 4 | 3 => 3|n => n,fun|n => n⟩
theorem Tryz.lays206 : Go.Proofs.Lays.n206 Tryz.prog Tryz.lays206_ren:={
 mixed:=by kernel_rfl
 f206:=Tryz.func110.trans (congrArg some (by kernel_rfl))
 t3:=Tryz.underlying3
 a3:=Tryz.isAgg3
 z3:=Tryz.sizeOf3
 v3:=Tryz.zeroValue3
 t4:=Tryz.underlying4
 a4:=Tryz.isAgg4
 z4:=Tryz.sizeOf4
 v4:=Tryz.zeroValue4
 t9:=Tryz.underlying9
 a9:=Tryz.isAgg9
 z9:=Tryz.sizeOf9
 v9:=Tryz.zeroValue9 }
open Go.RowKit Go.Lib in
theorem Tryz.stringslite_HasPrefix (s p : ByteArray) (w : World) :
  Calls Tryz.prog 110 #[.string s,.string p] w fun e w' => e = .returned (.bool (Lib.hasPrefix s.data.toList p.data.toList)) ∧ w' = w:=Any.stringslite_HasPrefix Tryz.lays206 s p w
def Tryz.lays99_ren : Go.Shelf.Ren:=⟨fun | 99 => 89 | 206 => 110|n => n,fun | 9 => 9 | 4 => 4 | 3 => 3|n => n,fun|n => n⟩
theorem Tryz.lays99 : Go.Proofs.Lays.n99 Tryz.prog Tryz.lays99_ren:={
 mixed:=by kernel_rfl
 f99:=Tryz.func89.trans (congrArg some (by kernel_rfl))
 f206:=Tryz.func110.trans (congrArg some (by kernel_rfl))
 t3:=Tryz.underlying3
 a3:=Tryz.isAgg3
 z3:=Tryz.sizeOf3
 v3:=Tryz.zeroValue3
 t4:=Tryz.underlying4
 a4:=Tryz.isAgg4
 z4:=Tryz.sizeOf4
 v4:=Tryz.zeroValue4
 t9:=Tryz.underlying9
 a9:=Tryz.isAgg9
 z9:=Tryz.sizeOf9
 v9:=Tryz.zeroValue9 }
open Go.RowKit Go.Lib in
theorem Tryz.strings_HasPrefix (s p : ByteArray) (w : World) :
  Calls Tryz.prog 89 #[.string s,.string p] w fun e w' => e = .returned (.bool (Lib.hasPrefix s.data.toList p.data.toList)) ∧ w' = w:=Any.strings_HasPrefix Tryz.lays99 s p w
def Tryz.lays264_ren : Go.Shelf.Ren:=⟨fun | 264 => 115|n => n,fun | 53 => 121 | 46 => 102|n => n,fun|n => n⟩
theorem Tryz.lays264 : Go.Proofs.Lays.n264 Tryz.prog Tryz.lays264_ren:={
 mixed:=by kernel_rfl
 f264:=Tryz.func115.trans (congrArg some (by kernel_rfl))
 t46:=Tryz.underlying102
 a46:=Tryz.isAgg102
 z46:=Tryz.sizeOf102
 v46:=Tryz.zeroValue102
 t53:=Tryz.underlying121
 a53:=Tryz.isAgg121
 z53:=Tryz.sizeOf121
 v53:=Tryz.zeroValue121 }
open Go.RowKit Go.Lib in
theorem Tryz.bits_Mul64 (x y : Nat) (hx : x < 18446744073709551616) (hy : y < 18446744073709551616) (w : World) :
  Calls Tryz.prog 115 #[.int .u64 x,.int .u64 y] w fun e w' => e = .returned (.tuple #[.int .u64 ((x * y / 18446744073709551616 : Nat) : Int),.int .u64 ((x * y % 18446744073709551616 : Nat) : Int)]) ∧ w' = w:=Any.bits_Mul64 Tryz.lays264 x y hx hy w
def Tryz.lays212_ren : Go.Shelf.Ren:=⟨fun | 212 => 99 | 263 => 114 | 264 => 115|n => n,fun | 46 => 102 | 51 => 118 | 146 => 119 | 53 => 121 | 148 => 122|n => n,fun|n => n⟩
theorem Tryz.lays212 : Go.Proofs.Lays.n212 Tryz.prog Tryz.lays212_ren:={
 mixed:=by kernel_rfl
 f212:=Tryz.func99.trans (congrArg some (by kernel_rfl))
 f263:=Tryz.func114.trans (congrArg some (by kernel_rfl))
 f264:=Tryz.func115.trans (congrArg some (by kernel_rfl))
 t46:=Tryz.underlying102
 a46:=Tryz.isAgg102
 z46:=Tryz.sizeOf102
 v46:=Tryz.zeroValue102
 t51:=Tryz.underlying118
 a51:=Tryz.isAgg118
 z51:=Tryz.sizeOf118
 v51:=Tryz.zeroValue118
 t53:=Tryz.underlying121
 a53:=Tryz.isAgg121
 z53:=Tryz.sizeOf121
 v53:=Tryz.zeroValue121
 t146:=Tryz.underlying119
 a146:=Tryz.isAgg119
 z146:=Tryz.sizeOf119
 v146:=Tryz.zeroValue119
 t148:=Tryz.underlying122
 a148:=Tryz.isAgg122
 z148:=Tryz.sizeOf122
 v148:=Tryz.zeroValue122 }
open Go.RowKit Go.Lib in
theorem Tryz.bits_Mul (x y : Nat) (hx : x < 18446744073709551616) (hy : y < 18446744073709551616) (w : World) :
  Calls Tryz.prog 99 #[.int .u64 x,.int .u64 y] w fun e w' => e = .returned (.tuple #[.int .u64 ((x * y / 18446744073709551616 : Nat) : Int),.int .u64 ((x * y % 18446744073709551616 : Nat) : Int)]) ∧ w' = w:=Any.bits_Mul Tryz.lays212 x y hx hy w
def Tryz.lays105_ren : Go.Shelf.Ren:=⟨fun | 105 => 68 | 212 => 99 | 99 => 89 | 165 => 100 | 166 => 101 | 170 => 102 | 169 => 103 | 263 => 114 | 264 => 115 | 206 => 110 | 240 => 116 | 241 => 117 | 276 => 121 | 277 => 122|n => n,fun | 9 => 9 | 3 => 3 | 4 => 4 | 20 => 20 | 0 => 0 | 46 => 102 | 109 => 103 | 5 => 5 | 72 => 107 | 76 => 111 | 51 => 118 | 146 => 119 | 53 => 121 | 148 => 122 | 70 => 105 | 37 => 22 | 75 => 110 | 127 => 124 | 164 => 127 | 80 => 114|n => n,fun|n => n⟩
theorem Tryz.lays105 : Go.Proofs.Lays.n105 Tryz.prog Tryz.lays105_ren:={
 mixed:=by kernel_rfl
 f99:=Tryz.func89.trans (congrArg some (by kernel_rfl))
 f105:=Tryz.func68.trans (congrArg some (by kernel_rfl))
 f165:=Tryz.func100.trans (congrArg some (by kernel_rfl))
 f166:=Tryz.func101.trans (congrArg some (by kernel_rfl))
 f169:=Tryz.func103.trans (congrArg some (by kernel_rfl))
 f170:=Tryz.func102.trans (congrArg some (by kernel_rfl))
 f206:=Tryz.func110.trans (congrArg some (by kernel_rfl))
 f212:=Tryz.func99.trans (congrArg some (by kernel_rfl))
 f240:=Tryz.func116.trans (congrArg some (by kernel_rfl))
 f241:=Tryz.func117.trans (congrArg some (by kernel_rfl))
 f263:=Tryz.func114.trans (congrArg some (by kernel_rfl))
 f264:=Tryz.func115.trans (congrArg some (by kernel_rfl))
 f276:=Tryz.func121.trans (congrArg some (by kernel_rfl))
 f277:=Tryz.func122.trans (congrArg some (by kernel_rfl))
 t0:=Tryz.underlying0
 a0:=Tryz.isAgg0
 z0:=Tryz.sizeOf0
 v0:=Tryz.zeroValue0
 t3:=Tryz.underlying3
 a3:=Tryz.isAgg3
 z3:=Tryz.sizeOf3
 v3:=Tryz.zeroValue3
 t4:=Tryz.underlying4
 a4:=Tryz.isAgg4
 z4:=Tryz.sizeOf4
 v4:=Tryz.zeroValue4
 t5:=Tryz.underlying5
 a5:=Tryz.isAgg5
 z5:=Tryz.sizeOf5
 v5:=Tryz.zeroValue5
 t9:=Tryz.underlying9
 a9:=Tryz.isAgg9
 z9:=Tryz.sizeOf9
 v9:=Tryz.zeroValue9
 t20:=Tryz.underlying20
 a20:=Tryz.isAgg20
 z20:=Tryz.sizeOf20
 v20:=Tryz.zeroValue20
 t37:=Tryz.underlying22
 a37:=Tryz.isAgg22
 z37:=Tryz.sizeOf22
 v37:=Tryz.zeroValue22
 t46:=Tryz.underlying102
 a46:=Tryz.isAgg102
 z46:=Tryz.sizeOf102
 v46:=Tryz.zeroValue102
 t51:=Tryz.underlying118
 a51:=Tryz.isAgg118
 z51:=Tryz.sizeOf118
 v51:=Tryz.zeroValue118
 t53:=Tryz.underlying121
 a53:=Tryz.isAgg121
 z53:=Tryz.sizeOf121
 v53:=Tryz.zeroValue121
 t70:=Tryz.underlying105
 a70:=Tryz.isAgg105
 z70:=Tryz.sizeOf105
 v70:=Tryz.zeroValue105
 t72:=Tryz.underlying107
 a72:=Tryz.isAgg107
 z72:=Tryz.sizeOf107
 v72:=Tryz.zeroValue107
 t75:=Tryz.underlying110
 a75:=Tryz.isAgg110
 z75:=Tryz.sizeOf110
 v75:=Tryz.zeroValue110
 t76:=Tryz.underlying111
 a76:=Tryz.isAgg111
 z76:=Tryz.sizeOf111
 v76:=Tryz.zeroValue111
 t109:=Tryz.underlying103
 a109:=Tryz.isAgg103
 z109:=Tryz.sizeOf103
 v109:=Tryz.zeroValue103
 t127:=Tryz.underlying124
 a127:=Tryz.isAgg124
 z127:=Tryz.sizeOf124
 v127:=Tryz.zeroValue124
 t146:=Tryz.underlying119
 a146:=Tryz.isAgg119
 z146:=Tryz.sizeOf119
 v146:=Tryz.zeroValue119
 t148:=Tryz.underlying122
 a148:=Tryz.isAgg122
 z148:=Tryz.sizeOf122
 v148:=Tryz.zeroValue122
 t164:=Tryz.underlying127
 a164:=Tryz.isAgg127
 z164:=Tryz.sizeOf127
 v164:=Tryz.zeroValue127 }
theorem Tryz.Builder_Extra_105 : Builder.Extra Tryz.prog Tryz.lays105_ren:={
 sizeBuilder:=by kernel_rfl
 liesBuilder:=by kernel_rfl
 t5:=Tryz.underlying5
 a5:=Tryz.isAgg5
 z5:=Tryz.sizeOf5
 v5:=Tryz.zeroValue5
 infoByte:=by kernel_rfl
 cellsByte:=by kernel_rfl
 sizeByte:=by kernel_rfl
 neB5:=by decide }
open Go.RowKit Go.Lib in
theorem Tryz.strings_Repeat_main (s : ByteArray) (c : Nat) (w : World) (hc2 : 2 ≤ c) (hc : c ≤ 9223372036854775807) (hlen : s.size * c ≤ 140737488355328) (h0 : 0 < s.size) :
  Calls Tryz.prog 68 #[.string s,.int .i64 c] w fun e w' => e = .returned (.string ⟨(Lib.repeatL s.data.toList c).toArray⟩) ∧ Below w.heap.size w w':=Any.strings_Repeat_main Tryz.lays105 Tryz.Builder_Extra_105 s c w hc2 hc hlen h0
open Go.RowKit Go.Lib in
theorem Tryz.strings_Repeat_zero (s : ByteArray) (w : World) :
  Calls Tryz.prog 68 #[.string s,.int .i64 0] w fun e w' => e = .returned (.string ⟨#[]⟩) ∧ w' = w:=Any.strings_Repeat_zero Tryz.lays105 s w
open Go.RowKit Go.Lib in
theorem Tryz.strings_Repeat_one (s : ByteArray) (w : World) :
  Calls Tryz.prog 68 #[.string s,.int .i64 1] w fun e w' => e = .returned (.string s) ∧ w' = w:=Any.strings_Repeat_one Tryz.lays105 s w
open Go.RowKit Go.Lib in
theorem Tryz.strings_Repeat_empty (s : ByteArray) (c : Nat) (w : World) (hc2 : 2 ≤ c) (hc : c ≤ 9223372036854775807) (h0 : s.size = 0) :
  Calls Tryz.prog 68 #[.string s,.int .i64 c] w fun e w' => e = .returned (.string ⟨#[]⟩) ∧ w' = w:=Any.strings_Repeat_empty Tryz.lays105 s c w hc2 hc h0
open Go.RowKit Go.Lib in
theorem Tryz.strings_Repeat_negative (s : ByteArray) (c : Int) (w : World) (hc : c < 0) :
  Calls Tryz.prog 68 #[.string s,.int .i64 c] w fun e w' => e = .panicked [{ v:=repeatPanic Tryz.lays105_ren "strings: negative Repeat count", recovered:=false }] ∧ w' = w:=Any.strings_Repeat_negative Tryz.lays105 s c w hc
open Go.RowKit Go.Lib in
theorem Tryz.strings_Repeat_overflow (s : ByteArray) (c : Nat) (w : World) (hc : c ≤ 9223372036854775807) (hs : s.size ≤ 9223372036854775807) (hbig : 9223372036854775807 < s.size * c) :
  Calls Tryz.prog 68 #[.string s,.int .i64 c] w fun e w' => e = .panicked [{ v:=repeatPanic Tryz.lays105_ren "strings: Repeat output length overflow", recovered:=false }] ∧ w' = w:=Any.strings_Repeat_overflow Tryz.lays105 s c w hc hs hbig
open Go.RowKit Go.Lib in
theorem Tryz.strings_Repeat (s : ByteArray) (c : Nat) (w : World) (hc : c ≤ 9223372036854775807) (hlen : s.size * c ≤ 140737488355328) :
  Calls Tryz.prog 68 #[.string s,.int .i64 c] w fun e w' => e = .returned (.string ⟨(Lib.repeatL s.data.toList c).toArray⟩) ∧ Below w.heap.size w w':=Any.strings_Repeat Tryz.lays105 Tryz.Builder_Extra_105 s c w hc hlen
end Go.Proofs
end
