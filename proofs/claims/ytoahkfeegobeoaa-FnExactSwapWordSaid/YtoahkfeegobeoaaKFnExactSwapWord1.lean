import Derived.Test.YtoahkfeegobeoaaProg
import Derived.Below
import Derived.Deep.Draws
import Derived.Deep.AppendLies
import Derived.Maps.AppendAt
import Derived.OwnWalk
import Derived.Laws.BytesArg
import Derived.Laws.MakeOwn
import Derived.Laws.OwnMore
import Derived.Deep.OwnRows
import Derived.Tactics
import Derived.Lib.ConvBytes
import Derived.Laws.Slices
import Derived.WalkKit
import Derived.KernelRfl
import Derived.RowKit3
import Derived.Deep.LoopGhost
import Derived.Deep.QuietTactic
import Derived.BigQuiet
import Derived.WideLaws
import Derived.Deep.DeepCutAuto
import Derived.Deep.CutBlock
import Derived.Deep.RegionHeld3
import Derived.Laws.Rows
import Derived.Lib.AppendStr
import Derived.ArgAppend
import Derived.Laws.IdiomCopy
import Derived.OrdersHeld
import Derived.Laws.BitsLemmas
import Derived.RowKit
import Derived.Test.YtoahkfeegobeoaaKW1
import Derived.Laws.StructEq
import Derived.Laws.IdiomStrings
section
namespace Go.Proofs.Ytoahkfeegobeoaa.X
open Go.RowKit Go.Proofs.YtoahkfeegobeoaaW.PrintWords Go.Proofs.YtoahkfeegobeoaaW.PrintLast Go.Proofs.YtoahkfeegobeoaaW.PrintMore
attribute [local go_sem] max2_int min2_int max_two min_two max_three min_three max_four min_four
set_option linter.unusedVariables false
set_option linter.unusedSimpArgs false
def FnAt (P : Program) (q : FuncId) : Prop := ∃ fn,P.funcs[q]? = some fn ∧ (fn.name == "runtime.NumGoroutine") = false ∧ fn.body.isSome = true
section
variable {P : Program} {ops : Array Oper} {Q : Exit → Act → World → Prop}
theorem gate_dyn {rest : List Oper} {o : Oper} {a : Act} {W : World} {t : Tmp} {os : Array Operand} {ts : Array TypeId} (_ho : o.op = .call { callee:=.value (.tmp t),args:=os,argTypes:=ts }) (h : wpList P ops Q (o :: rest) a W) : wpList P ops Q (o :: rest) a W:=h
theorem goesLD_ {rest : List Oper} {oi : Oper} {a : Act} {w : World} (N : Option Tmp) (hd : oi.dst = N) (hg : oi.guard = none) {q : FuncId} (hq : FnAt P q) {os : Array Operand} {ts : Array TypeId} {t : Tmp} {Fb C : Array Value} (xs : Array Value)
  (hop : oi.op = .call { callee:=.value (.tmp t),args:=os,argTypes:=ts }) (hv : a.eval (.tmp t) = .func (.func q) Fb C) (hargs : os.map a.eval = xs)
  (h : Calls P q (Fb ++ xs ++ C) w fun e w' => ∃ v,e = .returned v ∧ wpList P ops Q rest (a.put N v) w') : wpList P ops Q (oi :: rest) a w:=by
 obtain ⟨fn,hf,hname,hb⟩:=hq
 refine wpList_plain hg fun K hK => ?_
 have he:=enters_ hf hname hb (Fb ++ xs ++ C) w
 have hrun : (execOp a.eval oi).run P w = .ok (.enter q (Fb ++ xs ++ C)) w:=by
  unfold execOp
  simp [hop,resolve,Deferred.ofValue,invoke,hv,hargs]
  rw [← Array.append_assoc];exact he
 unfold Oper.wp
 rw [hrun,Oper.upon_enter]
 refine h.mono fun e w'' hh => ?_
 obtain ⟨v,rfl,hk⟩:=hh
 subst hd
 exact hK _ _ hk
theorem goesD_ {oi : Oper} {N : Option Tmp} {a : Act} {w : World} {K : Act → World → Prop} {q : FuncId} (hq : FnAt P q) {os : Array Operand} {ts : Array TypeId} {t : Tmp} {Fb C : Array Value} (xs : Array Value)
  (hw : Region.wanted oi (yielded ops a.tmps) = true) (hN : oi.dst = N) (hop : oi.op = .call { callee:=.value (.tmp t),args:=os,argTypes:=ts }) (hv : a.eval (.tmp t) = .func (.func q) Fb C) (hargs : os.map a.eval = xs)
  (h : Calls P q (Fb ++ xs ++ C) w fun e w' => ∃ v,e = .returned v ∧ K (a.put N v) w') : if Region.wanted oi (yielded ops a.tmps) = true then Oper.wp P oi a w K Q else K (a.put N undef) w:=by
 obtain ⟨fn,hf,hname,hb⟩:=hq
 have he:=enters_ hf hname hb (Fb ++ xs ++ C) w
 refine call_ q (Fb ++ xs ++ C) hw hN ?_ h
 unfold execOp
 simp [hop,resolve,Deferred.ofValue,invoke,hv,hargs]
 rw [← Array.append_assoc];exact he
end
end Go.Proofs.Ytoahkfeegobeoaa.X
end
section
namespace Go.Proofs.Ytoahkfeegobeoaa.X
open Go.RowKit Go.Proofs.YtoahkfeegobeoaaW.PrintWords Go.Proofs.YtoahkfeegobeoaaW.PrintLast Go.Proofs.YtoahkfeegobeoaaW.PrintMore
attribute [local go_sem] max2_int min2_int max_two min_two max_three min_three max_four min_four
set_option linter.unusedVariables false
set_option linter.unusedSimpArgs false
def errW : Option Int → Value
 | none => .nilIface
 | some c => .iface 0 (.int .i64 c)
theorem errW_none : errW none = .nilIface:=rfl
theorem errW_some (c : Int) : errW (some c) = .iface 0 (.int .i64 c):=rfl
theorem info3 : (Try.prog.info? 3).map (fun i => (i.zero,i.size,i.bytes)) = some (some (.int .i64 0),1,8):=by kernel_rfl
theorem info49 : (Try.prog.info? 49).map (fun i => (i.zero,i.size,i.bytes)) = some (some (.agg #[(.string ⟨#[]⟩),(.slice none 0 0)]),2,40):=by kernel_rfl
structure S49 where
 f0 : ByteArray
 f1 : (List S49)
def z49 : S49:=⟨(⟨#[]⟩ : ByteArray),([] : List S49)⟩
def F49 (d : Kd S49) : Kd S49:=Kd.iso (Kd.pair Kd.string (Kd.slice 49 d)) (fun x : S49 => (x.f0,x.f1))
theorem mono49 : Kd.Mono F49:=Kd.mono_iso _ (Kd.mono_pair (Kd.mono_const _) (Kd.mono_slice 49 Kd.mono_id))
theorem sub49 : Kd.Sub F49 [49]:=Kd.sub_iso _ (Kd.sub_pair (Kd.sub_const _ (by decide)) (Kd.sub_slice 49 (by decide) Kd.sub_id))
theorem sz49 : ∀ n,(Kd.upto F49 2 [49] n).sz = 2:=Kd.upto_sz (fun _ => rfl)
def k49 : Kd S49:=Kd.fix F49 2 [49] sz49 (Kd.upto_E sub49)
theorem k49_open {w : World} {x : S49} {cs : List Value} (h : k49.K w x cs) : ∃ A1 c1,cs = [.string x.f0,.slice A1 x.f1.length c1] ∧ x.f1.length ≤ c1 ∧ k49.C w A1 x.f1.length x.f1:=by
 obtain ⟨n,h⟩:=h
 cases n with
 | zero => exact h.elim
 | succ n =>
  obtain ⟨_,_,rfl,rfl,⟨A1,c1,rfl,l1,g1⟩⟩:=h
  exact ⟨A1,c1,rfl,l1,Kd.fix_C g1⟩
theorem k49_openM {w : World} {base : Nat} {ok : Nat → Prop} {x : S49} {cs : List Value} (h : k49.M w base ok x cs) : ∃ v1,cs = [.string x.f0,v1] ∧ k49.R 49 w base ok v1 x.f1:=by
 obtain ⟨n,h⟩:=h
 cases n with
 | zero => exact h.elim
 | succ n =>
  obtain ⟨_,_,rfl,rfl,⟨v1,rfl,g1⟩⟩:=h
  exact ⟨v1,rfl,Kd.fix_R g1⟩
theorem k49_mk (w : World) (x : S49) {A1 : Option Addr} {c1 : Nat} (l1 : x.f1.length ≤ c1) (g1 : k49.C w A1 x.f1.length x.f1) : k49.K w x [.string x.f0,.slice A1 x.f1.length c1]:=by
 obtain ⟨n1,q1⟩:=Kd.fix_C_back mono49 g1
 have r1:=Kd.upto_C_le mono49 sz49 (show n1 ≤ n1 by omega) q1
 exact ⟨n1 + 1,⟨[.string x.f0],[.slice A1 x.f1.length c1],rfl,rfl,⟨A1,c1,rfl,l1,r1⟩⟩⟩
theorem k49_mkM (w : World) (base : Nat) (ok : Nat → Prop) (x : S49) {v1 : Value} (g1 : k49.R 49 w base ok v1 x.f1) : k49.M w base ok x [.string x.f0,v1]:=by
 obtain ⟨n1,q1⟩:=Kd.fix_R_back mono49 g1
 have r1:=Kd.upto_R_le mono49 sz49 (show n1 ≤ n1 by omega) q1
 exact ⟨n1 + 1,⟨[.string x.f0],[v1],rfl,rfl,⟨v1,rfl,r1⟩⟩⟩
def rd_T49 (xs : List S49) (i : Int) : S49:=xs.getD i.toNat z49
theorem at_T49 {w : World} {A : Option Addr} {n : Nat} {xs : List S49} (h : Kd.C k49 w A n xs) (i : Int) (h0 : 0 ≤ i) (h1 : i < n) : ∃ ad A1 c1,A = some ad ∧ w.cell? (ad.add (i.toNat * 2)) = some (.string (rd_T49 xs i).f0) ∧ w.cell? ⟨(ad.add (i.toNat * 2)).block,(ad.add (i.toNat * 2)).off + 1,none⟩ = some (.slice A1 (rd_T49 xs i).f1.length c1) ∧ (rd_T49 xs i).f1.length ≤ c1 ∧ k49.C w A1 (rd_T49 xs i).f1.length (rd_T49 xs i).f1:=by
 obtain ⟨ad,c,e,_,hK,hc0⟩:=Kd.C_get h z49 i h0 h1
 have hc : ∀ j u,c[j]? = some u → w.cell? (ad.add (i.toNat * 2 + j)) = some u:=hc0
 obtain ⟨A1,c1,rfl,l1,g1⟩:=k49_open hK
 exact ⟨ad,A1,c1,e,hc 0 _ rfl,by rw [← add_field _ _ 1 (by omega)];exact hc 1 _ rfl,l1,g1⟩
end Go.Proofs.Ytoahkfeegobeoaa.X
end
section
namespace Go.Proofs.Ytoahkfeegobeoaa.X
open Go.RowKit Go.Proofs.YtoahkfeegobeoaaW.PrintWords Go.Proofs.YtoahkfeegobeoaaW.PrintLast Go.Proofs.YtoahkfeegobeoaaW.PrintMore
attribute [local go_sem] max2_int min2_int max_two min_two max_three min_three max_four min_four
set_option linter.unusedVariables false
set_option linter.unusedSimpArgs false
def impl_WordValid.l0 : Nat → ByteArray → Int → Int → Option (Bool)
 | 0,_,_,_ => none
 | k + 1,x0,x5,x6 => if x6 < x5 then (if 0 ≤ x6 then (if x6 < (x0.size : Int) then (if (bt x0 x6) = 97 then (impl_WordValid.l0 k x0 x5 (wrap64 (x6 + 1))) else (if (bt x0 x6) = 98 then (impl_WordValid.l0 k x0 x5 (wrap64 (x6 + 1))) else (some false))) else (none)) else (none)) else (some (decide ((x0.size : Int) ≤ 1000)))
def impl_WordValid.f (k : Nat) (a0 : ByteArray) : Option (Bool):=impl_WordValid.l0 k a0 (a0.size : Int) 0
theorem impl_WordValid.mono_l : ∀ k,(∀ y0 y1 y2,LeO (impl_WordValid.l0 k y0 y1 y2) (impl_WordValid.l0 (k + 1) y0 y1 y2))
 | 0 => fun _ _ _ r h => by simp [impl_WordValid.l0] at h
 | k + 1 => by
  have ih0:=impl_WordValid.mono_l k
  ·intro y0 y1 y2
   unfold impl_WordValid.l0
   repeat' first
   | (with_reducible exact ih0 _ _ _)
   | (with_reducible exact LeO.refl _)
   | (with_reducible exact LeO.none _)
   | (with_reducible refine LeO.ite ?_ ?_)
   | (with_reducible refine LeO.bind ?_ (fun _ => ?_))
   | exact ih0 _ _ _
   | exact LeO.none _
   | refine LeO.ite ?_ ?_
   | refine LeO.bind ?_ (fun _ => ?_)
theorem impl_WordValid.mono : ∀ a0 k,LeO (impl_WordValid.f k a0) (impl_WordValid.f (k + 1) a0):=by
 intro a0 k
 have ih0:=impl_WordValid.mono_l k
 unfold impl_WordValid.f
 repeat' first
   | (with_reducible exact ih0 _ _ _)
   | (with_reducible exact LeO.refl _)
   | (with_reducible exact LeO.none _)
   | (with_reducible refine LeO.ite ?_ ?_)
   | (with_reducible refine LeO.bind ?_ (fun _ => ?_))
   | exact ih0 _ _ _
   | exact LeO.none _
   | refine LeO.ite ?_ ?_
   | refine LeO.bind ?_ (fun _ => ?_)
set_option maxHeartbeats 8000000 in
set_option maxRecDepth 100000 in
theorem impl_WordValid.calls (k : Nat) (a0 : ByteArray) (r : Bool) (w : World) (h : impl_WordValid.f k a0 = some r) :
  Calls Try.prog 23 #[.string a0] w fun e w' => e = .returned (.bool r) ∧ Drawn0 w w':=by
 have H : (impl_WordValid.l0 k a0 (a0.size : Int) 0) = some r:=h
 clear h
 have H':=Aside0.mk H
 clear H
 go_enter Try.func23,Try.ntmps23
 go_wp2
 go_loopg [6] k (fun kq v6 w' => ∃ (x6_1 : Int),v6 = .int .i64 x6_1 ∧ Aside0 (impl_WordValid.l0 kq a0 (a0.size : Int) x6_1 = some r) ∧ Aside0 (kq ≤ k) ∧ Drawn0 w w')
 case atStart => exact ⟨(0),(by first|rfl|(simp;done)|(simp [*];done)),H',⟨Nat.le_refl _⟩,by repeat (first|exact Drawn0.refl _|apply Drawn0.step)⟩
 case round =>
  clear H'
  obtain ⟨x6_1,rfl,HA,HK1,⟨m1,rfl⟩⟩:=hrel
  cases gk with
  | zero => exact absurd HA.out (by simp [impl_WordValid.l0])
  | succ k1 =>
   have H:=HA.out
   clear HA
   simp only [impl_WordValid.l0] at H
   by_cases c2 : x6_1 < (a0.size : Int)
   ·rw [if_pos c2] at H
    have c2b0 : decide (x6_1 < (a0.size : Int)) = true:=decide_eq_true c2
    clear c2
    by_cases c3 : 0 ≤ x6_1
    ·rw [if_pos c3] at H
     have c3b0 : decide (0 ≤ x6_1) = true:=decide_eq_true c3
     clear c3
     by_cases c4 : x6_1 < (a0.size : Int)
     ·rw [if_pos c4] at H
      have c4b0 : decide (x6_1 < (a0.size : Int)) = true:=decide_eq_true c4
      clear c4
      by_cases c6 : (bt a0 x6_1) = 97
      ·rw [if_pos c6] at H
       have c6b0 : ((bt a0 x6_1) == 97) = true:=beq_iff_eq.mpr c6
       have c6b1 : ((bt a0 x6_1) != 97) = false:=bne_eq_false_iff_eq.mpr c6
       clear c6
       have H':=Aside0.mk H
       clear H
       have p5 : 0 ≤ (x6_1 : Int):=of_decide_eq_true (by first|(with_reducible assumption)|assumption)
       have q5 : x6_1 < (a0.size : Int):=of_decide_eq_true (by first|(with_reducible assumption)|assumption)
       have hx5:=bt_at a0 x6_1
       replace p5:=eq_true p5
       replace q5:=eq_true q5
       go_wp2
       go_roundg k1
       case measure => have:=HK1.out;omega
       case rel => exact ⟨(wrap64 (x6_1 + 1)),(by first|rfl|(simp;done)|(simp [*];done)),H',⟨by have:=HK1.out;omega⟩,by repeat (first|exact Drawn0.refl _|apply Drawn0.step)⟩
      ·rw [if_neg c6] at H
       have c6b0 : ((bt a0 x6_1) == 97) = false:=beq_eq_false_iff_ne.mpr c6
       have c6b1 : ((bt a0 x6_1) != 97) = true:=bne_iff_ne.mpr c6
       by_cases c8 : (bt a0 x6_1) = 98
       ·rw [if_pos c8] at H
        have c8b0 : ((bt a0 x6_1) == 98) = true:=beq_iff_eq.mpr c8
        have c8b1 : ((bt a0 x6_1) != 98) = false:=bne_eq_false_iff_eq.mpr c8
        clear c8
        have H':=Aside0.mk H
        clear H
        have p5 : 0 ≤ (x6_1 : Int):=of_decide_eq_true (by first|(with_reducible assumption)|assumption)
        have q5 : x6_1 < (a0.size : Int):=of_decide_eq_true (by first|(with_reducible assumption)|assumption)
        have hx5:=bt_at a0 x6_1
        replace p5:=eq_true p5
        replace q5:=eq_true q5
        have p7 : 0 ≤ (x6_1 : Int):=of_decide_eq_true (by first|(with_reducible assumption)|assumption)
        have q7 : x6_1 < (a0.size : Int):=of_decide_eq_true (by first|(with_reducible assumption)|assumption)
        have hx7:=bt_at a0 x6_1
        replace p7:=eq_true p7
        replace q7:=eq_true q7
        go_wp2
        go_roundg k1
        case measure => have:=HK1.out;omega
        case rel => exact ⟨(wrap64 (x6_1 + 1)),(by first|rfl|(simp;done)|(simp [*];done)),H',⟨by have:=HK1.out;omega⟩,by repeat (first|exact Drawn0.refl _|apply Drawn0.step)⟩
       ·rw [if_neg c8] at H
        have c8b0 : ((bt a0 x6_1) == 98) = false:=beq_eq_false_iff_ne.mpr c8
        have c8b1 : ((bt a0 x6_1) != 98) = true:=bne_iff_ne.mpr c8
        obtain rfl:=Option.some.inj H
        have p5 : 0 ≤ (x6_1 : Int):=of_decide_eq_true (by first|(with_reducible assumption)|assumption)
        have q5 : x6_1 < (a0.size : Int):=of_decide_eq_true (by first|(with_reducible assumption)|assumption)
        have hx5:=bt_at a0 x6_1
        replace p5:=eq_true p5
        replace q5:=eq_true q5
        have p7 : 0 ≤ (x6_1 : Int):=of_decide_eq_true (by first|(with_reducible assumption)|assumption)
        have q7 : x6_1 < (a0.size : Int):=of_decide_eq_true (by first|(with_reducible assumption)|assumption)
        have hx7:=bt_at a0 x6_1
        replace p7:=eq_true p7
        replace q7:=eq_true q7
        go_wp2
        go_ret
        exact ⟨by first|rfl|(simp;done)|(simp [*];done),by repeat (first|exact Drawn0.refl _|apply Drawn0.step)⟩
     ·rw [if_neg c4] at H
      exact absurd H (by simp)
    ·rw [if_neg c3] at H
     exact absurd H (by simp)
   ·rw [if_neg c2] at H
    have c2b0 : decide (x6_1 < (a0.size : Int)) = false:=decide_eq_false c2
    clear c2
    obtain rfl:=Option.some.inj H
    go_wp2
    go_ret
    exact ⟨by first|rfl|(simp;done)|(simp [*];done),by repeat (first|exact Drawn0.refl _|apply Drawn0.step)⟩
end Go.Proofs.Ytoahkfeegobeoaa.X
end
section
namespace Go.Proofs.Ytoahkfeegobeoaa.X
open Go.RowKit Go.Proofs.YtoahkfeegobeoaaW.PrintWords Go.Proofs.YtoahkfeegobeoaaW.PrintLast Go.Proofs.YtoahkfeegobeoaaW.PrintMore
attribute [local go_sem] max2_int min2_int max_two min_two max_three min_three max_four min_four
set_option linter.unusedVariables false
set_option linter.unusedSimpArgs false
def impl_SwapWord.row (l : List UInt8) (z j : Nat) : Array Value:=(((l.take j).map (fun (x : UInt8) => x ^^^ 3) ++ l.drop j).map (fun (b : UInt8) => Value.int .u8 b.toNat)).toArray ++ Array.replicate z (.int .u8 0)
def impl_SwapWord.f (k : Nat) (a0 : ByteArray) : Option (ByteArray):=(impl_WordValid.f k a0).bind fun t => if t = true then (if a0.size ≤ 4611686018427387904 then some ⟨(a0.data.toList.map (fun (x : UInt8) => x ^^^ 3)).toArray⟩ else none) else some ⟨#[]⟩
theorem impl_SwapWord.mono : ∀ a0 k,LeO (impl_SwapWord.f k a0) (impl_SwapWord.f (k + 1) a0):=by
 intro a0 k
 unfold impl_SwapWord.f
 exact LeO.bind (impl_WordValid.mono _ _) (fun _ => LeO.refl _)
theorem impl_SwapWord.row0 (a0 : ByteArray) (cap : Nat) : bytesRow a0 cap = impl_SwapWord.row a0.data.toList (cap - a0.size) 0:=by
 unfold bytesRow impl_SwapWord.row
 congr 1
 simp
 rw [← List.map_toArray]
theorem impl_SwapWord.row_size (l : List UInt8) (z j : Nat) : (impl_SwapWord.row l z j).size = l.length + z:=by
 unfold impl_SwapWord.row
 simp
 omega
theorem impl_SwapWord.row_at (l : List UInt8) (z j : Nat) (hj : j < l.length) : (impl_SwapWord.row l z j)[j]? = some (.int .u8 (l[j].toNat : Int)):=by
 unfold impl_SwapWord.row
 rw [Array.getElem?_append_left (by simp;omega)]
 simp only [List.getElem?_toArray,List.getElem?_map]
 rw [List.getElem?_append_right (by simp;omega)]
 simp [Nat.min_eq_left (Nat.le_of_lt hj)]
 exact ⟨_,List.getElem?_eq_getElem hj,rfl⟩
theorem impl_SwapWord.row_end (l : List UInt8) (z i : Nat) (hi : i < (l.map (· ^^^ 3)).length) : (impl_SwapWord.row l z l.length)[i]? = some (.int .u8 ((l.map (· ^^^ 3))[i].toNat : Int)):=by
 have hi' : i < l.length:=by simpa using hi
 unfold impl_SwapWord.row
 rw [Array.getElem?_append_left (by simp;omega)]
 simp [hi']
theorem impl_SwapWord.row_set (l : List UInt8) (z j : Nat) (hj : j < l.length) : (impl_SwapWord.row l z j).setIfInBounds j (.int .u8 ((l[j] ^^^ 3).toNat : Int)) = impl_SwapWord.row l z (j + 1):=by
 unfold impl_SwapWord.row
 have e : ∀ (a : List Value) (r : Array Value) (v : Value),j < a.length → (a.toArray ++ r).setIfInBounds j v = (a.set j v).toArray ++ r:=by
  intro a r v h
  apply Array.ext'
  simp [List.set_append,h]
 rw [e _ _ _ (by simp;omega)]
 have e2 : (l.take j).length = j:=by simp;omega
 rw [List.map_append,List.set_append,if_neg (by simp;omega)]
 rw [List.drop_eq_getElem_cons hj,List.take_succ_eq_append_getElem hj]
 simp only [List.map_append,List.map_cons,List.map_nil,List.length_map,e2,Nat.sub_self,List.set_cons_zero,List.append_assoc,List.cons_append,List.nil_append]
theorem impl_SwapWord.xor_b (b : UInt8) : bits .xor .u8 (b.toNat : Int) 3 = ((b ^^^ 3).toNat : Int):=by
 have h : ∀ n : Fin 256,bits .xor .u8 ((UInt8.ofNat n.val).toNat : Int) 3 = ((UInt8.ofNat n.val ^^^ 3).toNat : Int):=by decide +kernel
 have:=h ⟨b.toNat,b.toNat_lt⟩
 simpa using this
set_option maxHeartbeats 8000000 in
set_option maxRecDepth 100000 in
theorem impl_SwapWord.calls (k : Nat) (a0 : ByteArray) (r : ByteArray) (w : World) (h : impl_SwapWord.f k a0 = some r) :
  Calls Try.prog 9 #[.string a0] w fun e w' => e = .returned (.string r) ∧ Below w.heap.size w w':=by
 unfold impl_SwapWord.f at h
 obtain ⟨t,A,H⟩:=Option.bind_eq_some_iff.mp h
 clear h
 have hB0:=Aside0.mk (Below.refl w.heap.size w)
 have AA:=Aside0.mk A
 clear A
 go_enter Try.func9,Try.ntmps9
 by_cases ct : t = true
 ·subst ct
  rw [if_pos rfl] at H
  by_cases hsz : a0.size ≤ 4611686018427387904
  case neg => rw [if_neg hsz] at H;cases H
  rw [if_pos hsz] at H
  obtain rfl:=Option.some.inj H
  clear H
  have kc:=fun (w : World) => run_bytes_of_string (P:=Try.prog) w 9 34 5 a0 Try.underlying9 Try.underlying34 Try.underlying5
  go_wp2_with (first|((with_reducible refine gate_callee (f:=23) rfl ?_);refine goesL_ (some 6) rfl rfl Try.func23 (by kernel_rfl) rfl #[.string a0] rfl (by (try simp only [List.map_toArray,List.map_cons,List.map_nil]);first|done|rfl|(simp only [List.length_drop,List.length_take];rfl)) ?_;(with_reducible refine (impl_WordValid.calls k a0 true _ AA.out).mono ?_);rintro e w' ⟨rfl,⟨nd,rfl⟩⟩;refine ⟨_,rfl,?_⟩))
  have key : ∀ j,j ≤ a0.data.toList.length → True:=fun _ _ => trivial
  have hl : a0.data.toList.length = a0.size:=rfl
  go_loopg [12] a0.size (fun kq v12 w' => ∃ (j : Nat),kq = a0.size - j ∧ j ≤ a0.size ∧ v12 = .int .i64 (j : Int) ∧ w'.heap[w.heap.size]? = some (.cells (impl_SwapWord.row a0.data.toList (grownCap (w.drewN nd) a0.size 0 5 - a0.size) j) 5 ((impl_SwapWord.row a0.data.toList (grownCap (w.drewN nd) a0.size 0 5 - a0.size) j).size,(impl_SwapWord.row a0.data.toList (grownCap (w.drewN nd) a0.size 0 5 - a0.size) j).size + 1)) ∧ Below w.heap.size w w')
  case atStart =>
   refine ⟨0,by omega,by omega,rfl,?_,?_⟩
   ·rw [← impl_SwapWord.row0]
    exact heap_alloc_new _ _
   ·exact below_alloc (pw_below_drewN hB0.out _) _
  case round =>
   obtain ⟨j,rfl,hj,rfl,hh,hb⟩:=hrel
   have HH:=Aside0.mk hh
   have HB:=Aside0.mk hb
   clear hh hb
   by_cases hlt : j < a0.size
   ·have hlt' : j < a0.data.toList.length:=hlt
    have c0 : decide ((j : Int) < (a0.size : Int)) = true:=decide_eq_true (by omega)
    have p0 : (0 ≤ (j : Int)) = True:=eq_true (by omega)
    have q0 : ((j : Int) < (a0.size : Int)) = True:=eq_true (by omega)
    have hc : wr.cell? ⟨w.heap.size,j,none⟩ = some (.int .u8 ((a0.data.toList[j]).toNat : Int)):=by
     unfold World.cell?
     rw [HH.out]
     exact impl_SwapWord.row_at _ _ _ hlt'
    have hf : wr.frozen? ⟨w.heap.size,j,none⟩ = false:=by
     unfold World.frozen?
     rw [HH.out,impl_SwapWord.row_size]
     simp
     omega
    have hc' : wr.cell? ⟨w.heap.size,0 + j,none⟩ = some (.int .u8 ((a0.data.toList[j]).toNat : Int)):=by rw [Nat.zero_add];exact hc
    have hf' : wr.frozen? ⟨w.heap.size,0 + j,none⟩ = false:=by rw [Nat.zero_add];exact hf
    go_wp2
    go_roundg (a0.size - (j + 1))
    case measure => omega
    case rel =>
     refine ⟨j + 1,rfl,by omega,?_,?_,?_⟩
     ·first|(congr 1;done)|(congr 1;omega)|(congr 1;unfold wrap64;omega)
     ·rw [impl_SwapWord.row_size,impl_SwapWord.xor_b]
      have hh:=HH.out
      rw [impl_SwapWord.row_size] at hh
      have hs:=impl_SwapWord.row_set a0.data.toList (grownCap (w.drewN nd) a0.size 0 5 - a0.size) j hlt'
      rw [← hs]
      simp [World.setCell,Array.getElem?_modify,hh]
     ·exact below_set HB.out (Nat.le_refl _)
   ·have c0 : decide ((j : Int) < (a0.size : Int)) = false:=decide_eq_false (by omega)
    obtain rfl : j = a0.size:=by omega
    have el : (a0.data.toList.map (fun (x : UInt8) => x ^^^ 3)).length = a0.size:=by rw [List.length_map];exact hl
    have kb:=run_convert_bytes_back (P:=Try.prog) wr 34 9 5 ⟨w.heap.size,0,none⟩ (grownCap (w.drewN nd) a0.size 0 5) (a0.data.toList.map (fun (x : UInt8) => x ^^^ 3)) Try.underlying34 Try.underlying5 Try.underlying9 (fun i hi => by
     rw [add_plain]
     unfold World.cell?
     rw [HH.out]
     exact impl_SwapWord.row_end _ _ _ hi)
    rw [el] at kb
    go_wp2
    go_ret
    exact ⟨rfl,HB.out⟩
 ·have ct' : t = false:=Bool.eq_false_iff.mpr ct
  subst ct'
  rw [if_neg (by decide)] at H
  obtain rfl:=Option.some.inj H
  clear H
  go_wp2_with (first|((with_reducible refine gate_callee (f:=23) rfl ?_);refine goesL_ (some 6) rfl rfl Try.func23 (by kernel_rfl) rfl #[.string a0] rfl (by (try simp only [List.map_toArray,List.map_cons,List.map_nil]);first|done|rfl|(simp only [List.length_drop,List.length_take];rfl)) ?_;(with_reducible refine (impl_WordValid.calls k a0 false _ AA.out).mono ?_);rintro e w' ⟨rfl,⟨nd,rfl⟩⟩;refine ⟨_,rfl,?_⟩))
  go_ret
  exact ⟨rfl,pw_below_drewN hB0.out _⟩
end Go.Proofs.Ytoahkfeegobeoaa.X
end
section
namespace Go.Proofs.Ytoahkfeegobeoaa.X
open Go.RowKit Go.Proofs.YtoahkfeegobeoaaW.PrintWords Go.Proofs.YtoahkfeegobeoaaW.PrintLast Go.Proofs.YtoahkfeegobeoaaW.PrintMore
attribute [local go_sem] max2_int min2_int max_two min_two max_three min_three max_four min_four
set_option linter.unusedVariables false
set_option linter.unusedSimpArgs false
def spec_l5Other.f (a0 : ByteArray) : Option (ByteArray):=if a0.toList = ([97] : List UInt8) then (some (⟨#[98]⟩ : ByteArray)) else (some (⟨#[97]⟩ : ByteArray))
set_option maxHeartbeats 8000000 in
set_option maxRecDepth 100000 in
theorem spec_l5Other.calls (a0 : ByteArray) (r : ByteArray) (w : World) (h : spec_l5Other.f a0 = some r) :
  Calls Try.prog 22 #[.string a0] w fun e w' => e = .returned (.string r) ∧ Drawn0 w w':=by
 have H : (if a0.toList = ([97] : List UInt8) then (some (⟨#[98]⟩ : ByteArray)) else (some (⟨#[97]⟩ : ByteArray))) = some r:=h
 clear h
 by_cases c2 : a0.toList = ([97] : List UInt8)
 ·rw [if_pos c2] at H
  have c2b0 : (a0.toList == ([97] : List UInt8)) = true:=beq_iff_eq.mpr c2
  have c2b1 : (a0.toList != ([97] : List UInt8)) = false:=bne_eq_false_iff_eq.mpr c2
  clear c2
  obtain rfl:=Option.some.inj H
  go_enter Try.func22,Try.ntmps22
  go_wp2
  go_ret
  exact ⟨by first|rfl|(simp;done)|(simp [*];done),by repeat (first|exact Drawn0.refl _|apply Drawn0.step)⟩
 ·rw [if_neg c2] at H
  have c2b0 : (a0.toList == ([97] : List UInt8)) = false:=beq_eq_false_iff_ne.mpr c2
  have c2b1 : (a0.toList != ([97] : List UInt8)) = true:=bne_iff_ne.mpr c2
  obtain rfl:=Option.some.inj H
  go_enter Try.func22,Try.ntmps22
  go_wp2
  go_ret
  exact ⟨by first|rfl|(simp;done)|(simp [*];done),by repeat (first|exact Drawn0.refl _|apply Drawn0.step)⟩
end Go.Proofs.Ytoahkfeegobeoaa.X
end
section
namespace Go.Proofs.Ytoahkfeegobeoaa.X
open Go.RowKit Go.Proofs.YtoahkfeegobeoaaW.PrintWords Go.Proofs.YtoahkfeegobeoaaW.PrintLast Go.Proofs.YtoahkfeegobeoaaW.PrintMore
attribute [local go_sem] max2_int min2_int max_two min_two max_three min_three max_four min_four
set_option linter.unusedVariables false
set_option linter.unusedSimpArgs false
def spec_WordValid.l0 : Nat → ByteArray → Int → Int → Option (Bool)
 | 0,_,_,_ => none
 | k + 1,x0,x5,x6 => if x6 < x5 then (if 0 ≤ x6 then (if x6 < (x0.size : Int) then (if (bt x0 x6) = 97 then (spec_WordValid.l0 k x0 x5 (wrap64 (x6 + 1))) else (if (bt x0 x6) = 98 then (spec_WordValid.l0 k x0 x5 (wrap64 (x6 + 1))) else (some false))) else (none)) else (none)) else (some (decide ((x0.size : Int) ≤ 1000)))
def spec_WordValid.f (k : Nat) (a0 : ByteArray) : Option (Bool):=spec_WordValid.l0 k a0 (a0.size : Int) 0
theorem spec_WordValid.mono_l : ∀ k,(∀ y0 y1 y2,LeO (spec_WordValid.l0 k y0 y1 y2) (spec_WordValid.l0 (k + 1) y0 y1 y2))
 | 0 => fun _ _ _ r h => by simp [spec_WordValid.l0] at h
 | k + 1 => by
  have ih0:=spec_WordValid.mono_l k
  ·intro y0 y1 y2
   unfold spec_WordValid.l0
   repeat' first
   | (with_reducible exact ih0 _ _ _)
   | (with_reducible exact LeO.refl _)
   | (with_reducible exact LeO.none _)
   | (with_reducible refine LeO.ite ?_ ?_)
   | (with_reducible refine LeO.bind ?_ (fun _ => ?_))
   | exact ih0 _ _ _
   | exact LeO.none _
   | refine LeO.ite ?_ ?_
   | refine LeO.bind ?_ (fun _ => ?_)
theorem spec_WordValid.mono : ∀ a0 k,LeO (spec_WordValid.f k a0) (spec_WordValid.f (k + 1) a0):=by
 intro a0 k
 have ih0:=spec_WordValid.mono_l k
 unfold spec_WordValid.f
 repeat' first
   | (with_reducible exact ih0 _ _ _)
   | (with_reducible exact LeO.refl _)
   | (with_reducible exact LeO.none _)
   | (with_reducible refine LeO.ite ?_ ?_)
   | (with_reducible refine LeO.bind ?_ (fun _ => ?_))
   | exact ih0 _ _ _
   | exact LeO.none _
   | refine LeO.ite ?_ ?_
   | refine LeO.bind ?_ (fun _ => ?_)
set_option maxHeartbeats 8000000 in
set_option maxRecDepth 100000 in
theorem spec_WordValid.calls (k : Nat) (a0 : ByteArray) (r : Bool) (w : World) (h : spec_WordValid.f k a0 = some r) :
  Calls Try.prog 21 #[.string a0] w fun e w' => e = .returned (.bool r) ∧ Drawn0 w w':=by
 have H : (spec_WordValid.l0 k a0 (a0.size : Int) 0) = some r:=h
 clear h
 have H':=Aside0.mk H
 clear H
 go_enter Try.func21,Try.ntmps21
 go_wp2
 go_loopg [6] k (fun kq v6 w' => ∃ (x6_1 : Int),v6 = .int .i64 x6_1 ∧ Aside0 (spec_WordValid.l0 kq a0 (a0.size : Int) x6_1 = some r) ∧ Aside0 (kq ≤ k) ∧ Drawn0 w w')
 case atStart => exact ⟨(0),(by first|rfl|(simp;done)|(simp [*];done)),H',⟨Nat.le_refl _⟩,by repeat (first|exact Drawn0.refl _|apply Drawn0.step)⟩
 case round =>
  clear H'
  obtain ⟨x6_1,rfl,HA,HK1,⟨m1,rfl⟩⟩:=hrel
  cases gk with
  | zero => exact absurd HA.out (by simp [spec_WordValid.l0])
  | succ k1 =>
   have H:=HA.out
   clear HA
   simp only [spec_WordValid.l0] at H
   by_cases c2 : x6_1 < (a0.size : Int)
   ·rw [if_pos c2] at H
    have c2b0 : decide (x6_1 < (a0.size : Int)) = true:=decide_eq_true c2
    clear c2
    by_cases c3 : 0 ≤ x6_1
    ·rw [if_pos c3] at H
     have c3b0 : decide (0 ≤ x6_1) = true:=decide_eq_true c3
     clear c3
     by_cases c4 : x6_1 < (a0.size : Int)
     ·rw [if_pos c4] at H
      have c4b0 : decide (x6_1 < (a0.size : Int)) = true:=decide_eq_true c4
      clear c4
      by_cases c6 : (bt a0 x6_1) = 97
      ·rw [if_pos c6] at H
       have c6b0 : ((bt a0 x6_1) == 97) = true:=beq_iff_eq.mpr c6
       have c6b1 : ((bt a0 x6_1) != 97) = false:=bne_eq_false_iff_eq.mpr c6
       clear c6
       have H':=Aside0.mk H
       clear H
       have p5 : 0 ≤ (x6_1 : Int):=of_decide_eq_true (by first|(with_reducible assumption)|assumption)
       have q5 : x6_1 < (a0.size : Int):=of_decide_eq_true (by first|(with_reducible assumption)|assumption)
       have hx5:=bt_at a0 x6_1
       replace p5:=eq_true p5
       replace q5:=eq_true q5
       go_wp2
       go_roundg k1
       case measure => have:=HK1.out;omega
       case rel => exact ⟨(wrap64 (x6_1 + 1)),(by first|rfl|(simp;done)|(simp [*];done)),H',⟨by have:=HK1.out;omega⟩,by repeat (first|exact Drawn0.refl _|apply Drawn0.step)⟩
      ·rw [if_neg c6] at H
       have c6b0 : ((bt a0 x6_1) == 97) = false:=beq_eq_false_iff_ne.mpr c6
       have c6b1 : ((bt a0 x6_1) != 97) = true:=bne_iff_ne.mpr c6
       by_cases c8 : (bt a0 x6_1) = 98
       ·rw [if_pos c8] at H
        have c8b0 : ((bt a0 x6_1) == 98) = true:=beq_iff_eq.mpr c8
        have c8b1 : ((bt a0 x6_1) != 98) = false:=bne_eq_false_iff_eq.mpr c8
        clear c8
        have H':=Aside0.mk H
        clear H
        have p5 : 0 ≤ (x6_1 : Int):=of_decide_eq_true (by first|(with_reducible assumption)|assumption)
        have q5 : x6_1 < (a0.size : Int):=of_decide_eq_true (by first|(with_reducible assumption)|assumption)
        have hx5:=bt_at a0 x6_1
        replace p5:=eq_true p5
        replace q5:=eq_true q5
        have p7 : 0 ≤ (x6_1 : Int):=of_decide_eq_true (by first|(with_reducible assumption)|assumption)
        have q7 : x6_1 < (a0.size : Int):=of_decide_eq_true (by first|(with_reducible assumption)|assumption)
        have hx7:=bt_at a0 x6_1
        replace p7:=eq_true p7
        replace q7:=eq_true q7
        go_wp2
        go_roundg k1
        case measure => have:=HK1.out;omega
        case rel => exact ⟨(wrap64 (x6_1 + 1)),(by first|rfl|(simp;done)|(simp [*];done)),H',⟨by have:=HK1.out;omega⟩,by repeat (first|exact Drawn0.refl _|apply Drawn0.step)⟩
       ·rw [if_neg c8] at H
        have c8b0 : ((bt a0 x6_1) == 98) = false:=beq_eq_false_iff_ne.mpr c8
        have c8b1 : ((bt a0 x6_1) != 98) = true:=bne_iff_ne.mpr c8
        obtain rfl:=Option.some.inj H
        have p5 : 0 ≤ (x6_1 : Int):=of_decide_eq_true (by first|(with_reducible assumption)|assumption)
        have q5 : x6_1 < (a0.size : Int):=of_decide_eq_true (by first|(with_reducible assumption)|assumption)
        have hx5:=bt_at a0 x6_1
        replace p5:=eq_true p5
        replace q5:=eq_true q5
        have p7 : 0 ≤ (x6_1 : Int):=of_decide_eq_true (by first|(with_reducible assumption)|assumption)
        have q7 : x6_1 < (a0.size : Int):=of_decide_eq_true (by first|(with_reducible assumption)|assumption)
        have hx7:=bt_at a0 x6_1
        replace p7:=eq_true p7
        replace q7:=eq_true q7
        go_wp2
        go_ret
        exact ⟨by first|rfl|(simp;done)|(simp [*];done),by repeat (first|exact Drawn0.refl _|apply Drawn0.step)⟩
     ·rw [if_neg c4] at H
      exact absurd H (by simp)
    ·rw [if_neg c3] at H
     exact absurd H (by simp)
   ·rw [if_neg c2] at H
    have c2b0 : decide (x6_1 < (a0.size : Int)) = false:=decide_eq_false c2
    clear c2
    obtain rfl:=Option.some.inj H
    go_wp2
    go_ret
    exact ⟨by first|rfl|(simp;done)|(simp [*];done),by repeat (first|exact Drawn0.refl _|apply Drawn0.step)⟩
end Go.Proofs.Ytoahkfeegobeoaa.X
end
section
namespace Go.Proofs.Ytoahkfeegobeoaa.X
open Go.RowKit Go.Proofs.YtoahkfeegobeoaaW.PrintWords Go.Proofs.YtoahkfeegobeoaaW.PrintLast Go.Proofs.YtoahkfeegobeoaaW.PrintMore
attribute [local go_sem] max2_int min2_int max_two min_two max_three min_three max_four min_four
set_option linter.unusedVariables false
set_option linter.unusedSimpArgs false
def spec_SwapWord.l0 : Nat → ByteArray → ByteArray → Int → Int → Option (ByteArray)
 | 0,_,_,_,_ => none
 | k + 1,x0,x3,x6,x7 => if x7 < x6 then ((spec_WordValid.f k x0).bind fun t101 => (if t101 = true then (if 0 ≤ x7 then (if x7 ≤ (wrap64 (x7 + 1)) then (if (wrap64 (x7 + 1)) ≤ (x0.size : Int) then ((spec_l5Other.f (x0.extract (x7 : Int).toNat ((wrap64 (x7 + 1)) : Int).toNat)).bind fun t102 => (if x3.size + t102.size ≤ 9223372036854775807 then (spec_SwapWord.l0 k x0 (x3 ++ t102) x6 (wrap64 (x7 + 1))) else (none))) else (none)) else (none)) else (none)) else (some (⟨#[]⟩ : ByteArray)))) else (some x3)
def spec_SwapWord.f (k : Nat) (a0 : ByteArray) : Option (ByteArray):=spec_SwapWord.l0 k a0 (⟨#[]⟩ : ByteArray) (a0.size : Int) 0
theorem spec_SwapWord.mono_l : ∀ k,(∀ y0 y1 y2 y3,LeO (spec_SwapWord.l0 k y0 y1 y2 y3) (spec_SwapWord.l0 (k + 1) y0 y1 y2 y3))
 | 0 => fun _ _ _ _ r h => by simp [spec_SwapWord.l0] at h
 | k + 1 => by
  have ih0:=spec_SwapWord.mono_l k
  ·intro y0 y1 y2 y3
   unfold spec_SwapWord.l0
   repeat' first
   | (with_reducible exact ih0 _ _ _ _)
   | (with_reducible exact spec_WordValid.mono _ _)
   | (with_reducible exact LeO.refl _)
   | (with_reducible exact LeO.none _)
   | (with_reducible refine LeO.ite ?_ ?_)
   | (with_reducible refine LeO.bind ?_ (fun _ => ?_))
   | exact ih0 _ _ _ _
   | exact spec_WordValid.mono _ _
   | exact LeO.none _
   | refine LeO.ite ?_ ?_
   | refine LeO.bind ?_ (fun _ => ?_)
theorem spec_SwapWord.mono : ∀ a0 k,LeO (spec_SwapWord.f k a0) (spec_SwapWord.f (k + 1) a0):=by
 intro a0 k
 have ih0:=spec_SwapWord.mono_l k
 unfold spec_SwapWord.f
 repeat' first
   | (with_reducible exact ih0 _ _ _ _)
   | (with_reducible exact spec_WordValid.mono _ _)
   | (with_reducible exact LeO.refl _)
   | (with_reducible exact LeO.none _)
   | (with_reducible refine LeO.ite ?_ ?_)
   | (with_reducible refine LeO.bind ?_ (fun _ => ?_))
   | exact ih0 _ _ _ _
   | exact spec_WordValid.mono _ _
   | exact LeO.none _
   | refine LeO.ite ?_ ?_
   | refine LeO.bind ?_ (fun _ => ?_)
set_option maxHeartbeats 8000000 in
set_option maxRecDepth 100000 in
theorem spec_SwapWord.calls (k : Nat) (a0 : ByteArray) (r : ByteArray) (w : World) (h : spec_SwapWord.f k a0 = some r) :
  Calls Try.prog 8 #[.string a0] w fun e w' => e = .returned (.string r) ∧ Drawn0 w w':=by
 have H : (spec_SwapWord.l0 k a0 (⟨#[]⟩ : ByteArray) (a0.size : Int) 0) = some r:=h
 clear h
 have H':=Aside0.mk H
 clear H
 go_enter Try.func8,Try.ntmps8
 go_wp2
 go_loopg [3,7] k (fun kq v3 v7 w' => ∃ (x3_1 : ByteArray) (x7_1 : Int),v3 = .string x3_1 ∧ v7 = .int .i64 x7_1 ∧ Aside0 (spec_SwapWord.l0 kq a0 x3_1 (a0.size : Int) x7_1 = some r) ∧ Aside0 (kq ≤ k) ∧ Drawn0 w w')
 case atStart => exact ⟨((⟨#[]⟩ : ByteArray)),(0),(by first|rfl|(simp;done)|(simp [*];done)),(by first|rfl|(simp;done)|(simp [*];done)),H',⟨Nat.le_refl _⟩,by repeat (first|exact Drawn0.refl _|apply Drawn0.step)⟩
 case round =>
  clear H'
  obtain ⟨x3_1,x7_1,rfl,rfl,HA,HK1,⟨m1,rfl⟩⟩:=hrel
  cases gk with
  | zero => exact absurd HA.out (by simp [spec_SwapWord.l0])
  | succ k1 =>
   have H:=HA.out
   clear HA
   simp only [spec_SwapWord.l0] at H
   by_cases c2 : x7_1 < (a0.size : Int)
   ·rw [if_pos c2] at H
    have c2b0 : decide (x7_1 < (a0.size : Int)) = true:=decide_eq_true c2
    clear c2
    replace H:=Option.bind_eq_some_iff.mp H
    obtain ⟨t101,A30,H⟩:=H
    replace H : (if t101 = true then (if 0 ≤ x7_1 then (if x7_1 ≤ (wrap64 (x7_1 + 1)) then (if (wrap64 (x7_1 + 1)) ≤ (a0.size : Int) then ((spec_l5Other.f (a0.extract (x7_1 : Int).toNat ((wrap64 (x7_1 + 1)) : Int).toNat)).bind fun t102 => (if x3_1.size + t102.size ≤ 9223372036854775807 then (spec_SwapWord.l0 k1 a0 (x3_1 ++ t102) (a0.size : Int) (wrap64 (x7_1 + 1))) else (none))) else (none)) else (none)) else (none)) else (some (⟨#[]⟩ : ByteArray))) = some r:=H
    have A3:=Aside0.mk A30
    clear A30
    by_cases c4 : t101 = true
    ·subst c4
     have H1 : (if 0 ≤ x7_1 then (if x7_1 ≤ (wrap64 (x7_1 + 1)) then (if (wrap64 (x7_1 + 1)) ≤ (a0.size : Int) then ((spec_l5Other.f (a0.extract (x7_1 : Int).toNat ((wrap64 (x7_1 + 1)) : Int).toNat)).bind fun t102 => (if x3_1.size + t102.size ≤ 9223372036854775807 then (spec_SwapWord.l0 k1 a0 (x3_1 ++ t102) (a0.size : Int) (wrap64 (x7_1 + 1))) else (none))) else (none)) else (none)) else (none)) = some r:=by rw [if_pos rfl] at H;exact H
     clear H
     have H:=H1
     clear H1
     by_cases c5 : 0 ≤ x7_1
     ·rw [if_pos c5] at H
      have c5b0:=eq_true c5
      have c5b1 : decide (0 ≤ x7_1) = true:=decide_eq_true c5
      clear c5
      by_cases c6 : x7_1 ≤ (wrap64 (x7_1 + 1))
      ·rw [if_pos c6] at H
       have c6b0:=eq_true c6
       have c6b1 : decide (x7_1 ≤ (wrap64 (x7_1 + 1))) = true:=decide_eq_true c6
       by_cases c7 : (wrap64 (x7_1 + 1)) ≤ (a0.size : Int)
       ·rw [if_pos c7] at H
        have c7b0:=eq_true c7
        have c7b1 : decide ((wrap64 (x7_1 + 1)) ≤ (a0.size : Int)) = true:=decide_eq_true c7
        replace H:=Option.bind_eq_some_iff.mp H
        obtain ⟨t102,A80,H⟩:=H
        replace H : (if x3_1.size + t102.size ≤ 9223372036854775807 then (spec_SwapWord.l0 k1 a0 (x3_1 ++ t102) (a0.size : Int) (wrap64 (x7_1 + 1))) else (none)) = some r:=H
        have A8:=Aside0.mk A80
        clear A80
        by_cases c9 : x3_1.size + t102.size ≤ 9223372036854775807
        ·rw [if_pos c9] at H
         have c9b0:=eq_true c9
         have c9b1 : decide (x3_1.size + t102.size ≤ 9223372036854775807) = true:=decide_eq_true c9
         try have c9b2 : (9223372036854775807 < x3_1.size + t102.size) = False:=eq_false (Nat.not_lt.2 c9)
         try have c6b1_c9 : decide (x7_1 ≤ ((x7_1 + 1))) = true:=by rw [show wrap64 (x7_1 + 1) = (x7_1 + 1) from by unfold wrap64;omega] at c6b1;exact c6b1
         try have c7b1_c9 : decide (((x7_1 + 1)) ≤ (a0.size : Int)) = true:=by rw [show wrap64 (x7_1 + 1) = (x7_1 + 1) from by unfold wrap64;omega] at c7b1;exact c7b1
         have H':=Aside0.mk H
         clear H
         go_wp2_with (first|((with_reducible refine gate_callee (f:=21) rfl ?_);refine goesL_ (some 11) rfl rfl Try.func21 (by kernel_rfl) rfl #[.string a0] rfl (by (try simp only [List.map_toArray,List.map_cons,List.map_nil]);first|done|rfl|(simp only [List.length_drop,List.length_take];rfl)) ?_;(with_reducible refine (spec_WordValid.calls k1 a0 true _ A3.out).mono ?_);rintro e w' ⟨rfl,⟨nd,rfl⟩⟩;refine ⟨_,rfl,?_⟩)|((with_reducible refine gate_callee (f:=22) rfl ?_);refine goesL_ (some 19) rfl rfl Try.func22 (by kernel_rfl) rfl #[.string (a0.extract (x7_1 : Int).toNat ((wrap64 (x7_1 + 1)) : Int).toNat)] rfl (by (try simp only [List.map_toArray,List.map_cons,List.map_nil]);first|done|rfl|(simp only [List.length_drop,List.length_take];rfl)) ?_;(with_reducible refine (spec_l5Other.calls (a0.extract (x7_1 : Int).toNat ((wrap64 (x7_1 + 1)) : Int).toNat) t102 _ A8.out).mono ?_);rintro e w' ⟨rfl,⟨nd,rfl⟩⟩;refine ⟨_,rfl,?_⟩))
         go_roundg k1
         case measure => have:=HK1.out;omega
         case rel => exact ⟨(x3_1 ++ t102),(wrap64 (x7_1 + 1)),(by first|rfl|(simp;done)|(simp [*];done)),(by first|rfl|(simp;done)|(simp [*];done)),H',⟨by have:=HK1.out;omega⟩,by repeat (first|exact Drawn0.refl _|apply Drawn0.step)⟩
        ·rw [if_neg c9] at H
         exact absurd H (by simp)
       ·rw [if_neg c7] at H
        exact absurd H (by simp)
      ·rw [if_neg c6] at H
       exact absurd H (by simp)
     ·rw [if_neg c5] at H
      exact absurd H (by simp)
    ·replace c4:=Bool.eq_false_iff.mpr c4
     subst c4
     have H1 : (some (⟨#[]⟩ : ByteArray)) = some r:=by rw [if_neg (show ¬ (false = true) by decide)] at H;exact H
     clear H
     have H:=H1
     clear H1
     obtain rfl:=Option.some.inj H
     go_wp2_with (first|((with_reducible refine gate_callee (f:=21) rfl ?_);refine goesL_ (some 11) rfl rfl Try.func21 (by kernel_rfl) rfl #[.string a0] rfl (by (try simp only [List.map_toArray,List.map_cons,List.map_nil]);first|done|rfl|(simp only [List.length_drop,List.length_take];rfl)) ?_;(with_reducible refine (spec_WordValid.calls k1 a0 false _ A3.out).mono ?_);rintro e w' ⟨rfl,⟨nd,rfl⟩⟩;refine ⟨_,rfl,?_⟩))
     go_ret
     exact ⟨by first|rfl|(simp;done)|(simp [*];done),by repeat (first|exact Drawn0.refl _|apply Drawn0.step)⟩
   ·rw [if_neg c2] at H
    have c2b0 : decide (x7_1 < (a0.size : Int)) = false:=decide_eq_false c2
    clear c2
    obtain rfl:=Option.some.inj H
    go_wp2
    go_ret
    exact ⟨by first|rfl|(simp;done)|(simp [*];done),by repeat (first|exact Drawn0.refl _|apply Drawn0.step)⟩
end Go.Proofs.Ytoahkfeegobeoaa.X
end
section
namespace Go.Proofs.Ytoahkfeegobeoaa.X
open Go.RowKit Go.Proofs.YtoahkfeegobeoaaW.PrintWords Go.Proofs.YtoahkfeegobeoaaW.PrintLast Go.Proofs.YtoahkfeegobeoaaW.PrintMore
attribute [local go_sem] max2_int min2_int max_two min_two max_three min_three max_four min_four
set_option linter.unusedVariables false
set_option linter.unusedSimpArgs false
def laws_FnExactSwapWord.f (k : Nat) (a0 : ByteArray) : Option (Bool):=if (a0.size : Int) > 1048576 then (some true) else ((spec_SwapWord.f k a0).bind fun t103 => ((impl_SwapWord.f k a0).bind fun t104 => (if t104.toList = t103.toList then (some true) else (some false))))
theorem laws_FnExactSwapWord.mono : ∀ a0 k,LeO (laws_FnExactSwapWord.f k a0) (laws_FnExactSwapWord.f (k + 1) a0):=by
 intro a0 k
 unfold laws_FnExactSwapWord.f
 repeat' first
   | (with_reducible exact impl_SwapWord.mono _ _)
   | (with_reducible exact spec_SwapWord.mono _ _)
   | (with_reducible exact LeO.refl _)
   | (with_reducible exact LeO.none _)
   | (with_reducible refine LeO.ite ?_ ?_)
   | (with_reducible refine LeO.bind ?_ (fun _ => ?_))
   | exact impl_SwapWord.mono _ _
   | exact spec_SwapWord.mono _ _
   | exact LeO.none _
   | refine LeO.ite ?_ ?_
   | refine LeO.bind ?_ (fun _ => ?_)
set_option maxHeartbeats 8000000 in
set_option maxRecDepth 100000 in
theorem laws_FnExactSwapWord.calls (k : Nat) (a0 : ByteArray) (r : Bool) (w : World) (h : laws_FnExactSwapWord.f k a0 = some r) :
  Calls Try.prog 3 #[.string a0] w fun e w' => e = .returned (.bool r) ∧ Below w.heap.size w w':=by
 have HB:=Aside0.mk (Below.refl w.heap.size w)
 have H : (if (a0.size : Int) > 1048576 then (some true) else ((spec_SwapWord.f k a0).bind fun t103 => ((impl_SwapWord.f k a0).bind fun t104 => (if t104.toList = t103.toList then (some true) else (some false))))) = some r:=h
 clear h
 by_cases c2 : (a0.size : Int) > 1048576
 ·rw [if_pos c2] at H
  have c2b0 : decide (1048576 < (a0.size : Int)) = true:=decide_eq_true c2
  have c2b1 : decide (1048576 < a0.size) = true:=decide_eq_true (by omega)
  clear c2
  obtain rfl:=Option.some.inj H
  go_enter Try.func3,Try.ntmps3
  go_wp2
  go_ret
  exact ⟨by first|rfl|(simp [errW_none,errW_some] <;> rfl)|(simp [*,errW_none,errW_some] <;> rfl),by repeat (first|(with_reducible first|exact HB.out|apply below_alloc|apply pw_below_drewN|apply below_drew1)|exact HB.out)⟩
 ·rw [if_neg c2] at H
  have c2b0 : decide (1048576 < (a0.size : Int)) = false:=decide_eq_false c2
  have c2b1 : decide (1048576 < a0.size) = false:=decide_eq_false (by omega)
  clear c2
  replace H:=Option.bind_eq_some_iff.mp H
  obtain ⟨t103,A30,H⟩:=H
  replace H : ((impl_SwapWord.f k a0).bind fun t104 => (if t104.toList = t103.toList then (some true) else (some false))) = some r:=H
  have A3:=Aside0.mk A30
  clear A30
  replace H:=Option.bind_eq_some_iff.mp H
  obtain ⟨t104,A40,H⟩:=H
  replace H : (if t104.toList = t103.toList then (some true) else (some false)) = some r:=H
  have A4:=Aside0.mk A40
  clear A40
  by_cases c5 : t104.toList = t103.toList
  ·rw [if_pos c5] at H
   have c5b0 : (t104.toList == t103.toList) = true:=beq_iff_eq.mpr c5
   have c5b1 : (t104.toList != t103.toList) = false:=bne_eq_false_iff_eq.mpr c5
   clear c5
   obtain rfl:=Option.some.inj H
   go_enter Try.func3,Try.ntmps3
   go_wp2_with (first|((with_reducible refine gate_callee (f:=8) rfl ?_);refine goesL_ (some 9) rfl rfl Try.func8 (by kernel_rfl) rfl #[.string a0] rfl (by (try simp only [List.map_toArray,List.map_cons,List.map_nil]);first|done|rfl|(simp only [List.length_drop,List.length_take];rfl)) ?_;(with_reducible refine (spec_SwapWord.calls k a0 t103 _ A3.out).mono ?_);rintro e w' ⟨rfl,⟨nd,rfl⟩⟩;refine ⟨_,rfl,?_⟩)|((with_reducible refine gate_callee (f:=9) rfl ?_);refine goesL_ (some 11) rfl rfl Try.func9 (by kernel_rfl) rfl #[.string a0] rfl (by (try simp only [List.map_toArray,List.map_cons,List.map_nil]);first|done|rfl|(simp only [List.length_drop,List.length_take];rfl)) ?_;(with_reducible refine (impl_SwapWord.calls k a0 t104 _ A4.out).mono ?_);rintro e w6 ⟨rfl,hb⟩;refine ⟨_,rfl,?_⟩;have n0_:=Aside0.mk (below_step (by repeat (first|(with_reducible first|exact HB.out|apply below_alloc|apply pw_below_drewN|apply below_drew1)|exact HB.out)) hb);clear HB;have HB:=n0_;clear n0_;(try clear hb);(try clear hb2);(try clear hk);(try clear hi)))
   go_ret
   exact ⟨by first|rfl|(simp [errW_none,errW_some] <;> rfl)|(simp [*,errW_none,errW_some] <;> rfl),by repeat (first|(with_reducible first|exact HB.out|apply below_alloc|apply pw_below_drewN|apply below_drew1)|exact HB.out)⟩
  ·rw [if_neg c5] at H
   have c5b0 : (t104.toList == t103.toList) = false:=beq_eq_false_iff_ne.mpr c5
   have c5b1 : (t104.toList != t103.toList) = true:=bne_iff_ne.mpr c5
   obtain rfl:=Option.some.inj H
   go_enter Try.func3,Try.ntmps3
   go_wp2_with (first|((with_reducible refine gate_callee (f:=8) rfl ?_);refine goesL_ (some 9) rfl rfl Try.func8 (by kernel_rfl) rfl #[.string a0] rfl (by (try simp only [List.map_toArray,List.map_cons,List.map_nil]);first|done|rfl|(simp only [List.length_drop,List.length_take];rfl)) ?_;(with_reducible refine (spec_SwapWord.calls k a0 t103 _ A3.out).mono ?_);rintro e w' ⟨rfl,⟨nd,rfl⟩⟩;refine ⟨_,rfl,?_⟩)|((with_reducible refine gate_callee (f:=9) rfl ?_);refine goesL_ (some 11) rfl rfl Try.func9 (by kernel_rfl) rfl #[.string a0] rfl (by (try simp only [List.map_toArray,List.map_cons,List.map_nil]);first|done|rfl|(simp only [List.length_drop,List.length_take];rfl)) ?_;(with_reducible refine (impl_SwapWord.calls k a0 t104 _ A4.out).mono ?_);rintro e w7 ⟨rfl,hb⟩;refine ⟨_,rfl,?_⟩;have n0_:=Aside0.mk (below_step (by repeat (first|(with_reducible first|exact HB.out|apply below_alloc|apply pw_below_drewN|apply below_drew1)|exact HB.out)) hb);clear HB;have HB:=n0_;clear n0_;(try clear hb);(try clear hb2);(try clear hk);(try clear hi)))
   go_ret
   exact ⟨by first|rfl|(simp [errW_none,errW_some] <;> rfl)|(simp [*,errW_none,errW_some] <;> rfl),by repeat (first|(with_reducible first|exact HB.out|apply below_alloc|apply pw_below_drewN|apply below_drew1)|exact HB.out)⟩
def laws_FnExactSwapWord.Pure : Prop := ∀ (a0 : ByteArray),a0.size ≤ 140737488351232 → ∃ k,laws_FnExactSwapWord.f k a0 = some true
theorem laws_FnExactSwapWord.walk (P : laws_FnExactSwapWord.Pure) (a0 : ByteArray) (w : World) (w0 : a0.size ≤ 140737488351232) :
  Calls Try.prog 3 #[.string a0] w fun e w' => e = .returned (.bool true) ∧ Below w.heap.size w w':=by
 obtain ⟨k,h⟩:=P a0 w0
 refine (laws_FnExactSwapWord.calls k a0 true w h).mono ?_
 rintro e w' ⟨rfl,hd⟩
 exact ⟨rfl,hd⟩
end Go.Proofs.Ytoahkfeegobeoaa.X
end
section
namespace Go.Proofs.Ytoahkfeegobeoaa.Y
open Go.RowKit Go.Proofs.Ytoahkfeegobeoaa.X Go.Proofs.YtoahkfeegobeoaaW.PrintWords Go.Proofs.YtoahkfeegobeoaaW.PrintLast Go.Proofs.YtoahkfeegobeoaaW.PrintMore
set_option linter.unusedVariables false
set_option linter.unusedSimpArgs false
def L (s : ByteArray) : List UInt8:=s.data.toList
theorem L_size (s : ByteArray) : s.size = (L s).length:=by simp [L]
theorem L_mk (l : List UInt8) : L ⟨l.toArray⟩ = l:=by simp [L]
theorem L_inj {s t : ByteArray} (h : L s = L t) : s = t:=by
 cases s;cases t;simp [L] at h;subst h;rfl
theorem toList_L (s : ByteArray) : s.toList = L s:=ByteArray.toList_eq s
theorem L_extract (s : ByteArray) (a b : Nat) : L (s.extract a b) = ((L s).take b).drop a:=by
 simp [L,ByteArray.data_extract,Array.toList_extract,List.extract,List.drop_take]
theorem L_append (s t : ByteArray) : L (s ++ t) = L s ++ L t:=by simp [L,ByteArray.data_append]
theorem L_nil {s : ByteArray} : s.toList = ([] : List UInt8) ↔ L s = []:=by rw [toList_L]
theorem bt_L (s : ByteArray) (i : Int) : bt s i = (((L s).getD i.toNat 0).toNat : Int):=by
 unfold bt L
 split
 ·next h =>
  have h' : i.toNat < s.data.toList.length:=by simpa using h
  rw [List.getD_eq_getElem?_getD,List.getElem?_eq_getElem h']
  simp;rfl
 ·next h =>
  have h' : s.data.toList.length ≤ i.toNat:=by simpa using h
  rw [List.getD_eq_getElem?_getD,List.getElem?_eq_none h'];rfl
theorem w64 {x : Int} (h0 : -9223372036854775808 ≤ x) (h1 : x ≤ 9223372036854775807) : wrap64 x = x:=by unfold wrap64;omega
theorem _root_.Go.Proofs.YtoahkfeegobeoaaW.PrintWords.Ev.is {α : Type} {g : Nat → Option α} {r r' : α} (h : Ev g r) (e : r = r') : Ev g r':=e ▸ h
theorem bt_suffix {s : ByteArray} {u : List UInt8} {c : UInt8} {e : List UInt8} (h : L s = u ++ c :: e) : bt s u.length = (c.toNat : Int):=by
 rw [bt_L,h];simp [List.getD_eq_getElem?_getD]
theorem size_suffix {s : ByteArray} {u e : List UInt8} (h : L s = u ++ e) : s.size = u.length + e.length:=by rw [L_size,h];simp
theorem u8_ne {c d : UInt8} (h : c ≠ d) : ¬ ((c.toNat : Int) = (d.toNat : Int)):=by
 intro e;exact h (UInt8.toNat.inj (by exact_mod_cast e))
end Go.Proofs.Ytoahkfeegobeoaa.Y
end
section
namespace Go.Proofs.Ytoahkfeegobeoaa.Y
open Go.RowKit Go.Proofs.Ytoahkfeegobeoaa.X Go.Proofs.YtoahkfeegobeoaaW.PrintWords Go.Proofs.YtoahkfeegobeoaaW.PrintLast Go.Proofs.YtoahkfeegobeoaaW.PrintMore
set_option linter.unusedVariables false
set_option linter.unusedSimpArgs false
def B (l : List UInt8) : ByteArray:=⟨l.toArray⟩
theorem B_add (a b : List UInt8) : B a ++ B b = B (a ++ b):=L_inj (by rw [L_append];unfold B;rw [L_mk,L_mk,L_mk])
theorem B_size (a : List UInt8) : (B a).size = a.length:=by rw [L_size];unfold B;rw [L_mk]
theorem B_toList (a : List UInt8) : (B a).data.toList = a:=by unfold B;simp
theorem B_L (x : ByteArray) : B (L x) = x:=L_inj (by unfold B;rw [L_mk])
end Go.Proofs.Ytoahkfeegobeoaa.Y
end
section
namespace Go.Proofs.Ytoahkfeegobeoaa.Y
open Go.RowKit Go.Proofs.Ytoahkfeegobeoaa.X Go.Proofs.YtoahkfeegobeoaaW.PrintWords Go.Proofs.YtoahkfeegobeoaaW.PrintLast Go.Proofs.YtoahkfeegobeoaaW.PrintMore
set_option linter.unusedVariables false
set_option linter.unusedSimpArgs false
def wOk (c : UInt8) : Bool:=c == 97 || c == 98
def wordB (l : List UInt8) : Bool:=l.all wOk && decide (l.length ≤ 1000)
theorem iWord_loop (s : ByteArray) (hn : s.size ≤ 4000000) : ∀ (e u : List UInt8),L s = u ++ e → Ev (fun k => impl_WordValid.l0 k s s.size u.length) (e.all wOk && decide (s.size ≤ 1000)):=by
 intro e
 induction e with
 | nil =>
  intro u h
  have hz:=size_suffix h
  simp only [List.length_nil] at hz
  refine Ev.step (f:=fun _ => some (decide (s.size ≤ 1000))) (fun k => ?_) ((Ev.now _).is (by simp))
  simp only [impl_WordValid.l0]
  rw [if_neg (by omega)]
  congr 1
  exact decide_eq_decide.mpr (by omega)
 | cons c e ih =>
  intro u h
  have hz:=size_suffix h
  simp only [List.length_cons] at hz
  have hbt:=bt_suffix h
  have hl : (u.length : Int) + 1 = (((u ++ [c]).length : Nat) : Int):=by simp
  have h2:=ih (u ++ [c]) (by rw [h];simp)
  by_cases h97 : c = 97
  ·subst h97
   refine Ev.step (fun k => ?_) (h2.is (by rfl))
   simp only [impl_WordValid.l0]
   rw [if_pos (by omega),if_pos (by omega),if_pos (by omega),hbt,if_pos (show (((97 : UInt8).toNat : Nat) : Int) = 97 from rfl),w64 (x:=(u.length : Int) + 1) (by omega) (by omega),hl]
  ·by_cases h98 : c = 98
   ·subst h98
    refine Ev.step (fun k => ?_) (h2.is (by rfl))
    simp only [impl_WordValid.l0]
    rw [if_pos (by omega),if_pos (by omega),if_pos (by omega),hbt,if_neg (by decide),if_pos (show (((98 : UInt8).toNat : Nat) : Int) = 98 from rfl),w64 (x:=(u.length : Int) + 1) (by omega) (by omega),hl]
   ·have hw : wOk c = false:=by unfold wOk;simp [h97,h98]
    refine Ev.step (f:=fun _ => some false) (fun k => ?_) ((Ev.now _).is (by simp [hw]))
    simp only [impl_WordValid.l0]
    rw [if_pos (by omega),if_pos (by omega),if_pos (by omega),hbt,if_neg (show ¬ ((c.toNat : Int) = 97) from u8_ne h97),if_neg (show ¬ ((c.toNat : Int) = 98) from u8_ne h98)]
theorem iWord_ev (s : ByteArray) (hn : s.size ≤ 4000000) : Ev (fun k => impl_WordValid.f k s) (wordB (L s)):=by
 have h:=iWord_loop s hn (L s) [] rfl
 unfold impl_WordValid.f wordB
 rw [← L_size]
 exact h
theorem sWord_loop (s : ByteArray) (hn : s.size ≤ 4000000) : ∀ (e u : List UInt8),L s = u ++ e → Ev (fun k => spec_WordValid.l0 k s s.size u.length) (e.all wOk && decide (s.size ≤ 1000)):=by
 intro e
 induction e with
 | nil =>
  intro u h
  have hz:=size_suffix h
  simp only [List.length_nil] at hz
  refine Ev.step (f:=fun _ => some (decide (s.size ≤ 1000))) (fun k => ?_) ((Ev.now _).is (by simp))
  simp only [spec_WordValid.l0]
  rw [if_neg (by omega)]
  congr 1
  exact decide_eq_decide.mpr (by omega)
 | cons c e ih =>
  intro u h
  have hz:=size_suffix h
  simp only [List.length_cons] at hz
  have hbt:=bt_suffix h
  have hl : (u.length : Int) + 1 = (((u ++ [c]).length : Nat) : Int):=by simp
  have h2:=ih (u ++ [c]) (by rw [h];simp)
  by_cases h97 : c = 97
  ·subst h97
   refine Ev.step (fun k => ?_) (h2.is (by rfl))
   simp only [spec_WordValid.l0]
   rw [if_pos (by omega),if_pos (by omega),if_pos (by omega),hbt,if_pos (show (((97 : UInt8).toNat : Nat) : Int) = 97 from rfl),w64 (x:=(u.length : Int) + 1) (by omega) (by omega),hl]
  ·by_cases h98 : c = 98
   ·subst h98
    refine Ev.step (fun k => ?_) (h2.is (by rfl))
    simp only [spec_WordValid.l0]
    rw [if_pos (by omega),if_pos (by omega),if_pos (by omega),hbt,if_neg (by decide),if_pos (show (((98 : UInt8).toNat : Nat) : Int) = 98 from rfl),w64 (x:=(u.length : Int) + 1) (by omega) (by omega),hl]
   ·have hw : wOk c = false:=by unfold wOk;simp [h97,h98]
    refine Ev.step (f:=fun _ => some false) (fun k => ?_) ((Ev.now _).is (by simp [hw]))
    simp only [spec_WordValid.l0]
    rw [if_pos (by omega),if_pos (by omega),if_pos (by omega),hbt,if_neg (show ¬ ((c.toNat : Int) = 97) from u8_ne h97),if_neg (show ¬ ((c.toNat : Int) = 98) from u8_ne h98)]
theorem sWord_ev (s : ByteArray) (hn : s.size ≤ 4000000) : Ev (fun k => spec_WordValid.f k s) (wordB (L s)):=by
 have h:=sWord_loop s hn (L s) [] rfl
 unfold spec_WordValid.f wordB
 rw [← L_size]
 exact h
end Go.Proofs.Ytoahkfeegobeoaa.Y
end
