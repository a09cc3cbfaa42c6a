import Derived.Test.YtengegdaiphfeaaProg
import Derived.Below
import Derived.Deep.Draws
import Derived.Deep.AppendLies
import Derived.Maps.AppendAt
import Derived.OwnWalk
import Derived.Laws.BytesArg
import Derived.Laws.MakeOwn
import Derived.Laws.OwnMore
import Derived.Deep.OwnRows
import Derived.Tactics
import Derived.Lib.ConvBytes
import Derived.Laws.Slices
import Derived.WalkKit
import Derived.KernelRfl
import Derived.RowKit3
import Derived.Deep.LoopGhost
import Derived.Deep.QuietTactic
import Derived.BigQuiet
import Derived.WideLaws
import Derived.Deep.DeepCutAuto
import Derived.Deep.CutBlock
import Derived.Deep.RegionHeld3
import Derived.Laws.Rows
import Derived.Lib.AppendStr
import Derived.ArgAppend
import Derived.Laws.IdiomCopy
import Derived.OrdersHeld
import Derived.Laws.BitsLemmas
import Derived.RowKit
import Derived.Test.YtengegdaiphfeaaKW1
import Derived.Laws.StructEq
import Derived.Shelf.Lay
import Derived.Shelf.LaySoft
import Derived.Shelf.Strings.Builder1
import Derived.Shelf.Strings.Builder2
import Derived.Shelf.Strings.BuilderF
import Derived.Shelf.Strings.Prefix
import Derived.Shelf.Bits.Mul64
import Derived.Shelf.Strings.Repeat
section
namespace Go.Proofs.Ytengegdaiphfeaa.X
open Go.RowKit Go.Proofs.YtengegdaiphfeaaW.PrintWords Go.Proofs.YtengegdaiphfeaaW.PrintLast Go.Proofs.YtengegdaiphfeaaW.PrintMore
attribute [local go_sem] max2_int min2_int max_two min_two max_three min_three max_four min_four
set_option linter.unusedVariables false
set_option linter.unusedSimpArgs false
def FnAt (P : Program) (q : FuncId) : Prop := ∃ fn,P.funcs[q]? = some fn ∧ (fn.name == "runtime.NumGoroutine") = false ∧ fn.body.isSome = true
section
variable {P : Program} {ops : Array Oper} {Q : Exit → Act → World → Prop}
theorem gate_dyn {rest : List Oper} {o : Oper} {a : Act} {W : World} {t : Tmp} {os : Array Operand} {ts : Array TypeId} (_ho : o.op = .call { callee:=.value (.tmp t),args:=os,argTypes:=ts }) (h : wpList P ops Q (o :: rest) a W) : wpList P ops Q (o :: rest) a W:=h
theorem goesLD_ {rest : List Oper} {oi : Oper} {a : Act} {w : World} (N : Option Tmp) (hd : oi.dst = N) (hg : oi.guard = none) {q : FuncId} (hq : FnAt P q) {os : Array Operand} {ts : Array TypeId} {t : Tmp} {Fb C : Array Value} (xs : Array Value)
  (hop : oi.op = .call { callee:=.value (.tmp t),args:=os,argTypes:=ts }) (hv : a.eval (.tmp t) = .func (.func q) Fb C) (hargs : os.map a.eval = xs)
  (h : Calls P q (Fb ++ xs ++ C) w fun e w' => ∃ v,e = .returned v ∧ wpList P ops Q rest (a.put N v) w') : wpList P ops Q (oi :: rest) a w:=by
 obtain ⟨fn,hf,hname,hb⟩:=hq
 refine wpList_plain hg fun K hK => ?_
 have he:=enters_ hf hname hb (Fb ++ xs ++ C) w
 have hrun : (execOp a.eval oi).run P w = .ok (.enter q (Fb ++ xs ++ C)) w:=by
  unfold execOp
  simp [hop,resolve,Deferred.ofValue,invoke,hv,hargs]
  rw [← Array.append_assoc];exact he
 unfold Oper.wp
 rw [hrun,Oper.upon_enter]
 refine h.mono fun e w'' hh => ?_
 obtain ⟨v,rfl,hk⟩:=hh
 subst hd
 exact hK _ _ hk
theorem goesD_ {oi : Oper} {N : Option Tmp} {a : Act} {w : World} {K : Act → World → Prop} {q : FuncId} (hq : FnAt P q) {os : Array Operand} {ts : Array TypeId} {t : Tmp} {Fb C : Array Value} (xs : Array Value)
  (hw : Region.wanted oi (yielded ops a.tmps) = true) (hN : oi.dst = N) (hop : oi.op = .call { callee:=.value (.tmp t),args:=os,argTypes:=ts }) (hv : a.eval (.tmp t) = .func (.func q) Fb C) (hargs : os.map a.eval = xs)
  (h : Calls P q (Fb ++ xs ++ C) w fun e w' => ∃ v,e = .returned v ∧ K (a.put N v) w') : if Region.wanted oi (yielded ops a.tmps) = true then Oper.wp P oi a w K Q else K (a.put N undef) w:=by
 obtain ⟨fn,hf,hname,hb⟩:=hq
 have he:=enters_ hf hname hb (Fb ++ xs ++ C) w
 refine call_ q (Fb ++ xs ++ C) hw hN ?_ h
 unfold execOp
 simp [hop,resolve,Deferred.ofValue,invoke,hv,hargs]
 rw [← Array.append_assoc];exact he
end
end Go.Proofs.Ytengegdaiphfeaa.X
end
section
namespace Go.Proofs.Ytengegdaiphfeaa.X
open Go.RowKit Go.Proofs.YtengegdaiphfeaaW.PrintWords Go.Proofs.YtengegdaiphfeaaW.PrintLast Go.Proofs.YtengegdaiphfeaaW.PrintMore
attribute [local go_sem] max2_int min2_int max_two min_two max_three min_three max_four min_four
set_option linter.unusedVariables false
set_option linter.unusedSimpArgs false
def errW : Option Int → Value
 | none => .nilIface
 | some c => .iface 0 (.int .i64 c)
theorem errW_none : errW none = .nilIface:=rfl
theorem errW_some (c : Int) : errW (some c) = .iface 0 (.int .i64 c):=rfl
theorem info3 : (Try.prog.info? 3).map (fun i => (i.zero,i.size,i.bytes)) = some (some (.int .i64 0),1,8):=by kernel_rfl
theorem info5 : (Try.prog.info? 5).map (fun i => (i.zero,i.size,i.bytes)) = some (some (.int .u8 0),1,1):=by kernel_rfl
theorem info9 : (Try.prog.info? 9).map (fun i => (i.zero,i.size,i.bytes)) = some (some (.string ⟨#[]⟩),1,16):=by kernel_rfl
theorem info86 : (Try.prog.info? 86).map (fun i => (i.zero,i.size,i.bytes)) = some (some (.agg #[(.string ⟨#[]⟩),(.slice none 0 0)]),2,40):=by kernel_rfl
structure S86 where
 f0 : ByteArray
 f1 : (List S86)
def z86 : S86:=⟨(⟨#[]⟩ : ByteArray),([] : List S86)⟩
def F86 (d : Kd S86) : Kd S86:=Kd.iso (Kd.pair Kd.string (Kd.slice 86 d)) (fun x : S86 => (x.f0,x.f1))
theorem mono86 : Kd.Mono F86:=Kd.mono_iso _ (Kd.mono_pair (Kd.mono_const _) (Kd.mono_slice 86 Kd.mono_id))
theorem sub86 : Kd.Sub F86 [86]:=Kd.sub_iso _ (Kd.sub_pair (Kd.sub_const _ (by decide)) (Kd.sub_slice 86 (by decide) Kd.sub_id))
theorem sz86 : ∀ n,(Kd.upto F86 2 [86] n).sz = 2:=Kd.upto_sz (fun _ => rfl)
def k86 : Kd S86:=Kd.fix F86 2 [86] sz86 (Kd.upto_E sub86)
theorem k86_open {w : World} {x : S86} {cs : List Value} (h : k86.K w x cs) : ∃ A1 c1,cs = [.string x.f0,.slice A1 x.f1.length c1] ∧ x.f1.length ≤ c1 ∧ k86.C w A1 x.f1.length x.f1:=by
 obtain ⟨n,h⟩:=h
 cases n with
 | zero => exact h.elim
 | succ n =>
  obtain ⟨_,_,rfl,rfl,⟨A1,c1,rfl,l1,g1⟩⟩:=h
  exact ⟨A1,c1,rfl,l1,Kd.fix_C g1⟩
theorem k86_openM {w : World} {base : Nat} {ok : Nat → Prop} {x : S86} {cs : List Value} (h : k86.M w base ok x cs) : ∃ v1,cs = [.string x.f0,v1] ∧ k86.R 86 w base ok v1 x.f1:=by
 obtain ⟨n,h⟩:=h
 cases n with
 | zero => exact h.elim
 | succ n =>
  obtain ⟨_,_,rfl,rfl,⟨v1,rfl,g1⟩⟩:=h
  exact ⟨v1,rfl,Kd.fix_R g1⟩
theorem k86_mk (w : World) (x : S86) {A1 : Option Addr} {c1 : Nat} (l1 : x.f1.length ≤ c1) (g1 : k86.C w A1 x.f1.length x.f1) : k86.K w x [.string x.f0,.slice A1 x.f1.length c1]:=by
 obtain ⟨n1,q1⟩:=Kd.fix_C_back mono86 g1
 have r1:=Kd.upto_C_le mono86 sz86 (show n1 ≤ n1 by omega) q1
 exact ⟨n1 + 1,⟨[.string x.f0],[.slice A1 x.f1.length c1],rfl,rfl,⟨A1,c1,rfl,l1,r1⟩⟩⟩
theorem k86_mkM (w : World) (base : Nat) (ok : Nat → Prop) (x : S86) {v1 : Value} (g1 : k86.R 86 w base ok v1 x.f1) : k86.M w base ok x [.string x.f0,v1]:=by
 obtain ⟨n1,q1⟩:=Kd.fix_R_back mono86 g1
 have r1:=Kd.upto_R_le mono86 sz86 (show n1 ≤ n1 by omega) q1
 exact ⟨n1 + 1,⟨[.string x.f0],[v1],rfl,rfl,⟨v1,rfl,r1⟩⟩⟩
theorem k86_openF {W : World} {ok : Nat → Prop} {x : S86} {cs : List Value} (h : Kd.FK k86 W ok x cs) : ∃ A1 c1,cs = [.string x.f0,.slice A1 x.f1.length c1] ∧ x.f1.length ≤ c1 ∧ Kd.F k86 W ok A1 x.f1.length x.f1:=by
 obtain ⟨A1,c1,rfl,l1,_⟩:=k86_open (Kd.FK_now h)
 exact ⟨A1,c1,rfl,l1,(fun W' hW => by obtain ⟨A1_,c1_,he,l1_,g1_⟩:=k86_open (h W' hW);injection (Option.some.inj (show some (Value.slice A1 x.f1.length c1) = some (Value.slice A1_ x.f1.length c1_) from congrArg (fun l => l[1]?) he)) with ha_ _ _;rw [ha_];exact g1_)⟩
theorem k86_mkF (W : World) (ok : Nat → Prop) (x : S86) {A1 : Option Addr} {c1 : Nat} (l1 : x.f1.length ≤ c1) (g1 : Kd.F k86 W ok A1 x.f1.length x.f1) : Kd.FK k86 W ok x [.string x.f0,.slice A1 x.f1.length c1]:=fun W2 hW => k86_mk W2 x l1 (g1 W2 hW)
def rd_T86 (xs : List S86) (i : Int) : S86:=xs.getD i.toNat z86
theorem at_T86 {w : World} {A : Option Addr} {n : Nat} {xs : List S86} (h : Kd.C k86 w A n xs) (i : Int) (h0 : 0 ≤ i) (h1 : i < n) : ∃ ad A1 c1,A = some ad ∧ w.cell? (ad.add (i.toNat * 2)) = some (.string (rd_T86 xs i).f0) ∧ w.cell? ⟨(ad.add (i.toNat * 2)).block,(ad.add (i.toNat * 2)).off + 1,none⟩ = some (.slice A1 (rd_T86 xs i).f1.length c1) ∧ (rd_T86 xs i).f1.length ≤ c1 ∧ k86.C w A1 (rd_T86 xs i).f1.length (rd_T86 xs i).f1:=by
 obtain ⟨ad,c,e,_,hK,hc0⟩:=Kd.C_get h z86 i h0 h1
 have hc : ∀ j u,c[j]? = some u → w.cell? (ad.add (i.toNat * 2 + j)) = some u:=hc0
 obtain ⟨A1,c1,rfl,l1,g1⟩:=k86_open hK
 exact ⟨ad,A1,c1,e,hc 0 _ rfl,by rw [← add_field _ _ 1 (by omega)];exact hc 1 _ rfl,l1,g1⟩
end Go.Proofs.Ytengegdaiphfeaa.X
namespace Go.Proofs.Ytengegdaiphfeaa.X
open Go.RowKit Go.Proofs.YtengegdaiphfeaaW.PrintWords Go.Proofs.YtengegdaiphfeaaW.PrintLast Go.Proofs.YtengegdaiphfeaaW.PrintMore
theorem pe_ {q p : Prop} (h : q) (k : q → p := by intro h_; (with_reducible repeat (first | refine blk_drewN ?_ _ | refine blk_drew ?_ | refine blk_alloc ?_ _)); exact h_) : p := k h
theorem pr_ {q p : Prop} (h : q) (k : q → p := by intro h_; (with_reducible repeat (first | apply Kd.R_alloc | apply Kd.R_drewN | apply Kd.R_drew)); exact h_) : p := k h
theorem pv_ {q p : Prop} (h : q) (k : q → p := by intro h_; (with_reducible repeat (first | apply Kd.V_alloc | apply Kd.V_drewN | apply Kd.V_drew)); exact h_) : p := k h
theorem be0_ {q p : Prop} (h : q) (k : q → p := by intro h_ ; repeat (first | (with_reducible first | exact h_ | apply below_alloc | apply pw_below_drewN | apply below_drew1) | exact h_)) : p := k h
theorem ke0_ {q p : Prop} (h : q) (k : q → p := by intro h_ ; repeat (first | (with_reducible first | exact h_ | apply KeepBut.set_ | apply keep_drewN | apply keep_drew | apply keep_alloc) | exact h_)) : p := k h
theorem be1_ {q0 : Prop} {q p : Prop} (h : q) (g0 : q0) (k : q → q0 → p := by intro h_ g0; repeat (first | (with_reducible first | exact h_ | apply below_alloc | apply pw_below_drewN | apply below_drew1 | refine below_set ?_ g0) | exact h_)) : p := k h g0
theorem ke1_ {q0 : Prop} {q p : Prop} (h : q) (g0 : q0) (k : q → q0 → p := by intro h_ g0; repeat (first | (with_reducible first | exact h_ | apply KeepBut.set_ | apply keep_drewN | apply keep_drew | apply keep_alloc | refine keep_far ?_ g0 _) | exact h_)) : p := k h g0
theorem be2_ {q0 : Prop} {q1 : Prop} {q p : Prop} (h : q) (g0 : q0) (g1 : q1) (k : q → q0 → q1 → p := by intro h_ g0 g1; repeat (first | (with_reducible first | exact h_ | apply below_alloc | apply pw_below_drewN | apply below_drew1 | refine below_set ?_ g0 | refine below_set ?_ g1) | exact h_)) : p := k h g0 g1
theorem ke2_ {q0 : Prop} {q1 : Prop} {q p : Prop} (h : q) (g0 : q0) (g1 : q1) (k : q → q0 → q1 → p := by intro h_ g0 g1; repeat (first | (with_reducible first | exact h_ | apply KeepBut.set_ | apply keep_drewN | apply keep_drew | apply keep_alloc | refine keep_far ?_ g0 _ | refine keep_far ?_ g1 _) | exact h_)) : p := k h g0 g1
theorem be3_ {q0 : Prop} {q1 : Prop} {q2 : Prop} {q p : Prop} (h : q) (g0 : q0) (g1 : q1) (g2 : q2) (k : q → q0 → q1 → q2 → p := by intro h_ g0 g1 g2; repeat (first | (with_reducible first | exact h_ | apply below_alloc | apply pw_below_drewN | apply below_drew1 | refine below_set ?_ g0 | refine below_set ?_ g1 | refine below_set ?_ g2) | exact h_)) : p := k h g0 g1 g2
theorem be4_ {q0 : Prop} {q1 : Prop} {q2 : Prop} {q3 : Prop} {q p : Prop} (h : q) (g0 : q0) (g1 : q1) (g2 : q2) (g3 : q3) (k : q → q0 → q1 → q2 → q3 → p := by intro h_ g0 g1 g2 g3; repeat (first | (with_reducible first | exact h_ | apply below_alloc | apply pw_below_drewN | apply below_drew1 | refine below_set ?_ g0 | refine below_set ?_ g1 | refine below_set ?_ g2 | refine below_set ?_ g3) | exact h_)) : p := k h g0 g1 g2 g3
theorem lp_ {p : Prop} (k : p := by (try simp only [List.map_toArray, List.map_cons, List.map_nil]); first | done | rfl | (simp only [List.length_drop, List.length_take]; rfl)) : p := k
end Go.Proofs.Ytengegdaiphfeaa.X
end
section
namespace Go.Proofs.Ytengegdaiphfeaa.X
open Go.RowKit Go.Proofs.YtengegdaiphfeaaW.PrintWords Go.Proofs.YtengegdaiphfeaaW.PrintLast Go.Proofs.YtengegdaiphfeaaW.PrintMore
attribute [local go_sem] max2_int min2_int max_two min_two max_three min_three max_four min_four
set_option linter.unusedVariables false
set_option linter.unusedSimpArgs false
mutual
def impl_depth.l0 : Nat → Int → List (S86) → Int → Int → Option (Int)
 | 0,_,_,_,_ => none
 | k + 1,x3,x6,x7,x8 => if x8 < x7 then (if 0 ≤ x8 then (if x8 < (x6.length : Int) then (if ((rd_T86 x6 x8).f0).toList = ([] : List UInt8) then ((impl_depth.f k ((rd_T86 x6 x8).f1)).bind fun t977 => (impl_depth.l0 k (mx x3 (wrap64 (t977 + 1))) x6 x7 (wrap64 (x8 + 1)))) else (impl_depth.l0 k x3 x6 x7 (wrap64 (x8 + 1)))) else (none)) else (none)) else (some x3)
def impl_depth.f : Nat → List (S86) → Option (Int)
 | 0,_ => none
 | k + 1,l0 => impl_depth.l0 k 0 l0 (l0.length : Int) 0
end
theorem impl_depth.mono_l : ∀ k,(∀ y0,LeO (impl_depth.f k y0) (impl_depth.f (k + 1) y0)) ∧ (∀ y0 y1 y2 y3,LeO (impl_depth.l0 k y0 y1 y2 y3) (impl_depth.l0 (k + 1) y0 y1 y2 y3))
 | 0 => ⟨fun _ r h => by simp [impl_depth.f] at h,fun _ _ _ _ r h => by simp [impl_depth.l0] at h⟩
 | k + 1 => by
  obtain ⟨ih0,ih1⟩:=impl_depth.mono_l k
  refine ⟨?_,?_⟩
  ·intro y0
   unfold impl_depth.f
   repeat' first
   | (with_reducible exact ih0 _)
   | (with_reducible exact ih1 _ _ _ _)
   | (with_reducible exact LeO.refl _)
   | (with_reducible exact LeO.none _)
   | (with_reducible refine LeO.ite ?_ ?_)
   | (with_reducible refine LeO.bind ?_ (fun _ => ?_))
   | exact ih0 _
   | exact ih1 _ _ _ _
   | exact LeO.none _
   | refine LeO.ite ?_ ?_
   | refine LeO.bind ?_ (fun _ => ?_)
  ·intro y0 y1 y2 y3
   unfold impl_depth.l0
   repeat' first
   | (with_reducible exact ih0 _)
   | (with_reducible exact ih1 _ _ _ _)
   | (with_reducible exact LeO.refl _)
   | (with_reducible exact LeO.none _)
   | (with_reducible refine LeO.ite ?_ ?_)
   | (with_reducible refine LeO.bind ?_ (fun _ => ?_))
   | exact ih0 _
   | exact ih1 _ _ _ _
   | exact LeO.none _
   | refine LeO.ite ?_ ?_
   | refine LeO.bind ?_ (fun _ => ?_)
theorem impl_depth.mono : ∀ a0 k,LeO (impl_depth.f k a0) (impl_depth.f (k + 1) a0):=by
 intro a0 k
 obtain ⟨ih0,ih1⟩:=impl_depth.mono_l k
 exact ih0 a0
set_option maxHeartbeats 8000000 in
set_option maxRecDepth 100000 in
theorem impl_depth.calls (k : Nat) : ∀ (A0 : Option Addr) (c0 : Nat) (l0 : List (S86)) (r : Int) (w : World) (hr0 : Kd.C k86 w A0 l0.length l0) (hc0 : l0.length ≤ c0) (h : impl_depth.f k l0 = some r),
  Calls Try.prog 90 #[.slice A0 l0.length c0] w fun e w' => e = .returned (.int .i64 r) ∧ Below w.heap.size w w':=by
 induction k using Nat.strongRecOn with
 | _ k ih =>
 intro A0 c0 l0 r w hr0 hc0 h
 cases k with
 | zero => exact absurd h (by simp [impl_depth.f])
 | succ k =>
 simp only [impl_depth.f] at h
 have hu86:=Try.underlying86
 have HR0:=Aside0.mk hr0
 have HC0:=Aside0.mk hc0
 clear hr0 hc0
 have HB:=Aside0.mk (Below.refl w.heap.size w)
 have H : (impl_depth.l0 k 0 l0 (l0.length : Int) 0) = some r:=h
 clear h
 have H':=Aside0.mk H
 clear H
 go_enter Try.func90,Try.ntmps90
 go_wp2
 go_loopg [3,8] k (fun kq v3 v8 w' => ∃ (x3_1 : Int) (x8_1 : Int),v3 = .int .i64 x3_1 ∧ v8 = .int .i64 x8_1 ∧ Aside0 (impl_depth.l0 kq x3_1 l0 (l0.length : Int) x8_1 = some r) ∧ Aside0 (kq ≤ k) ∧ Aside0 (Below w.heap.size w w'))
 case atStart => exact ⟨(0),(0),(by first|rfl|(simp;done)|(simp [*];done)),(by first|rfl|(simp;done)|(simp [*];done)),H',⟨Nat.le_refl _⟩,⟨be0_ HB.out⟩⟩
 case round =>
  clear H'
  obtain ⟨x3_1,x8_1,rfl,rfl,HA,HK1,HB⟩:=hrel
  cases gk with
  | zero => exact absurd HA.out (by simp [impl_depth.l0])
  | succ k1 =>
   have H:=HA.out
   clear HA
   simp only [impl_depth.l0] at H
   by_cases c2 : x8_1 < (l0.length : Int)
   ·rw [if_pos c2] at H
    have c2b0 : decide (x8_1 < (l0.length : Int)) = true:=decide_eq_true c2
    clear c2
    by_cases c3 : 0 ≤ x8_1
    ·rw [if_pos c3] at H
     have c3b0 : decide (0 ≤ x8_1) = true:=decide_eq_true c3
     clear c3
     by_cases c4 : x8_1 < (l0.length : Int)
     ·rw [if_pos c4] at H
      have c4b0 : decide (x8_1 < (l0.length : Int)) = true:=decide_eq_true c4
      clear c4
      by_cases c5 : ((rd_T86 l0 x8_1).f0).toList = ([] : List UInt8)
      ·rw [if_pos c5] at H
       have c5b0 : (((rd_T86 l0 x8_1).f0).toList == ([] : List UInt8)) = true:=beq_iff_eq.mpr c5
       have c5b1 : (((rd_T86 l0 x8_1).f0).toList != ([] : List UInt8)) = false:=bne_eq_false_iff_eq.mpr c5
       clear c5
       replace H:=Option.bind_eq_some_iff.mp H
       obtain ⟨t977,A60,H⟩:=H
       replace H : (impl_depth.l0 k1 (mx x3_1 (wrap64 (t977 + 1))) l0 (l0.length : Int) (wrap64 (x8_1 + 1))) = some r:=H
       have A6:=Aside0.mk A60
       clear A60
       obtain ⟨ji7,hji7⟩ : ∃ j_ : Int,(mx x3_1 (wrap64 (t977 + 1))) = j_:=⟨_,rfl⟩
       replace H : (impl_depth.l0 k1 ji7 l0 (l0.length : Int) (wrap64 (x8_1 + 1))) = some r:=by first|(rw [hji7] at H;exact H)|(simp only [hji7] at H ⊢;exact H)
       (try rw [hji7] at A6)
       have hji7_ : (if x3_1 < (wrap64 (t977 + 1)) then (wrap64 (t977 + 1)) else x3_1) = ji7:=hji7
       have H':=Aside0.mk H
       clear H
       have p975 : 0 ≤ (x8_1 : Int):=of_decide_eq_true (by first|(with_reducible assumption)|assumption)
       have q975 : x8_1 < (l0.length : Int):=of_decide_eq_true (by first|(with_reducible assumption)|assumption)
       obtain ⟨ad975,A975_1,c975_1,e975,hx975_0,hx975_1,hl975_1,hi975_1⟩:=at_T86 HR0.out x8_1 p975 q975
       cases e975
       replace hx975_0:=(HB.out.cell (World.block_lt_of_cell? w _ hx975_0)).trans hx975_0
       replace hx975_1:=(HB.out.cell (World.block_lt_of_cell? w _ hx975_1)).trans hx975_1
       have HR975_1:=Aside0.mk hi975_1
       have HC975_1:=Aside0.mk hl975_1
       clear hi975_1 hl975_1
       replace p975:=eq_true p975
       replace q975:=eq_true q975
       go_wp2_with (first|((with_reducible refine gate_dst (N:=5) rfl ?_);refine box_event ?hg (N:=5) ?hd (cs:=#[.string (⟨#[]⟩ : ByteArray),.slice none 0 0]) (t:=86) ?hr ?_;(case hd => rfl);(case hg => rfl);(case hr => first|(go_simp;done)|(go_simp;rfl));intro gb976 hg w8 hbox hb;have n0_:=Aside0.mk (below_step (be0_ HB.out) hb);have n1_:=Aside0.mk (hbox);have n2_:=Aside0.mk ((by rw [hg];exact (below_size (be0_ HB.out)) : w.heap.size ≤ gb976));have n3_:=Aside0.mk ((by rw [hg];exact (below_size (be0_ HB.out)) : w.heap.size ≤ gb976));clear HB;have HB:=n0_;have BK976:=n1_;have GW976:=n2_;have GE976:=n3_;clear n0_ n1_ n2_ n3_;clear hb hbox hg;have hcz9_0 : w8.cell? ⟨gb976,0,none⟩ = some (.string (⟨#[]⟩ : ByteArray)):=(blk_cell BK976.out 0).trans rfl;have hcz9_1 : w8.cell? ⟨gb976,1,none⟩ = some (.slice none 0 0):=(blk_cell BK976.out 1).trans rfl;have hfz9_0:=blk_frozen BK976.out 0;have hfz9_1:=blk_frozen BK976.out 1)|((with_reducible refine gate_callee (f:=90) rfl ?_);refine goesL_ (some 18) rfl rfl Try.func90 (by kernel_rfl) rfl #[.slice A975_1 ((rd_T86 l0 x8_1).f1).length c975_1] rfl lp_ ?_;(with_reducible refine (ih k1 (by have:=HK1.out;omega) _ _ ((rd_T86 l0 x8_1).f1) t977 _ ?side1 ?side2 A6.out).mono ?_);(case side1 => exact Kd.C_below HR975_1.out (be1_ HB.out GE976.out));(case side2 => exact HC975_1.out);rintro e w10 ⟨rfl,hb⟩;refine ⟨_,rfl,?_⟩;have n0_:=Aside0.mk (blk_below (g:=gb976) (o:=.cells #[.string ((rd_T86 l0 x8_1).f0),.slice A975_1 ((rd_T86 l0 x8_1).f1).length c975_1] 86 (0,0)) (by refine pe_ ?_;refine blk_put (cs:=#[.string ((rd_T86 l0 x8_1).f0),.slice none 0 0]) ?_ 1 _ rfl;refine pe_ ?_;refine blk_put (cs:=#[.string (⟨#[]⟩ : ByteArray),.slice none 0 0]) ?_ 0 _ rfl;refine pe_ ?_;exact BK976.out) hb);have n1_:=Aside0.mk (below_step (be1_ HB.out GE976.out) hb);clear BK976;clear HB;have BK976:=n0_;have HB:=n1_;clear n0_ n1_;(try clear hb);(try clear hb2);(try clear hk);(try clear hi)))
       go_roundg k1
       case measure => have:=HK1.out;omega
       case rel => exact ⟨(ji7),(wrap64 (x8_1 + 1)),(by first|rfl|(simp;done)|(simp only [← hji7] <;> (first|rfl|simp))|(simp [*];done)),(by first|rfl|(simp;done)|(simp [*];done)),H',⟨by have:=HK1.out;omega⟩,⟨be1_ HB.out GE976.out⟩⟩
      ·rw [if_neg c5] at H
       have c5b0 : (((rd_T86 l0 x8_1).f0).toList == ([] : List UInt8)) = false:=beq_eq_false_iff_ne.mpr c5
       have c5b1 : (((rd_T86 l0 x8_1).f0).toList != ([] : List UInt8)) = true:=bne_iff_ne.mpr c5
       have H':=Aside0.mk H
       clear H
       have p975 : 0 ≤ (x8_1 : Int):=of_decide_eq_true (by first|(with_reducible assumption)|assumption)
       have q975 : x8_1 < (l0.length : Int):=of_decide_eq_true (by first|(with_reducible assumption)|assumption)
       obtain ⟨ad975,A975_1,c975_1,e975,hx975_0,hx975_1,hl975_1,hi975_1⟩:=at_T86 HR0.out x8_1 p975 q975
       cases e975
       replace hx975_0:=(HB.out.cell (World.block_lt_of_cell? w _ hx975_0)).trans hx975_0
       replace hx975_1:=(HB.out.cell (World.block_lt_of_cell? w _ hx975_1)).trans hx975_1
       have HR975_1:=Aside0.mk hi975_1
       have HC975_1:=Aside0.mk hl975_1
       clear hi975_1 hl975_1
       replace p975:=eq_true p975
       replace q975:=eq_true q975
       go_wp2_with (first|((with_reducible refine gate_dst (N:=5) rfl ?_);refine box_event ?hg (N:=5) ?hd (cs:=#[.string (⟨#[]⟩ : ByteArray),.slice none 0 0]) (t:=86) ?hr ?_;(case hd => rfl);(case hg => rfl);(case hr => first|(go_simp;done)|(go_simp;rfl));intro gb976 hg w11 hbox hb;have n0_:=Aside0.mk (below_step (be0_ HB.out) hb);have n1_:=Aside0.mk (hbox);have n2_:=Aside0.mk ((by rw [hg];exact (below_size (be0_ HB.out)) : w.heap.size ≤ gb976));have n3_:=Aside0.mk ((by rw [hg];exact (below_size (be0_ HB.out)) : w.heap.size ≤ gb976));clear HB;have HB:=n0_;have BK976:=n1_;have GW976:=n2_;have GE976:=n3_;clear n0_ n1_ n2_ n3_;clear hb hbox hg;have hcz12_0 : w11.cell? ⟨gb976,0,none⟩ = some (.string (⟨#[]⟩ : ByteArray)):=(blk_cell BK976.out 0).trans rfl;have hcz12_1 : w11.cell? ⟨gb976,1,none⟩ = some (.slice none 0 0):=(blk_cell BK976.out 1).trans rfl;have hfz12_0:=blk_frozen BK976.out 0;have hfz12_1:=blk_frozen BK976.out 1))
       go_roundg k1
       case measure => have:=HK1.out;omega
       case rel => exact ⟨(x3_1),(wrap64 (x8_1 + 1)),(by first|rfl|(simp;done)|(simp [*];done)),(by first|rfl|(simp;done)|(simp [*];done)),H',⟨by have:=HK1.out;omega⟩,⟨be1_ HB.out GE976.out⟩⟩
     ·rw [if_neg c4] at H
      exact absurd H (by simp)
    ·rw [if_neg c3] at H
     exact absurd H (by simp)
   ·rw [if_neg c2] at H
    have c2b0 : decide (x8_1 < (l0.length : Int)) = false:=decide_eq_false c2
    clear c2
    obtain rfl:=Option.some.inj H
    go_wp2
    go_ret
    exact ⟨by first|rfl|(simp [errW_none,errW_some] <;> rfl)|(simp [*,errW_none,errW_some] <;> rfl),be0_ HB.out⟩
end Go.Proofs.Ytengegdaiphfeaa.X
end
section
namespace Go.Proofs.Ytengegdaiphfeaa.X
open Go.RowKit Go.Proofs.YtengegdaiphfeaaW.PrintWords Go.Proofs.YtengegdaiphfeaaW.PrintLast Go.Proofs.YtengegdaiphfeaaW.PrintMore
attribute [local go_sem] max2_int min2_int max_two min_two max_three min_three max_four min_four
set_option linter.unusedVariables false
set_option linter.unusedSimpArgs false
def stringslite_HasPrefix.f (a0 : ByteArray) (a1 : ByteArray) : Option (Bool):=if (a0.size : Int) ≥ (a1.size : Int) then (if 0 ≤ (a1.size : Int) then (if (a1.size : Int) ≤ (a0.size : Int) then (some ((a0.extract 0 ((a1.size : Int) : Int).toNat).toList == a1.toList)) else (none)) else (none)) else (some false)
set_option maxHeartbeats 8000000 in
set_option maxRecDepth 100000 in
theorem stringslite_HasPrefix.calls (a0 : ByteArray) (a1 : ByteArray) (r : Bool) (w : World) (h : stringslite_HasPrefix.f a0 a1 = some r) :
  Calls Try.prog 117 #[.string a0,.string a1] w fun e w' => e = .returned (.bool r) ∧ Drawn0 w w':=by
 have H : (if (a0.size : Int) ≥ (a1.size : Int) then (if 0 ≤ (a1.size : Int) then (if (a1.size : Int) ≤ (a0.size : Int) then (some ((a0.extract 0 ((a1.size : Int) : Int).toNat).toList == a1.toList)) else (none)) else (none)) else (some false)) = some r:=h
 clear h
 by_cases c3 : (a0.size : Int) ≥ (a1.size : Int)
 ·rw [if_pos c3] at H
  have c3b0 : decide ((a1.size : Int) ≤ (a0.size : Int)) = true:=decide_eq_true c3
  have c3b1 : decide (a1.size ≤ a0.size) = true:=decide_eq_true (Int.ofNat_le.mp c3)
  clear c3
  by_cases c4 : 0 ≤ (a1.size : Int)
  ·rw [if_pos c4] at H
   have c4b0:=eq_true c4
   have c4b1 : decide (0 ≤ (a1.size : Int)) = true:=decide_eq_true c4
   clear c4
   by_cases c5 : (a1.size : Int) ≤ (a0.size : Int)
   ·rw [if_pos c5] at H
    have c5b0:=eq_true c5
    have c5b1 : decide ((a1.size : Int) ≤ (a0.size : Int)) = true:=decide_eq_true c5
    clear c5
    obtain rfl:=Option.some.inj H
    go_enter Try.func117,Try.ntmps117
    go_wp2
    go_ret
    exact ⟨by first|rfl|(simp;done)|(simp [*];done),by repeat (first|exact Drawn0.refl _|apply Drawn0.step)⟩
   ·rw [if_neg c5] at H
    exact absurd H (by simp)
  ·rw [if_neg c4] at H
   exact absurd H (by simp)
 ·rw [if_neg c3] at H
  have c3b0 : decide ((a1.size : Int) ≤ (a0.size : Int)) = false:=decide_eq_false c3
  have c3b1 : decide (a1.size ≤ a0.size) = false:=decide_eq_false (fun h => c3 (Int.ofNat_le.mpr h))
  clear c3
  obtain rfl:=Option.some.inj H
  go_enter Try.func117,Try.ntmps117
  go_wp2
  go_ret
  exact ⟨by first|rfl|(simp;done)|(simp [*];done),by repeat (first|exact Drawn0.refl _|apply Drawn0.step)⟩
end Go.Proofs.Ytengegdaiphfeaa.X
end
section
namespace Go.Proofs.Ytengegdaiphfeaa.X
open Go.RowKit Go.Proofs.YtengegdaiphfeaaW.PrintWords Go.Proofs.YtengegdaiphfeaaW.PrintLast Go.Proofs.YtengegdaiphfeaaW.PrintMore
attribute [local go_sem] max2_int min2_int max_two min_two max_three min_three max_four min_four
set_option linter.unusedVariables false
set_option linter.unusedSimpArgs false
def strings_HasPrefix.f (a0 : ByteArray) (a1 : ByteArray) : Option (Bool):=(stringslite_HasPrefix.f a0 a1).bind fun t115 => (some t115)
set_option maxHeartbeats 8000000 in
set_option maxRecDepth 100000 in
theorem strings_HasPrefix.calls (a0 : ByteArray) (a1 : ByteArray) (r : Bool) (w : World) (h : strings_HasPrefix.f a0 a1 = some r) :
  Calls Try.prog 110 #[.string a0,.string a1] w fun e w' => e = .returned (.bool r) ∧ Drawn0 w w':=by
 have H : ((stringslite_HasPrefix.f a0 a1).bind fun t115 => (some t115)) = some r:=h
 clear h
 replace H:=Option.bind_eq_some_iff.mp H
 obtain ⟨t115,A30,H⟩:=H
 replace H : (some t115) = some r:=H
 have A3:=Aside0.mk A30
 clear A30
 obtain rfl:=Option.some.inj H
 go_enter Try.func110,Try.ntmps110
 go_wp2_with (first|((with_reducible refine gate_callee (f:=117) rfl ?_);refine goesL_ (some 7) rfl rfl Try.func117 (by kernel_rfl) rfl #[.string a0,.string a1] rfl lp_ ?_;(with_reducible refine (stringslite_HasPrefix.calls a0 a1 t115 _ A3.out).mono ?_);rintro e w' ⟨rfl,⟨nd,rfl⟩⟩;refine ⟨_,rfl,?_⟩))
 go_ret
 exact ⟨by first|rfl|(simp;done)|(simp [*];done),by repeat (first|exact Drawn0.refl _|apply Drawn0.step)⟩
end Go.Proofs.Ytengegdaiphfeaa.X
end
section
namespace Go.Proofs.Ytengegdaiphfeaa.X
open Go.RowKit Go.Proofs.YtengegdaiphfeaaW.PrintWords Go.Proofs.YtengegdaiphfeaaW.PrintLast Go.Proofs.YtengegdaiphfeaaW.PrintMore
attribute [local go_sem] max2_int min2_int max_two min_two max_three min_three max_four min_four
set_option linter.unusedVariables false
set_option linter.unusedSimpArgs false
mutual
def impl_readParts.l0 : Nat → ByteArray → List (S86) → Option ((List (S86)) × ByteArray)
 | 0,_,_ => none
 | k + 1,x0,x4 => if x0.toList = ([] : List UInt8) then (some (x4,x0)) else (if 0 < (x0.size : Int) then (if (bt x0 0) = 97 then (impl_readParts.j1 k x0 x4 (bt x0 0) ((bt x0 0) == 97)) else (impl_readParts.j1 k x0 x4 (bt x0 0) ((bt x0 0) == 98))) else (none))
def impl_readParts.j1 : Nat → ByteArray → List (S86) → Int → Bool → Option ((List (S86)) × ByteArray)
 | 0,_,_,_,_ => none
 | k + 1,x0,x4,x11,x12 => if x12 = true then (if 0 ≤ 1 then (if 1 ≤ (x0.size : Int) then (if x4.length < 3518437208883 then (impl_readParts.l0 k (x0.extract 1 x0.size) (x4 ++ [(⟨x0.extract 0 1,([] : List (S86))⟩ : S86)])) else (none)) else (none)) else (none)) else (if x11 = 40 then (if 1 ≤ (x0.size : Int) then ((impl_readParts.f k (x0.extract 1 x0.size)).bind fun bt122 => (if (bt122.1.length : Int) > 0 then ((strings_HasPrefix.f bt122.2 (⟨#[41,35]⟩ : ByteArray)).bind fun t126 => (if t126 = true then (if x4.length < 3518437208883 then (if 2 ≤ (bt122.2.size : Int) then (impl_readParts.l0 k (bt122.2.extract 2 bt122.2.size) (x4 ++ [(⟨(⟨#[]⟩ : ByteArray),bt122.1⟩ : S86)])) else (none)) else (none)) else (some (x4,x0)))) else (some (x4,x0)))) else (none)) else (some (x4,x0)))
def impl_readParts.f : Nat → ByteArray → Option ((List (S86)) × ByteArray)
 | 0,_ => none
 | k + 1,a0 => impl_readParts.l0 k a0 (([] : List (S86)))
end
theorem impl_readParts.mono_l : ∀ k,(∀ y0,LeO (impl_readParts.f k y0) (impl_readParts.f (k + 1) y0)) ∧ (∀ y0 y1,LeO (impl_readParts.l0 k y0 y1) (impl_readParts.l0 (k + 1) y0 y1)) ∧ (∀ y0 y1 y2 y3,LeO (impl_readParts.j1 k y0 y1 y2 y3) (impl_readParts.j1 (k + 1) y0 y1 y2 y3))
 | 0 => ⟨fun _ r h => by simp [impl_readParts.f] at h,fun _ _ r h => by simp [impl_readParts.l0] at h,fun _ _ _ _ r h => by simp [impl_readParts.j1] at h⟩
 | k + 1 => by
  obtain ⟨ih0,ih1,ih2⟩:=impl_readParts.mono_l k
  refine ⟨?_,?_,?_⟩
  ·intro y0
   unfold impl_readParts.f
   repeat' first
   | (with_reducible exact ih0 _)
   | (with_reducible exact ih1 _ _)
   | (with_reducible exact ih2 _ _ _ _)
   | (with_reducible exact LeO.refl _)
   | (with_reducible exact LeO.none _)
   | (with_reducible refine LeO.ite ?_ ?_)
   | (with_reducible refine LeO.bind ?_ (fun _ => ?_))
   | exact ih0 _
   | exact ih1 _ _
   | exact ih2 _ _ _ _
   | exact LeO.none _
   | refine LeO.ite ?_ ?_
   | refine LeO.bind ?_ (fun _ => ?_)
  ·intro y0 y1
   unfold impl_readParts.l0
   repeat' first
   | (with_reducible exact ih0 _)
   | (with_reducible exact ih1 _ _)
   | (with_reducible exact ih2 _ _ _ _)
   | (with_reducible exact LeO.refl _)
   | (with_reducible exact LeO.none _)
   | (with_reducible refine LeO.ite ?_ ?_)
   | (with_reducible refine LeO.bind ?_ (fun _ => ?_))
   | exact ih0 _
   | exact ih1 _ _
   | exact ih2 _ _ _ _
   | exact LeO.none _
   | refine LeO.ite ?_ ?_
   | refine LeO.bind ?_ (fun _ => ?_)
  ·intro y0 y1 y2 y3
   unfold impl_readParts.j1
   repeat' first
   | (with_reducible exact ih0 _)
   | (with_reducible exact ih1 _ _)
   | (with_reducible exact ih2 _ _ _ _)
   | (with_reducible exact LeO.refl _)
   | (with_reducible exact LeO.none _)
   | (with_reducible refine LeO.ite ?_ ?_)
   | (with_reducible refine LeO.bind ?_ (fun _ => ?_))
   | exact ih0 _
   | exact ih1 _ _
   | exact ih2 _ _ _ _
   | exact LeO.none _
   | refine LeO.ite ?_ ?_
   | refine LeO.bind ?_ (fun _ => ?_)
theorem impl_readParts.mono : ∀ a0 k,LeO (impl_readParts.f k a0) (impl_readParts.f (k + 1) a0):=by
 intro a0 k
 obtain ⟨ih0,ih1,ih2⟩:=impl_readParts.mono_l k
 exact ih0 a0
set_option maxHeartbeats 8000000 in
set_option maxRecDepth 100000 in
theorem impl_readParts.calls (k : Nat) : ∀ (a0 : ByteArray) (r1 : List (S86)) (r2 : ByteArray) (w : World) (h : impl_readParts.f k a0 = some (r1,r2)),
  Calls Try.prog 94 #[.string a0] w fun e w' => ∃ v0_ : Value,e = .returned (.tuple #[v0_,.string r2]) ∧ Kd.R k86 86 w' w.heap.size (fun _ => True) v0_ r1 ∧ Below w.heap.size w w':=by
 induction k using Nat.strongRecOn with
 | _ k ih =>
 intro a0 r1 r2 w h
 cases k with
 | zero => exact absurd h (by simp [impl_readParts.f])
 | succ k =>
 simp only [impl_readParts.f] at h
 have hu86:=Try.underlying86
 have HB:=Aside0.mk (Below.refl w.heap.size w)
 have H : (impl_readParts.l0 k a0 (([] : List (S86)))) = some (r1,r2):=h
 clear h
 obtain ⟨y116,hy116⟩ : ∃ y_ : List (S86),y_ = (([] : List (S86))):=⟨_,rfl⟩
 replace H : (impl_readParts.l0 k a0 y116) = some (r1,r2):=by first|(rw [hy116];with_reducible exact H)|(have H2_:=(Option.bind_some _ _).symm.trans H;rw [hy116];with_reducible exact H2_)|(have H2_:=(Option.bind_some _ _).symm.trans H;with_reducible exact H2_)|with_reducible exact H|(rw [hy116];exact H)|exact H
 have Ny116:=Aside0.mk hy116
 clear hy116
 have H':=Aside0.mk H
 clear H
 go_enter Try.func94,Try.ntmps94
 go_wp2_with (first|((with_reducible refine gate_dst (N:=7) rfl ?_);refine Kd.R_lit k86 _ 86 ?hg (N:=7) ?hd (xs:=([] : List (S86))) (inner:=[]) (ok:=fun _ => True) (okp:=fun _ => True) ?hr ?hp (fun _ hk => hk) trivial (Below.refl _ _) (Nat.le_refl _) (by simp) ?_;(case hd => rfl);(case hg => rfl);(case hr => first|(go_simp;done)|(go_simp;rfl));(case hp => exact (Reps.none _ _));intro v117 w2 ho3 hb hg_ hnew_;clear hg_ hnew_;(first|rw [← Ny116.out] at ho3|(simp only [Int.reduceToNat] at ho3;rw [← Ny116.out] at ho3));have n0_:=Aside0.mk (Kd.R_lower ho3 (below_size (be0_ HB.out)));have n1_:=Aside0.mk (below_step (be0_ HB.out) hb);clear HB;have HO118:=n0_;have HB:=n1_;clear n0_ n1_;clear hb ho3))
 go_loopg [0,4] k (fun kq v0 v4 w' => ∃ (x0_1 : ByteArray) (x4_1 : List (S86)),v0 = .string x0_1 ∧ Aside0 (impl_readParts.l0 kq x0_1 x4_1 = some (r1,r2)) ∧ Aside0 (kq ≤ k) ∧ Aside0 (Kd.R k86 86 w' w.heap.size (fun _ => True) v4 x4_1) ∧ Aside0 (Below w.heap.size w w'))
 case atStart => exact ⟨(a0),(y116),(by first|rfl|(simp;done)|(simp [*];done)),H',⟨Nat.le_refl _⟩,⟨pr_ HO118.out⟩,⟨be0_ HB.out⟩⟩
 case round =>
  clear H'
  try clear p2
  obtain ⟨x0_1,x4_1,rfl,HA,HK1,HO_4,HB⟩:=hrel
  cases gk with
  | zero => exact absurd HA.out (by simp [impl_readParts.l0])
  | succ k1 =>
   have H:=HA.out
   clear HA
   simp only [impl_readParts.l0] at H
   by_cases c4 : x0_1.toList = ([] : List UInt8)
   ·rw [if_pos c4] at H
    have c4b0 : (x0_1.toList == ([] : List UInt8)) = true:=beq_iff_eq.mpr c4
    have c4b1 : (x0_1.toList != ([] : List UInt8)) = false:=bne_eq_false_iff_eq.mpr c4
    clear c4
    simp only [Option.some.injEq,Prod.mk.injEq] at H
    obtain ⟨rfl,rfl⟩:=H
    go_wp2
    go_ret2
    exact ⟨_,by first|rfl|(simp [errW_none,errW_some] <;> rfl)|(simp [*,errW_none,errW_some] <;> rfl),pr_ HO_4.out,be0_ HB.out⟩
   ·rw [if_neg c4] at H
    have c4b0 : (x0_1.toList == ([] : List UInt8)) = false:=beq_eq_false_iff_ne.mpr c4
    have c4b1 : (x0_1.toList != ([] : List UInt8)) = true:=bne_iff_ne.mpr c4
    by_cases c5 : 0 < (x0_1.size : Int)
    ·rw [if_pos c5] at H
     have c5b0 : decide (0 < (x0_1.size : Int)) = true:=decide_eq_true c5
     have c5b1 : decide (0 < x0_1.size) = true:=decide_eq_true (by omega)
     clear c5
     have HC7:=Aside0.mk H
     clear H
     have p6 : 0 ≤ (0 : Int):=(by omega)
     have q6 : 0 < x0_1.size:=(by have : (0 : Int) < (x0_1.size : Int):=of_decide_eq_true (by first|(with_reducible assumption)|assumption);omega)
     have hx6 : ∀ h : 0 < x0_1.size,((x0_1[0]'h).toNat : Int) = bt x0_1 0:=bt_at x0_1 0
     clear p6
     have qi6 : (0 < (x0_1.size : Int)) = True:=eq_true (of_decide_eq_true (by first|(with_reducible assumption)|assumption))
     replace q6:=eq_true q6
     go_upto_if 12 with (fail)
     go_cut [12] (fun v12 wc => ∃ (kq : Nat) (x12_6 : Bool),v12 = .bool x12_6 ∧ Aside0 (impl_readParts.j1 kq x0_1 x4_1 (bt x0_1 0) x12_6 = some (r1,r2)) ∧ Aside0 (kq ≤ k1) ∧ Aside0 (Kd.R k86 86 wc w.heap.size (fun _ => True) u4 x4_1) ∧ Aside0 (Below w.heap.size w wc))
     case first =>
      have H:=HC7.out
      clear HC7
      by_cases c8 : (bt x0_1 0) = 97
      ·rw [if_pos c8] at H
       have c8b0 : ((bt x0_1 0) == 97) = true:=beq_iff_eq.mpr c8
       have c8b1 : ((bt x0_1 0) != 97) = false:=bne_eq_false_iff_eq.mpr c8
       clear c8
       (first|rw [c8b0]|(simp only [i64_w,i32_w];rw [c8b0])|skip)
       have H':=Aside0.mk H
       clear H
       go_wp2
       go_meet
       case rel => exact ⟨_,(((bt x0_1 0) == 97)),(by first|rfl|(simp;done)|(simp [*];done)),H',⟨by have:=HK1.out;first|omega|exact Nat.le_refl _⟩,⟨pr_ HO_4.out⟩,⟨be0_ HB.out⟩⟩
      ·rw [if_neg c8] at H
       have c8b0 : ((bt x0_1 0) == 97) = false:=beq_eq_false_iff_ne.mpr c8
       have c8b1 : ((bt x0_1 0) != 97) = true:=bne_iff_ne.mpr c8
       (first|rw [c8b0]|(simp only [i64_w,i32_w];rw [c8b0])|skip)
       have H':=Aside0.mk H
       clear H
       go_wp2
       go_meet
       case rel => exact ⟨_,(((bt x0_1 0) == 98)),(by first|rfl|(simp;done)|(simp [*];done)),H',⟨by have:=HK1.out;first|omega|exact Nat.le_refl _⟩,⟨pr_ HO_4.out⟩,⟨be0_ HB.out⟩⟩
     case rest =>
      clear HC7
      try clear p2
      try clear c4
      try clear c4b0
      try clear c4b1
      try clear c5
      try clear c5b0
      try clear c5b1
      try clear p6
      try clear q6
      try clear hx6
      try clear qi6
      try clear c8
      try clear c8b0
      try clear c8b1
      try clear p2
      try clear p6
      try clear q6
      obtain ⟨kq,x12_6,rfl,HA,HJ6,HO_4,HB⟩:=hcut
      cases kq with
      | zero => exact absurd HA.out (by simp [impl_readParts.j1])
      | succ kj6 =>
       have H:=HA.out
       clear HA
       simp only [impl_readParts.j1] at H
       by_cases c9 : x12_6 = true
       ·subst c9
        have H1 : (if 0 ≤ 1 then (if 1 ≤ (x0_1.size : Int) then (if x4_1.length < 3518437208883 then (impl_readParts.l0 kj6 (x0_1.extract 1 x0_1.size) (x4_1 ++ [(⟨x0_1.extract 0 1,([] : List (S86))⟩ : S86)])) else (none)) else (none)) else (none)) = some (r1,r2):=by rw [if_pos rfl] at H;exact H
        clear H
        have H:=H1
        clear H1
        by_cases c10 : 0 ≤ 1
        ·rw [if_pos c10] at H
         have c10b0:=eq_true c10
         have c10b1 : decide (0 ≤ 1) = true:=decide_eq_true c10
         clear c10
         by_cases c11 : 1 ≤ (x0_1.size : Int)
         ·rw [if_pos c11] at H
          have c11b0:=eq_true c11
          have c11b1 : decide (1 ≤ (x0_1.size : Int)) = true:=decide_eq_true c11
          clear c11
          by_cases c12 : x4_1.length < 3518437208883
          ·rw [if_pos c12] at H
           have LMc12:=Aside0.mk c12
           clear c12
           obtain ⟨y119,hy119⟩ : ∃ y_ : List (S86),y_ = (x4_1 ++ [(⟨x0_1.extract 0 1,([] : List (S86))⟩ : S86)]):=⟨_,rfl⟩
           replace H : (impl_readParts.l0 kj6 (x0_1.extract 1 x0_1.size) y119) = some (r1,r2):=by first|(rw [hy119];with_reducible exact H)|(have H2_:=(Option.bind_some _ _).symm.trans H;rw [hy119];with_reducible exact H2_)|(have H2_:=(Option.bind_some _ _).symm.trans H;with_reducible exact H2_)|with_reducible exact H|(rw [hy119];exact H)|exact H
           have Ny119:=Aside0.mk hy119
           clear hy119
           have c13b0:=eq_true (of_decide_eq_true (by first|(with_reducible assumption)|assumption) : 1 ≤ (x0_1.size : Int))
           have H':=Aside0.mk H
           clear H
           go_wp2_with (first|((with_reducible refine gate_builtin (b:=.append) (xs:=#[.tmp 15,.tmp 19]) rfl ?_);at_builtin;refine Kd.R_append k86 (w0:=w) w.heap.size rfl (.tmp 15) (.tmp 19) 55 86 (.agg #[(.string ⟨#[]⟩),(.slice none 0 0)]) 40 rfl Try.underlying55 info86 rfl (by decide) (by omega) u4 x4_1 (⟨x0_1.extract 0 1,([] : List (S86))⟩ : S86) [.string (x0_1.extract 0 1),.slice none 0 0] (fun _ => True) (fun k_ => ((fun _ => True)) k_ ∧ some k_ ≠ (u4 : Value).ownBlock) rfl rfl ?aP (fun _ hk => hk) ?aF ?aO ?aB ?aS ?aL ?_;(case aP => exact k86_mkM _ _ _ (⟨x0_1.extract 0 1,([] : List (S86))⟩ : S86) (Kd.R_nil _ _ _ _ _));(case aB => exact (be0_ HB.out));(case aF => exact (fun _ _ => trivial));(case aO => exact (pr_ HO_4.out));(case aS => exact (below_size (be0_ HB.out)));(case aL => have:=LMc12.out;omega);intro v120 w14 ho hb hg hat;rw [← Ny119.out] at ho;have n0_:=Aside0.mk (hb);have n1_:=Aside0.mk (ho);clear HB;clear HO_4;have HB:=n0_;have HO121:=n1_;clear n0_ n1_;clear ho hb hg hat))
           go_roundg kj6
           case measure => have:=HK1.out;have:=HJ6.out;omega
           case rel => exact ⟨(x0_1.extract 1 x0_1.size),(y119),(by first|rfl|(simp;done)|(simp [*];done)),H',⟨by have:=HK1.out;have:=HJ6.out;omega⟩,⟨pr_ HO121.out⟩,⟨be0_ HB.out⟩⟩
          ·rw [if_neg c12] at H
           exact absurd H (by simp)
         ·rw [if_neg c11] at H
          exact absurd H (by simp)
        ·rw [if_neg c10] at H
         exact absurd H (by simp)
       ·replace c9:=Bool.eq_false_iff.mpr c9
        subst c9
        have H1 : (if (bt x0_1 0) = 40 then (if 1 ≤ (x0_1.size : Int) then ((impl_readParts.f kj6 (x0_1.extract 1 x0_1.size)).bind fun bt122 => (if (bt122.1.length : Int) > 0 then ((strings_HasPrefix.f bt122.2 (⟨#[41,35]⟩ : ByteArray)).bind fun t126 => (if t126 = true then (if x4_1.length < 3518437208883 then (if 2 ≤ (bt122.2.size : Int) then (impl_readParts.l0 kj6 (bt122.2.extract 2 bt122.2.size) (x4_1 ++ [(⟨(⟨#[]⟩ : ByteArray),bt122.1⟩ : S86)])) else (none)) else (none)) else (some (x4_1,x0_1)))) else (some (x4_1,x0_1)))) else (none)) else (some (x4_1,x0_1))) = some (r1,r2):=by rw [if_neg (show ¬ (false = true) by decide)] at H;exact H
        clear H
        have H:=H1
        clear H1
        by_cases c15 : (bt x0_1 0) = 40
        ·rw [if_pos c15] at H
         have c15b0 : ((bt x0_1 0) == 40) = true:=beq_iff_eq.mpr c15
         have c15b1 : ((bt x0_1 0) != 40) = false:=bne_eq_false_iff_eq.mpr c15
         clear c15
         by_cases c16 : 1 ≤ (x0_1.size : Int)
         ·rw [if_pos c16] at H
          have c16b0:=eq_true c16
          have c16b1 : decide (1 ≤ (x0_1.size : Int)) = true:=decide_eq_true c16
          clear c16
          replace H:=Option.bind_eq_some_iff.mp H
          obtain ⟨⟨t122,t123⟩,A170,H⟩:=H
          replace H : (if (t122.length : Int) > 0 then ((strings_HasPrefix.f t123 (⟨#[41,35]⟩ : ByteArray)).bind fun t126 => (if t126 = true then (if x4_1.length < 3518437208883 then (if 2 ≤ (t123.size : Int) then (impl_readParts.l0 kj6 (t123.extract 2 t123.size) (x4_1 ++ [(⟨(⟨#[]⟩ : ByteArray),t122⟩ : S86)])) else (none)) else (none)) else (some (x4_1,x0_1)))) else (some (x4_1,x0_1))) = some (r1,r2):=H
          have A17:=Aside0.mk A170
          clear A170
          by_cases c18 : (t122.length : Int) > 0
          ·rw [if_pos c18] at H
           have c18b0 : decide (0 < (t122.length : Int)) = true:=decide_eq_true c18
           have c18b1 : decide (0 < t122.length) = true:=decide_eq_true (by omega)
           clear c18
           replace H:=Option.bind_eq_some_iff.mp H
           obtain ⟨t126,A190,H⟩:=H
           replace H : (if t126 = true then (if x4_1.length < 3518437208883 then (if 2 ≤ (t123.size : Int) then (impl_readParts.l0 kj6 (t123.extract 2 t123.size) (x4_1 ++ [(⟨(⟨#[]⟩ : ByteArray),t122⟩ : S86)])) else (none)) else (none)) else (some (x4_1,x0_1))) = some (r1,r2):=H
           have A19:=Aside0.mk A190
           clear A190
           by_cases c20 : t126 = true
           ·subst c20
            have H1 : (if x4_1.length < 3518437208883 then (if 2 ≤ (t123.size : Int) then (impl_readParts.l0 kj6 (t123.extract 2 t123.size) (x4_1 ++ [(⟨(⟨#[]⟩ : ByteArray),t122⟩ : S86)])) else (none)) else (none)) = some (r1,r2):=by rw [if_pos rfl] at H;exact H
            clear H
            have H:=H1
            clear H1
            by_cases c21 : x4_1.length < 3518437208883
            ·rw [if_pos c21] at H
             have LMc21:=Aside0.mk c21
             clear c21
             obtain ⟨y127,hy127⟩ : ∃ y_ : List (S86),y_ = (x4_1 ++ [(⟨(⟨#[]⟩ : ByteArray),t122⟩ : S86)]):=⟨_,rfl⟩
             replace H : (if 2 ≤ (t123.size : Int) then (impl_readParts.l0 kj6 (t123.extract 2 t123.size) y127) else (none)) = some (r1,r2):=by first|(rw [hy127];with_reducible exact H)|(have H2_:=(Option.bind_some _ _).symm.trans H;rw [hy127];with_reducible exact H2_)|(have H2_:=(Option.bind_some _ _).symm.trans H;with_reducible exact H2_)|with_reducible exact H|(rw [hy127];exact H)|exact H
             have Ny127:=Aside0.mk hy127
             clear hy127
             by_cases c22 : 2 ≤ (t123.size : Int)
             ·rw [if_pos c22] at H
              have c22b0:=eq_true c22
              have c22b1 : decide (2 ≤ (t123.size : Int)) = true:=decide_eq_true c22
              clear c22
              have H':=Aside0.mk H
              clear H
              go_wp2_with (first|((with_reducible refine gate_callee (f:=94) rfl ?_);refine goesL_ (some 28) rfl rfl Try.func94 (by kernel_rfl) rfl #[.string (x0_1.extract 1 x0_1.size)] rfl lp_ ?_;(with_reducible refine (ih kj6 (by have:=HK1.out;have:=HJ6.out;omega) (x0_1.extract 1 x0_1.size) t122 t123 _ A17.out).mono ?_);rintro e w23 ⟨v124,rfl,ho0,hb⟩;refine ⟨_,rfl,?_⟩;have n0_:=Aside0.mk (Kd.R_elder' (pr_ HO_4.out) (Kd.R_base ho0) hb);have n1_:=Aside0.mk (Kd.R_lower (Kd.R_new' ho0 (Kd.R_lt (pr_ HO_4.out))) (below_size (be0_ HB.out)));have n2_:=Aside0.mk (below_step (be0_ HB.out) hb);clear HO_4;clear HB;have HO_4:=n0_;have HO125:=n1_;have HB:=n2_;clear n0_ n1_ n2_;(try clear hb);(try clear hb2);(try clear hk);(try clear hi);(try clear ho0);obtain ⟨Ao24,co24,eo24⟩:=Kd.R_slice HO125.out;subst eo24)|(go_at_call 110;(with_reducible refine (strings_HasPrefix.calls t123 (⟨#[41,35]⟩ : ByteArray) true _ A19.out).mono ?_);rintro e w' ⟨rfl,⟨nd,rfl⟩⟩)|((with_reducible refine gate_builtin (b:=.append) (xs:=#[.tmp 38,.tmp 41]) rfl ?_);at_builtin;refine Kd.R_append k86 (w0:=w) w.heap.size rfl (.tmp 38) (.tmp 41) 55 86 (.agg #[(.string ⟨#[]⟩),(.slice none 0 0)]) 40 rfl Try.underlying55 info86 rfl (by decide) (by omega) u4 x4_1 (⟨(⟨#[]⟩ : ByteArray),t122⟩ : S86) [.string (⟨#[]⟩ : ByteArray),.slice Ao24 t122.length co24] (fun _ => True) (fun k_ => ((fun _ => True)) k_ ∧ some k_ ≠ (u4 : Value).ownBlock) rfl rfl ?aP (fun _ hk => hk) ?aF ?aO ?aB ?aS ?aL ?_;(case aP => first|exact k86_mkM _ _ _ (⟨(⟨#[]⟩ : ByteArray),t122⟩ : S86) (Kd.R_mono (HO125.out) (fun k_ hk => ⟨trivial,hk.2⟩))|exact k86_mkM _ _ _ (⟨(⟨#[]⟩ : ByteArray),t122⟩ : S86) (Kd.R_mono (Kd.R_drewN HO125.out _) (fun k_ hk => ⟨trivial,hk.2⟩))|exact k86_mkM _ _ _ (⟨(⟨#[]⟩ : ByteArray),t122⟩ : S86) (Kd.R_mono (Kd.R_drewN (Kd.R_drewN HO125.out _) _) (fun k_ hk => ⟨trivial,hk.2⟩)));(case aB => exact (be0_ HB.out));(case aF => exact (fun _ _ => trivial));(case aO => exact (by refine pr_ ?_;exact Kd.R_mono HO_4.out (fun _ hk => trivial)));(case aS => exact (below_size (be0_ HB.out)));(case aL => have:=LMc21.out;omega);intro v128 w25 ho hb hg hat;rw [← Ny127.out] at ho;have n0_:=Aside0.mk (hb);have n1_:=Aside0.mk (ho);clear HB;clear HO_4;clear HO125;have HB:=n0_;have HO129:=n1_;clear n0_ n1_;clear ho hb hg hat))
              go_roundg kj6
              case measure => have:=HK1.out;have:=HJ6.out;omega
              case rel => exact ⟨(t123.extract 2 t123.size),(y127),(by first|rfl|(simp;done)|(simp [*];done)),H',⟨by have:=HK1.out;have:=HJ6.out;omega⟩,⟨pr_ HO129.out⟩,⟨be0_ HB.out⟩⟩
             ·rw [if_neg c22] at H
              exact absurd H (by simp)
            ·rw [if_neg c21] at H
             exact absurd H (by simp)
           ·replace c20:=Bool.eq_false_iff.mpr c20
            subst c20
            have H1 : (some (x4_1,x0_1)) = some (r1,r2):=by rw [if_neg (show ¬ (false = true) by decide)] at H;exact H
            clear H
            have H:=H1
            clear H1
            simp only [Option.some.injEq,Prod.mk.injEq] at H
            obtain ⟨rfl,rfl⟩:=H
            go_wp2_with (first|((with_reducible refine gate_callee (f:=94) rfl ?_);refine goesL_ (some 28) rfl rfl Try.func94 (by kernel_rfl) rfl #[.string (x0_1.extract 1 x0_1.size)] rfl lp_ ?_;(with_reducible refine (ih kj6 (by have:=HK1.out;have:=HJ6.out;omega) (x0_1.extract 1 x0_1.size) t122 t123 _ A17.out).mono ?_);rintro e w26 ⟨v124,rfl,ho0,hb⟩;refine ⟨_,rfl,?_⟩;have n0_:=Aside0.mk (Kd.R_elder' (pr_ HO_4.out) (Kd.R_base ho0) hb);have n1_:=Aside0.mk (Kd.R_lower (Kd.R_new' ho0 (Kd.R_lt (pr_ HO_4.out))) (below_size (be0_ HB.out)));have n2_:=Aside0.mk (below_step (be0_ HB.out) hb);clear HO_4;clear HB;have HO_4:=n0_;have HO125:=n1_;have HB:=n2_;clear n0_ n1_ n2_;(try clear hb);(try clear hb2);(try clear hk);(try clear hi);(try clear ho0);obtain ⟨Ao27,co27,eo27⟩:=Kd.R_slice HO125.out;subst eo27)|(go_at_call 110;(with_reducible refine (strings_HasPrefix.calls t123 (⟨#[41,35]⟩ : ByteArray) false _ A19.out).mono ?_);rintro e w' ⟨rfl,⟨nd,rfl⟩⟩))
            go_ret2
            exact ⟨_,by first|rfl|(simp [errW_none,errW_some] <;> rfl)|(simp [*,errW_none,errW_some] <;> rfl),by refine pr_ ?_;exact Kd.R_mono HO_4.out (fun _ hk => trivial),be0_ HB.out⟩
          ·rw [if_neg c18] at H
           have c18b0 : decide (0 < (t122.length : Int)) = false:=decide_eq_false c18
           have c18b1 : decide (0 < t122.length) = false:=decide_eq_false (by omega)
           clear c18
           simp only [Option.some.injEq,Prod.mk.injEq] at H
           obtain ⟨rfl,rfl⟩:=H
           go_wp2_with (first|((with_reducible refine gate_callee (f:=94) rfl ?_);refine goesL_ (some 28) rfl rfl Try.func94 (by kernel_rfl) rfl #[.string (x0_1.extract 1 x0_1.size)] rfl lp_ ?_;(with_reducible refine (ih kj6 (by have:=HK1.out;have:=HJ6.out;omega) (x0_1.extract 1 x0_1.size) t122 t123 _ A17.out).mono ?_);rintro e w28 ⟨v124,rfl,ho0,hb⟩;refine ⟨_,rfl,?_⟩;have n0_:=Aside0.mk (Kd.R_elder' (pr_ HO_4.out) (Kd.R_base ho0) hb);have n1_:=Aside0.mk (Kd.R_lower (Kd.R_new' ho0 (Kd.R_lt (pr_ HO_4.out))) (below_size (be0_ HB.out)));have n2_:=Aside0.mk (below_step (be0_ HB.out) hb);clear HO_4;clear HB;have HO_4:=n0_;have HO125:=n1_;have HB:=n2_;clear n0_ n1_ n2_;(try clear hb);(try clear hb2);(try clear hk);(try clear hi);(try clear ho0);obtain ⟨Ao29,co29,eo29⟩:=Kd.R_slice HO125.out;subst eo29))
           go_ret2
           exact ⟨_,by first|rfl|(simp [errW_none,errW_some] <;> rfl)|(simp [*,errW_none,errW_some] <;> rfl),by refine pr_ ?_;exact Kd.R_mono HO_4.out (fun _ hk => trivial),be0_ HB.out⟩
         ·rw [if_neg c16] at H
          exact absurd H (by simp)
        ·rw [if_neg c15] at H
         have c15b0 : ((bt x0_1 0) == 40) = false:=beq_eq_false_iff_ne.mpr c15
         have c15b1 : ((bt x0_1 0) != 40) = true:=bne_iff_ne.mpr c15
         simp only [Option.some.injEq,Prod.mk.injEq] at H
         obtain ⟨rfl,rfl⟩:=H
         go_wp2
         go_ret2
         exact ⟨_,by first|rfl|(simp [errW_none,errW_some] <;> rfl)|(simp [*,errW_none,errW_some] <;> rfl),pr_ HO_4.out,be0_ HB.out⟩
    ·rw [if_neg c5] at H
     exact absurd H (by simp)
end Go.Proofs.Ytengegdaiphfeaa.X
end
section
namespace Go.Proofs.Ytengegdaiphfeaa.X
open Go.RowKit Go.Proofs.YtengegdaiphfeaaW.PrintWords Go.Proofs.YtengegdaiphfeaaW.PrintLast Go.Proofs.YtengegdaiphfeaaW.PrintMore
attribute [local go_sem] max2_int min2_int max_two min_two max_three min_three max_four min_four
set_option linter.unusedVariables false
set_option linter.unusedSimpArgs false
def impl_parts.f (k : Nat) (a0 : ByteArray) : Option ((List (S86)) × Bool):=if (a0.size : Int) > 120 then (some (([] : List (S86)),false)) else ((impl_readParts.f k a0).bind fun bt130 => (if (bt130.1.length : Int) > 0 then (some (bt130.1,(bt130.2.toList == ([] : List UInt8)))) else (some (bt130.1,false))))
theorem impl_parts.mono : ∀ a0 k,LeO (impl_parts.f k a0) (impl_parts.f (k + 1) a0):=by
 intro a0 k
 unfold impl_parts.f
 repeat' first
   | (with_reducible exact impl_readParts.mono _ _)
   | (with_reducible exact LeO.refl _)
   | (with_reducible exact LeO.none _)
   | (with_reducible refine LeO.ite ?_ ?_)
   | (with_reducible refine LeO.bind ?_ (fun _ => ?_))
   | exact impl_readParts.mono _ _
   | exact LeO.none _
   | refine LeO.ite ?_ ?_
   | refine LeO.bind ?_ (fun _ => ?_)
set_option maxHeartbeats 8000000 in
set_option maxRecDepth 100000 in
theorem impl_parts.calls (k : Nat) (a0 : ByteArray) (r1 : List (S86)) (r2 : Bool) (w : World) (h : impl_parts.f k a0 = some (r1,r2)) :
  Calls Try.prog 52 #[.string a0] w fun e w' => ∃ v0_ : Value,e = .returned (.tuple #[v0_,.bool r2]) ∧ Kd.R k86 86 w' w.heap.size (fun _ => True) v0_ r1 ∧ Below w.heap.size w w':=by
 have HB:=Aside0.mk (Below.refl w.heap.size w)
 have H : (if (a0.size : Int) > 120 then (some (([] : List (S86)),false)) else ((impl_readParts.f k a0).bind fun bt130 => (if (bt130.1.length : Int) > 0 then (some (bt130.1,(bt130.2.toList == ([] : List UInt8)))) else (some (bt130.1,false))))) = some (r1,r2):=h
 clear h
 by_cases c2 : (a0.size : Int) > 120
 ·rw [if_pos c2] at H
  have c2b0 : decide (120 < (a0.size : Int)) = true:=decide_eq_true c2
  have c2b1 : decide (120 < a0.size) = true:=decide_eq_true (by omega)
  clear c2
  simp only [Option.some.injEq,Prod.mk.injEq] at H
  obtain ⟨rfl,rfl⟩:=H
  go_enter Try.func52,Try.ntmps52
  go_wp2
  go_ret2
  exact ⟨_,by first|rfl|(simp [errW_none,errW_some] <;> rfl)|(simp [*,errW_none,errW_some] <;> rfl),by first|exact Kd.R_nil _ _ _ _ _|exact Kd.N_nil _ _ _ _ _|exact Kd.V_nil _ _ _ _ _|exact Kd.Q_nil _ _ _ _ _|exact Kd.S_nil _ _ _ _ _,be0_ HB.out⟩
 ·rw [if_neg c2] at H
  have c2b0 : decide (120 < (a0.size : Int)) = false:=decide_eq_false c2
  have c2b1 : decide (120 < a0.size) = false:=decide_eq_false (by omega)
  clear c2
  replace H:=Option.bind_eq_some_iff.mp H
  obtain ⟨⟨t130,t131⟩,A30,H⟩:=H
  replace H : (if (t130.length : Int) > 0 then (some (t130,(t131.toList == ([] : List UInt8)))) else (some (t130,false))) = some (r1,r2):=H
  have A3:=Aside0.mk A30
  clear A30
  by_cases c4 : (t130.length : Int) > 0
  ·rw [if_pos c4] at H
   have c4b0 : decide (0 < (t130.length : Int)) = true:=decide_eq_true c4
   have c4b1 : decide (0 < t130.length) = true:=decide_eq_true (by omega)
   clear c4
   simp only [Option.some.injEq,Prod.mk.injEq] at H
   obtain ⟨rfl,rfl⟩:=H
   go_enter Try.func52,Try.ntmps52
   go_wp2_with (first|((with_reducible refine gate_callee (f:=94) rfl ?_);refine goesL_ (some 11) rfl rfl Try.func94 (by kernel_rfl) rfl #[.string a0] rfl lp_ ?_;(with_reducible refine (impl_readParts.calls k a0 t130 t131 _ A3.out).mono ?_);rintro e w5 ⟨v132,rfl,ho0,hb⟩;refine ⟨_,rfl,?_⟩;have n0_:=Aside0.mk (Kd.R_lower ho0 (below_size (be0_ HB.out)));have n1_:=Aside0.mk (below_step (be0_ HB.out) hb);clear HB;have HO133:=n0_;have HB:=n1_;clear n0_ n1_;(try clear hb);(try clear hb2);(try clear hk);(try clear hi);(try clear ho0);obtain ⟨Ao6,co6,eo6⟩:=Kd.R_slice HO133.out;subst eo6))
   go_ret2
   exact ⟨_,by first|rfl|(simp [errW_none,errW_some] <;> rfl)|(simp [*,errW_none,errW_some] <;> rfl),pr_ HO133.out,be0_ HB.out⟩
  ·rw [if_neg c4] at H
   have c4b0 : decide (0 < (t130.length : Int)) = false:=decide_eq_false c4
   have c4b1 : decide (0 < t130.length) = false:=decide_eq_false (by omega)
   clear c4
   simp only [Option.some.injEq,Prod.mk.injEq] at H
   obtain ⟨rfl,rfl⟩:=H
   go_enter Try.func52,Try.ntmps52
   go_wp2_with (first|((with_reducible refine gate_callee (f:=94) rfl ?_);refine goesL_ (some 11) rfl rfl Try.func94 (by kernel_rfl) rfl #[.string a0] rfl lp_ ?_;(with_reducible refine (impl_readParts.calls k a0 t130 t131 _ A3.out).mono ?_);rintro e w7 ⟨v132,rfl,ho0,hb⟩;refine ⟨_,rfl,?_⟩;have n0_:=Aside0.mk (Kd.R_lower ho0 (below_size (be0_ HB.out)));have n1_:=Aside0.mk (below_step (be0_ HB.out) hb);clear HB;have HO133:=n0_;have HB:=n1_;clear n0_ n1_;(try clear hb);(try clear hb2);(try clear hk);(try clear hi);(try clear ho0);obtain ⟨Ao8,co8,eo8⟩:=Kd.R_slice HO133.out;subst eo8))
   go_ret2
   exact ⟨_,by first|rfl|(simp [errW_none,errW_some] <;> rfl)|(simp [*,errW_none,errW_some] <;> rfl),pr_ HO133.out,be0_ HB.out⟩
end Go.Proofs.Ytengegdaiphfeaa.X
end
section
namespace Go.Proofs.Ytengegdaiphfeaa.X
open Go.RowKit Go.Proofs.YtengegdaiphfeaaW.PrintWords Go.Proofs.YtengegdaiphfeaaW.PrintLast Go.Proofs.YtengegdaiphfeaaW.PrintMore
attribute [local go_sem] max2_int min2_int max_two min_two max_three min_three max_four min_four
set_option linter.unusedVariables false
set_option linter.unusedSimpArgs false
def impl_DepthOf.f (k : Nat) (a0 : ByteArray) : Option (Int):=(impl_parts.f k a0).bind fun bt978 => (if bt978.2 = true then ((impl_depth.f k bt978.1).bind fun t982 => (some t982)) else (some (-1)))
theorem impl_DepthOf.mono : ∀ a0 k,LeO (impl_DepthOf.f k a0) (impl_DepthOf.f (k + 1) a0):=by
 intro a0 k
 unfold impl_DepthOf.f
 repeat' first
   | (with_reducible exact impl_depth.mono _ _)
   | (with_reducible exact impl_parts.mono _ _)
   | (with_reducible exact LeO.refl _)
   | (with_reducible exact LeO.none _)
   | (with_reducible refine LeO.ite ?_ ?_)
   | (with_reducible refine LeO.bind ?_ (fun _ => ?_))
   | exact impl_depth.mono _ _
   | exact impl_parts.mono _ _
   | exact LeO.none _
   | refine LeO.ite ?_ ?_
   | refine LeO.bind ?_ (fun _ => ?_)
set_option maxHeartbeats 8000000 in
set_option maxRecDepth 100000 in
theorem impl_DepthOf.calls (k : Nat) (a0 : ByteArray) (r : Int) (w : World) (h : impl_DepthOf.f k a0 = some r) :
  Calls Try.prog 46 #[.string a0] w fun e w' => e = .returned (.int .i64 r) ∧ Below w.heap.size w w':=by
 have HB:=Aside0.mk (Below.refl w.heap.size w)
 have H : ((impl_parts.f k a0).bind fun bt978 => (if bt978.2 = true then ((impl_depth.f k bt978.1).bind fun t982 => (some t982)) else (some (-1)))) = some r:=h
 clear h
 replace H:=Option.bind_eq_some_iff.mp H
 obtain ⟨⟨t978,t979⟩,A20,H⟩:=H
 replace H : (if t979 = true then ((impl_depth.f k t978).bind fun t982 => (some t982)) else (some (-1))) = some r:=H
 have A2:=Aside0.mk A20
 clear A20
 by_cases c3 : t979 = true
 ·subst c3
  have H1 : ((impl_depth.f k t978).bind fun t982 => (some t982)) = some r:=by rw [if_pos rfl] at H;exact H
  clear H
  have H:=H1
  clear H1
  replace H:=Option.bind_eq_some_iff.mp H
  obtain ⟨t982,A40,H⟩:=H
  replace H : (some t982) = some r:=H
  have A4:=Aside0.mk A40
  clear A40
  obtain rfl:=Option.some.inj H
  go_enter Try.func46,Try.ntmps46
  go_wp2_with (first|((with_reducible refine gate_callee (f:=52) rfl ?_);refine goesL_ (some 7) rfl rfl Try.func52 (by kernel_rfl) rfl #[.string a0] rfl lp_ ?_;(with_reducible refine (impl_parts.calls k a0 t978 true _ A2.out).mono ?_);rintro e w5 ⟨v980,rfl,ho0,hb⟩;refine ⟨_,rfl,?_⟩;have n0_:=Aside0.mk (Kd.R_lower ho0 (below_size (be0_ HB.out)));have n1_:=Aside0.mk (below_step (be0_ HB.out) hb);clear HB;have HO981:=n0_;have HB:=n1_;clear n0_ n1_;(try clear hb);(try clear hb2);(try clear hk);(try clear hi);(try clear ho0);obtain ⟨Ao6,co6,eo6⟩:=Kd.R_slice HO981.out;subst eo6)|((with_reducible refine gate_callee (f:=90) rfl ?_);refine goesL_ (some 13) rfl rfl Try.func90 (by kernel_rfl) rfl #[.slice Ao6 t978.length co6] rfl lp_ ?_;(with_reducible refine (impl_depth.calls k _ _ t978 t982 _ ?side1 ?side2 A4.out).mono ?_);(case side1 => repeat (first|exact (Kd.R_reads' HO981.out).2.2|(with_reducible refine Kd.C_alloc ?_ _)|(with_reducible refine Kd.C_drewN ?_ _)|(with_reducible refine Kd.C_drew ?_)));(case side2 => exact (Kd.R_reads' HO981.out).2.1);rintro e w7 ⟨rfl,hb⟩;refine ⟨_,rfl,?_⟩;have n0_:=Aside0.mk (Kd.R_below (pr_ HO981.out) hb);have n1_:=Aside0.mk (below_step (be0_ HB.out) hb);clear HO981;clear HB;have HO981:=n0_;have HB:=n1_;clear n0_ n1_;(try clear hb);(try clear hb2);(try clear hk);(try clear hi)))
  go_ret
  exact ⟨by first|rfl|(simp [errW_none,errW_some] <;> rfl)|(simp [*,errW_none,errW_some] <;> rfl),be0_ HB.out⟩
 ·replace c3:=Bool.eq_false_iff.mpr c3
  subst c3
  have H1 : (some (-1)) = some r:=by rw [if_neg (show ¬ (false = true) by decide)] at H;exact H
  clear H
  have H:=H1
  clear H1
  obtain rfl:=Option.some.inj H
  go_enter Try.func46,Try.ntmps46
  go_wp2_with (first|((with_reducible refine gate_callee (f:=52) rfl ?_);refine goesL_ (some 7) rfl rfl Try.func52 (by kernel_rfl) rfl #[.string a0] rfl lp_ ?_;(with_reducible refine (impl_parts.calls k a0 t978 false _ A2.out).mono ?_);rintro e w8 ⟨v980,rfl,ho0,hb⟩;refine ⟨_,rfl,?_⟩;have n0_:=Aside0.mk (Kd.R_lower ho0 (below_size (be0_ HB.out)));have n1_:=Aside0.mk (below_step (be0_ HB.out) hb);clear HB;have HO981:=n0_;have HB:=n1_;clear n0_ n1_;(try clear hb);(try clear hb2);(try clear hk);(try clear hi);(try clear ho0)))
  go_ret
  exact ⟨by first|rfl|(simp [errW_none,errW_some] <;> rfl)|(simp [*,errW_none,errW_some] <;> rfl),be0_ HB.out⟩
end Go.Proofs.Ytengegdaiphfeaa.X
end
section

namespace Go.Proofs
open Go.Shelf
shelf_try shelf_lay Lays.n240 Nm 240 at Try as Try.lays240
shelf_try theorem Try.Builder_X72_240 : Builder.X72 Try.prog Try.lays240_ren where
 sizeBuilder:=by kernel_rfl
 liesBuilder:=by kernel_rfl
shelf_try open Go.RowKit in
theorem Try.Builder_copyCheck (B b : Nat) (bs : List Value) (w : World) (h : Lib.IsBuilder 99 5 B b bs w) :
  Calls Try.prog 118 #[.pointer (some ⟨b,0,none⟩)] w fun e w' => e = .returned (.tuple #[]) ∧ (Lib.BuilderAt 99 5 B b (.pointer (some ⟨b,0,none⟩)) bs w' ∧ Below B w w'):=Any.Builder_copyCheck Try.lays240 Try.Builder_X72_240 B b bs w h
shelf_try #print axioms Try.Builder_copyCheck
shelf_try shelf_lay Lays.n170 Nm 170 at Try as Try.lays170
shelf_try open Go.RowKit in
theorem Try.Builder_Len (B b : Nat) (bs : List Value) (w : World) (h : Lib.IsBuilder 99 5 B b bs w) :
  Calls Try.prog 116 #[.pointer (some ⟨b,0,none⟩)] w fun e w' => e = .returned (.int .i64 bs.length) ∧ w' = w:=Any.Builder_Len Try.lays170 B b bs w h
shelf_try #print axioms Try.Builder_Len
shelf_try shelf_lay Lays.n166 Nm 166 at Try as Try.lays166
shelf_try theorem Try.Builder_Extra_166 : Builder.Extra Try.prog Try.lays166_ren where
 sizeBuilder:=by kernel_rfl
 liesBuilder:=by kernel_rfl
 t5:=Try.underlying5
 a5:=Try.isAgg5
 z5:=Try.sizeOf5
 v5:=Try.zeroValue5
 infoByte:=by kernel_rfl
 cellsByte:=by kernel_rfl
 sizeByte:=by kernel_rfl
 neB5:=by decide
shelf_try open Go.RowKit in
theorem Try.Builder_WriteString (B b : Nat) (bs : List Value) (s : ByteArray) (w : World) (h : Lib.IsBuilder 99 5 B b bs w) (hlen : bs.length + s.size ≤ 140737488355328) (hBw : B ≤ w.heap.size) :
  Calls Try.prog 113 #[.pointer (some ⟨b,0,none⟩),.string s] w fun e w' => e = .returned (.tuple #[.int .i64 s.size,.nilIface]) ∧ (Lib.BuilderAt 99 5 B b (.pointer (some ⟨b,0,none⟩)) (bs ++ Lib.strCells s) w' ∧ Below B w w'):=Any.Builder_WriteString Try.lays166 Try.Builder_Extra_166 B b bs s w h hlen hBw
shelf_try #print axioms Try.Builder_WriteString
shelf_try shelf_lay Lays.n169 Nm 169 at Try as Try.lays169
shelf_try theorem Try.Builder_Extra_169 : Builder.Extra Try.prog Try.lays169_ren where
 sizeBuilder:=by kernel_rfl
 liesBuilder:=by kernel_rfl
 t5:=Try.underlying5
 a5:=Try.isAgg5
 z5:=Try.sizeOf5
 v5:=Try.zeroValue5
 infoByte:=by kernel_rfl
 cellsByte:=by kernel_rfl
 sizeByte:=by kernel_rfl
 neB5:=by decide
shelf_try open Go.RowKit in
theorem Try.Builder_String (B b : Nat) (l : List UInt8) (w : World) (h : Lib.IsBuilder 99 5 B b (Lib.byteCells l) w) (h0 : l ≠ []) :
  Calls Try.prog 114 #[.pointer (some ⟨b,0,none⟩)] w fun e w' => e = .returned (.string ⟨l.toArray⟩) ∧ Below B w w':=Any.Builder_String Try.lays169 Try.Builder_Extra_169 B b l w h h0
shelf_try #print axioms Try.Builder_String
shelf_try open Go.RowKit in
theorem Try.Builder_String_empty (B b : Nat) (w : World) (h : Lib.IsBuilder 99 5 B b [] w) (hBw : B ≤ w.heap.size) :
  Calls Try.prog 114 #[.pointer (some ⟨b,0,none⟩)] w fun e w' => e = .returned (.string ⟨#[]⟩) ∧ Below B w w':=Any.Builder_String_empty Try.lays169 Try.Builder_Extra_169 B b w h hBw
shelf_try #print axioms Try.Builder_String_empty
shelf_try open Go.RowKit in
theorem Try.Builder_String_any (B b : Nat) (l : List UInt8) (w : World) (h : Lib.IsBuilder 99 5 B b (Lib.byteCells l) w) (hBw : B ≤ w.heap.size) :
  Calls Try.prog 114 #[.pointer (some ⟨b,0,none⟩)] w fun e w' => e = .returned (.string ⟨l.toArray⟩) ∧ Below B w w':=Any.Builder_String_any Try.lays169 Try.Builder_Extra_169 B b l w h hBw
shelf_try #print axioms Try.Builder_String_any
shelf_try shelf_lay Lays.n241 Nm 241 at Try as Try.lays241
shelf_try theorem Try.Builder_Extra_241 : Builder.Extra Try.prog Try.lays241_ren where
 sizeBuilder:=by kernel_rfl
 liesBuilder:=by kernel_rfl
 t5:=Try.underlying5
 a5:=Try.isAgg5
 z5:=Try.sizeOf5
 v5:=Try.zeroValue5
 infoByte:=by kernel_rfl
 cellsByte:=by kernel_rfl
 sizeByte:=by kernel_rfl
 neB5:=by decide
shelf_try open Go.RowKit in
theorem Try.Builder_grow_fresh (B b n : Nat) (w : World) (hB : B ≤ b) (hbk : w.heap[b]? = some (.cells #[.pointer (some ⟨b,0,none⟩),.slice none 0 0] 99 (0,0))) (hBw : B ≤ w.heap.size) (hn : n ≤ 281474976710656) :
  Calls Try.prog 119 #[.pointer (some ⟨b,0,none⟩),.int .i64 n] w fun e w' => e = .returned (.tuple #[]) ∧ (Lib.BuilderAt 99 5 B b (.pointer (some ⟨b,0,none⟩)) [] w' ∧ Below B w w'):=Any.Builder_grow_fresh Try.lays241 Try.Builder_Extra_241 B b n w hB hbk hBw hn
shelf_try #print axioms Try.Builder_grow_fresh
shelf_try shelf_lay Lays.n165 Nm 165 at Try as Try.lays165
shelf_try theorem Try.Builder_Extra_165 : Builder.Extra Try.prog Try.lays165_ren where
 sizeBuilder:=by kernel_rfl
 liesBuilder:=by kernel_rfl
 t5:=Try.underlying5
 a5:=Try.isAgg5
 z5:=Try.sizeOf5
 v5:=Try.zeroValue5
 infoByte:=by kernel_rfl
 cellsByte:=by kernel_rfl
 sizeByte:=by kernel_rfl
 neB5:=by decide
shelf_try open Go.RowKit in
theorem Try.Builder_Grow_fresh (B b n : Nat) (w : World) (hB : B ≤ b) (hbk : w.heap[b]? = some (.cells #[.pointer none,.slice none 0 0] 99 (0,0))) (hBw : B ≤ w.heap.size) (hn : n ≤ 281474976710656) :
  Calls Try.prog 112 #[.pointer (some ⟨b,0,none⟩),.int .i64 n] w fun e w' => e = .returned (.tuple #[]) ∧ (Lib.BuilderAt 99 5 B b (.pointer (some ⟨b,0,none⟩)) [] w' ∧ Below B w w'):=Any.Builder_Grow_fresh Try.lays165 Try.Builder_Extra_165 B b n w hB hbk hBw hn
shelf_try #print axioms Try.Builder_Grow_fresh
shelf_try open Go.RowKit in
theorem Try.Builder_copyCheck_f (B b : Nat) (bs : List Value) (w : World) (h : Lib.IsBuilderF 99 5 B b bs w) :
  Calls Try.prog 118 #[.pointer (some ⟨b,0,none⟩)] w fun e w' => e = .returned (.tuple #[]) ∧ (Lib.BuilderAtF 99 5 B b (.pointer (some ⟨b,0,none⟩)) bs w' ∧ Below B w w'):=Any.Builder_copyCheck_f Try.lays240 Try.Builder_X72_240 B b bs w h
shelf_try #print axioms Try.Builder_copyCheck_f
shelf_try open Go.RowKit in
theorem Try.Builder_Len_f (B b : Nat) (bs : List Value) (w : World) (h : Lib.IsBuilderF 99 5 B b bs w) :
  Calls Try.prog 116 #[.pointer (some ⟨b,0,none⟩)] w fun e w' => e = .returned (.int .i64 bs.length) ∧ w' = w:=Any.Builder_Len_f Try.lays170 B b bs w h
shelf_try #print axioms Try.Builder_Len_f
shelf_try open Go.RowKit in
theorem Try.Builder_WriteString_f (B b : Nat) (bs : List Value) (s : ByteArray) (w : World) (h : Lib.IsBuilderF 99 5 B b bs w) (hlen : bs.length + s.size ≤ 140737488355328) (hBw : B ≤ w.heap.size) :
  Calls Try.prog 113 #[.pointer (some ⟨b,0,none⟩),.string s] w fun e w' => e = .returned (.tuple #[.int .i64 s.size,.nilIface]) ∧ (Lib.BuilderAtF 99 5 B b (.pointer (some ⟨b,0,none⟩)) (bs ++ Lib.strCells s) w' ∧ Below B w w'):=Any.Builder_WriteString_f Try.lays166 Try.Builder_Extra_166 B b bs s w h hlen hBw
shelf_try #print axioms Try.Builder_WriteString_f
shelf_try open Go.RowKit in
theorem Try.Builder_String_f (B b : Nat) (l : List UInt8) (w : World) (h : Lib.IsBuilderF 99 5 B b (Lib.byteCells l) w) (h0 : l ≠ []) :
  Calls Try.prog 114 #[.pointer (some ⟨b,0,none⟩)] w fun e w' => e = .returned (.string ⟨l.toArray⟩) ∧ (Lib.IsBuilderF 99 5 B b (Lib.byteCells l) w' ∧ Below B w w'):=Any.Builder_String_f Try.lays169 Try.Builder_Extra_169 B b l w h h0
shelf_try #print axioms Try.Builder_String_f
shelf_try open Go.RowKit in
theorem Try.Builder_String_empty_f (B b : Nat) (w : World) (h : Lib.IsBuilderF 99 5 B b [] w) (hBw : B ≤ w.heap.size) :
  Calls Try.prog 114 #[.pointer (some ⟨b,0,none⟩)] w fun e w' => e = .returned (.string ⟨#[]⟩) ∧ (Lib.IsBuilderF 99 5 B b [] w' ∧ Below B w w'):=Any.Builder_String_empty_f Try.lays169 Try.Builder_Extra_169 B b w h hBw
shelf_try #print axioms Try.Builder_String_empty_f
shelf_try open Go.RowKit in
theorem Try.Builder_String_any_f (B b : Nat) (l : List UInt8) (w : World) (h : Lib.IsBuilderF 99 5 B b (Lib.byteCells l) w) (hBw : B ≤ w.heap.size) :
  Calls Try.prog 114 #[.pointer (some ⟨b,0,none⟩)] w fun e w' => e = .returned (.string ⟨l.toArray⟩) ∧ (Lib.IsBuilderF 99 5 B b (Lib.byteCells l) w' ∧ Below B w w'):=Any.Builder_String_any_f Try.lays169 Try.Builder_Extra_169 B b l w h hBw
shelf_try #print axioms Try.Builder_String_any_f
shelf_try shelf_lay Lays.n206 Nm 206 at Try as Try.lays206
shelf_try open Go.RowKit Go.Lib in
theorem Try.stringslite_HasPrefix (s p : ByteArray) (w : World) :
  Calls Try.prog 117 #[.string s,.string p] w fun e w' => e = .returned (.bool (Lib.hasPrefix s.data.toList p.data.toList)) ∧ w' = w:=Any.stringslite_HasPrefix Try.lays206 s p w
shelf_try #print axioms Try.stringslite_HasPrefix
shelf_try shelf_lay Lays.n99 Nm 99 at Try as Try.lays99
shelf_try open Go.RowKit Go.Lib in
theorem Try.strings_HasPrefix (s p : ByteArray) (w : World) :
  Calls Try.prog 110 #[.string s,.string p] w fun e w' => e = .returned (.bool (Lib.hasPrefix s.data.toList p.data.toList)) ∧ w' = w:=Any.strings_HasPrefix Try.lays99 s p w
shelf_try #print axioms Try.strings_HasPrefix
shelf_try shelf_lay Lays.n264 Nm 264 at Try as Try.lays264
shelf_try open Go.RowKit Go.Lib in
theorem Try.bits_Mul64 (x y : Nat) (hx : x < 18446744073709551616) (hy : y < 18446744073709551616) (w : World) :
  Calls Try.prog 121 #[.int .u64 x,.int .u64 y] w fun e w' => e = .returned (.tuple #[.int .u64 ((x * y / 18446744073709551616 : Nat) : Int),.int .u64 ((x * y % 18446744073709551616 : Nat) : Int)]) ∧ w' = w:=Any.bits_Mul64 Try.lays264 x y hx hy w
shelf_try #print axioms Try.bits_Mul64
shelf_try shelf_lay Lays.n212 Nm 212 at Try as Try.lays212
shelf_try open Go.RowKit Go.Lib in
theorem Try.bits_Mul (x y : Nat) (hx : x < 18446744073709551616) (hy : y < 18446744073709551616) (w : World) :
  Calls Try.prog 115 #[.int .u64 x,.int .u64 y] w fun e w' => e = .returned (.tuple #[.int .u64 ((x * y / 18446744073709551616 : Nat) : Int),.int .u64 ((x * y % 18446744073709551616 : Nat) : Int)]) ∧ w' = w:=Any.bits_Mul Try.lays212 x y hx hy w
shelf_try #print axioms Try.bits_Mul
shelf_try shelf_lay Lays.n105 Nm 105 at Try as Try.lays105
shelf_try theorem Try.Builder_Extra_105 : Builder.Extra Try.prog Try.lays105_ren where
 sizeBuilder:=by kernel_rfl
 liesBuilder:=by kernel_rfl
 t5:=Try.underlying5
 a5:=Try.isAgg5
 z5:=Try.sizeOf5
 v5:=Try.zeroValue5
 infoByte:=by kernel_rfl
 cellsByte:=by kernel_rfl
 sizeByte:=by kernel_rfl
 neB5:=by decide
shelf_try open Go.RowKit Go.Lib in
theorem Try.strings_Repeat_main (s : ByteArray) (c : Nat) (w : World) (hc2 : 2 ≤ c) (hc : c ≤ 9223372036854775807) (hlen : s.size * c ≤ 140737488355328) (h0 : 0 < s.size) :
  Calls Try.prog 106 #[.string s,.int .i64 c] w fun e w' => e = .returned (.string ⟨(Lib.repeatL s.data.toList c).toArray⟩) ∧ Below w.heap.size w w':=Any.strings_Repeat_main Try.lays105 Try.Builder_Extra_105 s c w hc2 hc hlen h0
shelf_try #print axioms Try.strings_Repeat_main
shelf_try open Go.RowKit Go.Lib in
theorem Try.strings_Repeat_zero (s : ByteArray) (w : World) :
  Calls Try.prog 106 #[.string s,.int .i64 0] w fun e w' => e = .returned (.string ⟨#[]⟩) ∧ w' = w:=Any.strings_Repeat_zero Try.lays105 s w
shelf_try #print axioms Try.strings_Repeat_zero
shelf_try open Go.RowKit Go.Lib in
theorem Try.strings_Repeat_one (s : ByteArray) (w : World) :
  Calls Try.prog 106 #[.string s,.int .i64 1] w fun e w' => e = .returned (.string s) ∧ w' = w:=Any.strings_Repeat_one Try.lays105 s w
shelf_try #print axioms Try.strings_Repeat_one
shelf_try open Go.RowKit Go.Lib in
theorem Try.strings_Repeat_empty (s : ByteArray) (c : Nat) (w : World) (hc2 : 2 ≤ c) (hc : c ≤ 9223372036854775807) (h0 : s.size = 0) :
  Calls Try.prog 106 #[.string s,.int .i64 c] w fun e w' => e = .returned (.string ⟨#[]⟩) ∧ w' = w:=Any.strings_Repeat_empty Try.lays105 s c w hc2 hc h0
shelf_try #print axioms Try.strings_Repeat_empty
shelf_try open Go.RowKit Go.Lib in
theorem Try.strings_Repeat_negative (s : ByteArray) (c : Int) (w : World) (hc : c < 0) :
  Calls Try.prog 106 #[.string s,.int .i64 c] w fun e w' => e = .panicked [{ v:=repeatPanic Try.lays105_ren "strings: negative Repeat count", recovered:=false }] ∧ w' = w:=Any.strings_Repeat_negative Try.lays105 s c w hc
shelf_try #print axioms Try.strings_Repeat_negative
shelf_try open Go.RowKit Go.Lib in
theorem Try.strings_Repeat_overflow (s : ByteArray) (c : Nat) (w : World) (hc : c ≤ 9223372036854775807) (hs : s.size ≤ 9223372036854775807) (hbig : 9223372036854775807 < s.size * c) :
  Calls Try.prog 106 #[.string s,.int .i64 c] w fun e w' => e = .panicked [{ v:=repeatPanic Try.lays105_ren "strings: Repeat output length overflow", recovered:=false }] ∧ w' = w:=Any.strings_Repeat_overflow Try.lays105 s c w hc hs hbig
shelf_try #print axioms Try.strings_Repeat_overflow
shelf_try open Go.RowKit Go.Lib in
theorem Try.strings_Repeat (s : ByteArray) (c : Nat) (w : World) (hc : c ≤ 9223372036854775807) (hlen : s.size * c ≤ 140737488355328) :
  Calls Try.prog 106 #[.string s,.int .i64 c] w fun e w' => e = .returned (.string ⟨(Lib.repeatL s.data.toList c).toArray⟩) ∧ Below w.heap.size w w':=Any.strings_Repeat Try.lays105 Try.Builder_Extra_105 s c w hc hlen
shelf_try #print axioms Try.strings_Repeat
shelf_tried
end Go.Proofs
end
section
namespace Go.Proofs.Ytengegdaiphfeaa.X
open Go.RowKit Go.Proofs.YtengegdaiphfeaaW.PrintWords Go.Proofs.YtengegdaiphfeaaW.PrintLast Go.Proofs.YtengegdaiphfeaaW.PrintMore
attribute [local go_sem] max2_int min2_int max_two min_two max_three min_three max_four min_four
set_option linter.unusedVariables false
set_option linter.unusedSimpArgs false
def strings_Repeat.f (a0 : ByteArray) (a1 : Int) : Option (ByteArray):=if 0 ≤ a1 ∧ a1 ≤ 9223372036854775807 ∧ a0.size * a1.toNat ≤ 140737488355328 then some ⟨(Lib.repeatL a0.data.toList a1.toNat).toArray⟩ else none
theorem strings_Repeat.calls (a0 : ByteArray) (a1 : Int) (r : ByteArray) (w : World) (h : strings_Repeat.f a0 a1 = some r) :
  Calls Try.prog 106 #[.string a0,.int .i64 a1] w fun e w' => e = .returned (.string r) ∧ Below w.heap.size w w':=by
 unfold strings_Repeat.f at h
 by_cases g : 0 ≤ a1 ∧ a1 ≤ 9223372036854775807 ∧ a0.size * a1.toNat ≤ 140737488355328
 ·rw [if_pos g] at h
  obtain rfl:=Option.some.inj h
  have e : a1 = (a1.toNat : Int):=by omega
  have c:=Try.strings_Repeat a0 a1.toNat w (by omega) g.2.2
  rw [← e] at c
  exact c
 ·rw [if_neg g] at h
  cases h
end Go.Proofs.Ytengegdaiphfeaa.X
end
section
namespace Go.Proofs.Ytengegdaiphfeaa.X
open Go.RowKit Go.Proofs.YtengegdaiphfeaaW.PrintWords Go.Proofs.YtengegdaiphfeaaW.PrintLast Go.Proofs.YtengegdaiphfeaaW.PrintMore
attribute [local go_sem] max2_int min2_int max_two min_two max_three min_three max_four min_four
set_option linter.unusedVariables false
set_option linter.unusedSimpArgs false
private theorem wrap_tdiv_ (x y : Int) (h0 : -9223372036854775807 ≤ x) (h1 : x ≤ 9223372036854775807) : wrap64 (x.tdiv y) = x.tdiv y:=by
 have h : (x.tdiv y).natAbs ≤ x.natAbs:=by rw [Int.natAbs_tdiv];exact Nat.div_le_self _ _
 unfold wrap64
 omega
mutual
def impl_expand.l0 : Nat → Int → ByteArray → List (S86) → Int → Int → Option (ByteArray × Bool)
 | 0,_,_,_,_,_ => none
 | k + 1,x1,x6,x12,x13,x14 => if x14 < x13 then (if 0 ≤ x14 then (if x14 < (x12.length : Int) then (if ((rd_T86 x12 x14).f0).toList = ([] : List UInt8) then ((impl_expand.f k ((rd_T86 x12 x14).f1) x1).bind fun bt918 => (if bt918.2 = true then (if (bt918.1.size : Int) = 0 then (none) else (if x1 > (wrap64 (Int.tdiv (wrap64 (1000 - (x6.size : Int))) (bt918.1.size : Int))) then (some ((⟨#[]⟩ : ByteArray),false)) else ((strings_Repeat.f bt918.1 x1).bind fun t920 => (if x6.size + t920.size ≤ 9223372036854775807 then (impl_expand.l0 k x1 (x6 ++ t920) x12 x13 (wrap64 (x14 + 1))) else (none))))) else (some ((⟨#[]⟩ : ByteArray),false)))) else (if (((rd_T86 x12 x14).f0).size : Int) = 0 then (none) else (if 1 > (wrap64 (Int.tdiv (wrap64 (1000 - (x6.size : Int))) (((rd_T86 x12 x14).f0).size : Int))) then (some ((⟨#[]⟩ : ByteArray),false)) else ((strings_Repeat.f ((rd_T86 x12 x14).f0) 1).bind fun t921 => (if x6.size + t921.size ≤ 9223372036854775807 then (impl_expand.l0 k x1 (x6 ++ t921) x12 x13 (wrap64 (x14 + 1))) else (none)))))) else (none)) else (none)) else (some (x6,true))
def impl_expand.f : Nat → List (S86) → Int → Option (ByteArray × Bool)
 | 0,_,_ => none
 | k + 1,l0,a1 => impl_expand.l0 k a1 (⟨#[]⟩ : ByteArray) l0 (l0.length : Int) 0
end
theorem impl_expand.mono_l : ∀ k,(∀ y0 y1,LeO (impl_expand.f k y0 y1) (impl_expand.f (k + 1) y0 y1)) ∧ (∀ y0 y1 y2 y3 y4,LeO (impl_expand.l0 k y0 y1 y2 y3 y4) (impl_expand.l0 (k + 1) y0 y1 y2 y3 y4))
 | 0 => ⟨fun _ _ r h => by simp [impl_expand.f] at h,fun _ _ _ _ _ r h => by simp [impl_expand.l0] at h⟩
 | k + 1 => by
  obtain ⟨ih0,ih1⟩:=impl_expand.mono_l k
  refine ⟨?_,?_⟩
  ·intro y0 y1
   unfold impl_expand.f
   repeat' first
   | (with_reducible exact ih0 _ _)
   | (with_reducible exact ih1 _ _ _ _ _)
   | (with_reducible exact LeO.refl _)
   | (with_reducible exact LeO.none _)
   | (with_reducible refine LeO.ite ?_ ?_)
   | (with_reducible refine LeO.bind ?_ (fun _ => ?_))
   | exact ih0 _ _
   | exact ih1 _ _ _ _ _
   | exact LeO.none _
   | refine LeO.ite ?_ ?_
   | refine LeO.bind ?_ (fun _ => ?_)
  ·intro y0 y1 y2 y3 y4
   unfold impl_expand.l0
   repeat' first
   | (with_reducible exact ih0 _ _)
   | (with_reducible exact ih1 _ _ _ _ _)
   | (with_reducible exact LeO.refl _)
   | (with_reducible exact LeO.none _)
   | (with_reducible refine LeO.ite ?_ ?_)
   | (with_reducible refine LeO.bind ?_ (fun _ => ?_))
   | exact ih0 _ _
   | exact ih1 _ _ _ _ _
   | exact LeO.none _
   | refine LeO.ite ?_ ?_
   | refine LeO.bind ?_ (fun _ => ?_)
theorem impl_expand.mono : ∀ a0 a1 k,LeO (impl_expand.f k a0 a1) (impl_expand.f (k + 1) a0 a1):=by
 intro a0 a1 k
 obtain ⟨ih0,ih1⟩:=impl_expand.mono_l k
 exact ih0 a0 a1
set_option maxHeartbeats 8000000 in
set_option maxRecDepth 100000 in
theorem impl_expand.calls (k : Nat) : ∀ (A0 : Option Addr) (c0 : Nat) (l0 : List (S86)) (a1 : Int) (r1 : ByteArray) (r2 : Bool) (w : World) (hr0 : Kd.C k86 w A0 l0.length l0) (hc0 : l0.length ≤ c0) (h : impl_expand.f k l0 a1 = some (r1,r2)),
  Calls Try.prog 86 #[.slice A0 l0.length c0,.int .i64 a1] w fun e w' => e = .returned (.tuple #[.string r1,.bool r2]) ∧ Below w.heap.size w w':=by
 induction k using Nat.strongRecOn with
 | _ k ih =>
 intro A0 c0 l0 a1 r1 r2 w hr0 hc0 h
 cases k with
 | zero => exact absurd h (by simp [impl_expand.f])
 | succ k =>
 simp only [impl_expand.f] at h
 have hu86:=Try.underlying86
 have HR0:=Aside0.mk hr0
 have HC0:=Aside0.mk hc0
 clear hr0 hc0
 have HB:=Aside0.mk (Below.refl w.heap.size w)
 have H : (impl_expand.l0 k a1 (⟨#[]⟩ : ByteArray) l0 (l0.length : Int) 0) = some (r1,r2):=h
 clear h
 have H':=Aside0.mk H
 clear H
 go_enter Try.func86,Try.ntmps86
 go_wp2
 go_loopg [6,14] k (fun kq v6 v14 w' => ∃ (x6_1 : ByteArray) (x14_1 : Int),v6 = .string x6_1 ∧ v14 = .int .i64 x14_1 ∧ Aside0 (impl_expand.l0 kq a1 x6_1 l0 (l0.length : Int) x14_1 = some (r1,r2)) ∧ Aside0 (kq ≤ k) ∧ Aside0 (Below w.heap.size w w'))
 case atStart => exact ⟨((⟨#[]⟩ : ByteArray)),(0),(by first|rfl|(simp;done)|(simp [*];done)),(by first|rfl|(simp;done)|(simp [*];done)),H',⟨Nat.le_refl _⟩,⟨be0_ HB.out⟩⟩
 case round =>
  clear H'
  try clear p2
  obtain ⟨x6_1,x14_1,rfl,rfl,HA,HK1,HB⟩:=hrel
  cases gk with
  | zero => exact absurd HA.out (by simp [impl_expand.l0])
  | succ k1 =>
   have H:=HA.out
   clear HA
   simp only [impl_expand.l0] at H
   by_cases c3 : x14_1 < (l0.length : Int)
   ·rw [if_pos c3] at H
    have c3b0 : decide (x14_1 < (l0.length : Int)) = true:=decide_eq_true c3
    clear c3
    by_cases c4 : 0 ≤ x14_1
    ·rw [if_pos c4] at H
     have c4b0 : decide (0 ≤ x14_1) = true:=decide_eq_true c4
     clear c4
     by_cases c5 : x14_1 < (l0.length : Int)
     ·rw [if_pos c5] at H
      have c5b0 : decide (x14_1 < (l0.length : Int)) = true:=decide_eq_true c5
      clear c5
      by_cases c6 : ((rd_T86 l0 x14_1).f0).toList = ([] : List UInt8)
      ·rw [if_pos c6] at H
       have c6b0 : (((rd_T86 l0 x14_1).f0).toList == ([] : List UInt8)) = true:=beq_iff_eq.mpr c6
       have c6b1 : (((rd_T86 l0 x14_1).f0).toList != ([] : List UInt8)) = false:=bne_eq_false_iff_eq.mpr c6
       clear c6
       replace H:=Option.bind_eq_some_iff.mp H
       obtain ⟨⟨t918,t919⟩,A70,H⟩:=H
       replace H : (if t919 = true then (if (t918.size : Int) = 0 then (none) else (if a1 > (wrap64 (Int.tdiv (wrap64 (1000 - (x6_1.size : Int))) (t918.size : Int))) then (some ((⟨#[]⟩ : ByteArray),false)) else ((strings_Repeat.f t918 a1).bind fun t920 => (if x6_1.size + t920.size ≤ 9223372036854775807 then (impl_expand.l0 k1 a1 (x6_1 ++ t920) l0 (l0.length : Int) (wrap64 (x14_1 + 1))) else (none))))) else (some ((⟨#[]⟩ : ByteArray),false))) = some (r1,r2):=H
       have A7:=Aside0.mk A70
       clear A70
       by_cases c8 : t919 = true
       ·subst c8
        have H1 : (if (t918.size : Int) = 0 then (none) else (if a1 > (wrap64 (Int.tdiv (wrap64 (1000 - (x6_1.size : Int))) (t918.size : Int))) then (some ((⟨#[]⟩ : ByteArray),false)) else ((strings_Repeat.f t918 a1).bind fun t920 => (if x6_1.size + t920.size ≤ 9223372036854775807 then (impl_expand.l0 k1 a1 (x6_1 ++ t920) l0 (l0.length : Int) (wrap64 (x14_1 + 1))) else (none))))) = some (r1,r2):=by rw [if_pos rfl] at H;exact H
        clear H
        have H:=H1
        clear H1
        by_cases c9 : (t918.size : Int) = 0
        ·rw [if_pos c9] at H
         exact absurd H (by simp)
        ·rw [if_neg c9] at H
         have c9b0 : ((t918.size : Int) == 0) = false:=beq_eq_false_iff_ne.mpr c9
         have c9b1 : ((t918.size : Int) != 0) = true:=bne_iff_ne.mpr c9
         by_cases c10 : a1 > (wrap64 (Int.tdiv (wrap64 (1000 - (x6_1.size : Int))) (t918.size : Int)))
         ·rw [if_pos c10] at H
          have c10b0 : decide ((wrap64 (Int.tdiv (wrap64 (1000 - (x6_1.size : Int))) (t918.size : Int))) < a1) = true:=decide_eq_true c10
          clear c10
          simp only [Option.some.injEq,Prod.mk.injEq] at H
          obtain ⟨rfl,rfl⟩:=H
          have p916 : 0 ≤ (x14_1 : Int):=of_decide_eq_true (by first|(with_reducible assumption)|assumption)
          have q916 : x14_1 < (l0.length : Int):=of_decide_eq_true (by first|(with_reducible assumption)|assumption)
          obtain ⟨ad916,A916_1,c916_1,e916,hx916_0,hx916_1,hl916_1,hi916_1⟩:=at_T86 HR0.out x14_1 p916 q916
          cases e916
          replace hx916_0:=(HB.out.cell (World.block_lt_of_cell? w _ hx916_0)).trans hx916_0
          replace hx916_1:=(HB.out.cell (World.block_lt_of_cell? w _ hx916_1)).trans hx916_1
          have HR916_1:=Aside0.mk hi916_1
          have HC916_1:=Aside0.mk hl916_1
          clear hi916_1 hl916_1
          replace p916:=eq_true p916
          replace q916:=eq_true q916
          go_wp2_with (first|((with_reducible refine gate_dst (N:=8) rfl ?_);(try (refine gate_guard (by rfl) ?_;dsimp only));refine box_event ?hg (N:=8) ?hd (cs:=#[.string (⟨#[]⟩ : ByteArray),.slice none 0 0]) (t:=86) ?hr ?_;(case hd => rfl);(case hg => rfl);(case hr => first|(go_simp;done)|(go_simp;rfl));intro gb917 hg w11 hbox hb;have n0_:=Aside0.mk (below_step (be0_ HB.out) hb);have n1_:=Aside0.mk (hbox);have n2_:=Aside0.mk ((by rw [hg];exact (below_size (be0_ HB.out)) : w.heap.size ≤ gb917));have n3_:=Aside0.mk ((by rw [hg];exact (below_size (be0_ HB.out)) : w.heap.size ≤ gb917));clear HB;have HB:=n0_;have BK917:=n1_;have GW917:=n2_;have GE917:=n3_;clear n0_ n1_ n2_ n3_;clear hb hbox hg;have hcz12_0 : w11.cell? ⟨gb917,0,none⟩ = some (.string (⟨#[]⟩ : ByteArray)):=(blk_cell BK917.out 0).trans rfl;have hcz12_1 : w11.cell? ⟨gb917,1,none⟩ = some (.slice none 0 0):=(blk_cell BK917.out 1).trans rfl;have hfz12_0:=blk_frozen BK917.out 0;have hfz12_1:=blk_frozen BK917.out 1)|((with_reducible refine gate_callee (f:=86) rfl ?_);refine goesL_ (some 27) rfl rfl Try.func86 (by kernel_rfl) rfl #[.slice A916_1 ((rd_T86 l0 x14_1).f1).length c916_1,.int .i64 a1] rfl lp_ ?_;(with_reducible refine (ih k1 (by have:=HK1.out;omega) _ _ ((rd_T86 l0 x14_1).f1) a1 t918 true _ ?side1 ?side2 A7.out).mono ?_);(case side1 => exact Kd.C_below HR916_1.out (be1_ HB.out GE917.out));(case side2 => exact HC916_1.out);rintro e w13 ⟨rfl,hb⟩;refine ⟨_,rfl,?_⟩;have n0_:=Aside0.mk (blk_below (g:=gb917) (o:=.cells #[.string ((rd_T86 l0 x14_1).f0),.slice A916_1 ((rd_T86 l0 x14_1).f1).length c916_1] 86 (0,0)) (by refine pe_ ?_;refine blk_put (cs:=#[.string ((rd_T86 l0 x14_1).f0),.slice none 0 0]) ?_ 1 _ rfl;refine pe_ ?_;refine blk_put (cs:=#[.string (⟨#[]⟩ : ByteArray),.slice none 0 0]) ?_ 0 _ rfl;refine pe_ ?_;exact BK917.out) hb);have n1_:=Aside0.mk (below_step (be1_ HB.out GE917.out) hb);clear BK917;clear HB;have BK917:=n0_;have HB:=n1_;clear n0_ n1_;(try clear hb);(try clear hb2);(try clear hk);(try clear hi)))
          go_ret2
          exact ⟨by first|rfl|(simp [errW_none,errW_some] <;> rfl)|(simp [*,errW_none,errW_some] <;> rfl),be1_ HB.out GE917.out⟩
         ·rw [if_neg c10] at H
          have c10b0 : decide ((wrap64 (Int.tdiv (wrap64 (1000 - (x6_1.size : Int))) (t918.size : Int))) < a1) = false:=decide_eq_false c10
          clear c10
          replace H:=Option.bind_eq_some_iff.mp H
          obtain ⟨t920,A140,H⟩:=H
          replace H : (if x6_1.size + t920.size ≤ 9223372036854775807 then (impl_expand.l0 k1 a1 (x6_1 ++ t920) l0 (l0.length : Int) (wrap64 (x14_1 + 1))) else (none)) = some (r1,r2):=H
          have A14:=Aside0.mk A140
          clear A140
          by_cases c15 : x6_1.size + t920.size ≤ 9223372036854775807
          ·rw [if_pos c15] at H
           have c15b0:=eq_true c15
           have c15b1 : decide (x6_1.size + t920.size ≤ 9223372036854775807) = true:=decide_eq_true c15
           try have c15b2 : (9223372036854775807 < x6_1.size + t920.size) = False:=eq_false (Nat.not_lt.2 c15)
           try have c10b0_c15 : decide (((Int.tdiv (1000 - (x6_1.size : Int)) (t918.size : Int))) < a1) = false:=by rw [show wrap64 (1000 - (x6_1.size : Int)) = (1000 - (x6_1.size : Int)) from by unfold wrap64;omega,wrap_tdiv_ (1000 - (x6_1.size : Int)) (t918.size : Int) (by omega) (by omega)] at c10b0;exact c10b0
           have H':=Aside0.mk H
           clear H
           have p916 : 0 ≤ (x14_1 : Int):=of_decide_eq_true (by first|(with_reducible assumption)|assumption)
           have q916 : x14_1 < (l0.length : Int):=of_decide_eq_true (by first|(with_reducible assumption)|assumption)
           obtain ⟨ad916,A916_1,c916_1,e916,hx916_0,hx916_1,hl916_1,hi916_1⟩:=at_T86 HR0.out x14_1 p916 q916
           cases e916
           replace hx916_0:=(HB.out.cell (World.block_lt_of_cell? w _ hx916_0)).trans hx916_0
           replace hx916_1:=(HB.out.cell (World.block_lt_of_cell? w _ hx916_1)).trans hx916_1
           have HR916_1:=Aside0.mk hi916_1
           have HC916_1:=Aside0.mk hl916_1
           clear hi916_1 hl916_1
           replace p916:=eq_true p916
           replace q916:=eq_true q916
           go_wp2_with (first|((with_reducible refine gate_dst (N:=8) rfl ?_);(try (refine gate_guard (by rfl) ?_;dsimp only));refine box_event ?hg (N:=8) ?hd (cs:=#[.string (⟨#[]⟩ : ByteArray),.slice none 0 0]) (t:=86) ?hr ?_;(case hd => rfl);(case hg => rfl);(case hr => first|(go_simp;done)|(go_simp;rfl));intro gb917 hg w16 hbox hb;have n0_:=Aside0.mk (below_step (be0_ HB.out) hb);have n1_:=Aside0.mk (hbox);have n2_:=Aside0.mk ((by rw [hg];exact (below_size (be0_ HB.out)) : w.heap.size ≤ gb917));have n3_:=Aside0.mk ((by rw [hg];exact (below_size (be0_ HB.out)) : w.heap.size ≤ gb917));clear HB;have HB:=n0_;have BK917:=n1_;have GW917:=n2_;have GE917:=n3_;clear n0_ n1_ n2_ n3_;clear hb hbox hg;have hcz17_0 : w16.cell? ⟨gb917,0,none⟩ = some (.string (⟨#[]⟩ : ByteArray)):=(blk_cell BK917.out 0).trans rfl;have hcz17_1 : w16.cell? ⟨gb917,1,none⟩ = some (.slice none 0 0):=(blk_cell BK917.out 1).trans rfl;have hfz17_0:=blk_frozen BK917.out 0;have hfz17_1:=blk_frozen BK917.out 1)|((with_reducible refine gate_callee (f:=86) rfl ?_);refine goesL_ (some 27) rfl rfl Try.func86 (by kernel_rfl) rfl #[.slice A916_1 ((rd_T86 l0 x14_1).f1).length c916_1,.int .i64 a1] rfl lp_ ?_;(with_reducible refine (ih k1 (by have:=HK1.out;omega) _ _ ((rd_T86 l0 x14_1).f1) a1 t918 true _ ?side1 ?side2 A7.out).mono ?_);(case side1 => exact Kd.C_below HR916_1.out (be1_ HB.out GE917.out));(case side2 => exact HC916_1.out);rintro e w18 ⟨rfl,hb⟩;refine ⟨_,rfl,?_⟩;have n0_:=Aside0.mk (blk_below (g:=gb917) (o:=.cells #[.string ((rd_T86 l0 x14_1).f0),.slice A916_1 ((rd_T86 l0 x14_1).f1).length c916_1] 86 (0,0)) (by refine pe_ ?_;refine blk_put (cs:=#[.string ((rd_T86 l0 x14_1).f0),.slice none 0 0]) ?_ 1 _ rfl;refine pe_ ?_;refine blk_put (cs:=#[.string (⟨#[]⟩ : ByteArray),.slice none 0 0]) ?_ 0 _ rfl;refine pe_ ?_;exact BK917.out) hb);have n1_:=Aside0.mk (below_step (be1_ HB.out GE917.out) hb);clear BK917;clear HB;have BK917:=n0_;have HB:=n1_;clear n0_ n1_;(try clear hb);(try clear hb2);(try clear hk);(try clear hi))|((with_reducible refine gate_callee (f:=106) rfl ?_);refine goesL_ (some 46) rfl rfl Try.func106 (by kernel_rfl) rfl #[.string t918,.int .i64 a1] rfl lp_ ?_;(with_reducible refine (strings_Repeat.calls t918 a1 t920 _ A14.out).mono ?_);rintro e w19 ⟨rfl,hb⟩;refine ⟨_,rfl,?_⟩;have n0_:=Aside0.mk (blk_below (g:=gb917) (o:=.cells #[.string ((rd_T86 l0 x14_1).f0),.slice A916_1 ((rd_T86 l0 x14_1).f1).length c916_1] 86 (0,0)) (pe_ BK917.out) hb);have n1_:=Aside0.mk (below_step (be1_ HB.out GE917.out) hb);clear BK917;clear HB;have BK917:=n0_;have HB:=n1_;clear n0_ n1_;(try clear hb);(try clear hb2);(try clear hk);(try clear hi)))
           go_roundg k1
           case measure => have:=HK1.out;omega
           case rel => exact ⟨(x6_1 ++ t920),(wrap64 (x14_1 + 1)),(by first|rfl|(simp;done)|(simp [*];done)),(by first|rfl|(simp;done)|(simp [*];done)),H',⟨by have:=HK1.out;omega⟩,⟨be1_ HB.out GE917.out⟩⟩
          ·rw [if_neg c15] at H
           exact absurd H (by simp)
       ·replace c8:=Bool.eq_false_iff.mpr c8
        subst c8
        have H1 : (some ((⟨#[]⟩ : ByteArray),false)) = some (r1,r2):=by rw [if_neg (show ¬ (false = true) by decide)] at H;exact H
        clear H
        have H:=H1
        clear H1
        simp only [Option.some.injEq,Prod.mk.injEq] at H
        obtain ⟨rfl,rfl⟩:=H
        have p916 : 0 ≤ (x14_1 : Int):=of_decide_eq_true (by first|(with_reducible assumption)|assumption)
        have q916 : x14_1 < (l0.length : Int):=of_decide_eq_true (by first|(with_reducible assumption)|assumption)
        obtain ⟨ad916,A916_1,c916_1,e916,hx916_0,hx916_1,hl916_1,hi916_1⟩:=at_T86 HR0.out x14_1 p916 q916
        cases e916
        replace hx916_0:=(HB.out.cell (World.block_lt_of_cell? w _ hx916_0)).trans hx916_0
        replace hx916_1:=(HB.out.cell (World.block_lt_of_cell? w _ hx916_1)).trans hx916_1
        have HR916_1:=Aside0.mk hi916_1
        have HC916_1:=Aside0.mk hl916_1
        clear hi916_1 hl916_1
        replace p916:=eq_true p916
        replace q916:=eq_true q916
        go_wp2_with (first|((with_reducible refine gate_dst (N:=8) rfl ?_);(try (refine gate_guard (by rfl) ?_;dsimp only));refine box_event ?hg (N:=8) ?hd (cs:=#[.string (⟨#[]⟩ : ByteArray),.slice none 0 0]) (t:=86) ?hr ?_;(case hd => rfl);(case hg => rfl);(case hr => first|(go_simp;done)|(go_simp;rfl));intro gb917 hg w20 hbox hb;have n0_:=Aside0.mk (below_step (be0_ HB.out) hb);have n1_:=Aside0.mk (hbox);have n2_:=Aside0.mk ((by rw [hg];exact (below_size (be0_ HB.out)) : w.heap.size ≤ gb917));have n3_:=Aside0.mk ((by rw [hg];exact (below_size (be0_ HB.out)) : w.heap.size ≤ gb917));clear HB;have HB:=n0_;have BK917:=n1_;have GW917:=n2_;have GE917:=n3_;clear n0_ n1_ n2_ n3_;clear hb hbox hg;have hcz21_0 : w20.cell? ⟨gb917,0,none⟩ = some (.string (⟨#[]⟩ : ByteArray)):=(blk_cell BK917.out 0).trans rfl;have hcz21_1 : w20.cell? ⟨gb917,1,none⟩ = some (.slice none 0 0):=(blk_cell BK917.out 1).trans rfl;have hfz21_0:=blk_frozen BK917.out 0;have hfz21_1:=blk_frozen BK917.out 1)|((with_reducible refine gate_callee (f:=86) rfl ?_);refine goesL_ (some 27) rfl rfl Try.func86 (by kernel_rfl) rfl #[.slice A916_1 ((rd_T86 l0 x14_1).f1).length c916_1,.int .i64 a1] rfl lp_ ?_;(with_reducible refine (ih k1 (by have:=HK1.out;omega) _ _ ((rd_T86 l0 x14_1).f1) a1 t918 false _ ?side1 ?side2 A7.out).mono ?_);(case side1 => exact Kd.C_below HR916_1.out (be1_ HB.out GE917.out));(case side2 => exact HC916_1.out);rintro e w22 ⟨rfl,hb⟩;refine ⟨_,rfl,?_⟩;have n0_:=Aside0.mk (blk_below (g:=gb917) (o:=.cells #[.string ((rd_T86 l0 x14_1).f0),.slice A916_1 ((rd_T86 l0 x14_1).f1).length c916_1] 86 (0,0)) (by refine pe_ ?_;refine blk_put (cs:=#[.string ((rd_T86 l0 x14_1).f0),.slice none 0 0]) ?_ 1 _ rfl;refine pe_ ?_;refine blk_put (cs:=#[.string (⟨#[]⟩ : ByteArray),.slice none 0 0]) ?_ 0 _ rfl;refine pe_ ?_;exact BK917.out) hb);have n1_:=Aside0.mk (below_step (be1_ HB.out GE917.out) hb);clear BK917;clear HB;have BK917:=n0_;have HB:=n1_;clear n0_ n1_;(try clear hb);(try clear hb2);(try clear hk);(try clear hi)))
        go_ret2
        exact ⟨by first|rfl|(simp [errW_none,errW_some] <;> rfl)|(simp [*,errW_none,errW_some] <;> rfl),be1_ HB.out GE917.out⟩
      ·rw [if_neg c6] at H
       have c6b0 : (((rd_T86 l0 x14_1).f0).toList == ([] : List UInt8)) = false:=beq_eq_false_iff_ne.mpr c6
       have c6b1 : (((rd_T86 l0 x14_1).f0).toList != ([] : List UInt8)) = true:=bne_iff_ne.mpr c6
       by_cases c23 : (((rd_T86 l0 x14_1).f0).size : Int) = 0
       ·rw [if_pos c23] at H
        exact absurd H (by simp)
       ·rw [if_neg c23] at H
        have c23b0 : ((((rd_T86 l0 x14_1).f0).size : Int) == 0) = false:=beq_eq_false_iff_ne.mpr c23
        have c23b1 : ((((rd_T86 l0 x14_1).f0).size : Int) != 0) = true:=bne_iff_ne.mpr c23
        by_cases c24 : 1 > (wrap64 (Int.tdiv (wrap64 (1000 - (x6_1.size : Int))) (((rd_T86 l0 x14_1).f0).size : Int)))
        ·rw [if_pos c24] at H
         have c24b0 : decide ((wrap64 (Int.tdiv (wrap64 (1000 - (x6_1.size : Int))) (((rd_T86 l0 x14_1).f0).size : Int))) < 1) = true:=decide_eq_true c24
         clear c24
         simp only [Option.some.injEq,Prod.mk.injEq] at H
         obtain ⟨rfl,rfl⟩:=H
         have p916 : 0 ≤ (x14_1 : Int):=of_decide_eq_true (by first|(with_reducible assumption)|assumption)
         have q916 : x14_1 < (l0.length : Int):=of_decide_eq_true (by first|(with_reducible assumption)|assumption)
         obtain ⟨ad916,A916_1,c916_1,e916,hx916_0,hx916_1,hl916_1,hi916_1⟩:=at_T86 HR0.out x14_1 p916 q916
         cases e916
         replace hx916_0:=(HB.out.cell (World.block_lt_of_cell? w _ hx916_0)).trans hx916_0
         replace hx916_1:=(HB.out.cell (World.block_lt_of_cell? w _ hx916_1)).trans hx916_1
         have HR916_1:=Aside0.mk hi916_1
         have HC916_1:=Aside0.mk hl916_1
         clear hi916_1 hl916_1
         replace p916:=eq_true p916
         replace q916:=eq_true q916
         go_wp2_with (first|((with_reducible refine gate_dst (N:=8) rfl ?_);(try (refine gate_guard (by rfl) ?_;dsimp only));refine box_event ?hg (N:=8) ?hd (cs:=#[.string (⟨#[]⟩ : ByteArray),.slice none 0 0]) (t:=86) ?hr ?_;(case hd => rfl);(case hg => rfl);(case hr => first|(go_simp;done)|(go_simp;rfl));intro gb917 hg w25 hbox hb;have n0_:=Aside0.mk (below_step (be0_ HB.out) hb);have n1_:=Aside0.mk (hbox);have n2_:=Aside0.mk ((by rw [hg];exact (below_size (be0_ HB.out)) : w.heap.size ≤ gb917));have n3_:=Aside0.mk ((by rw [hg];exact (below_size (be0_ HB.out)) : w.heap.size ≤ gb917));clear HB;have HB:=n0_;have BK917:=n1_;have GW917:=n2_;have GE917:=n3_;clear n0_ n1_ n2_ n3_;clear hb hbox hg;have hcz26_0 : w25.cell? ⟨gb917,0,none⟩ = some (.string (⟨#[]⟩ : ByteArray)):=(blk_cell BK917.out 0).trans rfl;have hcz26_1 : w25.cell? ⟨gb917,1,none⟩ = some (.slice none 0 0):=(blk_cell BK917.out 1).trans rfl;have hfz26_0:=blk_frozen BK917.out 0;have hfz26_1:=blk_frozen BK917.out 1))
         go_ret2
         exact ⟨by first|rfl|(simp [errW_none,errW_some] <;> rfl)|(simp [*,errW_none,errW_some] <;> rfl),be1_ HB.out GE917.out⟩
        ·rw [if_neg c24] at H
         have c24b0 : decide ((wrap64 (Int.tdiv (wrap64 (1000 - (x6_1.size : Int))) (((rd_T86 l0 x14_1).f0).size : Int))) < 1) = false:=decide_eq_false c24
         clear c24
         replace H:=Option.bind_eq_some_iff.mp H
         obtain ⟨t921,A270,H⟩:=H
         replace H : (if x6_1.size + t921.size ≤ 9223372036854775807 then (impl_expand.l0 k1 a1 (x6_1 ++ t921) l0 (l0.length : Int) (wrap64 (x14_1 + 1))) else (none)) = some (r1,r2):=H
         have A27:=Aside0.mk A270
         clear A270
         by_cases c28 : x6_1.size + t921.size ≤ 9223372036854775807
         ·rw [if_pos c28] at H
          have c28b0:=eq_true c28
          have c28b1 : decide (x6_1.size + t921.size ≤ 9223372036854775807) = true:=decide_eq_true c28
          try have c28b2 : (9223372036854775807 < x6_1.size + t921.size) = False:=eq_false (Nat.not_lt.2 c28)
          try have c24b0_c28 : decide (((Int.tdiv (1000 - (x6_1.size : Int)) (((rd_T86 l0 x14_1).f0).size : Int))) < 1) = false:=by rw [show wrap64 (1000 - (x6_1.size : Int)) = (1000 - (x6_1.size : Int)) from by unfold wrap64;omega,wrap_tdiv_ (1000 - (x6_1.size : Int)) (((rd_T86 l0 x14_1).f0).size : Int) (by omega) (by omega)] at c24b0;exact c24b0
          have H':=Aside0.mk H
          clear H
          have p916 : 0 ≤ (x14_1 : Int):=of_decide_eq_true (by first|(with_reducible assumption)|assumption)
          have q916 : x14_1 < (l0.length : Int):=of_decide_eq_true (by first|(with_reducible assumption)|assumption)
          obtain ⟨ad916,A916_1,c916_1,e916,hx916_0,hx916_1,hl916_1,hi916_1⟩:=at_T86 HR0.out x14_1 p916 q916
          cases e916
          replace hx916_0:=(HB.out.cell (World.block_lt_of_cell? w _ hx916_0)).trans hx916_0
          replace hx916_1:=(HB.out.cell (World.block_lt_of_cell? w _ hx916_1)).trans hx916_1
          have HR916_1:=Aside0.mk hi916_1
          have HC916_1:=Aside0.mk hl916_1
          clear hi916_1 hl916_1
          replace p916:=eq_true p916
          replace q916:=eq_true q916
          go_wp2_with (first|((with_reducible refine gate_dst (N:=8) rfl ?_);(try (refine gate_guard (by rfl) ?_;dsimp only));refine box_event ?hg (N:=8) ?hd (cs:=#[.string (⟨#[]⟩ : ByteArray),.slice none 0 0]) (t:=86) ?hr ?_;(case hd => rfl);(case hg => rfl);(case hr => first|(go_simp;done)|(go_simp;rfl));intro gb917 hg w29 hbox hb;have n0_:=Aside0.mk (below_step (be0_ HB.out) hb);have n1_:=Aside0.mk (hbox);have n2_:=Aside0.mk ((by rw [hg];exact (below_size (be0_ HB.out)) : w.heap.size ≤ gb917));have n3_:=Aside0.mk ((by rw [hg];exact (below_size (be0_ HB.out)) : w.heap.size ≤ gb917));clear HB;have HB:=n0_;have BK917:=n1_;have GW917:=n2_;have GE917:=n3_;clear n0_ n1_ n2_ n3_;clear hb hbox hg;have hcz30_0 : w29.cell? ⟨gb917,0,none⟩ = some (.string (⟨#[]⟩ : ByteArray)):=(blk_cell BK917.out 0).trans rfl;have hcz30_1 : w29.cell? ⟨gb917,1,none⟩ = some (.slice none 0 0):=(blk_cell BK917.out 1).trans rfl;have hfz30_0:=blk_frozen BK917.out 0;have hfz30_1:=blk_frozen BK917.out 1)|((with_reducible refine gate_callee (f:=106) rfl ?_);refine goesL_ (some 46) rfl rfl Try.func106 (by kernel_rfl) rfl #[.string ((rd_T86 l0 x14_1).f0),.int .i64 1] rfl lp_ ?_;(with_reducible refine (strings_Repeat.calls ((rd_T86 l0 x14_1).f0) 1 t921 _ A27.out).mono ?_);rintro e w31 ⟨rfl,hb⟩;refine ⟨_,rfl,?_⟩;have n0_:=Aside0.mk (blk_below (g:=gb917) (o:=.cells #[.string ((rd_T86 l0 x14_1).f0),.slice A916_1 ((rd_T86 l0 x14_1).f1).length c916_1] 86 (0,0)) (by refine pe_ ?_;refine blk_put (cs:=#[.string ((rd_T86 l0 x14_1).f0),.slice none 0 0]) ?_ 1 _ rfl;refine pe_ ?_;refine blk_put (cs:=#[.string (⟨#[]⟩ : ByteArray),.slice none 0 0]) ?_ 0 _ rfl;refine pe_ ?_;exact BK917.out) hb);have n1_:=Aside0.mk (below_step (be1_ HB.out GE917.out) hb);clear BK917;clear HB;have BK917:=n0_;have HB:=n1_;clear n0_ n1_;(try clear hb);(try clear hb2);(try clear hk);(try clear hi)))
          go_roundg k1
          case measure => have:=HK1.out;omega
          case rel => exact ⟨(x6_1 ++ t921),(wrap64 (x14_1 + 1)),(by first|rfl|(simp;done)|(simp [*];done)),(by first|rfl|(simp;done)|(simp [*];done)),H',⟨by have:=HK1.out;omega⟩,⟨be1_ HB.out GE917.out⟩⟩
         ·rw [if_neg c28] at H
          exact absurd H (by simp)
     ·rw [if_neg c5] at H
      exact absurd H (by simp)
    ·rw [if_neg c4] at H
     exact absurd H (by simp)
   ·rw [if_neg c3] at H
    have c3b0 : decide (x14_1 < (l0.length : Int)) = false:=decide_eq_false c3
    clear c3
    simp only [Option.some.injEq,Prod.mk.injEq] at H
    obtain ⟨rfl,rfl⟩:=H
    go_wp2
    go_ret2
    exact ⟨by first|rfl|(simp [errW_none,errW_some] <;> rfl)|(simp [*,errW_none,errW_some] <;> rfl),be0_ HB.out⟩
end Go.Proofs.Ytengegdaiphfeaa.X
end
section
namespace Go.Proofs.Ytengegdaiphfeaa.X
open Go.RowKit Go.Proofs.YtengegdaiphfeaaW.PrintWords Go.Proofs.YtengegdaiphfeaaW.PrintLast Go.Proofs.YtengegdaiphfeaaW.PrintMore
attribute [local go_sem] max2_int min2_int max_two min_two max_three min_three max_four min_four
set_option linter.unusedVariables false
set_option linter.unusedSimpArgs false
def impl_ExpandExpression.f (k : Nat) (a0 : ByteArray) (a1 : Int) : Option (ByteArray × Bool):=(impl_parts.f k a0).bind fun bt922 => (if bt922.2 = true then (if a1 < 1 then (some ((⟨#[]⟩ : ByteArray),false)) else ((impl_expand.f k bt922.1 a1).bind fun bt926 => (some (bt926.1,bt926.2)))) else (some ((⟨#[]⟩ : ByteArray),false)))
theorem impl_ExpandExpression.mono : ∀ a0 a1 k,LeO (impl_ExpandExpression.f k a0 a1) (impl_ExpandExpression.f (k + 1) a0 a1):=by
 intro a0 a1 k
 unfold impl_ExpandExpression.f
 repeat' first
   | (with_reducible exact impl_expand.mono _ _ _)
   | (with_reducible exact impl_parts.mono _ _)
   | (with_reducible exact LeO.refl _)
   | (with_reducible exact LeO.none _)
   | (with_reducible refine LeO.ite ?_ ?_)
   | (with_reducible refine LeO.bind ?_ (fun _ => ?_))
   | exact impl_expand.mono _ _ _
   | exact impl_parts.mono _ _
   | exact LeO.none _
   | refine LeO.ite ?_ ?_
   | refine LeO.bind ?_ (fun _ => ?_)
set_option maxHeartbeats 8000000 in
set_option maxRecDepth 100000 in
theorem impl_ExpandExpression.calls (k : Nat) (a0 : ByteArray) (a1 : Int) (r1 : ByteArray) (r2 : Bool) (w : World) (h : impl_ExpandExpression.f k a0 a1 = some (r1,r2)) :
  Calls Try.prog 42 #[.string a0,.int .i64 a1] w fun e w' => e = .returned (.tuple #[.string r1,.bool r2]) ∧ Below w.heap.size w w':=by
 have HB:=Aside0.mk (Below.refl w.heap.size w)
 have H : ((impl_parts.f k a0).bind fun bt922 => (if bt922.2 = true then (if a1 < 1 then (some ((⟨#[]⟩ : ByteArray),false)) else ((impl_expand.f k bt922.1 a1).bind fun bt926 => (some (bt926.1,bt926.2)))) else (some ((⟨#[]⟩ : ByteArray),false)))) = some (r1,r2):=h
 clear h
 replace H:=Option.bind_eq_some_iff.mp H
 obtain ⟨⟨t922,t923⟩,A30,H⟩:=H
 replace H : (if t923 = true then (if a1 < 1 then (some ((⟨#[]⟩ : ByteArray),false)) else ((impl_expand.f k t922 a1).bind fun bt926 => (some (bt926.1,bt926.2)))) else (some ((⟨#[]⟩ : ByteArray),false))) = some (r1,r2):=H
 have A3:=Aside0.mk A30
 clear A30
 by_cases c4 : t923 = true
 ·subst c4
  have H1 : (if a1 < 1 then (some ((⟨#[]⟩ : ByteArray),false)) else ((impl_expand.f k t922 a1).bind fun bt926 => (some (bt926.1,bt926.2)))) = some (r1,r2):=by rw [if_pos rfl] at H;exact H
  clear H
  have H:=H1
  clear H1
  by_cases c5 : a1 < 1
  ·rw [if_pos c5] at H
   have c5b0 : decide (a1 < 1) = true:=decide_eq_true c5
   clear c5
   simp only [Option.some.injEq,Prod.mk.injEq] at H
   obtain ⟨rfl,rfl⟩:=H
   go_enter Try.func42,Try.ntmps42
   go_wp2_with (first|((with_reducible refine gate_callee (f:=52) rfl ?_);refine goesL_ (some 10) rfl rfl Try.func52 (by kernel_rfl) rfl #[.string a0] rfl lp_ ?_;(with_reducible refine (impl_parts.calls k a0 t922 true _ A3.out).mono ?_);rintro e w6 ⟨v924,rfl,ho0,hb⟩;refine ⟨_,rfl,?_⟩;have n0_:=Aside0.mk (Kd.R_lower ho0 (below_size (be0_ HB.out)));have n1_:=Aside0.mk (below_step (be0_ HB.out) hb);clear HB;have HO925:=n0_;have HB:=n1_;clear n0_ n1_;(try clear hb);(try clear hb2);(try clear hk);(try clear hi);(try clear ho0)))
   go_ret2
   exact ⟨by first|rfl|(simp [errW_none,errW_some] <;> rfl)|(simp [*,errW_none,errW_some] <;> rfl),be0_ HB.out⟩
  ·rw [if_neg c5] at H
   have c5b0 : decide (a1 < 1) = false:=decide_eq_false c5
   clear c5
   replace H:=Option.bind_eq_some_iff.mp H
   obtain ⟨⟨t926,t927⟩,A70,H⟩:=H
   replace H : (some (t926,t927)) = some (r1,r2):=H
   have A7:=Aside0.mk A70
   clear A70
   simp only [Option.some.injEq,Prod.mk.injEq] at H
   obtain ⟨rfl,rfl⟩:=H
   go_enter Try.func42,Try.ntmps42
   go_wp2_with (first|((with_reducible refine gate_callee (f:=52) rfl ?_);refine goesL_ (some 10) rfl rfl Try.func52 (by kernel_rfl) rfl #[.string a0] rfl lp_ ?_;(with_reducible refine (impl_parts.calls k a0 t922 true _ A3.out).mono ?_);rintro e w8 ⟨v924,rfl,ho0,hb⟩;refine ⟨_,rfl,?_⟩;have n0_:=Aside0.mk (Kd.R_lower ho0 (below_size (be0_ HB.out)));have n1_:=Aside0.mk (below_step (be0_ HB.out) hb);clear HB;have HO925:=n0_;have HB:=n1_;clear n0_ n1_;(try clear hb);(try clear hb2);(try clear hk);(try clear hi);(try clear ho0);obtain ⟨Ao9,co9,eo9⟩:=Kd.R_slice HO925.out;subst eo9)|((with_reducible refine gate_callee (f:=86) rfl ?_);refine goesL_ (some 21) rfl rfl Try.func86 (by kernel_rfl) rfl #[.slice Ao9 t922.length co9,.int .i64 a1] rfl lp_ ?_;(with_reducible refine (impl_expand.calls k _ _ t922 a1 t926 t927 _ ?side1 ?side2 A7.out).mono ?_);(case side1 => repeat (first|exact (Kd.R_reads' HO925.out).2.2|(with_reducible refine Kd.C_alloc ?_ _)|(with_reducible refine Kd.C_drewN ?_ _)|(with_reducible refine Kd.C_drew ?_)));(case side2 => exact (Kd.R_reads' HO925.out).2.1);rintro e w10 ⟨rfl,hb⟩;refine ⟨_,rfl,?_⟩;have n0_:=Aside0.mk (Kd.R_below (pr_ HO925.out) hb);have n1_:=Aside0.mk (below_step (be0_ HB.out) hb);clear HO925;clear HB;have HO925:=n0_;have HB:=n1_;clear n0_ n1_;(try clear hb);(try clear hb2);(try clear hk);(try clear hi)))
   go_ret2
   exact ⟨by first|rfl|(simp [errW_none,errW_some] <;> rfl)|(simp [*,errW_none,errW_some] <;> rfl),be0_ HB.out⟩
 ·replace c4:=Bool.eq_false_iff.mpr c4
  subst c4
  have H1 : (some ((⟨#[]⟩ : ByteArray),false)) = some (r1,r2):=by rw [if_neg (show ¬ (false = true) by decide)] at H;exact H
  clear H
  have H:=H1
  clear H1
  simp only [Option.some.injEq,Prod.mk.injEq] at H
  obtain ⟨rfl,rfl⟩:=H
  go_enter Try.func42,Try.ntmps42
  go_wp2_with (first|((with_reducible refine gate_callee (f:=52) rfl ?_);refine goesL_ (some 10) rfl rfl Try.func52 (by kernel_rfl) rfl #[.string a0] rfl lp_ ?_;(with_reducible refine (impl_parts.calls k a0 t922 false _ A3.out).mono ?_);rintro e w11 ⟨v924,rfl,ho0,hb⟩;refine ⟨_,rfl,?_⟩;have n0_:=Aside0.mk (Kd.R_lower ho0 (below_size (be0_ HB.out)));have n1_:=Aside0.mk (below_step (be0_ HB.out) hb);clear HB;have HO925:=n0_;have HB:=n1_;clear n0_ n1_;(try clear hb);(try clear hb2);(try clear hk);(try clear hi);(try clear ho0)))
  go_ret2
  exact ⟨by first|rfl|(simp [errW_none,errW_some] <;> rfl)|(simp [*,errW_none,errW_some] <;> rfl),be0_ HB.out⟩
end Go.Proofs.Ytengegdaiphfeaa.X
end
section
namespace Go.Proofs.Ytengegdaiphfeaa.X
open Go.RowKit Go.Proofs.YtengegdaiphfeaaW.PrintWords Go.Proofs.YtengegdaiphfeaaW.PrintLast Go.Proofs.YtengegdaiphfeaaW.PrintMore
attribute [local go_sem] max2_int min2_int max_two min_two max_three min_three max_four min_four
set_option linter.unusedVariables false
set_option linter.unusedSimpArgs false
def impl_ExpressionValid.f (k : Nat) (a0 : ByteArray) : Option (Bool):=(impl_parts.f k a0).bind fun bt971 => (some bt971.2)
theorem impl_ExpressionValid.mono : ∀ a0 k,LeO (impl_ExpressionValid.f k a0) (impl_ExpressionValid.f (k + 1) a0):=by
 intro a0 k
 unfold impl_ExpressionValid.f
 repeat' first
   | (with_reducible exact impl_parts.mono _ _)
   | (with_reducible exact LeO.refl _)
   | (with_reducible exact LeO.none _)
   | (with_reducible refine LeO.ite ?_ ?_)
   | (with_reducible refine LeO.bind ?_ (fun _ => ?_))
   | exact impl_parts.mono _ _
   | exact LeO.none _
   | refine LeO.ite ?_ ?_
   | refine LeO.bind ?_ (fun _ => ?_)
set_option maxHeartbeats 8000000 in
set_option maxRecDepth 100000 in
theorem impl_ExpressionValid.calls (k : Nat) (a0 : ByteArray) (r : Bool) (w : World) (h : impl_ExpressionValid.f k a0 = some r) :
  Calls Try.prog 44 #[.string a0] w fun e w' => e = .returned (.bool r) ∧ Below w.heap.size w w':=by
 have HB:=Aside0.mk (Below.refl w.heap.size w)
 have H : ((impl_parts.f k a0).bind fun bt971 => (some bt971.2)) = some r:=h
 clear h
 replace H:=Option.bind_eq_some_iff.mp H
 obtain ⟨⟨t971,t972⟩,A20,H⟩:=H
 replace H : (some t972) = some r:=H
 have A2:=Aside0.mk A20
 clear A20
 obtain rfl:=Option.some.inj H
 go_enter Try.func44,Try.ntmps44
 go_wp2_with (first|((with_reducible refine gate_callee (f:=52) rfl ?_);refine goesL_ (some 7) rfl rfl Try.func52 (by kernel_rfl) rfl #[.string a0] rfl lp_ ?_;(with_reducible refine (impl_parts.calls k a0 t971 t972 _ A2.out).mono ?_);rintro e w3 ⟨v973,rfl,ho0,hb⟩;refine ⟨_,rfl,?_⟩;have n0_:=Aside0.mk (Kd.R_lower ho0 (below_size (be0_ HB.out)));have n1_:=Aside0.mk (below_step (be0_ HB.out) hb);clear HB;have HO974:=n0_;have HB:=n1_;clear n0_ n1_;(try clear hb);(try clear hb2);(try clear hk);(try clear hi);(try clear ho0)))
 go_ret
 exact ⟨by first|rfl|(simp [errW_none,errW_some] <;> rfl)|(simp [*,errW_none,errW_some] <;> rfl),be0_ HB.out⟩
end Go.Proofs.Ytengegdaiphfeaa.X
end
section
namespace Go.Proofs.Ytengegdaiphfeaa.X
open Go.RowKit Go.Proofs.YtengegdaiphfeaaW.PrintWords Go.Proofs.YtengegdaiphfeaaW.PrintLast Go.Proofs.YtengegdaiphfeaaW.PrintMore
attribute [local go_sem] max2_int min2_int max_two min_two max_three min_three max_four min_four
set_option linter.unusedVariables false
set_option linter.unusedSimpArgs false
def impl_RepeatExpression.f (k : Nat) (a0 : ByteArray) : Option (ByteArray):=if 1 + a0.size ≤ 9223372036854775807 then (if 1 + a0.size + 2 ≤ 9223372036854775807 then ((impl_ExpressionValid.f k a0).bind fun t989 => (if t989 = true then (if (1 + (a0.size : Int) + 2) > 120 then (some (⟨#[]⟩ : ByteArray)) else (some (((⟨#[40]⟩ : ByteArray) ++ a0) ++ (⟨#[41,35]⟩ : ByteArray)))) else (some (⟨#[]⟩ : ByteArray)))) else (none)) else (none)
theorem impl_RepeatExpression.mono : ∀ a0 k,LeO (impl_RepeatExpression.f k a0) (impl_RepeatExpression.f (k + 1) a0):=by
 intro a0 k
 unfold impl_RepeatExpression.f
 repeat' first
   | (with_reducible exact impl_ExpressionValid.mono _ _)
   | (with_reducible exact LeO.refl _)
   | (with_reducible exact LeO.none _)
   | (with_reducible refine LeO.ite ?_ ?_)
   | (with_reducible refine LeO.bind ?_ (fun _ => ?_))
   | exact impl_ExpressionValid.mono _ _
   | exact LeO.none _
   | refine LeO.ite ?_ ?_
   | refine LeO.bind ?_ (fun _ => ?_)
set_option maxHeartbeats 8000000 in
set_option maxRecDepth 100000 in
theorem impl_RepeatExpression.calls (k : Nat) (a0 : ByteArray) (r : ByteArray) (w : World) (h : impl_RepeatExpression.f k a0 = some r) :
  Calls Try.prog 49 #[.string a0] w fun e w' => e = .returned (.string r) ∧ Below w.heap.size w w':=by
 have HB:=Aside0.mk (Below.refl w.heap.size w)
 have H : (if 1 + a0.size ≤ 9223372036854775807 then (if 1 + a0.size + 2 ≤ 9223372036854775807 then ((impl_ExpressionValid.f k a0).bind fun t989 => (if t989 = true then (if (1 + (a0.size : Int) + 2) > 120 then (some (⟨#[]⟩ : ByteArray)) else (some (((⟨#[40]⟩ : ByteArray) ++ a0) ++ (⟨#[41,35]⟩ : ByteArray)))) else (some (⟨#[]⟩ : ByteArray)))) else (none)) else (none)) = some r:=h
 clear h
 by_cases c2 : 1 + a0.size ≤ 9223372036854775807
 ·rw [if_pos c2] at H
  have c2b0:=eq_true c2
  have c2b1 : decide (1 + a0.size ≤ 9223372036854775807) = true:=decide_eq_true c2
  try have c2b2 : (9223372036854775807 < 1 + a0.size) = False:=eq_false (Nat.not_lt.2 c2)
  by_cases c3 : 1 + a0.size + 2 ≤ 9223372036854775807
  ·rw [if_pos c3] at H
   have c3b0:=eq_true c3
   have c3b1 : decide (1 + a0.size + 2 ≤ 9223372036854775807) = true:=decide_eq_true c3
   try have c3b2 : (9223372036854775807 < 1 + a0.size + 2) = False:=eq_false (Nat.not_lt.2 c3)
   replace H:=Option.bind_eq_some_iff.mp H
   obtain ⟨t989,A40,H⟩:=H
   replace H : (if t989 = true then (if (1 + (a0.size : Int) + 2) > 120 then (some (⟨#[]⟩ : ByteArray)) else (some (((⟨#[40]⟩ : ByteArray) ++ a0) ++ (⟨#[41,35]⟩ : ByteArray)))) else (some (⟨#[]⟩ : ByteArray))) = some r:=H
   have A4:=Aside0.mk A40
   clear A40
   by_cases c5 : t989 = true
   ·subst c5
    have H1 : (if (1 + (a0.size : Int) + 2) > 120 then (some (⟨#[]⟩ : ByteArray)) else (some (((⟨#[40]⟩ : ByteArray) ++ a0) ++ (⟨#[41,35]⟩ : ByteArray)))) = some r:=by rw [if_pos rfl] at H;exact H
    clear H
    have H:=H1
    clear H1
    by_cases c6 : (1 + (a0.size : Int) + 2) > 120
    ·rw [if_pos c6] at H
     have c6b0 : decide (120 < (1 + (a0.size : Int) + 2)) = true:=decide_eq_true c6
     clear c6
     obtain rfl:=Option.some.inj H
     go_enter Try.func49,Try.ntmps49
     go_wp2_with (first|((with_reducible refine gate_callee (f:=44) rfl ?_);refine goesL_ (some 8) rfl rfl Try.func44 (by kernel_rfl) rfl #[.string a0] rfl lp_ ?_;(with_reducible refine (impl_ExpressionValid.calls k a0 true _ A4.out).mono ?_);rintro e w7 ⟨rfl,hb⟩;refine ⟨_,rfl,?_⟩;have n0_:=Aside0.mk (below_step (be0_ HB.out) hb);clear HB;have HB:=n0_;clear n0_;(try clear hb);(try clear hb2);(try clear hk);(try clear hi)))
     go_ret
     exact ⟨by first|rfl|(simp [errW_none,errW_some] <;> rfl)|(simp [*,errW_none,errW_some] <;> rfl),be0_ HB.out⟩
    ·rw [if_neg c6] at H
     have c6b0 : decide (120 < (1 + (a0.size : Int) + 2)) = false:=decide_eq_false c6
     clear c6
     obtain rfl:=Option.some.inj H
     go_enter Try.func49,Try.ntmps49
     go_wp2_with (first|((with_reducible refine gate_callee (f:=44) rfl ?_);refine goesL_ (some 8) rfl rfl Try.func44 (by kernel_rfl) rfl #[.string a0] rfl lp_ ?_;(with_reducible refine (impl_ExpressionValid.calls k a0 true _ A4.out).mono ?_);rintro e w8 ⟨rfl,hb⟩;refine ⟨_,rfl,?_⟩;have n0_:=Aside0.mk (below_step (be0_ HB.out) hb);clear HB;have HB:=n0_;clear n0_;(try clear hb);(try clear hb2);(try clear hk);(try clear hi)))
     go_ret
     exact ⟨by first|rfl|(simp [errW_none,errW_some] <;> rfl)|(simp [*,errW_none,errW_some] <;> rfl),be0_ HB.out⟩
   ·replace c5:=Bool.eq_false_iff.mpr c5
    subst c5
    have H1 : (some (⟨#[]⟩ : ByteArray)) = some r:=by rw [if_neg (show ¬ (false = true) by decide)] at H;exact H
    clear H
    have H:=H1
    clear H1
    obtain rfl:=Option.some.inj H
    go_enter Try.func49,Try.ntmps49
    go_wp2_with (first|((with_reducible refine gate_callee (f:=44) rfl ?_);refine goesL_ (some 8) rfl rfl Try.func44 (by kernel_rfl) rfl #[.string a0] rfl lp_ ?_;(with_reducible refine (impl_ExpressionValid.calls k a0 false _ A4.out).mono ?_);rintro e w9 ⟨rfl,hb⟩;refine ⟨_,rfl,?_⟩;have n0_:=Aside0.mk (below_step (be0_ HB.out) hb);clear HB;have HB:=n0_;clear n0_;(try clear hb);(try clear hb2);(try clear hk);(try clear hi)))
    go_ret
    exact ⟨by first|rfl|(simp [errW_none,errW_some] <;> rfl)|(simp [*,errW_none,errW_some] <;> rfl),be0_ HB.out⟩
  ·rw [if_neg c3] at H
   exact absurd H (by simp)
 ·rw [if_neg c2] at H
  exact absurd H (by simp)
end Go.Proofs.Ytengegdaiphfeaa.X
end
section
namespace Go.Proofs.Ytengegdaiphfeaa.X
open Go.RowKit Go.Proofs.YtengegdaiphfeaaW.PrintWords Go.Proofs.YtengegdaiphfeaaW.PrintLast Go.Proofs.YtengegdaiphfeaaW.PrintMore
attribute [local go_sem] max2_int min2_int max_two min_two max_three min_three max_four min_four
set_option linter.unusedVariables false
set_option linter.unusedSimpArgs false
def impl_WordValid.l0 : Nat → ByteArray → Int → Int → Option (Bool)
 | 0,_,_,_ => none
 | k + 1,x0,x5,x6 => if x6 < x5 then (if 0 ≤ x6 then (if x6 < (x0.size : Int) then (if (bt x0 x6) = 97 then (impl_WordValid.l0 k x0 x5 (wrap64 (x6 + 1))) else (if (bt x0 x6) = 98 then (impl_WordValid.l0 k x0 x5 (wrap64 (x6 + 1))) else (some false))) else (none)) else (none)) else (some (decide ((x0.size : Int) ≤ 1000)))
def impl_WordValid.f (k : Nat) (a0 : ByteArray) : Option (Bool):=impl_WordValid.l0 k a0 (a0.size : Int) 0
theorem impl_WordValid.mono_l : ∀ k,(∀ y0 y1 y2,LeO (impl_WordValid.l0 k y0 y1 y2) (impl_WordValid.l0 (k + 1) y0 y1 y2))
 | 0 => fun _ _ _ r h => by simp [impl_WordValid.l0] at h
 | k + 1 => by
  have ih0:=impl_WordValid.mono_l k
  ·intro y0 y1 y2
   unfold impl_WordValid.l0
   repeat' first
   | (with_reducible exact ih0 _ _ _)
   | (with_reducible exact LeO.refl _)
   | (with_reducible exact LeO.none _)
   | (with_reducible refine LeO.ite ?_ ?_)
   | (with_reducible refine LeO.bind ?_ (fun _ => ?_))
   | exact ih0 _ _ _
   | exact LeO.none _
   | refine LeO.ite ?_ ?_
   | refine LeO.bind ?_ (fun _ => ?_)
theorem impl_WordValid.mono : ∀ a0 k,LeO (impl_WordValid.f k a0) (impl_WordValid.f (k + 1) a0):=by
 intro a0 k
 have ih0:=impl_WordValid.mono_l k
 unfold impl_WordValid.f
 repeat' first
   | (with_reducible exact ih0 _ _ _)
   | (with_reducible exact LeO.refl _)
   | (with_reducible exact LeO.none _)
   | (with_reducible refine LeO.ite ?_ ?_)
   | (with_reducible refine LeO.bind ?_ (fun _ => ?_))
   | exact ih0 _ _ _
   | exact LeO.none _
   | refine LeO.ite ?_ ?_
   | refine LeO.bind ?_ (fun _ => ?_)
set_option maxHeartbeats 8000000 in
set_option maxRecDepth 100000 in
theorem impl_WordValid.calls (k : Nat) (a0 : ByteArray) (r : Bool) (w : World) (h : impl_WordValid.f k a0 = some r) :
  Calls Try.prog 50 #[.string a0] w fun e w' => e = .returned (.bool r) ∧ Drawn0 w w':=by
 have H : (impl_WordValid.l0 k a0 (a0.size : Int) 0) = some r:=h
 clear h
 have H':=Aside0.mk H
 clear H
 go_enter Try.func50,Try.ntmps50
 go_wp2
 go_loopg [6] k (fun kq v6 w' => ∃ (x6_1 : Int),v6 = .int .i64 x6_1 ∧ Aside0 (impl_WordValid.l0 kq a0 (a0.size : Int) x6_1 = some r) ∧ Aside0 (kq ≤ k) ∧ Drawn0 w w')
 case atStart => exact ⟨(0),(by first|rfl|(simp;done)|(simp [*];done)),H',⟨Nat.le_refl _⟩,by repeat (first|exact Drawn0.refl _|apply Drawn0.step)⟩
 case round =>
  clear H'
  obtain ⟨x6_1,rfl,HA,HK1,⟨m1,rfl⟩⟩:=hrel
  cases gk with
  | zero => exact absurd HA.out (by simp [impl_WordValid.l0])
  | succ k1 =>
   have H:=HA.out
   clear HA
   simp only [impl_WordValid.l0] at H
   by_cases c2 : x6_1 < (a0.size : Int)
   ·rw [if_pos c2] at H
    have c2b0 : decide (x6_1 < (a0.size : Int)) = true:=decide_eq_true c2
    clear c2
    by_cases c3 : 0 ≤ x6_1
    ·rw [if_pos c3] at H
     have c3b0 : decide (0 ≤ x6_1) = true:=decide_eq_true c3
     clear c3
     by_cases c4 : x6_1 < (a0.size : Int)
     ·rw [if_pos c4] at H
      have c4b0 : decide (x6_1 < (a0.size : Int)) = true:=decide_eq_true c4
      clear c4
      by_cases c6 : (bt a0 x6_1) = 97
      ·rw [if_pos c6] at H
       have c6b0 : ((bt a0 x6_1) == 97) = true:=beq_iff_eq.mpr c6
       have c6b1 : ((bt a0 x6_1) != 97) = false:=bne_eq_false_iff_eq.mpr c6
       clear c6
       have H':=Aside0.mk H
       clear H
       have p5 : 0 ≤ (x6_1 : Int):=of_decide_eq_true (by first|(with_reducible assumption)|assumption)
       have q5 : x6_1 < (a0.size : Int):=of_decide_eq_true (by first|(with_reducible assumption)|assumption)
       have hx5:=bt_at a0 x6_1
       replace p5:=eq_true p5
       replace q5:=eq_true q5
       go_wp2
       go_roundg k1
       case measure => have:=HK1.out;omega
       case rel => exact ⟨(wrap64 (x6_1 + 1)),(by first|rfl|(simp;done)|(simp [*];done)),H',⟨by have:=HK1.out;omega⟩,by repeat (first|exact Drawn0.refl _|apply Drawn0.step)⟩
      ·rw [if_neg c6] at H
       have c6b0 : ((bt a0 x6_1) == 97) = false:=beq_eq_false_iff_ne.mpr c6
       have c6b1 : ((bt a0 x6_1) != 97) = true:=bne_iff_ne.mpr c6
       by_cases c8 : (bt a0 x6_1) = 98
       ·rw [if_pos c8] at H
        have c8b0 : ((bt a0 x6_1) == 98) = true:=beq_iff_eq.mpr c8
        have c8b1 : ((bt a0 x6_1) != 98) = false:=bne_eq_false_iff_eq.mpr c8
        clear c8
        have H':=Aside0.mk H
        clear H
        have p5 : 0 ≤ (x6_1 : Int):=of_decide_eq_true (by first|(with_reducible assumption)|assumption)
        have q5 : x6_1 < (a0.size : Int):=of_decide_eq_true (by first|(with_reducible assumption)|assumption)
        have hx5:=bt_at a0 x6_1
        replace p5:=eq_true p5
        replace q5:=eq_true q5
        have p7 : 0 ≤ (x6_1 : Int):=of_decide_eq_true (by first|(with_reducible assumption)|assumption)
        have q7 : x6_1 < (a0.size : Int):=of_decide_eq_true (by first|(with_reducible assumption)|assumption)
        have hx7:=bt_at a0 x6_1
        replace p7:=eq_true p7
        replace q7:=eq_true q7
        go_wp2
        go_roundg k1
        case measure => have:=HK1.out;omega
        case rel => exact ⟨(wrap64 (x6_1 + 1)),(by first|rfl|(simp;done)|(simp [*];done)),H',⟨by have:=HK1.out;omega⟩,by repeat (first|exact Drawn0.refl _|apply Drawn0.step)⟩
       ·rw [if_neg c8] at H
        have c8b0 : ((bt a0 x6_1) == 98) = false:=beq_eq_false_iff_ne.mpr c8
        have c8b1 : ((bt a0 x6_1) != 98) = true:=bne_iff_ne.mpr c8
        obtain rfl:=Option.some.inj H
        have p5 : 0 ≤ (x6_1 : Int):=of_decide_eq_true (by first|(with_reducible assumption)|assumption)
        have q5 : x6_1 < (a0.size : Int):=of_decide_eq_true (by first|(with_reducible assumption)|assumption)
        have hx5:=bt_at a0 x6_1
        replace p5:=eq_true p5
        replace q5:=eq_true q5
        have p7 : 0 ≤ (x6_1 : Int):=of_decide_eq_true (by first|(with_reducible assumption)|assumption)
        have q7 : x6_1 < (a0.size : Int):=of_decide_eq_true (by first|(with_reducible assumption)|assumption)
        have hx7:=bt_at a0 x6_1
        replace p7:=eq_true p7
        replace q7:=eq_true q7
        go_wp2
        go_ret
        exact ⟨by first|rfl|(simp;done)|(simp [*];done),by repeat (first|exact Drawn0.refl _|apply Drawn0.step)⟩
     ·rw [if_neg c4] at H
      exact absurd H (by simp)
    ·rw [if_neg c3] at H
     exact absurd H (by simp)
   ·rw [if_neg c2] at H
    have c2b0 : decide (x6_1 < (a0.size : Int)) = false:=decide_eq_false c2
    clear c2
    obtain rfl:=Option.some.inj H
    go_wp2
    go_ret
    exact ⟨by first|rfl|(simp;done)|(simp [*];done),by repeat (first|exact Drawn0.refl _|apply Drawn0.step)⟩
end Go.Proofs.Ytengegdaiphfeaa.X
end
section
namespace Go.Proofs.Ytengegdaiphfeaa.X
open Go.RowKit Go.Proofs.YtengegdaiphfeaaW.PrintWords Go.Proofs.YtengegdaiphfeaaW.PrintLast Go.Proofs.YtengegdaiphfeaaW.PrintMore
attribute [local go_sem] max2_int min2_int max_two min_two max_three min_three max_four min_four
set_option linter.unusedVariables false
set_option linter.unusedSimpArgs false
mutual
def spec_l7End.l0 : Nat → ByteArray → Int → Int → Option (Int)
 | 0,_,_,_ => none
 | k + 1,x0,x1,x5 => if x1 < (x0.size : Int) then (if 0 ≤ x1 then (spec_l7End.j1 k x0 x1 x5 ((bt x0 x1) != 41)) else (none)) else (spec_l7End.j1 k x0 x1 x5 false)
def spec_l7End.j1 : Nat → ByteArray → Int → Int → Bool → Option (Int)
 | 0,_,_,_,_ => none
 | k + 1,x0,x1,x5,x16 => if x16 = true then (if 0 ≤ x1 then (if x1 < (x0.size : Int) then (if (bt x0 x1) = 97 then (spec_l7End.j2 k x0 x1 x5 true) else (spec_l7End.j2 k x0 x1 x5 ((bt x0 x1) == 98))) else (none)) else (none)) else (if x1 = x5 then (some (-1)) else (some x1))
def spec_l7End.j2 : Nat → ByteArray → Int → Int → Bool → Option (Int)
 | 0,_,_,_,_ => none
 | k + 1,x0,x1,x5,x17 => if x17 = true then (spec_l7End.l0 k x0 (wrap64 (x1 + 1)) x5) else (if 0 ≤ x1 then (if x1 < (x0.size : Int) then (if (bt x0 x1) = 40 then ((spec_l7End.f k x0 (wrap64 (x1 + 1))).bind fun t101 => (if t101 < 0 then (some (-1)) else (if (wrap64 (t101 + 1)) ≥ (x0.size : Int) then (some (-1)) else (if 0 ≤ t101 then (if t101 < (x0.size : Int) then (if (bt x0 t101) = 41 then (if 0 ≤ (wrap64 (t101 + 1)) then (if (wrap64 (t101 + 1)) < (x0.size : Int) then (if (bt x0 (wrap64 (t101 + 1))) = 35 then (spec_l7End.l0 k x0 (wrap64 (t101 + 2)) x5) else (some (-1))) else (none)) else (none)) else (some (-1))) else (none)) else (none))))) else (some (-1))) else (none)) else (none))
def spec_l7End.f : Nat → ByteArray → Int → Option (Int)
 | 0,_,_ => none
 | k + 1,a0,a1 => spec_l7End.l0 k a0 a1 a1
end
theorem spec_l7End.mono_l : ∀ k,(∀ y0 y1,LeO (spec_l7End.f k y0 y1) (spec_l7End.f (k + 1) y0 y1)) ∧ (∀ y0 y1 y2,LeO (spec_l7End.l0 k y0 y1 y2) (spec_l7End.l0 (k + 1) y0 y1 y2)) ∧ (∀ y0 y1 y2 y3,LeO (spec_l7End.j1 k y0 y1 y2 y3) (spec_l7End.j1 (k + 1) y0 y1 y2 y3)) ∧ (∀ y0 y1 y2 y3,LeO (spec_l7End.j2 k y0 y1 y2 y3) (spec_l7End.j2 (k + 1) y0 y1 y2 y3))
 | 0 => ⟨fun _ _ r h => by simp [spec_l7End.f] at h,fun _ _ _ r h => by simp [spec_l7End.l0] at h,fun _ _ _ _ r h => by simp [spec_l7End.j1] at h,fun _ _ _ _ r h => by simp [spec_l7End.j2] at h⟩
 | k + 1 => by
  obtain ⟨ih0,ih1,ih2,ih3⟩:=spec_l7End.mono_l k
  refine ⟨?_,?_,?_,?_⟩
  ·intro y0 y1
   unfold spec_l7End.f
   repeat' first
   | (with_reducible exact ih0 _ _)
   | (with_reducible exact ih1 _ _ _)
   | (with_reducible exact ih2 _ _ _ _)
   | (with_reducible exact ih3 _ _ _ _)
   | (with_reducible exact LeO.refl _)
   | (with_reducible exact LeO.none _)
   | (with_reducible refine LeO.ite ?_ ?_)
   | (with_reducible refine LeO.bind ?_ (fun _ => ?_))
   | exact ih0 _ _
   | exact ih1 _ _ _
   | exact ih2 _ _ _ _
   | exact ih3 _ _ _ _
   | exact LeO.none _
   | refine LeO.ite ?_ ?_
   | refine LeO.bind ?_ (fun _ => ?_)
  ·intro y0 y1 y2
   unfold spec_l7End.l0
   repeat' first
   | (with_reducible exact ih0 _ _)
   | (with_reducible exact ih1 _ _ _)
   | (with_reducible exact ih2 _ _ _ _)
   | (with_reducible exact ih3 _ _ _ _)
   | (with_reducible exact LeO.refl _)
   | (with_reducible exact LeO.none _)
   | (with_reducible refine LeO.ite ?_ ?_)
   | (with_reducible refine LeO.bind ?_ (fun _ => ?_))
   | exact ih0 _ _
   | exact ih1 _ _ _
   | exact ih2 _ _ _ _
   | exact ih3 _ _ _ _
   | exact LeO.none _
   | refine LeO.ite ?_ ?_
   | refine LeO.bind ?_ (fun _ => ?_)
  ·intro y0 y1 y2 y3
   unfold spec_l7End.j1
   repeat' first
   | (with_reducible exact ih0 _ _)
   | (with_reducible exact ih1 _ _ _)
   | (with_reducible exact ih2 _ _ _ _)
   | (with_reducible exact ih3 _ _ _ _)
   | (with_reducible exact LeO.refl _)
   | (with_reducible exact LeO.none _)
   | (with_reducible refine LeO.ite ?_ ?_)
   | (with_reducible refine LeO.bind ?_ (fun _ => ?_))
   | exact ih0 _ _
   | exact ih1 _ _ _
   | exact ih2 _ _ _ _
   | exact ih3 _ _ _ _
   | exact LeO.none _
   | refine LeO.ite ?_ ?_
   | refine LeO.bind ?_ (fun _ => ?_)
  ·intro y0 y1 y2 y3
   unfold spec_l7End.j2
   repeat' first
   | (with_reducible exact ih0 _ _)
   | (with_reducible exact ih1 _ _ _)
   | (with_reducible exact ih2 _ _ _ _)
   | (with_reducible exact ih3 _ _ _ _)
   | (with_reducible exact LeO.refl _)
   | (with_reducible exact LeO.none _)
   | (with_reducible refine LeO.ite ?_ ?_)
   | (with_reducible refine LeO.bind ?_ (fun _ => ?_))
   | exact ih0 _ _
   | exact ih1 _ _ _
   | exact ih2 _ _ _ _
   | exact ih3 _ _ _ _
   | exact LeO.none _
   | refine LeO.ite ?_ ?_
   | refine LeO.bind ?_ (fun _ => ?_)
theorem spec_l7End.mono : ∀ a0 a1 k,LeO (spec_l7End.f k a0 a1) (spec_l7End.f (k + 1) a0 a1):=by
 intro a0 a1 k
 obtain ⟨ih0,ih1,ih2,ih3⟩:=spec_l7End.mono_l k
 exact ih0 a0 a1
set_option maxHeartbeats 8000000 in
set_option maxRecDepth 100000 in
theorem spec_l7End.calls (k : Nat) : ∀ (a0 : ByteArray) (a1 : Int) (r : Int) (w : World) (h : spec_l7End.f k a0 a1 = some r),
  Calls Try.prog 89 #[.string a0,.int .i64 a1] w fun e w' => e = .returned (.int .i64 r) ∧ Drawn0 w w':=by
 induction k using Nat.strongRecOn with
 | _ k ih =>
 intro a0 a1 r w h
 cases k with
 | zero => exact absurd h (by simp [spec_l7End.f])
 | succ k =>
 simp only [spec_l7End.f] at h
 have H : (spec_l7End.l0 k a0 a1 a1) = some r:=h
 clear h
 have H':=Aside0.mk H
 clear H
 go_enter Try.func89,Try.ntmps89
 go_wp2
 go_loopg [1] k (fun kq v1 w' => ∃ (x1_1 : Int),v1 = .int .i64 x1_1 ∧ Aside0 (spec_l7End.l0 kq a0 x1_1 a1 = some r) ∧ Aside0 (kq ≤ k) ∧ Drawn0 w w')
 case atStart => exact ⟨(a1),(by first|rfl|(simp;done)|(simp [*];done)),H',⟨Nat.le_refl _⟩,by repeat (first|exact Drawn0.refl _|apply Drawn0.step)⟩
 case round =>
  clear H'
  try clear p2
  obtain ⟨x1_1,rfl,HA,HK1,⟨m1,rfl⟩⟩:=hrel
  cases gk with
  | zero => exact absurd HA.out (by simp [spec_l7End.l0])
  | succ k1 =>
   have H:=HA.out
   clear HA
   simp only [spec_l7End.l0] at H
   have HC3:=Aside0.mk H
   clear H
   go_upto_region 2 with (fail)
   go_cut [16] (fun v16 wc => ∃ (kq : Nat) (x16_2 : Bool),v16 = .bool x16_2 ∧ Aside0 (spec_l7End.j1 kq a0 x1_1 a1 x16_2 = some r) ∧ Aside0 (kq ≤ k1) ∧ Drawn0 w wc)
   case first =>
    have H:=HC3.out
    clear HC3
    by_cases c4 : x1_1 < (a0.size : Int)
    ·rw [if_pos c4] at H
     have c4b0 : decide (x1_1 < (a0.size : Int)) = true:=decide_eq_true c4
     clear c4
     (first|rw [c4b0]|(simp only [i64_w,i32_w];rw [c4b0])|skip)
     by_cases c5 : 0 ≤ x1_1
     ·rw [if_pos c5] at H
      have c5b0 : decide (0 ≤ x1_1) = true:=decide_eq_true c5
      clear c5
      have H':=Aside0.mk H
      clear H
      have p6 : 0 ≤ (x1_1 : Int):=of_decide_eq_true (by first|(with_reducible assumption)|assumption)
      have q6 : x1_1 < (a0.size : Int):=of_decide_eq_true (by first|(with_reducible assumption)|assumption)
      have hx6:=bt_at a0 x1_1
      replace p6:=eq_true p6
      replace q6:=eq_true q6
      go_wp2
      go_meet
      case rel => exact ⟨_,(((bt a0 x1_1) != 41)),(by first|rfl|(simp;done)|(simp [*];done)),H',⟨by have:=HK1.out;first|omega|exact Nat.le_refl _⟩,by repeat (first|exact Drawn0.refl _|apply Drawn0.step)⟩
     ·rw [if_neg c5] at H
      exact absurd H (by simp)
    ·rw [if_neg c4] at H
     have c4b0 : decide (x1_1 < (a0.size : Int)) = false:=decide_eq_false c4
     clear c4
     (first|rw [c4b0]|(simp only [i64_w,i32_w];rw [c4b0])|skip)
     have H':=Aside0.mk H
     clear H
     go_wp2
     go_meet
     case rel => exact ⟨_,(false),(by first|rfl|(simp;done)|(simp [*];done)),H',⟨by have:=HK1.out;first|omega|exact Nat.le_refl _⟩,by repeat (first|exact Drawn0.refl _|apply Drawn0.step)⟩
   case rest =>
    clear HC3
    try clear p2
    try clear c4
    try clear c4b0
    try clear c5
    try clear c5b0
    try clear p6
    try clear q6
    try clear hx6
    try clear p2
    try clear p6
    try clear q6
    obtain ⟨kq,x16_2,rfl,HA,HJ2,⟨mc2,rfl⟩⟩:=hcut
    cases kq with
    | zero => exact absurd HA.out (by simp [spec_l7End.j1])
    | succ kj2 =>
     have H:=HA.out
     clear HA
     simp only [spec_l7End.j1] at H
     by_cases c7 : x16_2 = true
     ·subst c7
      have H1 : (if 0 ≤ x1_1 then (if x1_1 < (a0.size : Int) then (if (bt a0 x1_1) = 97 then (spec_l7End.j2 kj2 a0 x1_1 a1 true) else (spec_l7End.j2 kj2 a0 x1_1 a1 ((bt a0 x1_1) == 98))) else (none)) else (none)) = some r:=by rw [if_pos rfl] at H;exact H
      clear H
      have H:=H1
      clear H1
      have HC8:=Aside0.mk H
      clear H
      go_upto_region 4 with (fail)
      go_cut [17] (fun v17 wc => ∃ (kq : Nat) (x17_7 : Bool),v17 = .bool x17_7 ∧ Aside0 (spec_l7End.j2 kq a0 x1_1 a1 x17_7 = some r) ∧ Aside0 (kq ≤ kj2) ∧ Drawn0 w wc)
      case first =>
       have H:=HC8.out
       clear HC8
       by_cases c9 : 0 ≤ x1_1
       ·rw [if_pos c9] at H
        have c9b0 : decide (0 ≤ x1_1) = true:=decide_eq_true c9
        clear c9
        (first|rw [c9b0]|(simp only [i64_w,i32_w];rw [c9b0])|skip)
        by_cases c10 : x1_1 < (a0.size : Int)
        ·rw [if_pos c10] at H
         have c10b0 : decide (x1_1 < (a0.size : Int)) = true:=decide_eq_true c10
         clear c10
         by_cases c12 : (bt a0 x1_1) = 97
         ·rw [if_pos c12] at H
          have c12b0 : ((bt a0 x1_1) == 97) = true:=beq_iff_eq.mpr c12
          have c12b1 : ((bt a0 x1_1) != 97) = false:=bne_eq_false_iff_eq.mpr c12
          clear c12
          have H':=Aside0.mk H
          clear H
          have p11 : 0 ≤ (x1_1 : Int):=of_decide_eq_true (by first|(with_reducible assumption)|assumption)
          have q11 : x1_1 < (a0.size : Int):=of_decide_eq_true (by first|(with_reducible assumption)|assumption)
          have hx11:=bt_at a0 x1_1
          replace p11:=eq_true p11
          replace q11:=eq_true q11
          go_wp2
          go_meet
          case rel => exact ⟨_,(true),(by first|rfl|(simp;done)|(simp [*];done)),H',⟨by have:=HK1.out;have:=HJ2.out;first|omega|exact Nat.le_refl _⟩,by repeat (first|exact Drawn0.refl _|apply Drawn0.step)⟩
         ·rw [if_neg c12] at H
          have c12b0 : ((bt a0 x1_1) == 97) = false:=beq_eq_false_iff_ne.mpr c12
          have c12b1 : ((bt a0 x1_1) != 97) = true:=bne_iff_ne.mpr c12
          have H':=Aside0.mk H
          clear H
          have p11 : 0 ≤ (x1_1 : Int):=of_decide_eq_true (by first|(with_reducible assumption)|assumption)
          have q11 : x1_1 < (a0.size : Int):=of_decide_eq_true (by first|(with_reducible assumption)|assumption)
          have hx11:=bt_at a0 x1_1
          replace p11:=eq_true p11
          replace q11:=eq_true q11
          have p13 : 0 ≤ (x1_1 : Int):=of_decide_eq_true (by first|(with_reducible assumption)|assumption)
          have q13 : x1_1 < (a0.size : Int):=of_decide_eq_true (by first|(with_reducible assumption)|assumption)
          have hx13:=bt_at a0 x1_1
          replace p13:=eq_true p13
          replace q13:=eq_true q13
          go_wp2
          go_meet
          case rel => exact ⟨_,(((bt a0 x1_1) == 98)),(by first|rfl|(simp;done)|(simp [*];done)),H',⟨by have:=HK1.out;have:=HJ2.out;first|omega|exact Nat.le_refl _⟩,by repeat (first|exact Drawn0.refl _|apply Drawn0.step)⟩
        ·rw [if_neg c10] at H
         exact absurd H (by simp)
       ·rw [if_neg c9] at H
        exact absurd H (by simp)
      case rest =>
       clear HC8
       try clear c1
       try clear p1
       try clear q1
       try clear hx1
       try clear c2
       try clear p2
       try clear c4
       try clear c4b0
       try clear c5
       try clear c5b0
       try clear p6
       try clear q6
       try clear hx6
       try clear c7
       try clear c8
       try clear c9
       try clear c9b0
       try clear c10
       try clear c10b0
       try clear p11
       try clear q11
       try clear hx11
       try clear c12
       try clear c12b0
       try clear c12b1
       try clear p13
       try clear q13
       try clear hx13
       try clear p11
       try clear p13
       try clear p2
       try clear p6
       try clear q11
       try clear q13
       try clear q6
       obtain ⟨kq,x17_7,rfl,HA,HJ7,⟨mc7,rfl⟩⟩:=hcut
       cases kq with
       | zero => exact absurd HA.out (by simp [spec_l7End.j2])
       | succ kj7 =>
        have H:=HA.out
        clear HA
        simp only [spec_l7End.j2] at H
        by_cases c14 : x17_7 = true
        ·subst c14
         have H1 : (spec_l7End.l0 kj7 a0 (wrap64 (x1_1 + 1)) a1) = some r:=by rw [if_pos rfl] at H;exact H
         clear H
         have H:=H1
         clear H1
         have H':=Aside0.mk H
         clear H
         go_wp2
         go_roundg kj7
         case measure => have:=HK1.out;have:=HJ2.out;have:=HJ7.out;omega
         case rel => exact ⟨(wrap64 (x1_1 + 1)),(by first|rfl|(simp;done)|(simp [*];done)),H',⟨by have:=HK1.out;have:=HJ2.out;have:=HJ7.out;omega⟩,by repeat (first|exact Drawn0.refl _|apply Drawn0.step)⟩
        ·replace c14:=Bool.eq_false_iff.mpr c14
         subst c14
         have H1 : (if 0 ≤ x1_1 then (if x1_1 < (a0.size : Int) then (if (bt a0 x1_1) = 40 then ((spec_l7End.f kj7 a0 (wrap64 (x1_1 + 1))).bind fun t101 => (if t101 < 0 then (some (-1)) else (if (wrap64 (t101 + 1)) ≥ (a0.size : Int) then (some (-1)) else (if 0 ≤ t101 then (if t101 < (a0.size : Int) then (if (bt a0 t101) = 41 then (if 0 ≤ (wrap64 (t101 + 1)) then (if (wrap64 (t101 + 1)) < (a0.size : Int) then (if (bt a0 (wrap64 (t101 + 1))) = 35 then (spec_l7End.l0 kj7 a0 (wrap64 (t101 + 2)) a1) else (some (-1))) else (none)) else (none)) else (some (-1))) else (none)) else (none))))) else (some (-1))) else (none)) else (none)) = some r:=by rw [if_neg (show ¬ (false = true) by decide)] at H;exact H
         clear H
         have H:=H1
         clear H1
         by_cases c15 : 0 ≤ x1_1
         ·rw [if_pos c15] at H
          have c15b0 : decide (0 ≤ x1_1) = true:=decide_eq_true c15
          clear c15
          by_cases c16 : x1_1 < (a0.size : Int)
          ·rw [if_pos c16] at H
           have c16b0 : decide (x1_1 < (a0.size : Int)) = true:=decide_eq_true c16
           clear c16
           by_cases c18 : (bt a0 x1_1) = 40
           ·rw [if_pos c18] at H
            have c18b0 : ((bt a0 x1_1) == 40) = true:=beq_iff_eq.mpr c18
            have c18b1 : ((bt a0 x1_1) != 40) = false:=bne_eq_false_iff_eq.mpr c18
            clear c18
            replace H:=Option.bind_eq_some_iff.mp H
            obtain ⟨t101,A190,H⟩:=H
            replace H : (if t101 < 0 then (some (-1)) else (if (wrap64 (t101 + 1)) ≥ (a0.size : Int) then (some (-1)) else (if 0 ≤ t101 then (if t101 < (a0.size : Int) then (if (bt a0 t101) = 41 then (if 0 ≤ (wrap64 (t101 + 1)) then (if (wrap64 (t101 + 1)) < (a0.size : Int) then (if (bt a0 (wrap64 (t101 + 1))) = 35 then (spec_l7End.l0 kj7 a0 (wrap64 (t101 + 2)) a1) else (some (-1))) else (none)) else (none)) else (some (-1))) else (none)) else (none)))) = some r:=H
            have A19:=Aside0.mk A190
            clear A190
            by_cases c20 : t101 < 0
            ·rw [if_pos c20] at H
             have c20b0 : decide (t101 < 0) = true:=decide_eq_true c20
             clear c20
             obtain rfl:=Option.some.inj H
             have p17 : 0 ≤ (x1_1 : Int):=of_decide_eq_true (by first|(with_reducible assumption)|assumption)
             have q17 : x1_1 < (a0.size : Int):=of_decide_eq_true (by first|(with_reducible assumption)|assumption)
             have hx17:=bt_at a0 x1_1
             replace p17:=eq_true p17
             replace q17:=eq_true q17
             go_wp2_with (first|((with_reducible refine gate_callee (f:=89) rfl ?_);refine goesL_ (some 38) rfl rfl Try.func89 (by kernel_rfl) rfl #[.string a0,.int .i64 (wrap64 (x1_1 + 1))] rfl lp_ ?_;(with_reducible refine (ih kj7 (by have:=HK1.out;have:=HJ2.out;have:=HJ7.out;omega) a0 (wrap64 (x1_1 + 1)) t101 _ A19.out).mono ?_);rintro e w' ⟨rfl,⟨nd,rfl⟩⟩;refine ⟨_,rfl,?_⟩))
             go_ret
             exact ⟨by first|rfl|(simp;done)|(simp [*];done),by repeat (first|exact Drawn0.refl _|apply Drawn0.step)⟩
            ·rw [if_neg c20] at H
             have c20b0 : decide (t101 < 0) = false:=decide_eq_false c20
             clear c20
             by_cases c21 : (wrap64 (t101 + 1)) ≥ (a0.size : Int)
             ·rw [if_pos c21] at H
              have c21b0 : decide ((a0.size : Int) ≤ (wrap64 (t101 + 1))) = true:=decide_eq_true c21
              clear c21
              obtain rfl:=Option.some.inj H
              have p17 : 0 ≤ (x1_1 : Int):=of_decide_eq_true (by first|(with_reducible assumption)|assumption)
              have q17 : x1_1 < (a0.size : Int):=of_decide_eq_true (by first|(with_reducible assumption)|assumption)
              have hx17:=bt_at a0 x1_1
              replace p17:=eq_true p17
              replace q17:=eq_true q17
              go_wp2_with (first|((with_reducible refine gate_callee (f:=89) rfl ?_);refine goesL_ (some 38) rfl rfl Try.func89 (by kernel_rfl) rfl #[.string a0,.int .i64 (wrap64 (x1_1 + 1))] rfl lp_ ?_;(with_reducible refine (ih kj7 (by have:=HK1.out;have:=HJ2.out;have:=HJ7.out;omega) a0 (wrap64 (x1_1 + 1)) t101 _ A19.out).mono ?_);rintro e w' ⟨rfl,⟨nd,rfl⟩⟩;refine ⟨_,rfl,?_⟩))
              go_ret
              exact ⟨by first|rfl|(simp;done)|(simp [*];done),by repeat (first|exact Drawn0.refl _|apply Drawn0.step)⟩
             ·rw [if_neg c21] at H
              have c21b0 : decide ((a0.size : Int) ≤ (wrap64 (t101 + 1))) = false:=decide_eq_false c21
              clear c21
              by_cases c22 : 0 ≤ t101
              ·rw [if_pos c22] at H
               have c22b0 : decide (0 ≤ t101) = true:=decide_eq_true c22
               clear c22
               by_cases c23 : t101 < (a0.size : Int)
               ·rw [if_pos c23] at H
                have c23b0 : decide (t101 < (a0.size : Int)) = true:=decide_eq_true c23
                clear c23
                by_cases c25 : (bt a0 t101) = 41
                ·rw [if_pos c25] at H
                 have c25b0 : ((bt a0 t101) == 41) = true:=beq_iff_eq.mpr c25
                 have c25b1 : ((bt a0 t101) != 41) = false:=bne_eq_false_iff_eq.mpr c25
                 clear c25
                 obtain ⟨ji26,hji26⟩ : ∃ j_ : Int,(wrap64 (t101 + 1)) = j_:=⟨_,rfl⟩
                 replace H : (if 0 ≤ (ji26) then (if (ji26) < (a0.size : Int) then (if (bt a0 (ji26)) = 35 then (spec_l7End.l0 kj7 a0 (wrap64 (t101 + 2)) a1) else (some (-1))) else (none)) else (none)) = some r:=by first|(rw [hji26] at H;exact H)|(simp only [hji26] at H ⊢;exact H)
                 (try rw [hji26] at c21b0)
                 (try rw [hji26] at A19)
                 have hji26w : (IntKind.i64.wrap (t101 + 1)) = ji26:=(i64_w _).trans hji26
                 by_cases c27 : 0 ≤ (ji26)
                 ·rw [if_pos c27] at H
                  have c27b0 : decide (0 ≤ (ji26)) = true:=decide_eq_true c27
                  clear c27
                  by_cases c28 : (ji26) < (a0.size : Int)
                  ·rw [if_pos c28] at H
                   have c28b0 : decide ((ji26) < (a0.size : Int)) = true:=decide_eq_true c28
                   clear c28
                   by_cases c30 : (bt a0 (ji26)) = 35
                   ·rw [if_pos c30] at H
                    have c30b0 : ((bt a0 (ji26)) == 35) = true:=beq_iff_eq.mpr c30
                    have c30b1 : ((bt a0 (ji26)) != 35) = false:=bne_eq_false_iff_eq.mpr c30
                    clear c30
                    have H':=Aside0.mk H
                    clear H
                    have p17 : 0 ≤ (x1_1 : Int):=of_decide_eq_true (by first|(with_reducible assumption)|assumption)
                    have q17 : x1_1 < (a0.size : Int):=of_decide_eq_true (by first|(with_reducible assumption)|assumption)
                    have hx17:=bt_at a0 x1_1
                    replace p17:=eq_true p17
                    replace q17:=eq_true q17
                    go_wp2_with (first|((with_reducible refine gate_callee (f:=89) rfl ?_);refine goesL_ (some 38) rfl rfl Try.func89 (by kernel_rfl) rfl #[.string a0,.int .i64 (wrap64 (x1_1 + 1))] rfl lp_ ?_;(with_reducible refine (ih kj7 (by have:=HK1.out;have:=HJ2.out;have:=HJ7.out;omega) a0 (wrap64 (x1_1 + 1)) t101 _ A19.out).mono ?_);rintro e w' ⟨rfl,⟨nd,rfl⟩⟩;refine ⟨_,rfl,?_⟩;have p24 : 0 ≤ (t101 : Int):=of_decide_eq_true (by first|(with_reducible assumption)|assumption);have q24 : t101 < (a0.size : Int):=of_decide_eq_true (by first|(with_reducible assumption)|assumption);have hx24:=bt_at a0 t101;replace p24:=eq_true p24;replace q24:=eq_true q24;have p29 : 0 ≤ ((ji26) : Int):=of_decide_eq_true (by first|(with_reducible assumption)|assumption);have q29 : (ji26) < (a0.size : Int):=of_decide_eq_true (by first|(with_reducible assumption)|assumption);have hx29:=bt_at a0 (ji26);replace p29:=eq_true p29;replace q29:=eq_true q29))
                    go_roundg kj7
                    case measure => have:=HK1.out;have:=HJ2.out;have:=HJ7.out;omega
                    case rel => exact ⟨(wrap64 (t101 + 2)),(by first|rfl|(simp;done)|(simp [*];done)),H',⟨by have:=HK1.out;have:=HJ2.out;have:=HJ7.out;omega⟩,by repeat (first|exact Drawn0.refl _|apply Drawn0.step)⟩
                   ·rw [if_neg c30] at H
                    have c30b0 : ((bt a0 (ji26)) == 35) = false:=beq_eq_false_iff_ne.mpr c30
                    have c30b1 : ((bt a0 (ji26)) != 35) = true:=bne_iff_ne.mpr c30
                    obtain rfl:=Option.some.inj H
                    have p17 : 0 ≤ (x1_1 : Int):=of_decide_eq_true (by first|(with_reducible assumption)|assumption)
                    have q17 : x1_1 < (a0.size : Int):=of_decide_eq_true (by first|(with_reducible assumption)|assumption)
                    have hx17:=bt_at a0 x1_1
                    replace p17:=eq_true p17
                    replace q17:=eq_true q17
                    go_wp2_with (first|((with_reducible refine gate_callee (f:=89) rfl ?_);refine goesL_ (some 38) rfl rfl Try.func89 (by kernel_rfl) rfl #[.string a0,.int .i64 (wrap64 (x1_1 + 1))] rfl lp_ ?_;(with_reducible refine (ih kj7 (by have:=HK1.out;have:=HJ2.out;have:=HJ7.out;omega) a0 (wrap64 (x1_1 + 1)) t101 _ A19.out).mono ?_);rintro e w' ⟨rfl,⟨nd,rfl⟩⟩;refine ⟨_,rfl,?_⟩;have p24 : 0 ≤ (t101 : Int):=of_decide_eq_true (by first|(with_reducible assumption)|assumption);have q24 : t101 < (a0.size : Int):=of_decide_eq_true (by first|(with_reducible assumption)|assumption);have hx24:=bt_at a0 t101;replace p24:=eq_true p24;replace q24:=eq_true q24;have p29 : 0 ≤ ((ji26) : Int):=of_decide_eq_true (by first|(with_reducible assumption)|assumption);have q29 : (ji26) < (a0.size : Int):=of_decide_eq_true (by first|(with_reducible assumption)|assumption);have hx29:=bt_at a0 (ji26);replace p29:=eq_true p29;replace q29:=eq_true q29))
                    go_ret
                    exact ⟨by first|rfl|(simp;done)|(simp only [← hji26] <;> (first|rfl|simp))|(simp [*];done),by repeat (first|exact Drawn0.refl _|apply Drawn0.step)⟩
                  ·rw [if_neg c28] at H
                   exact absurd H (by simp)
                 ·rw [if_neg c27] at H
                  exact absurd H (by simp)
                ·rw [if_neg c25] at H
                 have c25b0 : ((bt a0 t101) == 41) = false:=beq_eq_false_iff_ne.mpr c25
                 have c25b1 : ((bt a0 t101) != 41) = true:=bne_iff_ne.mpr c25
                 obtain rfl:=Option.some.inj H
                 have p17 : 0 ≤ (x1_1 : Int):=of_decide_eq_true (by first|(with_reducible assumption)|assumption)
                 have q17 : x1_1 < (a0.size : Int):=of_decide_eq_true (by first|(with_reducible assumption)|assumption)
                 have hx17:=bt_at a0 x1_1
                 replace p17:=eq_true p17
                 replace q17:=eq_true q17
                 go_wp2_with (first|((with_reducible refine gate_callee (f:=89) rfl ?_);refine goesL_ (some 38) rfl rfl Try.func89 (by kernel_rfl) rfl #[.string a0,.int .i64 (wrap64 (x1_1 + 1))] rfl lp_ ?_;(with_reducible refine (ih kj7 (by have:=HK1.out;have:=HJ2.out;have:=HJ7.out;omega) a0 (wrap64 (x1_1 + 1)) t101 _ A19.out).mono ?_);rintro e w' ⟨rfl,⟨nd,rfl⟩⟩;refine ⟨_,rfl,?_⟩;have p24 : 0 ≤ (t101 : Int):=of_decide_eq_true (by first|(with_reducible assumption)|assumption);have q24 : t101 < (a0.size : Int):=of_decide_eq_true (by first|(with_reducible assumption)|assumption);have hx24:=bt_at a0 t101;replace p24:=eq_true p24;replace q24:=eq_true q24))
                 go_ret
                 exact ⟨by first|rfl|(simp;done)|(simp [*];done),by repeat (first|exact Drawn0.refl _|apply Drawn0.step)⟩
               ·rw [if_neg c23] at H
                exact absurd H (by simp)
              ·rw [if_neg c22] at H
               exact absurd H (by simp)
           ·rw [if_neg c18] at H
            have c18b0 : ((bt a0 x1_1) == 40) = false:=beq_eq_false_iff_ne.mpr c18
            have c18b1 : ((bt a0 x1_1) != 40) = true:=bne_iff_ne.mpr c18
            obtain rfl:=Option.some.inj H
            have p17 : 0 ≤ (x1_1 : Int):=of_decide_eq_true (by first|(with_reducible assumption)|assumption)
            have q17 : x1_1 < (a0.size : Int):=of_decide_eq_true (by first|(with_reducible assumption)|assumption)
            have hx17:=bt_at a0 x1_1
            replace p17:=eq_true p17
            replace q17:=eq_true q17
            go_wp2
            go_ret
            exact ⟨by first|rfl|(simp;done)|(simp [*];done),by repeat (first|exact Drawn0.refl _|apply Drawn0.step)⟩
          ·rw [if_neg c16] at H
           exact absurd H (by simp)
         ·rw [if_neg c15] at H
          exact absurd H (by simp)
     ·replace c7:=Bool.eq_false_iff.mpr c7
      subst c7
      have H1 : (if x1_1 = a1 then (some (-1)) else (some x1_1)) = some r:=by rw [if_neg (show ¬ (false = true) by decide)] at H;exact H
      clear H
      have H:=H1
      clear H1
      by_cases c31 : x1_1 = a1
      ·rw [if_pos c31] at H
       have c31b0 : (x1_1 == a1) = true:=beq_iff_eq.mpr c31
       have c31b1 : (x1_1 != a1) = false:=bne_eq_false_iff_eq.mpr c31
       clear c31
       obtain rfl:=Option.some.inj H
       go_wp2
       go_ret
       exact ⟨by first|rfl|(simp;done)|(simp [*];done),by repeat (first|exact Drawn0.refl _|apply Drawn0.step)⟩
      ·rw [if_neg c31] at H
       have c31b0 : (x1_1 == a1) = false:=beq_eq_false_iff_ne.mpr c31
       have c31b1 : (x1_1 != a1) = true:=bne_iff_ne.mpr c31
       obtain rfl:=Option.some.inj H
       go_wp2
       go_ret
       exact ⟨by first|rfl|(simp;done)|(simp [*];done),by repeat (first|exact Drawn0.refl _|apply Drawn0.step)⟩
end Go.Proofs.Ytengegdaiphfeaa.X
end
section
namespace Go.Proofs.Ytengegdaiphfeaa.X
open Go.RowKit Go.Proofs.YtengegdaiphfeaaW.PrintWords Go.Proofs.YtengegdaiphfeaaW.PrintLast Go.Proofs.YtengegdaiphfeaaW.PrintMore
attribute [local go_sem] max2_int min2_int max_two min_two max_three min_three max_four min_four
set_option linter.unusedVariables false
set_option linter.unusedSimpArgs false
def spec_ExpressionValid.f (k : Nat) (a0 : ByteArray) : Option (Bool):=if (a0.size : Int) ≤ 120 then ((spec_l7End.f k a0 0).bind fun t102 => (if t102 = (a0.size : Int) then (some (decide ((a0.size : Int) > 0))) else (some false))) else (some false)
theorem spec_ExpressionValid.mono : ∀ a0 k,LeO (spec_ExpressionValid.f k a0) (spec_ExpressionValid.f (k + 1) a0):=by
 intro a0 k
 unfold spec_ExpressionValid.f
 repeat' first
   | (with_reducible exact spec_l7End.mono _ _ _)
   | (with_reducible exact LeO.refl _)
   | (with_reducible exact LeO.none _)
   | (with_reducible refine LeO.ite ?_ ?_)
   | (with_reducible refine LeO.bind ?_ (fun _ => ?_))
   | exact spec_l7End.mono _ _ _
   | exact LeO.none _
   | refine LeO.ite ?_ ?_
   | refine LeO.bind ?_ (fun _ => ?_)
set_option maxHeartbeats 8000000 in
set_option maxRecDepth 100000 in
theorem spec_ExpressionValid.calls (k : Nat) (a0 : ByteArray) (r : Bool) (w : World) (h : spec_ExpressionValid.f k a0 = some r) :
  Calls Try.prog 45 #[.string a0] w fun e w' => e = .returned (.bool r) ∧ Drawn0 w w':=by
 have H : (if (a0.size : Int) ≤ 120 then ((spec_l7End.f k a0 0).bind fun t102 => (if t102 = (a0.size : Int) then (some (decide ((a0.size : Int) > 0))) else (some false))) else (some false)) = some r:=h
 clear h
 by_cases c2 : (a0.size : Int) ≤ 120
 ·rw [if_pos c2] at H
  have c2b0 : decide ((a0.size : Int) ≤ 120) = true:=decide_eq_true c2
  have c2b1 : decide (a0.size ≤ 120) = true:=decide_eq_true (by omega)
  clear c2
  replace H:=Option.bind_eq_some_iff.mp H
  obtain ⟨t102,A30,H⟩:=H
  replace H : (if t102 = (a0.size : Int) then (some (decide ((a0.size : Int) > 0))) else (some false)) = some r:=H
  have A3:=Aside0.mk A30
  clear A30
  by_cases c4 : t102 = (a0.size : Int)
  ·rw [if_pos c4] at H
   have c4b0 : (t102 == (a0.size : Int)) = true:=beq_iff_eq.mpr c4
   have c4b1 : (t102 != (a0.size : Int)) = false:=bne_eq_false_iff_eq.mpr c4
   clear c4
   obtain rfl:=Option.some.inj H
   go_enter Try.func45,Try.ntmps45
   go_wp2_with (first|(go_at_call 89;(with_reducible refine (spec_l7End.calls k a0 0 t102 _ A3.out).mono ?_);rintro e w' ⟨rfl,⟨nd,rfl⟩⟩))
   go_ret
   exact ⟨by first|rfl|(simp;done)|(simp [*];done),by repeat (first|exact Drawn0.refl _|apply Drawn0.step)⟩
  ·rw [if_neg c4] at H
   have c4b0 : (t102 == (a0.size : Int)) = false:=beq_eq_false_iff_ne.mpr c4
   have c4b1 : (t102 != (a0.size : Int)) = true:=bne_iff_ne.mpr c4
   obtain rfl:=Option.some.inj H
   go_enter Try.func45,Try.ntmps45
   go_wp2_with (first|(go_at_call 89;(with_reducible refine (spec_l7End.calls k a0 0 t102 _ A3.out).mono ?_);rintro e w' ⟨rfl,⟨nd,rfl⟩⟩))
   go_ret
   exact ⟨by first|rfl|(simp;done)|(simp [*];done),by repeat (first|exact Drawn0.refl _|apply Drawn0.step)⟩
 ·rw [if_neg c2] at H
  have c2b0 : decide ((a0.size : Int) ≤ 120) = false:=decide_eq_false c2
  have c2b1 : decide (a0.size ≤ 120) = false:=decide_eq_false (by omega)
  clear c2
  obtain rfl:=Option.some.inj H
  go_enter Try.func45,Try.ntmps45
  go_wp2
  go_ret
  exact ⟨by first|rfl|(simp;done)|(simp [*];done),by repeat (first|exact Drawn0.refl _|apply Drawn0.step)⟩
end Go.Proofs.Ytengegdaiphfeaa.X
end
section
namespace Go.Proofs.Ytengegdaiphfeaa.X
open Go.RowKit Go.Proofs.YtengegdaiphfeaaW.PrintWords Go.Proofs.YtengegdaiphfeaaW.PrintLast Go.Proofs.YtengegdaiphfeaaW.PrintMore
attribute [local go_sem] max2_int min2_int max_two min_two max_three min_three max_four min_four
set_option linter.unusedVariables false
set_option linter.unusedSimpArgs false
def spec_DepthOf.l0 : Nat → ByteArray → Int → Int → Int → Int → Option (Int)
 | 0,_,_,_,_,_ => none
 | k + 1,x0,x3,x4,x10,x11 => if x11 < x10 then (if 0 ≤ x11 then (if x11 < (x0.size : Int) then (if (bt x0 x11) = 40 then (spec_DepthOf.l0 k x0 (wrap64 (x3 + 1)) (mx x4 (wrap64 (x3 + 1))) x10 (wrap64 (x11 + 1))) else (if (bt x0 x11) = 41 then (spec_DepthOf.l0 k x0 (wrap64 (x3 - 1)) x4 x10 (wrap64 (x11 + 1))) else (spec_DepthOf.l0 k x0 x3 x4 x10 (wrap64 (x11 + 1))))) else (none)) else (none)) else (some x4)
def spec_DepthOf.f (k : Nat) (a0 : ByteArray) : Option (Int):=(spec_ExpressionValid.f k a0).bind fun t983 => (if t983 = true then (spec_DepthOf.l0 k a0 0 0 (a0.size : Int) 0) else (some (-1)))
theorem spec_DepthOf.mono_l : ∀ k,(∀ y0 y1 y2 y3 y4,LeO (spec_DepthOf.l0 k y0 y1 y2 y3 y4) (spec_DepthOf.l0 (k + 1) y0 y1 y2 y3 y4))
 | 0 => fun _ _ _ _ _ r h => by simp [spec_DepthOf.l0] at h
 | k + 1 => by
  have ih0:=spec_DepthOf.mono_l k
  ·intro y0 y1 y2 y3 y4
   unfold spec_DepthOf.l0
   repeat' first
   | (with_reducible exact ih0 _ _ _ _ _)
   | (with_reducible exact spec_ExpressionValid.mono _ _)
   | (with_reducible exact LeO.refl _)
   | (with_reducible exact LeO.none _)
   | (with_reducible refine LeO.ite ?_ ?_)
   | (with_reducible refine LeO.bind ?_ (fun _ => ?_))
   | exact ih0 _ _ _ _ _
   | exact spec_ExpressionValid.mono _ _
   | exact LeO.none _
   | refine LeO.ite ?_ ?_
   | refine LeO.bind ?_ (fun _ => ?_)
theorem spec_DepthOf.mono : ∀ a0 k,LeO (spec_DepthOf.f k a0) (spec_DepthOf.f (k + 1) a0):=by
 intro a0 k
 have ih0:=spec_DepthOf.mono_l k
 unfold spec_DepthOf.f
 repeat' first
   | (with_reducible exact ih0 _ _ _ _ _)
   | (with_reducible exact spec_ExpressionValid.mono _ _)
   | (with_reducible exact LeO.refl _)
   | (with_reducible exact LeO.none _)
   | (with_reducible refine LeO.ite ?_ ?_)
   | (with_reducible refine LeO.bind ?_ (fun _ => ?_))
   | exact ih0 _ _ _ _ _
   | exact spec_ExpressionValid.mono _ _
   | exact LeO.none _
   | refine LeO.ite ?_ ?_
   | refine LeO.bind ?_ (fun _ => ?_)
set_option maxHeartbeats 8000000 in
set_option maxRecDepth 100000 in
theorem spec_DepthOf.calls (k : Nat) (a0 : ByteArray) (r : Int) (w : World) (h : spec_DepthOf.f k a0 = some r) :
  Calls Try.prog 47 #[.string a0] w fun e w' => e = .returned (.int .i64 r) ∧ Below w.heap.size w w':=by
 have HB:=Aside0.mk (Below.refl w.heap.size w)
 have H : ((spec_ExpressionValid.f k a0).bind fun t983 => (if t983 = true then (spec_DepthOf.l0 k a0 0 0 (a0.size : Int) 0) else (some (-1)))) = some r:=h
 clear h
 replace H:=Option.bind_eq_some_iff.mp H
 obtain ⟨t983,A20,H⟩:=H
 replace H : (if t983 = true then (spec_DepthOf.l0 k a0 0 0 (a0.size : Int) 0) else (some (-1))) = some r:=H
 have A2:=Aside0.mk A20
 clear A20
 by_cases c3 : t983 = true
 ·subst c3
  have H1 : (spec_DepthOf.l0 k a0 0 0 (a0.size : Int) 0) = some r:=by rw [if_pos rfl] at H;exact H
  clear H
  have H:=H1
  clear H1
  have H':=Aside0.mk H
  clear H
  go_enter Try.func47,Try.ntmps47
  go_wp2_with (first|((with_reducible refine gate_callee (f:=45) rfl ?_);refine goesL_ (some 7) rfl rfl Try.func45 (by kernel_rfl) rfl #[.string a0] rfl lp_ ?_;(with_reducible refine (spec_ExpressionValid.calls k a0 true _ A2.out).mono ?_);rintro e w' ⟨rfl,⟨nd,rfl⟩⟩;refine ⟨_,rfl,?_⟩))
  go_loopg [3,4,11] k (fun kq v3 v4 v11 w' => ∃ (x3_1 : Int) (x4_1 : Int) (x11_1 : Int),v3 = .int .i64 x3_1 ∧ v4 = .int .i64 x4_1 ∧ v11 = .int .i64 x11_1 ∧ Aside0 (spec_DepthOf.l0 kq a0 x3_1 x4_1 (a0.size : Int) x11_1 = some r) ∧ Aside0 (kq ≤ k) ∧ Aside0 (Below w.heap.size w w'))
  case atStart => exact ⟨(0),(0),(0),(by first|rfl|(simp;done)|(simp [*];done)),(by first|rfl|(simp;done)|(simp [*];done)),(by first|rfl|(simp;done)|(simp [*];done)),H',⟨Nat.le_refl _⟩,⟨be0_ HB.out⟩⟩
  case round =>
   clear H'
   try clear p2
   try clear c3
   obtain ⟨x3_1,x4_1,x11_1,rfl,rfl,rfl,HA,HK1,HB⟩:=hrel
   cases gk with
   | zero => exact absurd HA.out (by simp [spec_DepthOf.l0])
   | succ k1 =>
    have H:=HA.out
    clear HA
    simp only [spec_DepthOf.l0] at H
    by_cases c4 : x11_1 < (a0.size : Int)
    ·rw [if_pos c4] at H
     have c4b0 : decide (x11_1 < (a0.size : Int)) = true:=decide_eq_true c4
     clear c4
     by_cases c5 : 0 ≤ x11_1
     ·rw [if_pos c5] at H
      have c5b0 : decide (0 ≤ x11_1) = true:=decide_eq_true c5
      clear c5
      by_cases c6 : x11_1 < (a0.size : Int)
      ·rw [if_pos c6] at H
       have c6b0 : decide (x11_1 < (a0.size : Int)) = true:=decide_eq_true c6
       clear c6
       by_cases c8 : (bt a0 x11_1) = 40
       ·rw [if_pos c8] at H
        have c8b0 : ((bt a0 x11_1) == 40) = true:=beq_iff_eq.mpr c8
        have c8b1 : ((bt a0 x11_1) != 40) = false:=bne_eq_false_iff_eq.mpr c8
        clear c8
        obtain ⟨ji9,hji9⟩ : ∃ j_ : Int,(mx x4_1 (wrap64 (x3_1 + 1))) = j_:=⟨_,rfl⟩
        replace H : (spec_DepthOf.l0 k1 a0 (wrap64 (x3_1 + 1)) ji9 (a0.size : Int) (wrap64 (x11_1 + 1))) = some r:=by first|(rw [hji9] at H;exact H)|(simp only [hji9] at H ⊢;exact H)
        have hji9_ : (if x4_1 < (wrap64 (x3_1 + 1)) then (wrap64 (x3_1 + 1)) else x4_1) = ji9:=hji9
        have H':=Aside0.mk H
        clear H
        have p7 : 0 ≤ (x11_1 : Int):=of_decide_eq_true (by first|(with_reducible assumption)|assumption)
        have q7 : x11_1 < (a0.size : Int):=of_decide_eq_true (by first|(with_reducible assumption)|assumption)
        have hx7:=bt_at a0 x11_1
        replace p7:=eq_true p7
        replace q7:=eq_true q7
        go_wp2
        go_roundg k1
        case measure => have:=HK1.out;omega
        case rel => exact ⟨(wrap64 (x3_1 + 1)),(ji9),(wrap64 (x11_1 + 1)),(by first|rfl|(simp;done)|(simp [*];done)),(by first|rfl|(simp;done)|(simp only [← hji9] <;> (first|rfl|simp))|(simp [*];done)),(by first|rfl|(simp;done)|(simp [*];done)),H',⟨by have:=HK1.out;omega⟩,⟨be0_ HB.out⟩⟩
       ·rw [if_neg c8] at H
        have c8b0 : ((bt a0 x11_1) == 40) = false:=beq_eq_false_iff_ne.mpr c8
        have c8b1 : ((bt a0 x11_1) != 40) = true:=bne_iff_ne.mpr c8
        by_cases c10 : (bt a0 x11_1) = 41
        ·rw [if_pos c10] at H
         have c10b0 : ((bt a0 x11_1) == 41) = true:=beq_iff_eq.mpr c10
         have c10b1 : ((bt a0 x11_1) != 41) = false:=bne_eq_false_iff_eq.mpr c10
         clear c10
         have H':=Aside0.mk H
         clear H
         have p7 : 0 ≤ (x11_1 : Int):=of_decide_eq_true (by first|(with_reducible assumption)|assumption)
         have q7 : x11_1 < (a0.size : Int):=of_decide_eq_true (by first|(with_reducible assumption)|assumption)
         have hx7:=bt_at a0 x11_1
         replace p7:=eq_true p7
         replace q7:=eq_true q7
         go_wp2
         go_roundg k1
         case measure => have:=HK1.out;omega
         case rel => exact ⟨(wrap64 (x3_1 - 1)),(x4_1),(wrap64 (x11_1 + 1)),(by first|rfl|(simp;done)|(simp [*];done)),(by first|rfl|(simp;done)|(simp [*];done)),(by first|rfl|(simp;done)|(simp [*];done)),H',⟨by have:=HK1.out;omega⟩,⟨be0_ HB.out⟩⟩
        ·rw [if_neg c10] at H
         have c10b0 : ((bt a0 x11_1) == 41) = false:=beq_eq_false_iff_ne.mpr c10
         have c10b1 : ((bt a0 x11_1) != 41) = true:=bne_iff_ne.mpr c10
         have H':=Aside0.mk H
         clear H
         have p7 : 0 ≤ (x11_1 : Int):=of_decide_eq_true (by first|(with_reducible assumption)|assumption)
         have q7 : x11_1 < (a0.size : Int):=of_decide_eq_true (by first|(with_reducible assumption)|assumption)
         have hx7:=bt_at a0 x11_1
         replace p7:=eq_true p7
         replace q7:=eq_true q7
         go_wp2
         go_roundg k1
         case measure => have:=HK1.out;omega
         case rel => exact ⟨(x3_1),(x4_1),(wrap64 (x11_1 + 1)),(by first|rfl|(simp;done)|(simp [*];done)),(by first|rfl|(simp;done)|(simp [*];done)),(by first|rfl|(simp;done)|(simp [*];done)),H',⟨by have:=HK1.out;omega⟩,⟨be0_ HB.out⟩⟩
      ·rw [if_neg c6] at H
       exact absurd H (by simp)
     ·rw [if_neg c5] at H
      exact absurd H (by simp)
    ·rw [if_neg c4] at H
     have c4b0 : decide (x11_1 < (a0.size : Int)) = false:=decide_eq_false c4
     clear c4
     obtain rfl:=Option.some.inj H
     go_wp2
     go_ret
     exact ⟨by first|rfl|(simp [errW_none,errW_some] <;> rfl)|(simp [*,errW_none,errW_some] <;> rfl),be0_ HB.out⟩
 ·replace c3:=Bool.eq_false_iff.mpr c3
  subst c3
  have H1 : (some (-1)) = some r:=by rw [if_neg (show ¬ (false = true) by decide)] at H;exact H
  clear H
  have H:=H1
  clear H1
  obtain rfl:=Option.some.inj H
  go_enter Try.func47,Try.ntmps47
  go_wp2_with (first|((with_reducible refine gate_callee (f:=45) rfl ?_);refine goesL_ (some 7) rfl rfl Try.func45 (by kernel_rfl) rfl #[.string a0] rfl lp_ ?_;(with_reducible refine (spec_ExpressionValid.calls k a0 false _ A2.out).mono ?_);rintro e w' ⟨rfl,⟨nd,rfl⟩⟩;refine ⟨_,rfl,?_⟩))
  go_ret
  exact ⟨by first|rfl|(simp [errW_none,errW_some] <;> rfl)|(simp [*,errW_none,errW_some] <;> rfl),be0_ HB.out⟩
end Go.Proofs.Ytengegdaiphfeaa.X
end
section
namespace Go.Proofs.Ytengegdaiphfeaa.X
open Go.RowKit Go.Proofs.YtengegdaiphfeaaW.PrintWords Go.Proofs.YtengegdaiphfeaaW.PrintLast Go.Proofs.YtengegdaiphfeaaW.PrintMore
attribute [local go_sem] max2_int min2_int max_two min_two max_three min_three max_four min_four
set_option linter.unusedVariables false
set_option linter.unusedSimpArgs false
def IsS90 (w0 W : World) (g : Nat) (f0 : List Int) (f1 : Int) : Prop := ∃ A0 c0,W.heap[g]? = some (.cells #[.slice A0 f0.length c0,.int .i64 f1] 90 (0,0)) ∧ w0.heap.size ≤ g ∧ Kd.C (Kd.int .u8) w0 A0 f0.length f0
theorem IsS90.grown {w0 W : World} {g : Nat} {f0 : List Int} {f1 : Int} {W1 : World} {row : Option Nat} (h : IsS90 w0 W g f0 f1) (hw : W.grownBy W1 row) (hne : some g ≠ row) : IsS90 w0 W1 g f0 f1:=by
 obtain ⟨A0,c0,hb,hg,hr0⟩:=h
 exact ⟨A0,c0,blk_grown hb hw hne,hg,hr0⟩
theorem IsS90.own_neN {w0 W : World} {g : Nat} {f0 : List Int} {f1 : Int} {α : Type} {d : Kd α} {e : Nat} {base : Nat} {ok : Nat → Prop} {v : Value} {xs : List α} (h : IsS90 w0 W g f0 f1) (ho : Kd.N d e W base ok v xs) (ht : e ≠ 90) : some g ≠ v.ownBlock:=by
 obtain ⟨A0,c0,hb,hg,hr0⟩:=h
 exact Kd.N_ne ho hb ht
theorem IsS90.fresh {w0 W : World} {g : Nat} {f0 : List Int} {f1 : Int} (h : IsS90 w0 W g f0 f1) : ∀ k,W.heap.size ≤ k → k ≠ g:=by
 obtain ⟨A0,c0,hb,hg,hr0⟩:=h
 exact Kd.freshB hb
theorem IsS90.kept {w0 W : World} {g : Nat} {f0 : List Int} {f1 : Int} {W1 : World} {S : Nat → Prop} (h : IsS90 w0 W g f0 f1) (hk : Kept W W1 S) (hne : ¬ S g) : IsS90 w0 W1 g f0 f1:=by
 obtain ⟨A0,c0,hb,hg,hr0⟩:=h
 exact ⟨A0,c0,blk_kept hb hk hne,hg,hr0⟩
theorem IsS90.below {w0 W : World} {g : Nat} {f0 : List Int} {f1 : Int} {W1 : World} (h : IsS90 w0 W g f0 f1) (hw : Below W.heap.size W W1) : IsS90 w0 W1 g f0 f1:=h.grown (grown_of_below hw none) (by simp)
theorem IsS90.alloc {w0 W : World} {g : Nat} {f0 : List Int} {f1 : Int} (h : IsS90 w0 W g f0 f1) (o : Obj) : IsS90 w0 (W.alloc o) g f0 f1:=h.below (below_alloc (Below.refl _ _) o)
theorem IsS90.drewN {w0 W : World} {g : Nat} {f0 : List Int} {f1 : Int} (h : IsS90 w0 W g f0 f1) (m : Nat) : IsS90 w0 (W.drewN m) g f0 f1:=h
theorem IsS90.drew {w0 W : World} {g : Nat} {f0 : List Int} {f1 : Int} (h : IsS90 w0 W g f0 f1) : IsS90 w0 W.drew g f0 f1:=h
theorem IsS90.at_ {w0 W : World} {g : Nat} {f0 : List Int} {f1 : Int} {w' : World} {m : Nat} (hq : W.drewN m = w') (h : IsS90 w0 W g f0 f1) : IsS90 w0 w' g f0 f1:=by subst hq;exact IsS90.drewN h m
theorem IsS90.apart {w0 W : World} {g : Nat} {f0 : List Int} {f1 : Int} {α : Type} {d : Kd α} {e : Nat} {base : Nat} {ok : Nat → Prop} {v : Value} {xs : List α} (h : IsS90 w0 W g f0 f1) (ho : d.R e W base ok v xs) (ht : ∀ q,q ∈ e :: d.E → q ≠ 90) : d.R e W base (fun k => ok k ∧ k ≠ g) v xs:=by
 obtain ⟨A0,c0,hb,hg,hr0⟩:=h
 exact Kd.R_types ho hb ht
theorem IsS90.own_ne {w0 W : World} {g : Nat} {f0 : List Int} {f1 : Int} {α : Type} {d : Kd α} {e : Nat} {base : Nat} {ok : Nat → Prop} {v : Value} {xs : List α} (h : IsS90 w0 W g f0 f1) (ho : d.R e W base ok v xs) (ht : e ≠ 90) : some g ≠ v.ownBlock:=by
 obtain ⟨A0,c0,hb,hg,hr0⟩:=h
 exact Kd.R_ne ho hb ht
theorem IsS90.apartQ {w0 W : World} {g : Nat} {f0 : List Int} {f1 : Int} {α : Type} {d : Kd α} {e : Nat} {base : Nat} {ok : Nat → Prop} {v : Value} {xs : List α} (h : IsS90 w0 W g f0 f1) (ho : d.Q e W base ok v xs) (ht : ∀ q,q ∈ e :: d.E → q ≠ 90) : d.Q e W base (fun k => ok k ∧ k ≠ g) v xs:=by
 obtain ⟨A0,c0,hb,hg,hr0⟩:=h
 exact Kd.Q_types ho hb ht
theorem IsS90.own_neQ {w0 W : World} {g : Nat} {f0 : List Int} {f1 : Int} {α : Type} {d : Kd α} {e : Nat} {base : Nat} {ok : Nat → Prop} {v : Value} {xs : List α} (h : IsS90 w0 W g f0 f1) (ho : d.Q e W base ok v xs) (ht : e ≠ 90) : some g ≠ v.ownBlock:=by
 obtain ⟨A0,c0,hb,hg,hr0⟩:=h
 exact Kd.Q_ne ho hb ht
theorem IsS90.apartS {w0 W : World} {g : Nat} {f0 : List Int} {f1 : Int} {α : Type} {d : Kd α} {e : Nat} {base : Nat} {ok : Nat → Prop} {v : Value} {xs : List α} (h : IsS90 w0 W g f0 f1) (ho : d.S e W base ok v xs) (ht : ∀ q,q ∈ e :: d.E → q ≠ 90) : d.S e W base (fun k => ok k ∧ k ≠ g) v xs:=by
 obtain ⟨A0,c0,hb,hg,hr0⟩:=h
 exact Kd.S_types ho hb ht
theorem IsS90.own_neS {w0 W : World} {g : Nat} {f0 : List Int} {f1 : Int} {α : Type} {d : Kd α} {e : Nat} {base : Nat} {ok : Nat → Prop} {v : Value} {xs : List α} (h : IsS90 w0 W g f0 f1) (ho : d.S e W base ok v xs) (ht : e ≠ 90) : some g ≠ v.ownBlock:=by
 obtain ⟨A0,c0,hb,hg,hr0⟩:=h
 exact Kd.S_ne ho hb ht
theorem IsS90.lt {w0 W : World} {g : Nat} {f0 : List Int} {f1 : Int} (h : IsS90 w0 W g f0 f1) : g < W.heap.size:=by
 obtain ⟨A0,c0,hb,hg,hr0⟩:=h
 exact blk_lt hb
theorem IsS90.ge {w0 W : World} {g : Nat} {f0 : List Int} {f1 : Int} (h : IsS90 w0 W g f0 f1) : w0.heap.size ≤ g:=by
 obtain ⟨A0,c0,hb,hg,hr0⟩:=h
 exact hg
theorem IsS90.ne_blk {w0 W : World} {g : Nat} {f0 : List Int} {f1 : Int} {a : Nat} {cs : Array Value} {t : TypeId} {fr : Nat × Nat} (h : IsS90 w0 W g f0 f1) (hb2 : W.heap[a]? = some (.cells cs t fr)) (ht : t ≠ 90) : g ≠ a:=by
 obtain ⟨A0,c0,hb,hg,hr0⟩:=h
 rintro rfl
 rw [hb] at hb2
 injection hb2 with hb2
 injection hb2 with _ ht2
 exact ht ht2.symm
theorem IsS90.far {w0 W : World} {g : Nat} {f0 : List Int} {f1 : Int} {p : Addr} (h : IsS90 w0 W g f0 f1) (hne : g ≠ p.block) (u : Value) : IsS90 w0 (W.setCell p u) g f0 f1:=by
 obtain ⟨A0,c0,hb,hg,hr0⟩:=h
 exact ⟨A0,c0,blk_far hb hne u,hg,hr0⟩
theorem cellS90_0 {W : World} {g : Nat} {A0 : Option Addr} {c0 : Nat} {f0 : List Int} {f1 : Int} (h : W.heap[g]? = some (.cells #[.slice A0 f0.length c0,.int .i64 f1] 90 (0,0))) : W.cell? ⟨g,0,none⟩ = some (.slice A0 f0.length c0):=(blk_cell h 0).trans rfl
theorem cellS90_1 {W : World} {g : Nat} {A0 : Option Addr} {c0 : Nat} {f0 : List Int} {f1 : Int} (h : W.heap[g]? = some (.cells #[.slice A0 f0.length c0,.int .i64 f1] 90 (0,0))) : W.cell? ⟨g,1,none⟩ = some (.int .i64 f1):=(blk_cell h 1).trans rfl
theorem IsS90.set_1 {w0 W : World} {g : Nat} {f0 : List Int} {f1 : Int} (h : IsS90 w0 W g f0 f1) (x : Int) : IsS90 w0 (W.setCell ⟨g,1,none⟩ (.int .i64 x)) g f0 x:=by
 obtain ⟨A0,c0,hb,hg,hr0⟩:=h
 exact ⟨A0,c0,by simpa using blk_set hb 1 (.int .i64 x),hg,hr0⟩
theorem IsS90.new (w0 W : World) (A0 : Option Addr) (c0 : Nat) (f0 : List Int) (f1 : Int) (hB : Below w0.heap.size w0 W) (hr0 : Kd.C (Kd.int .u8) w0 A0 f0.length f0) : IsS90 w0 (W.alloc (.cells #[.slice A0 f0.length c0,.int .i64 f1] 90)) W.heap.size f0 f1:=⟨A0,c0,by simpa using heap_alloc_new W _,hB.size,hr0⟩
def spec_l13Rd_pick.j0 : Nat → Int → Bool → List Int → Int → Option (Int × Int)
 | 0,_,_,_,_ => none
 | k + 1,x1,x24,x1000,x1001 => if x24 = true then (some (0,x1001)) else (if (wrap64 (x1001 - 1)) < (x1000.length : Int) then (if 0 ≤ (wrap64 (x1001 - 1)) then (if x1 = 0 then (none) else (some (Int.tmod (wrap64 (rd x1000 (wrap64 (x1001 - 1)))) x1,x1001))) else (none)) else (if (x1000.length : Int) = 0 then (none) else (if 0 ≤ (Int.tmod (wrap64 (x1001 - 1)) (x1000.length : Int)) then (if (Int.tmod (wrap64 (x1001 - 1)) (x1000.length : Int)) < (x1000.length : Int) then (if 0 ≤ (Int.tmod (wrap64 ((wrap64 ((wrap64 (x1001 - 1)) * 7)) + 3)) (x1000.length : Int)) then (if (Int.tmod (wrap64 ((wrap64 ((wrap64 (x1001 - 1)) * 7)) + 3)) (x1000.length : Int)) < (x1000.length : Int) then (if x1 = 0 then (none) else (some (Int.tmod (Go.bits .xor .i64 (wrap64 ((wrap64 ((wrap64 ((wrap64 ((wrap64 (rd x1000 (Int.tmod (wrap64 (x1001 - 1)) (x1000.length : Int)))) * 131)) + (wrap64 ((wrap64 (rd x1000 (Int.tmod (wrap64 ((wrap64 ((wrap64 (x1001 - 1)) * 7)) + 3)) (x1000.length : Int)))) * 1117)))) + (wrap64 ((wrap64 (x1001 - 1)) * 29)))) + (wrap64 ((wrap64 (Int.tdiv (wrap64 (x1001 - 1)) (x1000.length : Int))) * 53)))) (wrap64 (Int.tdiv (wrap64 ((wrap64 ((wrap64 ((wrap64 ((wrap64 (rd x1000 (Int.tmod (wrap64 (x1001 - 1)) (x1000.length : Int)))) * 131)) + (wrap64 ((wrap64 (rd x1000 (Int.tmod (wrap64 ((wrap64 ((wrap64 (x1001 - 1)) * 7)) + 3)) (x1000.length : Int)))) * 1117)))) + (wrap64 ((wrap64 (x1001 - 1)) * 29)))) + (wrap64 ((wrap64 (Int.tdiv (wrap64 (x1001 - 1)) (x1000.length : Int))) * 53)))) 64))) x1,x1001))) else (none)) else (none)) else (none)) else (none))))
def spec_l13Rd_pick.f (k : Nat) (s0_0 : List Int) (s0_1 : Int) (a1 : Int) : Option (Int × Int):=if a1 < 1 then (spec_l13Rd_pick.j0 k a1 true s0_0 (wrap64 (s0_1 + 1))) else (spec_l13Rd_pick.j0 k a1 ((s0_0.length : Int) == 0) s0_0 (wrap64 (s0_1 + 1)))
theorem spec_l13Rd_pick.mono_l : ∀ k,(∀ y0 y1 y2 y3,LeO (spec_l13Rd_pick.j0 k y0 y1 y2 y3) (spec_l13Rd_pick.j0 (k + 1) y0 y1 y2 y3))
 | 0 => fun _ _ _ _ r h => by simp [spec_l13Rd_pick.j0] at h
 | k + 1 => by
  have ih0:=spec_l13Rd_pick.mono_l k
  ·intro y0 y1 y2 y3
   unfold spec_l13Rd_pick.j0
   repeat' first
   | (with_reducible exact ih0 _ _ _ _)
   | (with_reducible exact LeO.refl _)
   | (with_reducible exact LeO.none _)
   | (with_reducible refine LeO.ite ?_ ?_)
   | (with_reducible refine LeO.bind ?_ (fun _ => ?_))
   | exact ih0 _ _ _ _
   | exact LeO.none _
   | refine LeO.ite ?_ ?_
   | refine LeO.bind ?_ (fun _ => ?_)
theorem spec_l13Rd_pick.mono : ∀ a0 a1 a2 k,LeO (spec_l13Rd_pick.f k a0 a1 a2) (spec_l13Rd_pick.f (k + 1) a0 a1 a2):=by
 intro a0 a1 a2 k
 have ih0:=spec_l13Rd_pick.mono_l k
 unfold spec_l13Rd_pick.f
 repeat' first
   | (with_reducible exact ih0 _ _ _ _)
   | (with_reducible exact LeO.refl _)
   | (with_reducible exact LeO.none _)
   | (with_reducible refine LeO.ite ?_ ?_)
   | (with_reducible refine LeO.bind ?_ (fun _ => ?_))
   | exact ih0 _ _ _ _
   | exact LeO.none _
   | refine LeO.ite ?_ ?_
   | refine LeO.bind ?_ (fun _ => ?_)
set_option maxHeartbeats 8000000 in
set_option maxRecDepth 100000 in
theorem spec_l13Rd_pick.calls (k : Nat) (g : Nat) (s0_0 : List Int) (s0_1 : Int) (a1 : Int) (r1 : Int) (r2 : Int) (w0 w : World) (hI : IsS90 w0 w g s0_0 s0_1) (hB : Below w0.heap.size w0 w) (h : spec_l13Rd_pick.f k s0_0 s0_1 a1 = some (r1,r2)) :
  Calls Try.prog 76 #[.pointer (some ⟨g,0,none⟩),.int .i64 a1] w fun e w' => e = .returned (.int .i64 r1) ∧ IsS90 w0 w' g s0_0 r2 ∧ Below w0.heap.size w0 w' ∧ KeepBut w w' g none:=by
 have HI0:=Aside0.mk hI
 have HK:=Aside0.mk (KeepBut.refl w g none)
 have HL:=Aside0.mk hB.size
 clear hI
 have HW0:=Aside0.mk hB.size
 have HB:=Aside0.mk hB
 clear hB
 have H : (if a1 < 1 then (spec_l13Rd_pick.j0 k a1 true s0_0 (wrap64 (s0_1 + 1))) else (spec_l13Rd_pick.j0 k a1 ((s0_0.length : Int) == 0) s0_0 (wrap64 (s0_1 + 1)))) = some (r1,r2):=h
 clear h
 have HC3:=Aside0.mk H
 clear H
 obtain ⟨ASz4_0,cSz4_0,HGz4,hgz4,HSz4_0⟩:=HI0.out
 have hcz4_0:=cellS90_0 HGz4
 have hcz4_1:=cellS90_1 HGz4
 have hfz4_1:=blk_frozen HGz4 1
 clear HGz4 hgz4
 go_enter Try.func76,Try.ntmps76
 go_upto_region 2 with (fail)
 repeat (go_quiet (fail);go_upto_region 2 with (fail))
 go_cut [24] (fun v24 wc => ∃ (kq : Nat) (x24_2 : Bool),v24 = .bool x24_2 ∧ Aside0 (spec_l13Rd_pick.j0 kq a1 x24_2 s0_0 (wrap64 (s0_1 + 1)) = some (r1,r2)) ∧ Aside0 (kq ≤ k) ∧ Aside0 (IsS90 w0 wc g s0_0 (wrap64 (s0_1 + 1))) ∧ Aside0 (KeepBut w wc g none) ∧ Aside0 (Below w0.heap.size w0 wc))
 case first =>
  have H:=HC3.out
  clear HC3
  by_cases c5 : a1 < 1
  ·rw [if_pos c5] at H
   have c5b0 : decide (a1 < 1) = true:=decide_eq_true c5
   clear c5
   (first|rw [c5b0]|(simp only [i64_w,i32_w];rw [c5b0])|skip)
   have H':=Aside0.mk H
   clear H
   go_wp2
   repeat (go_quiet (fail);try go_wp2)
   go_meet
   case rel => exact ⟨_,(true),(by first|rfl|(simp;done)|(simp [*];done)),H',⟨by first|omega|exact Nat.le_refl _⟩,⟨by repeat (first|(with_reducible first|exact HI0.out|apply IsS90.alloc|apply IsS90.drewN|apply IsS90.drew|apply IsS90.set_1)|exact HI0.out)⟩,⟨ke0_ HK.out⟩,⟨by repeat (first|(with_reducible first|exact HB.out|apply below_alloc|apply pw_below_drewN|apply below_drew1|refine below_set ?_ (IsS90.ge HI0.out))|exact HB.out)⟩⟩
  ·rw [if_neg c5] at H
   have c5b0 : decide (a1 < 1) = false:=decide_eq_false c5
   clear c5
   (first|rw [c5b0]|(simp only [i64_w,i32_w];rw [c5b0])|skip)
   have H':=Aside0.mk H
   clear H
   obtain ⟨ASz6_0,cSz6_0,HGz6,hgz6,HSz6_0⟩:=HI0.out
   have hcz6_0:=cellS90_0 HGz6
   have hcz6_1:=cellS90_1 HGz6
   have hfz6_1:=blk_frozen HGz6 1
   clear HGz6 hgz6
   go_wp2
   repeat (go_quiet (fail);try go_wp2)
   go_meet
   case rel => exact ⟨_,(((s0_0.length : Int) == 0)),(by first|rfl|(simp;done)|(simp [*];done)),H',⟨by first|omega|exact Nat.le_refl _⟩,⟨by repeat (first|(with_reducible first|exact HI0.out|apply IsS90.alloc|apply IsS90.drewN|apply IsS90.drew|apply IsS90.set_1)|exact HI0.out)⟩,⟨ke0_ HK.out⟩,⟨by repeat (first|(with_reducible first|exact HB.out|apply below_alloc|apply pw_below_drewN|apply below_drew1|refine below_set ?_ (IsS90.ge HI0.out))|exact HB.out)⟩⟩
 case rest =>
  clear HC3
  try clear p2
  try clear c5
  try clear c5b0
  try clear p6
  try clear hcz4_0
  try clear hcz4_1
  try clear hcz6_0
  try clear hcz6_1
  try clear hfz4_1
  try clear hfz6_1
  obtain ⟨kq,x24_2,rfl,HA,HJ2,HI0,HK,HB⟩:=hcut
  cases kq with
  | zero => exact absurd HA.out (by simp [spec_l13Rd_pick.j0])
  | succ kj2 =>
   have H:=HA.out
   clear HA
   simp only [spec_l13Rd_pick.j0] at H
   by_cases c7 : x24_2 = true
   ·subst c7
    have H1 : (some (0,(wrap64 (s0_1 + 1)))) = some (r1,r2):=by rw [if_pos rfl] at H;exact H
    clear H
    have H:=H1
    clear H1
    simp only [Option.some.injEq,Prod.mk.injEq] at H
    obtain ⟨rfl,rfl⟩:=H
    go_wp2
    repeat (go_quiet (fail);try go_wp2)
    go_ret
    exact ⟨by first|rfl|(simp [errW_none,errW_some] <;> rfl)|(simp [*,errW_none,errW_some] <;> rfl),by repeat (first|(with_reducible first|exact HI0.out|apply IsS90.alloc|apply IsS90.drewN|apply IsS90.drew|apply IsS90.set_1)|exact HI0.out),by repeat (first|(with_reducible first|exact HB.out|apply below_alloc|apply pw_below_drewN|apply below_drew1|refine below_set ?_ (IsS90.ge HI0.out))|exact HB.out),ke0_ HK.out⟩
   ·replace c7:=Bool.eq_false_iff.mpr c7
    subst c7
    have H1 : (if (wrap64 ((wrap64 (s0_1 + 1)) - 1)) < (s0_0.length : Int) then (if 0 ≤ (wrap64 ((wrap64 (s0_1 + 1)) - 1)) then (if a1 = 0 then (none) else (some (Int.tmod (wrap64 (rd s0_0 (wrap64 ((wrap64 (s0_1 + 1)) - 1)))) a1,(wrap64 (s0_1 + 1))))) else (none)) else (if (s0_0.length : Int) = 0 then (none) else (if 0 ≤ (Int.tmod (wrap64 ((wrap64 (s0_1 + 1)) - 1)) (s0_0.length : Int)) then (if (Int.tmod (wrap64 ((wrap64 (s0_1 + 1)) - 1)) (s0_0.length : Int)) < (s0_0.length : Int) then (if 0 ≤ (Int.tmod (wrap64 ((wrap64 ((wrap64 ((wrap64 (s0_1 + 1)) - 1)) * 7)) + 3)) (s0_0.length : Int)) then (if (Int.tmod (wrap64 ((wrap64 ((wrap64 ((wrap64 (s0_1 + 1)) - 1)) * 7)) + 3)) (s0_0.length : Int)) < (s0_0.length : Int) then (if a1 = 0 then (none) else (some (Int.tmod (Go.bits .xor .i64 (wrap64 ((wrap64 ((wrap64 ((wrap64 ((wrap64 (rd s0_0 (Int.tmod (wrap64 ((wrap64 (s0_1 + 1)) - 1)) (s0_0.length : Int)))) * 131)) + (wrap64 ((wrap64 (rd s0_0 (Int.tmod (wrap64 ((wrap64 ((wrap64 ((wrap64 (s0_1 + 1)) - 1)) * 7)) + 3)) (s0_0.length : Int)))) * 1117)))) + (wrap64 ((wrap64 ((wrap64 (s0_1 + 1)) - 1)) * 29)))) + (wrap64 ((wrap64 (Int.tdiv (wrap64 ((wrap64 (s0_1 + 1)) - 1)) (s0_0.length : Int))) * 53)))) (wrap64 (Int.tdiv (wrap64 ((wrap64 ((wrap64 ((wrap64 ((wrap64 (rd s0_0 (Int.tmod (wrap64 ((wrap64 (s0_1 + 1)) - 1)) (s0_0.length : Int)))) * 131)) + (wrap64 ((wrap64 (rd s0_0 (Int.tmod (wrap64 ((wrap64 ((wrap64 ((wrap64 (s0_1 + 1)) - 1)) * 7)) + 3)) (s0_0.length : Int)))) * 1117)))) + (wrap64 ((wrap64 ((wrap64 (s0_1 + 1)) - 1)) * 29)))) + (wrap64 ((wrap64 (Int.tdiv (wrap64 ((wrap64 (s0_1 + 1)) - 1)) (s0_0.length : Int))) * 53)))) 64))) a1,(wrap64 (s0_1 + 1))))) else (none)) else (none)) else (none)) else (none)))) = some (r1,r2):=by rw [if_neg (show ¬ (false = true) by decide)] at H;exact H
    clear H
    have H:=H1
    clear H1
    by_cases c8 : (wrap64 ((wrap64 (s0_1 + 1)) - 1)) < (s0_0.length : Int)
    ·rw [if_pos c8] at H
     have c8b0 : decide ((wrap64 ((wrap64 (s0_1 + 1)) - 1)) < (s0_0.length : Int)) = true:=decide_eq_true c8
     clear c8
     obtain ⟨ji9,hji9⟩ : ∃ j_ : Int,(wrap64 ((wrap64 (s0_1 + 1)) - 1)) = j_:=⟨_,rfl⟩
     replace H : (if 0 ≤ (ji9) then (if a1 = 0 then (none) else (some (Int.tmod (wrap64 (rd s0_0 (ji9))) a1,(wrap64 (s0_1 + 1))))) else (none)) = some (r1,r2):=by first|(rw [hji9] at H;exact H)|(simp only [hji9] at H ⊢;exact H)
     (try rw [hji9] at c8b0)
     have hji9w : (IntKind.i64.wrap ((wrap64 (s0_1 + 1)) - 1)) = ji9:=(i64_w _).trans hji9
     by_cases c10 : 0 ≤ (ji9)
     ·rw [if_pos c10] at H
      have c10b0 : decide (0 ≤ (ji9)) = true:=decide_eq_true c10
      clear c10
      by_cases c11 : a1 = 0
      ·rw [if_pos c11] at H
       exact absurd H (by simp)
      ·rw [if_neg c11] at H
       have c11b0 : (a1 == 0) = false:=beq_eq_false_iff_ne.mpr c11
       have c11b1 : (a1 != 0) = true:=bne_iff_ne.mpr c11
       simp only [Option.some.injEq,Prod.mk.injEq] at H
       obtain ⟨rfl,rfl⟩:=H
       obtain ⟨ASz12_0,cSz12_0,HGz12,hgz12,HSz12_0⟩:=HI0.out
       have hcz12_0:=cellS90_0 HGz12
       have hcz12_1:=cellS90_1 HGz12
       have hfz12_1:=blk_frozen HGz12 1
       clear HGz12 hgz12
       have p416 : 0 ≤ ((ji9) : Int):=of_decide_eq_true (by first|(with_reducible assumption)|assumption)
       have q416 : (ji9) < (s0_0.length : Int):=of_decide_eq_true (by first|(with_reducible assumption)|assumption)
       obtain ⟨ad416,e416,hx416_0⟩:=Kd.at_int HSz12_0 (ji9) p416 q416
       cases e416
       replace hx416_0:=pw_cell_below HB.out hx416_0
       replace p416:=eq_true p416
       replace q416:=eq_true q416
       go_wp2
       repeat (go_quiet (fail);try go_wp2)
       go_ret
       exact ⟨by first|rfl|(simp [errW_none,errW_some] <;> rfl)|(simp only [← hji9];first|rfl|(simp [errW_none,errW_some] <;> rfl))|(simp [*,errW_none,errW_some] <;> rfl),by repeat (first|(with_reducible first|exact HI0.out|apply IsS90.alloc|apply IsS90.drewN|apply IsS90.drew|apply IsS90.set_1)|exact HI0.out),by repeat (first|(with_reducible first|exact HB.out|apply below_alloc|apply pw_below_drewN|apply below_drew1|refine below_set ?_ (IsS90.ge HI0.out))|exact HB.out),ke0_ HK.out⟩
     ·rw [if_neg c10] at H
      exact absurd H (by simp)
    ·rw [if_neg c8] at H
     have c8b0 : decide ((wrap64 ((wrap64 (s0_1 + 1)) - 1)) < (s0_0.length : Int)) = false:=decide_eq_false c8
     clear c8
     by_cases c13 : (s0_0.length : Int) = 0
     ·rw [if_pos c13] at H
      exact absurd H (by simp)
     ·rw [if_neg c13] at H
      have c13b0 : ((s0_0.length : Int) == 0) = false:=beq_eq_false_iff_ne.mpr c13
      have c13b1 : ((s0_0.length : Int) != 0) = true:=bne_iff_ne.mpr c13
      have c13b2 : ¬ (s0_0 = []):=fun h_ => c13 (by rw [h_];rfl)
      obtain ⟨ji14,hji14⟩ : ∃ j_ : Int,(Int.tmod (wrap64 ((wrap64 (s0_1 + 1)) - 1)) (s0_0.length : Int)) = j_:=⟨_,rfl⟩
      replace H : (if 0 ≤ (ji14) then (if (ji14) < (s0_0.length : Int) then (if 0 ≤ (Int.tmod (wrap64 ((wrap64 ((wrap64 ((wrap64 (s0_1 + 1)) - 1)) * 7)) + 3)) (s0_0.length : Int)) then (if (Int.tmod (wrap64 ((wrap64 ((wrap64 ((wrap64 (s0_1 + 1)) - 1)) * 7)) + 3)) (s0_0.length : Int)) < (s0_0.length : Int) then (if a1 = 0 then (none) else (some (Int.tmod (Go.bits .xor .i64 (wrap64 ((wrap64 ((wrap64 ((wrap64 ((wrap64 (rd s0_0 (ji14))) * 131)) + (wrap64 ((wrap64 (rd s0_0 (Int.tmod (wrap64 ((wrap64 ((wrap64 ((wrap64 (s0_1 + 1)) - 1)) * 7)) + 3)) (s0_0.length : Int)))) * 1117)))) + (wrap64 ((wrap64 ((wrap64 (s0_1 + 1)) - 1)) * 29)))) + (wrap64 ((wrap64 (Int.tdiv (wrap64 ((wrap64 (s0_1 + 1)) - 1)) (s0_0.length : Int))) * 53)))) (wrap64 (Int.tdiv (wrap64 ((wrap64 ((wrap64 ((wrap64 ((wrap64 (rd s0_0 (ji14))) * 131)) + (wrap64 ((wrap64 (rd s0_0 (Int.tmod (wrap64 ((wrap64 ((wrap64 ((wrap64 (s0_1 + 1)) - 1)) * 7)) + 3)) (s0_0.length : Int)))) * 1117)))) + (wrap64 ((wrap64 ((wrap64 (s0_1 + 1)) - 1)) * 29)))) + (wrap64 ((wrap64 (Int.tdiv (wrap64 ((wrap64 (s0_1 + 1)) - 1)) (s0_0.length : Int))) * 53)))) 64))) a1,(wrap64 (s0_1 + 1))))) else (none)) else (none)) else (none)) else (none)) = some (r1,r2):=by first|(rw [hji14] at H;exact H)|(simp only [hji14] at H ⊢;exact H)
      by_cases c15 : 0 ≤ (ji14)
      ·rw [if_pos c15] at H
       have c15b0 : decide (0 ≤ (ji14)) = true:=decide_eq_true c15
       clear c15
       by_cases c16 : (ji14) < (s0_0.length : Int)
       ·rw [if_pos c16] at H
        have c16b0 : decide ((ji14) < (s0_0.length : Int)) = true:=decide_eq_true c16
        clear c16
        obtain ⟨ji17,hji17⟩ : ∃ j_ : Int,(Int.tmod (wrap64 ((wrap64 ((wrap64 ((wrap64 (s0_1 + 1)) - 1)) * 7)) + 3)) (s0_0.length : Int)) = j_:=⟨_,rfl⟩
        replace H : (if 0 ≤ (ji17) then (if (ji17) < (s0_0.length : Int) then (if a1 = 0 then (none) else (some (Int.tmod (Go.bits .xor .i64 (wrap64 ((wrap64 ((wrap64 ((wrap64 ((wrap64 (rd s0_0 (ji14))) * 131)) + (wrap64 ((wrap64 (rd s0_0 (ji17))) * 1117)))) + (wrap64 ((wrap64 ((wrap64 (s0_1 + 1)) - 1)) * 29)))) + (wrap64 ((wrap64 (Int.tdiv (wrap64 ((wrap64 (s0_1 + 1)) - 1)) (s0_0.length : Int))) * 53)))) (wrap64 (Int.tdiv (wrap64 ((wrap64 ((wrap64 ((wrap64 ((wrap64 (rd s0_0 (ji14))) * 131)) + (wrap64 ((wrap64 (rd s0_0 (ji17))) * 1117)))) + (wrap64 ((wrap64 ((wrap64 (s0_1 + 1)) - 1)) * 29)))) + (wrap64 ((wrap64 (Int.tdiv (wrap64 ((wrap64 (s0_1 + 1)) - 1)) (s0_0.length : Int))) * 53)))) 64))) a1,(wrap64 (s0_1 + 1))))) else (none)) else (none)) = some (r1,r2):=by first|(rw [hji17] at H;exact H)|(simp only [hji17] at H ⊢;exact H)
        by_cases c18 : 0 ≤ (ji17)
        ·rw [if_pos c18] at H
         have c18b0 : decide (0 ≤ (ji17)) = true:=decide_eq_true c18
         clear c18
         by_cases c19 : (ji17) < (s0_0.length : Int)
         ·rw [if_pos c19] at H
          have c19b0 : decide ((ji17) < (s0_0.length : Int)) = true:=decide_eq_true c19
          clear c19
          by_cases c20 : a1 = 0
          ·rw [if_pos c20] at H
           exact absurd H (by simp)
          ·rw [if_neg c20] at H
           have c20b0 : (a1 == 0) = false:=beq_eq_false_iff_ne.mpr c20
           have c20b1 : (a1 != 0) = true:=bne_iff_ne.mpr c20
           simp only [Option.some.injEq,Prod.mk.injEq] at H
           obtain ⟨rfl,rfl⟩:=H
           obtain ⟨ASz21_0,cSz21_0,HGz21,hgz21,HSz21_0⟩:=HI0.out
           have hcz21_0:=cellS90_0 HGz21
           have hcz21_1:=cellS90_1 HGz21
           have hfz21_1:=blk_frozen HGz21 1
           clear HGz21 hgz21
           have p417 : 0 ≤ ((ji14) : Int):=of_decide_eq_true (by first|(with_reducible assumption)|assumption)
           have q417 : (ji14) < (s0_0.length : Int):=of_decide_eq_true (by first|(with_reducible assumption)|assumption)
           obtain ⟨ad417,e417,hx417_0⟩:=Kd.at_int HSz21_0 (ji14) p417 q417
           cases e417
           replace hx417_0:=pw_cell_below HB.out hx417_0
           replace p417:=eq_true p417
           replace q417:=eq_true q417
           have p418 : 0 ≤ ((ji17) : Int):=of_decide_eq_true (by first|(with_reducible assumption)|assumption)
           have q418 : (ji17) < (s0_0.length : Int):=of_decide_eq_true (by first|(with_reducible assumption)|assumption)
           obtain ⟨ad418,e418,hx418_0⟩:=Kd.at_int HSz21_0 (ji17) p418 q418
           obtain rfl : ad417 = ad418:=(by injection e418)
           replace hx418_0:=pw_cell_below HB.out hx418_0
           replace p418:=eq_true p418
           replace q418:=eq_true q418
           go_wp2
           repeat (go_quiet (fail);try go_wp2)
           go_ret
           exact ⟨by first|rfl|(simp [errW_none,errW_some] <;> rfl)|(simp only [← hji14,← hji17];first|rfl|(simp [errW_none,errW_some] <;> rfl))|(simp [*,errW_none,errW_some] <;> rfl),by repeat (first|(with_reducible first|exact HI0.out|apply IsS90.alloc|apply IsS90.drewN|apply IsS90.drew|apply IsS90.set_1)|exact HI0.out),by repeat (first|(with_reducible first|exact HB.out|apply below_alloc|apply pw_below_drewN|apply below_drew1|refine below_set ?_ (IsS90.ge HI0.out))|exact HB.out),ke0_ HK.out⟩
         ·rw [if_neg c19] at H
          exact absurd H (by simp)
        ·rw [if_neg c18] at H
         exact absurd H (by simp)
       ·rw [if_neg c16] at H
        exact absurd H (by simp)
      ·rw [if_neg c15] at H
       exact absurd H (by simp)
end Go.Proofs.Ytengegdaiphfeaa.X
end
section
namespace Go.Proofs.Ytengegdaiphfeaa.X
open Go.RowKit Go.Proofs.YtengegdaiphfeaaW.PrintWords Go.Proofs.YtengegdaiphfeaaW.PrintLast Go.Proofs.YtengegdaiphfeaaW.PrintMore
attribute [local go_sem] max2_int min2_int max_two min_two max_three min_three max_four min_four
set_option linter.unusedVariables false
set_option linter.unusedSimpArgs false
def spec_l13Open.f (l0 : List Int) : Option (List Int × Int):=if (l0.length : Int) > 2000 then (if 2000 ≤ (l0.length : Int) then (some (l0.take 2000,0)) else (none)) else (some (l0,0))
set_option maxHeartbeats 8000000 in
set_option maxRecDepth 100000 in
theorem spec_l13Open.calls (A0 : Option Addr) (c0 : Nat) (l0 : List Int) (r1 : List Int) (r2 : Int) (w0 w : World) (hB : Below w0.heap.size w0 w) (hr0 : Kd.C (Kd.int .u8) w0 A0 l0.length l0) (hc0 : l0.length ≤ c0) (h : spec_l13Open.f l0 = some (r1,r2)) :
  Calls Try.prog 71 #[.slice A0 l0.length c0] w fun e w' => ∃ g_ : Nat,e = .returned (.pointer (some ⟨g_,0,none⟩)) ∧ IsS90 w0 w' g_ r1 r2 ∧ Below w0.heap.size w0 w' ∧ Below w.heap.size w w':=by
 have hu90:=Try.underlying90
 have HR0:=Aside0.mk hr0
 have HC0:=Aside0.mk hc0
 clear hr0 hc0
 have HBW:=Aside0.mk (Below.refl w.heap.size w)
 have HW0:=Aside0.mk hB.size
 have HB:=Aside0.mk hB
 clear hB
 have H : (if (l0.length : Int) > 2000 then (if 2000 ≤ (l0.length : Int) then (some (l0.take 2000,0)) else (none)) else (some (l0,0))) = some (r1,r2):=h
 clear h
 by_cases c2 : (l0.length : Int) > 2000
 ·rw [if_pos c2] at H
  have c2b0 : decide (2000 < (l0.length : Int)) = true:=decide_eq_true c2
  have c2b1 : decide (2000 < l0.length) = true:=decide_eq_true (by omega)
  clear c2
  by_cases c3 : 2000 ≤ (l0.length : Int)
  ·rw [if_pos c3] at H
   have c3b0:=eq_true c3
   have c3b1 : decide (2000 ≤ (l0.length : Int)) = true:=decide_eq_true c3
   clear c3
   simp only [Option.some.injEq,Prod.mk.injEq] at H
   obtain ⟨rfl,rfl⟩:=H
   obtain ⟨i04,hi04,_,hsz4,_⟩:=info_parts info5
   obtain ⟨hcut4,hA4,hC4⟩:=print_take_of (P:=Try.prog) (Value.int .u8) 0 38 5 .i64 Try.underlying38 hi04 hsz4 A0 c0 l0 2000 (by omega) (of_decide_eq_true (by first|(with_reducible assumption)|assumption)) HC0.out
   have HR470:=Aside0.mk (Kd.C_of_reads (h1:=fun _ => rfl) (hA4 _ (Kd.reads_of_C HR0.out)))
   have HC470:=Aside0.mk hC4
   clear hA4 hC4 hi04 hsz4
   go_enter Try.func71,Try.ntmps71
   go_wp2_with (first|((with_reducible refine gate_dst (N:=10) rfl ?_);refine box_event ?hg (N:=10) ?hd (cs:=#[.slice A0 (l0.take 2000).length c0,.int .i64 0]) (t:=90) ?hr ?_;(case hd => rfl);(case hg => rfl);(case hr => first|(go_simp;done)|(go_simp;rfl));intro gb471 hg w5 hbox hb;have n0_:=Aside0.mk (below_step HBW.out hb);have n1_:=Aside0.mk (below_step (be0_ HB.out) hb);have n2_:=Aside0.mk (hbox);have n3_:=Aside0.mk ((by rw [hg];exact (below_size (by repeat (first|(with_reducible first|exact HBW.out|apply below_alloc|apply pw_below_drewN|apply below_drew1)|exact HBW.out))) : w.heap.size ≤ gb471));have n4_:=Aside0.mk ((Nat.le_trans HW0.out (by rw [hg];exact (below_size (by repeat (first|(with_reducible first|exact HBW.out|apply below_alloc|apply pw_below_drewN|apply below_drew1)|exact HBW.out))) : w.heap.size ≤ gb471) : w0.heap.size ≤ gb471));clear HBW;clear HB;have HBW:=n0_;have HB:=n1_;have BK471:=n2_;have GW471:=n3_;have GE471:=n4_;clear n0_ n1_ n2_ n3_ n4_;clear hb hbox hg))
   go_ret
   exact ⟨_,rfl,(show IsS90 w0 _ gb471 (l0.take 2000) 0 from ⟨_,_,pe_ BK471.out,GE471.out,HR470.out⟩),be1_ HB.out GE471.out,by repeat (first|(with_reducible first|exact HBW.out|apply below_alloc|apply pw_below_drewN|apply below_drew1|refine below_set ?_ GW471.out)|exact HBW.out)⟩
  ·rw [if_neg c3] at H
   exact absurd H (by simp)
 ·rw [if_neg c2] at H
  have c2b0 : decide (2000 < (l0.length : Int)) = false:=decide_eq_false c2
  have c2b1 : decide (2000 < l0.length) = false:=decide_eq_false (by omega)
  clear c2
  simp only [Option.some.injEq,Prod.mk.injEq] at H
  obtain ⟨rfl,rfl⟩:=H
  go_enter Try.func71,Try.ntmps71
  go_wp2_with (first|((with_reducible refine gate_dst (N:=10) rfl ?_);refine box_event ?hg (N:=10) ?hd (cs:=#[.slice A0 l0.length c0,.int .i64 0]) (t:=90) ?hr ?_;(case hd => rfl);(case hg => rfl);(case hr => first|(go_simp;done)|(go_simp;rfl));intro gb472 hg w6 hbox hb;have n0_:=Aside0.mk (below_step HBW.out hb);have n1_:=Aside0.mk (below_step (be0_ HB.out) hb);have n2_:=Aside0.mk (hbox);have n3_:=Aside0.mk ((by rw [hg];exact (below_size (by repeat (first|(with_reducible first|exact HBW.out|apply below_alloc|apply pw_below_drewN|apply below_drew1)|exact HBW.out))) : w.heap.size ≤ gb472));have n4_:=Aside0.mk ((Nat.le_trans HW0.out (by rw [hg];exact (below_size (by repeat (first|(with_reducible first|exact HBW.out|apply below_alloc|apply pw_below_drewN|apply below_drew1)|exact HBW.out))) : w.heap.size ≤ gb472) : w0.heap.size ≤ gb472));clear HBW;clear HB;have HBW:=n0_;have HB:=n1_;have BK472:=n2_;have GW472:=n3_;have GE472:=n4_;clear n0_ n1_ n2_ n3_ n4_;clear hb hbox hg))
  go_ret
  exact ⟨_,rfl,(show IsS90 w0 _ gb472 l0 0 from ⟨_,_,pe_ BK472.out,GE472.out,HR0.out⟩),be1_ HB.out GE472.out,by repeat (first|(with_reducible first|exact HBW.out|apply below_alloc|apply pw_below_drewN|apply below_drew1|refine below_set ?_ GW472.out)|exact HBW.out)⟩
end Go.Proofs.Ytengegdaiphfeaa.X
end
section
namespace Go.Proofs.Ytengegdaiphfeaa.X
open Go.RowKit Go.Proofs.YtengegdaiphfeaaW.PrintWords Go.Proofs.YtengegdaiphfeaaW.PrintLast Go.Proofs.YtengegdaiphfeaaW.PrintMore
attribute [local go_sem] max2_int min2_int max_two min_two max_three min_three max_four min_four
set_option linter.unusedVariables false
set_option linter.unusedSimpArgs false
def spec_l13Rd_of.f (k : Nat) (s0_0 : List Int) (s0_1 : Int) (l1 : List ByteArray) : Option (ByteArray × Int):=(spec_l13Rd_pick.f k s0_0 s0_1 (l1.length : Int)).bind fun bt932 => (if 0 ≤ bt932.1 then (if bt932.1 < (l1.length : Int) then (some (rdOf ByteArray.empty l1 bt932.1,bt932.2)) else (none)) else (none))
theorem spec_l13Rd_of.mono : ∀ a0 a1 a2 k,LeO (spec_l13Rd_of.f k a0 a1 a2) (spec_l13Rd_of.f (k + 1) a0 a1 a2):=by
 intro a0 a1 a2 k
 unfold spec_l13Rd_of.f
 repeat' first
   | (with_reducible exact spec_l13Rd_pick.mono _ _ _ _)
   | (with_reducible exact LeO.refl _)
   | (with_reducible exact LeO.none _)
   | (with_reducible refine LeO.ite ?_ ?_)
   | (with_reducible refine LeO.bind ?_ (fun _ => ?_))
   | exact spec_l13Rd_pick.mono _ _ _ _
   | exact LeO.none _
   | refine LeO.ite ?_ ?_
   | refine LeO.bind ?_ (fun _ => ?_)
set_option maxHeartbeats 8000000 in
set_option maxRecDepth 100000 in
theorem spec_l13Rd_of.calls (k : Nat) (g : Nat) (s0_0 : List Int) (s0_1 : Int) (A1 : Option Addr) (c1 : Nat) (l1 : List ByteArray) (r1 : ByteArray) (r2 : Int) (w0 w : World) (hI : IsS90 w0 w g s0_0 s0_1) (hB : Below w0.heap.size w0 w) (hr1 : Kd.C Kd.string w A1 l1.length l1) (hc1 : l1.length ≤ c1) (hf1 : ∀ ad,A1 = some ad → 0 < l1.length → ad.block ≠ g) (h : spec_l13Rd_of.f k s0_0 s0_1 l1 = some (r1,r2)) :
  Calls Try.prog 108 #[.pointer (some ⟨g,0,none⟩),.slice A1 l1.length c1] w fun e w' => e = .returned (.string r1) ∧ IsS90 w0 w' g s0_0 r2 ∧ Below w0.heap.size w0 w' ∧ KeepBut w w' g none:=by
 have HR1:=Aside0.mk hr1
 have HC1:=Aside0.mk hc1
 clear hr1 hc1
 have HI0:=Aside0.mk hI
 have HK:=Aside0.mk (KeepBut.refl w g none)
 have HL:=Aside0.mk hB.size
 clear hI
 have HW0:=Aside0.mk hB.size
 have HB:=Aside0.mk hB
 clear hB
 have H : ((spec_l13Rd_pick.f k s0_0 s0_1 (l1.length : Int)).bind fun bt932 => (if 0 ≤ bt932.1 then (if bt932.1 < (l1.length : Int) then (some (rdOf ByteArray.empty l1 bt932.1,bt932.2)) else (none)) else (none))) = some (r1,r2):=h
 clear h
 replace H:=Option.bind_eq_some_iff.mp H
 obtain ⟨⟨t932,t933⟩,A30,H⟩:=H
 replace H : (if 0 ≤ t932 then (if t932 < (l1.length : Int) then (some (rdOf ByteArray.empty l1 t932,t933)) else (none)) else (none)) = some (r1,r2):=H
 have A3:=Aside0.mk A30
 clear A30
 by_cases c4 : 0 ≤ t932
 ·rw [if_pos c4] at H
  have c4b0 : decide (0 ≤ t932) = true:=decide_eq_true c4
  clear c4
  by_cases c5 : t932 < (l1.length : Int)
  ·rw [if_pos c5] at H
   have c5b0 : decide (t932 < (l1.length : Int)) = true:=decide_eq_true c5
   clear c5
   simp only [Option.some.injEq,Prod.mk.injEq] at H
   obtain ⟨rfl,rfl⟩:=H
   go_enter Try.func108,Try.ntmps108
   go_wp2_with (first|((with_reducible refine gate_callee (f:=76) rfl ?_);refine goesL_ (some 9) rfl rfl Try.func76 (by kernel_rfl) rfl #[.pointer (some ⟨g,0,none⟩),.int .i64 (l1.length : Int)] rfl lp_ ?_;(with_reducible refine (spec_l13Rd_pick.calls k g s0_0 s0_1 (l1.length : Int) t932 t933 w0 _ ?side1 ?side2 A3.out).mono ?_);(case side1 => repeat (first|(with_reducible first|exact HI0.out|apply IsS90.alloc|apply IsS90.drewN|apply IsS90.drew|apply IsS90.set_1)|exact HI0.out));(case side2 => repeat (first|(with_reducible first|exact HB.out|apply below_alloc|apply pw_below_drewN|apply below_drew1|refine below_set ?_ (IsS90.ge HI0.out))|exact HB.out));rintro e w6 ⟨rfl,hi,hb,hk⟩;refine ⟨_,rfl,?_⟩;have n0_:=Aside0.mk (KeepBut.trans (ke0_ HK.out) hk (.inl rfl));have n1_:=Aside0.mk (hb);have n2_:=Aside0.mk (hi);clear HK;clear HB;clear HI0;have HK:=n0_;have HB:=n1_;have HI0:=n2_;clear n0_ n1_ n2_;(try clear hb);(try clear hb2);(try clear hk);(try clear hi);have p934 : 0 ≤ (t932 : Int):=of_decide_eq_true (by first|(with_reducible assumption)|assumption);have q934 : t932 < (l1.length : Int):=of_decide_eq_true (by first|(with_reducible assumption)|assumption);obtain ⟨ad934,e934,hx934_0⟩:=Kd.at_string HR1.out t932 p934 q934;cases e934;replace hx934_0:=keep_cell HK.out hx934_0 (by first|(rw [add_block];exact hf1 _ rfl (by omega))|exact hf1 _ rfl (by omega)|exact hf1 ad934 rfl (by omega));replace p934:=eq_true p934;replace q934:=eq_true q934))
   go_ret
   exact ⟨by first|rfl|(simp [errW_none,errW_some] <;> rfl)|(simp [*,errW_none,errW_some] <;> rfl),by repeat (first|(with_reducible first|exact HI0.out|apply IsS90.alloc|apply IsS90.drewN|apply IsS90.drew|apply IsS90.set_1)|exact HI0.out),by repeat (first|(with_reducible first|exact HB.out|apply below_alloc|apply pw_below_drewN|apply below_drew1|refine below_set ?_ (IsS90.ge HI0.out))|exact HB.out),ke0_ HK.out⟩
  ·rw [if_neg c5] at H
   exact absurd H (by simp)
 ·rw [if_neg c4] at H
  exact absurd H (by simp)
end Go.Proofs.Ytengegdaiphfeaa.X
end
section
namespace Go.Proofs.Ytengegdaiphfeaa.X
open Go.RowKit Go.Proofs.YtengegdaiphfeaaW.PrintWords Go.Proofs.YtengegdaiphfeaaW.PrintLast Go.Proofs.YtengegdaiphfeaaW.PrintMore
attribute [local go_sem] max2_int min2_int max_two min_two max_three min_three max_four min_four
set_option linter.unusedVariables false
set_option linter.unusedSimpArgs false
mutual
def spec_l7Draw.l0 : Nat → Int → ByteArray → Int → Int → List Int → Int → Option (ByteArray × Int)
 | 0,_,_,_,_,_,_ => none
 | k + 1,x1,x5,x8,x9,x1000,x1001 => if x9 < x8 then (if x1 > 0 then ((spec_l13Rd_pick.f k x1000 x1001 3).bind fun bt937 => (spec_l7Draw.j1 k x1 x5 x8 x9 (bt937.1 == 0) x1000 bt937.2)) else (spec_l7Draw.j1 k x1 x5 x8 x9 false x1000 x1001)) else (some (x5,x1001))
def spec_l7Draw.j1 : Nat → Int → ByteArray → Int → Int → Bool → List Int → Int → Option (ByteArray × Int)
 | 0,_,_,_,_,_,_,_ => none
 | k + 1,x1,x5,x8,x9,x17,x1000,x1001 => if x17 = true then (if x5.size + 1 ≤ 9223372036854775807 then ((spec_l7Draw.f k x1000 x1001 (wrap64 (x1 - 1))).bind fun bt939 => (if x5.size + 1 + bt939.1.size ≤ 9223372036854775807 then (if x5.size + 1 + bt939.1.size + 2 ≤ 9223372036854775807 then (spec_l7Draw.l0 k x1 (((x5 ++ (⟨#[40]⟩ : ByteArray)) ++ bt939.1) ++ (⟨#[41,35]⟩ : ByteArray)) x8 (wrap64 (x9 + 1)) x1000 bt939.2) else (none)) else (none))) else (none)) else ((spec_l13Rd_of.f k x1000 x1001 (([(⟨#[97]⟩ : ByteArray),(⟨#[98]⟩ : ByteArray)] : List ByteArray))).bind fun bt944 => (if x5.size + bt944.1.size ≤ 9223372036854775807 then (spec_l7Draw.l0 k x1 (x5 ++ bt944.1) x8 (wrap64 (x9 + 1)) x1000 bt944.2) else (none)))
def spec_l7Draw.f : Nat → List Int → Int → Int → Option (ByteArray × Int)
 | 0,_,_,_ => none
 | k + 1,s0_0,s0_1,a1 => (spec_l13Rd_pick.f k s0_0 s0_1 3).bind fun bt935 => (spec_l7Draw.l0 k a1 (⟨#[]⟩ : ByteArray) (wrap64 (1 + bt935.1)) 0 s0_0 bt935.2)
end
theorem spec_l7Draw.mono_l : ∀ k,(∀ y0 y1 y2,LeO (spec_l7Draw.f k y0 y1 y2) (spec_l7Draw.f (k + 1) y0 y1 y2)) ∧ (∀ y0 y1 y2 y3 y4 y5,LeO (spec_l7Draw.l0 k y0 y1 y2 y3 y4 y5) (spec_l7Draw.l0 (k + 1) y0 y1 y2 y3 y4 y5)) ∧ (∀ y0 y1 y2 y3 y4 y5 y6,LeO (spec_l7Draw.j1 k y0 y1 y2 y3 y4 y5 y6) (spec_l7Draw.j1 (k + 1) y0 y1 y2 y3 y4 y5 y6))
 | 0 => ⟨fun _ _ _ r h => by simp [spec_l7Draw.f] at h,fun _ _ _ _ _ _ r h => by simp [spec_l7Draw.l0] at h,fun _ _ _ _ _ _ _ r h => by simp [spec_l7Draw.j1] at h⟩
 | k + 1 => by
  obtain ⟨ih0,ih1,ih2⟩:=spec_l7Draw.mono_l k
  refine ⟨?_,?_,?_⟩
  ·intro y0 y1 y2
   unfold spec_l7Draw.f
   repeat' first
   | (with_reducible exact ih0 _ _ _)
   | (with_reducible exact ih1 _ _ _ _ _ _)
   | (with_reducible exact ih2 _ _ _ _ _ _ _)
   | (with_reducible exact spec_l13Rd_of.mono _ _ _ _)
   | (with_reducible exact spec_l13Rd_pick.mono _ _ _ _)
   | (with_reducible exact LeO.refl _)
   | (with_reducible exact LeO.none _)
   | (with_reducible refine LeO.ite ?_ ?_)
   | (with_reducible refine LeO.bind ?_ (fun _ => ?_))
   | exact ih0 _ _ _
   | exact ih1 _ _ _ _ _ _
   | exact ih2 _ _ _ _ _ _ _
   | exact spec_l13Rd_of.mono _ _ _ _
   | exact spec_l13Rd_pick.mono _ _ _ _
   | exact LeO.none _
   | refine LeO.ite ?_ ?_
   | refine LeO.bind ?_ (fun _ => ?_)
  ·intro y0 y1 y2 y3 y4 y5
   unfold spec_l7Draw.l0
   repeat' first
   | (with_reducible exact ih0 _ _ _)
   | (with_reducible exact ih1 _ _ _ _ _ _)
   | (with_reducible exact ih2 _ _ _ _ _ _ _)
   | (with_reducible exact spec_l13Rd_of.mono _ _ _ _)
   | (with_reducible exact spec_l13Rd_pick.mono _ _ _ _)
   | (with_reducible exact LeO.refl _)
   | (with_reducible exact LeO.none _)
   | (with_reducible refine LeO.ite ?_ ?_)
   | (with_reducible refine LeO.bind ?_ (fun _ => ?_))
   | exact ih0 _ _ _
   | exact ih1 _ _ _ _ _ _
   | exact ih2 _ _ _ _ _ _ _
   | exact spec_l13Rd_of.mono _ _ _ _
   | exact spec_l13Rd_pick.mono _ _ _ _
   | exact LeO.none _
   | refine LeO.ite ?_ ?_
   | refine LeO.bind ?_ (fun _ => ?_)
  ·intro y0 y1 y2 y3 y4 y5 y6
   unfold spec_l7Draw.j1
   repeat' first
   | (with_reducible exact ih0 _ _ _)
   | (with_reducible exact ih1 _ _ _ _ _ _)
   | (with_reducible exact ih2 _ _ _ _ _ _ _)
   | (with_reducible exact spec_l13Rd_of.mono _ _ _ _)
   | (with_reducible exact spec_l13Rd_pick.mono _ _ _ _)
   | (with_reducible exact LeO.refl _)
   | (with_reducible exact LeO.none _)
   | (with_reducible refine LeO.ite ?_ ?_)
   | (with_reducible refine LeO.bind ?_ (fun _ => ?_))
   | exact ih0 _ _ _
   | exact ih1 _ _ _ _ _ _
   | exact ih2 _ _ _ _ _ _ _
   | exact spec_l13Rd_of.mono _ _ _ _
   | exact spec_l13Rd_pick.mono _ _ _ _
   | exact LeO.none _
   | refine LeO.ite ?_ ?_
   | refine LeO.bind ?_ (fun _ => ?_)
theorem spec_l7Draw.mono : ∀ a0 a1 a2 k,LeO (spec_l7Draw.f k a0 a1 a2) (spec_l7Draw.f (k + 1) a0 a1 a2):=by
 intro a0 a1 a2 k
 obtain ⟨ih0,ih1,ih2⟩:=spec_l7Draw.mono_l k
 exact ih0 a0 a1 a2
set_option maxHeartbeats 8000000 in
set_option maxRecDepth 100000 in
theorem spec_l7Draw.calls (k : Nat) : ∀ (g : Nat) (s0_0 : List Int) (s0_1 : Int) (a1 : Int) (r1 : ByteArray) (r2 : Int) (w0 w : World) (hI : IsS90 w0 w g s0_0 s0_1) (hB : Below w0.heap.size w0 w) (h : spec_l7Draw.f k s0_0 s0_1 a1 = some (r1,r2)),
  Calls Try.prog 107 #[.pointer (some ⟨g,0,none⟩),.int .i64 a1] w fun e w' => e = .returned (.string r1) ∧ IsS90 w0 w' g s0_0 r2 ∧ Below w0.heap.size w0 w' ∧ KeepBut w w' g none:=by
 induction k using Nat.strongRecOn with
 | _ k ih =>
 intro g s0_0 s0_1 a1 r1 r2 w0 w hI hB h
 cases k with
 | zero => exact absurd h (by simp [spec_l7Draw.f])
 | succ k =>
 simp only [spec_l7Draw.f] at h
 have HI0:=Aside0.mk hI
 have HK:=Aside0.mk (KeepBut.refl w g none)
 have HL:=Aside0.mk hB.size
 clear hI
 have HW0:=Aside0.mk hB.size
 have HB:=Aside0.mk hB
 clear hB
 have H : ((spec_l13Rd_pick.f k s0_0 s0_1 3).bind fun bt935 => (spec_l7Draw.l0 k a1 (⟨#[]⟩ : ByteArray) (wrap64 (1 + bt935.1)) 0 s0_0 bt935.2)) = some (r1,r2):=h
 clear h
 replace H:=Option.bind_eq_some_iff.mp H
 obtain ⟨⟨t935,t936⟩,A30,H⟩:=H
 replace H : (spec_l7Draw.l0 k a1 (⟨#[]⟩ : ByteArray) (wrap64 (1 + t935)) 0 s0_0 t936) = some (r1,r2):=H
 have A3:=Aside0.mk A30
 clear A30
 have H':=Aside0.mk H
 clear H
 go_enter Try.func107,Try.ntmps107
 go_wp2_with (first|((with_reducible refine gate_callee (f:=76) rfl ?_);refine goesL_ (some 7) rfl rfl Try.func76 (by kernel_rfl) rfl #[.pointer (some ⟨g,0,none⟩),.int .i64 3] rfl lp_ ?_;(with_reducible refine (spec_l13Rd_pick.calls k g s0_0 s0_1 3 t935 t936 w0 _ ?side1 ?side2 A3.out).mono ?_);(case side1 => repeat (first|(with_reducible first|exact HI0.out|apply IsS90.alloc|apply IsS90.drewN|apply IsS90.drew|apply IsS90.set_1)|exact HI0.out));(case side2 => repeat (first|(with_reducible first|exact HB.out|apply below_alloc|apply pw_below_drewN|apply below_drew1|refine below_set ?_ (IsS90.ge HI0.out))|exact HB.out));rintro e w4 ⟨rfl,hi,hb,hk⟩;refine ⟨_,rfl,?_⟩;have n0_:=Aside0.mk (KeepBut.trans (ke0_ HK.out) hk (.inl rfl));have n1_:=Aside0.mk (hb);have n2_:=Aside0.mk (hi);clear HK;clear HB;clear HI0;have HK:=n0_;have HB:=n1_;have HI0:=n2_;clear n0_ n1_ n2_;(try clear hb);(try clear hb2);(try clear hk);(try clear hi)))
 go_loopg [5,9] k (fun kq v5 v9 w' => ∃ (x5_1 : ByteArray) (x9_1 : Int) (x1001_1 : Int),v5 = .string x5_1 ∧ v9 = .int .i64 x9_1 ∧ Aside0 (spec_l7Draw.l0 kq a1 x5_1 (wrap64 (1 + t935)) x9_1 s0_0 x1001_1 = some (r1,r2)) ∧ Aside0 (kq ≤ k) ∧ Aside0 (IsS90 w0 w' g s0_0 x1001_1) ∧ Aside0 (KeepBut w w' g none) ∧ Aside0 (Below w0.heap.size w0 w'))
 case atStart => exact ⟨((⟨#[]⟩ : ByteArray)),(0),(t936),(by first|rfl|(simp;done)|(simp [*];done)),(by first|rfl|(simp;done)|(simp [*];done)),H',⟨Nat.le_refl _⟩,⟨by repeat (first|(with_reducible first|exact HI0.out|apply IsS90.alloc|apply IsS90.drewN|apply IsS90.drew|apply IsS90.set_1)|exact HI0.out)⟩,⟨ke0_ HK.out⟩,⟨by repeat (first|(with_reducible first|exact HB.out|apply below_alloc|apply pw_below_drewN|apply below_drew1|refine below_set ?_ (IsS90.ge HI0.out))|exact HB.out)⟩⟩
 case round =>
  clear H'
  try clear c1
  try clear p2
  obtain ⟨x5_1,x9_1,x1001_1,rfl,rfl,HA,HK1,HI0,HK,HB⟩:=hrel
  cases gk with
  | zero => exact absurd HA.out (by simp [spec_l7Draw.l0])
  | succ k1 =>
   have H:=HA.out
   clear HA
   simp only [spec_l7Draw.l0] at H
   by_cases c5 : x9_1 < (wrap64 (1 + t935))
   ·rw [if_pos c5] at H
    have c5b0 : decide (x9_1 < (wrap64 (1 + t935))) = true:=decide_eq_true c5
    clear c5
    have HC6:=Aside0.mk H
    clear H
    go_upto_region 4 with (fail)
    go_cut [17] (fun v17 wc => ∃ (kq : Nat) (x17_5 : Bool) (x1001_5 : Int),v17 = .bool x17_5 ∧ Aside0 (spec_l7Draw.j1 kq a1 x5_1 (wrap64 (1 + t935)) x9_1 x17_5 s0_0 x1001_5 = some (r1,r2)) ∧ Aside0 (kq ≤ k1) ∧ Aside0 (IsS90 w0 wc g s0_0 x1001_5) ∧ Aside0 (KeepBut w wc g none) ∧ Aside0 (Below w0.heap.size w0 wc))
    case first =>
     have H:=HC6.out
     clear HC6
     by_cases c7 : a1 > 0
     ·rw [if_pos c7] at H
      have c7b0 : decide (0 < a1) = true:=decide_eq_true c7
      clear c7
      (first|rw [c7b0]|(simp only [i64_w,i32_w];rw [c7b0])|skip)
      replace H:=Option.bind_eq_some_iff.mp H
      obtain ⟨⟨t937,t938⟩,A80,H⟩:=H
      replace H : (spec_l7Draw.j1 k1 a1 x5_1 (wrap64 (1 + t935)) x9_1 (t937 == 0) s0_0 t938) = some (r1,r2):=H
      have A8:=Aside0.mk A80
      clear A80
      have H':=Aside0.mk H
      clear H
      go_wp2_with (first|(go_at_call 76;(with_reducible refine (spec_l13Rd_pick.calls k1 g s0_0 x1001_1 3 t937 t938 w0 _ ?side1 ?side2 A8.out).mono ?_);(case side1 => repeat (first|(with_reducible first|exact HI0.out|apply IsS90.alloc|apply IsS90.drewN|apply IsS90.drew|apply IsS90.set_1)|exact HI0.out));(case side2 => repeat (first|(with_reducible first|exact HB.out|apply below_alloc|apply pw_below_drewN|apply below_drew1|refine below_set ?_ (IsS90.ge HI0.out))|exact HB.out));rintro e w9 ⟨rfl,hi,hb,hk⟩;have n0_:=Aside0.mk (KeepBut.trans (ke0_ HK.out) hk (.inl rfl));have n1_:=Aside0.mk (hb);have n2_:=Aside0.mk (hi);clear HK;clear HB;clear HI0;have HK:=n0_;have HB:=n1_;have HI0:=n2_;clear n0_ n1_ n2_;(try clear hb);(try clear hb2);(try clear hk);(try clear hi)))
      go_meet
      case rel => exact ⟨_,((t937 == 0)),(t938),(by first|rfl|(simp;done)|(simp [*];done)),H',⟨by have:=HK1.out;first|omega|exact Nat.le_refl _⟩,⟨by repeat (first|(with_reducible first|exact HI0.out|apply IsS90.alloc|apply IsS90.drewN|apply IsS90.drew|apply IsS90.set_1)|exact HI0.out)⟩,⟨ke0_ HK.out⟩,⟨by repeat (first|(with_reducible first|exact HB.out|apply below_alloc|apply pw_below_drewN|apply below_drew1|refine below_set ?_ (IsS90.ge HI0.out))|exact HB.out)⟩⟩
     ·rw [if_neg c7] at H
      have c7b0 : decide (0 < a1) = false:=decide_eq_false c7
      clear c7
      (first|rw [c7b0]|(simp only [i64_w,i32_w];rw [c7b0])|skip)
      have H':=Aside0.mk H
      clear H
      go_wp2
      go_meet
      case rel => exact ⟨_,(false),(x1001_1),(by first|rfl|(simp;done)|(simp [*];done)),H',⟨by have:=HK1.out;first|omega|exact Nat.le_refl _⟩,⟨by repeat (first|(with_reducible first|exact HI0.out|apply IsS90.alloc|apply IsS90.drewN|apply IsS90.drew|apply IsS90.set_1)|exact HI0.out)⟩,⟨ke0_ HK.out⟩,⟨by repeat (first|(with_reducible first|exact HB.out|apply below_alloc|apply pw_below_drewN|apply below_drew1|refine below_set ?_ (IsS90.ge HI0.out))|exact HB.out)⟩⟩
    case rest =>
     clear HC6
     try clear c1
     try clear p2
     try clear c5
     try clear c5b0
     try clear p6
     try clear c7
     try clear c7b0
     try clear p2
     obtain ⟨kq,x17_5,x1001_5,rfl,HA,HJ5,HI0,HK,HB⟩:=hcut
     cases kq with
     | zero => exact absurd HA.out (by simp [spec_l7Draw.j1])
     | succ kj5 =>
      have H:=HA.out
      clear HA
      simp only [spec_l7Draw.j1] at H
      by_cases c10 : x17_5 = true
      ·subst c10
       have H1 : (if x5_1.size + 1 ≤ 9223372036854775807 then ((spec_l7Draw.f kj5 s0_0 x1001_5 (wrap64 (a1 - 1))).bind fun bt939 => (if x5_1.size + 1 + bt939.1.size ≤ 9223372036854775807 then (if x5_1.size + 1 + bt939.1.size + 2 ≤ 9223372036854775807 then (spec_l7Draw.l0 kj5 a1 (((x5_1 ++ (⟨#[40]⟩ : ByteArray)) ++ bt939.1) ++ (⟨#[41,35]⟩ : ByteArray)) (wrap64 (1 + t935)) (wrap64 (x9_1 + 1)) s0_0 bt939.2) else (none)) else (none))) else (none)) = some (r1,r2):=by rw [if_pos rfl] at H;exact H
       clear H
       have H:=H1
       clear H1
       by_cases c11 : x5_1.size + 1 ≤ 9223372036854775807
       ·rw [if_pos c11] at H
        have c11b0:=eq_true c11
        have c11b1 : decide (x5_1.size + 1 ≤ 9223372036854775807) = true:=decide_eq_true c11
        try have c11b2 : (9223372036854775807 < x5_1.size + 1) = False:=eq_false (Nat.not_lt.2 c11)
        try have c5b0_c11 : decide (x9_1 < ((1 + t935))) = true:=by rw [show wrap64 (1 + t935) = (1 + t935) from by unfold wrap64;omega] at c5b0;exact c5b0
        replace H:=Option.bind_eq_some_iff.mp H
        obtain ⟨⟨t939,t940⟩,A120,H⟩:=H
        replace H : (if x5_1.size + 1 + t939.size ≤ 9223372036854775807 then (if x5_1.size + 1 + t939.size + 2 ≤ 9223372036854775807 then (spec_l7Draw.l0 kj5 a1 (((x5_1 ++ (⟨#[40]⟩ : ByteArray)) ++ t939) ++ (⟨#[41,35]⟩ : ByteArray)) (wrap64 (1 + t935)) (wrap64 (x9_1 + 1)) s0_0 t940) else (none)) else (none)) = some (r1,r2):=H
        have A12:=Aside0.mk A120
        clear A120
        by_cases c13 : x5_1.size + 1 + t939.size ≤ 9223372036854775807
        ·rw [if_pos c13] at H
         have c13b0:=eq_true c13
         have c13b1 : decide (x5_1.size + 1 + t939.size ≤ 9223372036854775807) = true:=decide_eq_true c13
         try have c13b2 : (9223372036854775807 < x5_1.size + 1 + t939.size) = False:=eq_false (Nat.not_lt.2 c13)
         try have c5b0_c13 : decide (x9_1 < ((1 + t935))) = true:=by rw [show wrap64 (1 + t935) = (1 + t935) from by unfold wrap64;omega] at c5b0;exact c5b0
         by_cases c14 : x5_1.size + 1 + t939.size + 2 ≤ 9223372036854775807
         ·rw [if_pos c14] at H
          have c14b0:=eq_true c14
          have c14b1 : decide (x5_1.size + 1 + t939.size + 2 ≤ 9223372036854775807) = true:=decide_eq_true c14
          try have c14b2 : (9223372036854775807 < x5_1.size + 1 + t939.size + 2) = False:=eq_false (Nat.not_lt.2 c14)
          try have c5b0_c14 : decide (x9_1 < ((1 + t935))) = true:=by rw [show wrap64 (1 + t935) = (1 + t935) from by unfold wrap64;omega] at c5b0;exact c5b0
          have H':=Aside0.mk H
          clear H
          go_wp2_with (first|((with_reducible refine gate_callee (f:=107) rfl ?_);refine goesL_ (some 23) rfl rfl Try.func107 (by kernel_rfl) rfl #[.pointer (some ⟨g,0,none⟩),.int .i64 (wrap64 (a1 - 1))] rfl lp_ ?_;(with_reducible refine (ih kj5 (by have:=HK1.out;have:=HJ5.out;omega) g s0_0 x1001_5 (wrap64 (a1 - 1)) t939 t940 w0 _ ?side1 ?side2 A12.out).mono ?_);(case side1 => repeat (first|(with_reducible first|exact HI0.out|apply IsS90.alloc|apply IsS90.drewN|apply IsS90.drew|apply IsS90.set_1)|exact HI0.out));(case side2 => repeat (first|(with_reducible first|exact HB.out|apply below_alloc|apply pw_below_drewN|apply below_drew1|refine below_set ?_ (IsS90.ge HI0.out))|exact HB.out));rintro e w15 ⟨rfl,hi,hb,hk⟩;refine ⟨_,rfl,?_⟩;have n0_:=Aside0.mk (KeepBut.trans (ke0_ HK.out) hk (.inl rfl));have n1_:=Aside0.mk (hb);have n2_:=Aside0.mk (hi);clear HK;clear HB;clear HI0;have HK:=n0_;have HB:=n1_;have HI0:=n2_;clear n0_ n1_ n2_;(try clear hb);(try clear hb2);(try clear hk);(try clear hi)))
          go_roundg kj5
          case measure => have:=HK1.out;have:=HJ5.out;omega
          case rel => exact ⟨(((x5_1 ++ (⟨#[40]⟩ : ByteArray)) ++ t939) ++ (⟨#[41,35]⟩ : ByteArray)),(wrap64 (x9_1 + 1)),(t940),(by first|rfl|(simp;done)|(simp [*];done)),(by first|rfl|(simp;done)|(simp [*];done)),H',⟨by have:=HK1.out;have:=HJ5.out;omega⟩,⟨by repeat (first|(with_reducible first|exact HI0.out|apply IsS90.alloc|apply IsS90.drewN|apply IsS90.drew|apply IsS90.set_1)|exact HI0.out)⟩,⟨ke0_ HK.out⟩,⟨by repeat (first|(with_reducible first|exact HB.out|apply below_alloc|apply pw_below_drewN|apply below_drew1|refine below_set ?_ (IsS90.ge HI0.out))|exact HB.out)⟩⟩
         ·rw [if_neg c14] at H
          exact absurd H (by simp)
        ·rw [if_neg c13] at H
         exact absurd H (by simp)
       ·rw [if_neg c11] at H
        exact absurd H (by simp)
      ·replace c10:=Bool.eq_false_iff.mpr c10
       subst c10
       have H1 : ((spec_l13Rd_of.f kj5 s0_0 x1001_5 (([(⟨#[97]⟩ : ByteArray),(⟨#[98]⟩ : ByteArray)] : List ByteArray))).bind fun bt944 => (if x5_1.size + bt944.1.size ≤ 9223372036854775807 then (spec_l7Draw.l0 kj5 a1 (x5_1 ++ bt944.1) (wrap64 (1 + t935)) (wrap64 (x9_1 + 1)) s0_0 bt944.2) else (none))) = some (r1,r2):=by rw [if_neg (show ¬ (false = true) by decide)] at H;exact H
       clear H
       have H:=H1
       clear H1
       obtain ⟨y941,hy941⟩ : ∃ y_ : List ByteArray,y_ = (([(⟨#[97]⟩ : ByteArray),(⟨#[98]⟩ : ByteArray)] : List ByteArray)):=⟨_,rfl⟩
       replace H : ((spec_l13Rd_of.f kj5 s0_0 x1001_5 y941).bind fun bt944 => (if x5_1.size + bt944.1.size ≤ 9223372036854775807 then (spec_l7Draw.l0 kj5 a1 (x5_1 ++ bt944.1) (wrap64 (1 + t935)) (wrap64 (x9_1 + 1)) s0_0 bt944.2) else (none))) = some (r1,r2):=by first|(rw [hy941];with_reducible exact H)|(have H2_:=(Option.bind_some _ _).symm.trans H;rw [hy941];with_reducible exact H2_)|(have H2_:=(Option.bind_some _ _).symm.trans H;with_reducible exact H2_)|with_reducible exact H|(rw [hy941];exact H)|exact H
       have Ny941:=Aside0.mk hy941
       clear hy941
       replace H:=Option.bind_eq_some_iff.mp H
       obtain ⟨⟨t944,t945⟩,A160,H⟩:=H
       replace H : (if x5_1.size + t944.size ≤ 9223372036854775807 then (spec_l7Draw.l0 kj5 a1 (x5_1 ++ t944) (wrap64 (1 + t935)) (wrap64 (x9_1 + 1)) s0_0 t945) else (none)) = some (r1,r2):=H
       have A16:=Aside0.mk A160
       clear A160
       by_cases c17 : x5_1.size + t944.size ≤ 9223372036854775807
       ·rw [if_pos c17] at H
        have c17b0:=eq_true c17
        have c17b1 : decide (x5_1.size + t944.size ≤ 9223372036854775807) = true:=decide_eq_true c17
        try have c17b2 : (9223372036854775807 < x5_1.size + t944.size) = False:=eq_false (Nat.not_lt.2 c17)
        try have c5b0_c17 : decide (x9_1 < ((1 + t935))) = true:=by rw [show wrap64 (1 + t935) = (1 + t935) from by unfold wrap64;omega] at c5b0;exact c5b0
        have H':=Aside0.mk H
        clear H
        go_wp2_with (first|((with_reducible refine gate_dst (N:=28) rfl ?_);refine Kd.R_lit Kd.string _ 9 ?hg (N:=28) ?hd (xs:=([(⟨#[97]⟩ : ByteArray),(⟨#[98]⟩ : ByteArray)] : List ByteArray)) (inner:=[.string (⟨#[97]⟩ : ByteArray),.string (⟨#[98]⟩ : ByteArray)]) (ok:=fun _ => True) (okp:=fun _ => True) ?hr ?hp (fun _ hk => hk) trivial (Below.refl _ _) (Nat.le_refl _) (by simp) ?_;(case hd => rfl);(case hg => rfl);(case hr => first|(go_simp;done)|(go_simp;rfl));(case hp => exact (Reps.one (show Kd.M Kd.string _ _ _ (⟨#[97]⟩ : ByteArray) [.string (⟨#[97]⟩ : ByteArray)] from rfl) (Reps.one (show Kd.M Kd.string _ _ _ (⟨#[98]⟩ : ByteArray) [.string (⟨#[98]⟩ : ByteArray)] from rfl) (Reps.none _ _))));intro v942 w18 ho19 hb hg_ hnew_;clear hg_ hnew_;(first|rw [← Ny941.out] at ho19|(simp only [Int.reduceToNat] at ho19;rw [← Ny941.out] at ho19));have n0_:=Aside0.mk (Kd.R_lower ho19 (keep_size (w:=w) (g:=g) (row:=none) (ke0_ HK.out)));have n1_:=Aside0.mk (IsS90.below (by repeat (first|(with_reducible first|exact HI0.out|apply IsS90.alloc|apply IsS90.drewN|apply IsS90.drew|apply IsS90.set_1)|exact HI0.out)) hb);have n2_:=Aside0.mk (KeepBut.trans (ke0_ HK.out) (KeepBut.of_below hb g none) (.inl rfl));have n3_:=Aside0.mk (below_step (by repeat (first|(with_reducible first|exact HB.out|apply below_alloc|apply pw_below_drewN|apply below_drew1|refine below_set ?_ (IsS90.ge HI0.out))|exact HB.out)) hb);clear HI0;clear HK;clear HB;have HO943:=n0_;have HI0:=n1_;have HK:=n2_;have HB:=n3_;clear n0_ n1_ n2_ n3_;clear hb ho19;obtain ⟨Ao20,co20,eo20⟩:=Kd.R_slice HO943.out;subst eo20)|((with_reducible refine gate_callee (f:=108) rfl ?_);refine goesL_ (some 29) rfl rfl Try.func108 (by kernel_rfl) rfl #[.pointer (some ⟨g,0,none⟩),.slice Ao20 y941.length co20] rfl lp_ ?_;(with_reducible refine (spec_l13Rd_of.calls kj5 g s0_0 x1001_5 _ _ y941 t944 t945 w0 _ ?side1 ?side2 ?side3 ?side4 ?side5 A16.out).mono ?_);(case side1 => repeat (first|(with_reducible first|exact HI0.out|apply IsS90.alloc|apply IsS90.drewN|apply IsS90.drew|apply IsS90.set_1)|exact HI0.out));(case side2 => repeat (first|(with_reducible first|exact HB.out|apply below_alloc|apply pw_below_drewN|apply below_drew1|refine below_set ?_ (IsS90.ge HI0.out))|exact HB.out));(case side3 => repeat (first|exact (Kd.R_reads' HO943.out).2.2|(with_reducible refine Kd.C_alloc ?_ _)|(with_reducible refine Kd.C_drewN ?_ _)|(with_reducible refine Kd.C_drew ?_)));(case side4 => exact (Kd.R_reads' HO943.out).2.1);(case side5 => exact far_slice (IsS90.own_ne HI0.out HO943.out (by decide)));rintro e w21 ⟨rfl,hi,hb,hk⟩;refine ⟨_,rfl,?_⟩;have n0_:=Aside0.mk (Kd.R_mono (Kd.R_keep (IsS90.apart (show IsS90 w0 _ g s0_0 x1001_5 from by repeat (first|(with_reducible first|exact HI0.out|apply IsS90.alloc|apply IsS90.drewN|apply IsS90.drew|apply IsS90.set_1)|exact HI0.out)) (pr_ HO943.out) (by decide)) hk (fun _ h => h.2)) (fun _ h => h.1));have n1_:=Aside0.mk (KeepBut.trans (ke0_ HK.out) hk (.inl rfl));have n2_:=Aside0.mk (hb);have n3_:=Aside0.mk (hi);clear HO943;clear HK;clear HB;clear HI0;have HO943:=n0_;have HK:=n1_;have HB:=n2_;have HI0:=n3_;clear n0_ n1_ n2_ n3_;(try clear hb);(try clear hb2);(try clear hk);(try clear hi)))
        go_roundg kj5
        case measure => have:=HK1.out;have:=HJ5.out;omega
        case rel => exact ⟨(x5_1 ++ t944),(wrap64 (x9_1 + 1)),(t945),(by first|rfl|(simp;done)|(simp [*];done)),(by first|rfl|(simp;done)|(simp [*];done)),H',⟨by have:=HK1.out;have:=HJ5.out;omega⟩,⟨by repeat (first|(with_reducible first|exact HI0.out|apply IsS90.alloc|apply IsS90.drewN|apply IsS90.drew|apply IsS90.set_1)|exact HI0.out)⟩,⟨ke0_ HK.out⟩,⟨by repeat (first|(with_reducible first|exact HB.out|apply below_alloc|apply pw_below_drewN|apply below_drew1|refine below_set ?_ (IsS90.ge HI0.out))|exact HB.out)⟩⟩
       ·rw [if_neg c17] at H
        exact absurd H (by simp)
   ·rw [if_neg c5] at H
    have c5b0 : decide (x9_1 < (wrap64 (1 + t935))) = false:=decide_eq_false c5
    clear c5
    simp only [Option.some.injEq,Prod.mk.injEq] at H
    obtain ⟨rfl,rfl⟩:=H
    go_wp2
    go_ret
    exact ⟨by first|rfl|(simp [errW_none,errW_some] <;> rfl)|(simp [*,errW_none,errW_some] <;> rfl),by repeat (first|(with_reducible first|exact HI0.out|apply IsS90.alloc|apply IsS90.drewN|apply IsS90.drew|apply IsS90.set_1)|exact HI0.out),by repeat (first|(with_reducible first|exact HB.out|apply below_alloc|apply pw_below_drewN|apply below_drew1|refine below_set ?_ (IsS90.ge HI0.out))|exact HB.out),ke0_ HK.out⟩
end Go.Proofs.Ytengegdaiphfeaa.X
end
