import Derived.Test.YtfmbpoojpnoafaaKFnExactValueOf1
section
namespace Go.Proofs.Ytfmbpoojpnoafaa.X
open Go.RowKit Go.Proofs.YtfmbpoojpnoafaaW.PrintWords Go.Proofs.YtfmbpoojpnoafaaW.PrintLast Go.Proofs.YtfmbpoojpnoafaaW.PrintMore
attribute [local go_sem] max2_int min2_int max_two min_two max_three min_three max_four min_four
set_option linter.unusedVariables false
set_option linter.unusedSimpArgs false
def slices_IndexFunc_int_int.l0 (p1 : Int → Option (Bool)) : Nat → List Int → Int → Int → Option (Int)
 | 0,_,_,_ => none
 | k + 1,x0,x7,x8 => if x8 < x7 then (if 0 ≤ x8 then (if x8 < (x0.length : Int) then ((p1 (rd x0 x8)).bind fun t208 => (if t208 = true then (some x8) else (slices_IndexFunc_int_int.l0 p1 k x0 x7 (wrap64 (x8 + 1))))) else (none)) else (none)) else (some (-1))
def slices_IndexFunc_int_int.f (p1 : Int → Option (Bool)) (k : Nat) (l0 : List Int)  : Option (Int):=slices_IndexFunc_int_int.l0 p1 k l0 (l0.length : Int) 0
theorem slices_IndexFunc_int_int.mono_l (p1 : Int → Option (Bool)) : ∀ k,(∀ y0 y1 y2,LeO (slices_IndexFunc_int_int.l0 p1 k y0 y1 y2) (slices_IndexFunc_int_int.l0 p1 (k + 1) y0 y1 y2))
 | 0 => fun _ _ _ r h => by simp [slices_IndexFunc_int_int.l0] at h
 | k + 1 => by
  have ih0:=slices_IndexFunc_int_int.mono_l p1 k
  ·intro y0 y1 y2
   unfold slices_IndexFunc_int_int.l0
   repeat' first
   | (with_reducible exact ih0 _ _ _)
   | (with_reducible first|exact LeO.refl _|exact LeO.none _|refine LeO.ite ?_ ?_|refine LeO.bind ?_ (fun _ => ?_))
   | exact ih0 _ _ _
   | exact LeO.none _
   | refine LeO.ite ?_ ?_
   | refine LeO.bind ?_ (fun _ => ?_)
theorem slices_IndexFunc_int_int.mono (p1 : Int → Option (Bool)) : ∀ a0 k,LeO (slices_IndexFunc_int_int.f p1 k a0) (slices_IndexFunc_int_int.f p1 (k + 1) a0):=by
 intro a0 k
 have ih0:=slices_IndexFunc_int_int.mono_l p1 k
 unfold slices_IndexFunc_int_int.f
 repeat' first
   | (with_reducible exact ih0 _ _ _)
   | (with_reducible first|exact LeO.refl _|exact LeO.none _|refine LeO.ite ?_ ?_|refine LeO.bind ?_ (fun _ => ?_))
   | exact ih0 _ _ _
   | exact LeO.none _
   | refine LeO.ite ?_ ?_
   | refine LeO.bind ?_ (fun _ => ?_)
set_option maxHeartbeats 8000000 in
set_option maxRecDepth 100000 in
theorem slices_IndexFunc_int_int.calls (k : Nat) (A0 : Option Addr) (c0 : Nat) (l0 : List Int) (q1 : FuncId) (F1 C1 : Array Value) (p1 : Int → Option (Bool)) (r : Int) (w : World) (hr0 : Kd.C (Kd.int .i64) w A0 l0.length l0) (hc0 : l0.length ≤ c0) (hq1 : FnAt Try.prog q1) (hp1 : ∀ (ay0 : Int) (z0 : Bool) (W_ : World),Below w.heap.size w W_ → p1 ay0 = some z0 → Calls Try.prog q1 (F1 ++ #[.int .i64 ay0] ++ C1) W_ fun e w' => e = .returned (.bool z0) ∧ Below W_.heap.size W_ w') (h : slices_IndexFunc_int_int.f p1 k l0 = some r) :
  Calls Try.prog 165 #[.slice A0 l0.length c0,.func (.func q1) F1 C1] w fun e w' => e = .returned (.int .i64 r) ∧ Below w.heap.size w w':=by
 have HR0:=Aside0.mk hr0
 have HC0:=Aside0.mk hc0
 clear hr0 hc0
 have HQ1:=Aside0.mk hq1
 have HP1:=Aside0.mk hp1
 clear hq1 hp1
 have HB:=Aside0.mk (Below.refl w.heap.size w)
 have H : (slices_IndexFunc_int_int.l0 p1 k l0 (l0.length : Int) 0) = some r:=h
 clear h
 have H':=Aside0.mk H
 clear H
 go_enter Try.func165,Try.ntmps165
 go_wp2
 go_loopg [8] k (fun kq v8 w' => ∃ (x8_1 : Int),v8 = .int .i64 x8_1 ∧ Aside0 (slices_IndexFunc_int_int.l0 p1 kq l0 (l0.length : Int) x8_1 = some r) ∧ Aside0 (kq ≤ k) ∧ Aside0 (Below w.heap.size w w'))
 case atStart => exact ⟨(0),rs_,H',⟨Nat.le_refl _⟩,⟨be0_ HB.out⟩⟩
 case round =>
  clear H'
  obtain ⟨x8_1,rfl,HA,HK1,HB⟩:=hrel
  cases gk with
  | zero => exact absurd HA.out (by simp [slices_IndexFunc_int_int.l0])
  | succ k1 =>
   have H:=HA.out
   clear HA
   simp only [slices_IndexFunc_int_int.l0] at H
   by_cases c3 : x8_1 < (l0.length : Int)
   ·rw [if_pos c3] at H
    have c3b0 : decide (x8_1 < (l0.length : Int)) = true:=decide_eq_true c3
    clear c3
    by_cases c4 : 0 ≤ x8_1
    ·rw [if_pos c4] at H
     have c4b0 : decide (0 ≤ x8_1) = true:=decide_eq_true c4
     clear c4
     by_cases c5 : x8_1 < (l0.length : Int)
     ·rw [if_pos c5] at H
      have c5b0 : decide (x8_1 < (l0.length : Int)) = true:=decide_eq_true c5
      clear c5
      replace H:=Option.bind_eq_some_iff.mp H
      obtain ⟨t208,A60,H⟩:=H
      replace H : (if t208 = true then (some x8_1) else (slices_IndexFunc_int_int.l0 p1 k1 l0 (l0.length : Int) (wrap64 (x8_1 + 1)))) = some r:=H
      have A6:=Aside0.mk A60
      clear A60
      by_cases c7 : t208 = true
      ·subst c7
       have H1 : (some x8_1) = some r:=by rw [if_pos rfl] at H;exact H
       clear H
       have H:=H1
       clear H1
       obtain rfl:=Option.some.inj H
       have p207 : 0 ≤ (x8_1 : Int):=od_
       have q207 : x8_1 < (l0.length : Int):=od_
       obtain ⟨ad207,e207,hx207_0⟩:=Kd.at_int HR0.out x8_1 p207 q207
       cases e207
       replace hx207_0:=hbc_ HB.out hx207_0
       replace p207:=eq_true p207
       replace q207:=eq_true q207
       go_wp2_with (first|((with_reducible refine gate_dyn rfl ?_);refine goesLD_ (some 16) rfl rfl HQ1.out #[.int .i64 (rd l0 x8_1)] rfl rfl lp_ ?_;(with_reducible refine (HP1.out (rd l0 x8_1) true _ ?side1 A6.out).mono ?_);(case side1 => repeat (first|(with_reducible first|exact HB.out|apply below_alloc|apply pw_below_drewN|apply below_drew1)|exact HB.out));rintro e w8 ⟨rfl,hb⟩;refine ⟨_,rfl,?_⟩;replace HB:=hs0_ HB hb;(try clear hb);(try clear hb2);(try clear hk);(try clear hi)))
       go_ret
       exact ⟨er_,be0_ HB.out⟩
      ·replace c7:=Bool.eq_false_iff.mpr c7
       subst c7
       have H1 : (slices_IndexFunc_int_int.l0 p1 k1 l0 (l0.length : Int) (wrap64 (x8_1 + 1))) = some r:=by rw [if_neg (show ¬ (false = true) by decide)] at H;exact H
       clear H
       have H:=H1
       clear H1
       have H':=Aside0.mk H
       clear H
       have p207 : 0 ≤ (x8_1 : Int):=od_
       have q207 : x8_1 < (l0.length : Int):=od_
       obtain ⟨ad207,e207,hx207_0⟩:=Kd.at_int HR0.out x8_1 p207 q207
       cases e207
       replace hx207_0:=hbc_ HB.out hx207_0
       replace p207:=eq_true p207
       replace q207:=eq_true q207
       go_wp2_with (first|((with_reducible refine gate_dyn rfl ?_);refine goesLD_ (some 16) rfl rfl HQ1.out #[.int .i64 (rd l0 x8_1)] rfl rfl lp_ ?_;(with_reducible refine (HP1.out (rd l0 x8_1) false _ ?side1 A6.out).mono ?_);(case side1 => repeat (first|(with_reducible first|exact HB.out|apply below_alloc|apply pw_below_drewN|apply below_drew1)|exact HB.out));rintro e w9 ⟨rfl,hb⟩;refine ⟨_,rfl,?_⟩;replace HB:=hs0_ HB hb;(try clear hb);(try clear hb2);(try clear hk);(try clear hi)))
       go_roundg k1
       case measure => have:=HK1.out;omega
       case rel => exact ⟨(wrap64 (x8_1 + 1)),rs_,H',⟨by have:=HK1.out;omega⟩,⟨be0_ HB.out⟩⟩
     ·rw [if_neg c5] at H
      exact absurd H (by simp)
    ·rw [if_neg c4] at H
     exact absurd H (by simp)
   ·rw [if_neg c3] at H
    have c3b0 : decide (x8_1 < (l0.length : Int)) = false:=decide_eq_false c3
    clear c3
    obtain rfl:=Option.some.inj H
    go_wp2
    go_ret
    exact ⟨er_,be0_ HB.out⟩
theorem slices_IndexFunc_int_int.monoP_l {p p' : Int → Option (Bool)} (hp : ∀ y0,LeO (p y0) (p' y0)) : ∀ k,(∀ y0 y1 y2,LeO (slices_IndexFunc_int_int.l0 p k y0 y1 y2) (slices_IndexFunc_int_int.l0 p' k y0 y1 y2))
 | 0 => by
  skip
  all_goals (intros;intro r h;first|(simp [slices_IndexFunc_int_int.l0] at h;done)|(unfold slices_IndexFunc_int_int.l0 at h;simp at h;done))
 | k + 1 => by
  have ih:=slices_IndexFunc_int_int.monoP_l hp k
  have ih0:=ih
  ·intro y0 y1 y2
   unfold slices_IndexFunc_int_int.l0
   repeat'
    first
    | (with_reducible exact ih0 _ _ _)
    | (with_reducible exact hp _)
    | (with_reducible first|exact LeO.refl _|exact LeO.none _|refine LeO.ite ?_ ?_|refine LeO.bind ?_ (fun _ => ?_))
    | exact hp _
    | exact LeO.refl _
theorem slices_IndexFunc_int_int.monoP {p p' : Int → Option (Bool)} (hp : ∀ y0,LeO (p y0) (p' y0)) : ∀ a0 k,LeO (slices_IndexFunc_int_int.f p k a0) (slices_IndexFunc_int_int.f p' (k + 1) a0):=by
 intro a0 k
 refine LeO.trans ?_ (slices_IndexFunc_int_int.mono p' a0 k)
 have ih:=slices_IndexFunc_int_int.monoP_l hp k
 have ih0:=ih
 unfold slices_IndexFunc_int_int.f
 repeat'
  first
  | (with_reducible exact ih0 _ _ _)
  | (with_reducible exact hp _)
  | (with_reducible first|exact LeO.refl _|exact LeO.none _|refine LeO.ite ?_ ?_|refine LeO.bind ?_ (fun _ => ?_))
  | exact hp _
  | exact LeO.refl _
def slices_ContainsFunc_int_int.f (p1 : Int → Option (Bool)) (k : Nat) (l0 : List Int) : Option (Bool):=(slices_IndexFunc_int_int.f p1 k l0).bind fun t => some (decide (t ≥ 0))
theorem slices_ContainsFunc_int_int.mono (p1 : Int → Option (Bool)) : ∀ a0 k,LeO (slices_ContainsFunc_int_int.f p1 k a0) (slices_ContainsFunc_int_int.f p1 (k + 1) a0):=by
 intro a0 k
 unfold slices_ContainsFunc_int_int.f
 exact LeO.bind (slices_IndexFunc_int_int.mono p1 _ _) (fun _ => LeO.refl _)
theorem slices_ContainsFunc_int_int.monoP {p p' : Int → Option (Bool)} (hp : ∀ y0,LeO (p y0) (p' y0)) : ∀ a0 k,LeO (slices_ContainsFunc_int_int.f p k a0) (slices_ContainsFunc_int_int.f p' (k + 1) a0):=by
 intro a0 k
 unfold slices_ContainsFunc_int_int.f
 exact LeO.bind (slices_IndexFunc_int_int.monoP hp _ _) (fun _ => LeO.refl _)
set_option maxHeartbeats 8000000 in
theorem slices_ContainsFunc_int_int.calls (k : Nat) (A0 : Option Addr) (c0 : Nat) (l0 : List Int) (q1 : FuncId) (F1 C1 : Array Value) (p1 : Int → Option (Bool)) (r : Bool) (w : World) (hr0 : Kd.C (Kd.int .i64) w A0 l0.length l0) (hc0 : l0.length ≤ c0) (hq1 : FnAt Try.prog q1) (hp1 : ∀ (ay0 : Int) (z0 : Bool) (W_ : World),Below w.heap.size w W_ → p1 ay0 = some z0 → Calls Try.prog q1 (F1 ++ #[.int .i64 ay0] ++ C1) W_ fun e w' => e = .returned (.bool z0) ∧ Below W_.heap.size W_ w') (h : slices_ContainsFunc_int_int.f p1 k l0 = some r) :
  Calls Try.prog 127 #[.slice A0 l0.length c0,.func (.func q1) F1 C1] w fun e w' => e = .returned (.bool r) ∧ Below w.heap.size w w':=by
 obtain ⟨t,h1,h2⟩:=Option.bind_eq_some_iff.mp h
 have C:=Aside0.mk (slices_IndexFunc_int_int.calls k A0 c0 l0 q1 F1 C1 p1 t w hr0 hc0 hq1 hp1 h1)
 clear h hr0 hc0 hq1 hp1 h1
 obtain rfl:=Option.some.inj h2
 clear h2
 go_enter Try.func127,Try.ntmps127
 go_wp2_with (first|((with_reducible refine gate_callee (f:=165) rfl ?_);refine goesL_ (some 7) rfl rfl Try.func165 (by kernel_rfl) rfl #[.slice A0 l0.length c0,.func (.func q1) F1 C1] rfl (by (try simp only [List.map_toArray,List.map_cons,List.map_nil]);first|done|rfl) ?_;refine C.out.mono ?_;rintro e w' ⟨rfl,hb⟩;have HB:=Aside0.mk hb;clear hb;refine ⟨_,rfl,?_⟩))
 go_ret
 exact ⟨by first|rfl|(simp;done)|(simp [*];done),HB.out⟩
def slices_ContainsFunc_int_int__impl_MatrixValid_1.f (k : Nat) (l0 : List Int) : Option (Bool):=slices_ContainsFunc_int_int.f (fun y0 => impl_MatrixValid_1.f  y0 ) k l0
theorem slices_ContainsFunc_int_int__impl_MatrixValid_1.mono : ∀ b0 k,LeO (slices_ContainsFunc_int_int__impl_MatrixValid_1.f k b0) (slices_ContainsFunc_int_int__impl_MatrixValid_1.f (k + 1) b0):=by
 intro b0 k
 exact slices_ContainsFunc_int_int.monoP (fun _ => LeO.refl _) _ k
set_option maxHeartbeats 2000000 in
theorem slices_ContainsFunc_int_int__impl_MatrixValid_1.calls (k : Nat) (A0 : Option Addr) (c0 : Nat) (l0 : List Int) (r : Bool) (w : World) (hr0 : Kd.C (Kd.int .i64) w A0 l0.length l0) (hc0 : l0.length ≤ c0) (h : slices_ContainsFunc_int_int__impl_MatrixValid_1.f k l0 = some r) :
  Calls Try.prog 127 #[.slice A0 l0.length c0,.func (.func 163) #[] #[]] w fun e w' => e = .returned (.bool r) ∧ Below w.heap.size w w':=by
 refine slices_ContainsFunc_int_int.calls k A0 c0 l0 163 #[] #[] (fun y0 => impl_MatrixValid_1.f  y0 ) r w hr0 hc0 ⟨_,Try.func163,rfl,rfl⟩ ?_ h
 intro ay0 z0 W_ hB_  h_
 refine calls_of_args (args':=#[.int .i64 ay0]) (by simp) ?_
 refine (impl_MatrixValid_1.calls ay0 z0 W_  h_).mono ?_
 rintro e w' ⟨rfl,hd⟩
 exact ⟨rfl,hd.below⟩
def impl_MatrixValid.f (k : Nat) (a0_0 : Int) (l0_1 : List Int) : Option (Bool):=if a0_0 < 1 then (some false) else (if a0_0 > 4 then (some false) else (if (l0_1.length : Int) = (wrap64 (a0_0 * a0_0)) then ((slices_ContainsFunc_int_int__impl_MatrixValid_1.f k l0_1).bind fun t211 => (some (!t211))) else (some false)))
theorem impl_MatrixValid.mono : ∀ a0 a1 k,LeO (impl_MatrixValid.f k a0 a1) (impl_MatrixValid.f (k + 1) a0 a1):=by
 intro a0 a1 k
 unfold impl_MatrixValid.f
 repeat' first
   | (with_reducible exact slices_ContainsFunc_int_int__impl_MatrixValid_1.mono _ _)
   | (with_reducible first|exact LeO.refl _|exact LeO.none _|refine LeO.ite ?_ ?_|refine LeO.bind ?_ (fun _ => ?_))
   | exact slices_ContainsFunc_int_int__impl_MatrixValid_1.mono _ _
   | exact LeO.none _
   | refine LeO.ite ?_ ?_
   | refine LeO.bind ?_ (fun _ => ?_)
set_option maxHeartbeats 8000000 in
set_option maxRecDepth 100000 in
theorem impl_MatrixValid.calls (k : Nat) (a0_0 : Int) (A0_1 : Option Addr) (c0_1 : Nat) (l0_1 : List Int) (r : Bool) (w : World) (hr0_1 : Kd.C (Kd.int .i64) w A0_1 l0_1.length l0_1) (hc0_1 : l0_1.length ≤ c0_1) (h : impl_MatrixValid.f k a0_0 l0_1 = some r) :
  Calls Try.prog 126 #[.agg #[.int .i64 a0_0,.slice A0_1 l0_1.length c0_1]] w fun e w' => e = .returned (.bool r) ∧ Below w.heap.size w w':=by
 have hu35:=Try.underlying35
 have HR0_1:=Aside0.mk hr0_1
 have HC0_1:=Aside0.mk hc0_1
 clear hr0_1 hc0_1
 have HB:=Aside0.mk (Below.refl w.heap.size w)
 have H : (if a0_0 < 1 then (some false) else (if a0_0 > 4 then (some false) else (if (l0_1.length : Int) = (wrap64 (a0_0 * a0_0)) then ((slices_ContainsFunc_int_int__impl_MatrixValid_1.f k l0_1).bind fun t211 => (some (!t211))) else (some false)))) = some r:=h
 clear h
 by_cases c2 : a0_0 < 1
 ·rw [if_pos c2] at H
  have c2b0 : decide (a0_0 < 1) = true:=decide_eq_true c2
  clear c2
  obtain rfl:=Option.some.inj H
  go_enter Try.func126,Try.ntmps126
  go_wp2_with (first|((with_reducible refine gate_dst (N:=1) rfl ?_);(try (refine gate_guard (by rfl) ?_;dsimp only));refine box_event ?hg (N:=1) ?hd (cs:=#[.int .i64 a0_0,.slice A0_1 l0_1.length c0_1]) (t:=35) ?hr ?_;(case hd => rfl);(case hg => rfl);(case hr => first|(go_simp;done)|(go_simp;rfl));intro gb210 hg w3 hbox hb;have BK210:=Aside0.mk (hbox);have GW210:=gw0_ hg HB;have GE210:=GW210;replace HB:=hs0_ HB hb;clear hb hbox hg;obtain ⟨hcz4_0,hcz4_1,hfz4_0,hfz4_1⟩:=cf2_ BK210.out))
  go_ret
  exact ⟨er_,be1_ HB.out GE210.out⟩
 ·rw [if_neg c2] at H
  have c2b0 : decide (a0_0 < 1) = false:=decide_eq_false c2
  clear c2
  by_cases c5 : a0_0 > 4
  ·rw [if_pos c5] at H
   have c5b0 : decide (4 < a0_0) = true:=decide_eq_true c5
   clear c5
   obtain rfl:=Option.some.inj H
   go_enter Try.func126,Try.ntmps126
   go_wp2_with (first|((with_reducible refine gate_dst (N:=1) rfl ?_);(try (refine gate_guard (by rfl) ?_;dsimp only));refine box_event ?hg (N:=1) ?hd (cs:=#[.int .i64 a0_0,.slice A0_1 l0_1.length c0_1]) (t:=35) ?hr ?_;(case hd => rfl);(case hg => rfl);(case hr => first|(go_simp;done)|(go_simp;rfl));intro gb210 hg w6 hbox hb;have BK210:=Aside0.mk (hbox);have GW210:=gw0_ hg HB;have GE210:=GW210;replace HB:=hs0_ HB hb;clear hb hbox hg;obtain ⟨hcz7_0,hcz7_1,hfz7_0,hfz7_1⟩:=cf2_ BK210.out))
   go_ret
   exact ⟨er_,be1_ HB.out GE210.out⟩
  ·rw [if_neg c5] at H
   have c5b0 : decide (4 < a0_0) = false:=decide_eq_false c5
   clear c5
   by_cases c8 : (l0_1.length : Int) = (wrap64 (a0_0 * a0_0))
   ·rw [if_pos c8] at H
    have c8b0 : ((l0_1.length : Int) == (wrap64 (a0_0 * a0_0))) = true:=beq_iff_eq.mpr c8
    have c8b1 : ((l0_1.length : Int) != (wrap64 (a0_0 * a0_0))) = false:=bne_eq_false_iff_eq.mpr c8
    clear c8
    replace H:=Option.bind_eq_some_iff.mp H
    obtain ⟨t211,A90,H⟩:=H
    replace H : (some (!t211)) = some r:=H
    have A9:=Aside0.mk A90
    clear A90
    obtain rfl:=Option.some.inj H
    go_enter Try.func126,Try.ntmps126
    go_wp2_with (first|((with_reducible refine gate_dst (N:=1) rfl ?_);(try (refine gate_guard (by rfl) ?_;dsimp only));refine box_event ?hg (N:=1) ?hd (cs:=#[.int .i64 a0_0,.slice A0_1 l0_1.length c0_1]) (t:=35) ?hr ?_;(case hd => rfl);(case hg => rfl);(case hr => first|(go_simp;done)|(go_simp;rfl));intro gb210 hg w10 hbox hb;have BK210:=Aside0.mk (hbox);have GW210:=gw0_ hg HB;have GE210:=GW210;replace HB:=hs0_ HB hb;clear hb hbox hg;obtain ⟨hcz11_0,hcz11_1,hfz11_0,hfz11_1⟩:=cf2_ BK210.out)|((with_reducible refine gate_callee (f:=127) rfl ?_);refine goesL_ (some 24) rfl rfl Try.func127 (by kernel_rfl) rfl #[.slice A0_1 l0_1.length c0_1,.func (.func 163) #[] #[]] rfl lp_ ?_;(with_reducible refine (slices_ContainsFunc_int_int__impl_MatrixValid_1.calls k _ _ l0_1 t211 _ ?side1 ?side2 A9.out).mono ?_);(case side1 => exact cr_ (Kd.C_below HR0_1.out HB.out));(case side2 => exact HC0_1.out);rintro e w12 ⟨rfl,hb⟩;refine ⟨_,rfl,?_⟩;replace BK210:=kc_ BK210 hb;replace HB:=hs1_ HB GE210 hb;(try clear hb);(try clear hb2);(try clear hk);(try clear hi)))
    go_ret
    exact ⟨er_,be1_ HB.out GE210.out⟩
   ·rw [if_neg c8] at H
    have c8b0 : ((l0_1.length : Int) == (wrap64 (a0_0 * a0_0))) = false:=beq_eq_false_iff_ne.mpr c8
    have c8b1 : ((l0_1.length : Int) != (wrap64 (a0_0 * a0_0))) = true:=bne_iff_ne.mpr c8
    obtain rfl:=Option.some.inj H
    go_enter Try.func126,Try.ntmps126
    go_wp2_with (first|((with_reducible refine gate_dst (N:=1) rfl ?_);(try (refine gate_guard (by rfl) ?_;dsimp only));refine box_event ?hg (N:=1) ?hd (cs:=#[.int .i64 a0_0,.slice A0_1 l0_1.length c0_1]) (t:=35) ?hr ?_;(case hd => rfl);(case hg => rfl);(case hr => first|(go_simp;done)|(go_simp;rfl));intro gb210 hg w13 hbox hb;have BK210:=Aside0.mk (hbox);have GW210:=gw0_ hg HB;have GE210:=GW210;replace HB:=hs0_ HB hb;clear hb hbox hg;obtain ⟨hcz14_0,hcz14_1,hfz14_0,hfz14_1⟩:=cf2_ BK210.out))
    go_ret
    exact ⟨er_,be1_ HB.out GE210.out⟩
def impl_GradesOf.f (k : Nat) (a0_0 : Int) (l0_1 : List Int) : Option (Int × List Int × Bool):=(impl_MatrixValid.f k a0_0 l0_1).bind fun t757 => (if t757 = true then ((impl_filled__impl_GradesOf_1.f k a0_0 a0_0 l0_1).bind fun bt758 => (some (bt758.1,bt758.2,true))) else (some (0,([] : List Int),false)))
theorem impl_GradesOf.mono : ∀ a0 a1 k,LeO (impl_GradesOf.f k a0 a1) (impl_GradesOf.f (k + 1) a0 a1):=by
 intro a0 a1 k
 unfold impl_GradesOf.f
 repeat' first
   | (with_reducible exact impl_MatrixValid.mono _ _ _)
   | (with_reducible exact impl_filled__impl_GradesOf_1.mono _ _ _ _)
   | (with_reducible first|exact LeO.refl _|exact LeO.none _|refine LeO.ite ?_ ?_|refine LeO.bind ?_ (fun _ => ?_))
   | exact impl_MatrixValid.mono _ _ _
   | exact impl_filled__impl_GradesOf_1.mono _ _ _ _
   | exact LeO.none _
   | refine LeO.ite ?_ ?_
   | refine LeO.bind ?_ (fun _ => ?_)
set_option maxHeartbeats 8000000 in
set_option maxRecDepth 100000 in
theorem impl_GradesOf.calls (k : Nat) (a0_0 : Int) (A0_1 : Option Addr) (c0_1 : Nat) (l0_1 : List Int) (r1 : Int) (r2 : List Int) (r3 : Bool) (w : World) (hr0_1 : Kd.C (Kd.int .i64) w A0_1 l0_1.length l0_1) (hc0_1 : l0_1.length ≤ c0_1) (h : impl_GradesOf.f k a0_0 l0_1 = some (r1,r2,r3)) :
  Calls Try.prog 146 #[.agg #[.int .i64 a0_0,.slice A0_1 l0_1.length c0_1]] w fun e w' => ∃ v1_ : Value,e = .returned (.tuple #[.agg #[.int .i64 r1,v1_],.bool r3]) ∧ Kd.R (Kd.int .i64) 3 w' w.heap.size (fun _ => True) v1_ r2 ∧ Below w.heap.size w w':=by
 have hu35:=Try.underlying35
 have HR0_1:=Aside0.mk hr0_1
 have HC0_1:=Aside0.mk hc0_1
 clear hr0_1 hc0_1
 have HB:=Aside0.mk (Below.refl w.heap.size w)
 have H : ((impl_MatrixValid.f k a0_0 l0_1).bind fun t757 => (if t757 = true then ((impl_filled__impl_GradesOf_1.f k a0_0 a0_0 l0_1).bind fun bt758 => (some (bt758.1,bt758.2,true))) else (some (0,([] : List Int),false)))) = some (r1,r2,r3):=h
 clear h
 replace H:=Option.bind_eq_some_iff.mp H
 obtain ⟨t757,A20,H⟩:=H
 replace H : (if t757 = true then ((impl_filled__impl_GradesOf_1.f k a0_0 a0_0 l0_1).bind fun bt758 => (some (bt758.1,bt758.2,true))) else (some (0,([] : List Int),false))) = some (r1,r2,r3):=H
 have A2:=Aside0.mk A20
 clear A20
 by_cases c3 : t757 = true
 ·subst c3
  have H1 : ((impl_filled__impl_GradesOf_1.f k a0_0 a0_0 l0_1).bind fun bt758 => (some (bt758.1,bt758.2,true))) = some (r1,r2,r3):=by rw [if_pos rfl] at H;exact H
  clear H
  have H:=H1
  clear H1
  replace H:=Option.bind_eq_some_iff.mp H
  obtain ⟨⟨t758,t759⟩,A40,H⟩:=H
  replace H : (some (t758,t759,true)) = some (r1,r2,r3):=H
  have A4:=Aside0.mk A40
  clear A40
  simp only [Option.some.injEq,Prod.mk.injEq] at H
  obtain ⟨rfl,rfl,rfl⟩:=H
  go_enter Try.func146,Try.ntmps146
  go_wp2_with (first|((with_reducible refine bev_ (N:=1) rfl rfl (cs:=#[.int .i64 a0_0,.slice A0_1 l0_1.length c0_1]) (t:=35) ?hr ?_);(case hr => first|(go_simp;done)|(go_simp;rfl));intro gb755 hg w5 hbox hb;have BK755:=Aside0.mk (hbox);have GW755:=gw0_ hg HB;have GE755:=GW755;replace HB:=hs0_ HB hb;clear hb hbox hg)|((with_reducible refine bev_ (N:=2) rfl rfl (cs:=#[.int .i64 0,.slice none 0 0]) (t:=35) ?hr ?_);(case hr => first|(go_simp;done)|(go_simp;rfl));intro gb756 hg w6 hbox hb;have BK756:=Aside0.mk (hbox);have GW756:=gw1_ hg HB GE755;have GE756:=GW756;replace HB:=hs1_ HB GE755 hb;have NB755_756:=nm_ hg BK755;have NB756_755:=nn_ hg BK755;replace BK755:=kc_ BK755 hb;clear hb hbox hg;have hnb7:=NB755_756.out;have hnc7:=NB756_755.out;obtain ⟨hcz8_0,hcz8_1,hfz8_0,hfz8_1⟩:=cf2_ BK755.out)|((with_reducible refine gate_callee (f:=126) rfl ?_);refine goesL_ (some 5) rfl rfl Try.func126 (by kernel_rfl) rfl #[.agg #[.int .i64 a0_0,.slice A0_1 l0_1.length c0_1]] rfl lp_ ?_;(with_reducible refine (impl_MatrixValid.calls k a0_0 _ _ l0_1 true _ ?side1 ?side2 A2.out).mono ?_);(case side1 => exact cr_ (Kd.C_below HR0_1.out HB.out));(case side2 => exact HC0_1.out);rintro e w9 ⟨rfl,hb⟩;refine ⟨_,rfl,?_⟩;replace BK755:=kc_ BK755 hb;replace BK756:=kc_ BK756 hb;replace HB:=hs2_ HB GE755 GE756 hb;(try clear hb);(try clear hb2);(try clear hk);(try clear hi);obtain ⟨hcz10_0,hcz10_1,hfz10_0,hfz10_1⟩:=cf2_ BK755.out)|((with_reducible refine gate_callee (f:=112) rfl ?_);refine goesL_ (some 11) rfl rfl Try.func112 (by kernel_rfl) rfl #[.int .i64 a0_0,.func (.func 169) #[] #[.pointer (some ⟨gb755,0,none⟩)]] rfl lp_ ?_;(with_reducible refine (impl_filled__impl_GradesOf_1.calls k a0_0 gb755 a0_0 A0_1 c0_1 l0_1 t758 t759 _ ?side1 ?side2 ?side3 A4.out).mono ?_);(case side1 => exact cr_ (Kd.C_below HR0_1.out HB.out));(case side2 => exact HC0_1.out);(case side3 => refine pe_ ?_;exact BK755.out);rintro e w11 ⟨v760,rfl,ho0,hb⟩;refine ⟨_,rfl,?_⟩;have HO761:=Aside0.mk (Kd.R_lower ho0 (below_size (be2_ HB.out GE755.out GE756.out)));replace BK755:=kc_ BK755 hb;replace BK756:=kc_ BK756 hb;replace HB:=hs2_ HB GE755 GE756 hb;(try clear hb);(try clear hb2);(try clear hk);(try clear hi);(try clear ho0);obtain ⟨hcz12_0,hcz12_1,hfz12_0,hfz12_1⟩:=cf2_ BK756.out;obtain ⟨Ao13,co13,eo13⟩:=Kd.R_slice HO761.out;subst eo13))
  refine bodyPost_ret (results_ct rfl _ _ gb756 35 #[.int .i64 t758,.slice Ao13 t759.length co13] (0,0) _ rfl (by refine pe_ ?_;refine blk_put (cs:=#[.int .i64 t758,.slice none 0 0]) ?_ 1 _ rfl;refine pe_ ?_;refine blk_put (cs:=#[.int .i64 0,.slice none 0 0]) ?_ 0 _ rfl;refine pe_ ?_;exact BK756.out) Try.underlying35 rfl (by kernel_rfl)) rfl ?_
  exact ⟨_,er_,by refine pr_ ?_;exact Kd.R_mono (Kd.R_far (p:=⟨gb756,1,none⟩) (Kd.R_far (p:=⟨gb756,0,none⟩) (Kd.R_types HO761.out BK756.out (by decide)) (fun _ hk => hk.2) (.int .i64 t758)) (fun _ hk => hk.2) (.slice Ao13 t759.length co13)) (fun _ hk => trivial),be2_ HB.out GE755.out GE756.out⟩
 ·replace c3:=Bool.eq_false_iff.mpr c3
  subst c3
  have H1 : (some (0,([] : List Int),false)) = some (r1,r2,r3):=by rw [if_neg (show ¬ (false = true) by decide)] at H;exact H
  clear H
  have H:=H1
  clear H1
  simp only [Option.some.injEq,Prod.mk.injEq] at H
  obtain ⟨rfl,rfl,rfl⟩:=H
  go_enter Try.func146,Try.ntmps146
  go_wp2_with (first|((with_reducible refine bev_ (N:=1) rfl rfl (cs:=#[.int .i64 a0_0,.slice A0_1 l0_1.length c0_1]) (t:=35) ?hr ?_);(case hr => first|(go_simp;done)|(go_simp;rfl));intro gb755 hg w14 hbox hb;have BK755:=Aside0.mk (hbox);have GW755:=gw0_ hg HB;have GE755:=GW755;replace HB:=hs0_ HB hb;clear hb hbox hg)|((with_reducible refine bev_ (N:=2) rfl rfl (cs:=#[.int .i64 0,.slice none 0 0]) (t:=35) ?hr ?_);(case hr => first|(go_simp;done)|(go_simp;rfl));intro gb756 hg w15 hbox hb;have BK756:=Aside0.mk (hbox);have GW756:=gw1_ hg HB GE755;have GE756:=GW756;replace HB:=hs1_ HB GE755 hb;have NB755_756:=nm_ hg BK755;have NB756_755:=nn_ hg BK755;replace BK755:=kc_ BK755 hb;clear hb hbox hg;have hnb16:=NB755_756.out;have hnc16:=NB756_755.out;obtain ⟨hcz17_0,hcz17_1,hfz17_0,hfz17_1⟩:=cf2_ BK755.out)|((with_reducible refine gate_callee (f:=126) rfl ?_);refine goesL_ (some 5) rfl rfl Try.func126 (by kernel_rfl) rfl #[.agg #[.int .i64 a0_0,.slice A0_1 l0_1.length c0_1]] rfl lp_ ?_;(with_reducible refine (impl_MatrixValid.calls k a0_0 _ _ l0_1 false _ ?side1 ?side2 A2.out).mono ?_);(case side1 => exact cr_ (Kd.C_below HR0_1.out HB.out));(case side2 => exact HC0_1.out);rintro e w18 ⟨rfl,hb⟩;refine ⟨_,rfl,?_⟩;replace BK755:=kc_ BK755 hb;replace BK756:=kc_ BK756 hb;replace HB:=hs2_ HB GE755 GE756 hb;(try clear hb);(try clear hb2);(try clear hk);(try clear hi);obtain ⟨hcz19_0,hcz19_1,hfz19_0,hfz19_1⟩:=cf2_ BK756.out))
  refine bodyPost_ret (results_ct rfl _ _ gb756 35 #[.int .i64 0,.slice none 0 0] (0,0) _ rfl (by refine pe_ ?_;refine blk_put (cs:=#[.int .i64 0,.slice none 0 0]) ?_ 1 _ rfl;refine pe_ ?_;refine blk_put (cs:=#[.int .i64 0,.slice none 0 0]) ?_ 0 _ rfl;refine pe_ ?_;exact BK756.out) Try.underlying35 rfl (by kernel_rfl)) rfl ?_
  exact ⟨_,er_,by first|exact Kd.R_nil _ _ _ _ _|exact Kd.N_nil _ _ _ _ _|exact Kd.V_nil _ _ _ _ _|exact Kd.Q_nil _ _ _ _ _|exact Kd.S_nil _ _ _ _ _,be2_ HB.out GE755.out GE756.out⟩
def impl_MulGrades_1.l0 : Nat → Int → Int → Int → Int → Int → Int → List Int → Int → List Int → Option (Int)
 | 0,_,_,_,_,_,_,_,_,_ => none
 | k + 1,x0,x1,x7,x10,x11,x3000,x3001,x4000,x4001 => if x11 < x10 then ((impl_Matrix_at.f x3000 x3001 x0 x11).bind fun t718 => ((impl_Matrix_at.f x4000 x4001 x11 x1).bind fun t719 => (impl_MulGrades_1.l0 k x0 x1 (mn x7 (mx t718 t719)) x10 (wrap64 (x11 + 1)) x3000 x3001 x4000 x4001))) else (some x7)
def impl_MulGrades_1.f (k : Nat) (a0 : Int) (a1 : Int) (a2_0 : Int) (l2_1 : List Int) (a3_0 : Int) (l3_1 : List Int) : Option (Int):=impl_MulGrades_1.l0 k a0 a1 3 a2_0 0 a2_0 l2_1 a3_0 l3_1
theorem impl_MulGrades_1.mono_l : ∀ k,(∀ y0 y1 y2 y3 y4 y5 y6 y7 y8,LeO (impl_MulGrades_1.l0 k y0 y1 y2 y3 y4 y5 y6 y7 y8) (impl_MulGrades_1.l0 (k + 1) y0 y1 y2 y3 y4 y5 y6 y7 y8))
 | 0 => fun _ _ _ _ _ _ _ _ _ r h => by simp [impl_MulGrades_1.l0] at h
 | k + 1 => by
  have ih0:=impl_MulGrades_1.mono_l k
  ·intro y0 y1 y2 y3 y4 y5 y6 y7 y8
   unfold impl_MulGrades_1.l0
   repeat' first
   | (with_reducible exact ih0 _ _ _ _ _ _ _ _ _)
   | (with_reducible first|exact LeO.refl _|exact LeO.none _|refine LeO.ite ?_ ?_|refine LeO.bind ?_ (fun _ => ?_))
   | exact ih0 _ _ _ _ _ _ _ _ _
   | exact LeO.none _
   | refine LeO.ite ?_ ?_
   | refine LeO.bind ?_ (fun _ => ?_)
theorem impl_MulGrades_1.mono : ∀ a0 a1 a2 a3 a4 a5 k,LeO (impl_MulGrades_1.f k a0 a1 a2 a3 a4 a5) (impl_MulGrades_1.f (k + 1) a0 a1 a2 a3 a4 a5):=by
 intro a0 a1 a2 a3 a4 a5 k
 have ih0:=impl_MulGrades_1.mono_l k
 unfold impl_MulGrades_1.f
 repeat' first
   | (with_reducible exact ih0 _ _ _ _ _ _ _ _ _)
   | (with_reducible first|exact LeO.refl _|exact LeO.none _|refine LeO.ite ?_ ?_|refine LeO.bind ?_ (fun _ => ?_))
   | exact ih0 _ _ _ _ _ _ _ _ _
   | exact LeO.none _
   | refine LeO.ite ?_ ?_
   | refine LeO.bind ?_ (fun _ => ?_)
def impl_MulGrades_1.T5 : Bool × List (List Nat × List Nat):=(true,[([],[]),([],[]),([],[]),([],[]),([1,2,3],[1,2,3]),([],[]),([],[]),([],[]),([5,6,7,4],[5,6,7]),([4,8],[4,8]),([0,9],[0,9]),([10,8,0,1,2,3,4,5,6,7,8,9,10],[0,10])])
def impl_MulGrades_1.B5 : List Nat:=[0,0,0,0,14,0,0,0,254,510,1023,2047]
theorem impl_MulGrades_1.tab5 : rtab .any (opsOf Try.f114 5) = impl_MulGrades_1.T5:=by kernel_rfl
theorem impl_MulGrades_1.bits5 : waitsOk impl_MulGrades_1.T5.2 impl_MulGrades_1.B5 = true:=by kernel_rfl
set_option maxHeartbeats 8000000 in
set_option maxRecDepth 100000 in
theorem impl_MulGrades_1.calls (k : Nat) (a0 : Int) (a1 : Int) (g2 : Nat) (a2_0 : Int) (A2_1 : Option Addr) (c2_1 : Nat) (l2_1 : List Int) (g3 : Nat) (a3_0 : Int) (A3_1 : Option Addr) (c3_1 : Nat) (l3_1 : List Int) (r : Int) (w : World) (hr2_1 : Kd.C (Kd.int .i64) w A2_1 l2_1.length l2_1) (hc2_1 : l2_1.length ≤ c2_1) (hr3_1 : Kd.C (Kd.int .i64) w A3_1 l3_1.length l3_1) (hc3_1 : l3_1.length ≤ c3_1) (hb2 : w.heap[g2]? = some (.cells #[.int .i64 a2_0,.slice A2_1 l2_1.length c2_1] 35 (0,0))) (hb3 : w.heap[g3]? = some (.cells #[.int .i64 a3_0,.slice A3_1 l3_1.length c3_1] 35 (0,0))) (h : impl_MulGrades_1.f k a0 a1 a2_0 l2_1 a3_0 l3_1 = some r) :
  Calls Try.prog 114 #[.int .i64 a0,.int .i64 a1,.pointer (some ⟨g2,0,none⟩),.pointer (some ⟨g3,0,none⟩)] w fun e w' => e = .returned (.int .i64 r) ∧ Below w.heap.size w w':=by
 have hu35:=Try.underlying35
 have HR2_1:=Aside0.mk hr2_1
 have HC2_1:=Aside0.mk hc2_1
 clear hr2_1 hc2_1
 have HR3_1:=Aside0.mk hr3_1
 have HC3_1:=Aside0.mk hc3_1
 clear hr3_1 hc3_1
 have BK2:=Aside0.mk hb2
 clear hb2
 have BK3:=Aside0.mk hb3
 clear hb3
 have HB:=Aside0.mk (Below.refl w.heap.size w)
 have H : (impl_MulGrades_1.l0 k a0 a1 3 a2_0 0 a2_0 l2_1 a3_0 l3_1) = some r:=h
 clear h
 have H':=Aside0.mk H
 clear H
 obtain ⟨hcz5_0,hcz5_1,hfz5_0,hfz5_1⟩:=cf2_ BK2.out
 go_enter Try.func114,Try.ntmps114
 go_wp2
 go_loopg [7,11] k (fun kq v7 v11 w' => ∃ (x7_1 : Int) (x11_1 : Int),v7 = .int .i64 x7_1 ∧ v11 = .int .i64 x11_1 ∧ Aside0 (impl_MulGrades_1.l0 kq a0 a1 x7_1 a2_0 x11_1 a2_0 l2_1 a3_0 l3_1 = some r) ∧ Aside0 (kq ≤ k) ∧ Aside0 (w'.heap[g2]? = some (.cells #[.int .i64 a2_0,(.slice A2_1 l2_1.length c2_1)] 35 (0,0))) ∧ Aside0 (w'.heap[g3]? = some (.cells #[.int .i64 a3_0,(.slice A3_1 l3_1.length c3_1)] 35 (0,0))) ∧ Aside0 (Below w.heap.size w w'))
 case atStart => exact ⟨(3),(0),rs_,rs_,H',⟨Nat.le_refl _⟩,⟨pe_ BK2.out⟩,⟨pe_ BK3.out⟩,⟨be0_ HB.out⟩⟩
 case round =>
  clear H'
  obtain ⟨x7_1,x11_1,rfl,rfl,HA,HK1,BK2,BK3,HB⟩:=hrel
  cases gk with
  | zero => exact absurd HA.out (by simp [impl_MulGrades_1.l0])
  | succ k1 =>
   have H:=HA.out
   clear HA
   simp only [impl_MulGrades_1.l0] at H
   by_cases c6 : x11_1 < a2_0
   ·rw [if_pos c6] at H
    have c6b0 : decide (x11_1 < a2_0) = true:=decide_eq_true c6
    clear c6
    replace H:=Option.bind_eq_some_iff.mp H
    obtain ⟨t718,A70,H⟩:=H
    replace H : ((impl_Matrix_at.f a3_0 l3_1 x11_1 a1).bind fun t719 => (impl_MulGrades_1.l0 k1 a0 a1 (mn x7_1 (mx t718 t719)) a2_0 (wrap64 (x11_1 + 1)) a2_0 l2_1 a3_0 l3_1)) = some r:=H
    have A7:=Aside0.mk A70
    clear A70
    replace H:=Option.bind_eq_some_iff.mp H
    obtain ⟨t719,A80,H⟩:=H
    replace H : (impl_MulGrades_1.l0 k1 a0 a1 (mn x7_1 (mx t718 t719)) a2_0 (wrap64 (x11_1 + 1)) a2_0 l2_1 a3_0 l3_1) = some r:=H
    have A8:=Aside0.mk A80
    clear A80
    obtain ⟨ji9,hji9⟩ : ∃ j_ : Int,(mx t718 t719) = j_:=⟨_,rfl⟩
    replace H : (impl_MulGrades_1.l0 k1 a0 a1 (mn x7_1 (ji9)) a2_0 (wrap64 (x11_1 + 1)) a2_0 l2_1 a3_0 l3_1) = some r:=by first|(rw [hji9] at H;exact H)|(simp only [hji9] at H ⊢;exact H)
    (try rw [hji9] at A7)
    (try rw [hji9] at A8)
    have hji9_ : (if t718 < t719 then t719 else t718) = ji9:=hji9
    obtain ⟨ji10,hji10⟩ : ∃ j_ : Int,(mn x7_1 (ji9)) = j_:=⟨_,rfl⟩
    replace H : (impl_MulGrades_1.l0 k1 a0 a1 ji10 a2_0 (wrap64 (x11_1 + 1)) a2_0 l2_1 a3_0 l3_1) = some r:=by first|(rw [hji10] at H;exact H)|(simp only [hji10] at H ⊢;exact H)
    (try rw [hji10] at A7)
    (try rw [hji10] at A8)
    have hji10_ : (if (ji9) < x7_1 then (ji9) else x7_1) = ji10:=hji10
    have H':=Aside0.mk H
    clear H
    try go_wp2
    replace BK2:=Aside0.mk (blk_drew BK2.out)
    replace BK3:=Aside0.mk (blk_drew BK3.out)
    replace HB:=Aside0.mk (below_drew1 HB.out)
    refine start_ (n:=12) (S:=fun w' => w'.cell? ⟨g2,0,none⟩ = some (.int .i64 a2_0) ∧ w'.cell? ⟨g2,1,none⟩ = some (.slice A2_1 l2_1.length c2_1) ∧ w'.cell? ⟨g3,0,none⟩ = some (.int .i64 a3_0) ∧ w'.cell? ⟨g3,1,none⟩ = some (.slice A3_1 l3_1.length c3_1)) (ds:=[]) #[false,false,false,false,false,false,false,false,false,false,false,false] (by kernel_rfl) rfl rfl ⟨bc_ BK2 0,bc_ BK2 1,bc_ BK3 0,bc_ BK3 1⟩ (fun hHeld => ?_);refine with_tabW impl_MulGrades_1.tab5 impl_MulGrades_1.bits5 (fun HT_ HW_ => ?_)
    generalize wr.drew = w11 at BK2 BK3 HB hHeld ⊢
    refine pure_ (i:=0) (N:=some 14) (v:=?_) (a':=?_) #[true,false,false,false,false,false,false,false,false,false,false,false] rfl rfl (any_of HT_.out (by kernel_rfl)) (fun _ _ _ h => h) (Or.inl ⟨by rfl,?_⟩) ?_ ?_
    rotate_left
    ·intro w'
     go_simp
     with_reducible rfl
    rotate_left
    ·simp only [Act.put,List.setIfInBounds_toArray,List.set_cons_zero,List.set_cons_succ,i64_w,i32_w]
     rfl
    refine pure_ (i:=2) (N:=some 16) (v:=?_) (a':=?_) #[true,false,true,false,false,false,false,false,false,false,false,false] rfl rfl (any_of HT_.out (by kernel_rfl)) (fun _ _ _ h => h) (Or.inl ⟨by rfl,?_⟩) ?_ ?_
    rotate_left
    ·intro w'
     go_simp
     with_reducible rfl
    rotate_left
    ·simp only [Act.put,List.setIfInBounds_toArray,List.set_cons_zero,List.set_cons_succ,i64_w,i32_w]
     rfl
    refine pure_ (i:=3) (N:=some 17) (v:=?_) (a':=?_) #[true,false,true,true,false,false,false,false,false,false,false,false] rfl rfl (any_of HT_.out (by kernel_rfl)) (fun _ _ _ h => h) (Or.inl ⟨by rfl,?_⟩) ?_ ?_
    rotate_left
    ·intro w'
     go_simp
     with_reducible rfl
    rotate_left
    ·simp only [Act.put,List.setIfInBounds_toArray,List.set_cons_zero,List.set_cons_succ,i64_w,i32_w]
     rfl
    refine pure_ (i:=6) (N:=some 20) (v:=?_) (a':=?_) #[true,false,true,true,false,false,true,false,false,false,false,false] rfl rfl (any_of HT_.out (by kernel_rfl)) (fun _ _ _ h => h) (Or.inl ⟨by rfl,?_⟩) ?_ ?_
    rotate_left
    ·intro w'
     go_simp
     with_reducible rfl
    rotate_left
    ·simp only [Act.put,List.setIfInBounds_toArray,List.set_cons_zero,List.set_cons_succ,i64_w,i32_w]
     rfl
    refine pure_ (i:=7) (N:=some 21) (v:=?_) (a':=?_) #[true,false,true,true,false,false,true,true,false,false,false,false] rfl rfl (any_of HT_.out (by kernel_rfl)) (fun _ _ _ h => h) (Or.inl ⟨by rfl,?_⟩) ?_ ?_
    rotate_left
    ·intro w'
     go_simp
     with_reducible rfl
    rotate_left
    ·simp only [Act.put,List.setIfInBounds_toArray,List.set_cons_zero,List.set_cons_succ,i64_w,i32_w]
     rfl
    refine take_ (i:=1) (N:=some 15) (v:=?_) (a':=?_) #[true,true,true,true,false,false,true,true,false,false,false,false] rfl rfl (take_ofW HT_.out HW_.out (by kernel_rfl)) (fun _ _ _ h => h) (Or.inl ⟨by rfl,?_⟩) hHeld ?_ ?_
    rotate_left
    ·rintro w' ⟨s0,s1,s2,s3⟩
     go_simp
     with_reducible rfl
    rotate_left
    ·simp only [Act.put,List.setIfInBounds_toArray,List.set_cons_zero,List.set_cons_succ,i64_w,i32_w]
     rfl
    refine take_ (i:=5) (N:=some 19) (v:=?_) (a':=?_) #[true,true,true,true,false,true,true,true,false,false,false,false] rfl rfl (take_ofW HT_.out HW_.out (by kernel_rfl)) (fun _ _ _ h => h) (Or.inl ⟨by rfl,?_⟩) hHeld ?_ ?_
    rotate_left
    ·rintro w' ⟨s0,s1,s2,s3⟩
     go_simp
     with_reducible rfl
    rotate_left
    ·simp only [Act.put,List.setIfInBounds_toArray,List.set_cons_zero,List.set_cons_succ,i64_w,i32_w]
     rfl
    refine one_ (i:=4) (N:=some 18) #[true,true,true,true,true,true,true,true,false,false,false,false] rfl rfl (one_of HT_.out (by kernel_rfl)) (by decide) (fun K hK => ?_)
    refine goes_ Try.func74 (by kernel_rfl) rfl #[.agg #[.int .i64 a2_0,.slice A2_1 l2_1.length c2_1],.int .i64 a0,.int .i64 x11_1] (by rfl) rfl rfl lp_ ?_
    with_reducible refine (impl_Matrix_at.calls a2_0 _ _ l2_1 a0 x11_1 t718 _ ?side1 ?side2 A7.out).mono ?_
    (case side1 => exact cr_ (Kd.C_below HR2_1.out HB.out))
    (case side2 => exact HC2_1.out)
    rintro e w12 ⟨rfl,hb⟩
    refine ⟨_,rfl,?_⟩
    replace BK2:=kc_ BK2 hb
    replace BK3:=kc_ BK3 hb
    replace HB:=hs0_ HB hb
    (try clear hb)
    (try clear hb2)
    (try clear hk)
    (try clear hi)
    refine hK.out _ _ ⟨bc_ BK2 0,bc_ BK2 1,bc_ BK3 0,bc_ BK3 1⟩ (fun hHeld => ?_)
    clear hK K
    refine norm_ (a':=?_) ?_ ?_
    rotate_left
    ·show Act.put _ (some 18) _ = _
     simp only [Act.put,List.setIfInBounds_toArray,List.set_cons_zero,List.set_cons_succ,i64_w,i32_w]
     rfl
    refine one_ (i:=8) (N:=some 22) #[true,true,true,true,true,true,true,true,true,false,false,false] rfl rfl (one_of HT_.out (by kernel_rfl)) (by decide) (fun K hK => ?_)
    refine goes_ Try.func74 (by kernel_rfl) rfl #[.agg #[.int .i64 a3_0,.slice A3_1 l3_1.length c3_1],.int .i64 x11_1,.int .i64 a1] (by rfl) rfl rfl lp_ ?_
    with_reducible refine (impl_Matrix_at.calls a3_0 _ _ l3_1 x11_1 a1 t719 _ ?side1 ?side2 A8.out).mono ?_
    (case side1 => exact cr_ (Kd.C_below HR3_1.out HB.out))
    (case side2 => exact HC3_1.out)
    rintro e w13 ⟨rfl,hb⟩
    refine ⟨_,rfl,?_⟩
    replace BK2:=kc_ BK2 hb
    replace BK3:=kc_ BK3 hb
    replace HB:=hs0_ HB hb
    (try clear hb)
    (try clear hb2)
    (try clear hk)
    (try clear hi)
    refine hK.out _ _ ⟨bc_ BK2 0,bc_ BK2 1,bc_ BK3 0,bc_ BK3 1⟩ (fun hHeld => ?_)
    clear hK K
    refine norm_ (a':=?_) ?_ ?_
    rotate_left
    ·show Act.put _ (some 22) _ = _
     simp only [Act.put,List.setIfInBounds_toArray,List.set_cons_zero,List.set_cons_succ,i64_w,i32_w]
     rfl
    refine pure_ (i:=9) (N:=some 23) (v:=?_) (a':=?_) #[true,true,true,true,true,true,true,true,true,true,false,false] rfl rfl (any_of HT_.out (by kernel_rfl)) (fun _ _ _ h => h) (Or.inl ⟨by rfl,?_⟩) ?_ ?_
    rotate_left
    ·intro w'
     go_simp
     with_reducible rfl
    rotate_left
    ·simp only [Act.put,List.setIfInBounds_toArray,List.set_cons_zero,List.set_cons_succ,i64_w,i32_w]
     rfl
    refine pure_ (i:=10) (N:=some 24) (v:=?_) (a':=?_) #[true,true,true,true,true,true,true,true,true,true,true,false] rfl rfl (any_of HT_.out (by kernel_rfl)) (fun _ _ _ h => h) (Or.inl ⟨by rfl,?_⟩) ?_ ?_
    rotate_left
    ·intro w'
     go_simp
     with_reducible rfl
    rotate_left
    ·simp only [Act.put,List.setIfInBounds_toArray,List.set_cons_zero,List.set_cons_succ,i64_w,i32_w]
     rfl
    refine pure_ (i:=11) (N:=some 7) (v:=?_) (a':=?_) #[true,true,true,true,true,true,true,true,true,true,true,true] rfl rfl (any_of HT_.out (by kernel_rfl)) (fun _ _ _ h => h) (Or.inl ⟨by rfl,?_⟩) ?_ ?_
    rotate_left
    ·intro w'
     go_simp
     with_reducible rfl
    rotate_left
    ·simp only [Act.put,List.setIfInBounds_toArray,List.set_cons_zero,List.set_cons_succ,i64_w,i32_w]
     rfl
    refine done_ (done_of HT_.out (by kernel_rfl)) ?_
    try go_wp2
    go_roundg k1
    case measure => have:=HK1.out;omega
    case rel => exact ⟨(ji10),(wrap64 (x11_1 + 1)),(by first|rfl|(simp;done)|(simp only [← hji10] <;> (first|rfl|simp))|(simp [*];done)),rs_,H',⟨by have:=HK1.out;omega⟩,⟨pe_ BK2.out⟩,⟨pe_ BK3.out⟩,⟨be0_ HB.out⟩⟩
   ·rw [if_neg c6] at H
    have c6b0 : decide (x11_1 < a2_0) = false:=decide_eq_false c6
    clear c6
    obtain rfl:=Option.some.inj H
    go_wp2
    go_ret
    exact ⟨er_,be0_ HB.out⟩
def impl_filled__impl_MulGrades_1.f (k : Nat) (a0 : Int) (a1_0 : Int) (l1_1 : List Int) (a2_0 : Int) (l2_1 : List Int) : Option (Int × List Int):=impl_filled.f (fun y0 y1 => impl_MulGrades_1.f k  y0 y1 a1_0 l1_1 a2_0 l2_1) k a0
theorem impl_filled__impl_MulGrades_1.mono : ∀ b0 b1 b2 b3 b4 k,LeO (impl_filled__impl_MulGrades_1.f k b0 b1 b2 b3 b4) (impl_filled__impl_MulGrades_1.f (k + 1) b0 b1 b2 b3 b4):=by
 intro b0 b1 b2 b3 b4 k
 exact impl_filled.monoP (fun _ _ => impl_MulGrades_1.mono _ _ _ _ _ _ _) _ k
set_option maxHeartbeats 2000000 in
theorem impl_filled__impl_MulGrades_1.calls (k : Nat) (a0 : Int) (g1 : Nat) (a1_0 : Int) (A1_1 : Option Addr) (c1_1 : Nat) (l1_1 : List Int) (g2 : Nat) (a2_0 : Int) (A2_1 : Option Addr) (c2_1 : Nat) (l2_1 : List Int) (r1 : Int) (r2 : List Int) (w : World) (hr1_1 : Kd.C (Kd.int .i64) w A1_1 l1_1.length l1_1) (hc1_1 : l1_1.length ≤ c1_1) (hr2_1 : Kd.C (Kd.int .i64) w A2_1 l2_1.length l2_1) (hc2_1 : l2_1.length ≤ c2_1) (hb1 : w.heap[g1]? = some (.cells #[.int .i64 a1_0,.slice A1_1 l1_1.length c1_1] 35 (0,0))) (hb2 : w.heap[g2]? = some (.cells #[.int .i64 a2_0,.slice A2_1 l2_1.length c2_1] 35 (0,0))) (h : impl_filled__impl_MulGrades_1.f k a0 a1_0 l1_1 a2_0 l2_1 = some (r1,r2)) :
  Calls Try.prog 112 #[.int .i64 a0,.func (.func 114) #[] #[.pointer (some ⟨g1,0,none⟩),.pointer (some ⟨g2,0,none⟩)]] w fun e w' => ∃ v1_ : Value,e = .returned (.agg #[.int .i64 r1,v1_]) ∧ Kd.R (Kd.int .i64) 3 w' w.heap.size (fun _ => True) v1_ r2 ∧ Below w.heap.size w w':=by
 refine impl_filled.calls k a0 114 #[] #[.pointer (some ⟨g1,0,none⟩),.pointer (some ⟨g2,0,none⟩)] (fun y0 y1 => impl_MulGrades_1.f k  y0 y1 a1_0 l1_1 a2_0 l2_1) r1 r2 w  ⟨_,Try.func114,rfl,rfl⟩ ?_ h
 intro ay0 ay1 z0 W_ hB_  h_
 refine calls_of_args (args':=#[.int .i64 ay0,.int .i64 ay1,.pointer (some ⟨g1,0,none⟩),.pointer (some ⟨g2,0,none⟩)]) (by simp) ?_
 refine (impl_MulGrades_1.calls k ay0 ay1 g1 a1_0 A1_1 c1_1 l1_1 g2 a2_0 A2_1 c2_1 l2_1 z0 W_ (Kd.C_below hr1_1 hB_) hc1_1 (Kd.C_below hr2_1 hB_) hc2_1 (blk_below hb1 hB_) (blk_below hb2 hB_) h_).mono ?_
 exact fun e w' h => h
def impl_GradesValid_1.f (a0 : Int) : Option (Bool):=some (decide (a0 > 3))
set_option maxHeartbeats 8000000 in
set_option maxRecDepth 100000 in
theorem impl_GradesValid_1.calls (a0 : Int) (r : Bool) (w : World) (h : impl_GradesValid_1.f a0 = some r) :
  Calls Try.prog 128 #[.int .i64 a0] w fun e w' => e = .returned (.bool r) ∧ Drawn0 w w':=by
 have H : (some (decide (a0 > 3))) = some r:=h
 clear h
 obtain rfl:=Option.some.inj H
 go_enter Try.func128,Try.ntmps128
 go_wp2
 go_ret
 exact ⟨by first|rfl|(simp;done)|(simp [*];done),by repeat (first|exact Drawn0.refl _|apply Drawn0.step)⟩
def slices_ContainsFunc_int_int__impl_GradesValid_1.f (k : Nat) (l0 : List Int) : Option (Bool):=slices_ContainsFunc_int_int.f (fun y0 => impl_GradesValid_1.f  y0 ) k l0
theorem slices_ContainsFunc_int_int__impl_GradesValid_1.mono : ∀ b0 k,LeO (slices_ContainsFunc_int_int__impl_GradesValid_1.f k b0) (slices_ContainsFunc_int_int__impl_GradesValid_1.f (k + 1) b0):=by
 intro b0 k
 exact slices_ContainsFunc_int_int.monoP (fun _ => LeO.refl _) _ k
set_option maxHeartbeats 2000000 in
theorem slices_ContainsFunc_int_int__impl_GradesValid_1.calls (k : Nat) (A0 : Option Addr) (c0 : Nat) (l0 : List Int) (r : Bool) (w : World) (hr0 : Kd.C (Kd.int .i64) w A0 l0.length l0) (hc0 : l0.length ≤ c0) (h : slices_ContainsFunc_int_int__impl_GradesValid_1.f k l0 = some r) :
  Calls Try.prog 127 #[.slice A0 l0.length c0,.func (.func 128) #[] #[]] w fun e w' => e = .returned (.bool r) ∧ Below w.heap.size w w':=by
 refine slices_ContainsFunc_int_int.calls k A0 c0 l0 128 #[] #[] (fun y0 => impl_GradesValid_1.f  y0 ) r w hr0 hc0 ⟨_,Try.func128,rfl,rfl⟩ ?_ h
 intro ay0 z0 W_ hB_  h_
 refine calls_of_args (args':=#[.int .i64 ay0]) (by simp) ?_
 refine (impl_GradesValid_1.calls ay0 z0 W_  h_).mono ?_
 rintro e w' ⟨rfl,hd⟩
 exact ⟨rfl,hd.below⟩
def impl_GradesValid.f (k : Nat) (a0_0 : Int) (l0_1 : List Int) : Option (Bool):=(impl_MatrixValid.f k a0_0 l0_1).bind fun t213 => (if t213 = true then ((slices_ContainsFunc_int_int__impl_GradesValid_1.f k l0_1).bind fun t214 => (some (!t214))) else (some false))
theorem impl_GradesValid.mono : ∀ a0 a1 k,LeO (impl_GradesValid.f k a0 a1) (impl_GradesValid.f (k + 1) a0 a1):=by
 intro a0 a1 k
 unfold impl_GradesValid.f
 repeat' first
   | (with_reducible exact impl_MatrixValid.mono _ _ _)
   | (with_reducible exact slices_ContainsFunc_int_int__impl_GradesValid_1.mono _ _)
   | (with_reducible first|exact LeO.refl _|exact LeO.none _|refine LeO.ite ?_ ?_|refine LeO.bind ?_ (fun _ => ?_))
   | exact impl_MatrixValid.mono _ _ _
   | exact slices_ContainsFunc_int_int__impl_GradesValid_1.mono _ _
   | exact LeO.none _
   | refine LeO.ite ?_ ?_
   | refine LeO.bind ?_ (fun _ => ?_)
set_option maxHeartbeats 8000000 in
set_option maxRecDepth 100000 in
theorem impl_GradesValid.calls (k : Nat) (a0_0 : Int) (A0_1 : Option Addr) (c0_1 : Nat) (l0_1 : List Int) (r : Bool) (w : World) (hr0_1 : Kd.C (Kd.int .i64) w A0_1 l0_1.length l0_1) (hc0_1 : l0_1.length ≤ c0_1) (h : impl_GradesValid.f k a0_0 l0_1 = some r) :
  Calls Try.prog 73 #[.agg #[.int .i64 a0_0,.slice A0_1 l0_1.length c0_1]] w fun e w' => e = .returned (.bool r) ∧ Below w.heap.size w w':=by
 have hu35:=Try.underlying35
 have HR0_1:=Aside0.mk hr0_1
 have HC0_1:=Aside0.mk hc0_1
 clear hr0_1 hc0_1
 have HB:=Aside0.mk (Below.refl w.heap.size w)
 have H : ((impl_MatrixValid.f k a0_0 l0_1).bind fun t213 => (if t213 = true then ((slices_ContainsFunc_int_int__impl_GradesValid_1.f k l0_1).bind fun t214 => (some (!t214))) else (some false))) = some r:=h
 clear h
 replace H:=Option.bind_eq_some_iff.mp H
 obtain ⟨t213,A20,H⟩:=H
 replace H : (if t213 = true then ((slices_ContainsFunc_int_int__impl_GradesValid_1.f k l0_1).bind fun t214 => (some (!t214))) else (some false)) = some r:=H
 have A2:=Aside0.mk A20
 clear A20
 by_cases c3 : t213 = true
 ·subst c3
  have H1 : ((slices_ContainsFunc_int_int__impl_GradesValid_1.f k l0_1).bind fun t214 => (some (!t214))) = some r:=by rw [if_pos rfl] at H;exact H
  clear H
  have H:=H1
  clear H1
  replace H:=Option.bind_eq_some_iff.mp H
  obtain ⟨t214,A40,H⟩:=H
  replace H : (some (!t214)) = some r:=H
  have A4:=Aside0.mk A40
  clear A40
  obtain rfl:=Option.some.inj H
  go_enter Try.func73,Try.ntmps73
  go_wp2_with (first|((with_reducible refine bev_ (N:=1) rfl rfl (cs:=#[.int .i64 a0_0,.slice A0_1 l0_1.length c0_1]) (t:=35) ?hr ?_);(case hr => first|(go_simp;done)|(go_simp;rfl));intro gb212 hg w5 hbox hb;have BK212:=Aside0.mk (hbox);have GW212:=gw0_ hg HB;have GE212:=GW212;replace HB:=hs0_ HB hb;clear hb hbox hg;obtain ⟨hcz6_0,hcz6_1,hfz6_0,hfz6_1⟩:=cf2_ BK212.out)|((with_reducible refine gate_callee (f:=126) rfl ?_);refine goesL_ (some 4) rfl rfl Try.func126 (by kernel_rfl) rfl #[.agg #[.int .i64 a0_0,.slice A0_1 l0_1.length c0_1]] rfl lp_ ?_;(with_reducible refine (impl_MatrixValid.calls k a0_0 _ _ l0_1 true _ ?side1 ?side2 A2.out).mono ?_);(case side1 => exact cr_ (Kd.C_below HR0_1.out HB.out));(case side2 => exact HC0_1.out);rintro e w7 ⟨rfl,hb⟩;refine ⟨_,rfl,?_⟩;replace BK212:=kc_ BK212 hb;replace HB:=hs1_ HB GE212 hb;(try clear hb);(try clear hb2);(try clear hk);(try clear hi);obtain ⟨hcz8_0,hcz8_1,hfz8_0,hfz8_1⟩:=cf2_ BK212.out)|(go_at_call 127;(with_reducible refine (slices_ContainsFunc_int_int__impl_GradesValid_1.calls k _ _ l0_1 t214 _ ?side1 ?side2 A4.out).mono ?_);(case side1 => exact cr_ (Kd.C_below HR0_1.out HB.out));(case side2 => exact HC0_1.out);rintro e w9 ⟨rfl,hb⟩;replace BK212:=kc_ BK212 hb;replace HB:=hs1_ HB GE212 hb;(try clear hb);(try clear hb2);(try clear hk);(try clear hi)))
  go_ret
  exact ⟨er_,be1_ HB.out GE212.out⟩
 ·replace c3:=Bool.eq_false_iff.mpr c3
  subst c3
  have H1 : (some false) = some r:=by rw [if_neg (show ¬ (false = true) by decide)] at H;exact H
  clear H
  have H:=H1
  clear H1
  obtain rfl:=Option.some.inj H
  go_enter Try.func73,Try.ntmps73
  go_wp2_with (first|((with_reducible refine bev_ (N:=1) rfl rfl (cs:=#[.int .i64 a0_0,.slice A0_1 l0_1.length c0_1]) (t:=35) ?hr ?_);(case hr => first|(go_simp;done)|(go_simp;rfl));intro gb212 hg w10 hbox hb;have BK212:=Aside0.mk (hbox);have GW212:=gw0_ hg HB;have GE212:=GW212;replace HB:=hs0_ HB hb;clear hb hbox hg;obtain ⟨hcz11_0,hcz11_1,hfz11_0,hfz11_1⟩:=cf2_ BK212.out)|((with_reducible refine gate_callee (f:=126) rfl ?_);refine goesL_ (some 4) rfl rfl Try.func126 (by kernel_rfl) rfl #[.agg #[.int .i64 a0_0,.slice A0_1 l0_1.length c0_1]] rfl lp_ ?_;(with_reducible refine (impl_MatrixValid.calls k a0_0 _ _ l0_1 false _ ?side1 ?side2 A2.out).mono ?_);(case side1 => exact cr_ (Kd.C_below HR0_1.out HB.out));(case side2 => exact HC0_1.out);rintro e w12 ⟨rfl,hb⟩;refine ⟨_,rfl,?_⟩;replace BK212:=kc_ BK212 hb;replace HB:=hs1_ HB GE212 hb;(try clear hb);(try clear hb2);(try clear hk);(try clear hi)))
  go_ret
  exact ⟨er_,be1_ HB.out GE212.out⟩
def impl_MulGrades.f (k : Nat) (a0_0 : Int) (l0_1 : List Int) (a1_0 : Int) (l1_1 : List Int) : Option (Int × List Int × Bool):=(impl_GradesValid.f k a0_0 l0_1).bind fun t723 => (if t723 = true then ((impl_GradesValid.f k a1_0 l1_1).bind fun t724 => (if t724 = true then (if a0_0 = a1_0 then ((impl_filled__impl_MulGrades_1.f k a0_0 a0_0 l0_1 a1_0 l1_1).bind fun bt725 => (some (bt725.1,bt725.2,true))) else (some (0,([] : List Int),false))) else (some (0,([] : List Int),false)))) else (some (0,([] : List Int),false)))
theorem impl_MulGrades.mono : ∀ a0 a1 a2 a3 k,LeO (impl_MulGrades.f k a0 a1 a2 a3) (impl_MulGrades.f (k + 1) a0 a1 a2 a3):=by
 intro a0 a1 a2 a3 k
 unfold impl_MulGrades.f
 repeat' first
   | (with_reducible exact impl_GradesValid.mono _ _ _)
   | (with_reducible exact impl_filled__impl_MulGrades_1.mono _ _ _ _ _ _)
   | (with_reducible first|exact LeO.refl _|exact LeO.none _|refine LeO.ite ?_ ?_|refine LeO.bind ?_ (fun _ => ?_))
   | exact impl_GradesValid.mono _ _ _
   | exact impl_filled__impl_MulGrades_1.mono _ _ _ _ _ _
   | exact LeO.none _
   | refine LeO.ite ?_ ?_
   | refine LeO.bind ?_ (fun _ => ?_)
set_option maxHeartbeats 8000000 in
set_option maxRecDepth 100000 in
theorem impl_MulGrades.calls (k : Nat) (a0_0 : Int) (A0_1 : Option Addr) (c0_1 : Nat) (l0_1 : List Int) (a1_0 : Int) (A1_1 : Option Addr) (c1_1 : Nat) (l1_1 : List Int) (r1 : Int) (r2 : List Int) (r3 : Bool) (w : World) (hr0_1 : Kd.C (Kd.int .i64) w A0_1 l0_1.length l0_1) (hc0_1 : l0_1.length ≤ c0_1) (hr1_1 : Kd.C (Kd.int .i64) w A1_1 l1_1.length l1_1) (hc1_1 : l1_1.length ≤ c1_1) (h : impl_MulGrades.f k a0_0 l0_1 a1_0 l1_1 = some (r1,r2,r3)) :
  Calls Try.prog 56 #[.agg #[.int .i64 a0_0,.slice A0_1 l0_1.length c0_1],.agg #[.int .i64 a1_0,.slice A1_1 l1_1.length c1_1]] w fun e w' => ∃ v1_ : Value,e = .returned (.tuple #[.agg #[.int .i64 r1,v1_],.bool r3]) ∧ Kd.R (Kd.int .i64) 3 w' w.heap.size (fun _ => True) v1_ r2 ∧ Below w.heap.size w w':=by
 have hu35:=Try.underlying35
 have HR0_1:=Aside0.mk hr0_1
 have HC0_1:=Aside0.mk hc0_1
 clear hr0_1 hc0_1
 have HR1_1:=Aside0.mk hr1_1
 have HC1_1:=Aside0.mk hc1_1
 clear hr1_1 hc1_1
 have HB:=Aside0.mk (Below.refl w.heap.size w)
 have H : ((impl_GradesValid.f k a0_0 l0_1).bind fun t723 => (if t723 = true then ((impl_GradesValid.f k a1_0 l1_1).bind fun t724 => (if t724 = true then (if a0_0 = a1_0 then ((impl_filled__impl_MulGrades_1.f k a0_0 a0_0 l0_1 a1_0 l1_1).bind fun bt725 => (some (bt725.1,bt725.2,true))) else (some (0,([] : List Int),false))) else (some (0,([] : List Int),false)))) else (some (0,([] : List Int),false)))) = some (r1,r2,r3):=h
 clear h
 replace H:=Option.bind_eq_some_iff.mp H
 obtain ⟨t723,A30,H⟩:=H
 replace H : (if t723 = true then ((impl_GradesValid.f k a1_0 l1_1).bind fun t724 => (if t724 = true then (if a0_0 = a1_0 then ((impl_filled__impl_MulGrades_1.f k a0_0 a0_0 l0_1 a1_0 l1_1).bind fun bt725 => (some (bt725.1,bt725.2,true))) else (some (0,([] : List Int),false))) else (some (0,([] : List Int),false)))) else (some (0,([] : List Int),false))) = some (r1,r2,r3):=H
 have A3:=Aside0.mk A30
 clear A30
 by_cases c4 : t723 = true
 ·subst c4
  have H1 : ((impl_GradesValid.f k a1_0 l1_1).bind fun t724 => (if t724 = true then (if a0_0 = a1_0 then ((impl_filled__impl_MulGrades_1.f k a0_0 a0_0 l0_1 a1_0 l1_1).bind fun bt725 => (some (bt725.1,bt725.2,true))) else (some (0,([] : List Int),false))) else (some (0,([] : List Int),false)))) = some (r1,r2,r3):=by rw [if_pos rfl] at H;exact H
  clear H
  have H:=H1
  clear H1
  replace H:=Option.bind_eq_some_iff.mp H
  obtain ⟨t724,A50,H⟩:=H
  replace H : (if t724 = true then (if a0_0 = a1_0 then ((impl_filled__impl_MulGrades_1.f k a0_0 a0_0 l0_1 a1_0 l1_1).bind fun bt725 => (some (bt725.1,bt725.2,true))) else (some (0,([] : List Int),false))) else (some (0,([] : List Int),false))) = some (r1,r2,r3):=H
  have A5:=Aside0.mk A50
  clear A50
  by_cases c6 : t724 = true
  ·subst c6
   have H1 : (if a0_0 = a1_0 then ((impl_filled__impl_MulGrades_1.f k a0_0 a0_0 l0_1 a1_0 l1_1).bind fun bt725 => (some (bt725.1,bt725.2,true))) else (some (0,([] : List Int),false))) = some (r1,r2,r3):=by rw [if_pos rfl] at H;exact H
   clear H
   have H:=H1
   clear H1
   by_cases c7 : a0_0 = a1_0
   ·rw [if_pos c7] at H
    have c7b0 : (a0_0 == a1_0) = true:=beq_iff_eq.mpr c7
    have c7b1 : (a0_0 != a1_0) = false:=bne_eq_false_iff_eq.mpr c7
    clear c7
    replace H:=Option.bind_eq_some_iff.mp H
    obtain ⟨⟨t725,t726⟩,A80,H⟩:=H
    replace H : (some (t725,t726,true)) = some (r1,r2,r3):=H
    have A8:=Aside0.mk A80
    clear A80
    simp only [Option.some.injEq,Prod.mk.injEq] at H
    obtain ⟨rfl,rfl,rfl⟩:=H
    go_enter Try.func56,Try.ntmps56
    go_wp2_with (first|((with_reducible refine bev_ (N:=2) rfl rfl (cs:=#[.int .i64 a0_0,.slice A0_1 l0_1.length c0_1]) (t:=35) ?hr ?_);(case hr => first|(go_simp;done)|(go_simp;rfl));intro gb720 hg w9 hbox hb;have BK720:=Aside0.mk (hbox);have GW720:=gw0_ hg HB;have GE720:=GW720;replace HB:=hs0_ HB hb;clear hb hbox hg)|((with_reducible refine bev_ (N:=3) rfl rfl (cs:=#[.int .i64 a1_0,.slice A1_1 l1_1.length c1_1]) (t:=35) ?hr ?_);(case hr => first|(go_simp;done)|(go_simp;rfl));intro gb721 hg w10 hbox hb;have BK721:=Aside0.mk (hbox);have GW721:=gw1_ hg HB GE720;have GE721:=GW721;replace HB:=hs1_ HB GE720 hb;have NB720_721:=nm_ hg BK720;have NB721_720:=nn_ hg BK720;replace BK720:=kc_ BK720 hb;clear hb hbox hg)|((with_reducible refine bev_ (N:=4) rfl rfl (cs:=#[.int .i64 0,.slice none 0 0]) (t:=35) ?hr ?_);(case hr => first|(go_simp;done)|(go_simp;rfl));intro gb722 hg w11 hbox hb;have BK722:=Aside0.mk (hbox);have GW722:=gw2_ hg HB GE720 GE721;have GE722:=GW722;replace HB:=hs2_ HB GE720 GE721 hb;have NB720_722:=nm_ hg BK720;have NB722_720:=nn_ hg BK720;replace BK720:=kc_ BK720 hb;have NB721_722:=nm_ hg BK721;have NB722_721:=nn_ hg BK721;replace BK721:=kc_ BK721 hb;clear hb hbox hg;have hnb12:=NB720_721.out;have hnc12:=NB721_720.out;have hnb13:=NB720_722.out;have hnc13:=NB722_720.out;obtain ⟨hcz14_0,hcz14_1,hfz14_0,hfz14_1⟩:=cf2_ BK720.out)|((with_reducible refine gate_callee (f:=73) rfl ?_);refine goesL_ (some 7) rfl rfl Try.func73 (by kernel_rfl) rfl #[.agg #[.int .i64 a0_0,.slice A0_1 l0_1.length c0_1]] rfl lp_ ?_;(with_reducible refine (impl_GradesValid.calls k a0_0 _ _ l0_1 true _ ?side1 ?side2 A3.out).mono ?_);(case side1 => exact cr_ (Kd.C_below HR0_1.out HB.out));(case side2 => exact HC0_1.out);rintro e w15 ⟨rfl,hb⟩;refine ⟨_,rfl,?_⟩;replace BK720:=kc_ BK720 hb;replace BK721:=kc_ BK721 hb;replace BK722:=kc_ BK722 hb;replace HB:=hs3_ HB GE720 GE721 GE722 hb;(try clear hb);(try clear hb2);(try clear hk);(try clear hi);have hnb16:=NB721_722.out;have hnc16:=NB722_721.out;obtain ⟨hcz17_0,hcz17_1,hfz17_0,hfz17_1⟩:=cf2_ BK721.out)|(go_at_call 73;(with_reducible refine (impl_GradesValid.calls k a1_0 _ _ l1_1 true _ ?side1 ?side2 A5.out).mono ?_);(case side1 => exact cr_ (Kd.C_below HR1_1.out HB.out));(case side2 => exact HC1_1.out);rintro e w18 ⟨rfl,hb⟩;replace BK720:=kc_ BK720 hb;replace BK721:=kc_ BK721 hb;replace BK722:=kc_ BK722 hb;replace HB:=hs3_ HB GE720 GE721 GE722 hb;(try clear hb);(try clear hb2);(try clear hk);(try clear hi);obtain ⟨hcz19_0,hcz19_1,hfz19_0,hfz19_1⟩:=cf2_ BK720.out;obtain ⟨hcz20_0,hcz20_1,hfz20_0,hfz20_1⟩:=cf2_ BK721.out)|((with_reducible refine gate_callee (f:=112) rfl ?_);refine goesL_ (some 25) rfl rfl Try.func112 (by kernel_rfl) rfl #[.int .i64 a0_0,.func (.func 114) #[] #[.pointer (some ⟨gb720,0,none⟩),.pointer (some ⟨gb721,0,none⟩)]] rfl lp_ ?_;(with_reducible refine (impl_filled__impl_MulGrades_1.calls k a0_0 gb720 a0_0 A0_1 c0_1 l0_1 gb721 a1_0 A1_1 c1_1 l1_1 t725 t726 _ ?side1 ?side2 ?side3 ?side4 ?side5 ?side6 A8.out).mono ?_);(case side1 => exact cr_ (Kd.C_below HR0_1.out HB.out));(case side2 => exact HC0_1.out);(case side3 => exact cr_ (Kd.C_below HR1_1.out HB.out));(case side4 => exact HC1_1.out);(case side5 => refine pe_ ?_;exact BK720.out);(case side6 => refine pe_ ?_;exact BK721.out);rintro e w21 ⟨v727,rfl,ho0,hb⟩;refine ⟨_,rfl,?_⟩;have HO728:=Aside0.mk (Kd.R_lower ho0 (below_size (be3_ HB.out GE720.out GE721.out GE722.out)));replace BK720:=kc_ BK720 hb;replace BK721:=kc_ BK721 hb;replace BK722:=kc_ BK722 hb;replace HB:=hs3_ HB GE720 GE721 GE722 hb;(try clear hb);(try clear hb2);(try clear hk);(try clear hi);(try clear ho0);obtain ⟨hcz22_0,hcz22_1,hfz22_0,hfz22_1⟩:=cf2_ BK722.out;obtain ⟨Ao23,co23,eo23⟩:=Kd.R_slice HO728.out;subst eo23))
    refine bodyPost_ret (results_ct rfl _ _ gb722 35 #[.int .i64 t725,.slice Ao23 t726.length co23] (0,0) _ rfl (by refine pe_ ?_;refine blk_put (cs:=#[.int .i64 t725,.slice none 0 0]) ?_ 1 _ rfl;refine pe_ ?_;refine blk_put (cs:=#[.int .i64 0,.slice none 0 0]) ?_ 0 _ rfl;refine pe_ ?_;exact BK722.out) Try.underlying35 rfl (by kernel_rfl)) rfl ?_
    exact ⟨_,er_,by refine pr_ ?_;exact Kd.R_mono (Kd.R_far (p:=⟨gb722,1,none⟩) (Kd.R_far (p:=⟨gb722,0,none⟩) (Kd.R_types HO728.out BK722.out (by decide)) (fun _ hk => hk.2) (.int .i64 t725)) (fun _ hk => hk.2) (.slice Ao23 t726.length co23)) (fun _ hk => trivial),be3_ HB.out GE720.out GE721.out GE722.out⟩
   ·rw [if_neg c7] at H
    have c7b0 : (a0_0 == a1_0) = false:=beq_eq_false_iff_ne.mpr c7
    have c7b1 : (a0_0 != a1_0) = true:=bne_iff_ne.mpr c7
    simp only [Option.some.injEq,Prod.mk.injEq] at H
    obtain ⟨rfl,rfl,rfl⟩:=H
    go_enter Try.func56,Try.ntmps56
    go_wp2_with (first|((with_reducible refine bev_ (N:=2) rfl rfl (cs:=#[.int .i64 a0_0,.slice A0_1 l0_1.length c0_1]) (t:=35) ?hr ?_);(case hr => first|(go_simp;done)|(go_simp;rfl));intro gb720 hg w24 hbox hb;have BK720:=Aside0.mk (hbox);have GW720:=gw0_ hg HB;have GE720:=GW720;replace HB:=hs0_ HB hb;clear hb hbox hg)|((with_reducible refine bev_ (N:=3) rfl rfl (cs:=#[.int .i64 a1_0,.slice A1_1 l1_1.length c1_1]) (t:=35) ?hr ?_);(case hr => first|(go_simp;done)|(go_simp;rfl));intro gb721 hg w25 hbox hb;have BK721:=Aside0.mk (hbox);have GW721:=gw1_ hg HB GE720;have GE721:=GW721;replace HB:=hs1_ HB GE720 hb;have NB720_721:=nm_ hg BK720;have NB721_720:=nn_ hg BK720;replace BK720:=kc_ BK720 hb;clear hb hbox hg)|((with_reducible refine bev_ (N:=4) rfl rfl (cs:=#[.int .i64 0,.slice none 0 0]) (t:=35) ?hr ?_);(case hr => first|(go_simp;done)|(go_simp;rfl));intro gb722 hg w26 hbox hb;have BK722:=Aside0.mk (hbox);have GW722:=gw2_ hg HB GE720 GE721;have GE722:=GW722;replace HB:=hs2_ HB GE720 GE721 hb;have NB720_722:=nm_ hg BK720;have NB722_720:=nn_ hg BK720;replace BK720:=kc_ BK720 hb;have NB721_722:=nm_ hg BK721;have NB722_721:=nn_ hg BK721;replace BK721:=kc_ BK721 hb;clear hb hbox hg;have hnb27:=NB720_721.out;have hnc27:=NB721_720.out;have hnb28:=NB720_722.out;have hnc28:=NB722_720.out;obtain ⟨hcz29_0,hcz29_1,hfz29_0,hfz29_1⟩:=cf2_ BK720.out)|((with_reducible refine gate_callee (f:=73) rfl ?_);refine goesL_ (some 7) rfl rfl Try.func73 (by kernel_rfl) rfl #[.agg #[.int .i64 a0_0,.slice A0_1 l0_1.length c0_1]] rfl lp_ ?_;(with_reducible refine (impl_GradesValid.calls k a0_0 _ _ l0_1 true _ ?side1 ?side2 A3.out).mono ?_);(case side1 => exact cr_ (Kd.C_below HR0_1.out HB.out));(case side2 => exact HC0_1.out);rintro e w30 ⟨rfl,hb⟩;refine ⟨_,rfl,?_⟩;replace BK720:=kc_ BK720 hb;replace BK721:=kc_ BK721 hb;replace BK722:=kc_ BK722 hb;replace HB:=hs3_ HB GE720 GE721 GE722 hb;(try clear hb);(try clear hb2);(try clear hk);(try clear hi);have hnb31:=NB721_722.out;have hnc31:=NB722_721.out;obtain ⟨hcz32_0,hcz32_1,hfz32_0,hfz32_1⟩:=cf2_ BK721.out)|(go_at_call 73;(with_reducible refine (impl_GradesValid.calls k a1_0 _ _ l1_1 true _ ?side1 ?side2 A5.out).mono ?_);(case side1 => exact cr_ (Kd.C_below HR1_1.out HB.out));(case side2 => exact HC1_1.out);rintro e w33 ⟨rfl,hb⟩;replace BK720:=kc_ BK720 hb;replace BK721:=kc_ BK721 hb;replace BK722:=kc_ BK722 hb;replace HB:=hs3_ HB GE720 GE721 GE722 hb;(try clear hb);(try clear hb2);(try clear hk);(try clear hi);obtain ⟨hcz34_0,hcz34_1,hfz34_0,hfz34_1⟩:=cf2_ BK720.out;obtain ⟨hcz35_0,hcz35_1,hfz35_0,hfz35_1⟩:=cf2_ BK721.out;obtain ⟨hcz36_0,hcz36_1,hfz36_0,hfz36_1⟩:=cf2_ BK722.out))
    refine bodyPost_ret (results_ct rfl _ _ gb722 35 #[.int .i64 0,.slice none 0 0] (0,0) _ rfl (by refine pe_ ?_;refine blk_put (cs:=#[.int .i64 0,.slice none 0 0]) ?_ 1 _ rfl;refine pe_ ?_;refine blk_put (cs:=#[.int .i64 0,.slice none 0 0]) ?_ 0 _ rfl;refine pe_ ?_;exact BK722.out) Try.underlying35 rfl (by kernel_rfl)) rfl ?_
    exact ⟨_,er_,by first|exact Kd.R_nil _ _ _ _ _|exact Kd.N_nil _ _ _ _ _|exact Kd.V_nil _ _ _ _ _|exact Kd.Q_nil _ _ _ _ _|exact Kd.S_nil _ _ _ _ _,be3_ HB.out GE720.out GE721.out GE722.out⟩
  ·replace c6:=Bool.eq_false_iff.mpr c6
   subst c6
   have H1 : (some (0,([] : List Int),false)) = some (r1,r2,r3):=by rw [if_neg (show ¬ (false = true) by decide)] at H;exact H
   clear H
   have H:=H1
   clear H1
   simp only [Option.some.injEq,Prod.mk.injEq] at H
   obtain ⟨rfl,rfl,rfl⟩:=H
   go_enter Try.func56,Try.ntmps56
   go_wp2_with (first|((with_reducible refine bev_ (N:=2) rfl rfl (cs:=#[.int .i64 a0_0,.slice A0_1 l0_1.length c0_1]) (t:=35) ?hr ?_);(case hr => first|(go_simp;done)|(go_simp;rfl));intro gb720 hg w37 hbox hb;have BK720:=Aside0.mk (hbox);have GW720:=gw0_ hg HB;have GE720:=GW720;replace HB:=hs0_ HB hb;clear hb hbox hg)|((with_reducible refine bev_ (N:=3) rfl rfl (cs:=#[.int .i64 a1_0,.slice A1_1 l1_1.length c1_1]) (t:=35) ?hr ?_);(case hr => first|(go_simp;done)|(go_simp;rfl));intro gb721 hg w38 hbox hb;have BK721:=Aside0.mk (hbox);have GW721:=gw1_ hg HB GE720;have GE721:=GW721;replace HB:=hs1_ HB GE720 hb;have NB720_721:=nm_ hg BK720;have NB721_720:=nn_ hg BK720;replace BK720:=kc_ BK720 hb;clear hb hbox hg)|((with_reducible refine bev_ (N:=4) rfl rfl (cs:=#[.int .i64 0,.slice none 0 0]) (t:=35) ?hr ?_);(case hr => first|(go_simp;done)|(go_simp;rfl));intro gb722 hg w39 hbox hb;have BK722:=Aside0.mk (hbox);have GW722:=gw2_ hg HB GE720 GE721;have GE722:=GW722;replace HB:=hs2_ HB GE720 GE721 hb;have NB720_722:=nm_ hg BK720;have NB722_720:=nn_ hg BK720;replace BK720:=kc_ BK720 hb;have NB721_722:=nm_ hg BK721;have NB722_721:=nn_ hg BK721;replace BK721:=kc_ BK721 hb;clear hb hbox hg;have hnb40:=NB720_721.out;have hnc40:=NB721_720.out;have hnb41:=NB720_722.out;have hnc41:=NB722_720.out;obtain ⟨hcz42_0,hcz42_1,hfz42_0,hfz42_1⟩:=cf2_ BK720.out)|((with_reducible refine gate_callee (f:=73) rfl ?_);refine goesL_ (some 7) rfl rfl Try.func73 (by kernel_rfl) rfl #[.agg #[.int .i64 a0_0,.slice A0_1 l0_1.length c0_1]] rfl lp_ ?_;(with_reducible refine (impl_GradesValid.calls k a0_0 _ _ l0_1 true _ ?side1 ?side2 A3.out).mono ?_);(case side1 => exact cr_ (Kd.C_below HR0_1.out HB.out));(case side2 => exact HC0_1.out);rintro e w43 ⟨rfl,hb⟩;refine ⟨_,rfl,?_⟩;replace BK720:=kc_ BK720 hb;replace BK721:=kc_ BK721 hb;replace BK722:=kc_ BK722 hb;replace HB:=hs3_ HB GE720 GE721 GE722 hb;(try clear hb);(try clear hb2);(try clear hk);(try clear hi);have hnb44:=NB721_722.out;have hnc44:=NB722_721.out;obtain ⟨hcz45_0,hcz45_1,hfz45_0,hfz45_1⟩:=cf2_ BK721.out)|(go_at_call 73;(with_reducible refine (impl_GradesValid.calls k a1_0 _ _ l1_1 false _ ?side1 ?side2 A5.out).mono ?_);(case side1 => exact cr_ (Kd.C_below HR1_1.out HB.out));(case side2 => exact HC1_1.out);rintro e w46 ⟨rfl,hb⟩;replace BK720:=kc_ BK720 hb;replace BK721:=kc_ BK721 hb;replace BK722:=kc_ BK722 hb;replace HB:=hs3_ HB GE720 GE721 GE722 hb;(try clear hb);(try clear hb2);(try clear hk);(try clear hi);obtain ⟨hcz47_0,hcz47_1,hfz47_0,hfz47_1⟩:=cf2_ BK722.out))
   refine bodyPost_ret (results_ct rfl _ _ gb722 35 #[.int .i64 0,.slice none 0 0] (0,0) _ rfl (by refine pe_ ?_;refine blk_put (cs:=#[.int .i64 0,.slice none 0 0]) ?_ 1 _ rfl;refine pe_ ?_;refine blk_put (cs:=#[.int .i64 0,.slice none 0 0]) ?_ 0 _ rfl;refine pe_ ?_;exact BK722.out) Try.underlying35 rfl (by kernel_rfl)) rfl ?_
   exact ⟨_,er_,by first|exact Kd.R_nil _ _ _ _ _|exact Kd.N_nil _ _ _ _ _|exact Kd.V_nil _ _ _ _ _|exact Kd.Q_nil _ _ _ _ _|exact Kd.S_nil _ _ _ _ _,be3_ HB.out GE720.out GE721.out GE722.out⟩
 ·replace c4:=Bool.eq_false_iff.mpr c4
  subst c4
  have H1 : (some (0,([] : List Int),false)) = some (r1,r2,r3):=by rw [if_neg (show ¬ (false = true) by decide)] at H;exact H
  clear H
  have H:=H1
  clear H1
  simp only [Option.some.injEq,Prod.mk.injEq] at H
  obtain ⟨rfl,rfl,rfl⟩:=H
  go_enter Try.func56,Try.ntmps56
  go_wp2_with (first|((with_reducible refine bev_ (N:=2) rfl rfl (cs:=#[.int .i64 a0_0,.slice A0_1 l0_1.length c0_1]) (t:=35) ?hr ?_);(case hr => first|(go_simp;done)|(go_simp;rfl));intro gb720 hg w48 hbox hb;have BK720:=Aside0.mk (hbox);have GW720:=gw0_ hg HB;have GE720:=GW720;replace HB:=hs0_ HB hb;clear hb hbox hg)|((with_reducible refine bev_ (N:=3) rfl rfl (cs:=#[.int .i64 a1_0,.slice A1_1 l1_1.length c1_1]) (t:=35) ?hr ?_);(case hr => first|(go_simp;done)|(go_simp;rfl));intro gb721 hg w49 hbox hb;have BK721:=Aside0.mk (hbox);have GW721:=gw1_ hg HB GE720;have GE721:=GW721;replace HB:=hs1_ HB GE720 hb;have NB720_721:=nm_ hg BK720;have NB721_720:=nn_ hg BK720;replace BK720:=kc_ BK720 hb;clear hb hbox hg)|((with_reducible refine bev_ (N:=4) rfl rfl (cs:=#[.int .i64 0,.slice none 0 0]) (t:=35) ?hr ?_);(case hr => first|(go_simp;done)|(go_simp;rfl));intro gb722 hg w50 hbox hb;have BK722:=Aside0.mk (hbox);have GW722:=gw2_ hg HB GE720 GE721;have GE722:=GW722;replace HB:=hs2_ HB GE720 GE721 hb;have NB720_722:=nm_ hg BK720;have NB722_720:=nn_ hg BK720;replace BK720:=kc_ BK720 hb;have NB721_722:=nm_ hg BK721;have NB722_721:=nn_ hg BK721;replace BK721:=kc_ BK721 hb;clear hb hbox hg;have hnb51:=NB720_721.out;have hnc51:=NB721_720.out;have hnb52:=NB720_722.out;have hnc52:=NB722_720.out;obtain ⟨hcz53_0,hcz53_1,hfz53_0,hfz53_1⟩:=cf2_ BK720.out)|((with_reducible refine gate_callee (f:=73) rfl ?_);refine goesL_ (some 7) rfl rfl Try.func73 (by kernel_rfl) rfl #[.agg #[.int .i64 a0_0,.slice A0_1 l0_1.length c0_1]] rfl lp_ ?_;(with_reducible refine (impl_GradesValid.calls k a0_0 _ _ l0_1 false _ ?side1 ?side2 A3.out).mono ?_);(case side1 => exact cr_ (Kd.C_below HR0_1.out HB.out));(case side2 => exact HC0_1.out);rintro e w54 ⟨rfl,hb⟩;refine ⟨_,rfl,?_⟩;replace BK720:=kc_ BK720 hb;replace BK721:=kc_ BK721 hb;replace BK722:=kc_ BK722 hb;replace HB:=hs3_ HB GE720 GE721 GE722 hb;(try clear hb);(try clear hb2);(try clear hk);(try clear hi);have hnb55:=NB722_721.out;have hnc55:=NB721_722.out;obtain ⟨hcz56_0,hcz56_1,hfz56_0,hfz56_1⟩:=cf2_ BK722.out))
  refine bodyPost_ret (results_ct rfl _ _ gb722 35 #[.int .i64 0,.slice none 0 0] (0,0) _ rfl (by refine pe_ ?_;refine blk_put (cs:=#[.int .i64 0,.slice none 0 0]) ?_ 1 _ rfl;refine pe_ ?_;refine blk_put (cs:=#[.int .i64 0,.slice none 0 0]) ?_ 0 _ rfl;refine pe_ ?_;exact BK722.out) Try.underlying35 rfl (by kernel_rfl)) rfl ?_
  exact ⟨_,er_,by first|exact Kd.R_nil _ _ _ _ _|exact Kd.N_nil _ _ _ _ _|exact Kd.V_nil _ _ _ _ _|exact Kd.Q_nil _ _ _ _ _|exact Kd.S_nil _ _ _ _ _,be3_ HB.out GE720.out GE721.out GE722.out⟩
def impl_Stabilise_1.l0 : Nat → Int → Int → Int → Int → Int → Int → List Int → Option (Int)
 | 0,_,_,_,_,_,_,_ => none
 | k + 1,x0,x1,x6,x10,x11,x3000,x3001 => if x11 < x10 then ((impl_Matrix_at.f x3000 x3001 x11 x11).bind fun t742 => (if t742 = 1 then ((impl_Matrix_at.f x3000 x3001 x0 x11).bind fun t743 => ((impl_Matrix_at.f x3000 x3001 x11 x1).bind fun t744 => (impl_Stabilise_1.l0 k x0 x1 (mn x6 (mx (mx t743 2) t744)) x10 (wrap64 (x11 + 1)) x3000 x3001))) else ((impl_Matrix_at.f x3000 x3001 x0 x11).bind fun t745 => ((impl_Matrix_at.f x3000 x3001 x11 x1).bind fun t746 => (impl_Stabilise_1.l0 k x0 x1 (mn x6 (mx (mx t745 t742) t746)) x10 (wrap64 (x11 + 1)) x3000 x3001))))) else (some x6)
def impl_Stabilise_1.f (k : Nat) (a0 : Int) (a1 : Int) (a2_0 : Int) (l2_1 : List Int) : Option (Int):=impl_Stabilise_1.l0 k a0 a1 3 a2_0 0 a2_0 l2_1
theorem impl_Stabilise_1.mono_l : ∀ k,(∀ y0 y1 y2 y3 y4 y5 y6,LeO (impl_Stabilise_1.l0 k y0 y1 y2 y3 y4 y5 y6) (impl_Stabilise_1.l0 (k + 1) y0 y1 y2 y3 y4 y5 y6))
 | 0 => fun _ _ _ _ _ _ _ r h => by simp [impl_Stabilise_1.l0] at h
 | k + 1 => by
  have ih0:=impl_Stabilise_1.mono_l k
  ·intro y0 y1 y2 y3 y4 y5 y6
   unfold impl_Stabilise_1.l0
   repeat' first
   | (with_reducible exact ih0 _ _ _ _ _ _ _)
   | (with_reducible first|exact LeO.refl _|exact LeO.none _|refine LeO.ite ?_ ?_|refine LeO.bind ?_ (fun _ => ?_))
   | exact ih0 _ _ _ _ _ _ _
   | exact LeO.none _
   | refine LeO.ite ?_ ?_
   | refine LeO.bind ?_ (fun _ => ?_)
theorem impl_Stabilise_1.mono : ∀ a0 a1 a2 a3 k,LeO (impl_Stabilise_1.f k a0 a1 a2 a3) (impl_Stabilise_1.f (k + 1) a0 a1 a2 a3):=by
 intro a0 a1 a2 a3 k
 have ih0:=impl_Stabilise_1.mono_l k
 unfold impl_Stabilise_1.f
 repeat' first
   | (with_reducible exact ih0 _ _ _ _ _ _ _)
   | (with_reducible first|exact LeO.refl _|exact LeO.none _|refine LeO.ite ?_ ?_|refine LeO.bind ?_ (fun _ => ?_))
   | exact ih0 _ _ _ _ _ _ _
   | exact LeO.none _
   | refine LeO.ite ?_ ?_
   | refine LeO.bind ?_ (fun _ => ?_)
def impl_Stabilise_1.T8 : Bool × List (List Nat × List Nat):=(true,[([],[]),([],[]),([],[]),([],[]),([1,2,3],[1,2,3]),([],[]),([],[]),([],[]),([],[]),([6,7,8,4],[6,7,8]),([4,5,9],[4,5,9]),([0,10],[0,10]),([11,9,0,1,2,3,4,5,6,7,8,9,10,11],[0,11])])
def impl_Stabilise_1.B8 : List Nat:=[0,0,0,0,14,0,0,0,0,478,1022,2047,4095]
theorem impl_Stabilise_1.tab8 : rtab .any (opsOf Try.f113 8) = impl_Stabilise_1.T8:=by kernel_rfl
theorem impl_Stabilise_1.bits8 : waitsOk impl_Stabilise_1.T8.2 impl_Stabilise_1.B8 = true:=by kernel_rfl
set_option maxHeartbeats 8000000 in
set_option maxRecDepth 100000 in
theorem impl_Stabilise_1.calls (k : Nat) (a0 : Int) (a1 : Int) (g2 : Nat) (a2_0 : Int) (A2_1 : Option Addr) (c2_1 : Nat) (l2_1 : List Int) (r : Int) (w : World) (hr2_1 : Kd.C (Kd.int .i64) w A2_1 l2_1.length l2_1) (hc2_1 : l2_1.length ≤ c2_1) (hb2 : w.heap[g2]? = some (.cells #[.int .i64 a2_0,.slice A2_1 l2_1.length c2_1] 35 (0,0))) (h : impl_Stabilise_1.f k a0 a1 a2_0 l2_1 = some r) :
  Calls Try.prog 113 #[.int .i64 a0,.int .i64 a1,.pointer (some ⟨g2,0,none⟩)] w fun e w' => e = .returned (.int .i64 r) ∧ Below w.heap.size w w':=by
 have hu35:=Try.underlying35
 have HR2_1:=Aside0.mk hr2_1
 have HC2_1:=Aside0.mk hc2_1
 clear hr2_1 hc2_1
 have BK2:=Aside0.mk hb2
 clear hb2
 have HB:=Aside0.mk (Below.refl w.heap.size w)
 have H : (impl_Stabilise_1.l0 k a0 a1 3 a2_0 0 a2_0 l2_1) = some r:=h
 clear h
 have H':=Aside0.mk H
 clear H
 obtain ⟨hcz4_0,hcz4_1,hfz4_0,hfz4_1⟩:=cf2_ BK2.out
 go_enter Try.func113,Try.ntmps113
 go_wp2
 go_loopg [6,11] k (fun kq v6 v11 w' => ∃ (x6_1 : Int) (x11_1 : Int),v6 = .int .i64 x6_1 ∧ v11 = .int .i64 x11_1 ∧ Aside0 (impl_Stabilise_1.l0 kq a0 a1 x6_1 a2_0 x11_1 a2_0 l2_1 = some r) ∧ Aside0 (kq ≤ k) ∧ Aside0 (w'.heap[g2]? = some (.cells #[.int .i64 a2_0,(.slice A2_1 l2_1.length c2_1)] 35 (0,0))) ∧ Aside0 (Below w.heap.size w w'))
 case atStart => exact ⟨(3),(0),rs_,rs_,H',⟨Nat.le_refl _⟩,⟨pe_ BK2.out⟩,⟨be0_ HB.out⟩⟩
 case round =>
  clear H'
  obtain ⟨x6_1,x11_1,rfl,rfl,HA,HK1,BK2,HB⟩:=hrel
  cases gk with
  | zero => exact absurd HA.out (by simp [impl_Stabilise_1.l0])
  | succ k1 =>
   have H:=HA.out
   clear HA
   simp only [impl_Stabilise_1.l0] at H
   by_cases c5 : x11_1 < a2_0
   ·rw [if_pos c5] at H
    have c5b0 : decide (x11_1 < a2_0) = true:=decide_eq_true c5
    clear c5
    replace H:=Option.bind_eq_some_iff.mp H
    obtain ⟨t742,A60,H⟩:=H
    replace H : (if t742 = 1 then ((impl_Matrix_at.f a2_0 l2_1 a0 x11_1).bind fun t743 => ((impl_Matrix_at.f a2_0 l2_1 x11_1 a1).bind fun t744 => (impl_Stabilise_1.l0 k1 a0 a1 (mn x6_1 (mx (mx t743 2) t744)) a2_0 (wrap64 (x11_1 + 1)) a2_0 l2_1))) else ((impl_Matrix_at.f a2_0 l2_1 a0 x11_1).bind fun t745 => ((impl_Matrix_at.f a2_0 l2_1 x11_1 a1).bind fun t746 => (impl_Stabilise_1.l0 k1 a0 a1 (mn x6_1 (mx (mx t745 t742) t746)) a2_0 (wrap64 (x11_1 + 1)) a2_0 l2_1)))) = some r:=H
    have A6:=Aside0.mk A60
    clear A60
    by_cases c7 : t742 = 1
    ·rw [if_pos c7] at H
     have c7b0 : (t742 == 1) = true:=beq_iff_eq.mpr c7
     have c7b1 : (t742 != 1) = false:=bne_eq_false_iff_eq.mpr c7
     clear c7
     replace H:=Option.bind_eq_some_iff.mp H
     obtain ⟨t743,A80,H⟩:=H
     replace H : ((impl_Matrix_at.f a2_0 l2_1 x11_1 a1).bind fun t744 => (impl_Stabilise_1.l0 k1 a0 a1 (mn x6_1 (mx (mx t743 2) t744)) a2_0 (wrap64 (x11_1 + 1)) a2_0 l2_1)) = some r:=H
     have A8:=Aside0.mk A80
     clear A80
     replace H:=Option.bind_eq_some_iff.mp H
     obtain ⟨t744,A90,H⟩:=H
     replace H : (impl_Stabilise_1.l0 k1 a0 a1 (mn x6_1 (mx (mx t743 2) t744)) a2_0 (wrap64 (x11_1 + 1)) a2_0 l2_1) = some r:=H
     have A9:=Aside0.mk A90
     clear A90
     obtain ⟨ji10,hji10⟩ : ∃ j_ : Int,(mx t743 2) = j_:=⟨_,rfl⟩
     replace H : (impl_Stabilise_1.l0 k1 a0 a1 (mn x6_1 (mx (ji10) t744)) a2_0 (wrap64 (x11_1 + 1)) a2_0 l2_1) = some r:=by first|(rw [hji10] at H;exact H)|(simp only [hji10] at H ⊢;exact H)
     (try rw [hji10] at A6)
     (try rw [hji10] at A8)
     (try rw [hji10] at A9)
     (try (have hji10l : 2 ≤ ji10:=by (rw [← hji10];unfold mx;(repeat' split) <;> omega)))
     (try (have hji10m : 0 ≤ ji10:=by omega))
     have hji10_ : (if t743 < 2 then 2 else t743) = ji10:=hji10
     obtain ⟨ji11,hji11⟩ : ∃ j_ : Int,(mx (ji10) t744) = j_:=⟨_,rfl⟩
     replace H : (impl_Stabilise_1.l0 k1 a0 a1 (mn x6_1 (ji11)) a2_0 (wrap64 (x11_1 + 1)) a2_0 l2_1) = some r:=by first|(rw [hji11] at H;exact H)|(simp only [hji11] at H ⊢;exact H)
     (try rw [hji11] at A6)
     (try rw [hji11] at A8)
     (try rw [hji11] at A9)
     have hji11_ : (if (ji10) < t744 then t744 else (ji10)) = ji11:=hji11
     obtain ⟨ji12,hji12⟩ : ∃ j_ : Int,(mn x6_1 (ji11)) = j_:=⟨_,rfl⟩
     replace H : (impl_Stabilise_1.l0 k1 a0 a1 ji12 a2_0 (wrap64 (x11_1 + 1)) a2_0 l2_1) = some r:=by first|(rw [hji12] at H;exact H)|(simp only [hji12] at H ⊢;exact H)
     (try rw [hji12] at A6)
     (try rw [hji12] at A8)
     (try rw [hji12] at A9)
     have hji12_ : (if (ji11) < x6_1 then (ji11) else x6_1) = ji12:=hji12
     have H':=Aside0.mk H
     clear H
     obtain ⟨hcz13_0,hcz13_1,hfz13_0,hfz13_1⟩:=cf2_ BK2.out
     try go_wp2_with (first|((with_reducible refine gate_callee (f:=74) rfl ?_);refine goesL_ (some 17) rfl rfl Try.func74 (by kernel_rfl) rfl #[.agg #[.int .i64 a2_0,.slice A2_1 l2_1.length c2_1],.int .i64 x11_1,.int .i64 x11_1] rfl lp_ ?_;(with_reducible refine (impl_Matrix_at.calls a2_0 _ _ l2_1 x11_1 x11_1 t742 _ ?side1 ?side2 A6.out).mono ?_);(case side1 => exact cr_ (Kd.C_below HR2_1.out HB.out));(case side2 => exact HC2_1.out);rintro e w14 ⟨rfl,hb⟩;refine ⟨_,rfl,?_⟩;replace BK2:=kc_ BK2 hb;replace HB:=hs0_ HB hb;(try clear hb);(try clear hb2);(try clear hk);(try clear hi)))
     replace BK2:=Aside0.mk (blk_drew BK2.out)
     replace HB:=Aside0.mk (below_drew1 HB.out)
     refine start_ (n:=13) (S:=fun w' => w'.cell? ⟨g2,0,none⟩ = some (.int .i64 a2_0) ∧ w'.cell? ⟨g2,1,none⟩ = some (.slice A2_1 l2_1.length c2_1)) (ds:=[]) #[false,false,false,false,false,false,false,false,false,false,false,false,false] (by kernel_rfl) rfl rfl ⟨bc_ BK2 0,bc_ BK2 1⟩ (fun hHeld => ?_);refine with_tabW impl_Stabilise_1.tab8 impl_Stabilise_1.bits8 (fun HT_ HW_ => ?_)
     generalize w14.drew = w15 at BK2 HB hHeld ⊢
     refine stW_ [.p 0 20,.p 2 22,.p 3 23,.p 5 25,.p 7 27,.p 8 28,.t 1 21,.t 6 26] 8 495 13 HT_.out HW_.out hHeld (a':=?_) ?_ rfl (by kernel_rfl) (fun _ _ _ _ h => h) ?_
     rotate_left
     ·repeat (first|exact Steps.nil|(refine Steps.p (oi:=?_) (v:=?_) (a1:=?_) ?_ ?_ ?_ ?_ ?_;rotate_left 2;rfl;rfl;(refine Or.inl ⟨by rfl,?_⟩;intro w';go_simp;with_reducible rfl);rotate_left;exact ap_)|(refine Steps.t (oi:=?_) (v:=?_) (a1:=?_) ?_ ?_ ?_ ?_ ?_;rotate_left 2;rfl;rfl;(refine Or.inl ⟨by rfl,?_⟩;rintro w' ⟨s0,s1⟩;go_simp;with_reducible rfl);rotate_left;exact ap_))
     refine one_ (i:=4) (N:=some 24) #[true,true,true,true,true,true,true,true,true,false,false,false,false] rfl rfl (one_of HT_.out (by kernel_rfl)) (by decide) (fun K hK => ?_)
     refine goes_ Try.func74 (by kernel_rfl) rfl #[.agg #[.int .i64 a2_0,.slice A2_1 l2_1.length c2_1],.int .i64 a0,.int .i64 x11_1] (by rfl) rfl rfl lp_ ?_
     with_reducible refine (impl_Matrix_at.calls a2_0 _ _ l2_1 a0 x11_1 t743 _ ?side1 ?side2 A8.out).mono ?_
     (case side1 => exact cr_ (Kd.C_below HR2_1.out HB.out))
     (case side2 => exact HC2_1.out)
     rintro e w16 ⟨rfl,hb⟩
     refine ⟨_,rfl,?_⟩
     replace BK2:=kc_ BK2 hb
     replace HB:=hs0_ HB hb
     (try clear hb)
     (try clear hb2)
     (try clear hk)
     (try clear hi)
     refine hK.out _ _ ⟨bc_ BK2 0,bc_ BK2 1⟩ (fun hHeld => ?_)
     clear hK K
     refine norm_ (a':=?_) ?_ ?_
     rotate_left
     ·show Act.put _ (some 24) _ = _
      simp only [Act.put,List.setIfInBounds_toArray,List.set_cons_zero,List.set_cons_succ,i64_w,i32_w]
      rfl
     refine one_ (i:=9) (N:=some 29) #[true,true,true,true,true,true,true,true,true,true,false,false,false] rfl rfl (one_of HT_.out (by kernel_rfl)) (by decide) (fun K hK => ?_)
     refine goes_ Try.func74 (by kernel_rfl) rfl #[.agg #[.int .i64 a2_0,.slice A2_1 l2_1.length c2_1],.int .i64 x11_1,.int .i64 a1] (by rfl) rfl rfl lp_ ?_
     with_reducible refine (impl_Matrix_at.calls a2_0 _ _ l2_1 x11_1 a1 t744 _ ?side1 ?side2 A9.out).mono ?_
     (case side1 => exact cr_ (Kd.C_below HR2_1.out HB.out))
     (case side2 => exact HC2_1.out)
     rintro e w17 ⟨rfl,hb⟩
     refine ⟨_,rfl,?_⟩
     replace BK2:=kc_ BK2 hb
     replace HB:=hs0_ HB hb
     (try clear hb)
     (try clear hb2)
     (try clear hk)
     (try clear hi)
     refine hK.out _ _ ⟨bc_ BK2 0,bc_ BK2 1⟩ (fun hHeld => ?_)
     clear hK K
     refine norm_ (a':=?_) ?_ ?_
     rotate_left
     ·show Act.put _ (some 29) _ = _
      simp only [Act.put,List.setIfInBounds_toArray,List.set_cons_zero,List.set_cons_succ,i64_w,i32_w]
      rfl
     refine stW_ [.p 10 30,.p 11 31,.p 12 6] 3 8191 13 HT_.out HW_.out hHeld (a':=?_) ?_ rfl (by kernel_rfl) (fun _ _ _ _ h => h) ?_
     rotate_left
     ·repeat (first|exact Steps.nil|(refine Steps.p (oi:=?_) (v:=?_) (a1:=?_) ?_ ?_ ?_ ?_ ?_;rotate_left 2;rfl;rfl;(refine Or.inl ⟨by rfl,?_⟩;intro w';go_simp;with_reducible rfl);rotate_left;exact ap_))
     refine done_ (done_of HT_.out (by kernel_rfl)) ?_
     try go_wp2
     go_roundg k1
     case measure => have:=HK1.out;omega
     case rel => exact ⟨(ji12),(wrap64 (x11_1 + 1)),(by first|rfl|(simp;done)|(simp only [← hji12] <;> (first|rfl|simp))|(simp [*];done)),rs_,H',⟨by have:=HK1.out;omega⟩,⟨pe_ BK2.out⟩,⟨be0_ HB.out⟩⟩
    ·rw [if_neg c7] at H
     have c7b0 : (t742 == 1) = false:=beq_eq_false_iff_ne.mpr c7
     have c7b1 : (t742 != 1) = true:=bne_iff_ne.mpr c7
     replace H:=Option.bind_eq_some_iff.mp H
     obtain ⟨t745,A180,H⟩:=H
     replace H : ((impl_Matrix_at.f a2_0 l2_1 x11_1 a1).bind fun t746 => (impl_Stabilise_1.l0 k1 a0 a1 (mn x6_1 (mx (mx t745 t742) t746)) a2_0 (wrap64 (x11_1 + 1)) a2_0 l2_1)) = some r:=H
     have A18:=Aside0.mk A180
     clear A180
     replace H:=Option.bind_eq_some_iff.mp H
     obtain ⟨t746,A190,H⟩:=H
     replace H : (impl_Stabilise_1.l0 k1 a0 a1 (mn x6_1 (mx (mx t745 t742) t746)) a2_0 (wrap64 (x11_1 + 1)) a2_0 l2_1) = some r:=H
     have A19:=Aside0.mk A190
     clear A190
     obtain ⟨ji20,hji20⟩ : ∃ j_ : Int,(mx t745 t742) = j_:=⟨_,rfl⟩
     replace H : (impl_Stabilise_1.l0 k1 a0 a1 (mn x6_1 (mx (ji20) t746)) a2_0 (wrap64 (x11_1 + 1)) a2_0 l2_1) = some r:=by first|(rw [hji20] at H;exact H)|(simp only [hji20] at H ⊢;exact H)
     (try rw [hji20] at A6)
     (try rw [hji20] at A18)
     (try rw [hji20] at A19)
     have hji20_ : (if t745 < t742 then t742 else t745) = ji20:=hji20
     obtain ⟨ji21,hji21⟩ : ∃ j_ : Int,(mx (ji20) t746) = j_:=⟨_,rfl⟩
     replace H : (impl_Stabilise_1.l0 k1 a0 a1 (mn x6_1 (ji21)) a2_0 (wrap64 (x11_1 + 1)) a2_0 l2_1) = some r:=by first|(rw [hji21] at H;exact H)|(simp only [hji21] at H ⊢;exact H)
     (try rw [hji21] at A6)
     (try rw [hji21] at A18)
     (try rw [hji21] at A19)
     have hji21_ : (if (ji20) < t746 then t746 else (ji20)) = ji21:=hji21
     obtain ⟨ji22,hji22⟩ : ∃ j_ : Int,(mn x6_1 (ji21)) = j_:=⟨_,rfl⟩
     replace H : (impl_Stabilise_1.l0 k1 a0 a1 ji22 a2_0 (wrap64 (x11_1 + 1)) a2_0 l2_1) = some r:=by first|(rw [hji22] at H;exact H)|(simp only [hji22] at H ⊢;exact H)
     (try rw [hji22] at A6)
     (try rw [hji22] at A18)
     (try rw [hji22] at A19)
     have hji22_ : (if (ji21) < x6_1 then (ji21) else x6_1) = ji22:=hji22
     have H':=Aside0.mk H
     clear H
     obtain ⟨hcz23_0,hcz23_1,hfz23_0,hfz23_1⟩:=cf2_ BK2.out
     try go_wp2_with (first|((with_reducible refine gate_callee (f:=74) rfl ?_);refine goesL_ (some 17) rfl rfl Try.func74 (by kernel_rfl) rfl #[.agg #[.int .i64 a2_0,.slice A2_1 l2_1.length c2_1],.int .i64 x11_1,.int .i64 x11_1] rfl lp_ ?_;(with_reducible refine (impl_Matrix_at.calls a2_0 _ _ l2_1 x11_1 x11_1 t742 _ ?side1 ?side2 A6.out).mono ?_);(case side1 => exact cr_ (Kd.C_below HR2_1.out HB.out));(case side2 => exact HC2_1.out);rintro e w24 ⟨rfl,hb⟩;refine ⟨_,rfl,?_⟩;replace BK2:=kc_ BK2 hb;replace HB:=hs0_ HB hb;(try clear hb);(try clear hb2);(try clear hk);(try clear hi)))
     replace BK2:=Aside0.mk (blk_drew BK2.out)
     replace HB:=Aside0.mk (below_drew1 HB.out)
     refine start_ (n:=13) (S:=fun w' => w'.cell? ⟨g2,0,none⟩ = some (.int .i64 a2_0) ∧ w'.cell? ⟨g2,1,none⟩ = some (.slice A2_1 l2_1.length c2_1)) (ds:=[]) #[false,false,false,false,false,false,false,false,false,false,false,false,false] (by kernel_rfl) rfl rfl ⟨bc_ BK2 0,bc_ BK2 1⟩ (fun hHeld => ?_);refine with_tabW impl_Stabilise_1.tab8 impl_Stabilise_1.bits8 (fun HT_ HW_ => ?_)
     generalize w24.drew = w25 at BK2 HB hHeld ⊢
     refine stW_ [.p 0 20,.p 2 22,.p 3 23,.p 5 25,.p 7 27,.p 8 28,.t 1 21,.t 6 26] 8 495 13 HT_.out HW_.out hHeld (a':=?_) ?_ rfl (by kernel_rfl) (fun _ _ _ _ h => h) ?_
     rotate_left
     ·repeat (first|exact Steps.nil|(refine Steps.p (oi:=?_) (v:=?_) (a1:=?_) ?_ ?_ ?_ ?_ ?_;rotate_left 2;rfl;rfl;(refine Or.inl ⟨by rfl,?_⟩;intro w';go_simp;with_reducible rfl);rotate_left;exact ap_)|(refine Steps.t (oi:=?_) (v:=?_) (a1:=?_) ?_ ?_ ?_ ?_ ?_;rotate_left 2;rfl;rfl;(refine Or.inl ⟨by rfl,?_⟩;rintro w' ⟨s0,s1⟩;go_simp;with_reducible rfl);rotate_left;exact ap_))
     refine one_ (i:=4) (N:=some 24) #[true,true,true,true,true,true,true,true,true,false,false,false,false] rfl rfl (one_of HT_.out (by kernel_rfl)) (by decide) (fun K hK => ?_)
     refine goes_ Try.func74 (by kernel_rfl) rfl #[.agg #[.int .i64 a2_0,.slice A2_1 l2_1.length c2_1],.int .i64 a0,.int .i64 x11_1] (by rfl) rfl rfl lp_ ?_
     with_reducible refine (impl_Matrix_at.calls a2_0 _ _ l2_1 a0 x11_1 t745 _ ?side1 ?side2 A18.out).mono ?_
     (case side1 => exact cr_ (Kd.C_below HR2_1.out HB.out))
     (case side2 => exact HC2_1.out)
     rintro e w26 ⟨rfl,hb⟩
     refine ⟨_,rfl,?_⟩
     replace BK2:=kc_ BK2 hb
     replace HB:=hs0_ HB hb
     (try clear hb)
     (try clear hb2)
     (try clear hk)
     (try clear hi)
     refine hK.out _ _ ⟨bc_ BK2 0,bc_ BK2 1⟩ (fun hHeld => ?_)
     clear hK K
     refine norm_ (a':=?_) ?_ ?_
     rotate_left
     ·show Act.put _ (some 24) _ = _
      simp only [Act.put,List.setIfInBounds_toArray,List.set_cons_zero,List.set_cons_succ,i64_w,i32_w]
      rfl
     refine one_ (i:=9) (N:=some 29) #[true,true,true,true,true,true,true,true,true,true,false,false,false] rfl rfl (one_of HT_.out (by kernel_rfl)) (by decide) (fun K hK => ?_)
     refine goes_ Try.func74 (by kernel_rfl) rfl #[.agg #[.int .i64 a2_0,.slice A2_1 l2_1.length c2_1],.int .i64 x11_1,.int .i64 a1] (by rfl) rfl rfl lp_ ?_
     with_reducible refine (impl_Matrix_at.calls a2_0 _ _ l2_1 x11_1 a1 t746 _ ?side1 ?side2 A19.out).mono ?_
     (case side1 => exact cr_ (Kd.C_below HR2_1.out HB.out))
     (case side2 => exact HC2_1.out)
     rintro e w27 ⟨rfl,hb⟩
     refine ⟨_,rfl,?_⟩
     replace BK2:=kc_ BK2 hb
     replace HB:=hs0_ HB hb
     (try clear hb)
     (try clear hb2)
     (try clear hk)
     (try clear hi)
     refine hK.out _ _ ⟨bc_ BK2 0,bc_ BK2 1⟩ (fun hHeld => ?_)
     clear hK K
     refine norm_ (a':=?_) ?_ ?_
     rotate_left
     ·show Act.put _ (some 29) _ = _
      simp only [Act.put,List.setIfInBounds_toArray,List.set_cons_zero,List.set_cons_succ,i64_w,i32_w]
      rfl
     refine stW_ [.p 10 30,.p 11 31,.p 12 6] 3 8191 13 HT_.out HW_.out hHeld (a':=?_) ?_ rfl (by kernel_rfl) (fun _ _ _ _ h => h) ?_
     rotate_left
     ·repeat (first|exact Steps.nil|(refine Steps.p (oi:=?_) (v:=?_) (a1:=?_) ?_ ?_ ?_ ?_ ?_;rotate_left 2;rfl;rfl;(refine Or.inl ⟨by rfl,?_⟩;intro w';go_simp;with_reducible rfl);rotate_left;exact ap_))
     refine done_ (done_of HT_.out (by kernel_rfl)) ?_
     try go_wp2
     go_roundg k1
     case measure => have:=HK1.out;omega
     case rel => exact ⟨(ji22),(wrap64 (x11_1 + 1)),(by first|rfl|(simp;done)|(simp only [← hji22] <;> (first|rfl|simp))|(simp [*];done)),rs_,H',⟨by have:=HK1.out;omega⟩,⟨pe_ BK2.out⟩,⟨be0_ HB.out⟩⟩
   ·rw [if_neg c5] at H
    have c5b0 : decide (x11_1 < a2_0) = false:=decide_eq_false c5
    clear c5
    obtain rfl:=Option.some.inj H
    go_wp2
    go_ret
    exact ⟨er_,be0_ HB.out⟩
def impl_filled__impl_Stabilise_1.f (k : Nat) (a0 : Int) (a1_0 : Int) (l1_1 : List Int) : Option (Int × List Int):=impl_filled.f (fun y0 y1 => impl_Stabilise_1.f k  y0 y1 a1_0 l1_1) k a0
theorem impl_filled__impl_Stabilise_1.mono : ∀ b0 b1 b2 k,LeO (impl_filled__impl_Stabilise_1.f k b0 b1 b2) (impl_filled__impl_Stabilise_1.f (k + 1) b0 b1 b2):=by
 intro b0 b1 b2 k
 exact impl_filled.monoP (fun _ _ => impl_Stabilise_1.mono _ _ _ _ _) _ k
set_option maxHeartbeats 2000000 in
theorem impl_filled__impl_Stabilise_1.calls (k : Nat) (a0 : Int) (g1 : Nat) (a1_0 : Int) (A1_1 : Option Addr) (c1_1 : Nat) (l1_1 : List Int) (r1 : Int) (r2 : List Int) (w : World) (hr1_1 : Kd.C (Kd.int .i64) w A1_1 l1_1.length l1_1) (hc1_1 : l1_1.length ≤ c1_1) (hb1 : w.heap[g1]? = some (.cells #[.int .i64 a1_0,.slice A1_1 l1_1.length c1_1] 35 (0,0))) (h : impl_filled__impl_Stabilise_1.f k a0 a1_0 l1_1 = some (r1,r2)) :
  Calls Try.prog 112 #[.int .i64 a0,.func (.func 113) #[] #[.pointer (some ⟨g1,0,none⟩)]] w fun e w' => ∃ v1_ : Value,e = .returned (.agg #[.int .i64 r1,v1_]) ∧ Kd.R (Kd.int .i64) 3 w' w.heap.size (fun _ => True) v1_ r2 ∧ Below w.heap.size w w':=by
 refine impl_filled.calls k a0 113 #[] #[.pointer (some ⟨g1,0,none⟩)] (fun y0 y1 => impl_Stabilise_1.f k  y0 y1 a1_0 l1_1) r1 r2 w  ⟨_,Try.func113,rfl,rfl⟩ ?_ h
 intro ay0 ay1 z0 W_ hB_  h_
 refine calls_of_args (args':=#[.int .i64 ay0,.int .i64 ay1,.pointer (some ⟨g1,0,none⟩)]) (by simp) ?_
 refine (impl_Stabilise_1.calls k ay0 ay1 g1 a1_0 A1_1 c1_1 l1_1 z0 W_ (Kd.C_below hr1_1 hB_) hc1_1 (blk_below hb1 hB_) h_).mono ?_
 exact fun e w' h => h
def slices_Equal_int_int.l0 : Nat → List Int → List Int → Int → Int → Option (Bool)
 | 0,_,_,_,_ => none
 | k + 1,x0,x1,x12,x13 => if x13 < x12 then (if 0 ≤ x13 then (if x13 < (x0.length : Int) then (if x13 < (x1.length : Int) then (if (rd x0 x13) = (rd x1 x13) then (slices_Equal_int_int.l0 k x0 x1 x12 (wrap64 (x13 + 1))) else (some false)) else (none)) else (none)) else (none)) else (some true)
def slices_Equal_int_int.f (k : Nat) (l0 : List Int) (l1 : List Int) : Option (Bool):=if (l0.length : Int) = (l1.length : Int) then (slices_Equal_int_int.l0 k l0 l1 (l0.length : Int) 0) else (some false)
theorem slices_Equal_int_int.mono_l : ∀ k,(∀ y0 y1 y2 y3,LeO (slices_Equal_int_int.l0 k y0 y1 y2 y3) (slices_Equal_int_int.l0 (k + 1) y0 y1 y2 y3))
 | 0 => fun _ _ _ _ r h => by simp [slices_Equal_int_int.l0] at h
 | k + 1 => by
  have ih0:=slices_Equal_int_int.mono_l k
  ·intro y0 y1 y2 y3
   unfold slices_Equal_int_int.l0
   repeat' first
   | (with_reducible exact ih0 _ _ _ _)
   | (with_reducible first|exact LeO.refl _|exact LeO.none _|refine LeO.ite ?_ ?_|refine LeO.bind ?_ (fun _ => ?_))
   | exact ih0 _ _ _ _
   | exact LeO.none _
   | refine LeO.ite ?_ ?_
   | refine LeO.bind ?_ (fun _ => ?_)
theorem slices_Equal_int_int.mono : ∀ a0 a1 k,LeO (slices_Equal_int_int.f k a0 a1) (slices_Equal_int_int.f (k + 1) a0 a1):=by
 intro a0 a1 k
 have ih0:=slices_Equal_int_int.mono_l k
 unfold slices_Equal_int_int.f
 repeat' first
   | (with_reducible exact ih0 _ _ _ _)
   | (with_reducible first|exact LeO.refl _|exact LeO.none _|refine LeO.ite ?_ ?_|refine LeO.bind ?_ (fun _ => ?_))
   | exact ih0 _ _ _ _
   | exact LeO.none _
   | refine LeO.ite ?_ ?_
   | refine LeO.bind ?_ (fun _ => ?_)
set_option maxHeartbeats 8000000 in
set_option maxRecDepth 100000 in
theorem slices_Equal_int_int.calls (k : Nat) (A0 : Option Addr) (c0 : Nat) (l0 : List Int) (A1 : Option Addr) (c1 : Nat) (l1 : List Int) (r : Bool) (w : World) (hr0 : Kd.C (Kd.int .i64) w A0 l0.length l0) (hc0 : l0.length ≤ c0) (hr1 : Kd.C (Kd.int .i64) w A1 l1.length l1) (hc1 : l1.length ≤ c1) (h : slices_Equal_int_int.f k l0 l1 = some r) :
  Calls Try.prog 149 #[.slice A0 l0.length c0,.slice A1 l1.length c1] w fun e w' => e = .returned (.bool r) ∧ Drawn0 w w':=by
 have HR0:=Aside0.mk hr0
 have HC0:=Aside0.mk hc0
 clear hr0 hc0
 have HR1:=Aside0.mk hr1
 have HC1:=Aside0.mk hc1
 clear hr1 hc1
 have H : (if (l0.length : Int) = (l1.length : Int) then (slices_Equal_int_int.l0 k l0 l1 (l0.length : Int) 0) else (some false)) = some r:=h
 clear h
 by_cases c3 : (l0.length : Int) = (l1.length : Int)
 ·rw [if_pos c3] at H
  have c3b0 : ((l0.length : Int) == (l1.length : Int)) = true:=beq_iff_eq.mpr c3
  have c3b1 : ((l0.length : Int) != (l1.length : Int)) = false:=bne_eq_false_iff_eq.mpr c3
  have c3b2 : (l0.length == l1.length) = true:=by first|simpa using c3|(simp at c3 ⊢;omega)
  clear c3
  have H':=Aside0.mk H
  clear H
  go_enter Try.func149,Try.ntmps149
  go_wp2
  repeat (go_quiet (fail);try go_wp2)
  go_loopg [13] k (fun kq v13 w' => ∃ (x13_1 : Int),v13 = .int .i64 x13_1 ∧ Aside0 (slices_Equal_int_int.l0 kq l0 l1 (l0.length : Int) x13_1 = some r) ∧ Aside0 (kq ≤ k) ∧ Drawn0 w w')
  case atStart => exact ⟨(0),rs_,H',⟨Nat.le_refl _⟩,by repeat (first|exact Drawn0.refl _|apply Drawn0.step)⟩
  case round =>
   clear H'
   obtain ⟨x13_1,rfl,HA,HK1,⟨m1,rfl⟩⟩:=hrel
   cases gk with
   | zero => exact absurd HA.out (by simp [slices_Equal_int_int.l0])
   | succ k1 =>
    have H:=HA.out
    clear HA
    simp only [slices_Equal_int_int.l0] at H
    by_cases c4 : x13_1 < (l0.length : Int)
    ·rw [if_pos c4] at H
     have c4b0 : decide (x13_1 < (l0.length : Int)) = true:=decide_eq_true c4
     clear c4
     by_cases c5 : 0 ≤ x13_1
     ·rw [if_pos c5] at H
      have c5b0 : decide (0 ≤ x13_1) = true:=decide_eq_true c5
      clear c5
      by_cases c6 : x13_1 < (l0.length : Int)
      ·rw [if_pos c6] at H
       have c6b0 : decide (x13_1 < (l0.length : Int)) = true:=decide_eq_true c6
       clear c6
       by_cases c7 : x13_1 < (l1.length : Int)
       ·rw [if_pos c7] at H
        have c7b0 : decide (x13_1 < (l1.length : Int)) = true:=decide_eq_true c7
        clear c7
        by_cases c8 : (rd l0 x13_1) = (rd l1 x13_1)
        ·rw [if_pos c8] at H
         have c8b0 : ((rd l0 x13_1) == (rd l1 x13_1)) = true:=beq_iff_eq.mpr c8
         have c8b1 : ((rd l0 x13_1) != (rd l1 x13_1)) = false:=bne_eq_false_iff_eq.mpr c8
         clear c8
         have H':=Aside0.mk H
         clear H
         have p729 : 0 ≤ (x13_1 : Int):=od_
         have q729 : x13_1 < (l0.length : Int):=od_
         obtain ⟨ad729,e729,hx729_0⟩:=Kd.at_int HR0.out x13_1 p729 q729
         cases e729
         replace p729:=eq_true p729
         replace q729:=eq_true q729
         have p730 : 0 ≤ (x13_1 : Int):=od_
         have q730 : x13_1 < (l1.length : Int):=od_
         obtain ⟨ad730,e730,hx730_0⟩:=Kd.at_int HR1.out x13_1 p730 q730
         cases e730
         replace p730:=eq_true p730
         replace q730:=eq_true q730
         go_wp2
         repeat (go_quiet (fail);try go_wp2)
         go_roundg k1
         case measure => have:=HK1.out;omega
         case rel => exact ⟨(wrap64 (x13_1 + 1)),rs_,H',⟨by have:=HK1.out;omega⟩,by repeat (first|exact Drawn0.refl _|apply Drawn0.step)⟩
        ·rw [if_neg c8] at H
         have c8b0 : ((rd l0 x13_1) == (rd l1 x13_1)) = false:=beq_eq_false_iff_ne.mpr c8
         have c8b1 : ((rd l0 x13_1) != (rd l1 x13_1)) = true:=bne_iff_ne.mpr c8
         obtain rfl:=Option.some.inj H
         have p729 : 0 ≤ (x13_1 : Int):=od_
         have q729 : x13_1 < (l0.length : Int):=od_
         obtain ⟨ad729,e729,hx729_0⟩:=Kd.at_int HR0.out x13_1 p729 q729
         cases e729
         replace p729:=eq_true p729
         replace q729:=eq_true q729
         have p730 : 0 ≤ (x13_1 : Int):=od_
         have q730 : x13_1 < (l1.length : Int):=od_
         obtain ⟨ad730,e730,hx730_0⟩:=Kd.at_int HR1.out x13_1 p730 q730
         cases e730
         replace p730:=eq_true p730
         replace q730:=eq_true q730
         go_wp2
         repeat (go_quiet (fail);try go_wp2)
         go_ret
         exact ⟨by first|rfl|(simp;done)|(simp [*];done),by repeat (first|exact Drawn0.refl _|apply Drawn0.step)⟩
       ·rw [if_neg c7] at H
        exact absurd H (by simp)
      ·rw [if_neg c6] at H
       exact absurd H (by simp)
     ·rw [if_neg c5] at H
      exact absurd H (by simp)
    ·rw [if_neg c4] at H
     have c4b0 : decide (x13_1 < (l0.length : Int)) = false:=decide_eq_false c4
     clear c4
     obtain rfl:=Option.some.inj H
     go_wp2
     repeat (go_quiet (fail);try go_wp2)
     go_ret
     exact ⟨by first|rfl|(simp;done)|(simp [*];done),by repeat (first|exact Drawn0.refl _|apply Drawn0.step)⟩
 ·rw [if_neg c3] at H
  have c3b0 : ((l0.length : Int) == (l1.length : Int)) = false:=beq_eq_false_iff_ne.mpr c3
  have c3b1 : ((l0.length : Int) != (l1.length : Int)) = true:=bne_iff_ne.mpr c3
  have c3b2 : (l0.length == l1.length) = false:=by first|simpa using c3|(simp at c3 ⊢;omega)
  obtain rfl:=Option.some.inj H
  go_enter Try.func149,Try.ntmps149
  go_wp2
  repeat (go_quiet (fail);try go_wp2)
  go_ret
  exact ⟨by first|rfl|(simp;done)|(simp [*];done),by repeat (first|exact Drawn0.refl _|apply Drawn0.step)⟩
def impl_SameMatrix.f (k : Nat) (a0_0 : Int) (l0_1 : List Int) (a1_0 : Int) (l1_1 : List Int) : Option (Bool):=if a0_0 = a1_0 then ((slices_Equal_int_int.f k l0_1 l1_1).bind fun t733 => (some t733)) else (some false)
theorem impl_SameMatrix.mono : ∀ a0 a1 a2 a3 k,LeO (impl_SameMatrix.f k a0 a1 a2 a3) (impl_SameMatrix.f (k + 1) a0 a1 a2 a3):=by
 intro a0 a1 a2 a3 k
 unfold impl_SameMatrix.f
 repeat' first
   | (with_reducible exact slices_Equal_int_int.mono _ _ _)
   | (with_reducible first|exact LeO.refl _|exact LeO.none _|refine LeO.ite ?_ ?_|refine LeO.bind ?_ (fun _ => ?_))
   | exact slices_Equal_int_int.mono _ _ _
   | exact LeO.none _
   | refine LeO.ite ?_ ?_
   | refine LeO.bind ?_ (fun _ => ?_)
set_option maxHeartbeats 8000000 in
set_option maxRecDepth 100000 in
theorem impl_SameMatrix.calls (k : Nat) (a0_0 : Int) (A0_1 : Option Addr) (c0_1 : Nat) (l0_1 : List Int) (a1_0 : Int) (A1_1 : Option Addr) (c1_1 : Nat) (l1_1 : List Int) (r : Bool) (w : World) (hr0_1 : Kd.C (Kd.int .i64) w A0_1 l0_1.length l0_1) (hc0_1 : l0_1.length ≤ c0_1) (hr1_1 : Kd.C (Kd.int .i64) w A1_1 l1_1.length l1_1) (hc1_1 : l1_1.length ≤ c1_1) (h : impl_SameMatrix.f k a0_0 l0_1 a1_0 l1_1 = some r) :
  Calls Try.prog 95 #[.agg #[.int .i64 a0_0,.slice A0_1 l0_1.length c0_1],.agg #[.int .i64 a1_0,.slice A1_1 l1_1.length c1_1]] w fun e w' => e = .returned (.bool r) ∧ Below w.heap.size w w':=by
 have hu35:=Try.underlying35
 have HR0_1:=Aside0.mk hr0_1
 have HC0_1:=Aside0.mk hc0_1
 clear hr0_1 hc0_1
 have HR1_1:=Aside0.mk hr1_1
 have HC1_1:=Aside0.mk hc1_1
 clear hr1_1 hc1_1
 have HB:=Aside0.mk (Below.refl w.heap.size w)
 have H : (if a0_0 = a1_0 then ((slices_Equal_int_int.f k l0_1 l1_1).bind fun t733 => (some t733)) else (some false)) = some r:=h
 clear h
 by_cases c3 : a0_0 = a1_0
 ·rw [if_pos c3] at H
  have c3b0 : (a0_0 == a1_0) = true:=beq_iff_eq.mpr c3
  have c3b1 : (a0_0 != a1_0) = false:=bne_eq_false_iff_eq.mpr c3
  clear c3
  replace H:=Option.bind_eq_some_iff.mp H
  obtain ⟨t733,A40,H⟩:=H
  replace H : (some t733) = some r:=H
  have A4:=Aside0.mk A40
  clear A40
  obtain rfl:=Option.some.inj H
  go_enter Try.func95,Try.ntmps95
  go_wp2_with (first|((with_reducible refine bev_ (N:=2) rfl rfl (cs:=#[.int .i64 a0_0,.slice A0_1 l0_1.length c0_1]) (t:=35) ?hr ?_);(case hr => first|(go_simp;done)|(go_simp;rfl));intro gb731 hg w5 hbox hb;have BK731:=Aside0.mk (hbox);have GW731:=gw0_ hg HB;have GE731:=GW731;replace HB:=hs0_ HB hb;clear hb hbox hg)|((with_reducible refine bev_ (N:=3) rfl rfl (cs:=#[.int .i64 a1_0,.slice A1_1 l1_1.length c1_1]) (t:=35) ?hr ?_);(case hr => first|(go_simp;done)|(go_simp;rfl));intro gb732 hg w6 hbox hb;have BK732:=Aside0.mk (hbox);have GW732:=gw1_ hg HB GE731;have GE732:=GW732;replace HB:=hs1_ HB GE731 hb;have NB731_732:=nm_ hg BK731;have NB732_731:=nn_ hg BK731;replace BK731:=kc_ BK731 hb;clear hb hbox hg;have hnb7:=NB731_732.out;have hnc7:=NB732_731.out;obtain ⟨hcz8_0,hcz8_1,hfz8_0,hfz8_1⟩:=cf2_ BK731.out;obtain ⟨hcz9_0,hcz9_1,hfz9_0,hfz9_1⟩:=cf2_ BK732.out)|(go_at_call 149;(with_reducible refine (slices_Equal_int_int.calls k _ _ l0_1 _ _ l1_1 t733 _ ?side1 ?side2 ?side3 ?side4 A4.out).mono ?_);(case side1 => exact cr_ (Kd.C_below HR0_1.out HB.out));(case side2 => exact HC0_1.out);(case side3 => exact cr_ (Kd.C_below HR1_1.out HB.out));(case side4 => exact HC1_1.out);rintro e w' ⟨rfl,⟨nd,rfl⟩⟩))
  go_ret
  exact ⟨er_,be2_ HB.out GE731.out GE732.out⟩
 ·rw [if_neg c3] at H
  have c3b0 : (a0_0 == a1_0) = false:=beq_eq_false_iff_ne.mpr c3
  have c3b1 : (a0_0 != a1_0) = true:=bne_iff_ne.mpr c3
  obtain rfl:=Option.some.inj H
  go_enter Try.func95,Try.ntmps95
  go_wp2_with (first|((with_reducible refine bev_ (N:=2) rfl rfl (cs:=#[.int .i64 a0_0,.slice A0_1 l0_1.length c0_1]) (t:=35) ?hr ?_);(case hr => first|(go_simp;done)|(go_simp;rfl));intro gb731 hg w10 hbox hb;have BK731:=Aside0.mk (hbox);have GW731:=gw0_ hg HB;have GE731:=GW731;replace HB:=hs0_ HB hb;clear hb hbox hg)|((with_reducible refine bev_ (N:=3) rfl rfl (cs:=#[.int .i64 a1_0,.slice A1_1 l1_1.length c1_1]) (t:=35) ?hr ?_);(case hr => first|(go_simp;done)|(go_simp;rfl));intro gb732 hg w11 hbox hb;have BK732:=Aside0.mk (hbox);have GW732:=gw1_ hg HB GE731;have GE732:=GW732;replace HB:=hs1_ HB GE731 hb;have NB731_732:=nm_ hg BK731;have NB732_731:=nn_ hg BK731;replace BK731:=kc_ BK731 hb;clear hb hbox hg;have hnb12:=NB731_732.out;have hnc12:=NB732_731.out;obtain ⟨hcz13_0,hcz13_1,hfz13_0,hfz13_1⟩:=cf2_ BK731.out;obtain ⟨hcz14_0,hcz14_1,hfz14_0,hfz14_1⟩:=cf2_ BK732.out))
  go_ret
  exact ⟨er_,be2_ HB.out GE731.out GE732.out⟩
def impl_IsIdempotent.f (k : Nat) (a0_0 : Int) (l0_1 : List Int) : Option (Bool):=(impl_MulGrades.f k a0_0 l0_1 a0_0 l0_1).bind fun bt735 => (if bt735.2.2 = true then ((impl_SameMatrix.f k bt735.1 bt735.2.1 a0_0 l0_1).bind fun t741 => (some t741)) else (some false))
theorem impl_IsIdempotent.mono : ∀ a0 a1 k,LeO (impl_IsIdempotent.f k a0 a1) (impl_IsIdempotent.f (k + 1) a0 a1):=by
 intro a0 a1 k
 unfold impl_IsIdempotent.f
 repeat' first
   | (with_reducible exact impl_MulGrades.mono _ _ _ _ _)
   | (with_reducible exact impl_SameMatrix.mono _ _ _ _ _)
   | (with_reducible first|exact LeO.refl _|exact LeO.none _|refine LeO.ite ?_ ?_|refine LeO.bind ?_ (fun _ => ?_))
   | exact impl_MulGrades.mono _ _ _ _ _
   | exact impl_SameMatrix.mono _ _ _ _ _
   | exact LeO.none _
   | refine LeO.ite ?_ ?_
   | refine LeO.bind ?_ (fun _ => ?_)
set_option maxHeartbeats 8000000 in
set_option maxRecDepth 100000 in
theorem impl_IsIdempotent.calls (k : Nat) (a0_0 : Int) (A0_1 : Option Addr) (c0_1 : Nat) (l0_1 : List Int) (r : Bool) (w : World) (hr0_1 : Kd.C (Kd.int .i64) w A0_1 l0_1.length l0_1) (hc0_1 : l0_1.length ≤ c0_1) (h : impl_IsIdempotent.f k a0_0 l0_1 = some r) :
  Calls Try.prog 111 #[.agg #[.int .i64 a0_0,.slice A0_1 l0_1.length c0_1]] w fun e w' => e = .returned (.bool r) ∧ Below w.heap.size w w':=by
 have hu35:=Try.underlying35
 have HR0_1:=Aside0.mk hr0_1
 have HC0_1:=Aside0.mk hc0_1
 clear hr0_1 hc0_1
 have HB:=Aside0.mk (Below.refl w.heap.size w)
 have H : ((impl_MulGrades.f k a0_0 l0_1 a0_0 l0_1).bind fun bt735 => (if bt735.2.2 = true then ((impl_SameMatrix.f k bt735.1 bt735.2.1 a0_0 l0_1).bind fun t741 => (some t741)) else (some false))) = some r:=h
 clear h
 replace H:=Option.bind_eq_some_iff.mp H
 obtain ⟨⟨t735,t736,t739⟩,A20,H⟩:=H
 replace H : (if t739 = true then ((impl_SameMatrix.f k t735 t736 a0_0 l0_1).bind fun t741 => (some t741)) else (some false)) = some r:=H
 have A2:=Aside0.mk A20
 clear A20
 by_cases c3 : t739 = true
 ·subst c3
  have H1 : ((impl_SameMatrix.f k t735 t736 a0_0 l0_1).bind fun t741 => (some t741)) = some r:=by rw [if_pos rfl] at H;exact H
  clear H
  have H:=H1
  clear H1
  replace H:=Option.bind_eq_some_iff.mp H
  obtain ⟨t741,A40,H⟩:=H
  replace H : (some t741) = some r:=H
  have A4:=Aside0.mk A40
  clear A40
  obtain rfl:=Option.some.inj H
  go_enter Try.func111,Try.ntmps111
  go_wp2_with (first|((with_reducible refine bev_ (N:=1) rfl rfl (cs:=#[.int .i64 a0_0,.slice A0_1 l0_1.length c0_1]) (t:=35) ?hr ?_);(case hr => first|(go_simp;done)|(go_simp;rfl));intro gb734 hg w5 hbox hb;have BK734:=Aside0.mk (hbox);have GW734:=gw0_ hg HB;have GE734:=GW734;replace HB:=hs0_ HB hb;clear hb hbox hg;obtain ⟨hcz6_0,hcz6_1,hfz6_0,hfz6_1⟩:=cf2_ BK734.out)|((with_reducible refine gate_callee (f:=56) rfl ?_);refine goesL_ (some 8) rfl rfl Try.func56 (by kernel_rfl) rfl #[.agg #[.int .i64 a0_0,.slice A0_1 l0_1.length c0_1],.agg #[.int .i64 a0_0,.slice A0_1 l0_1.length c0_1]] rfl lp_ ?_;(with_reducible refine (impl_MulGrades.calls k a0_0 _ _ l0_1 a0_0 _ _ l0_1 t735 t736 true _ ?side1 ?side2 ?side3 ?side4 A2.out).mono ?_);(case side1 => exact cr_ (Kd.C_below HR0_1.out HB.out));(case side2 => exact HC0_1.out);(case side3 => exact cr_ (Kd.C_below HR0_1.out HB.out));(case side4 => exact HC0_1.out);rintro e w7 ⟨v737,rfl,ho0,hb⟩;refine ⟨_,rfl,?_⟩;have HO738:=Aside0.mk (Kd.R_lower ho0 (below_size (be1_ HB.out GE734.out)));replace BK734:=kc_ BK734 hb;replace HB:=hs1_ HB GE734 hb;(try clear hb);(try clear hb2);(try clear hk);(try clear hi);(try clear ho0))|((with_reducible refine bev_ (N:=3) rfl rfl (cs:=#[.int .i64 0,.slice none 0 0]) (t:=35) ?hr ?_);(case hr => first|(go_simp;done)|(go_simp;rfl));intro gb740 hg w8 hbox hb;replace HO738:=Aside0.mk (Kd.R_below (pr_ HO738.out) hb);have BK740:=Aside0.mk (hbox);have GW740:=gw1_ hg HB GE734;have GE740:=GW740;replace HB:=hs1_ HB GE734 hb;have NB734_740:=nm_ hg BK734;have NB740_734:=nn_ hg BK734;replace BK734:=kc_ BK734 hb;clear hb hbox hg;have hnb9:=NB740_734.out;have hnc9:=NB734_740.out;obtain ⟨hcz10_0,hcz10_1,hfz10_0,hfz10_1⟩:=cf2_ BK740.out;obtain ⟨Ao11,co11,eo11⟩:=Kd.R_slice HO738.out;subst eo11;obtain ⟨hcz12_0,hcz12_1,hfz12_0,hfz12_1⟩:=cf2_ BK734.out)|(go_at_call 95;(with_reducible refine (impl_SameMatrix.calls k t735 _ _ t736 a0_0 _ _ l0_1 t741 _ ?side1 ?side2 ?side3 ?side4 A4.out).mono ?_);(case side1 => refine (Kd.R_reads' (e:=3) (base:=w.heap.size) (ok:=fun k_ => True) (n:=t736.length) (c:=co11) ?_).2.2;exact (by refine pr_ ?_;exact (Kd.R_mono (Kd.R_far (p:=⟨gb740,1,none⟩) (Kd.R_far (p:=⟨gb740,0,none⟩) (Kd.R_types HO738.out BK740.out (by decide)) (fun _ hk => hk.2) (.int .i64 t735)) (fun _ hk => hk.2) (.slice Ao11 t736.length co11)) (fun _ h_ => h_.1))));(case side2 => exact (Kd.R_reads' HO738.out).2.1);(case side3 => exact Kd.C_below HR0_1.out (be2_ HB.out GE734.out GE740.out));(case side4 => exact HC0_1.out);rintro e w13 ⟨rfl,hb⟩;replace HO738:=Aside0.mk (Kd.R_below (by refine pr_ ?_;exact (Kd.R_mono (Kd.R_far (p:=⟨gb740,1,none⟩) (Kd.R_far (p:=⟨gb740,0,none⟩) (Kd.R_types HO738.out BK740.out (by decide)) (fun _ hk => hk.2) (.int .i64 t735)) (fun _ hk => hk.2) (.slice Ao11 t736.length co11)) (fun _ h_ => h_.1))) hb);replace BK734:=Aside0.mk (blk_below (g:=gb734) (o:=.cells #[.int .i64 a0_0,.slice A0_1 l0_1.length c0_1] 35 (0,0)) (bf1_ BK734.out NB734_740.out) hb);replace BK740:=Aside0.mk (blk_below (g:=gb740) (o:=.cells #[.int .i64 t735,.slice Ao11 t736.length co11] 35 (0,0)) (by refine pe_ ?_;refine blk_put (cs:=#[.int .i64 t735,.slice none 0 0]) ?_ 1 _ rfl;refine pe_ ?_;refine blk_put (cs:=#[.int .i64 0,.slice none 0 0]) ?_ 0 _ rfl;refine pe_ ?_;exact BK740.out) hb);replace HB:=hs2_ HB GE734 GE740 hb;(try clear hb);(try clear hb2);(try clear hk);(try clear hi)))
  go_ret
  exact ⟨er_,be2_ HB.out GE734.out GE740.out⟩
 ·replace c3:=Bool.eq_false_iff.mpr c3
  subst c3
  have H1 : (some false) = some r:=by rw [if_neg (show ¬ (false = true) by decide)] at H;exact H
  clear H
  have H:=H1
  clear H1
  obtain rfl:=Option.some.inj H
  go_enter Try.func111,Try.ntmps111
  go_wp2_with (first|((with_reducible refine bev_ (N:=1) rfl rfl (cs:=#[.int .i64 a0_0,.slice A0_1 l0_1.length c0_1]) (t:=35) ?hr ?_);(case hr => first|(go_simp;done)|(go_simp;rfl));intro gb734 hg w14 hbox hb;have BK734:=Aside0.mk (hbox);have GW734:=gw0_ hg HB;have GE734:=GW734;replace HB:=hs0_ HB hb;clear hb hbox hg;obtain ⟨hcz15_0,hcz15_1,hfz15_0,hfz15_1⟩:=cf2_ BK734.out)|((with_reducible refine gate_callee (f:=56) rfl ?_);refine goesL_ (some 8) rfl rfl Try.func56 (by kernel_rfl) rfl #[.agg #[.int .i64 a0_0,.slice A0_1 l0_1.length c0_1],.agg #[.int .i64 a0_0,.slice A0_1 l0_1.length c0_1]] rfl lp_ ?_;(with_reducible refine (impl_MulGrades.calls k a0_0 _ _ l0_1 a0_0 _ _ l0_1 t735 t736 false _ ?side1 ?side2 ?side3 ?side4 A2.out).mono ?_);(case side1 => exact cr_ (Kd.C_below HR0_1.out HB.out));(case side2 => exact HC0_1.out);(case side3 => exact cr_ (Kd.C_below HR0_1.out HB.out));(case side4 => exact HC0_1.out);rintro e w16 ⟨v737,rfl,ho0,hb⟩;refine ⟨_,rfl,?_⟩;have HO738:=Aside0.mk (Kd.R_lower ho0 (below_size (be1_ HB.out GE734.out)));replace BK734:=kc_ BK734 hb;replace HB:=hs1_ HB GE734 hb;(try clear hb);(try clear hb2);(try clear hk);(try clear hi);(try clear ho0))|((with_reducible refine bev_ (N:=3) rfl rfl (cs:=#[.int .i64 0,.slice none 0 0]) (t:=35) ?hr ?_);(case hr => first|(go_simp;done)|(go_simp;rfl));intro gb740 hg w17 hbox hb;replace HO738:=Aside0.mk (Kd.R_below (pr_ HO738.out) hb);have BK740:=Aside0.mk (hbox);have GW740:=gw1_ hg HB GE734;have GE740:=GW740;replace HB:=hs1_ HB GE734 hb;have NB734_740:=nm_ hg BK734;have NB740_734:=nn_ hg BK734;replace BK734:=kc_ BK734 hb;clear hb hbox hg;have hnb18:=NB740_734.out;have hnc18:=NB734_740.out;obtain ⟨hcz19_0,hcz19_1,hfz19_0,hfz19_1⟩:=cf2_ BK740.out;obtain ⟨Ao20,co20,eo20⟩:=Kd.R_slice HO738.out;subst eo20))
  go_ret
  exact ⟨er_,be2_ HB.out GE734.out GE740.out⟩
def impl_Stabilise.f (k : Nat) (a0_0 : Int) (l0_1 : List Int) : Option (Int × List Int × Bool):=(impl_IsIdempotent.f k a0_0 l0_1).bind fun t749 => (if t749 = true then ((impl_filled__impl_Stabilise_1.f k a0_0 a0_0 l0_1).bind fun bt750 => (some (bt750.1,bt750.2,true))) else (some (0,([] : List Int),false)))
theorem impl_Stabilise.mono : ∀ a0 a1 k,LeO (impl_Stabilise.f k a0 a1) (impl_Stabilise.f (k + 1) a0 a1):=by
 intro a0 a1 k
 unfold impl_Stabilise.f
 repeat' first
   | (with_reducible exact impl_IsIdempotent.mono _ _ _)
   | (with_reducible exact impl_filled__impl_Stabilise_1.mono _ _ _ _)
   | (with_reducible first|exact LeO.refl _|exact LeO.none _|refine LeO.ite ?_ ?_|refine LeO.bind ?_ (fun _ => ?_))
   | exact impl_IsIdempotent.mono _ _ _
   | exact impl_filled__impl_Stabilise_1.mono _ _ _ _
   | exact LeO.none _
   | refine LeO.ite ?_ ?_
   | refine LeO.bind ?_ (fun _ => ?_)
set_option maxHeartbeats 8000000 in
set_option maxRecDepth 100000 in
theorem impl_Stabilise.calls (k : Nat) (a0_0 : Int) (A0_1 : Option Addr) (c0_1 : Nat) (l0_1 : List Int) (r1 : Int) (r2 : List Int) (r3 : Bool) (w : World) (hr0_1 : Kd.C (Kd.int .i64) w A0_1 l0_1.length l0_1) (hc0_1 : l0_1.length ≤ c0_1) (h : impl_Stabilise.f k a0_0 l0_1 = some (r1,r2,r3)) :
  Calls Try.prog 54 #[.agg #[.int .i64 a0_0,.slice A0_1 l0_1.length c0_1]] w fun e w' => ∃ v1_ : Value,e = .returned (.tuple #[.agg #[.int .i64 r1,v1_],.bool r3]) ∧ Kd.R (Kd.int .i64) 3 w' w.heap.size (fun _ => True) v1_ r2 ∧ Below w.heap.size w w':=by
 have hu35:=Try.underlying35
 have HR0_1:=Aside0.mk hr0_1
 have HC0_1:=Aside0.mk hc0_1
 clear hr0_1 hc0_1
 have HB:=Aside0.mk (Below.refl w.heap.size w)
 have H : ((impl_IsIdempotent.f k a0_0 l0_1).bind fun t749 => (if t749 = true then ((impl_filled__impl_Stabilise_1.f k a0_0 a0_0 l0_1).bind fun bt750 => (some (bt750.1,bt750.2,true))) else (some (0,([] : List Int),false)))) = some (r1,r2,r3):=h
 clear h
 replace H:=Option.bind_eq_some_iff.mp H
 obtain ⟨t749,A20,H⟩:=H
 replace H : (if t749 = true then ((impl_filled__impl_Stabilise_1.f k a0_0 a0_0 l0_1).bind fun bt750 => (some (bt750.1,bt750.2,true))) else (some (0,([] : List Int),false))) = some (r1,r2,r3):=H
 have A2:=Aside0.mk A20
 clear A20
 by_cases c3 : t749 = true
 ·subst c3
  have H1 : ((impl_filled__impl_Stabilise_1.f k a0_0 a0_0 l0_1).bind fun bt750 => (some (bt750.1,bt750.2,true))) = some (r1,r2,r3):=by rw [if_pos rfl] at H;exact H
  clear H
  have H:=H1
  clear H1
  replace H:=Option.bind_eq_some_iff.mp H
  obtain ⟨⟨t750,t751⟩,A40,H⟩:=H
  replace H : (some (t750,t751,true)) = some (r1,r2,r3):=H
  have A4:=Aside0.mk A40
  clear A40
  simp only [Option.some.injEq,Prod.mk.injEq] at H
  obtain ⟨rfl,rfl,rfl⟩:=H
  go_enter Try.func54,Try.ntmps54
  go_wp2_with (first|((with_reducible refine bev_ (N:=1) rfl rfl (cs:=#[.int .i64 a0_0,.slice A0_1 l0_1.length c0_1]) (t:=35) ?hr ?_);(case hr => first|(go_simp;done)|(go_simp;rfl));intro gb747 hg w5 hbox hb;have BK747:=Aside0.mk (hbox);have GW747:=gw0_ hg HB;have GE747:=GW747;replace HB:=hs0_ HB hb;clear hb hbox hg)|((with_reducible refine bev_ (N:=2) rfl rfl (cs:=#[.int .i64 0,.slice none 0 0]) (t:=35) ?hr ?_);(case hr => first|(go_simp;done)|(go_simp;rfl));intro gb748 hg w6 hbox hb;have BK748:=Aside0.mk (hbox);have GW748:=gw1_ hg HB GE747;have GE748:=GW748;replace HB:=hs1_ HB GE747 hb;have NB747_748:=nm_ hg BK747;have NB748_747:=nn_ hg BK747;replace BK747:=kc_ BK747 hb;clear hb hbox hg;have hnb7:=NB747_748.out;have hnc7:=NB748_747.out;obtain ⟨hcz8_0,hcz8_1,hfz8_0,hfz8_1⟩:=cf2_ BK747.out)|((with_reducible refine gate_callee (f:=111) rfl ?_);refine goesL_ (some 5) rfl rfl Try.func111 (by kernel_rfl) rfl #[.agg #[.int .i64 a0_0,.slice A0_1 l0_1.length c0_1]] rfl lp_ ?_;(with_reducible refine (impl_IsIdempotent.calls k a0_0 _ _ l0_1 true _ ?side1 ?side2 A2.out).mono ?_);(case side1 => exact cr_ (Kd.C_below HR0_1.out HB.out));(case side2 => exact HC0_1.out);rintro e w9 ⟨rfl,hb⟩;refine ⟨_,rfl,?_⟩;replace BK747:=kc_ BK747 hb;replace BK748:=kc_ BK748 hb;replace HB:=hs2_ HB GE747 GE748 hb;(try clear hb);(try clear hb2);(try clear hk);(try clear hi);obtain ⟨hcz10_0,hcz10_1,hfz10_0,hfz10_1⟩:=cf2_ BK747.out)|((with_reducible refine gate_callee (f:=112) rfl ?_);refine goesL_ (some 11) rfl rfl Try.func112 (by kernel_rfl) rfl #[.int .i64 a0_0,.func (.func 113) #[] #[.pointer (some ⟨gb747,0,none⟩)]] rfl lp_ ?_;(with_reducible refine (impl_filled__impl_Stabilise_1.calls k a0_0 gb747 a0_0 A0_1 c0_1 l0_1 t750 t751 _ ?side1 ?side2 ?side3 A4.out).mono ?_);(case side1 => exact cr_ (Kd.C_below HR0_1.out HB.out));(case side2 => exact HC0_1.out);(case side3 => refine pe_ ?_;exact BK747.out);rintro e w11 ⟨v752,rfl,ho0,hb⟩;refine ⟨_,rfl,?_⟩;have HO753:=Aside0.mk (Kd.R_lower ho0 (below_size (be2_ HB.out GE747.out GE748.out)));replace BK747:=kc_ BK747 hb;replace BK748:=kc_ BK748 hb;replace HB:=hs2_ HB GE747 GE748 hb;(try clear hb);(try clear hb2);(try clear hk);(try clear hi);(try clear ho0);obtain ⟨hcz12_0,hcz12_1,hfz12_0,hfz12_1⟩:=cf2_ BK748.out;obtain ⟨Ao13,co13,eo13⟩:=Kd.R_slice HO753.out;subst eo13))
  refine bodyPost_ret (results_ct rfl _ _ gb748 35 #[.int .i64 t750,.slice Ao13 t751.length co13] (0,0) _ rfl (by refine pe_ ?_;refine blk_put (cs:=#[.int .i64 t750,.slice none 0 0]) ?_ 1 _ rfl;refine pe_ ?_;refine blk_put (cs:=#[.int .i64 0,.slice none 0 0]) ?_ 0 _ rfl;refine pe_ ?_;exact BK748.out) Try.underlying35 rfl (by kernel_rfl)) rfl ?_
  exact ⟨_,er_,by refine pr_ ?_;exact Kd.R_mono (Kd.R_far (p:=⟨gb748,1,none⟩) (Kd.R_far (p:=⟨gb748,0,none⟩) (Kd.R_types HO753.out BK748.out (by decide)) (fun _ hk => hk.2) (.int .i64 t750)) (fun _ hk => hk.2) (.slice Ao13 t751.length co13)) (fun _ hk => trivial),be2_ HB.out GE747.out GE748.out⟩
 ·replace c3:=Bool.eq_false_iff.mpr c3
  subst c3
  have H1 : (some (0,([] : List Int),false)) = some (r1,r2,r3):=by rw [if_neg (show ¬ (false = true) by decide)] at H;exact H
  clear H
  have H:=H1
  clear H1
  simp only [Option.some.injEq,Prod.mk.injEq] at H
  obtain ⟨rfl,rfl,rfl⟩:=H
  go_enter Try.func54,Try.ntmps54
  go_wp2_with (first|((with_reducible refine bev_ (N:=1) rfl rfl (cs:=#[.int .i64 a0_0,.slice A0_1 l0_1.length c0_1]) (t:=35) ?hr ?_);(case hr => first|(go_simp;done)|(go_simp;rfl));intro gb747 hg w14 hbox hb;have BK747:=Aside0.mk (hbox);have GW747:=gw0_ hg HB;have GE747:=GW747;replace HB:=hs0_ HB hb;clear hb hbox hg)|((with_reducible refine bev_ (N:=2) rfl rfl (cs:=#[.int .i64 0,.slice none 0 0]) (t:=35) ?hr ?_);(case hr => first|(go_simp;done)|(go_simp;rfl));intro gb748 hg w15 hbox hb;have BK748:=Aside0.mk (hbox);have GW748:=gw1_ hg HB GE747;have GE748:=GW748;replace HB:=hs1_ HB GE747 hb;have NB747_748:=nm_ hg BK747;have NB748_747:=nn_ hg BK747;replace BK747:=kc_ BK747 hb;clear hb hbox hg;have hnb16:=NB747_748.out;have hnc16:=NB748_747.out;obtain ⟨hcz17_0,hcz17_1,hfz17_0,hfz17_1⟩:=cf2_ BK747.out)|((with_reducible refine gate_callee (f:=111) rfl ?_);refine goesL_ (some 5) rfl rfl Try.func111 (by kernel_rfl) rfl #[.agg #[.int .i64 a0_0,.slice A0_1 l0_1.length c0_1]] rfl lp_ ?_;(with_reducible refine (impl_IsIdempotent.calls k a0_0 _ _ l0_1 false _ ?side1 ?side2 A2.out).mono ?_);(case side1 => exact cr_ (Kd.C_below HR0_1.out HB.out));(case side2 => exact HC0_1.out);rintro e w18 ⟨rfl,hb⟩;refine ⟨_,rfl,?_⟩;replace BK747:=kc_ BK747 hb;replace BK748:=kc_ BK748 hb;replace HB:=hs2_ HB GE747 GE748 hb;(try clear hb);(try clear hb2);(try clear hk);(try clear hi);obtain ⟨hcz19_0,hcz19_1,hfz19_0,hfz19_1⟩:=cf2_ BK748.out))
  refine bodyPost_ret (results_ct rfl _ _ gb748 35 #[.int .i64 0,.slice none 0 0] (0,0) _ rfl (by refine pe_ ?_;refine blk_put (cs:=#[.int .i64 0,.slice none 0 0]) ?_ 1 _ rfl;refine pe_ ?_;refine blk_put (cs:=#[.int .i64 0,.slice none 0 0]) ?_ 0 _ rfl;refine pe_ ?_;exact BK748.out) Try.underlying35 rfl (by kernel_rfl)) rfl ?_
  exact ⟨_,er_,by first|exact Kd.R_nil _ _ _ _ _|exact Kd.N_nil _ _ _ _ _|exact Kd.V_nil _ _ _ _ _|exact Kd.Q_nil _ _ _ _ _|exact Kd.S_nil _ _ _ _ _,be2_ HB.out GE747.out GE748.out⟩
def impl_StepMatrix_1.f (a0 : Int) (a1 : Int) : Option (Int):=some 1000000
set_option maxHeartbeats 8000000 in
set_option maxRecDepth 100000 in
theorem impl_StepMatrix_1.calls (a0 : Int) (a1 : Int) (r : Int) (w : World) (h : impl_StepMatrix_1.f a0 a1 = some r) :
  Calls Try.prog 135 #[.int .i64 a0,.int .i64 a1] w fun e w' => e = .returned (.int .i64 r) ∧ Drawn0 w w':=by
 have H : (some 1000000) = some r:=h
 clear h
 obtain rfl:=Option.some.inj H
 go_enter Try.func135,Try.ntmps135
 go_wp2
 go_ret
 exact ⟨by first|rfl|(simp;done)|(simp [*];done),by repeat (first|exact Drawn0.refl _|apply Drawn0.step)⟩
def impl_filled__impl_StepMatrix_1.f (k : Nat) (a0 : Int) : Option (Int × List Int):=impl_filled.f (fun y0 y1 => impl_StepMatrix_1.f  y0 y1 ) k a0
theorem impl_filled__impl_StepMatrix_1.mono : ∀ b0 k,LeO (impl_filled__impl_StepMatrix_1.f k b0) (impl_filled__impl_StepMatrix_1.f (k + 1) b0):=by
 intro b0 k
 exact impl_filled.monoP (fun _ _ => LeO.refl _) _ k
set_option maxHeartbeats 2000000 in
theorem impl_filled__impl_StepMatrix_1.calls (k : Nat) (a0 : Int) (r1 : Int) (r2 : List Int) (w : World) (h : impl_filled__impl_StepMatrix_1.f k a0 = some (r1,r2)) :
  Calls Try.prog 112 #[.int .i64 a0,.func (.func 135) #[] #[]] w fun e w' => ∃ v1_ : Value,e = .returned (.agg #[.int .i64 r1,v1_]) ∧ Kd.R (Kd.int .i64) 3 w' w.heap.size (fun _ => True) v1_ r2 ∧ Below w.heap.size w w':=by
 refine impl_filled.calls k a0 135 #[] #[] (fun y0 y1 => impl_StepMatrix_1.f  y0 y1 ) r1 r2 w  ⟨_,Try.func135,rfl,rfl⟩ ?_ h
 intro ay0 ay1 z0 W_ hB_  h_
 refine calls_of_args (args':=#[.int .i64 ay0,.int .i64 ay1]) (by simp) ?_
 refine (impl_StepMatrix_1.calls ay0 ay1 z0 W_  h_).mono ?_
 rintro e w' ⟨rfl,hd⟩
 exact ⟨rfl,hd.below⟩
mutual
def impl_StepMatrix.j0 : Nat → ByteArray → Bool → Int → List Int → List Int → List (S92) → Option (Int × List Int × Bool)
 | 0,_,_,_,_,_,_ => none
 | k + 1,x1,x19,x365000,x365001,x365002,x365003 => if x19 = true then (some (0,([] : List Int),false)) else ((impl_filled__impl_StepMatrix_1.f k x365000).bind fun bt367 => (impl_StepMatrix.l0 k x1 x365003 (x365003.length : Int) 0 bt367.1 bt367.2))
def impl_StepMatrix.l0 : Nat → ByteArray → List (S92) → Int → Int → Int → List Int → Option (Int × List Int × Bool)
 | 0,_,_,_,_,_,_ => none
 | k + 1,x1,x25,x26,x27,x372000,x372001 => if x27 < x26 then (if 0 ≤ x27 then (if x27 < (x25.length : Int) then (if ((rd_T92 x25 x27).f1).toList = x1.toList then (if 0 ≤ (wrap64 ((wrap64 (((rd_T92 x25 x27).f0) * x372000)) + ((rd_T92 x25 x27).f2))) then (if (wrap64 ((wrap64 (((rd_T92 x25 x27).f0) * x372000)) + ((rd_T92 x25 x27).f2))) < (x372001.length : Int) then (impl_StepMatrix.l0 k x1 x25 x26 (wrap64 (x27 + 1)) x372000 (x372001.set ((wrap64 ((wrap64 (((rd_T92 x25 x27).f0) * x372000)) + ((rd_T92 x25 x27).f2))) : Int).toNat ((rd_T92 x25 x27).f3))) else (none)) else (none)) else (impl_StepMatrix.l0 k x1 x25 x26 (wrap64 (x27 + 1)) x372000 x372001)) else (none)) else (none)) else (some (x372000,x372001,true))
end
def impl_StepMatrix.f (k : Nat) (a0_0 : Int) (l0_1 : List Int) (l0_2 : List Int) (l0_3 : List (S92)) (a1 : ByteArray) : Option (Int × List Int × Bool):=(impl_AutomatonValid.f k a0_0 l0_1 l0_2 l0_3).bind fun t366 => (if t366 = true then (if a1.toList = ([97] : List UInt8) then (impl_StepMatrix.j0 k a1 false a0_0 l0_1 l0_2 l0_3) else (impl_StepMatrix.j0 k a1 (a1.toList != ([98] : List UInt8)) a0_0 l0_1 l0_2 l0_3)) else (impl_StepMatrix.j0 k a1 true a0_0 l0_1 l0_2 l0_3))
theorem impl_StepMatrix.mono_l : ∀ k,(∀ y0 y1 y2 y3 y4 y5,LeO (impl_StepMatrix.j0 k y0 y1 y2 y3 y4 y5) (impl_StepMatrix.j0 (k + 1) y0 y1 y2 y3 y4 y5)) ∧ (∀ y0 y1 y2 y3 y4 y5,LeO (impl_StepMatrix.l0 k y0 y1 y2 y3 y4 y5) (impl_StepMatrix.l0 (k + 1) y0 y1 y2 y3 y4 y5))
 | 0 => ⟨fun _ _ _ _ _ _ r h => by simp [impl_StepMatrix.j0] at h,fun _ _ _ _ _ _ r h => by simp [impl_StepMatrix.l0] at h⟩
 | k + 1 => by
  obtain ⟨ih0,ih1⟩:=impl_StepMatrix.mono_l k
  refine ⟨?_,?_⟩
  ·intro y0 y1 y2 y3 y4 y5
   unfold impl_StepMatrix.j0
   repeat' first
   | (with_reducible exact ih0 _ _ _ _ _ _)
   | (with_reducible exact ih1 _ _ _ _ _ _)
   | (with_reducible exact impl_AutomatonValid.mono _ _ _ _ _)
   | (with_reducible exact impl_filled__impl_StepMatrix_1.mono _ _)
   | (with_reducible first|exact LeO.refl _|exact LeO.none _|refine LeO.ite ?_ ?_|refine LeO.bind ?_ (fun _ => ?_))
   | exact ih0 _ _ _ _ _ _
   | exact ih1 _ _ _ _ _ _
   | exact impl_AutomatonValid.mono _ _ _ _ _
   | exact impl_filled__impl_StepMatrix_1.mono _ _
   | exact LeO.none _
   | refine LeO.ite ?_ ?_
   | refine LeO.bind ?_ (fun _ => ?_)
  ·intro y0 y1 y2 y3 y4 y5
   unfold impl_StepMatrix.l0
   repeat' first
   | (with_reducible exact ih0 _ _ _ _ _ _)
   | (with_reducible exact ih1 _ _ _ _ _ _)
   | (with_reducible exact impl_AutomatonValid.mono _ _ _ _ _)
   | (with_reducible exact impl_filled__impl_StepMatrix_1.mono _ _)
   | (with_reducible first|exact LeO.refl _|exact LeO.none _|refine LeO.ite ?_ ?_|refine LeO.bind ?_ (fun _ => ?_))
   | exact ih0 _ _ _ _ _ _
   | exact ih1 _ _ _ _ _ _
   | exact impl_AutomatonValid.mono _ _ _ _ _
   | exact impl_filled__impl_StepMatrix_1.mono _ _
   | exact LeO.none _
   | refine LeO.ite ?_ ?_
   | refine LeO.bind ?_ (fun _ => ?_)
theorem impl_StepMatrix.mono : ∀ a0 a1 a2 a3 a4 k,LeO (impl_StepMatrix.f k a0 a1 a2 a3 a4) (impl_StepMatrix.f (k + 1) a0 a1 a2 a3 a4):=by
 intro a0 a1 a2 a3 a4 k
 obtain ⟨ih0,ih1⟩:=impl_StepMatrix.mono_l k
 unfold impl_StepMatrix.f
 repeat' first
   | (with_reducible exact ih0 _ _ _ _ _ _)
   | (with_reducible exact ih1 _ _ _ _ _ _)
   | (with_reducible exact impl_AutomatonValid.mono _ _ _ _ _)
   | (with_reducible exact impl_filled__impl_StepMatrix_1.mono _ _)
   | (with_reducible first|exact LeO.refl _|exact LeO.none _|refine LeO.ite ?_ ?_|refine LeO.bind ?_ (fun _ => ?_))
   | exact ih0 _ _ _ _ _ _
   | exact ih1 _ _ _ _ _ _
   | exact impl_AutomatonValid.mono _ _ _ _ _
   | exact impl_filled__impl_StepMatrix_1.mono _ _
   | exact LeO.none _
   | refine LeO.ite ?_ ?_
   | refine LeO.bind ?_ (fun _ => ?_)
set_option maxHeartbeats 8000000 in
set_option maxRecDepth 100000 in
theorem impl_StepMatrix.calls (k : Nat) (a0_0 : Int) (A0_1 : Option Addr) (c0_1 : Nat) (l0_1 : List Int) (A0_2 : Option Addr) (c0_2 : Nat) (l0_2 : List Int) (A0_3 : Option Addr) (c0_3 : Nat) (l0_3 : List (S92)) (a1 : ByteArray) (r1 : Int) (r2 : List Int) (r3 : Bool) (w : World) (hr0_1 : Kd.C (Kd.int .i64) w A0_1 l0_1.length l0_1) (hc0_1 : l0_1.length ≤ c0_1) (hr0_2 : Kd.C (Kd.int .i64) w A0_2 l0_2.length l0_2) (hc0_2 : l0_2.length ≤ c0_2) (hr0_3 : Kd.C k92 w A0_3 l0_3.length l0_3) (hc0_3 : l0_3.length ≤ c0_3) (h : impl_StepMatrix.f k a0_0 l0_1 l0_2 l0_3 a1 = some (r1,r2,r3)) :
  Calls Try.prog 80 #[.agg #[.int .i64 a0_0,.slice A0_1 l0_1.length c0_1,.slice A0_2 l0_2.length c0_2,.slice A0_3 l0_3.length c0_3],.string a1] w fun e w' => ∃ v1_ : Value,e = .returned (.tuple #[.agg #[.int .i64 r1,v1_],.bool r3]) ∧ Kd.R (Kd.int .i64) 3 w' w.heap.size (fun _ => True) v1_ r2 ∧ Below w.heap.size w w':=by
 have hu33:=Try.underlying33
 have hu35:=Try.underlying35
 have hu92:=Try.underlying92
 have HR0_1:=Aside0.mk hr0_1
 have HC0_1:=Aside0.mk hc0_1
 clear hr0_1 hc0_1
 have HR0_2:=Aside0.mk hr0_2
 have HC0_2:=Aside0.mk hc0_2
 clear hr0_2 hc0_2
 have HR0_3:=Aside0.mk hr0_3
 have HC0_3:=Aside0.mk hc0_3
 clear hr0_3 hc0_3
 have HB:=Aside0.mk (Below.refl w.heap.size w)
 have H : ((impl_AutomatonValid.f k a0_0 l0_1 l0_2 l0_3).bind fun t366 => (if t366 = true then (if a1.toList = ([97] : List UInt8) then (impl_StepMatrix.j0 k a1 false a0_0 l0_1 l0_2 l0_3) else (impl_StepMatrix.j0 k a1 (a1.toList != ([98] : List UInt8)) a0_0 l0_1 l0_2 l0_3)) else (impl_StepMatrix.j0 k a1 true a0_0 l0_1 l0_2 l0_3))) = some (r1,r2,r3):=h
 clear h
 have HC3:=Aside0.mk H
 clear H
 go_enter Try.func80,Try.ntmps80
 go_upto_region 1 with (first|((with_reducible refine bev_ (N:=2) rfl rfl (cs:=#[.int .i64 a0_0,.slice A0_1 l0_1.length c0_1,.slice A0_2 l0_2.length c0_2,.slice A0_3 l0_3.length c0_3]) (t:=33) ?hr ?_);(case hr => first|(go_simp;done)|(go_simp;rfl));intro gb364 hg w4 hbox hb;have BK364:=Aside0.mk (hbox);have GW364:=gw0_ hg HB;have GE364:=GW364;replace HB:=hs0_ HB hb;clear hb hbox hg)|((with_reducible refine bev_ (N:=4) rfl rfl (cs:=#[.int .i64 0,.slice none 0 0]) (t:=35) ?hr ?_);(case hr => first|(go_simp;done)|(go_simp;rfl));intro gb365 hg w5 hbox hb;have BK365:=Aside0.mk (hbox);have GW365:=gw1_ hg HB GE364;have GE365:=GW365;replace HB:=hs1_ HB GE364 hb;have NB364_365:=nm_ hg BK364;have NB365_364:=nn_ hg BK364;replace BK364:=kc_ BK364 hb;clear hb hbox hg))
 (try simp only [Act.put,List.setIfInBounds_toArray,List.set_cons_zero,List.set_cons_succ])
 go_cut [19] (fun v19 wc => ∃ (kq : Nat) (x19_2 : Bool),v19 = .bool x19_2 ∧ Aside0 (impl_StepMatrix.j0 kq a1 x19_2 a0_0 l0_1 l0_2 l0_3 = some (r1,r2,r3)) ∧ Aside0 (kq ≤ k) ∧ Aside0 (wc.heap[gb364]? = some (.cells #[.int .i64 a0_0,(.slice A0_1 l0_1.length c0_1),(.slice A0_2 l0_2.length c0_2),(.slice A0_3 l0_3.length c0_3)] 33 (0,0))) ∧ Aside0 (wc.heap[gb365]? = some (.cells #[.int .i64 0,(.slice none 0 0)] 35 (0,0))) ∧ Aside0 (Below w.heap.size w wc))
 case first =>
  have H:=HC3.out
  clear HC3
  replace H:=Option.bind_eq_some_iff.mp H
  obtain ⟨t366,A60,H⟩:=H
  replace H : (if t366 = true then (if a1.toList = ([97] : List UInt8) then (impl_StepMatrix.j0 k a1 false a0_0 l0_1 l0_2 l0_3) else (impl_StepMatrix.j0 k a1 (a1.toList != ([98] : List UInt8)) a0_0 l0_1 l0_2 l0_3)) else (impl_StepMatrix.j0 k a1 true a0_0 l0_1 l0_2 l0_3)) = some (r1,r2,r3):=H
  have A6:=Aside0.mk A60
  clear A60
  by_cases c7 : t366 = true
  ·subst c7
   have H1 : (if a1.toList = ([97] : List UInt8) then (impl_StepMatrix.j0 k a1 false a0_0 l0_1 l0_2 l0_3) else (impl_StepMatrix.j0 k a1 (a1.toList != ([98] : List UInt8)) a0_0 l0_1 l0_2 l0_3)) = some (r1,r2,r3):=by rw [if_pos rfl] at H;exact H
   clear H
   have H:=H1
   clear H1
   by_cases c8 : a1.toList = ([97] : List UInt8)
   ·rw [if_pos c8] at H
    have c8b0 : (a1.toList == ([97] : List UInt8)) = true:=beq_iff_eq.mpr c8
    have c8b1 : (a1.toList != ([97] : List UInt8)) = false:=bne_eq_false_iff_eq.mpr c8
    clear c8
    (first|rw [c8b0]|(simp only [i64_w,i32_w];rw [c8b0])|skip)
    have H':=Aside0.mk H
    clear H
    have hnb9:=NB364_365.out
    have hnc9:=NB365_364.out
    obtain ⟨hcz10_0,hcz10_1,hcz10_2,hcz10_3,hfz10_0,hfz10_1,hfz10_2,hfz10_3⟩:=cf4_ BK364.out
    go_wp2_with (first|((with_reducible refine gate_callee (f:=72) rfl ?_);refine goesL_ (some 10) rfl rfl Try.func72 (by kernel_rfl) rfl #[.agg #[.int .i64 a0_0,.slice A0_1 l0_1.length c0_1,.slice A0_2 l0_2.length c0_2,.slice A0_3 l0_3.length c0_3]] rfl lp_ ?_;(with_reducible refine (impl_AutomatonValid.calls k a0_0 _ _ l0_1 _ _ l0_2 _ _ l0_3 true _ ?side1 ?side2 ?side3 ?side4 ?side5 ?side6 A6.out).mono ?_);(case side1 => exact cr_ (Kd.C_below HR0_1.out HB.out));(case side2 => exact HC0_1.out);(case side3 => exact cr_ (Kd.C_below HR0_2.out HB.out));(case side4 => exact HC0_2.out);(case side5 => exact cr_ (Kd.C_below HR0_3.out HB.out));(case side6 => exact HC0_3.out);rintro e w11 ⟨rfl,hb⟩;refine ⟨_,rfl,?_⟩;replace BK364:=kc_ BK364 hb;replace BK365:=kc_ BK365 hb;replace HB:=hs2_ HB GE364 GE365 hb;(try clear hb);(try clear hb2);(try clear hk);(try clear hi)))
    go_meet
    case rel => exact ⟨_,(false),rs_,H',⟨by first|omega|exact Nat.le_refl _⟩,⟨pe_ BK364.out⟩,⟨pe_ BK365.out⟩,⟨be2_ HB.out GE364.out GE365.out⟩⟩
   ·rw [if_neg c8] at H
    have c8b0 : (a1.toList == ([97] : List UInt8)) = false:=beq_eq_false_iff_ne.mpr c8
    have c8b1 : (a1.toList != ([97] : List UInt8)) = true:=bne_iff_ne.mpr c8
    (first|rw [c8b0]|(simp only [i64_w,i32_w];rw [c8b0])|skip)
    have H':=Aside0.mk H
    clear H
    have hnb12:=NB364_365.out
    have hnc12:=NB365_364.out
    obtain ⟨hcz13_0,hcz13_1,hcz13_2,hcz13_3,hfz13_0,hfz13_1,hfz13_2,hfz13_3⟩:=cf4_ BK364.out
    go_wp2_with (first|((with_reducible refine gate_callee (f:=72) rfl ?_);refine goesL_ (some 10) rfl rfl Try.func72 (by kernel_rfl) rfl #[.agg #[.int .i64 a0_0,.slice A0_1 l0_1.length c0_1,.slice A0_2 l0_2.length c0_2,.slice A0_3 l0_3.length c0_3]] rfl lp_ ?_;(with_reducible refine (impl_AutomatonValid.calls k a0_0 _ _ l0_1 _ _ l0_2 _ _ l0_3 true _ ?side1 ?side2 ?side3 ?side4 ?side5 ?side6 A6.out).mono ?_);(case side1 => exact cr_ (Kd.C_below HR0_1.out HB.out));(case side2 => exact HC0_1.out);(case side3 => exact cr_ (Kd.C_below HR0_2.out HB.out));(case side4 => exact HC0_2.out);(case side5 => exact cr_ (Kd.C_below HR0_3.out HB.out));(case side6 => exact HC0_3.out);rintro e w14 ⟨rfl,hb⟩;refine ⟨_,rfl,?_⟩;replace BK364:=kc_ BK364 hb;replace BK365:=kc_ BK365 hb;replace HB:=hs2_ HB GE364 GE365 hb;(try clear hb);(try clear hb2);(try clear hk);(try clear hi)))
    go_meet
    case rel => exact ⟨_,((a1.toList != ([98] : List UInt8))),rs_,H',⟨by first|omega|exact Nat.le_refl _⟩,⟨pe_ BK364.out⟩,⟨pe_ BK365.out⟩,⟨be2_ HB.out GE364.out GE365.out⟩⟩
  ·replace c7:=Bool.eq_false_iff.mpr c7
   subst c7
   have H1 : (impl_StepMatrix.j0 k a1 true a0_0 l0_1 l0_2 l0_3) = some (r1,r2,r3):=by rw [if_neg (show ¬ (false = true) by decide)] at H;exact H
   clear H
   have H:=H1
   clear H1
   have H':=Aside0.mk H
   clear H
   have hnb15:=NB364_365.out
   have hnc15:=NB365_364.out
   obtain ⟨hcz16_0,hcz16_1,hcz16_2,hcz16_3,hfz16_0,hfz16_1,hfz16_2,hfz16_3⟩:=cf4_ BK364.out
   go_wp2_with (first|((with_reducible refine gate_callee (f:=72) rfl ?_);refine goesL_ (some 10) rfl rfl Try.func72 (by kernel_rfl) rfl #[.agg #[.int .i64 a0_0,.slice A0_1 l0_1.length c0_1,.slice A0_2 l0_2.length c0_2,.slice A0_3 l0_3.length c0_3]] rfl lp_ ?_;(with_reducible refine (impl_AutomatonValid.calls k a0_0 _ _ l0_1 _ _ l0_2 _ _ l0_3 false _ ?side1 ?side2 ?side3 ?side4 ?side5 ?side6 A6.out).mono ?_);(case side1 => exact cr_ (Kd.C_below HR0_1.out HB.out));(case side2 => exact HC0_1.out);(case side3 => exact cr_ (Kd.C_below HR0_2.out HB.out));(case side4 => exact HC0_2.out);(case side5 => exact cr_ (Kd.C_below HR0_3.out HB.out));(case side6 => exact HC0_3.out);rintro e w17 ⟨rfl,hb⟩;refine ⟨_,rfl,?_⟩;replace BK364:=kc_ BK364 hb;replace BK365:=kc_ BK365 hb;replace HB:=hs2_ HB GE364 GE365 hb;(try clear hb);(try clear hb2);(try clear hk);(try clear hi)))
   go_meet
   case rel => exact ⟨_,(true),rs_,H',⟨by first|omega|exact Nat.le_refl _⟩,⟨pe_ BK364.out⟩,⟨pe_ BK365.out⟩,⟨be2_ HB.out GE364.out GE365.out⟩⟩
 case rest =>
  clear HC3
  obtain ⟨kq,x19_2,rfl,HA,HJ2,BK364,BK365,HB⟩:=hcut
  cases kq with
  | zero => exact absurd HA.out (by simp [impl_StepMatrix.j0])
  | succ kj2 =>
   have H:=HA.out
   clear HA
   simp only [impl_StepMatrix.j0] at H
   by_cases c18 : x19_2 = true
   ·subst c18
    have H1 : (some (0,([] : List Int),false)) = some (r1,r2,r3):=by rw [if_pos rfl] at H;exact H
    clear H
    have H:=H1
    clear H1
    simp only [Option.some.injEq,Prod.mk.injEq] at H
    obtain ⟨rfl,rfl,rfl⟩:=H
    have hnb19:=NB365_364.out
    have hnc19:=NB364_365.out
    obtain ⟨hcz20_0,hcz20_1,hfz20_0,hfz20_1⟩:=cf2_ BK365.out
    go_wp2
    refine bodyPost_ret (results_ct rfl _ _ gb365 35 #[.int .i64 0,.slice none 0 0] (0,0) _ rfl (by refine pe_ ?_;refine blk_put (cs:=#[.int .i64 0,.slice none 0 0]) ?_ 1 _ rfl;refine pe_ ?_;refine blk_put (cs:=#[.int .i64 0,.slice none 0 0]) ?_ 0 _ rfl;refine pe_ ?_;exact BK365.out) Try.underlying35 rfl (by kernel_rfl)) rfl ?_
    exact ⟨_,er_,by first|exact Kd.R_nil _ _ _ _ _|exact Kd.N_nil _ _ _ _ _|exact Kd.V_nil _ _ _ _ _|exact Kd.Q_nil _ _ _ _ _|exact Kd.S_nil _ _ _ _ _,be2_ HB.out GE364.out GE365.out⟩
   ·replace c18:=Bool.eq_false_iff.mpr c18
    subst c18
    have H1 : ((impl_filled__impl_StepMatrix_1.f kj2 a0_0).bind fun bt367 => (impl_StepMatrix.l0 kj2 a1 l0_3 (l0_3.length : Int) 0 bt367.1 bt367.2)) = some (r1,r2,r3):=by rw [if_neg (show ¬ (false = true) by decide)] at H;exact H
    clear H
    have H:=H1
    clear H1
    replace H:=Option.bind_eq_some_iff.mp H
    obtain ⟨⟨t367,t368⟩,A210,H⟩:=H
    replace H : (impl_StepMatrix.l0 kj2 a1 l0_3 (l0_3.length : Int) 0 t367 t368) = some (r1,r2,r3):=H
    have A21:=Aside0.mk A210
    clear A210
    have H':=Aside0.mk H
    clear H
    have hnb22:=NB364_365.out
    have hnc22:=NB365_364.out
    obtain ⟨hcz23_0,hcz23_1,hcz23_2,hcz23_3,hfz23_0,hfz23_1,hfz23_2,hfz23_3⟩:=cf4_ BK364.out
    go_wp2_with (first|((with_reducible refine gate_callee (f:=112) rfl ?_);refine goesL_ (some 23) rfl rfl Try.func112 (by kernel_rfl) rfl #[.int .i64 a0_0,.func (.func 135) #[] #[]] rfl lp_ ?_;(with_reducible refine (impl_filled__impl_StepMatrix_1.calls kj2 a0_0 t367 t368 _ A21.out).mono ?_);rintro e w24 ⟨v369,rfl,ho0,hb⟩;refine ⟨_,rfl,?_⟩;have HO370:=Aside0.mk (Kd.R_lower ho0 (below_size (be2_ HB.out GE364.out GE365.out)));replace BK364:=kc_ BK364 hb;replace BK365:=kc_ BK365 hb;replace HB:=hs2_ HB GE364 GE365 hb;(try clear hb);(try clear hb2);(try clear hk);(try clear hi);(try clear ho0))|((with_reducible refine bev_ (N:=6) rfl rfl (cs:=#[.int .i64 0,.slice none 0 0]) (t:=35) ?hr ?_);(case hr => first|(go_simp;done)|(go_simp;rfl));intro gb371 hg w25 hbox hb;replace HO370:=Aside0.mk (Kd.R_below (pr_ HO370.out) hb);have BK371:=Aside0.mk (hbox);have GW371:=gw2_ hg HB GE364 GE365;have GE371:=GW371;replace HB:=hs2_ HB GE364 GE365 hb;have NB364_371:=nm_ hg BK364;have NB371_364:=nn_ hg BK364;replace BK364:=kc_ BK364 hb;have NB365_371:=nm_ hg BK365;have NB371_365:=nn_ hg BK365;replace BK365:=kc_ BK365 hb;clear hb hbox hg;have hnb26:=NB371_364.out;have hnc26:=NB364_371.out;have hnb27:=NB371_365.out;have hnc27:=NB365_371.out;obtain ⟨hcz28_0,hcz28_1,hfz28_0,hfz28_1⟩:=cf2_ BK371.out;obtain ⟨Ao29,co29,eo29⟩:=Kd.R_slice HO370.out;subst eo29;obtain ⟨hcz30_0,hcz30_1,hcz30_2,hcz30_3,hfz30_0,hfz30_1,hfz30_2,hfz30_3⟩:=cf4_ BK364.out))
    go_loopg [27] kj2 (fun kq v27 w' => ∃ (x27_2 : Int) (x372001_2 : List Int) (u372001 : Value),v27 = .int .i64 x27_2 ∧ Aside0 (impl_StepMatrix.l0 kq a1 l0_3 (l0_3.length : Int) x27_2 t367 x372001_2 = some (r1,r2,r3)) ∧ Aside0 (kq ≤ kj2) ∧ Aside0 (Kd.R (Kd.int .i64) 3 w' w.heap.size (fun _ => True) u372001 x372001_2) ∧ Aside0 (w'.heap[gb364]? = some (.cells #[.int .i64 a0_0,(.slice A0_1 l0_1.length c0_1),(.slice A0_2 l0_2.length c0_2),(.slice A0_3 l0_3.length c0_3)] 33 (0,0))) ∧ Aside0 (w'.heap[gb365]? = some (.cells #[.int .i64 0,(.slice none 0 0)] 35 (0,0))) ∧ Aside0 (w'.heap[gb371]? = some (.cells #[.int .i64 t367,u372001] 35 (0,0))) ∧ Aside0 (Below w.heap.size w w'))
    case atStart => exact ⟨(0),(t368),(.slice Ao29 t368.length co29),rs_,H',⟨Nat.le_refl _⟩,⟨by refine pr_ ?_;exact Kd.R_mono (Kd.R_far (p:=⟨gb371,1,none⟩) (Kd.R_far (p:=⟨gb371,0,none⟩) (Kd.R_types HO370.out BK371.out (by decide)) (fun _ hk => hk.2) (.int .i64 t367)) (fun _ hk => hk.2) (.slice Ao29 t368.length co29)) (fun _ hk => trivial)⟩,⟨bf1_ BK364.out NB364_371.out⟩,⟨bf1_ BK365.out NB365_371.out⟩,⟨by refine pe_ ?_;refine blk_put (cs:=#[.int .i64 t367,.slice none 0 0]) ?_ 1 _ rfl;refine pe_ ?_;refine blk_put (cs:=#[.int .i64 0,.slice none 0 0]) ?_ 0 _ rfl;refine pe_ ?_;exact BK371.out⟩,⟨be3_ HB.out GE364.out GE365.out GE371.out⟩⟩
    case round =>
     clear H'
     obtain ⟨x27_2,x372001_2,u372001,rfl,HA,HK2,HO_372001,BK364,BK365,BK371,HB⟩:=hrel
     cases gk with
     | zero => exact absurd HA.out (by simp [impl_StepMatrix.l0])
     | succ k2 =>
      have H:=HA.out
      clear HA
      simp only [impl_StepMatrix.l0] at H
      by_cases c31 : x27_2 < (l0_3.length : Int)
      ·rw [if_pos c31] at H
       have c31b0 : decide (x27_2 < (l0_3.length : Int)) = true:=decide_eq_true c31
       clear c31
       by_cases c32 : 0 ≤ x27_2
       ·rw [if_pos c32] at H
        have c32b0 : decide (0 ≤ x27_2) = true:=decide_eq_true c32
        clear c32
        by_cases c33 : x27_2 < (l0_3.length : Int)
        ·rw [if_pos c33] at H
         have c33b0 : decide (x27_2 < (l0_3.length : Int)) = true:=decide_eq_true c33
         clear c33
         by_cases c34 : ((rd_T92 l0_3 x27_2).f1).toList = a1.toList
         ·rw [if_pos c34] at H
          have c34b0 : (((rd_T92 l0_3 x27_2).f1).toList == a1.toList) = true:=beq_iff_eq.mpr c34
          have c34b1 : (((rd_T92 l0_3 x27_2).f1).toList != a1.toList) = false:=bne_eq_false_iff_eq.mpr c34
          clear c34
          obtain ⟨ji35,hji35⟩ : ∃ j_ : Int,(wrap64 ((wrap64 (((rd_T92 l0_3 x27_2).f0) * t367)) + ((rd_T92 l0_3 x27_2).f2))) = j_:=⟨_,rfl⟩
          replace H : (if 0 ≤ (ji35) then (if (ji35) < (x372001_2.length : Int) then (impl_StepMatrix.l0 k2 a1 l0_3 (l0_3.length : Int) (wrap64 (x27_2 + 1)) t367 (x372001_2.set ((ji35) : Int).toNat ((rd_T92 l0_3 x27_2).f3))) else (none)) else (none)) = some (r1,r2,r3):=by first|(rw [hji35] at H;exact H)|(simp only [hji35] at H ⊢;exact H)
          have hji35w : (IntKind.i64.wrap ((wrap64 (((rd_T92 l0_3 x27_2).f0) * t367)) + ((rd_T92 l0_3 x27_2).f2))) = ji35:=(i64_w _).trans hji35
          by_cases c36 : 0 ≤ (ji35)
          ·rw [if_pos c36] at H
           have c36b0 : decide (0 ≤ (ji35)) = true:=decide_eq_true c36
           clear c36
           by_cases c37 : (ji35) < (x372001_2.length : Int)
           ·rw [if_pos c37] at H
            have c37b0 : decide ((ji35) < (x372001_2.length : Int)) = true:=decide_eq_true c37
            clear c37
            obtain ⟨y374,hy374⟩ : ∃ y_ : List Int,y_ = (x372001_2.set ((ji35) : Int).toNat ((rd_T92 l0_3 x27_2).f3)):=⟨_,rfl⟩
            replace H : (impl_StepMatrix.l0 k2 a1 l0_3 (l0_3.length : Int) (wrap64 (x27_2 + 1)) t367 y374) = some (r1,r2,r3):=by first|(rw [hy374];with_reducible exact H)|(have H2_:=(Option.bind_some _ _).symm.trans H;rw [hy374];with_reducible exact H2_)|(have H2_:=(Option.bind_some _ _).symm.trans H;with_reducible exact H2_)|with_reducible exact H|(rw [hy374];exact H)|exact H
            have Ny374:=Aside0.mk hy374
            clear hy374
            have H':=Aside0.mk H
            clear H
            have p372 : 0 ≤ (x27_2 : Int):=od_
            have q372 : x27_2 < (l0_3.length : Int):=od_
            obtain ⟨ad372,e372,hx372_0,hx372_1,hx372_2,hx372_3⟩:=at_T92 HR0_3.out x27_2 p372 q372
            cases e372
            replace hx372_0:=hbc_ HB.out hx372_0
            replace hx372_1:=hbc_ HB.out hx372_1
            replace hx372_2:=hbc_ HB.out hx372_2
            replace hx372_3:=hbc_ HB.out hx372_3
            replace p372:=eq_true p372
            replace q372:=eq_true q372
            go_wp2_with (first|((with_reducible refine bev_ (N:=8) rfl rfl (cs:=#[.int .i64 0,.string (⟨#[]⟩ : ByteArray),.int .i64 0,.int .i64 0]) (t:=92) ?hr ?_);(case hr => first|(go_simp;done)|(go_simp;rfl));intro gb373 hg w39 hbox hb;replace HO_372001:=Aside0.mk (Kd.R_below (pr_ HO_372001.out) hb);have BK373:=Aside0.mk (hbox);have GW373:=gw3_ hg HB GE364 GE365 GE371;have GE373:=GW373;replace HB:=hs3_ HB GE364 GE365 GE371 hb;have NB364_373:=nm_ hg BK364;have NB373_364:=nn_ hg BK364;replace BK364:=kc_ BK364 hb;have NB365_373:=nm_ hg BK365;have NB373_365:=nn_ hg BK365;replace BK365:=kc_ BK365 hb;have NB371_373:=nm_ hg BK371;have NB373_371:=nn_ hg BK371;replace BK371:=kc_ BK371 hb;clear hb hbox hg;have hnb40:=NB373_364.out;have hnc40:=NB364_373.out;have hnb41:=NB373_365.out;have hnc41:=NB365_373.out;have hnb42:=NB373_371.out;have hnc42:=NB371_373.out;obtain ⟨hcz43_0,hcz43_1,hcz43_2,hcz43_3,hfz43_0,hfz43_1,hfz43_2,hfz43_3⟩:=cf4_ BK373.out)|((with_reducible refine gate_store (t:=92) (p:=8) rfl ?_);refine store_event (t:=92) (p:=8) (v:=?vo_w44) (w1:=((((w39.setCell ⟨gb373,0,none⟩ (.int .i64 ((rd_T92 l0_3 x27_2).f0))).setCell ⟨gb373,1,none⟩ (.string ((rd_T92 l0_3 x27_2).f1))).setCell ⟨gb373,2,none⟩ (.int .i64 ((rd_T92 l0_3 x27_2).f2))).setCell ⟨gb373,3,none⟩ (.int .i64 ((rd_T92 l0_3 x27_2).f3)))) ?hg ?ho ?hn ?hr ?_;(case ho => rfl);(case hg => rfl);(case hn => rfl);(case hr => first|(go_simp;done)|(go_simp;rfl));intro w44 hw;have n0_ : Aside0 (Kd.R (Kd.int .i64) 3 w44 w.heap.size (fun _ => True) u372001 x372001_2):=⟨(by rw [hw];exact (by refine pr_ ?_;exact Kd.R_mono (Kd.R_far (p:=⟨gb373,3,none⟩) (Kd.R_far (p:=⟨gb373,2,none⟩) (Kd.R_far (p:=⟨gb373,1,none⟩) (Kd.R_far (p:=⟨gb373,0,none⟩) (Kd.R_types HO_372001.out BK373.out (by decide)) (fun _ hk => hk.2) (.int .i64 ((rd_T92 l0_3 x27_2).f0))) (fun _ hk => hk.2) (.string ((rd_T92 l0_3 x27_2).f1))) (fun _ hk => hk.2) (.int .i64 ((rd_T92 l0_3 x27_2).f2))) (fun _ hk => hk.2) (.int .i64 ((rd_T92 l0_3 x27_2).f3))) (fun _ hk => trivial)))⟩;have n1_ : Aside0 (w44.heap[gb364]? = some (.cells #[.int .i64 a0_0,.slice A0_1 l0_1.length c0_1,.slice A0_2 l0_2.length c0_2,.slice (some ad372) l0_3.length c0_3] 33 (0,0))):=⟨(by rw [hw];exact (bf1_ BK364.out NB364_373.out))⟩;have n2_ : Aside0 (w44.heap[gb365]? = some (.cells #[.int .i64 0,.slice none 0 0] 35 (0,0))):=⟨(by rw [hw];exact (bf1_ BK365.out NB365_373.out))⟩;have n3_ : Aside0 (w44.heap[gb371]? = some (.cells #[.int .i64 t367,u372001] 35 (0,0))):=⟨(by rw [hw];exact (bf1_ BK371.out NB371_373.out))⟩;have n4_ : Aside0 (w44.heap[gb373]? = some (.cells #[.int .i64 ((rd_T92 l0_3 x27_2).f0),.string ((rd_T92 l0_3 x27_2).f1),.int .i64 ((rd_T92 l0_3 x27_2).f2),.int .i64 ((rd_T92 l0_3 x27_2).f3)] 92 (0,0))):=⟨(by rw [hw];exact (by refine pe_ ?_;refine blk_put (cs:=#[.int .i64 ((rd_T92 l0_3 x27_2).f0),.string ((rd_T92 l0_3 x27_2).f1),.int .i64 ((rd_T92 l0_3 x27_2).f2),.int .i64 0]) ?_ 3 _ rfl;refine pe_ ?_;refine blk_put (cs:=#[.int .i64 ((rd_T92 l0_3 x27_2).f0),.string ((rd_T92 l0_3 x27_2).f1),.int .i64 0,.int .i64 0]) ?_ 2 _ rfl;refine pe_ ?_;refine blk_put (cs:=#[.int .i64 ((rd_T92 l0_3 x27_2).f0),.string (⟨#[]⟩ : ByteArray),.int .i64 0,.int .i64 0]) ?_ 1 _ rfl;refine pe_ ?_;refine blk_put (cs:=#[.int .i64 0,.string (⟨#[]⟩ : ByteArray),.int .i64 0,.int .i64 0]) ?_ 0 _ rfl;refine pe_ ?_;exact BK373.out))⟩;have n5_ : Aside0 (Below w.heap.size w w44):=⟨(by rw [hw];exact (be4_ HB.out GE364.out GE365.out GE371.out GE373.out))⟩;clear hw;clear HO_372001;clear BK364;clear BK365;clear BK371;clear BK373;clear HB;have HO_372001:=n0_;have BK364:=n1_;have BK365:=n2_;have BK371:=n3_;have BK373:=n4_;have HB:=n5_;clear n0_ n1_ n2_ n3_ n4_ n5_;obtain ⟨hcz45_0,hcz45_1,hcz45_2,hcz45_3,hfz45_0,hfz45_1,hfz45_2,hfz45_3⟩:=cf4_ BK373.out;have hnb46:=NB371_364.out;have hnc46:=NB364_371.out;have hnb47:=NB371_365.out;have hnc47:=NB365_371.out;obtain ⟨hcz48_0,hcz48_1,hfz48_0,hfz48_1⟩:=cf2_ BK371.out;have p38 : 0 ≤ ((ji35) : Int):=od_;have q38 : ((ji35) : Int) < ((x372001_2.length : Int) : Int):=od_;obtain ⟨go38,co38,eo38,gb38,gl38,cl38,HG38⟩:=Kd.R_form HO_372001.out (by omega);(first|cases eo38|(injection eo38 with ea_ en_ ec_;(first|subst ea_|(injection ea_ with ea_;subst ea_));subst ec_;clear en_));have GB38:=Aside0.mk gb38;have GG38:=Aside0.mk HG38;clear gb38 gl38 HG38;obtain ⟨hx38_0,hf38_0⟩:=Kd.R_celln 0 HO_372001.out ((ji35) : Int) p38 q38;replace p38:=eq_true p38;replace q38:=eq_true q38;obtain ⟨hy49_,hz49_⟩:=Kd.R_celln 0 HO_372001.out ((ji35) : Int) (od_) (od_);have HP49:=Kd.R_putg HO_372001.out ((ji35) : Int) ((rd_T92 l0_3 x27_2).f3))|((with_reducible refine gate_store (t:=3) (p:=47) rfl ?_);refine store_event (t:=3) (p:=47) (v:=?vo_w50) (w1:=(w44.setCell ⟨go38,((ji35) : Int).toNat,none⟩ (.int .i64 ((rd_T92 l0_3 x27_2).f3)))) ?hg ?ho ?hn ?hr ?_;(case ho => rfl);(case hg => rfl);(case hn => rfl);(case hr => first|(go_simp;done)|(go_simp;rfl));intro w50 hw;have hg : w44.grownBy w50 (some go38):=(by rw [hw];exact HP49.2);have hp_ : Kd.R (Kd.int .i64) 3 w50 w.heap.size (fun _ => True) (.slice (some ⟨go38,0,none⟩) x372001_2.length co38) y374:=(by rw [hw,Ny374.out];exact HP49.1);clear HP49;replace BK364:=Aside0.mk (blk_grown (g:=gb364) (o:=.cells #[.int .i64 a0_0,.slice A0_1 l0_1.length c0_1,.slice A0_2 l0_2.length c0_2,.slice (some ad372) l0_3.length c0_3] 33 (0,0)) (pe_ BK364.out) hg (Kd.R_ne HO_372001.out BK364.out (by decide)));replace BK365:=Aside0.mk (blk_grown (g:=gb365) (o:=.cells #[.int .i64 0,.slice none 0 0] 35 (0,0)) (pe_ BK365.out) hg (Kd.R_ne HO_372001.out BK365.out (by decide)));replace BK371:=Aside0.mk (blk_grown (g:=gb371) (o:=.cells #[.int .i64 t367,.slice (some ⟨go38,0,none⟩) x372001_2.length co38] 35 (0,0)) (pe_ BK371.out) hg (Kd.R_ne HO_372001.out BK371.out (by decide)));replace BK373:=Aside0.mk (blk_grown (g:=gb373) (o:=.cells #[.int .i64 ((rd_T92 l0_3 x27_2).f0),.string ((rd_T92 l0_3 x27_2).f1),.int .i64 ((rd_T92 l0_3 x27_2).f2),.int .i64 ((rd_T92 l0_3 x27_2).f3)] 92 (0,0)) (pe_ BK373.out) hg (Kd.R_ne HO_372001.out BK373.out (by decide)));replace HO_372001:=Aside0.mk (hp_);replace HB:=Aside0.mk ((by rw [hw];exact below_set (HB.out) GB38.out : Below w.heap.size w w50));clear hg hw hp_))
            go_roundg k2
            case measure => have:=HJ2.out;have:=HK2.out;omega
            case rel => exact ⟨(wrap64 (x27_2 + 1)),(y374),(.slice (some ⟨go38,0,none⟩) x372001_2.length co38),rs_,H',⟨by have:=HJ2.out;have:=HK2.out;omega⟩,⟨pr_ HO_372001.out⟩,⟨pe_ BK364.out⟩,⟨pe_ BK365.out⟩,⟨pe_ BK371.out⟩,⟨be4_ HB.out GE364.out GE365.out GE371.out GE373.out⟩⟩
           ·rw [if_neg c37] at H
            exact absurd H (by simp)
          ·rw [if_neg c36] at H
           exact absurd H (by simp)
         ·rw [if_neg c34] at H
          have c34b0 : (((rd_T92 l0_3 x27_2).f1).toList == a1.toList) = false:=beq_eq_false_iff_ne.mpr c34
          have c34b1 : (((rd_T92 l0_3 x27_2).f1).toList != a1.toList) = true:=bne_iff_ne.mpr c34
          have H':=Aside0.mk H
          clear H
          have p372 : 0 ≤ (x27_2 : Int):=od_
          have q372 : x27_2 < (l0_3.length : Int):=od_
          obtain ⟨ad372,e372,hx372_0,hx372_1,hx372_2,hx372_3⟩:=at_T92 HR0_3.out x27_2 p372 q372
          cases e372
          replace hx372_0:=hbc_ HB.out hx372_0
          replace hx372_1:=hbc_ HB.out hx372_1
          replace hx372_2:=hbc_ HB.out hx372_2
          replace hx372_3:=hbc_ HB.out hx372_3
          replace p372:=eq_true p372
          replace q372:=eq_true q372
          go_wp2_with (first|((with_reducible refine bev_ (N:=8) rfl rfl (cs:=#[.int .i64 0,.string (⟨#[]⟩ : ByteArray),.int .i64 0,.int .i64 0]) (t:=92) ?hr ?_);(case hr => first|(go_simp;done)|(go_simp;rfl));intro gb373 hg w51 hbox hb;replace HO_372001:=Aside0.mk (Kd.R_below (pr_ HO_372001.out) hb);have BK373:=Aside0.mk (hbox);have GW373:=gw3_ hg HB GE364 GE365 GE371;have GE373:=GW373;replace HB:=hs3_ HB GE364 GE365 GE371 hb;have NB364_373:=nm_ hg BK364;have NB373_364:=nn_ hg BK364;replace BK364:=kc_ BK364 hb;have NB365_373:=nm_ hg BK365;have NB373_365:=nn_ hg BK365;replace BK365:=kc_ BK365 hb;have NB371_373:=nm_ hg BK371;have NB373_371:=nn_ hg BK371;replace BK371:=kc_ BK371 hb;clear hb hbox hg;have hnb52:=NB373_364.out;have hnc52:=NB364_373.out;have hnb53:=NB373_365.out;have hnc53:=NB365_373.out;have hnb54:=NB373_371.out;have hnc54:=NB371_373.out;obtain ⟨hcz55_0,hcz55_1,hcz55_2,hcz55_3,hfz55_0,hfz55_1,hfz55_2,hfz55_3⟩:=cf4_ BK373.out))
          go_roundg k2
          case measure => have:=HJ2.out;have:=HK2.out;omega
          case rel => exact ⟨(wrap64 (x27_2 + 1)),(x372001_2),(u372001),rs_,H',⟨by have:=HJ2.out;have:=HK2.out;omega⟩,⟨by refine pr_ ?_;exact Kd.R_mono (Kd.R_far (p:=⟨gb373,3,none⟩) (Kd.R_far (p:=⟨gb373,2,none⟩) (Kd.R_far (p:=⟨gb373,1,none⟩) (Kd.R_far (p:=⟨gb373,0,none⟩) (Kd.R_types HO_372001.out BK373.out (by decide)) (fun _ hk => hk.2) (.int .i64 ((rd_T92 l0_3 x27_2).f0))) (fun _ hk => hk.2) (.string ((rd_T92 l0_3 x27_2).f1))) (fun _ hk => hk.2) (.int .i64 ((rd_T92 l0_3 x27_2).f2))) (fun _ hk => hk.2) (.int .i64 ((rd_T92 l0_3 x27_2).f3))) (fun _ hk => trivial)⟩,⟨bf1_ BK364.out NB364_373.out⟩,⟨bf1_ BK365.out NB365_373.out⟩,⟨bf1_ BK371.out NB371_373.out⟩,⟨be4_ HB.out GE364.out GE365.out GE371.out GE373.out⟩⟩
        ·rw [if_neg c33] at H
         exact absurd H (by simp)
       ·rw [if_neg c32] at H
        exact absurd H (by simp)
      ·rw [if_neg c31] at H
       have c31b0 : decide (x27_2 < (l0_3.length : Int)) = false:=decide_eq_false c31
       clear c31
       simp only [Option.some.injEq,Prod.mk.injEq] at H
       obtain ⟨rfl,rfl,rfl⟩:=H
       have hnb56:=NB371_364.out
       have hnc56:=NB364_371.out
       have hnb57:=NB371_365.out
       have hnc57:=NB365_371.out
       obtain ⟨hcz58_0,hcz58_1,hfz58_0,hfz58_1⟩:=cf2_ BK371.out
       have hnb59:=NB365_364.out
       have hnc59:=NB364_365.out
       obtain ⟨hcz60_0,hcz60_1,hfz60_0,hfz60_1⟩:=cf2_ BK365.out
       obtain ⟨Ao61,co61,eo61⟩:=Kd.R_slice HO_372001.out
       subst eo61
       go_wp2
       refine bodyPost_ret (results_ct rfl _ _ gb365 35 #[.int .i64 t367,.slice Ao61 x372001_2.length co61] (0,0) _ rfl (by refine pe_ ?_;refine blk_put (cs:=#[.int .i64 t367,.slice none 0 0]) ?_ 1 _ rfl;refine pe_ ?_;refine blk_put (cs:=#[.int .i64 0,.slice none 0 0]) ?_ 0 _ rfl;refine pe_ ?_;exact BK365.out) Try.underlying35 rfl (by kernel_rfl)) rfl ?_
       exact ⟨_,er_,by refine pr_ ?_;exact Kd.R_mono (Kd.R_far (p:=⟨gb365,1,none⟩) (Kd.R_far (p:=⟨gb365,0,none⟩) (Kd.R_types HO_372001.out BK365.out (by decide)) (fun _ hk => hk.2) (.int .i64 t367)) (fun _ hk => hk.2) (.slice Ao61 x372001_2.length co61)) (fun _ hk => trivial),be3_ HB.out GE364.out GE365.out GE371.out⟩
mutual
def impl_value.l0 : Nat → List (S136) → Int → Int → Int → List Int → List Int → List (S92) → Int → List Int → Option (Int × List Int × Bool)
 | 0,_,_,_,_,_,_,_,_,_ => none
 | k + 1,x13,x14,x15,x763000,x763001,x763002,x763003,x765000,x765001 => if x15 < x14 then (if 0 ≤ x15 then (if x15 < (x13.length : Int) then (if ((rd_T136 x13 x15).f0).toList = ([] : List UInt8) then ((impl_value.f k x763000 x763001 x763002 x763003 ((rd_T136 x13 x15).f1)).bind fun bt768 => (if bt768.2.2 = true then ((impl_Stabilise.f k bt768.1 bt768.2.1).bind fun bt773 => (impl_value.j1 k x15 bt773.2.2 x13 x14 x15 x763000 x763001 x763002 x763003 x765000 x765001 bt773.1 bt773.2.1)) else (impl_value.j1 k x15 bt768.2.2 x13 x14 x15 x763000 x763001 x763002 x763003 x765000 x765001 bt768.1 bt768.2.1))) else ((impl_StepMatrix.f k x763000 x763001 x763002 x763003 ((rd_T136 x13 x15).f0)).bind fun bt778 => ((impl_GradesOf.f k bt778.1 bt778.2.1).bind fun bt784 => (impl_value.j1 k x15 true x13 x14 x15 x763000 x763001 x763002 x763003 x765000 x765001 bt784.1 bt784.2.1)))) else (none)) else (none)) else (some (x765000,x765001,true))
def impl_value.j1 : Nat → Int → Bool → List (S136) → Int → Int → Int → List Int → List Int → List (S92) → Int → List Int → Int → List Int → Option (Int × List Int × Bool)
 | 0,_,_,_,_,_,_,_,_,_,_,_,_,_ => none
 | k + 1,x7,x10,x13,x14,x15,x763000,x763001,x763002,x763003,x765000,x765001,x768000,x768001 => if x10 = true then (if x7 > 0 then ((impl_MulGrades.f k x765000 x765001 x768000 x768001).bind fun bt789 => (impl_value.l0 k x13 x14 (wrap64 (x15 + 1)) x763000 x763001 x763002 x763003 bt789.1 bt789.2.1)) else (impl_value.l0 k x13 x14 (wrap64 (x15 + 1)) x763000 x763001 x763002 x763003 x768000 x768001)) else (some (0,([] : List Int),false))
def impl_value.f : Nat → Int → List Int → List Int → List (S92) → List (S136) → Option (Int × List Int × Bool)
 | 0,_,_,_,_,_ => none
 | k + 1,a0_0,l0_1,l0_2,l0_3,l1 => impl_value.l0 k l1 (l1.length : Int) 0 a0_0 l0_1 l0_2 l0_3 0 ([] : List Int)
end
theorem impl_value.mono_l : ∀ k,(∀ y0 y1 y2 y3 y4,LeO (impl_value.f k y0 y1 y2 y3 y4) (impl_value.f (k + 1) y0 y1 y2 y3 y4)) ∧ (∀ y0 y1 y2 y3 y4 y5 y6 y7 y8,LeO (impl_value.l0 k y0 y1 y2 y3 y4 y5 y6 y7 y8) (impl_value.l0 (k + 1) y0 y1 y2 y3 y4 y5 y6 y7 y8)) ∧ (∀ y0 y1 y2 y3 y4 y5 y6 y7 y8 y9 y10 y11 y12,LeO (impl_value.j1 k y0 y1 y2 y3 y4 y5 y6 y7 y8 y9 y10 y11 y12) (impl_value.j1 (k + 1) y0 y1 y2 y3 y4 y5 y6 y7 y8 y9 y10 y11 y12))
 | 0 => ⟨fun _ _ _ _ _ r h => by simp [impl_value.f] at h,fun _ _ _ _ _ _ _ _ _ r h => by simp [impl_value.l0] at h,fun _ _ _ _ _ _ _ _ _ _ _ _ _ r h => by simp [impl_value.j1] at h⟩
 | k + 1 => by
  obtain ⟨ih0,ih1,ih2⟩:=impl_value.mono_l k
  refine ⟨?_,?_,?_⟩
  ·intro y0 y1 y2 y3 y4
   unfold impl_value.f
   repeat' first
   | (with_reducible exact ih0 _ _ _ _ _)
   | (with_reducible exact ih1 _ _ _ _ _ _ _ _ _)
   | (with_reducible exact ih2 _ _ _ _ _ _ _ _ _ _ _ _ _)
   | (with_reducible exact impl_GradesOf.mono _ _ _)
   | (with_reducible exact impl_MulGrades.mono _ _ _ _ _)
   | (with_reducible exact impl_Stabilise.mono _ _ _)
   | (with_reducible exact impl_StepMatrix.mono _ _ _ _ _ _)
   | (with_reducible first|exact LeO.refl _|exact LeO.none _|refine LeO.ite ?_ ?_|refine LeO.bind ?_ (fun _ => ?_))
   | exact ih0 _ _ _ _ _
   | exact ih1 _ _ _ _ _ _ _ _ _
   | exact ih2 _ _ _ _ _ _ _ _ _ _ _ _ _
   | exact impl_GradesOf.mono _ _ _
   | exact impl_MulGrades.mono _ _ _ _ _
   | exact impl_Stabilise.mono _ _ _
   | exact impl_StepMatrix.mono _ _ _ _ _ _
   | exact LeO.none _
   | refine LeO.ite ?_ ?_
   | refine LeO.bind ?_ (fun _ => ?_)
  ·intro y0 y1 y2 y3 y4 y5 y6 y7 y8
   unfold impl_value.l0
   repeat' first
   | (with_reducible exact ih0 _ _ _ _ _)
   | (with_reducible exact ih1 _ _ _ _ _ _ _ _ _)
   | (with_reducible exact ih2 _ _ _ _ _ _ _ _ _ _ _ _ _)
   | (with_reducible exact impl_GradesOf.mono _ _ _)
   | (with_reducible exact impl_MulGrades.mono _ _ _ _ _)
   | (with_reducible exact impl_Stabilise.mono _ _ _)
   | (with_reducible exact impl_StepMatrix.mono _ _ _ _ _ _)
   | (with_reducible first|exact LeO.refl _|exact LeO.none _|refine LeO.ite ?_ ?_|refine LeO.bind ?_ (fun _ => ?_))
   | exact ih0 _ _ _ _ _
   | exact ih1 _ _ _ _ _ _ _ _ _
   | exact ih2 _ _ _ _ _ _ _ _ _ _ _ _ _
   | exact impl_GradesOf.mono _ _ _
   | exact impl_MulGrades.mono _ _ _ _ _
   | exact impl_Stabilise.mono _ _ _
   | exact impl_StepMatrix.mono _ _ _ _ _ _
   | exact LeO.none _
   | refine LeO.ite ?_ ?_
   | refine LeO.bind ?_ (fun _ => ?_)
  ·intro y0 y1 y2 y3 y4 y5 y6 y7 y8 y9 y10 y11 y12
   unfold impl_value.j1
   repeat' first
   | (with_reducible exact ih0 _ _ _ _ _)
   | (with_reducible exact ih1 _ _ _ _ _ _ _ _ _)
   | (with_reducible exact ih2 _ _ _ _ _ _ _ _ _ _ _ _ _)
   | (with_reducible exact impl_GradesOf.mono _ _ _)
   | (with_reducible exact impl_MulGrades.mono _ _ _ _ _)
   | (with_reducible exact impl_Stabilise.mono _ _ _)
   | (with_reducible exact impl_StepMatrix.mono _ _ _ _ _ _)
   | (with_reducible first|exact LeO.refl _|exact LeO.none _|refine LeO.ite ?_ ?_|refine LeO.bind ?_ (fun _ => ?_))
   | exact ih0 _ _ _ _ _
   | exact ih1 _ _ _ _ _ _ _ _ _
   | exact ih2 _ _ _ _ _ _ _ _ _ _ _ _ _
   | exact impl_GradesOf.mono _ _ _
   | exact impl_MulGrades.mono _ _ _ _ _
   | exact impl_Stabilise.mono _ _ _
   | exact impl_StepMatrix.mono _ _ _ _ _ _
   | exact LeO.none _
   | refine LeO.ite ?_ ?_
   | refine LeO.bind ?_ (fun _ => ?_)
theorem impl_value.mono : ∀ a0 a1 a2 a3 a4 k,LeO (impl_value.f k a0 a1 a2 a3 a4) (impl_value.f (k + 1) a0 a1 a2 a3 a4):=by
 intro a0 a1 a2 a3 a4 k
 obtain ⟨ih0,ih1,ih2⟩:=impl_value.mono_l k
 exact ih0 a0 a1 a2 a3 a4
set_option maxHeartbeats 8000000 in
set_option maxRecDepth 100000 in
theorem impl_value.calls (k : Nat) : ∀ (a0_0 : Int) (A0_1 : Option Addr) (c0_1 : Nat) (l0_1 : List Int) (A0_2 : Option Addr) (c0_2 : Nat) (l0_2 : List Int) (A0_3 : Option Addr) (c0_3 : Nat) (l0_3 : List (S92)) (A1 : Option Addr) (c1 : Nat) (l1 : List (S136)) (r1 : Int) (r2 : List Int) (r3 : Bool) (w : World) (hr0_1 : Kd.C (Kd.int .i64) w A0_1 l0_1.length l0_1) (hc0_1 : l0_1.length ≤ c0_1) (hr0_2 : Kd.C (Kd.int .i64) w A0_2 l0_2.length l0_2) (hc0_2 : l0_2.length ≤ c0_2) (hr0_3 : Kd.C k92 w A0_3 l0_3.length l0_3) (hc0_3 : l0_3.length ≤ c0_3) (hr1 : Kd.C k136 w A1 l1.length l1) (hc1 : l1.length ≤ c1) (h : impl_value.f k a0_0 l0_1 l0_2 l0_3 l1 = some (r1,r2,r3)),
  Calls Try.prog 89 #[.agg #[.int .i64 a0_0,.slice A0_1 l0_1.length c0_1,.slice A0_2 l0_2.length c0_2,.slice A0_3 l0_3.length c0_3],.slice A1 l1.length c1] w fun e w' => ∃ v1_ : Value,e = .returned (.tuple #[.agg #[.int .i64 r1,v1_],.bool r3]) ∧ Kd.R (Kd.int .i64) 3 w' w.heap.size (fun _ => True) v1_ r2 ∧ Below w.heap.size w w':=by
 induction k using Nat.strongRecOn with
 | _ k ih =>
 intro a0_0 A0_1 c0_1 l0_1 A0_2 c0_2 l0_2 A0_3 c0_3 l0_3 A1 c1 l1 r1 r2 r3 w hr0_1 hc0_1 hr0_2 hc0_2 hr0_3 hc0_3 hr1 hc1 h
 cases k with
 | zero => exact absurd h (by simp [impl_value.f])
 | succ k =>
 simp only [impl_value.f] at h
 have hu33:=Try.underlying33
 have hu35:=Try.underlying35
 have hu136:=Try.underlying136
 have HR0_1:=Aside0.mk hr0_1
 have HC0_1:=Aside0.mk hc0_1
 clear hr0_1 hc0_1
 have HR0_2:=Aside0.mk hr0_2
 have HC0_2:=Aside0.mk hc0_2
 clear hr0_2 hc0_2
 have HR0_3:=Aside0.mk hr0_3
 have HC0_3:=Aside0.mk hc0_3
 clear hr0_3 hc0_3
 have HR1:=Aside0.mk hr1
 have HC1:=Aside0.mk hc1
 clear hr1 hc1
 have HB:=Aside0.mk (Below.refl w.heap.size w)
 have H : (impl_value.l0 k l1 (l1.length : Int) 0 a0_0 l0_1 l0_2 l0_3 0 ([] : List Int)) = some (r1,r2,r3):=h
 clear h
 have H':=Aside0.mk H
 clear H
 go_enter Try.func89,Try.ntmps89
 go_wp2_with (first|((with_reducible refine bev_ (N:=2) rfl rfl (cs:=#[.int .i64 a0_0,.slice A0_1 l0_1.length c0_1,.slice A0_2 l0_2.length c0_2,.slice A0_3 l0_3.length c0_3]) (t:=33) ?hr ?_);(case hr => first|(go_simp;done)|(go_simp;rfl));intro gb762 hg w3 hbox hb;have BK762:=Aside0.mk (hbox);have GW762:=gw0_ hg HB;have GE762:=GW762;replace HB:=hs0_ HB hb;clear hb hbox hg)|((with_reducible refine bev_ (N:=4) rfl rfl (cs:=#[.int .i64 0,.slice none 0 0]) (t:=35) ?hr ?_);(case hr => first|(go_simp;done)|(go_simp;rfl));intro gb763 hg w4 hbox hb;have BK763:=Aside0.mk (hbox);have GW763:=gw1_ hg HB GE762;have GE763:=GW763;replace HB:=hs1_ HB GE762 hb;have NB762_763:=nm_ hg BK762;have NB763_762:=nn_ hg BK762;replace BK762:=kc_ BK762 hb;clear hb hbox hg)|((with_reducible refine bev_ (N:=6) rfl rfl (cs:=#[.int .i64 0,.slice none 0 0]) (t:=35) ?hr ?_);(case hr => first|(go_simp;done)|(go_simp;rfl));intro gb764 hg w5 hbox hb;have BK764:=Aside0.mk (hbox);have GW764:=gw2_ hg HB GE762 GE763;have GE764:=GW764;replace HB:=hs2_ HB GE762 GE763 hb;have NB762_764:=nm_ hg BK762;have NB764_762:=nn_ hg BK762;replace BK762:=kc_ BK762 hb;have NB763_764:=nm_ hg BK763;have NB764_763:=nn_ hg BK763;replace BK763:=kc_ BK763 hb;clear hb hbox hg))
 go_loopg [15] k (fun kq v15 w' => ∃ (x15_1 : Int) (x764000_1 : Int) (x765000_1 : Int) (x765001_1 : List Int) (u765001 : Value),v15 = .int .i64 x15_1 ∧ Aside0 (impl_value.l0 kq l1 (l1.length : Int) x15_1 a0_0 l0_1 l0_2 l0_3 x765000_1 x765001_1 = some (r1,r2,r3)) ∧ Aside0 (kq ≤ k) ∧ Aside0 (Kd.R (Kd.int .i64) 3 w' w.heap.size (fun _ => True) u765001 x765001_1) ∧ Aside0 (w'.heap[gb762]? = some (.cells #[.int .i64 a0_0,(.slice A0_1 l0_1.length c0_1),(.slice A0_2 l0_2.length c0_2),(.slice A0_3 l0_3.length c0_3)] 33 (0,0))) ∧ Aside0 (w'.heap[gb763]? = some (.cells #[.int .i64 x764000_1,(.slice none 0 0)] 35 (0,0))) ∧ Aside0 (w'.heap[gb764]? = some (.cells #[.int .i64 x765000_1,u765001] 35 (0,0))) ∧ Aside0 (Below w.heap.size w w'))
 case atStart => exact ⟨(0),(0),(0),(([] : List Int)),(.slice none 0 0),rs_,H',⟨Nat.le_refl _⟩,⟨by first|exact Kd.R_nil _ _ _ _ _|exact Kd.N_nil _ _ _ _ _|exact Kd.V_nil _ _ _ _ _|exact Kd.Q_nil _ _ _ _ _|exact Kd.S_nil _ _ _ _ _⟩,⟨pe_ BK762.out⟩,⟨pe_ BK763.out⟩,⟨pe_ BK764.out⟩,⟨be3_ HB.out GE762.out GE763.out GE764.out⟩⟩
 case round =>
  clear H'
  obtain ⟨x15_1,x764000_1,x765000_1,x765001_1,u765001,rfl,HA,HK1,HO_765001,BK762,BK763,BK764,HB⟩:=hrel
  cases gk with
  | zero => exact absurd HA.out (by simp [impl_value.l0])
  | succ k1 =>
   have H:=HA.out
   clear HA
   simp only [impl_value.l0] at H
   by_cases c6 : x15_1 < (l1.length : Int)
   ·rw [if_pos c6] at H
    have c6b0 : decide (x15_1 < (l1.length : Int)) = true:=decide_eq_true c6
    clear c6
    by_cases c7 : 0 ≤ x15_1
    ·rw [if_pos c7] at H
     have c7b0 : decide (0 ≤ x15_1) = true:=decide_eq_true c7
     clear c7
     by_cases c8 : x15_1 < (l1.length : Int)
     ·rw [if_pos c8] at H
      have c8b0 : decide (x15_1 < (l1.length : Int)) = true:=decide_eq_true c8
      clear c8
      have HC9:=Aside0.mk H
      clear H
      have p765 : 0 ≤ (x15_1 : Int):=od_
      have q765 : x15_1 < (l1.length : Int):=od_
      obtain ⟨ad765,A765_1,c765_1,e765,hx765_0,hx765_1,hl765_1,hi765_1⟩:=at_T136 HR1.out x15_1 p765 q765
      cases e765
      replace hx765_0:=hbc_ HB.out hx765_0
      replace hx765_1:=hbc_ HB.out hx765_1
      have HR765_1:=Aside0.mk hi765_1
      have HC765_1:=Aside0.mk hl765_1
      clear hi765_1 hl765_1
      replace p765:=eq_true p765
      replace q765:=eq_true q765
      go_upto_if 22 with (first|((with_reducible refine bev_ (N:=8) rfl rfl (cs:=#[.string (⟨#[]⟩ : ByteArray),.slice none 0 0]) (t:=136) ?hr ?_);(case hr => first|(go_simp;done)|(go_simp;rfl));intro gb766 hg w10 hbox hb;replace HO_765001:=Aside0.mk (Kd.R_below (pr_ HO_765001.out) hb);have BK766:=Aside0.mk (hbox);have GW766:=gw3_ hg HB GE762 GE763 GE764;have GE766:=GW766;replace HB:=hs3_ HB GE762 GE763 GE764 hb;have NB762_766:=nm_ hg BK762;have NB766_762:=nn_ hg BK762;replace BK762:=kc_ BK762 hb;have NB763_766:=nm_ hg BK763;have NB766_763:=nn_ hg BK763;replace BK763:=kc_ BK763 hb;have NB764_766:=nm_ hg BK764;have NB766_764:=nn_ hg BK764;replace BK764:=kc_ BK764 hb;clear hb hbox hg;have hnb11:=NB766_762.out;have hnc11:=NB762_766.out;have hnb12:=NB766_763.out;have hnc12:=NB763_766.out;have hnb13:=NB766_764.out;have hnc13:=NB764_766.out;obtain ⟨hcz14_0,hcz14_1,hfz14_0,hfz14_1⟩:=cf2_ BK766.out)|((with_reducible refine bev_ (N:=9) rfl rfl (cs:=#[.int .i64 0,.slice none 0 0]) (t:=35) ?hr ?_);(case hr => first|(go_simp;done)|(go_simp;rfl));intro gb767 hg w15 hbox hb;replace HO_765001:=Aside0.mk (Kd.R_below (by refine pr_ ?_;exact (Kd.R_mono (Kd.R_far (p:=⟨gb766,1,none⟩) (Kd.R_far (p:=⟨gb766,0,none⟩) (Kd.R_types HO_765001.out BK766.out (by decide)) (fun _ hk => hk.2) (.string ((rd_T136 l1 x15_1).f0))) (fun _ hk => hk.2) (.slice A765_1 ((rd_T136 l1 x15_1).f1).length c765_1)) (fun _ h_ => h_.1))) hb);have BK767:=Aside0.mk (hbox);have GW767:=gw4_ hg HB GE762 GE763 GE764 GE766;have GE767:=GW767;replace HB:=hs4_ HB GE762 GE763 GE764 GE766 hb;have NB762_767:=Aside0.mk ((by rw [hg];exact Nat.ne_of_lt (blk_lt (g:=gb762) (o:=.cells #[.int .i64 a0_0,.slice A0_1 l0_1.length c0_1,.slice A0_2 l0_2.length c0_2,.slice A0_3 l0_3.length c0_3] 33 (0,0)) (bf1_ BK762.out NB762_766.out)) : gb762 ≠ gb767));have NB767_762:=Aside0.mk ((by rw [hg];exact Nat.ne_of_gt (blk_lt (g:=gb762) (o:=.cells #[.int .i64 a0_0,.slice A0_1 l0_1.length c0_1,.slice A0_2 l0_2.length c0_2,.slice A0_3 l0_3.length c0_3] 33 (0,0)) (bf1_ BK762.out NB762_766.out)) : gb767 ≠ gb762));replace BK762:=Aside0.mk (blk_below (g:=gb762) (o:=.cells #[.int .i64 a0_0,.slice A0_1 l0_1.length c0_1,.slice A0_2 l0_2.length c0_2,.slice A0_3 l0_3.length c0_3] 33 (0,0)) (bf1_ BK762.out NB762_766.out) hb);have NB763_767:=Aside0.mk ((by rw [hg];exact Nat.ne_of_lt (blk_lt (g:=gb763) (o:=.cells #[.int .i64 x764000_1,.slice none 0 0] 35 (0,0)) (bf1_ BK763.out NB763_766.out)) : gb763 ≠ gb767));have NB767_763:=Aside0.mk ((by rw [hg];exact Nat.ne_of_gt (blk_lt (g:=gb763) (o:=.cells #[.int .i64 x764000_1,.slice none 0 0] 35 (0,0)) (bf1_ BK763.out NB763_766.out)) : gb767 ≠ gb763));replace BK763:=Aside0.mk (blk_below (g:=gb763) (o:=.cells #[.int .i64 x764000_1,.slice none 0 0] 35 (0,0)) (bf1_ BK763.out NB763_766.out) hb);have NB764_767:=Aside0.mk ((by rw [hg];exact Nat.ne_of_lt (blk_lt (g:=gb764) (o:=.cells #[.int .i64 x765000_1,u765001] 35 (0,0)) (bf1_ BK764.out NB764_766.out)) : gb764 ≠ gb767));have NB767_764:=Aside0.mk ((by rw [hg];exact Nat.ne_of_gt (blk_lt (g:=gb764) (o:=.cells #[.int .i64 x765000_1,u765001] 35 (0,0)) (bf1_ BK764.out NB764_766.out)) : gb767 ≠ gb764));replace BK764:=Aside0.mk (blk_below (g:=gb764) (o:=.cells #[.int .i64 x765000_1,u765001] 35 (0,0)) (bf1_ BK764.out NB764_766.out) hb);have NB766_767:=Aside0.mk ((by rw [hg];exact Nat.ne_of_lt (blk_lt (g:=gb766) (o:=.cells #[.string ((rd_T136 l1 x15_1).f0),.slice A765_1 ((rd_T136 l1 x15_1).f1).length c765_1] 136 (0,0)) (by refine pe_ ?_;refine blk_put (cs:=#[.string ((rd_T136 l1 x15_1).f0),.slice none 0 0]) ?_ 1 _ rfl;refine pe_ ?_;refine blk_put (cs:=#[.string (⟨#[]⟩ : ByteArray),.slice none 0 0]) ?_ 0 _ rfl;refine pe_ ?_;exact BK766.out)) : gb766 ≠ gb767));have NB767_766:=Aside0.mk ((by rw [hg];exact Nat.ne_of_gt (blk_lt (g:=gb766) (o:=.cells #[.string ((rd_T136 l1 x15_1).f0),.slice A765_1 ((rd_T136 l1 x15_1).f1).length c765_1] 136 (0,0)) (by refine pe_ ?_;refine blk_put (cs:=#[.string ((rd_T136 l1 x15_1).f0),.slice none 0 0]) ?_ 1 _ rfl;refine pe_ ?_;refine blk_put (cs:=#[.string (⟨#[]⟩ : ByteArray),.slice none 0 0]) ?_ 0 _ rfl;refine pe_ ?_;exact BK766.out)) : gb767 ≠ gb766));replace BK766:=Aside0.mk (blk_below (g:=gb766) (o:=.cells #[.string ((rd_T136 l1 x15_1).f0),.slice A765_1 ((rd_T136 l1 x15_1).f1).length c765_1] 136 (0,0)) (by refine pe_ ?_;refine blk_put (cs:=#[.string ((rd_T136 l1 x15_1).f0),.slice none 0 0]) ?_ 1 _ rfl;refine pe_ ?_;refine blk_put (cs:=#[.string (⟨#[]⟩ : ByteArray),.slice none 0 0]) ?_ 0 _ rfl;refine pe_ ?_;exact BK766.out) hb);clear hb hbox hg;have hnb16:=NB766_767.out;have hnc16:=NB767_766.out;obtain ⟨hcz17_0,hcz17_1,hfz17_0,hfz17_1⟩:=cf2_ BK766.out))
      (try simp only [Act.put,List.setIfInBounds_toArray,List.set_cons_zero,List.set_cons_succ])
      go_cut [10] (fun v10 wc => ∃ (kq : Nat) (x10_8 : Bool) (x768000_8 : Int) (x768001_8 : List Int) (u768001 : Value),v10 = .bool x10_8 ∧ Aside0 (impl_value.j1 kq x15_1 x10_8 l1 (l1.length : Int) x15_1 a0_0 l0_1 l0_2 l0_3 x765000_1 x765001_1 x768000_8 x768001_8 = some (r1,r2,r3)) ∧ Aside0 (kq ≤ k1) ∧ Aside0 (Kd.R (Kd.int .i64) 3 wc w.heap.size (fun k_ => some k_ ≠ (u768001 : Value).ownBlock) u765001 x765001_1) ∧ Aside0 (Kd.R (Kd.int .i64) 3 wc w.heap.size (fun k_ => some k_ ≠ (u765001 : Value).ownBlock) u768001 x768001_8) ∧ Aside0 (wc.heap[gb762]? = some (.cells #[.int .i64 a0_0,(.slice A0_1 l0_1.length c0_1),(.slice A0_2 l0_2.length c0_2),(.slice A0_3 l0_3.length c0_3)] 33 (0,0))) ∧ Aside0 (wc.heap[gb763]? = some (.cells #[.int .i64 x764000_1,(.slice none 0 0)] 35 (0,0))) ∧ Aside0 (wc.heap[gb764]? = some (.cells #[.int .i64 x765000_1,u765001] 35 (0,0))) ∧ Aside0 (wc.heap[gb766]? = some (.cells #[.string ((rd_T136 l1 x15_1).f0),(.slice A765_1 ((rd_T136 l1 x15_1).f1).length c765_1)] 136 (0,0))) ∧ Aside0 (wc.heap[gb767]? = some (.cells #[.int .i64 x768000_8,u768001] 35 (0,0))) ∧ Aside0 (Below w.heap.size w wc))
      case first =>
       have H:=HC9.out
       clear HC9
       by_cases c18 : ((rd_T136 l1 x15_1).f0).toList = ([] : List UInt8)
       ·rw [if_pos c18] at H
        have c18b0 : (((rd_T136 l1 x15_1).f0).toList == ([] : List UInt8)) = true:=beq_iff_eq.mpr c18
        have c18b9 : (((rd_T136 l1 x15_1).f0).toList).isEmpty = true:=List.isEmpty_iff.mpr c18
        have c18b1 : (((rd_T136 l1 x15_1).f0).toList != ([] : List UInt8)) = false:=bne_eq_false_iff_eq.mpr c18
        clear c18
        (first|rw [c18b0]|(simp only [i64_w,i32_w];rw [c18b0])|rw [c18b9]|skip)
        replace H:=Option.bind_eq_some_iff.mp H
        obtain ⟨⟨t768,t769,t772⟩,A190,H⟩:=H
        replace H : (if t772 = true then ((impl_Stabilise.f k1 t768 t769).bind fun bt773 => (impl_value.j1 k1 x15_1 bt773.2.2 l1 (l1.length : Int) x15_1 a0_0 l0_1 l0_2 l0_3 x765000_1 x765001_1 bt773.1 bt773.2.1)) else (impl_value.j1 k1 x15_1 t772 l1 (l1.length : Int) x15_1 a0_0 l0_1 l0_2 l0_3 x765000_1 x765001_1 t768 t769)) = some (r1,r2,r3):=H
        have A19:=Aside0.mk A190
        clear A190
        by_cases c20 : t772 = true
        ·subst c20
         have H1 : ((impl_Stabilise.f k1 t768 t769).bind fun bt773 => (impl_value.j1 k1 x15_1 bt773.2.2 l1 (l1.length : Int) x15_1 a0_0 l0_1 l0_2 l0_3 x765000_1 x765001_1 bt773.1 bt773.2.1)) = some (r1,r2,r3):=by rw [if_pos rfl] at H;exact H
         clear H
         have H:=H1
         clear H1
         replace H:=Option.bind_eq_some_iff.mp H
         obtain ⟨⟨t773,t774,t777⟩,A210,H⟩:=H
         replace H : (impl_value.j1 k1 x15_1 t777 l1 (l1.length : Int) x15_1 a0_0 l0_1 l0_2 l0_3 x765000_1 x765001_1 t773 t774) = some (r1,r2,r3):=H
         have A21:=Aside0.mk A210
         clear A210
         have H':=Aside0.mk H
         clear H
         have hnb22:=NB762_763.out
         have hnc22:=NB763_762.out
         have hnb23:=NB762_764.out
         have hnc23:=NB764_762.out
         have hnb24:=NB762_766.out
         have hnc24:=NB766_762.out
         have hnb25:=NB762_767.out
         have hnc25:=NB767_762.out
         obtain ⟨hcz26_0,hcz26_1,hcz26_2,hcz26_3,hfz26_0,hfz26_1,hfz26_2,hfz26_3⟩:=cf4_ BK762.out
         have hnb27:=NB766_763.out
         have hnc27:=NB763_766.out
         have hnb28:=NB766_764.out
         have hnc28:=NB764_766.out
         have hnb29:=NB766_767.out
         have hnc29:=NB767_766.out
         obtain ⟨hcz30_0,hcz30_1,hfz30_0,hfz30_1⟩:=cf2_ BK766.out
         go_wp2_with (first|((with_reducible refine gate_callee (f:=89) rfl ?_);refine goesL_ (some 39) rfl rfl Try.func89 (by kernel_rfl) rfl #[.agg #[.int .i64 a0_0,.slice A0_1 l0_1.length c0_1,.slice A0_2 l0_2.length c0_2,.slice A0_3 l0_3.length c0_3],.slice A765_1 ((rd_T136 l1 x15_1).f1).length c765_1] rfl lp_ ?_;(with_reducible refine (ih k1 (by have:=HK1.out;omega) a0_0 _ _ l0_1 _ _ l0_2 _ _ l0_3 _ _ ((rd_T136 l1 x15_1).f1) t768 t769 true _ ?side1 ?side2 ?side3 ?side4 ?side5 ?side6 ?side7 ?side8 A19.out).mono ?_);(case side1 => exact cr_ (Kd.C_below HR0_1.out HB.out));(case side2 => exact HC0_1.out);(case side3 => exact cr_ (Kd.C_below HR0_2.out HB.out));(case side4 => exact HC0_2.out);(case side5 => exact cr_ (Kd.C_below HR0_3.out HB.out));(case side6 => exact HC0_3.out);(case side7 => exact cr_ (Kd.C_below HR765_1.out HB.out));(case side8 => exact HC765_1.out);rintro e w31 ⟨v770,rfl,ho0,hb⟩;refine ⟨_,rfl,?_⟩;have HO771:=Aside0.mk (Kd.R_lower (Kd.R_new' ho0 (Kd.R_lt (pr_ HO_765001.out))) (below_size (be5_ HB.out GE762.out GE763.out GE764.out GE766.out GE767.out)));replace HO_765001:=Aside0.mk (Kd.R_elder' (pr_ HO_765001.out) (Kd.R_base ho0) hb);replace BK762:=kc_ BK762 hb;replace BK763:=kc_ BK763 hb;replace BK764:=kc_ BK764 hb;replace BK766:=kc_ BK766 hb;replace BK767:=kc_ BK767 hb;replace HB:=hs5_ HB GE762 GE763 GE764 GE766 GE767 hb;(try clear hb);(try clear hb2);(try clear hk);(try clear hi);(try clear ho0);have hnb32:=NB767_763.out;have hnc32:=NB763_767.out;have hnb33:=NB767_764.out;have hnc33:=NB764_767.out;obtain ⟨hcz34_0,hcz34_1,hfz34_0,hfz34_1⟩:=cf2_ BK767.out;obtain ⟨Ao35,co35,eo35⟩:=Kd.R_slice HO771.out;subst eo35)|((with_reducible refine gate_callee (f:=54) rfl ?_);refine goesL_ (some 45) rfl rfl Try.func54 (by kernel_rfl) rfl #[.agg #[.int .i64 t768,.slice Ao35 t769.length co35]] rfl lp_ ?_;(with_reducible refine (impl_Stabilise.calls k1 t768 _ _ t769 t773 t774 t777 _ ?side1 ?side2 A21.out).mono ?_);(case side1 => refine (Kd.R_reads' (e:=3) (base:=w.heap.size) (ok:=fun k_ => (True ∧ some k_ ≠ (u765001 : Value).ownBlock)) (n:=t769.length) (c:=co35) ?_).2.2;exact (by refine pr_ ?_;exact (Kd.R_mono (Kd.R_far (p:=⟨gb767,1,none⟩) (Kd.R_far (p:=⟨gb767,0,none⟩) (Kd.R_types HO771.out BK767.out (by decide)) (fun _ hk => hk.2) (.int .i64 t768)) (fun _ hk => hk.2) (.slice Ao35 t769.length co35)) (fun _ h_ => h_.1))));(case side2 => exact (Kd.R_reads' HO771.out).2.1);rintro e w36 ⟨v775,rfl,ho0,hb⟩;refine ⟨_,rfl,?_⟩;have HO776:=Aside0.mk (Kd.R_lower (Kd.R_new' (Kd.R_new' ho0 (Kd.R_lt (by refine pr_ ?_;exact (Kd.R_mono (Kd.R_far (p:=⟨gb767,1,none⟩) (Kd.R_far (p:=⟨gb767,0,none⟩) (Kd.R_types HO_765001.out BK767.out (by decide)) (fun _ hk => hk.2) (.int .i64 t768)) (fun _ hk => hk.2) (.slice Ao35 t769.length co35)) (fun _ h_ => h_.1))))) (Kd.R_lt (by refine pr_ ?_;exact (Kd.R_mono (Kd.R_far (p:=⟨gb767,1,none⟩) (Kd.R_far (p:=⟨gb767,0,none⟩) (Kd.R_types HO771.out BK767.out (by decide)) (fun _ hk => hk.2) (.int .i64 t768)) (fun _ hk => hk.2) (.slice Ao35 t769.length co35)) (fun _ h_ => h_.1))))) (below_size (be5_ HB.out GE762.out GE763.out GE764.out GE766.out GE767.out)));replace HO_765001:=Aside0.mk (Kd.R_elder' (by refine pr_ ?_;exact (Kd.R_mono (Kd.R_far (p:=⟨gb767,1,none⟩) (Kd.R_far (p:=⟨gb767,0,none⟩) (Kd.R_types HO_765001.out BK767.out (by decide)) (fun _ hk => hk.2) (.int .i64 t768)) (fun _ hk => hk.2) (.slice Ao35 t769.length co35)) (fun _ h_ => h_.1))) (Kd.R_base ho0) hb);replace HO771:=Aside0.mk (Kd.R_elder' (by refine pr_ ?_;exact (Kd.R_mono (Kd.R_far (p:=⟨gb767,1,none⟩) (Kd.R_far (p:=⟨gb767,0,none⟩) (Kd.R_types HO771.out BK767.out (by decide)) (fun _ hk => hk.2) (.int .i64 t768)) (fun _ hk => hk.2) (.slice Ao35 t769.length co35)) (fun _ h_ => h_.1))) (Kd.R_base ho0) hb);replace BK762:=Aside0.mk (blk_below (g:=gb762) (o:=.cells #[.int .i64 a0_0,.slice A0_1 l0_1.length c0_1,.slice A0_2 l0_2.length c0_2,.slice A0_3 l0_3.length c0_3] 33 (0,0)) (bf1_ BK762.out NB762_767.out) hb);replace BK763:=Aside0.mk (blk_below (g:=gb763) (o:=.cells #[.int .i64 x764000_1,.slice none 0 0] 35 (0,0)) (bf1_ BK763.out NB763_767.out) hb);replace BK764:=Aside0.mk (blk_below (g:=gb764) (o:=.cells #[.int .i64 x765000_1,u765001] 35 (0,0)) (bf1_ BK764.out NB764_767.out) hb);replace BK766:=Aside0.mk (blk_below (g:=gb766) (o:=.cells #[.string ((rd_T136 l1 x15_1).f0),.slice A765_1 ((rd_T136 l1 x15_1).f1).length c765_1] 136 (0,0)) (bf1_ BK766.out NB766_767.out) hb);replace BK767:=Aside0.mk (blk_below (g:=gb767) (o:=.cells #[.int .i64 t768,.slice Ao35 t769.length co35] 35 (0,0)) (by refine pe_ ?_;refine blk_put (cs:=#[.int .i64 t768,.slice none 0 0]) ?_ 1 _ rfl;refine pe_ ?_;refine blk_put (cs:=#[.int .i64 0,.slice none 0 0]) ?_ 0 _ rfl;refine pe_ ?_;exact BK767.out) hb);replace HB:=hs5_ HB GE762 GE763 GE764 GE766 GE767 hb;(try clear hb);(try clear hb2);(try clear hk);(try clear hi);(try clear ho0);obtain ⟨hcz37_0,hcz37_1,hfz37_0,hfz37_1⟩:=cf2_ BK767.out;obtain ⟨Ao38,co38,eo38⟩:=Kd.R_slice HO776.out;subst eo38))
         go_meet
         case rel => exact ⟨_,(t777),(t773),(t774),(.slice Ao38 t774.length co38),rs_,H',⟨by have:=HK1.out;first|omega|exact Nat.le_refl _⟩,⟨by refine pr_ ?_;exact Kd.R_mono (Kd.R_far (p:=⟨gb767,1,none⟩) (Kd.R_far (p:=⟨gb767,0,none⟩) (Kd.R_types HO_765001.out BK767.out (by decide)) (fun _ hk => hk.2) (.int .i64 t773)) (fun _ hk => hk.2) (.slice Ao38 t774.length co38)) (fun _ hk => (by first|exact hk.1.2|trivial))⟩,⟨by refine pr_ ?_;exact Kd.R_mono (Kd.R_far (p:=⟨gb767,1,none⟩) (Kd.R_far (p:=⟨gb767,0,none⟩) (Kd.R_types HO776.out BK767.out (by decide)) (fun _ hk => hk.2) (.int .i64 t773)) (fun _ hk => hk.2) (.slice Ao38 t774.length co38)) (fun _ hk => (by first|exact hk.1.1.2|trivial))⟩,⟨bf1_ BK762.out NB762_767.out⟩,⟨bf1_ BK763.out NB763_767.out⟩,⟨bf1_ BK764.out NB764_767.out⟩,⟨bf1_ BK766.out NB766_767.out⟩,⟨by refine pe_ ?_;refine blk_put (cs:=#[.int .i64 t773,.slice Ao35 t769.length co35]) ?_ 1 _ rfl;refine pe_ ?_;refine blk_put (cs:=#[.int .i64 t768,.slice Ao35 t769.length co35]) ?_ 0 _ rfl;refine pe_ ?_;exact BK767.out⟩,⟨be5_ HB.out GE762.out GE763.out GE764.out GE766.out GE767.out⟩⟩
        ·replace c20:=Bool.eq_false_iff.mpr c20
         subst c20
         have H1 : (impl_value.j1 k1 x15_1 false l1 (l1.length : Int) x15_1 a0_0 l0_1 l0_2 l0_3 x765000_1 x765001_1 t768 t769) = some (r1,r2,r3):=by rw [if_neg (show ¬ (false = true) by decide)] at H;exact H
         clear H
         have H:=H1
         clear H1
         have H':=Aside0.mk H
         clear H
         have hnb39:=NB762_763.out
         have hnc39:=NB763_762.out
         have hnb40:=NB762_764.out
         have hnc40:=NB764_762.out
         have hnb41:=NB762_766.out
         have hnc41:=NB766_762.out
         have hnb42:=NB762_767.out
         have hnc42:=NB767_762.out
         obtain ⟨hcz43_0,hcz43_1,hcz43_2,hcz43_3,hfz43_0,hfz43_1,hfz43_2,hfz43_3⟩:=cf4_ BK762.out
         have hnb44:=NB766_763.out
         have hnc44:=NB763_766.out
         have hnb45:=NB766_764.out
         have hnc45:=NB764_766.out
         have hnb46:=NB766_767.out
         have hnc46:=NB767_766.out
         obtain ⟨hcz47_0,hcz47_1,hfz47_0,hfz47_1⟩:=cf2_ BK766.out
         go_wp2_with (first|((with_reducible refine gate_callee (f:=89) rfl ?_);refine goesL_ (some 39) rfl rfl Try.func89 (by kernel_rfl) rfl #[.agg #[.int .i64 a0_0,.slice A0_1 l0_1.length c0_1,.slice A0_2 l0_2.length c0_2,.slice A0_3 l0_3.length c0_3],.slice A765_1 ((rd_T136 l1 x15_1).f1).length c765_1] rfl lp_ ?_;(with_reducible refine (ih k1 (by have:=HK1.out;omega) a0_0 _ _ l0_1 _ _ l0_2 _ _ l0_3 _ _ ((rd_T136 l1 x15_1).f1) t768 t769 false _ ?side1 ?side2 ?side3 ?side4 ?side5 ?side6 ?side7 ?side8 A19.out).mono ?_);(case side1 => exact cr_ (Kd.C_below HR0_1.out HB.out));(case side2 => exact HC0_1.out);(case side3 => exact cr_ (Kd.C_below HR0_2.out HB.out));(case side4 => exact HC0_2.out);(case side5 => exact cr_ (Kd.C_below HR0_3.out HB.out));(case side6 => exact HC0_3.out);(case side7 => exact cr_ (Kd.C_below HR765_1.out HB.out));(case side8 => exact HC765_1.out);rintro e w48 ⟨v770,rfl,ho0,hb⟩;refine ⟨_,rfl,?_⟩;have HO771:=Aside0.mk (Kd.R_lower (Kd.R_new' ho0 (Kd.R_lt (pr_ HO_765001.out))) (below_size (be5_ HB.out GE762.out GE763.out GE764.out GE766.out GE767.out)));replace HO_765001:=Aside0.mk (Kd.R_elder' (pr_ HO_765001.out) (Kd.R_base ho0) hb);replace BK762:=kc_ BK762 hb;replace BK763:=kc_ BK763 hb;replace BK764:=kc_ BK764 hb;replace BK766:=kc_ BK766 hb;replace BK767:=kc_ BK767 hb;replace HB:=hs5_ HB GE762 GE763 GE764 GE766 GE767 hb;(try clear hb);(try clear hb2);(try clear hk);(try clear hi);(try clear ho0);have hnb49:=NB767_763.out;have hnc49:=NB763_767.out;have hnb50:=NB767_764.out;have hnc50:=NB764_767.out;obtain ⟨hcz51_0,hcz51_1,hfz51_0,hfz51_1⟩:=cf2_ BK767.out;obtain ⟨Ao52,co52,eo52⟩:=Kd.R_slice HO771.out;subst eo52))
         go_meet
         case rel => exact ⟨_,(false),(t768),(t769),(.slice Ao52 t769.length co52),rs_,H',⟨by have:=HK1.out;first|omega|exact Nat.le_refl _⟩,⟨by refine pr_ ?_;exact Kd.R_mono (Kd.R_far (p:=⟨gb767,1,none⟩) (Kd.R_far (p:=⟨gb767,0,none⟩) (Kd.R_types HO_765001.out BK767.out (by decide)) (fun _ hk => hk.2) (.int .i64 t768)) (fun _ hk => hk.2) (.slice Ao52 t769.length co52)) (fun _ hk => (by first|exact hk.1.2|trivial))⟩,⟨by refine pr_ ?_;exact Kd.R_mono (Kd.R_far (p:=⟨gb767,1,none⟩) (Kd.R_far (p:=⟨gb767,0,none⟩) (Kd.R_types HO771.out BK767.out (by decide)) (fun _ hk => hk.2) (.int .i64 t768)) (fun _ hk => hk.2) (.slice Ao52 t769.length co52)) (fun _ hk => (by first|exact hk.1.2|trivial))⟩,⟨bf1_ BK762.out NB762_767.out⟩,⟨bf1_ BK763.out NB763_767.out⟩,⟨bf1_ BK764.out NB764_767.out⟩,⟨bf1_ BK766.out NB766_767.out⟩,⟨by refine pe_ ?_;refine blk_put (cs:=#[.int .i64 t768,.slice none 0 0]) ?_ 1 _ rfl;refine pe_ ?_;refine blk_put (cs:=#[.int .i64 0,.slice none 0 0]) ?_ 0 _ rfl;refine pe_ ?_;exact BK767.out⟩,⟨be5_ HB.out GE762.out GE763.out GE764.out GE766.out GE767.out⟩⟩
       ·rw [if_neg c18] at H
        have c18b0 : (((rd_T136 l1 x15_1).f0).toList == ([] : List UInt8)) = false:=beq_eq_false_iff_ne.mpr c18
        have c18b9 : (((rd_T136 l1 x15_1).f0).toList).isEmpty = false:=Bool.eq_false_iff.mpr (fun h_ => c18 (List.isEmpty_iff.mp h_))
        have c18b1 : (((rd_T136 l1 x15_1).f0).toList != ([] : List UInt8)) = true:=bne_iff_ne.mpr c18
        (first|rw [c18b0]|(simp only [i64_w,i32_w];rw [c18b0])|rw [c18b9]|skip)
        replace H:=Option.bind_eq_some_iff.mp H
        obtain ⟨⟨t778,t779,t782⟩,A530,H⟩:=H
        replace H : ((impl_GradesOf.f k1 t778 t779).bind fun bt784 => (impl_value.j1 k1 x15_1 true l1 (l1.length : Int) x15_1 a0_0 l0_1 l0_2 l0_3 x765000_1 x765001_1 bt784.1 bt784.2.1)) = some (r1,r2,r3):=H
        have A53:=Aside0.mk A530
        clear A530
        replace H:=Option.bind_eq_some_iff.mp H
        obtain ⟨⟨t784,t785,t788⟩,A540,H⟩:=H
        replace H : (impl_value.j1 k1 x15_1 true l1 (l1.length : Int) x15_1 a0_0 l0_1 l0_2 l0_3 x765000_1 x765001_1 t784 t785) = some (r1,r2,r3):=H
        have A54:=Aside0.mk A540
        clear A540
        have H':=Aside0.mk H
        clear H
        have hnb55:=NB762_763.out
        have hnc55:=NB763_762.out
        have hnb56:=NB762_764.out
        have hnc56:=NB764_762.out
        have hnb57:=NB762_766.out
        have hnc57:=NB766_762.out
        have hnb58:=NB762_767.out
        have hnc58:=NB767_762.out
        obtain ⟨hcz59_0,hcz59_1,hcz59_2,hcz59_3,hfz59_0,hfz59_1,hfz59_2,hfz59_3⟩:=cf4_ BK762.out
        have hnb60:=NB766_763.out
        have hnc60:=NB763_766.out
        have hnb61:=NB766_764.out
        have hnc61:=NB764_766.out
        have hnb62:=NB766_767.out
        have hnc62:=NB767_766.out
        obtain ⟨hcz63_0,hcz63_1,hfz63_0,hfz63_1⟩:=cf2_ BK766.out
        go_wp2_with (first|((with_reducible refine gate_callee (f:=80) rfl ?_);refine goesL_ (some 27) rfl rfl Try.func80 (by kernel_rfl) rfl #[.agg #[.int .i64 a0_0,.slice A0_1 l0_1.length c0_1,.slice A0_2 l0_2.length c0_2,.slice A0_3 l0_3.length c0_3],.string ((rd_T136 l1 x15_1).f0)] rfl lp_ ?_;(with_reducible refine (impl_StepMatrix.calls k1 a0_0 _ _ l0_1 _ _ l0_2 _ _ l0_3 ((rd_T136 l1 x15_1).f0) t778 t779 t782 _ ?side1 ?side2 ?side3 ?side4 ?side5 ?side6 A53.out).mono ?_);(case side1 => exact cr_ (Kd.C_below HR0_1.out HB.out));(case side2 => exact HC0_1.out);(case side3 => exact cr_ (Kd.C_below HR0_2.out HB.out));(case side4 => exact HC0_2.out);(case side5 => exact cr_ (Kd.C_below HR0_3.out HB.out));(case side6 => exact HC0_3.out);rintro e w64 ⟨v780,rfl,ho0,hb⟩;refine ⟨_,rfl,?_⟩;have HO781:=Aside0.mk (Kd.R_lower (Kd.R_new' ho0 (Kd.R_lt (pr_ HO_765001.out))) (below_size (be5_ HB.out GE762.out GE763.out GE764.out GE766.out GE767.out)));replace HO_765001:=Aside0.mk (Kd.R_elder' (pr_ HO_765001.out) (Kd.R_base ho0) hb);replace BK762:=kc_ BK762 hb;replace BK763:=kc_ BK763 hb;replace BK764:=kc_ BK764 hb;replace BK766:=kc_ BK766 hb;replace BK767:=kc_ BK767 hb;replace HB:=hs5_ HB GE762 GE763 GE764 GE766 GE767 hb;(try clear hb);(try clear hb2);(try clear hk);(try clear hi);(try clear ho0))|((with_reducible refine bev_ (N:=11) rfl rfl (cs:=#[.int .i64 0,.slice none 0 0]) (t:=35) ?hr ?_);(case hr => first|(go_simp;done)|(go_simp;rfl));intro gb783 hg w65 hbox hb;replace HO_765001:=Aside0.mk (Kd.R_below (pr_ HO_765001.out) hb);replace HO781:=Aside0.mk (Kd.R_below (pr_ HO781.out) hb);have BK783:=Aside0.mk (hbox);have GW783:=gw5_ hg HB GE762 GE763 GE764 GE766 GE767;have GE783:=GW783;replace HB:=hs5_ HB GE762 GE763 GE764 GE766 GE767 hb;have NB762_783:=nm_ hg BK762;have NB783_762:=nn_ hg BK762;replace BK762:=kc_ BK762 hb;have NB763_783:=nm_ hg BK763;have NB783_763:=nn_ hg BK763;replace BK763:=kc_ BK763 hb;have NB764_783:=nm_ hg BK764;have NB783_764:=nn_ hg BK764;replace BK764:=kc_ BK764 hb;have NB766_783:=nm_ hg BK766;have NB783_766:=nn_ hg BK766;replace BK766:=kc_ BK766 hb;have NB767_783:=nm_ hg BK767;have NB783_767:=nn_ hg BK767;replace BK767:=kc_ BK767 hb;clear hb hbox hg;have hnb66:=NB783_762.out;have hnc66:=NB762_783.out;have hnb67:=NB783_763.out;have hnc67:=NB763_783.out;have hnb68:=NB783_764.out;have hnc68:=NB764_783.out;have hnb69:=NB783_766.out;have hnc69:=NB766_783.out;have hnb70:=NB783_767.out;have hnc70:=NB767_783.out;obtain ⟨hcz71_0,hcz71_1,hfz71_0,hfz71_1⟩:=cf2_ BK783.out;obtain ⟨Ao72,co72,eo72⟩:=Kd.R_slice HO781.out;subst eo72)|((with_reducible refine gate_callee (f:=146) rfl ?_);refine goesL_ (some 32) rfl rfl Try.func146 (by kernel_rfl) rfl #[.agg #[.int .i64 t778,.slice Ao72 t779.length co72]] rfl lp_ ?_;(with_reducible refine (impl_GradesOf.calls k1 t778 _ _ t779 t784 t785 t788 _ ?side1 ?side2 A54.out).mono ?_);(case side1 => refine (Kd.R_reads' (e:=3) (base:=w.heap.size) (ok:=fun k_ => (True ∧ some k_ ≠ (u765001 : Value).ownBlock)) (n:=t779.length) (c:=co72) ?_).2.2;exact (by refine pr_ ?_;exact (Kd.R_mono (Kd.R_far (p:=⟨gb783,1,none⟩) (Kd.R_far (p:=⟨gb783,0,none⟩) (Kd.R_types HO781.out BK783.out (by decide)) (fun _ hk => hk.2) (.int .i64 t778)) (fun _ hk => hk.2) (.slice Ao72 t779.length co72)) (fun _ h_ => h_.1))));(case side2 => exact (Kd.R_reads' HO781.out).2.1);rintro e w73 ⟨v786,rfl,ho0,hb⟩;refine ⟨_,rfl,?_⟩;have HO787:=Aside0.mk (Kd.R_lower (Kd.R_new' (Kd.R_new' ho0 (Kd.R_lt (by refine pr_ ?_;exact (Kd.R_mono (Kd.R_far (p:=⟨gb783,1,none⟩) (Kd.R_far (p:=⟨gb783,0,none⟩) (Kd.R_types HO_765001.out BK783.out (by decide)) (fun _ hk => hk.2) (.int .i64 t778)) (fun _ hk => hk.2) (.slice Ao72 t779.length co72)) (fun _ h_ => h_.1))))) (Kd.R_lt (by refine pr_ ?_;exact (Kd.R_mono (Kd.R_far (p:=⟨gb783,1,none⟩) (Kd.R_far (p:=⟨gb783,0,none⟩) (Kd.R_types HO781.out BK783.out (by decide)) (fun _ hk => hk.2) (.int .i64 t778)) (fun _ hk => hk.2) (.slice Ao72 t779.length co72)) (fun _ h_ => h_.1))))) (below_size (be6_ HB.out GE762.out GE763.out GE764.out GE766.out GE767.out GE783.out)));replace HO_765001:=Aside0.mk (Kd.R_elder' (by refine pr_ ?_;exact (Kd.R_mono (Kd.R_far (p:=⟨gb783,1,none⟩) (Kd.R_far (p:=⟨gb783,0,none⟩) (Kd.R_types HO_765001.out BK783.out (by decide)) (fun _ hk => hk.2) (.int .i64 t778)) (fun _ hk => hk.2) (.slice Ao72 t779.length co72)) (fun _ h_ => h_.1))) (Kd.R_base ho0) hb);replace HO781:=Aside0.mk (Kd.R_elder' (by refine pr_ ?_;exact (Kd.R_mono (Kd.R_far (p:=⟨gb783,1,none⟩) (Kd.R_far (p:=⟨gb783,0,none⟩) (Kd.R_types HO781.out BK783.out (by decide)) (fun _ hk => hk.2) (.int .i64 t778)) (fun _ hk => hk.2) (.slice Ao72 t779.length co72)) (fun _ h_ => h_.1))) (Kd.R_base ho0) hb);replace BK762:=Aside0.mk (blk_below (g:=gb762) (o:=.cells #[.int .i64 a0_0,.slice A0_1 l0_1.length c0_1,.slice A0_2 l0_2.length c0_2,.slice A0_3 l0_3.length c0_3] 33 (0,0)) (bf1_ BK762.out NB762_783.out) hb);replace BK763:=Aside0.mk (blk_below (g:=gb763) (o:=.cells #[.int .i64 x764000_1,.slice none 0 0] 35 (0,0)) (bf1_ BK763.out NB763_783.out) hb);replace BK764:=Aside0.mk (blk_below (g:=gb764) (o:=.cells #[.int .i64 x765000_1,u765001] 35 (0,0)) (bf1_ BK764.out NB764_783.out) hb);replace BK766:=Aside0.mk (blk_below (g:=gb766) (o:=.cells #[.string ((rd_T136 l1 x15_1).f0),.slice A765_1 ((rd_T136 l1 x15_1).f1).length c765_1] 136 (0,0)) (bf1_ BK766.out NB766_783.out) hb);replace BK767:=Aside0.mk (blk_below (g:=gb767) (o:=.cells #[.int .i64 0,.slice none 0 0] 35 (0,0)) (bf1_ BK767.out NB767_783.out) hb);replace BK783:=Aside0.mk (blk_below (g:=gb783) (o:=.cells #[.int .i64 t778,.slice Ao72 t779.length co72] 35 (0,0)) (by refine pe_ ?_;refine blk_put (cs:=#[.int .i64 t778,.slice none 0 0]) ?_ 1 _ rfl;refine pe_ ?_;refine blk_put (cs:=#[.int .i64 0,.slice none 0 0]) ?_ 0 _ rfl;refine pe_ ?_;exact BK783.out) hb);replace HB:=hs6_ HB GE762 GE763 GE764 GE766 GE767 GE783 hb;(try clear hb);(try clear hb2);(try clear hk);(try clear hi);(try clear ho0);have hnb74:=NB767_763.out;have hnc74:=NB763_767.out;have hnb75:=NB767_764.out;have hnc75:=NB764_767.out;obtain ⟨hcz76_0,hcz76_1,hfz76_0,hfz76_1⟩:=cf2_ BK767.out;obtain ⟨Ao77,co77,eo77⟩:=Kd.R_slice HO787.out;subst eo77))
        go_meet
        case rel => exact ⟨_,(true),(t784),(t785),(.slice Ao77 t785.length co77),rs_,H',⟨by have:=HK1.out;first|omega|exact Nat.le_refl _⟩,⟨by refine pr_ ?_;exact Kd.R_mono (Kd.R_far (p:=⟨gb767,1,none⟩) (Kd.R_far (p:=⟨gb767,0,none⟩) (Kd.R_types HO_765001.out BK767.out (by decide)) (fun _ hk => hk.2) (.int .i64 t784)) (fun _ hk => hk.2) (.slice Ao77 t785.length co77)) (fun _ hk => (by first|exact hk.1.2|trivial))⟩,⟨by refine pr_ ?_;exact Kd.R_mono (Kd.R_far (p:=⟨gb767,1,none⟩) (Kd.R_far (p:=⟨gb767,0,none⟩) (Kd.R_types HO787.out BK767.out (by decide)) (fun _ hk => hk.2) (.int .i64 t784)) (fun _ hk => hk.2) (.slice Ao77 t785.length co77)) (fun _ hk => (by first|exact hk.1.1.2|trivial))⟩,⟨bf1_ BK762.out NB762_767.out⟩,⟨bf1_ BK763.out NB763_767.out⟩,⟨bf1_ BK764.out NB764_767.out⟩,⟨bf1_ BK766.out NB766_767.out⟩,⟨by refine pe_ ?_;refine blk_put (cs:=#[.int .i64 t784,.slice none 0 0]) ?_ 1 _ rfl;refine pe_ ?_;refine blk_put (cs:=#[.int .i64 0,.slice none 0 0]) ?_ 0 _ rfl;refine pe_ ?_;exact BK767.out⟩,⟨be6_ HB.out GE762.out GE763.out GE764.out GE766.out GE767.out GE783.out⟩⟩
      case rest =>
       clear HC9
       try clear hx7
       try clear hx76
       try clear hx765_0
       try clear hx765_1
       obtain ⟨kq,x10_8,x768000_8,x768001_8,u768001,rfl,HA,HJ8,HO_765001,HO_768001,BK762,BK763,BK764,BK766,BK767,HB⟩:=hcut
       cases kq with
       | zero => exact absurd HA.out (by simp [impl_value.j1])
       | succ kj8 =>
        have H:=HA.out
        clear HA
        simp only [impl_value.j1] at H
        by_cases c78 : x10_8 = true
        ·subst c78
         have H1 : (if x15_1 > 0 then ((impl_MulGrades.f kj8 x765000_1 x765001_1 x768000_8 x768001_8).bind fun bt789 => (impl_value.l0 kj8 l1 (l1.length : Int) (wrap64 (x15_1 + 1)) a0_0 l0_1 l0_2 l0_3 bt789.1 bt789.2.1)) else (impl_value.l0 kj8 l1 (l1.length : Int) (wrap64 (x15_1 + 1)) a0_0 l0_1 l0_2 l0_3 x768000_8 x768001_8)) = some (r1,r2,r3):=by rw [if_pos rfl] at H;exact H
         clear H
         have H:=H1
         clear H1
         by_cases c79 : x15_1 > 0
         ·rw [if_pos c79] at H
          have c79b0 : decide (0 < x15_1) = true:=decide_eq_true c79
          clear c79
          replace H:=Option.bind_eq_some_iff.mp H
          obtain ⟨⟨t789,t790,t793⟩,A800,H⟩:=H
          replace H : (impl_value.l0 kj8 l1 (l1.length : Int) (wrap64 (x15_1 + 1)) a0_0 l0_1 l0_2 l0_3 t789 t790) = some (r1,r2,r3):=H
          have A80:=Aside0.mk A800
          clear A800
          have H':=Aside0.mk H
          clear H
          have hnb81:=NB764_762.out
          have hnc81:=NB762_764.out
          have hnb82:=NB764_763.out
          have hnc82:=NB763_764.out
          have hnb83:=NB764_766.out
          have hnc83:=NB766_764.out
          have hnb84:=NB764_767.out
          have hnc84:=NB767_764.out
          obtain ⟨hcz85_0,hcz85_1,hfz85_0,hfz85_1⟩:=cf2_ BK764.out
          have hnb86:=NB767_762.out
          have hnc86:=NB762_767.out
          have hnb87:=NB767_763.out
          have hnc87:=NB763_767.out
          have hnb88:=NB767_766.out
          have hnc88:=NB766_767.out
          obtain ⟨hcz89_0,hcz89_1,hfz89_0,hfz89_1⟩:=cf2_ BK767.out
          obtain ⟨Ao90,co90,eo90⟩:=Kd.R_slice HO_765001.out
          subst eo90
          obtain ⟨Ao91,co91,eo91⟩:=Kd.R_slice HO_768001.out
          subst eo91
          go_wp2_with (first|((with_reducible refine gate_callee (f:=56) rfl ?_);refine goesL_ (some 56) rfl rfl Try.func56 (by kernel_rfl) rfl #[.agg #[.int .i64 x765000_1,.slice Ao90 x765001_1.length co90],.agg #[.int .i64 x768000_8,.slice Ao91 x768001_8.length co91]] rfl lp_ ?_;(with_reducible refine (impl_MulGrades.calls kj8 x765000_1 _ _ x765001_1 x768000_8 _ _ x768001_8 t789 t790 t793 _ ?side1 ?side2 ?side3 ?side4 A80.out).mono ?_);(case side1 => exact cr_ (Kd.R_reads' HO_765001.out).2.2);(case side2 => exact (Kd.R_reads' HO_765001.out).2.1);(case side3 => exact cr_ (Kd.R_reads' HO_768001.out).2.2);(case side4 => exact (Kd.R_reads' HO_768001.out).2.1);rintro e w92 ⟨v791,rfl,ho0,hb⟩;refine ⟨_,rfl,?_⟩;have HO792:=Aside0.mk (Kd.R_lower (Kd.R_new' (Kd.R_new' ho0 (Kd.R_lt (pr_ HO_765001.out))) (Kd.R_lt (pr_ HO_768001.out))) (below_size (be5_ HB.out GE762.out GE763.out GE764.out GE766.out GE767.out)));replace HO_765001:=Aside0.mk (Kd.R_elder' (pr_ HO_765001.out) (Kd.R_base ho0) hb);replace HO_768001:=Aside0.mk (Kd.R_elder' (pr_ HO_768001.out) (Kd.R_base ho0) hb);replace BK762:=kc_ BK762 hb;replace BK763:=kc_ BK763 hb;replace BK764:=kc_ BK764 hb;replace BK766:=kc_ BK766 hb;replace BK767:=kc_ BK767 hb;replace HB:=hs5_ HB GE762 GE763 GE764 GE766 GE767 hb;(try clear hb);(try clear hb2);(try clear hk);(try clear hi);(try clear ho0);obtain ⟨hcz93_0,hcz93_1,hfz93_0,hfz93_1⟩:=cf2_ BK767.out;obtain ⟨Ao94,co94,eo94⟩:=Kd.R_slice HO792.out;subst eo94;obtain ⟨hcz95_0,hcz95_1,hfz95_0,hfz95_1⟩:=cf2_ BK764.out))
          go_roundg kj8
          case measure => have:=HK1.out;have:=HJ8.out;omega
          case rel => exact ⟨(wrap64 (x15_1 + 1)),(x764000_1),(t789),(t790),(.slice Ao94 t790.length co94),rs_,H',⟨by have:=HK1.out;have:=HJ8.out;omega⟩,⟨by refine pr_ ?_;exact Kd.R_mono (Kd.R_far (p:=⟨gb764,1,none⟩) (Kd.R_far (p:=⟨gb764,0,none⟩) (Kd.R_far (p:=⟨gb767,1,none⟩) (Kd.R_far (p:=⟨gb767,0,none⟩) (Kd.R_types (Kd.R_types HO792.out BK767.out (by decide)) BK764.out (by decide)) (fun _ hk => hk.1.2) (.int .i64 t789)) (fun _ hk => hk.1.2) (.slice Ao94 t790.length co94)) (fun _ hk => hk.2) (.int .i64 t789)) (fun _ hk => hk.2) (.slice Ao94 t790.length co94)) (fun _ hk => trivial)⟩,⟨bf2_ BK762.out NB762_764.out NB762_767.out⟩,⟨bf2_ BK763.out NB763_764.out NB763_767.out⟩,⟨by refine pe_ ?_;refine blk_put (cs:=#[.int .i64 t789,.slice Ao90 x765001_1.length co90]) ?_ 1 _ rfl;refine pe_ ?_;refine blk_put (cs:=#[.int .i64 x765000_1,.slice Ao90 x765001_1.length co90]) ?_ 0 _ rfl;refine pe_ ?_;refine blk_far ?_ NB764_767.out _;refine pe_ ?_;refine blk_far ?_ NB764_767.out _;refine pe_ ?_;exact BK764.out⟩,⟨be5_ HB.out GE762.out GE763.out GE764.out GE766.out GE767.out⟩⟩
         ·rw [if_neg c79] at H
          have c79b0 : decide (0 < x15_1) = false:=decide_eq_false c79
          clear c79
          have H':=Aside0.mk H
          clear H
          have hnb96:=NB767_762.out
          have hnc96:=NB762_767.out
          have hnb97:=NB767_763.out
          have hnc97:=NB763_767.out
          have hnb98:=NB767_764.out
          have hnc98:=NB764_767.out
          have hnb99:=NB767_766.out
          have hnc99:=NB766_767.out
          obtain ⟨hcz100_0,hcz100_1,hfz100_0,hfz100_1⟩:=cf2_ BK767.out
          have hnb101:=NB764_762.out
          have hnc101:=NB762_764.out
          have hnb102:=NB764_763.out
          have hnc102:=NB763_764.out
          have hnb103:=NB764_766.out
          have hnc103:=NB766_764.out
          obtain ⟨hcz104_0,hcz104_1,hfz104_0,hfz104_1⟩:=cf2_ BK764.out
          obtain ⟨Ao105,co105,eo105⟩:=Kd.R_slice HO_768001.out
          subst eo105
          go_wp2
          go_roundg kj8
          case measure => have:=HK1.out;have:=HJ8.out;omega
          case rel => exact ⟨(wrap64 (x15_1 + 1)),(x764000_1),(x768000_8),(x768001_8),(.slice Ao105 x768001_8.length co105),rs_,H',⟨by have:=HK1.out;have:=HJ8.out;omega⟩,⟨by refine pr_ ?_;exact Kd.R_mono (Kd.R_far (p:=⟨gb764,1,none⟩) (Kd.R_far (p:=⟨gb764,0,none⟩) (Kd.R_types HO_768001.out BK764.out (by decide)) (fun _ hk => hk.2) (.int .i64 x768000_8)) (fun _ hk => hk.2) (.slice Ao105 x768001_8.length co105)) (fun _ hk => trivial)⟩,⟨bf1_ BK762.out NB762_764.out⟩,⟨bf1_ BK763.out NB763_764.out⟩,⟨by refine pe_ ?_;refine blk_put (cs:=#[.int .i64 x768000_8,u765001]) ?_ 1 _ rfl;refine pe_ ?_;refine blk_put (cs:=#[.int .i64 x765000_1,u765001]) ?_ 0 _ rfl;refine pe_ ?_;exact BK764.out⟩,⟨be5_ HB.out GE762.out GE763.out GE764.out GE766.out GE767.out⟩⟩
        ·replace c78:=Bool.eq_false_iff.mpr c78
         subst c78
         have H1 : (some (0,([] : List Int),false)) = some (r1,r2,r3):=by rw [if_neg (show ¬ (false = true) by decide)] at H;exact H
         clear H
         have H:=H1
         clear H1
         simp only [Option.some.injEq,Prod.mk.injEq] at H
         obtain ⟨rfl,rfl,rfl⟩:=H
         have hnb106:=NB763_762.out
         have hnc106:=NB762_763.out
         have hnb107:=NB763_764.out
         have hnc107:=NB764_763.out
         have hnb108:=NB763_766.out
         have hnc108:=NB766_763.out
         have hnb109:=NB763_767.out
         have hnc109:=NB767_763.out
         obtain ⟨hcz110_0,hcz110_1,hfz110_0,hfz110_1⟩:=cf2_ BK763.out
         go_wp2
         refine bodyPost_ret (results_ct rfl _ _ gb763 35 #[.int .i64 0,.slice none 0 0] (0,0) _ rfl (by refine pe_ ?_;refine blk_put (cs:=#[.int .i64 0,.slice none 0 0]) ?_ 1 _ rfl;refine pe_ ?_;refine blk_put (cs:=#[.int .i64 x764000_1,.slice none 0 0]) ?_ 0 _ rfl;refine pe_ ?_;exact BK763.out) Try.underlying35 rfl (by kernel_rfl)) rfl ?_
         exact ⟨_,er_,by first|exact Kd.R_nil _ _ _ _ _|exact Kd.N_nil _ _ _ _ _|exact Kd.V_nil _ _ _ _ _|exact Kd.Q_nil _ _ _ _ _|exact Kd.S_nil _ _ _ _ _,be5_ HB.out GE762.out GE763.out GE764.out GE766.out GE767.out⟩
     ·rw [if_neg c8] at H
      exact absurd H (by simp)
    ·rw [if_neg c7] at H
     exact absurd H (by simp)
   ·rw [if_neg c6] at H
    have c6b0 : decide (x15_1 < (l1.length : Int)) = false:=decide_eq_false c6
    clear c6
    simp only [Option.some.injEq,Prod.mk.injEq] at H
    obtain ⟨rfl,rfl,rfl⟩:=H
    have hnb111:=NB764_762.out
    have hnc111:=NB762_764.out
    have hnb112:=NB764_763.out
    have hnc112:=NB763_764.out
    obtain ⟨hcz113_0,hcz113_1,hfz113_0,hfz113_1⟩:=cf2_ BK764.out
    have hnb114:=NB763_762.out
    have hnc114:=NB762_763.out
    obtain ⟨hcz115_0,hcz115_1,hfz115_0,hfz115_1⟩:=cf2_ BK763.out
    obtain ⟨Ao116,co116,eo116⟩:=Kd.R_slice HO_765001.out
    subst eo116
    go_wp2
    refine bodyPost_ret (results_ct rfl _ _ gb763 35 #[.int .i64 x765000_1,.slice Ao116 x765001_1.length co116] (0,0) _ rfl (by refine pe_ ?_;refine blk_put (cs:=#[.int .i64 x765000_1,.slice none 0 0]) ?_ 1 _ rfl;refine pe_ ?_;refine blk_put (cs:=#[.int .i64 x764000_1,.slice none 0 0]) ?_ 0 _ rfl;refine pe_ ?_;exact BK763.out) Try.underlying35 rfl (by kernel_rfl)) rfl ?_
    exact ⟨_,er_,by refine pr_ ?_;exact Kd.R_mono (Kd.R_far (p:=⟨gb763,1,none⟩) (Kd.R_far (p:=⟨gb763,0,none⟩) (Kd.R_types HO_765001.out BK763.out (by decide)) (fun _ hk => hk.2) (.int .i64 x765000_1)) (fun _ hk => hk.2) (.slice Ao116 x765001_1.length co116)) (fun _ hk => trivial),be3_ HB.out GE762.out GE763.out GE764.out⟩
def impl_ValueOf.f (k : Nat) (a0_0 : Int) (l0_1 : List Int) (l0_2 : List Int) (l0_3 : List (S92)) (a1 : ByteArray) : Option (Int × List Int × Bool):=(impl_parts.f k a1).bind fun bt796 => (if bt796.2 = true then ((impl_AutomatonValid.f k a0_0 l0_1 l0_2 l0_3).bind fun t800 => (if t800 = true then ((impl_value.f k a0_0 l0_1 l0_2 l0_3 bt796.1).bind fun bt801 => (some (bt801.1,bt801.2.1,bt801.2.2))) else (some (0,([] : List Int),false)))) else (some (0,([] : List Int),false)))
theorem impl_ValueOf.mono : ∀ a0 a1 a2 a3 a4 k,LeO (impl_ValueOf.f k a0 a1 a2 a3 a4) (impl_ValueOf.f (k + 1) a0 a1 a2 a3 a4):=by
 intro a0 a1 a2 a3 a4 k
 unfold impl_ValueOf.f
 repeat' first
   | (with_reducible exact impl_AutomatonValid.mono _ _ _ _ _)
   | (with_reducible exact impl_parts.mono _ _)
   | (with_reducible exact impl_value.mono _ _ _ _ _ _)
   | (with_reducible first|exact LeO.refl _|exact LeO.none _|refine LeO.ite ?_ ?_|refine LeO.bind ?_ (fun _ => ?_))
   | exact impl_AutomatonValid.mono _ _ _ _ _
   | exact impl_parts.mono _ _
   | exact impl_value.mono _ _ _ _ _ _
   | exact LeO.none _
   | refine LeO.ite ?_ ?_
   | refine LeO.bind ?_ (fun _ => ?_)
set_option maxHeartbeats 8000000 in
set_option maxRecDepth 100000 in
theorem impl_ValueOf.calls (k : Nat) (a0_0 : Int) (A0_1 : Option Addr) (c0_1 : Nat) (l0_1 : List Int) (A0_2 : Option Addr) (c0_2 : Nat) (l0_2 : List Int) (A0_3 : Option Addr) (c0_3 : Nat) (l0_3 : List (S92)) (a1 : ByteArray) (r1 : Int) (r2 : List Int) (r3 : Bool) (w : World) (hr0_1 : Kd.C (Kd.int .i64) w A0_1 l0_1.length l0_1) (hc0_1 : l0_1.length ≤ c0_1) (hr0_2 : Kd.C (Kd.int .i64) w A0_2 l0_2.length l0_2) (hc0_2 : l0_2.length ≤ c0_2) (hr0_3 : Kd.C k92 w A0_3 l0_3.length l0_3) (hc0_3 : l0_3.length ≤ c0_3) (h : impl_ValueOf.f k a0_0 l0_1 l0_2 l0_3 a1 = some (r1,r2,r3)) :
  Calls Try.prog 35 #[.agg #[.int .i64 a0_0,.slice A0_1 l0_1.length c0_1,.slice A0_2 l0_2.length c0_2,.slice A0_3 l0_3.length c0_3],.string a1] w fun e w' => ∃ v1_ : Value,e = .returned (.tuple #[.agg #[.int .i64 r1,v1_],.bool r3]) ∧ Kd.R (Kd.int .i64) 3 w' w.heap.size (fun _ => True) v1_ r2 ∧ Below w.heap.size w w':=by
 have hu33:=Try.underlying33
 have hu35:=Try.underlying35
 have HR0_1:=Aside0.mk hr0_1
 have HC0_1:=Aside0.mk hc0_1
 clear hr0_1 hc0_1
 have HR0_2:=Aside0.mk hr0_2
 have HC0_2:=Aside0.mk hc0_2
 clear hr0_2 hc0_2
 have HR0_3:=Aside0.mk hr0_3
 have HC0_3:=Aside0.mk hc0_3
 clear hr0_3 hc0_3
 have HB:=Aside0.mk (Below.refl w.heap.size w)
 have H : ((impl_parts.f k a1).bind fun bt796 => (if bt796.2 = true then ((impl_AutomatonValid.f k a0_0 l0_1 l0_2 l0_3).bind fun t800 => (if t800 = true then ((impl_value.f k a0_0 l0_1 l0_2 l0_3 bt796.1).bind fun bt801 => (some (bt801.1,bt801.2.1,bt801.2.2))) else (some (0,([] : List Int),false)))) else (some (0,([] : List Int),false)))) = some (r1,r2,r3):=h
 clear h
 replace H:=Option.bind_eq_some_iff.mp H
 obtain ⟨⟨t796,t797⟩,A30,H⟩:=H
 replace H : (if t797 = true then ((impl_AutomatonValid.f k a0_0 l0_1 l0_2 l0_3).bind fun t800 => (if t800 = true then ((impl_value.f k a0_0 l0_1 l0_2 l0_3 t796).bind fun bt801 => (some (bt801.1,bt801.2.1,bt801.2.2))) else (some (0,([] : List Int),false)))) else (some (0,([] : List Int),false))) = some (r1,r2,r3):=H
 have A3:=Aside0.mk A30
 clear A30
 by_cases c4 : t797 = true
 ·subst c4
  have H1 : ((impl_AutomatonValid.f k a0_0 l0_1 l0_2 l0_3).bind fun t800 => (if t800 = true then ((impl_value.f k a0_0 l0_1 l0_2 l0_3 t796).bind fun bt801 => (some (bt801.1,bt801.2.1,bt801.2.2))) else (some (0,([] : List Int),false)))) = some (r1,r2,r3):=by rw [if_pos rfl] at H;exact H
  clear H
  have H:=H1
  clear H1
  replace H:=Option.bind_eq_some_iff.mp H
  obtain ⟨t800,A50,H⟩:=H
  replace H : (if t800 = true then ((impl_value.f k a0_0 l0_1 l0_2 l0_3 t796).bind fun bt801 => (some (bt801.1,bt801.2.1,bt801.2.2))) else (some (0,([] : List Int),false))) = some (r1,r2,r3):=H
  have A5:=Aside0.mk A50
  clear A50
  by_cases c6 : t800 = true
  ·subst c6
   have H1 : ((impl_value.f k a0_0 l0_1 l0_2 l0_3 t796).bind fun bt801 => (some (bt801.1,bt801.2.1,bt801.2.2))) = some (r1,r2,r3):=by rw [if_pos rfl] at H;exact H
   clear H
   have H:=H1
   clear H1
   replace H:=Option.bind_eq_some_iff.mp H
   obtain ⟨⟨t801,t802,t805⟩,A70,H⟩:=H
   replace H : (some (t801,t802,t805)) = some (r1,r2,r3):=H
   have A7:=Aside0.mk A70
   clear A70
   simp only [Option.some.injEq,Prod.mk.injEq] at H
   obtain ⟨rfl,rfl,rfl⟩:=H
   go_enter Try.func35,Try.ntmps35
   go_wp2_with (first|((with_reducible refine bev_ (N:=2) rfl rfl (cs:=#[.int .i64 a0_0,.slice A0_1 l0_1.length c0_1,.slice A0_2 l0_2.length c0_2,.slice A0_3 l0_3.length c0_3]) (t:=33) ?hr ?_);(case hr => first|(go_simp;done)|(go_simp;rfl));intro gb794 hg w8 hbox hb;have BK794:=Aside0.mk (hbox);have GW794:=gw0_ hg HB;have GE794:=GW794;replace HB:=hs0_ HB hb;clear hb hbox hg)|((with_reducible refine bev_ (N:=4) rfl rfl (cs:=#[.int .i64 0,.slice none 0 0]) (t:=35) ?hr ?_);(case hr => first|(go_simp;done)|(go_simp;rfl));intro gb795 hg w9 hbox hb;have BK795:=Aside0.mk (hbox);have GW795:=gw1_ hg HB GE794;have GE795:=GW795;replace HB:=hs1_ HB GE794 hb;have NB794_795:=nm_ hg BK794;have NB795_794:=nn_ hg BK794;replace BK794:=kc_ BK794 hb;clear hb hbox hg)|((with_reducible refine gate_callee (f:=88) rfl ?_);refine goesL_ (some 10) rfl rfl Try.func88 (by kernel_rfl) rfl #[.string a1] rfl lp_ ?_;(with_reducible refine (impl_parts.calls k a1 t796 true _ A3.out).mono ?_);rintro e w10 ⟨v798,rfl,ho0,hb⟩;refine ⟨_,rfl,?_⟩;have HO799:=Aside0.mk (Kd.R_lower ho0 (below_size (be2_ HB.out GE794.out GE795.out)));replace BK794:=kc_ BK794 hb;replace BK795:=kc_ BK795 hb;replace HB:=hs2_ HB GE794 GE795 hb;(try clear hb);(try clear hb2);(try clear hk);(try clear hi);(try clear ho0);have hnb11:=NB794_795.out;have hnc11:=NB795_794.out;obtain ⟨hcz12_0,hcz12_1,hcz12_2,hcz12_3,hfz12_0,hfz12_1,hfz12_2,hfz12_3⟩:=cf4_ BK794.out)|(go_at_call 72;(with_reducible refine (impl_AutomatonValid.calls k a0_0 _ _ l0_1 _ _ l0_2 _ _ l0_3 true _ ?side1 ?side2 ?side3 ?side4 ?side5 ?side6 A5.out).mono ?_);(case side1 => exact cr_ (Kd.C_below HR0_1.out HB.out));(case side2 => exact HC0_1.out);(case side3 => exact cr_ (Kd.C_below HR0_2.out HB.out));(case side4 => exact HC0_2.out);(case side5 => exact cr_ (Kd.C_below HR0_3.out HB.out));(case side6 => exact HC0_3.out);rintro e w13 ⟨rfl,hb⟩;replace HO799:=Aside0.mk (Kd.R_below (pr_ HO799.out) hb);replace BK794:=kc_ BK794 hb;replace BK795:=kc_ BK795 hb;replace HB:=hs2_ HB GE794 GE795 hb;(try clear hb);(try clear hb2);(try clear hk);(try clear hi);obtain ⟨hcz14_0,hcz14_1,hcz14_2,hcz14_3,hfz14_0,hfz14_1,hfz14_2,hfz14_3⟩:=cf4_ BK794.out;obtain ⟨Ao15,co15,eo15⟩:=Kd.R_slice HO799.out;subst eo15)|((with_reducible refine gate_callee (f:=89) rfl ?_);refine goesL_ (some 23) rfl rfl Try.func89 (by kernel_rfl) rfl #[.agg #[.int .i64 a0_0,.slice A0_1 l0_1.length c0_1,.slice A0_2 l0_2.length c0_2,.slice A0_3 l0_3.length c0_3],.slice Ao15 t796.length co15] rfl lp_ ?_;(with_reducible refine (impl_value.calls k a0_0 _ _ l0_1 _ _ l0_2 _ _ l0_3 _ _ t796 t801 t802 t805 _ ?side1 ?side2 ?side3 ?side4 ?side5 ?side6 ?side7 ?side8 A7.out).mono ?_);(case side1 => exact cr_ (Kd.C_below HR0_1.out HB.out));(case side2 => exact HC0_1.out);(case side3 => exact cr_ (Kd.C_below HR0_2.out HB.out));(case side4 => exact HC0_2.out);(case side5 => exact cr_ (Kd.C_below HR0_3.out HB.out));(case side6 => exact HC0_3.out);(case side7 => exact cr_ (Kd.R_reads' HO799.out).2.2);(case side8 => exact (Kd.R_reads' HO799.out).2.1);rintro e w16 ⟨v803,rfl,ho0,hb⟩;refine ⟨_,rfl,?_⟩;replace HO799:=Aside0.mk (Kd.R_below (pr_ HO799.out) hb);have HO804:=Aside0.mk (Kd.R_lower ho0 (below_size (be2_ HB.out GE794.out GE795.out)));replace BK794:=kc_ BK794 hb;replace BK795:=kc_ BK795 hb;replace HB:=hs2_ HB GE794 GE795 hb;(try clear hb);(try clear hb2);(try clear hk);(try clear hi);(try clear ho0);obtain ⟨hcz17_0,hcz17_1,hfz17_0,hfz17_1⟩:=cf2_ BK795.out;obtain ⟨Ao18,co18,eo18⟩:=Kd.R_slice HO804.out;subst eo18))
   refine bodyPost_ret (results_ct rfl _ _ gb795 35 #[.int .i64 t801,.slice Ao18 t802.length co18] (0,0) _ rfl (by refine pe_ ?_;refine blk_put (cs:=#[.int .i64 t801,.slice none 0 0]) ?_ 1 _ rfl;refine pe_ ?_;refine blk_put (cs:=#[.int .i64 0,.slice none 0 0]) ?_ 0 _ rfl;refine pe_ ?_;exact BK795.out) Try.underlying35 rfl (by kernel_rfl)) rfl ?_
   exact ⟨_,er_,by refine pr_ ?_;exact Kd.R_mono (Kd.R_far (p:=⟨gb795,1,none⟩) (Kd.R_far (p:=⟨gb795,0,none⟩) (Kd.R_types HO804.out BK795.out (by decide)) (fun _ hk => hk.2) (.int .i64 t801)) (fun _ hk => hk.2) (.slice Ao18 t802.length co18)) (fun _ hk => trivial),be2_ HB.out GE794.out GE795.out⟩
  ·replace c6:=Bool.eq_false_iff.mpr c6
   subst c6
   have H1 : (some (0,([] : List Int),false)) = some (r1,r2,r3):=by rw [if_neg (show ¬ (false = true) by decide)] at H;exact H
   clear H
   have H:=H1
   clear H1
   simp only [Option.some.injEq,Prod.mk.injEq] at H
   obtain ⟨rfl,rfl,rfl⟩:=H
   go_enter Try.func35,Try.ntmps35
   go_wp2_with (first|((with_reducible refine bev_ (N:=2) rfl rfl (cs:=#[.int .i64 a0_0,.slice A0_1 l0_1.length c0_1,.slice A0_2 l0_2.length c0_2,.slice A0_3 l0_3.length c0_3]) (t:=33) ?hr ?_);(case hr => first|(go_simp;done)|(go_simp;rfl));intro gb794 hg w19 hbox hb;have BK794:=Aside0.mk (hbox);have GW794:=gw0_ hg HB;have GE794:=GW794;replace HB:=hs0_ HB hb;clear hb hbox hg)|((with_reducible refine bev_ (N:=4) rfl rfl (cs:=#[.int .i64 0,.slice none 0 0]) (t:=35) ?hr ?_);(case hr => first|(go_simp;done)|(go_simp;rfl));intro gb795 hg w20 hbox hb;have BK795:=Aside0.mk (hbox);have GW795:=gw1_ hg HB GE794;have GE795:=GW795;replace HB:=hs1_ HB GE794 hb;have NB794_795:=nm_ hg BK794;have NB795_794:=nn_ hg BK794;replace BK794:=kc_ BK794 hb;clear hb hbox hg)|((with_reducible refine gate_callee (f:=88) rfl ?_);refine goesL_ (some 10) rfl rfl Try.func88 (by kernel_rfl) rfl #[.string a1] rfl lp_ ?_;(with_reducible refine (impl_parts.calls k a1 t796 true _ A3.out).mono ?_);rintro e w21 ⟨v798,rfl,ho0,hb⟩;refine ⟨_,rfl,?_⟩;have HO799:=Aside0.mk (Kd.R_lower ho0 (below_size (be2_ HB.out GE794.out GE795.out)));replace BK794:=kc_ BK794 hb;replace BK795:=kc_ BK795 hb;replace HB:=hs2_ HB GE794 GE795 hb;(try clear hb);(try clear hb2);(try clear hk);(try clear hi);(try clear ho0);have hnb22:=NB794_795.out;have hnc22:=NB795_794.out;obtain ⟨hcz23_0,hcz23_1,hcz23_2,hcz23_3,hfz23_0,hfz23_1,hfz23_2,hfz23_3⟩:=cf4_ BK794.out)|(go_at_call 72;(with_reducible refine (impl_AutomatonValid.calls k a0_0 _ _ l0_1 _ _ l0_2 _ _ l0_3 false _ ?side1 ?side2 ?side3 ?side4 ?side5 ?side6 A5.out).mono ?_);(case side1 => exact cr_ (Kd.C_below HR0_1.out HB.out));(case side2 => exact HC0_1.out);(case side3 => exact cr_ (Kd.C_below HR0_2.out HB.out));(case side4 => exact HC0_2.out);(case side5 => exact cr_ (Kd.C_below HR0_3.out HB.out));(case side6 => exact HC0_3.out);rintro e w24 ⟨rfl,hb⟩;replace HO799:=Aside0.mk (Kd.R_below (pr_ HO799.out) hb);replace BK794:=kc_ BK794 hb;replace BK795:=kc_ BK795 hb;replace HB:=hs2_ HB GE794 GE795 hb;(try clear hb);(try clear hb2);(try clear hk);(try clear hi);obtain ⟨hcz25_0,hcz25_1,hfz25_0,hfz25_1⟩:=cf2_ BK795.out))
   refine bodyPost_ret (results_ct rfl _ _ gb795 35 #[.int .i64 0,.slice none 0 0] (0,0) _ rfl (by refine pe_ ?_;refine blk_put (cs:=#[.int .i64 0,.slice none 0 0]) ?_ 1 _ rfl;refine pe_ ?_;refine blk_put (cs:=#[.int .i64 0,.slice none 0 0]) ?_ 0 _ rfl;refine pe_ ?_;exact BK795.out) Try.underlying35 rfl (by kernel_rfl)) rfl ?_
   exact ⟨_,er_,by first|exact Kd.R_nil _ _ _ _ _|exact Kd.N_nil _ _ _ _ _|exact Kd.V_nil _ _ _ _ _|exact Kd.Q_nil _ _ _ _ _|exact Kd.S_nil _ _ _ _ _,be2_ HB.out GE794.out GE795.out⟩
 ·replace c4:=Bool.eq_false_iff.mpr c4
  subst c4
  have H1 : (some (0,([] : List Int),false)) = some (r1,r2,r3):=by rw [if_neg (show ¬ (false = true) by decide)] at H;exact H
  clear H
  have H:=H1
  clear H1
  simp only [Option.some.injEq,Prod.mk.injEq] at H
  obtain ⟨rfl,rfl,rfl⟩:=H
  go_enter Try.func35,Try.ntmps35
  go_wp2_with (first|((with_reducible refine bev_ (N:=2) rfl rfl (cs:=#[.int .i64 a0_0,.slice A0_1 l0_1.length c0_1,.slice A0_2 l0_2.length c0_2,.slice A0_3 l0_3.length c0_3]) (t:=33) ?hr ?_);(case hr => first|(go_simp;done)|(go_simp;rfl));intro gb794 hg w26 hbox hb;have BK794:=Aside0.mk (hbox);have GW794:=gw0_ hg HB;have GE794:=GW794;replace HB:=hs0_ HB hb;clear hb hbox hg)|((with_reducible refine bev_ (N:=4) rfl rfl (cs:=#[.int .i64 0,.slice none 0 0]) (t:=35) ?hr ?_);(case hr => first|(go_simp;done)|(go_simp;rfl));intro gb795 hg w27 hbox hb;have BK795:=Aside0.mk (hbox);have GW795:=gw1_ hg HB GE794;have GE795:=GW795;replace HB:=hs1_ HB GE794 hb;have NB794_795:=nm_ hg BK794;have NB795_794:=nn_ hg BK794;replace BK794:=kc_ BK794 hb;clear hb hbox hg)|((with_reducible refine gate_callee (f:=88) rfl ?_);refine goesL_ (some 10) rfl rfl Try.func88 (by kernel_rfl) rfl #[.string a1] rfl lp_ ?_;(with_reducible refine (impl_parts.calls k a1 t796 false _ A3.out).mono ?_);rintro e w28 ⟨v798,rfl,ho0,hb⟩;refine ⟨_,rfl,?_⟩;have HO799:=Aside0.mk (Kd.R_lower ho0 (below_size (be2_ HB.out GE794.out GE795.out)));replace BK794:=kc_ BK794 hb;replace BK795:=kc_ BK795 hb;replace HB:=hs2_ HB GE794 GE795 hb;(try clear hb);(try clear hb2);(try clear hk);(try clear hi);(try clear ho0);have hnb29:=NB795_794.out;have hnc29:=NB794_795.out;obtain ⟨hcz30_0,hcz30_1,hfz30_0,hfz30_1⟩:=cf2_ BK795.out))
  refine bodyPost_ret (results_ct rfl _ _ gb795 35 #[.int .i64 0,.slice none 0 0] (0,0) _ rfl (by refine pe_ ?_;refine blk_put (cs:=#[.int .i64 0,.slice none 0 0]) ?_ 1 _ rfl;refine pe_ ?_;refine blk_put (cs:=#[.int .i64 0,.slice none 0 0]) ?_ 0 _ rfl;refine pe_ ?_;exact BK795.out) Try.underlying35 rfl (by kernel_rfl)) rfl ?_
  exact ⟨_,er_,by first|exact Kd.R_nil _ _ _ _ _|exact Kd.N_nil _ _ _ _ _|exact Kd.V_nil _ _ _ _ _|exact Kd.Q_nil _ _ _ _ _|exact Kd.S_nil _ _ _ _ _,be2_ HB.out GE794.out GE795.out⟩
def laws_eqIntS.l0 : Nat → List Int → List Int → Int → Option (Bool)
 | 0,_,_,_ => none
 | k + 1,x0,x1,x5 => if x5 < (x0.length : Int) then (if 0 ≤ x5 then (if x5 < (x1.length : Int) then (if (rd x0 x5) = (rd x1 x5) then (laws_eqIntS.l0 k x0 x1 (wrap64 (x5 + 1))) else (some false)) else (none)) else (none)) else (some true)
def laws_eqIntS.f (k : Nat) (l0 : List Int) (l1 : List Int) : Option (Bool):=if (l0.length : Int) = (l1.length : Int) then (laws_eqIntS.l0 k l0 l1 0) else (some false)
theorem laws_eqIntS.mono_l : ∀ k,(∀ y0 y1 y2,LeO (laws_eqIntS.l0 k y0 y1 y2) (laws_eqIntS.l0 (k + 1) y0 y1 y2))
 | 0 => fun _ _ _ r h => by simp [laws_eqIntS.l0] at h
 | k + 1 => by
  have ih0:=laws_eqIntS.mono_l k
  ·intro y0 y1 y2
   unfold laws_eqIntS.l0
   repeat' first
   | (with_reducible exact ih0 _ _ _)
   | (with_reducible first|exact LeO.refl _|exact LeO.none _|refine LeO.ite ?_ ?_|refine LeO.bind ?_ (fun _ => ?_))
   | exact ih0 _ _ _
   | exact LeO.none _
   | refine LeO.ite ?_ ?_
   | refine LeO.bind ?_ (fun _ => ?_)
theorem laws_eqIntS.mono : ∀ a0 a1 k,LeO (laws_eqIntS.f k a0 a1) (laws_eqIntS.f (k + 1) a0 a1):=by
 intro a0 a1 k
 have ih0:=laws_eqIntS.mono_l k
 unfold laws_eqIntS.f
 repeat' first
   | (with_reducible exact ih0 _ _ _)
   | (with_reducible first|exact LeO.refl _|exact LeO.none _|refine LeO.ite ?_ ?_|refine LeO.bind ?_ (fun _ => ?_))
   | exact ih0 _ _ _
   | exact LeO.none _
   | refine LeO.ite ?_ ?_
   | refine LeO.bind ?_ (fun _ => ?_)
set_option maxHeartbeats 8000000 in
set_option maxRecDepth 100000 in
theorem laws_eqIntS.calls (k : Nat) (A0 : Option Addr) (c0 : Nat) (l0 : List Int) (A1 : Option Addr) (c1 : Nat) (l1 : List Int) (r : Bool) (w : World) (hr0 : Kd.C (Kd.int .i64) w A0 l0.length l0) (hc0 : l0.length ≤ c0) (hr1 : Kd.C (Kd.int .i64) w A1 l1.length l1) (hc1 : l1.length ≤ c1) (h : laws_eqIntS.f k l0 l1 = some r) :
  Calls Try.prog 29 #[.slice A0 l0.length c0,.slice A1 l1.length c1] w fun e w' => e = .returned (.bool r) ∧ Drawn0 w w':=by
 have HR0:=Aside0.mk hr0
 have HC0:=Aside0.mk hc0
 clear hr0 hc0
 have HR1:=Aside0.mk hr1
 have HC1:=Aside0.mk hc1
 clear hr1 hc1
 have H : (if (l0.length : Int) = (l1.length : Int) then (laws_eqIntS.l0 k l0 l1 0) else (some false)) = some r:=h
 clear h
 by_cases c3 : (l0.length : Int) = (l1.length : Int)
 ·rw [if_pos c3] at H
  have c3b0 : ((l0.length : Int) == (l1.length : Int)) = true:=beq_iff_eq.mpr c3
  have c3b1 : ((l0.length : Int) != (l1.length : Int)) = false:=bne_eq_false_iff_eq.mpr c3
  have c3b2 : (l0.length == l1.length) = true:=by first|simpa using c3|(simp at c3 ⊢;omega)
  clear c3
  have H':=Aside0.mk H
  clear H
  go_enter Try.func29,Try.ntmps29
  go_wp2
  repeat (go_quiet (fail);try go_wp2)
  go_loopg [5] k (fun kq v5 w' => ∃ (x5_1 : Int),v5 = .int .i64 x5_1 ∧ Aside0 (laws_eqIntS.l0 kq l0 l1 x5_1 = some r) ∧ Aside0 (kq ≤ k) ∧ Drawn0 w w')
  case atStart => exact ⟨(0),rs_,H',⟨Nat.le_refl _⟩,by repeat (first|exact Drawn0.refl _|apply Drawn0.step)⟩
  case round =>
   clear H'
   obtain ⟨x5_1,rfl,HA,HK1,⟨m1,rfl⟩⟩:=hrel
   cases gk with
   | zero => exact absurd HA.out (by simp [laws_eqIntS.l0])
   | succ k1 =>
    have H:=HA.out
    clear HA
    simp only [laws_eqIntS.l0] at H
    by_cases c4 : x5_1 < (l0.length : Int)
    ·rw [if_pos c4] at H
     have c4b0 : decide (x5_1 < (l0.length : Int)) = true:=decide_eq_true c4
     clear c4
     by_cases c5 : 0 ≤ x5_1
     ·rw [if_pos c5] at H
      have c5b0 : decide (0 ≤ x5_1) = true:=decide_eq_true c5
      clear c5
      by_cases c6 : x5_1 < (l1.length : Int)
      ·rw [if_pos c6] at H
       have c6b0 : decide (x5_1 < (l1.length : Int)) = true:=decide_eq_true c6
       clear c6
       by_cases c7 : (rd l0 x5_1) = (rd l1 x5_1)
       ·rw [if_pos c7] at H
        have c7b0 : ((rd l0 x5_1) == (rd l1 x5_1)) = true:=beq_iff_eq.mpr c7
        have c7b1 : ((rd l0 x5_1) != (rd l1 x5_1)) = false:=bne_eq_false_iff_eq.mpr c7
        clear c7
        have H':=Aside0.mk H
        clear H
        have p224 : 0 ≤ (x5_1 : Int):=od_
        have q224 : x5_1 < (l0.length : Int):=od_
        obtain ⟨ad224,e224,hx224_0⟩:=Kd.at_int HR0.out x5_1 p224 q224
        cases e224
        replace p224:=eq_true p224
        replace q224:=eq_true q224
        have p225 : 0 ≤ (x5_1 : Int):=od_
        have q225 : x5_1 < (l1.length : Int):=od_
        obtain ⟨ad225,e225,hx225_0⟩:=Kd.at_int HR1.out x5_1 p225 q225
        cases e225
        replace p225:=eq_true p225
        replace q225:=eq_true q225
        go_wp2
        repeat (go_quiet (fail);try go_wp2)
        go_roundg k1
        case measure => have:=HK1.out;omega
        case rel => exact ⟨(wrap64 (x5_1 + 1)),rs_,H',⟨by have:=HK1.out;omega⟩,by repeat (first|exact Drawn0.refl _|apply Drawn0.step)⟩
       ·rw [if_neg c7] at H
        have c7b0 : ((rd l0 x5_1) == (rd l1 x5_1)) = false:=beq_eq_false_iff_ne.mpr c7
        have c7b1 : ((rd l0 x5_1) != (rd l1 x5_1)) = true:=bne_iff_ne.mpr c7
        obtain rfl:=Option.some.inj H
        have p224 : 0 ≤ (x5_1 : Int):=od_
        have q224 : x5_1 < (l0.length : Int):=od_
        obtain ⟨ad224,e224,hx224_0⟩:=Kd.at_int HR0.out x5_1 p224 q224
        cases e224
        replace p224:=eq_true p224
        replace q224:=eq_true q224
        have p225 : 0 ≤ (x5_1 : Int):=od_
        have q225 : x5_1 < (l1.length : Int):=od_
        obtain ⟨ad225,e225,hx225_0⟩:=Kd.at_int HR1.out x5_1 p225 q225
        cases e225
        replace p225:=eq_true p225
        replace q225:=eq_true q225
        go_wp2
        repeat (go_quiet (fail);try go_wp2)
        go_ret
        exact ⟨by first|rfl|(simp;done)|(simp [*];done),by repeat (first|exact Drawn0.refl _|apply Drawn0.step)⟩
      ·rw [if_neg c6] at H
       exact absurd H (by simp)
     ·rw [if_neg c5] at H
      exact absurd H (by simp)
    ·rw [if_neg c4] at H
     have c4b0 : decide (x5_1 < (l0.length : Int)) = false:=decide_eq_false c4
     clear c4
     obtain rfl:=Option.some.inj H
     go_wp2
     repeat (go_quiet (fail);try go_wp2)
     go_ret
     exact ⟨by first|rfl|(simp;done)|(simp [*];done),by repeat (first|exact Drawn0.refl _|apply Drawn0.step)⟩
 ·rw [if_neg c3] at H
  have c3b0 : ((l0.length : Int) == (l1.length : Int)) = false:=beq_eq_false_iff_ne.mpr c3
  have c3b1 : ((l0.length : Int) != (l1.length : Int)) = true:=bne_iff_ne.mpr c3
  have c3b2 : (l0.length == l1.length) = false:=by first|simpa using c3|(simp at c3 ⊢;omega)
  obtain rfl:=Option.some.inj H
  go_enter Try.func29,Try.ntmps29
  go_wp2
  repeat (go_quiet (fail);try go_wp2)
  go_ret
  exact ⟨by first|rfl|(simp;done)|(simp [*];done),by repeat (first|exact Drawn0.refl _|apply Drawn0.step)⟩
def laws_eqStep.f (a0_0 : Int) (a0_1 : ByteArray) (a0_2 : Int) (a0_3 : Int) (a1_0 : Int) (a1_1 : ByteArray) (a1_2 : Int) (a1_3 : Int) : Option (Bool):=if a0_0 = a1_0 then (if a0_1.toList = a1_1.toList then (if a0_2 = a1_2 then (if a0_3 = a1_3 then (some true) else (some false)) else (some false)) else (some false)) else (some false)
set_option maxHeartbeats 8000000 in
set_option maxRecDepth 100000 in
theorem laws_eqStep.calls (a0_0 : Int) (a0_1 : ByteArray) (a0_2 : Int) (a0_3 : Int) (a1_0 : Int) (a1_1 : ByteArray) (a1_2 : Int) (a1_3 : Int) (r : Bool) (w : World) (h : laws_eqStep.f a0_0 a0_1 a0_2 a0_3 a1_0 a1_1 a1_2 a1_3 = some r) :
  Calls Try.prog 129 #[.agg #[.int .i64 a0_0,.string a0_1,.int .i64 a0_2,.int .i64 a0_3],.agg #[.int .i64 a1_0,.string a1_1,.int .i64 a1_2,.int .i64 a1_3]] w fun e w' => e = .returned (.bool r) ∧ Below w.heap.size w w':=by
 have hu92:=Try.underlying92
 have HB:=Aside0.mk (Below.refl w.heap.size w)
 have H : (if a0_0 = a1_0 then (if a0_1.toList = a1_1.toList then (if a0_2 = a1_2 then (if a0_3 = a1_3 then (some true) else (some false)) else (some false)) else (some false)) else (some false)) = some r:=h
 clear h
 by_cases c3 : a0_0 = a1_0
 ·rw [if_pos c3] at H
  have c3b0 : (a0_0 == a1_0) = true:=beq_iff_eq.mpr c3
  have c3b1 : (a0_0 != a1_0) = false:=bne_eq_false_iff_eq.mpr c3
  clear c3
  by_cases c4 : a0_1.toList = a1_1.toList
  ·rw [if_pos c4] at H
   have c4b0 : (a0_1.toList == a1_1.toList) = true:=beq_iff_eq.mpr c4
   have c4b1 : (a0_1.toList != a1_1.toList) = false:=bne_eq_false_iff_eq.mpr c4
   clear c4
   by_cases c5 : a0_2 = a1_2
   ·rw [if_pos c5] at H
    have c5b0 : (a0_2 == a1_2) = true:=beq_iff_eq.mpr c5
    have c5b1 : (a0_2 != a1_2) = false:=bne_eq_false_iff_eq.mpr c5
    clear c5
    by_cases c6 : a0_3 = a1_3
    ·rw [if_pos c6] at H
     have c6b0 : (a0_3 == a1_3) = true:=beq_iff_eq.mpr c6
     have c6b1 : (a0_3 != a1_3) = false:=bne_eq_false_iff_eq.mpr c6
     clear c6
     obtain rfl:=Option.some.inj H
     go_enter Try.func129,Try.ntmps129
     go_wp2_with (first|((with_reducible refine bev_ (N:=2) rfl rfl (cs:=#[.int .i64 a0_0,.string a0_1,.int .i64 a0_2,.int .i64 a0_3]) (t:=92) ?hr ?_);(case hr => first|(go_simp;done)|(go_simp;rfl));intro gb226 hg w7 hbox hb;have BK226:=Aside0.mk (hbox);have GW226:=gw0_ hg HB;have GE226:=GW226;replace HB:=hs0_ HB hb;clear hb hbox hg)|((with_reducible refine bev_ (N:=3) rfl rfl (cs:=#[.int .i64 a1_0,.string a1_1,.int .i64 a1_2,.int .i64 a1_3]) (t:=92) ?hr ?_);(case hr => first|(go_simp;done)|(go_simp;rfl));intro gb227 hg w8 hbox hb;have BK227:=Aside0.mk (hbox);have GW227:=gw1_ hg HB GE226;have GE227:=GW227;replace HB:=hs1_ HB GE226 hb;have NB226_227:=nm_ hg BK226;have NB227_226:=nn_ hg BK226;replace BK226:=kc_ BK226 hb;clear hb hbox hg;have hnb9:=NB226_227.out;have hnc9:=NB227_226.out;obtain ⟨hcz10_0,hcz10_1,hcz10_2,hcz10_3,hfz10_0,hfz10_1,hfz10_2,hfz10_3⟩:=cf4_ BK226.out;obtain ⟨hcz11_0,hcz11_1,hcz11_2,hcz11_3,hfz11_0,hfz11_1,hfz11_2,hfz11_3⟩:=cf4_ BK227.out))
     go_ret
     exact ⟨er_,be2_ HB.out GE226.out GE227.out⟩
    ·rw [if_neg c6] at H
     have c6b0 : (a0_3 == a1_3) = false:=beq_eq_false_iff_ne.mpr c6
     have c6b1 : (a0_3 != a1_3) = true:=bne_iff_ne.mpr c6
     obtain rfl:=Option.some.inj H
     go_enter Try.func129,Try.ntmps129
     go_wp2_with (first|((with_reducible refine bev_ (N:=2) rfl rfl (cs:=#[.int .i64 a0_0,.string a0_1,.int .i64 a0_2,.int .i64 a0_3]) (t:=92) ?hr ?_);(case hr => first|(go_simp;done)|(go_simp;rfl));intro gb226 hg w12 hbox hb;have BK226:=Aside0.mk (hbox);have GW226:=gw0_ hg HB;have GE226:=GW226;replace HB:=hs0_ HB hb;clear hb hbox hg)|((with_reducible refine bev_ (N:=3) rfl rfl (cs:=#[.int .i64 a1_0,.string a1_1,.int .i64 a1_2,.int .i64 a1_3]) (t:=92) ?hr ?_);(case hr => first|(go_simp;done)|(go_simp;rfl));intro gb227 hg w13 hbox hb;have BK227:=Aside0.mk (hbox);have GW227:=gw1_ hg HB GE226;have GE227:=GW227;replace HB:=hs1_ HB GE226 hb;have NB226_227:=nm_ hg BK226;have NB227_226:=nn_ hg BK226;replace BK226:=kc_ BK226 hb;clear hb hbox hg;have hnb14:=NB226_227.out;have hnc14:=NB227_226.out;obtain ⟨hcz15_0,hcz15_1,hcz15_2,hcz15_3,hfz15_0,hfz15_1,hfz15_2,hfz15_3⟩:=cf4_ BK226.out;obtain ⟨hcz16_0,hcz16_1,hcz16_2,hcz16_3,hfz16_0,hfz16_1,hfz16_2,hfz16_3⟩:=cf4_ BK227.out))
     go_ret
     exact ⟨er_,be2_ HB.out GE226.out GE227.out⟩
   ·rw [if_neg c5] at H
    have c5b0 : (a0_2 == a1_2) = false:=beq_eq_false_iff_ne.mpr c5
    have c5b1 : (a0_2 != a1_2) = true:=bne_iff_ne.mpr c5
    obtain rfl:=Option.some.inj H
    go_enter Try.func129,Try.ntmps129
    go_wp2_with (first|((with_reducible refine bev_ (N:=2) rfl rfl (cs:=#[.int .i64 a0_0,.string a0_1,.int .i64 a0_2,.int .i64 a0_3]) (t:=92) ?hr ?_);(case hr => first|(go_simp;done)|(go_simp;rfl));intro gb226 hg w17 hbox hb;have BK226:=Aside0.mk (hbox);have GW226:=gw0_ hg HB;have GE226:=GW226;replace HB:=hs0_ HB hb;clear hb hbox hg)|((with_reducible refine bev_ (N:=3) rfl rfl (cs:=#[.int .i64 a1_0,.string a1_1,.int .i64 a1_2,.int .i64 a1_3]) (t:=92) ?hr ?_);(case hr => first|(go_simp;done)|(go_simp;rfl));intro gb227 hg w18 hbox hb;have BK227:=Aside0.mk (hbox);have GW227:=gw1_ hg HB GE226;have GE227:=GW227;replace HB:=hs1_ HB GE226 hb;have NB226_227:=nm_ hg BK226;have NB227_226:=nn_ hg BK226;replace BK226:=kc_ BK226 hb;clear hb hbox hg;have hnb19:=NB226_227.out;have hnc19:=NB227_226.out;obtain ⟨hcz20_0,hcz20_1,hcz20_2,hcz20_3,hfz20_0,hfz20_1,hfz20_2,hfz20_3⟩:=cf4_ BK226.out;obtain ⟨hcz21_0,hcz21_1,hcz21_2,hcz21_3,hfz21_0,hfz21_1,hfz21_2,hfz21_3⟩:=cf4_ BK227.out))
    go_ret
    exact ⟨er_,be2_ HB.out GE226.out GE227.out⟩
  ·rw [if_neg c4] at H
   have c4b0 : (a0_1.toList == a1_1.toList) = false:=beq_eq_false_iff_ne.mpr c4
   have c4b1 : (a0_1.toList != a1_1.toList) = true:=bne_iff_ne.mpr c4
   obtain rfl:=Option.some.inj H
   go_enter Try.func129,Try.ntmps129
   go_wp2_with (first|((with_reducible refine bev_ (N:=2) rfl rfl (cs:=#[.int .i64 a0_0,.string a0_1,.int .i64 a0_2,.int .i64 a0_3]) (t:=92) ?hr ?_);(case hr => first|(go_simp;done)|(go_simp;rfl));intro gb226 hg w22 hbox hb;have BK226:=Aside0.mk (hbox);have GW226:=gw0_ hg HB;have GE226:=GW226;replace HB:=hs0_ HB hb;clear hb hbox hg)|((with_reducible refine bev_ (N:=3) rfl rfl (cs:=#[.int .i64 a1_0,.string a1_1,.int .i64 a1_2,.int .i64 a1_3]) (t:=92) ?hr ?_);(case hr => first|(go_simp;done)|(go_simp;rfl));intro gb227 hg w23 hbox hb;have BK227:=Aside0.mk (hbox);have GW227:=gw1_ hg HB GE226;have GE227:=GW227;replace HB:=hs1_ HB GE226 hb;have NB226_227:=nm_ hg BK226;have NB227_226:=nn_ hg BK226;replace BK226:=kc_ BK226 hb;clear hb hbox hg;have hnb24:=NB226_227.out;have hnc24:=NB227_226.out;obtain ⟨hcz25_0,hcz25_1,hcz25_2,hcz25_3,hfz25_0,hfz25_1,hfz25_2,hfz25_3⟩:=cf4_ BK226.out;obtain ⟨hcz26_0,hcz26_1,hcz26_2,hcz26_3,hfz26_0,hfz26_1,hfz26_2,hfz26_3⟩:=cf4_ BK227.out))
   go_ret
   exact ⟨er_,be2_ HB.out GE226.out GE227.out⟩
 ·rw [if_neg c3] at H
  have c3b0 : (a0_0 == a1_0) = false:=beq_eq_false_iff_ne.mpr c3
  have c3b1 : (a0_0 != a1_0) = true:=bne_iff_ne.mpr c3
  obtain rfl:=Option.some.inj H
  go_enter Try.func129,Try.ntmps129
  go_wp2_with (first|((with_reducible refine bev_ (N:=2) rfl rfl (cs:=#[.int .i64 a0_0,.string a0_1,.int .i64 a0_2,.int .i64 a0_3]) (t:=92) ?hr ?_);(case hr => first|(go_simp;done)|(go_simp;rfl));intro gb226 hg w27 hbox hb;have BK226:=Aside0.mk (hbox);have GW226:=gw0_ hg HB;have GE226:=GW226;replace HB:=hs0_ HB hb;clear hb hbox hg)|((with_reducible refine bev_ (N:=3) rfl rfl (cs:=#[.int .i64 a1_0,.string a1_1,.int .i64 a1_2,.int .i64 a1_3]) (t:=92) ?hr ?_);(case hr => first|(go_simp;done)|(go_simp;rfl));intro gb227 hg w28 hbox hb;have BK227:=Aside0.mk (hbox);have GW227:=gw1_ hg HB GE226;have GE227:=GW227;replace HB:=hs1_ HB GE226 hb;have NB226_227:=nm_ hg BK226;have NB227_226:=nn_ hg BK226;replace BK226:=kc_ BK226 hb;clear hb hbox hg;have hnb29:=NB226_227.out;have hnc29:=NB227_226.out;obtain ⟨hcz30_0,hcz30_1,hcz30_2,hcz30_3,hfz30_0,hfz30_1,hfz30_2,hfz30_3⟩:=cf4_ BK226.out;obtain ⟨hcz31_0,hcz31_1,hcz31_2,hcz31_3,hfz31_0,hfz31_1,hfz31_2,hfz31_3⟩:=cf4_ BK227.out))
  go_ret
  exact ⟨er_,be2_ HB.out GE226.out GE227.out⟩
end Go.Proofs.Ytfmbpoojpnoafaa.X
end
