import Derived.Test.YtfmbpoojpnoafaaKFnExactWordMatrix1
section
namespace Go.Proofs.Ytfmbpoojpnoafaa.X
open Go.RowKit Go.Proofs.YtfmbpoojpnoafaaW.PrintWords Go.Proofs.YtfmbpoojpnoafaaW.PrintLast Go.Proofs.YtfmbpoojpnoafaaW.PrintMore
attribute [local go_sem] max2_int min2_int max_two min_two max_three min_three max_four min_four
set_option linter.unusedVariables false
set_option linter.unusedSimpArgs false
def impl_MatrixValid_1.f (a0 : Int) : Option (Bool):=(impl_CostValid.f a0).bind fun t209 => (some (!t209))
set_option maxHeartbeats 8000000 in
set_option maxRecDepth 100000 in
theorem impl_MatrixValid_1.calls (a0 : Int) (r : Bool) (w : World) (h : impl_MatrixValid_1.f a0 = some r) :
  Calls Try.prog 163 #[.int .i64 a0] w fun e w' => e = .returned (.bool r) ∧ Drawn0 w w':=by
 have H : ((impl_CostValid.f a0).bind fun t209 => (some (!t209))) = some r:=h
 clear h
 replace H:=Option.bind_eq_some_iff.mp H
 obtain ⟨t209,A20,H⟩:=H
 replace H : (some (!t209)) = some r:=H
 have A2:=Aside0.mk A20
 clear A20
 obtain rfl:=Option.some.inj H
 go_enter Try.func163,Try.ntmps163
 go_wp2_with (first|((with_reducible refine gate_callee (f:=164) rfl ?_);refine goesL_ (some 4) rfl rfl Try.func164 (by kernel_rfl) rfl #[.int .i64 a0] rfl lp_ ?_;(with_reducible refine (impl_CostValid.calls a0 t209 _ A2.out).mono ?_);rintro e w' ⟨rfl,⟨nd,rfl⟩⟩;refine ⟨_,rfl,?_⟩))
 go_ret
 exact ⟨by first|rfl|(simp;done)|(simp [*];done),by repeat (first|exact Drawn0.refl _|apply Drawn0.step)⟩
def slices_IndexFunc_int_int.l0 (p1 : Int → Option (Bool)) : Nat → List Int → Int → Int → Option (Int)
 | 0,_,_,_ => none
 | k + 1,x0,x7,x8 => if x8 < x7 then (if 0 ≤ x8 then (if x8 < (x0.length : Int) then ((p1 (rd x0 x8)).bind fun t208 => (if t208 = true then (some x8) else (slices_IndexFunc_int_int.l0 p1 k x0 x7 (wrap64 (x8 + 1))))) else (none)) else (none)) else (some (-1))
def slices_IndexFunc_int_int.f (p1 : Int → Option (Bool)) (k : Nat) (l0 : List Int)  : Option (Int):=slices_IndexFunc_int_int.l0 p1 k l0 (l0.length : Int) 0
theorem slices_IndexFunc_int_int.mono_l (p1 : Int → Option (Bool)) : ∀ k,(∀ y0 y1 y2,LeO (slices_IndexFunc_int_int.l0 p1 k y0 y1 y2) (slices_IndexFunc_int_int.l0 p1 (k + 1) y0 y1 y2))
 | 0 => fun _ _ _ r h => by simp [slices_IndexFunc_int_int.l0] at h
 | k + 1 => by
  have ih0:=slices_IndexFunc_int_int.mono_l p1 k
  ·intro y0 y1 y2
   unfold slices_IndexFunc_int_int.l0
   repeat' first
   | (with_reducible exact ih0 _ _ _)
   | (with_reducible exact LeO.refl _)
   | (with_reducible exact LeO.none _)
   | (with_reducible refine LeO.ite ?_ ?_)
   | (with_reducible refine LeO.bind ?_ (fun _ => ?_))
   | exact ih0 _ _ _
   | exact LeO.none _
   | refine LeO.ite ?_ ?_
   | refine LeO.bind ?_ (fun _ => ?_)
theorem slices_IndexFunc_int_int.mono (p1 : Int → Option (Bool)) : ∀ a0 k,LeO (slices_IndexFunc_int_int.f p1 k a0) (slices_IndexFunc_int_int.f p1 (k + 1) a0):=by
 intro a0 k
 have ih0:=slices_IndexFunc_int_int.mono_l p1 k
 unfold slices_IndexFunc_int_int.f
 repeat' first
   | (with_reducible exact ih0 _ _ _)
   | (with_reducible exact LeO.refl _)
   | (with_reducible exact LeO.none _)
   | (with_reducible refine LeO.ite ?_ ?_)
   | (with_reducible refine LeO.bind ?_ (fun _ => ?_))
   | exact ih0 _ _ _
   | exact LeO.none _
   | refine LeO.ite ?_ ?_
   | refine LeO.bind ?_ (fun _ => ?_)
set_option maxHeartbeats 8000000 in
set_option maxRecDepth 100000 in
theorem slices_IndexFunc_int_int.calls (k : Nat) (A0 : Option Addr) (c0 : Nat) (l0 : List Int) (q1 : FuncId) (F1 C1 : Array Value) (p1 : Int → Option (Bool)) (r : Int) (w : World) (hr0 : Kd.C (Kd.int .i64) w A0 l0.length l0) (hc0 : l0.length ≤ c0) (hq1 : FnAt Try.prog q1) (hp1 : ∀ (ay0 : Int) (z0 : Bool) (W_ : World),Below w.heap.size w W_ → p1 ay0 = some z0 → Calls Try.prog q1 (F1 ++ #[.int .i64 ay0] ++ C1) W_ fun e w' => e = .returned (.bool z0) ∧ Below W_.heap.size W_ w') (h : slices_IndexFunc_int_int.f p1 k l0 = some r) :
  Calls Try.prog 165 #[.slice A0 l0.length c0,.func (.func q1) F1 C1] w fun e w' => e = .returned (.int .i64 r) ∧ Below w.heap.size w w':=by
 have HR0:=Aside0.mk hr0
 have HC0:=Aside0.mk hc0
 clear hr0 hc0
 have HQ1:=Aside0.mk hq1
 have HP1:=Aside0.mk hp1
 clear hq1 hp1
 have HB:=Aside0.mk (Below.refl w.heap.size w)
 have H : (slices_IndexFunc_int_int.l0 p1 k l0 (l0.length : Int) 0) = some r:=h
 clear h
 have H':=Aside0.mk H
 clear H
 go_enter Try.func165,Try.ntmps165
 go_wp2
 go_loopg [8] k (fun kq v8 w' => ∃ (x8_1 : Int),v8 = .int .i64 x8_1 ∧ Aside0 (slices_IndexFunc_int_int.l0 p1 kq l0 (l0.length : Int) x8_1 = some r) ∧ Aside0 (kq ≤ k) ∧ Aside0 (Below w.heap.size w w'))
 case atStart => exact ⟨(0),rs_,H',⟨Nat.le_refl _⟩,⟨be0_ HB.out⟩⟩
 case round =>
  clear H'
  try clear c1
  try clear p1
  try clear q1
  try clear p2
  obtain ⟨x8_1,rfl,HA,HK1,HB⟩:=hrel
  cases gk with
  | zero => exact absurd HA.out (by simp [slices_IndexFunc_int_int.l0])
  | succ k1 =>
   have H:=HA.out
   clear HA
   simp only [slices_IndexFunc_int_int.l0] at H
   by_cases c3 : x8_1 < (l0.length : Int)
   ·rw [if_pos c3] at H
    have c3b0 : decide (x8_1 < (l0.length : Int)) = true:=decide_eq_true c3
    clear c3
    by_cases c4 : 0 ≤ x8_1
    ·rw [if_pos c4] at H
     have c4b0 : decide (0 ≤ x8_1) = true:=decide_eq_true c4
     clear c4
     by_cases c5 : x8_1 < (l0.length : Int)
     ·rw [if_pos c5] at H
      have c5b0 : decide (x8_1 < (l0.length : Int)) = true:=decide_eq_true c5
      clear c5
      replace H:=Option.bind_eq_some_iff.mp H
      obtain ⟨t208,A60,H⟩:=H
      replace H : (if t208 = true then (some x8_1) else (slices_IndexFunc_int_int.l0 p1 k1 l0 (l0.length : Int) (wrap64 (x8_1 + 1)))) = some r:=H
      have A6:=Aside0.mk A60
      clear A60
      by_cases c7 : t208 = true
      ·subst c7
       have H1 : (some x8_1) = some r:=by rw [if_pos rfl] at H;exact H
       clear H
       have H:=H1
       clear H1
       obtain rfl:=Option.some.inj H
       have p207 : 0 ≤ (x8_1 : Int):=of_decide_eq_true (by first|(with_reducible assumption)|assumption)
       have q207 : x8_1 < (l0.length : Int):=of_decide_eq_true (by first|(with_reducible assumption)|assumption)
       obtain ⟨ad207,e207,hx207_0⟩:=Kd.at_int HR0.out x8_1 p207 q207
       cases e207
       replace hx207_0:=hbc_ HB.out hx207_0
       replace p207:=eq_true p207
       replace q207:=eq_true q207
       go_wp2_with (first|((with_reducible refine gate_dyn rfl ?_);refine goesLD_ (some 16) rfl rfl HQ1.out #[.int .i64 (rd l0 x8_1)] rfl rfl lp_ ?_;(with_reducible refine (HP1.out (rd l0 x8_1) true _ ?side1 A6.out).mono ?_);(case side1 => repeat (first|(with_reducible first|exact HB.out|apply below_alloc|apply pw_below_drewN|apply below_drew1)|exact HB.out));rintro e w8 ⟨rfl,hb⟩;refine ⟨_,rfl,?_⟩;replace HB:=Aside0.mk (below_step (be0_ HB.out) hb);(try clear hb);(try clear hb2);(try clear hk);(try clear hi)))
       go_ret
       exact ⟨er_,be0_ HB.out⟩
      ·replace c7:=Bool.eq_false_iff.mpr c7
       subst c7
       have H1 : (slices_IndexFunc_int_int.l0 p1 k1 l0 (l0.length : Int) (wrap64 (x8_1 + 1))) = some r:=by rw [if_neg (show ¬ (false = true) by decide)] at H;exact H
       clear H
       have H:=H1
       clear H1
       have H':=Aside0.mk H
       clear H
       have p207 : 0 ≤ (x8_1 : Int):=of_decide_eq_true (by first|(with_reducible assumption)|assumption)
       have q207 : x8_1 < (l0.length : Int):=of_decide_eq_true (by first|(with_reducible assumption)|assumption)
       obtain ⟨ad207,e207,hx207_0⟩:=Kd.at_int HR0.out x8_1 p207 q207
       cases e207
       replace hx207_0:=hbc_ HB.out hx207_0
       replace p207:=eq_true p207
       replace q207:=eq_true q207
       go_wp2_with (first|((with_reducible refine gate_dyn rfl ?_);refine goesLD_ (some 16) rfl rfl HQ1.out #[.int .i64 (rd l0 x8_1)] rfl rfl lp_ ?_;(with_reducible refine (HP1.out (rd l0 x8_1) false _ ?side1 A6.out).mono ?_);(case side1 => repeat (first|(with_reducible first|exact HB.out|apply below_alloc|apply pw_below_drewN|apply below_drew1)|exact HB.out));rintro e w9 ⟨rfl,hb⟩;refine ⟨_,rfl,?_⟩;replace HB:=Aside0.mk (below_step (be0_ HB.out) hb);(try clear hb);(try clear hb2);(try clear hk);(try clear hi)))
       go_roundg k1
       case measure => have:=HK1.out;omega
       case rel => exact ⟨(wrap64 (x8_1 + 1)),rs_,H',⟨by have:=HK1.out;omega⟩,⟨be0_ HB.out⟩⟩
     ·rw [if_neg c5] at H
      exact absurd H (by simp)
    ·rw [if_neg c4] at H
     exact absurd H (by simp)
   ·rw [if_neg c3] at H
    have c3b0 : decide (x8_1 < (l0.length : Int)) = false:=decide_eq_false c3
    clear c3
    obtain rfl:=Option.some.inj H
    go_wp2
    go_ret
    exact ⟨er_,be0_ HB.out⟩
theorem slices_IndexFunc_int_int.monoP_l {p p' : Int → Option (Bool)} (hp : ∀ y0,LeO (p y0) (p' y0)) : ∀ k,(∀ y0 y1 y2,LeO (slices_IndexFunc_int_int.l0 p k y0 y1 y2) (slices_IndexFunc_int_int.l0 p' k y0 y1 y2))
 | 0 => by
  skip
  all_goals (intros;intro r h;first|(simp [slices_IndexFunc_int_int.l0] at h;done)|(unfold slices_IndexFunc_int_int.l0 at h;simp at h;done))
 | k + 1 => by
  have ih:=slices_IndexFunc_int_int.monoP_l hp k
  have ih0:=ih
  ·intro y0 y1 y2
   unfold slices_IndexFunc_int_int.l0
   repeat'
    first
    | (with_reducible exact LeO.refl _)
    | (with_reducible exact LeO.none _)
    | (with_reducible exact ih0 _ _ _)
    | (with_reducible exact hp _)
    | (with_reducible refine LeO.ite ?_ ?_)
    | (with_reducible refine LeO.bind ?_ (fun _ => ?_))
    | exact hp _
    | exact LeO.refl _
theorem slices_IndexFunc_int_int.monoP {p p' : Int → Option (Bool)} (hp : ∀ y0,LeO (p y0) (p' y0)) : ∀ a0 k,LeO (slices_IndexFunc_int_int.f p k a0) (slices_IndexFunc_int_int.f p' (k + 1) a0):=by
 intro a0 k
 refine LeO.trans ?_ (slices_IndexFunc_int_int.mono p' a0 k)
 have ih:=slices_IndexFunc_int_int.monoP_l hp k
 have ih0:=ih
 unfold slices_IndexFunc_int_int.f
 repeat'
  first
  | (with_reducible exact LeO.refl _)
  | (with_reducible exact LeO.none _)
  | (with_reducible exact ih0 _ _ _)
  | (with_reducible exact hp _)
  | (with_reducible refine LeO.ite ?_ ?_)
  | (with_reducible refine LeO.bind ?_ (fun _ => ?_))
  | exact hp _
  | exact LeO.refl _
def slices_ContainsFunc_int_int.f (p1 : Int → Option (Bool)) (k : Nat) (l0 : List Int) : Option (Bool):=(slices_IndexFunc_int_int.f p1 k l0).bind fun t => some (decide (t ≥ 0))
theorem slices_ContainsFunc_int_int.mono (p1 : Int → Option (Bool)) : ∀ a0 k,LeO (slices_ContainsFunc_int_int.f p1 k a0) (slices_ContainsFunc_int_int.f p1 (k + 1) a0):=by
 intro a0 k
 unfold slices_ContainsFunc_int_int.f
 exact LeO.bind (slices_IndexFunc_int_int.mono p1 _ _) (fun _ => LeO.refl _)
theorem slices_ContainsFunc_int_int.monoP {p p' : Int → Option (Bool)} (hp : ∀ y0,LeO (p y0) (p' y0)) : ∀ a0 k,LeO (slices_ContainsFunc_int_int.f p k a0) (slices_ContainsFunc_int_int.f p' (k + 1) a0):=by
 intro a0 k
 unfold slices_ContainsFunc_int_int.f
 exact LeO.bind (slices_IndexFunc_int_int.monoP hp _ _) (fun _ => LeO.refl _)
set_option maxHeartbeats 8000000 in
theorem slices_ContainsFunc_int_int.calls (k : Nat) (A0 : Option Addr) (c0 : Nat) (l0 : List Int) (q1 : FuncId) (F1 C1 : Array Value) (p1 : Int → Option (Bool)) (r : Bool) (w : World) (hr0 : Kd.C (Kd.int .i64) w A0 l0.length l0) (hc0 : l0.length ≤ c0) (hq1 : FnAt Try.prog q1) (hp1 : ∀ (ay0 : Int) (z0 : Bool) (W_ : World),Below w.heap.size w W_ → p1 ay0 = some z0 → Calls Try.prog q1 (F1 ++ #[.int .i64 ay0] ++ C1) W_ fun e w' => e = .returned (.bool z0) ∧ Below W_.heap.size W_ w') (h : slices_ContainsFunc_int_int.f p1 k l0 = some r) :
  Calls Try.prog 127 #[.slice A0 l0.length c0,.func (.func q1) F1 C1] w fun e w' => e = .returned (.bool r) ∧ Below w.heap.size w w':=by
 obtain ⟨t,h1,h2⟩:=Option.bind_eq_some_iff.mp h
 have C:=Aside0.mk (slices_IndexFunc_int_int.calls k A0 c0 l0 q1 F1 C1 p1 t w hr0 hc0 hq1 hp1 h1)
 clear h hr0 hc0 hq1 hp1 h1
 obtain rfl:=Option.some.inj h2
 clear h2
 go_enter Try.func127,Try.ntmps127
 go_wp2_with (first|((with_reducible refine gate_callee (f:=165) rfl ?_);refine goesL_ (some 7) rfl rfl Try.func165 (by kernel_rfl) rfl #[.slice A0 l0.length c0,.func (.func q1) F1 C1] rfl (by (try simp only [List.map_toArray,List.map_cons,List.map_nil]);first|done|rfl) ?_;refine C.out.mono ?_;rintro e w' ⟨rfl,hb⟩;have HB:=Aside0.mk hb;clear hb;refine ⟨_,rfl,?_⟩))
 go_ret
 exact ⟨by first|rfl|(simp;done)|(simp [*];done),HB.out⟩
def slices_ContainsFunc_int_int__impl_MatrixValid_1.f (k : Nat) (l0 : List Int) : Option (Bool):=slices_ContainsFunc_int_int.f (fun y0 => impl_MatrixValid_1.f  y0 ) k l0
theorem slices_ContainsFunc_int_int__impl_MatrixValid_1.mono : ∀ b0 k,LeO (slices_ContainsFunc_int_int__impl_MatrixValid_1.f k b0) (slices_ContainsFunc_int_int__impl_MatrixValid_1.f (k + 1) b0):=by
 intro b0 k
 exact slices_ContainsFunc_int_int.monoP (fun _ => LeO.refl _) _ k
set_option maxHeartbeats 2000000 in
theorem slices_ContainsFunc_int_int__impl_MatrixValid_1.calls (k : Nat) (A0 : Option Addr) (c0 : Nat) (l0 : List Int) (r : Bool) (w : World) (hr0 : Kd.C (Kd.int .i64) w A0 l0.length l0) (hc0 : l0.length ≤ c0) (h : slices_ContainsFunc_int_int__impl_MatrixValid_1.f k l0 = some r) :
  Calls Try.prog 127 #[.slice A0 l0.length c0,.func (.func 163) #[] #[]] w fun e w' => e = .returned (.bool r) ∧ Below w.heap.size w w':=by
 refine slices_ContainsFunc_int_int.calls k A0 c0 l0 163 #[] #[] (fun y0 => impl_MatrixValid_1.f  y0 ) r w hr0 hc0 ⟨_,Try.func163,rfl,rfl⟩ ?_ h
 intro ay0 z0 W_ hB_  h_
 refine calls_of_args (args':=#[.int .i64 ay0]) (by simp) ?_
 refine (impl_MatrixValid_1.calls ay0 z0 W_  h_).mono ?_
 rintro e w' ⟨rfl,hd⟩
 exact ⟨rfl,hd.below⟩
def impl_MatrixValid.f (k : Nat) (a0_0 : Int) (l0_1 : List Int) : Option (Bool):=if a0_0 < 1 then (some false) else (if a0_0 > 4 then (some false) else (if (l0_1.length : Int) = (wrap64 (a0_0 * a0_0)) then ((slices_ContainsFunc_int_int__impl_MatrixValid_1.f k l0_1).bind fun t211 => (some (!t211))) else (some false)))
theorem impl_MatrixValid.mono : ∀ a0 a1 k,LeO (impl_MatrixValid.f k a0 a1) (impl_MatrixValid.f (k + 1) a0 a1):=by
 intro a0 a1 k
 unfold impl_MatrixValid.f
 repeat' first
   | (with_reducible exact slices_ContainsFunc_int_int__impl_MatrixValid_1.mono _ _)
   | (with_reducible exact LeO.refl _)
   | (with_reducible exact LeO.none _)
   | (with_reducible refine LeO.ite ?_ ?_)
   | (with_reducible refine LeO.bind ?_ (fun _ => ?_))
   | exact slices_ContainsFunc_int_int__impl_MatrixValid_1.mono _ _
   | exact LeO.none _
   | refine LeO.ite ?_ ?_
   | refine LeO.bind ?_ (fun _ => ?_)
set_option maxHeartbeats 8000000 in
set_option maxRecDepth 100000 in
theorem impl_MatrixValid.calls (k : Nat) (a0_0 : Int) (A0_1 : Option Addr) (c0_1 : Nat) (l0_1 : List Int) (r : Bool) (w : World) (hr0_1 : Kd.C (Kd.int .i64) w A0_1 l0_1.length l0_1) (hc0_1 : l0_1.length ≤ c0_1) (h : impl_MatrixValid.f k a0_0 l0_1 = some r) :
  Calls Try.prog 126 #[.agg #[.int .i64 a0_0,.slice A0_1 l0_1.length c0_1]] w fun e w' => e = .returned (.bool r) ∧ Below w.heap.size w w':=by
 have hu35:=Try.underlying35
 have HR0_1:=Aside0.mk hr0_1
 have HC0_1:=Aside0.mk hc0_1
 clear hr0_1 hc0_1
 have HB:=Aside0.mk (Below.refl w.heap.size w)
 have H : (if a0_0 < 1 then (some false) else (if a0_0 > 4 then (some false) else (if (l0_1.length : Int) = (wrap64 (a0_0 * a0_0)) then ((slices_ContainsFunc_int_int__impl_MatrixValid_1.f k l0_1).bind fun t211 => (some (!t211))) else (some false)))) = some r:=h
 clear h
 by_cases c2 : a0_0 < 1
 ·rw [if_pos c2] at H
  have c2b0 : decide (a0_0 < 1) = true:=decide_eq_true c2
  clear c2
  obtain rfl:=Option.some.inj H
  go_enter Try.func126,Try.ntmps126
  go_wp2_with (first|((with_reducible refine gate_dst (N:=1) rfl ?_);(try (refine gate_guard (by rfl) ?_;dsimp only));refine box_event ?hg (N:=1) ?hd (cs:=#[.int .i64 a0_0,.slice A0_1 l0_1.length c0_1]) (t:=35) ?hr ?_;(case hd => rfl);(case hg => rfl);(case hr => first|(go_simp;done)|(go_simp;rfl));intro gb210 hg w3 hbox hb;have BK210:=Aside0.mk (hbox);have GW210:=Aside0.mk (szg_ hg (below_size (be0_ HB.out)));have GE210:=Aside0.mk (szg_ hg (below_size (be0_ HB.out)));replace HB:=Aside0.mk (below_step (be0_ HB.out) hb);clear hb hbox hg;obtain ⟨hcz4_0,hcz4_1,hfz4_0,hfz4_1⟩:=cf2_ BK210.out))
  go_ret
  exact ⟨er_,be1_ HB.out GE210.out⟩
 ·rw [if_neg c2] at H
  have c2b0 : decide (a0_0 < 1) = false:=decide_eq_false c2
  clear c2
  by_cases c5 : a0_0 > 4
  ·rw [if_pos c5] at H
   have c5b0 : decide (4 < a0_0) = true:=decide_eq_true c5
   clear c5
   obtain rfl:=Option.some.inj H
   go_enter Try.func126,Try.ntmps126
   go_wp2_with (first|((with_reducible refine gate_dst (N:=1) rfl ?_);(try (refine gate_guard (by rfl) ?_;dsimp only));refine box_event ?hg (N:=1) ?hd (cs:=#[.int .i64 a0_0,.slice A0_1 l0_1.length c0_1]) (t:=35) ?hr ?_;(case hd => rfl);(case hg => rfl);(case hr => first|(go_simp;done)|(go_simp;rfl));intro gb210 hg w6 hbox hb;have BK210:=Aside0.mk (hbox);have GW210:=Aside0.mk (szg_ hg (below_size (be0_ HB.out)));have GE210:=Aside0.mk (szg_ hg (below_size (be0_ HB.out)));replace HB:=Aside0.mk (below_step (be0_ HB.out) hb);clear hb hbox hg;obtain ⟨hcz7_0,hcz7_1,hfz7_0,hfz7_1⟩:=cf2_ BK210.out))
   go_ret
   exact ⟨er_,be1_ HB.out GE210.out⟩
  ·rw [if_neg c5] at H
   have c5b0 : decide (4 < a0_0) = false:=decide_eq_false c5
   clear c5
   by_cases c8 : (l0_1.length : Int) = (wrap64 (a0_0 * a0_0))
   ·rw [if_pos c8] at H
    have c8b0 : ((l0_1.length : Int) == (wrap64 (a0_0 * a0_0))) = true:=beq_iff_eq.mpr c8
    have c8b1 : ((l0_1.length : Int) != (wrap64 (a0_0 * a0_0))) = false:=bne_eq_false_iff_eq.mpr c8
    clear c8
    replace H:=Option.bind_eq_some_iff.mp H
    obtain ⟨t211,A90,H⟩:=H
    replace H : (some (!t211)) = some r:=H
    have A9:=Aside0.mk A90
    clear A90
    obtain rfl:=Option.some.inj H
    go_enter Try.func126,Try.ntmps126
    go_wp2_with (first|((with_reducible refine gate_dst (N:=1) rfl ?_);(try (refine gate_guard (by rfl) ?_;dsimp only));refine box_event ?hg (N:=1) ?hd (cs:=#[.int .i64 a0_0,.slice A0_1 l0_1.length c0_1]) (t:=35) ?hr ?_;(case hd => rfl);(case hg => rfl);(case hr => first|(go_simp;done)|(go_simp;rfl));intro gb210 hg w10 hbox hb;have BK210:=Aside0.mk (hbox);have GW210:=Aside0.mk (szg_ hg (below_size (be0_ HB.out)));have GE210:=Aside0.mk (szg_ hg (below_size (be0_ HB.out)));replace HB:=Aside0.mk (below_step (be0_ HB.out) hb);clear hb hbox hg;obtain ⟨hcz11_0,hcz11_1,hfz11_0,hfz11_1⟩:=cf2_ BK210.out)|((with_reducible refine gate_callee (f:=127) rfl ?_);refine goesL_ (some 24) rfl rfl Try.func127 (by kernel_rfl) rfl #[.slice A0_1 l0_1.length c0_1,.func (.func 163) #[] #[]] rfl lp_ ?_;(with_reducible refine (slices_ContainsFunc_int_int__impl_MatrixValid_1.calls k _ _ l0_1 t211 _ ?side1 ?side2 A9.out).mono ?_);(case side1 => exact cr_ (Kd.C_below HR0_1.out HB.out));(case side2 => exact HC0_1.out);rintro e w12 ⟨rfl,hb⟩;refine ⟨_,rfl,?_⟩;replace BK210:=Aside0.mk (kb_ BK210.out hb);replace HB:=Aside0.mk (below_step (be1_ HB.out GE210.out) hb);(try clear hb);(try clear hb2);(try clear hk);(try clear hi)))
    go_ret
    exact ⟨er_,be1_ HB.out GE210.out⟩
   ·rw [if_neg c8] at H
    have c8b0 : ((l0_1.length : Int) == (wrap64 (a0_0 * a0_0))) = false:=beq_eq_false_iff_ne.mpr c8
    have c8b1 : ((l0_1.length : Int) != (wrap64 (a0_0 * a0_0))) = true:=bne_iff_ne.mpr c8
    obtain rfl:=Option.some.inj H
    go_enter Try.func126,Try.ntmps126
    go_wp2_with (first|((with_reducible refine gate_dst (N:=1) rfl ?_);(try (refine gate_guard (by rfl) ?_;dsimp only));refine box_event ?hg (N:=1) ?hd (cs:=#[.int .i64 a0_0,.slice A0_1 l0_1.length c0_1]) (t:=35) ?hr ?_;(case hd => rfl);(case hg => rfl);(case hr => first|(go_simp;done)|(go_simp;rfl));intro gb210 hg w13 hbox hb;have BK210:=Aside0.mk (hbox);have GW210:=Aside0.mk (szg_ hg (below_size (be0_ HB.out)));have GE210:=Aside0.mk (szg_ hg (below_size (be0_ HB.out)));replace HB:=Aside0.mk (below_step (be0_ HB.out) hb);clear hb hbox hg;obtain ⟨hcz14_0,hcz14_1,hfz14_0,hfz14_1⟩:=cf2_ BK210.out))
    go_ret
    exact ⟨er_,be1_ HB.out GE210.out⟩
def impl_alike.f (k : Nat) (a0_0 : Int) (l0_1 : List Int) (a1_0 : Int) (l1_1 : List Int) : Option (Bool):=(impl_MatrixValid.f k a0_0 l0_1).bind fun t377 => (if t377 = true then ((impl_MatrixValid.f k a1_0 l1_1).bind fun t378 => (if t378 = true then (some (a0_0 == a1_0)) else (some false))) else (some false))
theorem impl_alike.mono : ∀ a0 a1 a2 a3 k,LeO (impl_alike.f k a0 a1 a2 a3) (impl_alike.f (k + 1) a0 a1 a2 a3):=by
 intro a0 a1 a2 a3 k
 unfold impl_alike.f
 repeat' first
   | (with_reducible exact impl_MatrixValid.mono _ _ _)
   | (with_reducible exact LeO.refl _)
   | (with_reducible exact LeO.none _)
   | (with_reducible refine LeO.ite ?_ ?_)
   | (with_reducible refine LeO.bind ?_ (fun _ => ?_))
   | exact impl_MatrixValid.mono _ _ _
   | exact LeO.none _
   | refine LeO.ite ?_ ?_
   | refine LeO.bind ?_ (fun _ => ?_)
set_option maxHeartbeats 8000000 in
set_option maxRecDepth 100000 in
theorem impl_alike.calls (k : Nat) (a0_0 : Int) (A0_1 : Option Addr) (c0_1 : Nat) (l0_1 : List Int) (a1_0 : Int) (A1_1 : Option Addr) (c1_1 : Nat) (l1_1 : List Int) (r : Bool) (w : World) (hr0_1 : Kd.C (Kd.int .i64) w A0_1 l0_1.length l0_1) (hc0_1 : l0_1.length ≤ c0_1) (hr1_1 : Kd.C (Kd.int .i64) w A1_1 l1_1.length l1_1) (hc1_1 : l1_1.length ≤ c1_1) (h : impl_alike.f k a0_0 l0_1 a1_0 l1_1 = some r) :
  Calls Try.prog 136 #[.agg #[.int .i64 a0_0,.slice A0_1 l0_1.length c0_1],.agg #[.int .i64 a1_0,.slice A1_1 l1_1.length c1_1]] w fun e w' => e = .returned (.bool r) ∧ Below w.heap.size w w':=by
 have hu35:=Try.underlying35
 have HR0_1:=Aside0.mk hr0_1
 have HC0_1:=Aside0.mk hc0_1
 clear hr0_1 hc0_1
 have HR1_1:=Aside0.mk hr1_1
 have HC1_1:=Aside0.mk hc1_1
 clear hr1_1 hc1_1
 have HB:=Aside0.mk (Below.refl w.heap.size w)
 have H : ((impl_MatrixValid.f k a0_0 l0_1).bind fun t377 => (if t377 = true then ((impl_MatrixValid.f k a1_0 l1_1).bind fun t378 => (if t378 = true then (some (a0_0 == a1_0)) else (some false))) else (some false))) = some r:=h
 clear h
 replace H:=Option.bind_eq_some_iff.mp H
 obtain ⟨t377,A30,H⟩:=H
 replace H : (if t377 = true then ((impl_MatrixValid.f k a1_0 l1_1).bind fun t378 => (if t378 = true then (some (a0_0 == a1_0)) else (some false))) else (some false)) = some r:=H
 have A3:=Aside0.mk A30
 clear A30
 by_cases c4 : t377 = true
 ·subst c4
  have H1 : ((impl_MatrixValid.f k a1_0 l1_1).bind fun t378 => (if t378 = true then (some (a0_0 == a1_0)) else (some false))) = some r:=by rw [if_pos rfl] at H;exact H
  clear H
  have H:=H1
  clear H1
  replace H:=Option.bind_eq_some_iff.mp H
  obtain ⟨t378,A50,H⟩:=H
  replace H : (if t378 = true then (some (a0_0 == a1_0)) else (some false)) = some r:=H
  have A5:=Aside0.mk A50
  clear A50
  by_cases c6 : t378 = true
  ·subst c6
   have H1 : (some (a0_0 == a1_0)) = some r:=by rw [if_pos rfl] at H;exact H
   clear H
   have H:=H1
   clear H1
   obtain rfl:=Option.some.inj H
   go_enter Try.func136,Try.ntmps136
   go_wp2_with (first|((with_reducible refine bev_ (N:=2) rfl rfl (cs:=#[.int .i64 a0_0,.slice A0_1 l0_1.length c0_1]) (t:=35) ?hr ?_);(case hr => first|(go_simp;done)|(go_simp;rfl));intro gb375 hg w7 hbox hb;have BK375:=Aside0.mk (hbox);have GW375:=Aside0.mk (szg_ hg (below_size (be0_ HB.out)));have GE375:=Aside0.mk (szg_ hg (below_size (be0_ HB.out)));replace HB:=Aside0.mk (below_step (be0_ HB.out) hb);clear hb hbox hg)|((with_reducible refine bev_ (N:=3) rfl rfl (cs:=#[.int .i64 a1_0,.slice A1_1 l1_1.length c1_1]) (t:=35) ?hr ?_);(case hr => first|(go_simp;done)|(go_simp;rfl));intro gb376 hg w8 hbox hb;have BK376:=Aside0.mk (hbox);have GW376:=Aside0.mk (szg_ hg (below_size (be1_ HB.out GE375.out)));have GE376:=Aside0.mk (szg_ hg (below_size (be1_ HB.out GE375.out)));replace HB:=Aside0.mk (below_step (be1_ HB.out GE375.out) hb);have NB375_376:=Aside0.mk (nl_ hg BK375.out);have NB376_375:=Aside0.mk (ng_ hg BK375.out);replace BK375:=Aside0.mk (kb_ BK375.out hb);clear hb hbox hg;have hnb9:=NB375_376.out;have hnc9:=NB376_375.out;obtain ⟨hcz10_0,hcz10_1,hfz10_0,hfz10_1⟩:=cf2_ BK375.out)|((with_reducible refine gate_callee (f:=126) rfl ?_);refine goesL_ (some 6) rfl rfl Try.func126 (by kernel_rfl) rfl #[.agg #[.int .i64 a0_0,.slice A0_1 l0_1.length c0_1]] rfl lp_ ?_;(with_reducible refine (impl_MatrixValid.calls k a0_0 _ _ l0_1 true _ ?side1 ?side2 A3.out).mono ?_);(case side1 => exact cr_ (Kd.C_below HR0_1.out HB.out));(case side2 => exact HC0_1.out);rintro e w11 ⟨rfl,hb⟩;refine ⟨_,rfl,?_⟩;replace BK375:=Aside0.mk (kb_ BK375.out hb);replace BK376:=Aside0.mk (kb_ BK376.out hb);replace HB:=Aside0.mk (below_step (be2_ HB.out GE375.out GE376.out) hb);(try clear hb);(try clear hb2);(try clear hk);(try clear hi);obtain ⟨hcz12_0,hcz12_1,hfz12_0,hfz12_1⟩:=cf2_ BK376.out)|(go_at_call 126;(with_reducible refine (impl_MatrixValid.calls k a1_0 _ _ l1_1 true _ ?side1 ?side2 A5.out).mono ?_);(case side1 => exact cr_ (Kd.C_below HR1_1.out HB.out));(case side2 => exact HC1_1.out);rintro e w13 ⟨rfl,hb⟩;replace BK375:=Aside0.mk (kb_ BK375.out hb);replace BK376:=Aside0.mk (kb_ BK376.out hb);replace HB:=Aside0.mk (below_step (be2_ HB.out GE375.out GE376.out) hb);(try clear hb);(try clear hb2);(try clear hk);(try clear hi);obtain ⟨hcz14_0,hcz14_1,hfz14_0,hfz14_1⟩:=cf2_ BK375.out;obtain ⟨hcz15_0,hcz15_1,hfz15_0,hfz15_1⟩:=cf2_ BK376.out))
   go_ret
   exact ⟨er_,be2_ HB.out GE375.out GE376.out⟩
  ·replace c6:=Bool.eq_false_iff.mpr c6
   subst c6
   have H1 : (some false) = some r:=by rw [if_neg (show ¬ (false = true) by decide)] at H;exact H
   clear H
   have H:=H1
   clear H1
   obtain rfl:=Option.some.inj H
   go_enter Try.func136,Try.ntmps136
   go_wp2_with (first|((with_reducible refine bev_ (N:=2) rfl rfl (cs:=#[.int .i64 a0_0,.slice A0_1 l0_1.length c0_1]) (t:=35) ?hr ?_);(case hr => first|(go_simp;done)|(go_simp;rfl));intro gb375 hg w16 hbox hb;have BK375:=Aside0.mk (hbox);have GW375:=Aside0.mk (szg_ hg (below_size (be0_ HB.out)));have GE375:=Aside0.mk (szg_ hg (below_size (be0_ HB.out)));replace HB:=Aside0.mk (below_step (be0_ HB.out) hb);clear hb hbox hg)|((with_reducible refine bev_ (N:=3) rfl rfl (cs:=#[.int .i64 a1_0,.slice A1_1 l1_1.length c1_1]) (t:=35) ?hr ?_);(case hr => first|(go_simp;done)|(go_simp;rfl));intro gb376 hg w17 hbox hb;have BK376:=Aside0.mk (hbox);have GW376:=Aside0.mk (szg_ hg (below_size (be1_ HB.out GE375.out)));have GE376:=Aside0.mk (szg_ hg (below_size (be1_ HB.out GE375.out)));replace HB:=Aside0.mk (below_step (be1_ HB.out GE375.out) hb);have NB375_376:=Aside0.mk (nl_ hg BK375.out);have NB376_375:=Aside0.mk (ng_ hg BK375.out);replace BK375:=Aside0.mk (kb_ BK375.out hb);clear hb hbox hg;have hnb18:=NB375_376.out;have hnc18:=NB376_375.out;obtain ⟨hcz19_0,hcz19_1,hfz19_0,hfz19_1⟩:=cf2_ BK375.out)|((with_reducible refine gate_callee (f:=126) rfl ?_);refine goesL_ (some 6) rfl rfl Try.func126 (by kernel_rfl) rfl #[.agg #[.int .i64 a0_0,.slice A0_1 l0_1.length c0_1]] rfl lp_ ?_;(with_reducible refine (impl_MatrixValid.calls k a0_0 _ _ l0_1 true _ ?side1 ?side2 A3.out).mono ?_);(case side1 => exact cr_ (Kd.C_below HR0_1.out HB.out));(case side2 => exact HC0_1.out);rintro e w20 ⟨rfl,hb⟩;refine ⟨_,rfl,?_⟩;replace BK375:=Aside0.mk (kb_ BK375.out hb);replace BK376:=Aside0.mk (kb_ BK376.out hb);replace HB:=Aside0.mk (below_step (be2_ HB.out GE375.out GE376.out) hb);(try clear hb);(try clear hb2);(try clear hk);(try clear hi);obtain ⟨hcz21_0,hcz21_1,hfz21_0,hfz21_1⟩:=cf2_ BK376.out)|(go_at_call 126;(with_reducible refine (impl_MatrixValid.calls k a1_0 _ _ l1_1 false _ ?side1 ?side2 A5.out).mono ?_);(case side1 => exact cr_ (Kd.C_below HR1_1.out HB.out));(case side2 => exact HC1_1.out);rintro e w22 ⟨rfl,hb⟩;replace BK375:=Aside0.mk (kb_ BK375.out hb);replace BK376:=Aside0.mk (kb_ BK376.out hb);replace HB:=Aside0.mk (below_step (be2_ HB.out GE375.out GE376.out) hb);(try clear hb);(try clear hb2);(try clear hk);(try clear hi)))
   go_ret
   exact ⟨er_,be2_ HB.out GE375.out GE376.out⟩
 ·replace c4:=Bool.eq_false_iff.mpr c4
  subst c4
  have H1 : (some false) = some r:=by rw [if_neg (show ¬ (false = true) by decide)] at H;exact H
  clear H
  have H:=H1
  clear H1
  obtain rfl:=Option.some.inj H
  go_enter Try.func136,Try.ntmps136
  go_wp2_with (first|((with_reducible refine bev_ (N:=2) rfl rfl (cs:=#[.int .i64 a0_0,.slice A0_1 l0_1.length c0_1]) (t:=35) ?hr ?_);(case hr => first|(go_simp;done)|(go_simp;rfl));intro gb375 hg w23 hbox hb;have BK375:=Aside0.mk (hbox);have GW375:=Aside0.mk (szg_ hg (below_size (be0_ HB.out)));have GE375:=Aside0.mk (szg_ hg (below_size (be0_ HB.out)));replace HB:=Aside0.mk (below_step (be0_ HB.out) hb);clear hb hbox hg)|((with_reducible refine bev_ (N:=3) rfl rfl (cs:=#[.int .i64 a1_0,.slice A1_1 l1_1.length c1_1]) (t:=35) ?hr ?_);(case hr => first|(go_simp;done)|(go_simp;rfl));intro gb376 hg w24 hbox hb;have BK376:=Aside0.mk (hbox);have GW376:=Aside0.mk (szg_ hg (below_size (be1_ HB.out GE375.out)));have GE376:=Aside0.mk (szg_ hg (below_size (be1_ HB.out GE375.out)));replace HB:=Aside0.mk (below_step (be1_ HB.out GE375.out) hb);have NB375_376:=Aside0.mk (nl_ hg BK375.out);have NB376_375:=Aside0.mk (ng_ hg BK375.out);replace BK375:=Aside0.mk (kb_ BK375.out hb);clear hb hbox hg;have hnb25:=NB375_376.out;have hnc25:=NB376_375.out;obtain ⟨hcz26_0,hcz26_1,hfz26_0,hfz26_1⟩:=cf2_ BK375.out)|((with_reducible refine gate_callee (f:=126) rfl ?_);refine goesL_ (some 6) rfl rfl Try.func126 (by kernel_rfl) rfl #[.agg #[.int .i64 a0_0,.slice A0_1 l0_1.length c0_1]] rfl lp_ ?_;(with_reducible refine (impl_MatrixValid.calls k a0_0 _ _ l0_1 false _ ?side1 ?side2 A3.out).mono ?_);(case side1 => exact cr_ (Kd.C_below HR0_1.out HB.out));(case side2 => exact HC0_1.out);rintro e w27 ⟨rfl,hb⟩;refine ⟨_,rfl,?_⟩;replace BK375:=Aside0.mk (kb_ BK375.out hb);replace BK376:=Aside0.mk (kb_ BK376.out hb);replace HB:=Aside0.mk (below_step (be2_ HB.out GE375.out GE376.out) hb);(try clear hb);(try clear hb2);(try clear hk);(try clear hi)))
  go_ret
  exact ⟨er_,be2_ HB.out GE375.out GE376.out⟩
mutual
def impl_filled.l0 (p1 : Int → Int → Option (Int)) : Nat → Int → Int → Int → Int → List Int → Option (Int × List Int)
 | 0,_,_,_,_,_ => none
 | k + 1,x0,x10,x11,x355000,x355001 => if x11 < x10 then (impl_filled.l1 p1 k x0 x11 x10 x11 x0 0 x355000 x355001) else (some (x355000,x355001))
def impl_filled.l1 (p1 : Int → Int → Option (Int)) : Nat → Int → Int → Int → Int → Int → Int → Int → List Int → Option (Int × List Int)
 | 0,_,_,_,_,_,_,_,_ => none
 | k + 1,x0,x6,x10,x11,x14,x15,x355000,x355001 => if x15 < x14 then ((p1 x6 x15).bind fun t355 => (if x355001.length < 17592186044416 then (impl_filled.l1 p1 k x0 x6 x10 x11 x14 (wrap64 (x15 + 1)) x355000 (x355001 ++ [t355])) else (none))) else (impl_filled.l0 p1 k x0 x10 (wrap64 (x11 + 1)) x355000 x355001)
end
def impl_filled.f (p1 : Int → Int → Option (Int)) (k : Nat) (a0 : Int)  : Option (Int × List Int):=impl_filled.l0 p1 k a0 a0 0 a0 ([] : List Int)
theorem impl_filled.mono_l (p1 : Int → Int → Option (Int)) : ∀ k,(∀ y0 y1 y2 y3 y4,LeO (impl_filled.l0 p1 k y0 y1 y2 y3 y4) (impl_filled.l0 p1 (k + 1) y0 y1 y2 y3 y4)) ∧ (∀ y0 y1 y2 y3 y4 y5 y6 y7,LeO (impl_filled.l1 p1 k y0 y1 y2 y3 y4 y5 y6 y7) (impl_filled.l1 p1 (k + 1) y0 y1 y2 y3 y4 y5 y6 y7))
 | 0 => ⟨fun _ _ _ _ _ r h => by simp [impl_filled.l0] at h,fun _ _ _ _ _ _ _ _ r h => by simp [impl_filled.l1] at h⟩
 | k + 1 => by
  obtain ⟨ih0,ih1⟩:=impl_filled.mono_l p1 k
  refine ⟨?_,?_⟩
  ·intro y0 y1 y2 y3 y4
   unfold impl_filled.l0
   repeat' first
   | (with_reducible exact ih0 _ _ _ _ _)
   | (with_reducible exact ih1 _ _ _ _ _ _ _ _)
   | (with_reducible exact LeO.refl _)
   | (with_reducible exact LeO.none _)
   | (with_reducible refine LeO.ite ?_ ?_)
   | (with_reducible refine LeO.bind ?_ (fun _ => ?_))
   | exact ih0 _ _ _ _ _
   | exact ih1 _ _ _ _ _ _ _ _
   | exact LeO.none _
   | refine LeO.ite ?_ ?_
   | refine LeO.bind ?_ (fun _ => ?_)
  ·intro y0 y1 y2 y3 y4 y5 y6 y7
   unfold impl_filled.l1
   repeat' first
   | (with_reducible exact ih0 _ _ _ _ _)
   | (with_reducible exact ih1 _ _ _ _ _ _ _ _)
   | (with_reducible exact LeO.refl _)
   | (with_reducible exact LeO.none _)
   | (with_reducible refine LeO.ite ?_ ?_)
   | (with_reducible refine LeO.bind ?_ (fun _ => ?_))
   | exact ih0 _ _ _ _ _
   | exact ih1 _ _ _ _ _ _ _ _
   | exact LeO.none _
   | refine LeO.ite ?_ ?_
   | refine LeO.bind ?_ (fun _ => ?_)
theorem impl_filled.mono (p1 : Int → Int → Option (Int)) : ∀ a0 k,LeO (impl_filled.f p1 k a0) (impl_filled.f p1 (k + 1) a0):=by
 intro a0 k
 obtain ⟨ih0,ih1⟩:=impl_filled.mono_l p1 k
 unfold impl_filled.f
 repeat' first
   | (with_reducible exact ih0 _ _ _ _ _)
   | (with_reducible exact ih1 _ _ _ _ _ _ _ _)
   | (with_reducible exact LeO.refl _)
   | (with_reducible exact LeO.none _)
   | (with_reducible refine LeO.ite ?_ ?_)
   | (with_reducible refine LeO.bind ?_ (fun _ => ?_))
   | exact ih0 _ _ _ _ _
   | exact ih1 _ _ _ _ _ _ _ _
   | exact LeO.none _
   | refine LeO.ite ?_ ?_
   | refine LeO.bind ?_ (fun _ => ?_)
def impl_filled.T8 : Bool × List (List Nat × List Nat):=(true,[([],[]),([0],[0]),([],[]),([],[]),([],[]),([2,3,4],[2,3,4]),([5],[5]),([1,6,5],[1,6]),([0,1,2,3,4,5,6,7],[]),([8,7,7,0,1,2,3,4,5,6,7],[7,8])])
def impl_filled.B8 : List Nat:=[0,1,0,0,0,28,60,127,255,511]
theorem impl_filled.tab8 : rtab .any (opsOf Try.f112 8) = impl_filled.T8:=by kernel_rfl
theorem impl_filled.bits8 : waitsOk impl_filled.T8.2 impl_filled.B8 = true:=by kernel_rfl
set_option maxHeartbeats 8000000 in
set_option maxRecDepth 100000 in
theorem impl_filled.calls (k : Nat) (a0 : Int) (q1 : FuncId) (F1 C1 : Array Value) (p1 : Int → Int → Option (Int)) (r1 : Int) (r2 : List Int) (w : World) (hq1 : FnAt Try.prog q1) (hp1 : ∀ (ay0 : Int) (ay1 : Int) (z0 : Int) (W_ : World),Below w.heap.size w W_ → p1 ay0 ay1 = some z0 → Calls Try.prog q1 (F1 ++ #[.int .i64 ay0,.int .i64 ay1] ++ C1) W_ fun e w' => e = .returned (.int .i64 z0) ∧ Below W_.heap.size W_ w') (h : impl_filled.f p1 k a0 = some (r1,r2)) :
  Calls Try.prog 112 #[.int .i64 a0,.func (.func q1) F1 C1] w fun e w' => ∃ v1_ : Value,e = .returned (.agg #[.int .i64 r1,v1_]) ∧ Kd.R (Kd.int .i64) 3 w' w.heap.size (fun _ => True) v1_ r2 ∧ Below w.heap.size w w':=by
 have hu35:=Try.underlying35
 have HQ1:=Aside0.mk hq1
 have HP1:=Aside0.mk hp1
 clear hq1 hp1
 have HB:=Aside0.mk (Below.refl w.heap.size w)
 have H : (impl_filled.l0 p1 k a0 a0 0 a0 ([] : List Int)) = some (r1,r2):=h
 clear h
 have H':=Aside0.mk H
 clear H
 go_enter Try.func112,Try.ntmps112
 go_wp2_with (first|((with_reducible refine bev_ (N:=4) rfl rfl (cs:=#[.int .i64 0,.slice none 0 0]) (t:=35) ?hr ?_);(case hr => first|(go_simp;done)|(go_simp;rfl));intro gb353 hg w3 hbox hb;have BK353:=Aside0.mk (hbox);have GW353:=Aside0.mk (szg_ hg (below_size (be0_ HB.out)));have GE353:=Aside0.mk (szg_ hg (below_size (be0_ HB.out)));replace HB:=Aside0.mk (below_step (be0_ HB.out) hb);clear hb hbox hg)|((with_reducible refine bev_ (N:=5) rfl rfl (cs:=#[.int .i64 0,.slice none 0 0]) (t:=35) ?hr ?_);(case hr => first|(go_simp;done)|(go_simp;rfl));intro gb354 hg w4 hbox hb;have BK354:=Aside0.mk (hbox);have GW354:=Aside0.mk (szg_ hg (below_size (be1_ HB.out GE353.out)));have GE354:=Aside0.mk (szg_ hg (below_size (be1_ HB.out GE353.out)));replace HB:=Aside0.mk (below_step (be1_ HB.out GE353.out) hb);have NB353_354:=Aside0.mk (nl_ hg BK353.out);have NB354_353:=Aside0.mk (ng_ hg BK353.out);replace BK353:=Aside0.mk (kb_ BK353.out hb);clear hb hbox hg;have hnb5:=NB354_353.out;have hnc5:=NB353_354.out;obtain ⟨hcz6_0,hcz6_1,hfz6_0,hfz6_1⟩:=cf2_ BK354.out))
 go_loopg [11] k (fun kq v11 w' => ∃ (x11_1 : Int) (x355001_1 : List Int) (u355001 : Value),v11 = .int .i64 x11_1 ∧ Aside0 (impl_filled.l0 p1 kq a0 a0 x11_1 a0 x355001_1 = some (r1,r2)) ∧ Aside0 (kq ≤ k) ∧ Aside0 (Kd.R (Kd.int .i64) 3 w' w.heap.size (fun _ => True) u355001 x355001_1) ∧ Aside0 (w'.heap[gb353]? = some (.cells #[.int .i64 0,(.slice none 0 0)] 35 (0,0))) ∧ Aside0 (w'.heap[gb354]? = some (.cells #[.int .i64 a0,u355001] 35 (0,0))) ∧ Aside0 (Below w.heap.size w w'))
 case atStart => exact ⟨(0),(([] : List Int)),(.slice none 0 0),rs_,H',⟨Nat.le_refl _⟩,⟨by first|exact Kd.R_nil _ _ _ _ _|exact Kd.N_nil _ _ _ _ _|exact Kd.V_nil _ _ _ _ _|exact Kd.Q_nil _ _ _ _ _|exact Kd.S_nil _ _ _ _ _⟩,⟨by refine pe_ ?_;refine blk_far ?_ NB353_354.out _;refine pe_ ?_;refine blk_far ?_ NB353_354.out _;refine pe_ ?_;exact BK353.out⟩,⟨by refine pe_ ?_;refine blk_put (cs:=#[.int .i64 a0,.slice none 0 0]) ?_ 1 _ rfl;refine pe_ ?_;refine blk_put (cs:=#[.int .i64 0,.slice none 0 0]) ?_ 0 _ rfl;refine pe_ ?_;exact BK354.out⟩,⟨be2_ HB.out GE353.out GE354.out⟩⟩
 case round =>
  clear H'
  try clear c1
  try clear p1
  try clear q1
  try clear p2
  try clear c5
  try clear hcz6_0
  try clear hcz6_1
  try clear hfz6_0
  try clear hfz6_1
  obtain ⟨x11_1,x355001_1,u355001,rfl,HA,HK1,HO_355001,BK353,BK354,HB⟩:=hrel
  cases gk with
  | zero => exact absurd HA.out (by simp [impl_filled.l0])
  | succ k1 =>
   have H:=HA.out
   clear HA
   simp only [impl_filled.l0] at H
   by_cases c7 : x11_1 < a0
   ·rw [if_pos c7] at H
    have c7b0 : decide (x11_1 < a0) = true:=decide_eq_true c7
    clear c7
    have H':=Aside0.mk H
    clear H
    go_wp2
    go_loopg [15] k1 (fun kq v15 w' => ∃ (x15_2 : Int) (x355001_2 : List Int) (u355001 : Value),v15 = .int .i64 x15_2 ∧ Aside0 (impl_filled.l1 p1 kq a0 x11_1 a0 x11_1 a0 x15_2 a0 x355001_2 = some (r1,r2)) ∧ Aside0 (kq ≤ k1) ∧ Aside0 (Kd.R (Kd.int .i64) 3 w' w.heap.size (fun _ => True) u355001 x355001_2) ∧ Aside0 (w'.heap[gb353]? = some (.cells #[.int .i64 0,(.slice none 0 0)] 35 (0,0))) ∧ Aside0 (w'.heap[gb354]? = some (.cells #[.int .i64 a0,u355001] 35 (0,0))) ∧ Aside0 (Below w.heap.size w w'))
    case atStart => exact ⟨(0),(x355001_1),(u355001),rs_,H',⟨Nat.le_refl _⟩,⟨pr_ HO_355001.out⟩,⟨pe_ BK353.out⟩,⟨pe_ BK354.out⟩,⟨be2_ HB.out GE353.out GE354.out⟩⟩
    case round =>
     clear H'
     try clear c1
     try clear p1
     try clear q1
     try clear p2
     try clear c5
     try clear c7
     try clear c7b0
     try clear hcz6_0
     try clear hcz6_1
     try clear hfz6_0
     try clear hfz6_1
     try clear p1
     try clear p2
     try clear q1
     obtain ⟨x15_2,x355001_2,u355001,rfl,HA,HK2,HO_355001,BK353,BK354,HB⟩:=hrel
     cases gk with
     | zero => exact absurd HA.out (by simp [impl_filled.l1])
     | succ k2 =>
      have H:=HA.out
      clear HA
      simp only [impl_filled.l1] at H
      by_cases c8 : x15_2 < a0
      ·rw [if_pos c8] at H
       have c8b0 : decide (x15_2 < a0) = true:=decide_eq_true c8
       clear c8
       replace H:=Option.bind_eq_some_iff.mp H
       obtain ⟨t355,A90,H⟩:=H
       replace H : (if x355001_2.length < 17592186044416 then (impl_filled.l1 p1 k2 a0 x11_1 a0 x11_1 a0 (wrap64 (x15_2 + 1)) a0 (x355001_2 ++ [t355])) else (none)) = some (r1,r2):=H
       have A9:=Aside0.mk A90
       clear A90
       by_cases c10 : x355001_2.length < 17592186044416
       ·rw [if_pos c10] at H
        have LMc10:=Aside0.mk c10
        clear c10
        obtain ⟨y356,hy356⟩ : ∃ y_ : List Int,y_ = (x355001_2 ++ [t355]):=⟨_,rfl⟩
        replace H : (impl_filled.l1 p1 k2 a0 x11_1 a0 x11_1 a0 (wrap64 (x15_2 + 1)) a0 y356) = some (r1,r2):=by first|(rw [hy356];with_reducible exact H)|(have H2_:=(Option.bind_some _ _).symm.trans H;rw [hy356];with_reducible exact H2_)|(have H2_:=(Option.bind_some _ _).symm.trans H;with_reducible exact H2_)|with_reducible exact H|(rw [hy356];exact H)|exact H
        have Ny356:=Aside0.mk hy356
        clear hy356
        have H':=Aside0.mk H
        clear H
        try go_wp2
        replace HO_355001:=Aside0.mk (Kd.R_drew HO_355001.out)
        replace BK353:=Aside0.mk (blk_drew BK353.out)
        replace BK354:=Aside0.mk (blk_drew BK354.out)
        replace HB:=Aside0.mk (below_drew1 HB.out)
        refine start_ (n:=10) (S:=fun w' => w'.cell? ⟨gb354,0,none⟩ = some (.int .i64 a0) ∧ w'.cell? ⟨gb354,1,none⟩ = some (u355001)) (ds:=[9]) #[false,false,false,false,false,false,false,false,false,false] (by kernel_rfl) rfl rfl ⟨(blk_cell BK354.out 0).trans rfl,(blk_cell BK354.out 1).trans rfl⟩ (fun hHeld => ?_);refine with_tabW impl_filled.tab8 impl_filled.bits8 (fun HT_ HW_ => ?_)
        generalize wr.drew = w11 at HO_355001 BK353 BK354 HB hHeld ⊢
        refine pure_ (i:=0) (N:=some 18) (v:=?_) (a':=?_) #[true,false,false,false,false,false,false,false,false,false] rfl rfl (any_of HT_.out (by kernel_rfl)) (fun _ _ _ h => h) (Or.inl ⟨by rfl,?_⟩) ?_ ?_
        rotate_left
        ·intro w'
         go_simp
         with_reducible rfl
        rotate_left
        ·simp only [Act.put,List.setIfInBounds_toArray,List.set_cons_zero,List.set_cons_succ,i64_w,i32_w]
         rfl
        refine pure_ (i:=2) (N:=some 20) (v:=?_) (a':=?_) #[true,false,true,false,false,false,false,false,false,false] rfl rfl (any_of HT_.out (by kernel_rfl)) (fun _ _ _ h => h) (Or.inl ⟨by rfl,?_⟩) ?_ ?_
        rotate_left
        ·intro w'
         go_simp
         with_reducible rfl
        rotate_left
        ·simp only [Act.put,List.setIfInBounds_toArray,List.set_cons_zero,List.set_cons_succ,i64_w,i32_w]
         rfl
        refine pure_ (i:=3) (N:=some 21) (v:=?_) (a':=?_) #[true,false,true,true,false,false,false,false,false,false] rfl rfl (any_of HT_.out (by kernel_rfl)) (fun _ _ _ h => h) (Or.inl ⟨by rfl,?_⟩) ?_ ?_
        rotate_left
        ·intro w'
         go_simp
         with_reducible rfl
        rotate_left
        ·simp only [Act.put,List.setIfInBounds_toArray,List.set_cons_zero,List.set_cons_succ,i64_w,i32_w]
         rfl
        refine pure_ (i:=4) (N:=some 22) (v:=?_) (a':=?_) #[true,false,true,true,true,false,false,false,false,false] rfl rfl (any_of HT_.out (by kernel_rfl)) (fun _ _ _ h => h) (Or.inl ⟨by rfl,?_⟩) ?_ ?_
        rotate_left
        ·intro w'
         go_simp
         with_reducible rfl
        rotate_left
        ·simp only [Act.put,List.setIfInBounds_toArray,List.set_cons_zero,List.set_cons_succ,i64_w,i32_w]
         rfl
        refine take_ (i:=1) (N:=some 19) (v:=?_) (a':=?_) #[true,true,true,true,true,false,false,false,false,false] rfl rfl (take_ofW HT_.out HW_.out (by kernel_rfl)) (fun _ _ _ h => h) (Or.inl ⟨by rfl,?_⟩) hHeld ?_ ?_
        rotate_left
        ·rintro w' ⟨s0,s1⟩
         go_simp
         with_reducible rfl
        rotate_left
        ·simp only [Act.put,List.setIfInBounds_toArray,List.set_cons_zero,List.set_cons_succ,i64_w,i32_w]
         rfl
        refine one_ (i:=5) (N:=some 23) #[true,true,true,true,true,true,false,false,false,false] rfl rfl (one_of HT_.out (by kernel_rfl)) (by decide) (fun K hK => ?_)
        refine goesD_ HQ1.out #[.int .i64 x11_1,.int .i64 x15_2] (by rfl) rfl rfl rfl lp_ ?_
        with_reducible refine (HP1.out x11_1 x15_2 t355 _ ?side1 A9.out).mono ?_
        (case side1 => repeat (first|(with_reducible first|exact HB.out|apply below_alloc|apply pw_below_drewN|apply below_drew1|refine below_set ?_ GE353.out|refine below_set ?_ GE354.out)|exact HB.out))
        rintro e w12 ⟨rfl,hb⟩
        refine ⟨_,rfl,?_⟩
        replace HO_355001:=Aside0.mk (Kd.R_below (pr_ HO_355001.out) hb)
        replace BK353:=Aside0.mk (kb_ BK353.out hb)
        replace BK354:=Aside0.mk (kb_ BK354.out hb)
        replace HB:=Aside0.mk (below_step (be2_ HB.out GE353.out GE354.out) hb)
        (try clear hb)
        (try clear hb2)
        (try clear hk)
        (try clear hi)
        refine hK.out _ _ ⟨(blk_cell BK354.out 0).trans rfl,(blk_cell BK354.out 1).trans rfl⟩ (fun hHeld => ?_)
        clear hK K
        refine norm_ (a':=?_) ?_ ?_
        rotate_left
        ·show Act.put _ (some 23) _ = _
         simp only [Act.put,List.setIfInBounds_toArray,List.set_cons_zero,List.set_cons_succ,i64_w,i32_w]
         rfl
        refine one_ (i:=6) (N:=some 24) #[true,true,true,true,true,true,true,false,false,false] rfl rfl (one_of HT_.out (by kernel_rfl)) (by decide) (fun K hK => ?_)
        refine value_ (w1:=?_) (v:=?_) (by rfl) rfl ?_ ?_
        rotate_left 2
        ·go_simp
         constructor
         ·rfl
         ·rfl
        refine hK.out _ _ ⟨(blk_cell (blk_alloc BK354.out _) 0).trans rfl,(blk_cell (blk_alloc BK354.out _) 1).trans rfl⟩ (fun hHeld => ?_)
        clear hK K
        refine norm_ (a':=?_) ?_ ?_
        rotate_left
        ·show Act.put _ (some 24) _ = _
         simp only [Act.put,List.setIfInBounds_toArray,List.set_cons_zero,List.set_cons_succ,i64_w,i32_w]
         rfl
        refine one_ (i:=7) (N:=some 25) #[true,true,true,true,true,true,true,true,false,false] rfl rfl (one_of HT_.out (by kernel_rfl)) (by decide) (fun K hK => ?_)
        refine Kd.R_append_step (Kd.int .i64) (w0:=w) w.heap.size (by rfl) (.tmp 19) (.tmp 24) 22 3 (.int .i64 0) 8 rfl Try.underlying22 info3 rfl (by decide) (by omega) u355001 x355001_2 t355 [.int .i64 t355] (fun _ => True) (fun _ => False) rfl rfl ?aP (fun _ hk => hk.elim) ?aF ?aO ?aB ?aS ?aL ?_
        (case aP => exact rfl)
        (case aB => exact (be2_ HB.out GE353.out GE354.out))
        (case aF => exact (fun _ _ => trivial))
        (case aO => exact (pr_ HO_355001.out))
        (case aS => exact (below_size (be2_ HB.out GE353.out GE354.out)))
        (case aL => have:=LMc10.out;omega)
        intro v357 w13 ho hb hg hat
        rw [← Ny356.out] at ho
        replace BK353:=Aside0.mk (blk_grown (g:=gb353) (o:=.cells #[.int .i64 0,.slice none 0 0] 35 (0,0)) (pe_ BK353.out) hg (Kd.R_ne HO_355001.out BK353.out (by decide)))
        replace BK354:=Aside0.mk (blk_grown (g:=gb354) (o:=.cells #[.int .i64 a0,u355001] 35 (0,0)) (pe_ BK354.out) hg (Kd.R_ne HO_355001.out BK354.out (by decide)))
        replace HB:=Aside0.mk (hb)
        have HO358:=Aside0.mk (ho)
        clear HO_355001
        clear ho hb hg hat
        obtain ⟨Ao14,co14,eo14⟩:=Kd.R_slice HO358.out
        (first|subst eo14|(injection eo14 with f1_ f2_ f3_;have f4_:=f1_.symm;have f5_:=f3_.symm;clear f1_ f2_ f3_;subst f4_;subst f5_))
        refine hK.out _ _ ⟨(blk_cell BK354.out 0).trans rfl,(blk_cell BK354.out 1).trans rfl⟩ (fun hHeld => ?_)
        clear hK K
        refine norm_ (a':=?_) ?_ ?_
        rotate_left
        ·show Act.put _ (some 25) _ = _
         simp only [Act.put,List.setIfInBounds_toArray,List.set_cons_zero,List.set_cons_succ,i64_w,i32_w]
         rfl
        refine pure_ (i:=8) (N:=some 26) (v:=?_) (a':=?_) #[true,true,true,true,true,true,true,true,true,false] rfl rfl (any_of HT_.out (by kernel_rfl)) (fun _ _ _ h => h) (Or.inl ⟨by rfl,?_⟩) ?_ ?_
        rotate_left
        ·intro w'
         go_simp
         with_reducible rfl
        rotate_left
        ·simp only [Act.put,List.setIfInBounds_toArray,List.set_cons_zero,List.set_cons_succ,i64_w,i32_w]
         rfl
        refine last_ (i:=9) (N:=none) #[true,true,true,true,true,true,true,true,true,true] rfl rfl (one_of HT_.out (by kernel_rfl)) (by decide) (fun K hK => ?_)
        have hs15 : w13.cell? ⟨gb354,1,none⟩ = some (u355001):=(blk_cell BK354.out 1).trans rfl
        have hfs15:=blk_frozen BK354.out 1
        have hns15_0:=NB353_354.out
        have hms15_0:=NB354_353.out
        refine skip_ (w1:=?_) (by rfl) rfl ?_ ?_
        rotate_left
        ·go_simp
         rfl
        refine hK.out _ _ ?_
        clear hK K
        refine done_ (done_of HT_.out (by kernel_rfl)) ?_
        try go_wp2
        go_roundg k2
        case measure => have:=HK1.out;have:=HK2.out;omega
        case rel => exact ⟨(wrap64 (x15_2 + 1)),(y356),(.slice Ao14 y356.length co14),rs_,H',⟨by have:=HK1.out;have:=HK2.out;omega⟩,⟨by refine pr_ ?_;exact Kd.R_mono (Kd.R_far (p:=⟨gb354,1,none⟩) (Kd.R_types HO358.out BK354.out (by decide)) (fun _ hk => hk.2) (.slice Ao14 y356.length co14)) (fun _ hk => trivial)⟩,⟨by refine pe_ ?_;refine blk_far ?_ NB353_354.out _;refine pe_ ?_;exact BK353.out⟩,⟨by refine pe_ ?_;refine blk_put (cs:=#[.int .i64 a0,u355001]) ?_ 1 _ rfl;refine pe_ ?_;exact BK354.out⟩,⟨be2_ HB.out GE353.out GE354.out⟩⟩
       ·rw [if_neg c10] at H
        exact absurd H (by simp)
      ·rw [if_neg c8] at H
       have c8b0 : decide (x15_2 < a0) = false:=decide_eq_false c8
       clear c8
       have H':=Aside0.mk H
       clear H
       go_wp2
       go_roundg k2
       case measure => have:=HK1.out;have:=HK2.out;omega
       case rel => exact ⟨(wrap64 (x11_1 + 1)),(x355001_2),(u355001),rs_,H',⟨by have:=HK1.out;have:=HK2.out;omega⟩,⟨pr_ HO_355001.out⟩,⟨pe_ BK353.out⟩,⟨pe_ BK354.out⟩,⟨be2_ HB.out GE353.out GE354.out⟩⟩
   ·rw [if_neg c7] at H
    have c7b0 : decide (x11_1 < a0) = false:=decide_eq_false c7
    clear c7
    simp only [Option.some.injEq,Prod.mk.injEq] at H
    obtain ⟨rfl,rfl⟩:=H
    have hnb16:=NB354_353.out
    have hnc16:=NB353_354.out
    obtain ⟨hcz17_0,hcz17_1,hfz17_0,hfz17_1⟩:=cf2_ BK354.out
    obtain ⟨hcz18_0,hcz18_1,hfz18_0,hfz18_1⟩:=cf2_ BK353.out
    obtain ⟨Ao19,co19,eo19⟩:=Kd.R_slice HO_355001.out
    subst eo19
    go_wp2
    refine bodyPost_ret (results_cell_row rfl _ _ gb353 35 #[.int .i64 a0,.slice Ao19 x355001_1.length co19] (0,0) _ rfl (by refine pe_ ?_;refine blk_put (cs:=#[.int .i64 a0,.slice none 0 0]) ?_ 1 _ rfl;refine pe_ ?_;refine blk_put (cs:=#[.int .i64 0,.slice none 0 0]) ?_ 0 _ rfl;refine pe_ ?_;exact BK353.out) Try.underlying35 rfl (by kernel_rfl)) rfl ?_
    exact ⟨_,er_,by refine pr_ ?_;exact Kd.R_mono (Kd.R_far (p:=⟨gb353,1,none⟩) (Kd.R_far (p:=⟨gb353,0,none⟩) (Kd.R_types HO_355001.out BK353.out (by decide)) (fun _ hk => hk.2) (.int .i64 a0)) (fun _ hk => hk.2) (.slice Ao19 x355001_1.length co19)) (fun _ hk => trivial),be2_ HB.out GE353.out GE354.out⟩
theorem impl_filled.monoP_l {p p' : Int → Int → Option (Int)} (hp : ∀ y0 y1,LeO (p y0 y1) (p' y0 y1)) : ∀ k,(∀ y0 y1 y2 y3 y4,LeO (impl_filled.l0 p k y0 y1 y2 y3 y4) (impl_filled.l0 p' k y0 y1 y2 y3 y4)) ∧ (∀ y0 y1 y2 y3 y4 y5 y6 y7,LeO (impl_filled.l1 p k y0 y1 y2 y3 y4 y5 y6 y7) (impl_filled.l1 p' k y0 y1 y2 y3 y4 y5 y6 y7))
 | 0 => by
  refine ⟨?_,?_⟩
  all_goals (intros;intro r h;first|(simp [impl_filled.l0,impl_filled.l1] at h;done)|(unfold impl_filled.l0 at h;simp at h;done))
 | k + 1 => by
  have ih:=impl_filled.monoP_l hp k
  obtain ⟨ih0,ih1⟩:=ih
  refine ⟨?_,?_⟩
  ·intro y0 y1 y2 y3 y4
   unfold impl_filled.l0
   repeat'
    first
    | (with_reducible exact LeO.refl _)
    | (with_reducible exact LeO.none _)
    | (with_reducible exact ih0 _ _ _ _ _)
    | (with_reducible exact ih1 _ _ _ _ _ _ _ _)
    | (with_reducible exact hp _ _)
    | (with_reducible refine LeO.ite ?_ ?_)
    | (with_reducible refine LeO.bind ?_ (fun _ => ?_))
    | exact hp _ _
    | exact LeO.refl _
  ·intro y0 y1 y2 y3 y4 y5 y6 y7
   unfold impl_filled.l1
   repeat'
    first
    | (with_reducible exact LeO.refl _)
    | (with_reducible exact LeO.none _)
    | (with_reducible exact ih0 _ _ _ _ _)
    | (with_reducible exact ih1 _ _ _ _ _ _ _ _)
    | (with_reducible exact hp _ _)
    | (with_reducible refine LeO.ite ?_ ?_)
    | (with_reducible refine LeO.bind ?_ (fun _ => ?_))
    | exact hp _ _
    | exact LeO.refl _
theorem impl_filled.monoP {p p' : Int → Int → Option (Int)} (hp : ∀ y0 y1,LeO (p y0 y1) (p' y0 y1)) : ∀ a0 k,LeO (impl_filled.f p k a0) (impl_filled.f p' (k + 1) a0):=by
 intro a0 k
 refine LeO.trans ?_ (impl_filled.mono p' a0 k)
 have ih:=impl_filled.monoP_l hp k
 obtain ⟨ih0,ih1⟩:=ih
 unfold impl_filled.f
 repeat'
  first
  | (with_reducible exact LeO.refl _)
  | (with_reducible exact LeO.none _)
  | (with_reducible exact ih0 _ _ _ _ _)
  | (with_reducible exact ih1 _ _ _ _ _ _ _ _)
  | (with_reducible exact hp _ _)
  | (with_reducible refine LeO.ite ?_ ?_)
  | (with_reducible refine LeO.bind ?_ (fun _ => ?_))
  | exact hp _ _
  | exact LeO.refl _
def impl_AddCost.f (a0 : Int) (a1 : Int) : Option (Int):=(impl_CostValid.f a0).bind fun t379 => (if t379 = true then ((impl_CostValid.f a1).bind fun t380 => (if t380 = true then (some (mn (wrap64 (a0 + a1)) 1000000)) else (some (-1)))) else (some (-1)))
set_option maxHeartbeats 8000000 in
set_option maxRecDepth 100000 in
theorem impl_AddCost.calls (a0 : Int) (a1 : Int) (r : Int) (w : World) (h : impl_AddCost.f a0 a1 = some r) :
  Calls Try.prog 138 #[.int .i64 a0,.int .i64 a1] w fun e w' => e = .returned (.int .i64 r) ∧ Below w.heap.size w w':=by
 have HB:=Aside0.mk (Below.refl w.heap.size w)
 have H : ((impl_CostValid.f a0).bind fun t379 => (if t379 = true then ((impl_CostValid.f a1).bind fun t380 => (if t380 = true then (some (mn (wrap64 (a0 + a1)) 1000000)) else (some (-1)))) else (some (-1)))) = some r:=h
 clear h
 replace H:=Option.bind_eq_some_iff.mp H
 obtain ⟨t379,A30,H⟩:=H
 replace H : (if t379 = true then ((impl_CostValid.f a1).bind fun t380 => (if t380 = true then (some (mn (wrap64 (a0 + a1)) 1000000)) else (some (-1)))) else (some (-1))) = some r:=H
 have A3:=Aside0.mk A30
 clear A30
 by_cases c4 : t379 = true
 ·subst c4
  have H1 : ((impl_CostValid.f a1).bind fun t380 => (if t380 = true then (some (mn (wrap64 (a0 + a1)) 1000000)) else (some (-1)))) = some r:=by rw [if_pos rfl] at H;exact H
  clear H
  have H:=H1
  clear H1
  replace H:=Option.bind_eq_some_iff.mp H
  obtain ⟨t380,A50,H⟩:=H
  replace H : (if t380 = true then (some (mn (wrap64 (a0 + a1)) 1000000)) else (some (-1))) = some r:=H
  have A5:=Aside0.mk A50
  clear A50
  by_cases c6 : t380 = true
  ·subst c6
   have H1 : (some (mn (wrap64 (a0 + a1)) 1000000)) = some r:=by rw [if_pos rfl] at H;exact H
   clear H
   have H:=H1
   clear H1
   obtain ⟨ji7,hji7⟩ : ∃ j_ : Int,(mn (wrap64 (a0 + a1)) 1000000) = j_:=⟨_,rfl⟩
   replace H : (some ji7) = some r:=by first|(rw [hji7] at H;exact H)|(simp only [hji7] at H ⊢;exact H)
   (try rw [hji7] at A3)
   (try rw [hji7] at A5)
   (try (have hji7h : ji7 ≤ 1000000:=by (rw [← hji7];unfold mn;(repeat' split) <;> omega)))
   (try (have hji7g : ji7 ≤ 64:=by omega))
   have hji7_ : (if 1000000 < (wrap64 (a0 + a1)) then 1000000 else (wrap64 (a0 + a1))) = ji7:=hji7
   obtain rfl:=Option.some.inj H
   go_enter Try.func138,Try.ntmps138
   go_wp2_with (first|((with_reducible refine gate_callee (f:=164) rfl ?_);refine goesL_ (some 6) rfl rfl Try.func164 (by kernel_rfl) rfl #[.int .i64 a0] rfl lp_ ?_;(with_reducible refine (impl_CostValid.calls a0 true _ A3.out).mono ?_);rintro e w' ⟨rfl,⟨nd,rfl⟩⟩;refine ⟨_,rfl,?_⟩)|(go_at_call 164;(with_reducible refine (impl_CostValid.calls a1 true _ A5.out).mono ?_);rintro e w' ⟨rfl,⟨nd,rfl⟩⟩))
   go_ret
   exact ⟨by first|rfl|(simp [errW_none,errW_some] <;> rfl)|(simp only [← hji7];first|rfl|(simp [errW_none,errW_some] <;> rfl))|(simp [*,errW_none,errW_some] <;> rfl),be0_ HB.out⟩
  ·replace c6:=Bool.eq_false_iff.mpr c6
   subst c6
   have H1 : (some (-1)) = some r:=by rw [if_neg (show ¬ (false = true) by decide)] at H;exact H
   clear H
   have H:=H1
   clear H1
   obtain rfl:=Option.some.inj H
   go_enter Try.func138,Try.ntmps138
   go_wp2_with (first|((with_reducible refine gate_callee (f:=164) rfl ?_);refine goesL_ (some 6) rfl rfl Try.func164 (by kernel_rfl) rfl #[.int .i64 a0] rfl lp_ ?_;(with_reducible refine (impl_CostValid.calls a0 true _ A3.out).mono ?_);rintro e w' ⟨rfl,⟨nd,rfl⟩⟩;refine ⟨_,rfl,?_⟩)|(go_at_call 164;(with_reducible refine (impl_CostValid.calls a1 false _ A5.out).mono ?_);rintro e w' ⟨rfl,⟨nd,rfl⟩⟩))
   go_ret
   exact ⟨er_,be0_ HB.out⟩
 ·replace c4:=Bool.eq_false_iff.mpr c4
  subst c4
  have H1 : (some (-1)) = some r:=by rw [if_neg (show ¬ (false = true) by decide)] at H;exact H
  clear H
  have H:=H1
  clear H1
  obtain rfl:=Option.some.inj H
  go_enter Try.func138,Try.ntmps138
  go_wp2_with (first|((with_reducible refine gate_callee (f:=164) rfl ?_);refine goesL_ (some 6) rfl rfl Try.func164 (by kernel_rfl) rfl #[.int .i64 a0] rfl lp_ ?_;(with_reducible refine (impl_CostValid.calls a0 false _ A3.out).mono ?_);rintro e w' ⟨rfl,⟨nd,rfl⟩⟩;refine ⟨_,rfl,?_⟩))
  go_ret
  exact ⟨er_,be0_ HB.out⟩
def impl_Matrix_at.f (a0_0 : Int) (l0_1 : List Int) (a1 : Int) (a2 : Int) : Option (Int):=if 0 ≤ (wrap64 ((wrap64 (a1 * a0_0)) + a2)) then (if (wrap64 ((wrap64 (a1 * a0_0)) + a2)) < (l0_1.length : Int) then (some (rd l0_1 (wrap64 ((wrap64 (a1 * a0_0)) + a2)))) else (none)) else (none)
set_option maxHeartbeats 8000000 in
set_option maxRecDepth 100000 in
theorem impl_Matrix_at.calls (a0_0 : Int) (A0_1 : Option Addr) (c0_1 : Nat) (l0_1 : List Int) (a1 : Int) (a2 : Int) (r : Int) (w : World) (hr0_1 : Kd.C (Kd.int .i64) w A0_1 l0_1.length l0_1) (hc0_1 : l0_1.length ≤ c0_1) (h : impl_Matrix_at.f a0_0 l0_1 a1 a2 = some r) :
  Calls Try.prog 74 #[.agg #[.int .i64 a0_0,.slice A0_1 l0_1.length c0_1],.int .i64 a1,.int .i64 a2] w fun e w' => e = .returned (.int .i64 r) ∧ Below w.heap.size w w':=by
 have hu35:=Try.underlying35
 have HR0_1:=Aside0.mk hr0_1
 have HC0_1:=Aside0.mk hc0_1
 clear hr0_1 hc0_1
 have HB:=Aside0.mk (Below.refl w.heap.size w)
 have H : (if 0 ≤ (wrap64 ((wrap64 (a1 * a0_0)) + a2)) then (if (wrap64 ((wrap64 (a1 * a0_0)) + a2)) < (l0_1.length : Int) then (some (rd l0_1 (wrap64 ((wrap64 (a1 * a0_0)) + a2)))) else (none)) else (none)) = some r:=h
 clear h
 obtain ⟨ji4,hji4⟩ : ∃ j_ : Int,(wrap64 ((wrap64 (a1 * a0_0)) + a2)) = j_:=⟨_,rfl⟩
 replace H : (if 0 ≤ (ji4) then (if (ji4) < (l0_1.length : Int) then (some (rd l0_1 (ji4))) else (none)) else (none)) = some r:=by first|(rw [hji4] at H;exact H)|(simp only [hji4] at H ⊢;exact H)
 have hji4w : (IntKind.i64.wrap ((wrap64 (a1 * a0_0)) + a2)) = ji4:=(i64_w _).trans hji4
 by_cases c5 : 0 ≤ (ji4)
 ·rw [if_pos c5] at H
  have c5b0 : decide (0 ≤ (ji4)) = true:=decide_eq_true c5
  clear c5
  by_cases c6 : (ji4) < (l0_1.length : Int)
  ·rw [if_pos c6] at H
   have c6b0 : decide ((ji4) < (l0_1.length : Int)) = true:=decide_eq_true c6
   clear c6
   obtain rfl:=Option.some.inj H
   go_enter Try.func74,Try.ntmps74
   go_wp2_with (first|((with_reducible refine bev_ (N:=3) rfl rfl (cs:=#[.int .i64 a0_0,.slice A0_1 l0_1.length c0_1]) (t:=35) ?hr ?_);(case hr => first|(go_simp;done)|(go_simp;rfl));intro gb215 hg w7 hbox hb;have BK215:=Aside0.mk (hbox);have GW215:=Aside0.mk (szg_ hg (below_size (be0_ HB.out)));have GE215:=Aside0.mk (szg_ hg (below_size (be0_ HB.out)));replace HB:=Aside0.mk (below_step (be0_ HB.out) hb);clear hb hbox hg;obtain ⟨hcz8_0,hcz8_1,hfz8_0,hfz8_1⟩:=cf2_ BK215.out;have p216 : 0 ≤ ((ji4) : Int):=of_decide_eq_true (by first|(with_reducible assumption)|assumption);have q216 : (ji4) < (l0_1.length : Int):=of_decide_eq_true (by first|(with_reducible assumption)|assumption);obtain ⟨ad216,e216,hx216_0⟩:=Kd.at_int HR0_1.out (ji4) p216 q216;cases e216;replace hx216_0:=hbc_ HB.out hx216_0;replace p216:=eq_true p216;replace q216:=eq_true q216))
   go_ret
   exact ⟨by first|rfl|(simp [errW_none,errW_some] <;> rfl)|(simp only [← hji4];first|rfl|(simp [errW_none,errW_some] <;> rfl))|(simp [*,errW_none,errW_some] <;> rfl),be1_ HB.out GE215.out⟩
  ·rw [if_neg c6] at H
   exact absurd H (by simp)
 ·rw [if_neg c5] at H
  exact absurd H (by simp)
def impl_MulMatrix_1.l0 : Nat → Int → Int → Int → Int → Int → Int → List Int → Int → List Int → Option (Int)
 | 0,_,_,_,_,_,_,_,_,_ => none
 | k + 1,x0,x1,x7,x10,x11,x3000,x3001,x4000,x4001 => if x11 < x10 then ((impl_Matrix_at.f x3000 x3001 x0 x11).bind fun t381 => ((impl_Matrix_at.f x4000 x4001 x11 x1).bind fun t382 => ((impl_AddCost.f t381 t382).bind fun t383 => (impl_MulMatrix_1.l0 k x0 x1 (mn x7 t383) x10 (wrap64 (x11 + 1)) x3000 x3001 x4000 x4001)))) else (some x7)
def impl_MulMatrix_1.f (k : Nat) (a0 : Int) (a1 : Int) (a2_0 : Int) (l2_1 : List Int) (a3_0 : Int) (l3_1 : List Int) : Option (Int):=impl_MulMatrix_1.l0 k a0 a1 1000000 a2_0 0 a2_0 l2_1 a3_0 l3_1
theorem impl_MulMatrix_1.mono_l : ∀ k,(∀ y0 y1 y2 y3 y4 y5 y6 y7 y8,LeO (impl_MulMatrix_1.l0 k y0 y1 y2 y3 y4 y5 y6 y7 y8) (impl_MulMatrix_1.l0 (k + 1) y0 y1 y2 y3 y4 y5 y6 y7 y8))
 | 0 => fun _ _ _ _ _ _ _ _ _ r h => by simp [impl_MulMatrix_1.l0] at h
 | k + 1 => by
  have ih0:=impl_MulMatrix_1.mono_l k
  ·intro y0 y1 y2 y3 y4 y5 y6 y7 y8
   unfold impl_MulMatrix_1.l0
   repeat' first
   | (with_reducible exact ih0 _ _ _ _ _ _ _ _ _)
   | (with_reducible exact LeO.refl _)
   | (with_reducible exact LeO.none _)
   | (with_reducible refine LeO.ite ?_ ?_)
   | (with_reducible refine LeO.bind ?_ (fun _ => ?_))
   | exact ih0 _ _ _ _ _ _ _ _ _
   | exact LeO.none _
   | refine LeO.ite ?_ ?_
   | refine LeO.bind ?_ (fun _ => ?_)
theorem impl_MulMatrix_1.mono : ∀ a0 a1 a2 a3 a4 a5 k,LeO (impl_MulMatrix_1.f k a0 a1 a2 a3 a4 a5) (impl_MulMatrix_1.f (k + 1) a0 a1 a2 a3 a4 a5):=by
 intro a0 a1 a2 a3 a4 a5 k
 have ih0:=impl_MulMatrix_1.mono_l k
 unfold impl_MulMatrix_1.f
 repeat' first
   | (with_reducible exact ih0 _ _ _ _ _ _ _ _ _)
   | (with_reducible exact LeO.refl _)
   | (with_reducible exact LeO.none _)
   | (with_reducible refine LeO.ite ?_ ?_)
   | (with_reducible refine LeO.bind ?_ (fun _ => ?_))
   | exact ih0 _ _ _ _ _ _ _ _ _
   | exact LeO.none _
   | refine LeO.ite ?_ ?_
   | refine LeO.bind ?_ (fun _ => ?_)
def impl_MulMatrix_1.T5 : Bool × List (List Nat × List Nat):=(true,[([],[]),([],[]),([],[]),([],[]),([1,2,3],[1,2,3]),([],[]),([],[]),([],[]),([5,6,7,4],[5,6,7]),([4,8,8],[4,8]),([0,9],[0,9]),([10,9,0,1,2,3,4,5,6,7,8,9,10],[0,10])])
def impl_MulMatrix_1.B5 : List Nat:=[0,0,0,0,14,0,0,0,254,510,1023,2047]
theorem impl_MulMatrix_1.tab5 : rtab .any (opsOf Try.f137 5) = impl_MulMatrix_1.T5:=by kernel_rfl
theorem impl_MulMatrix_1.bits5 : waitsOk impl_MulMatrix_1.T5.2 impl_MulMatrix_1.B5 = true:=by kernel_rfl
set_option maxHeartbeats 8000000 in
set_option maxRecDepth 100000 in
theorem impl_MulMatrix_1.calls (k : Nat) (a0 : Int) (a1 : Int) (g2 : Nat) (a2_0 : Int) (A2_1 : Option Addr) (c2_1 : Nat) (l2_1 : List Int) (g3 : Nat) (a3_0 : Int) (A3_1 : Option Addr) (c3_1 : Nat) (l3_1 : List Int) (r : Int) (w : World) (hr2_1 : Kd.C (Kd.int .i64) w A2_1 l2_1.length l2_1) (hc2_1 : l2_1.length ≤ c2_1) (hr3_1 : Kd.C (Kd.int .i64) w A3_1 l3_1.length l3_1) (hc3_1 : l3_1.length ≤ c3_1) (hb2 : w.heap[g2]? = some (.cells #[.int .i64 a2_0,.slice A2_1 l2_1.length c2_1] 35 (0,0))) (hb3 : w.heap[g3]? = some (.cells #[.int .i64 a3_0,.slice A3_1 l3_1.length c3_1] 35 (0,0))) (h : impl_MulMatrix_1.f k a0 a1 a2_0 l2_1 a3_0 l3_1 = some r) :
  Calls Try.prog 137 #[.int .i64 a0,.int .i64 a1,.pointer (some ⟨g2,0,none⟩),.pointer (some ⟨g3,0,none⟩)] w fun e w' => e = .returned (.int .i64 r) ∧ Below w.heap.size w w':=by
 have hu35:=Try.underlying35
 have HR2_1:=Aside0.mk hr2_1
 have HC2_1:=Aside0.mk hc2_1
 clear hr2_1 hc2_1
 have HR3_1:=Aside0.mk hr3_1
 have HC3_1:=Aside0.mk hc3_1
 clear hr3_1 hc3_1
 have BK2:=Aside0.mk hb2
 clear hb2
 have BK3:=Aside0.mk hb3
 clear hb3
 have HB:=Aside0.mk (Below.refl w.heap.size w)
 have H : (impl_MulMatrix_1.l0 k a0 a1 1000000 a2_0 0 a2_0 l2_1 a3_0 l3_1) = some r:=h
 clear h
 have H':=Aside0.mk H
 clear H
 obtain ⟨hcz5_0,hcz5_1,hfz5_0,hfz5_1⟩:=cf2_ BK2.out
 go_enter Try.func137,Try.ntmps137
 go_wp2
 go_loopg [7,11] k (fun kq v7 v11 w' => ∃ (x7_1 : Int) (x11_1 : Int),v7 = .int .i64 x7_1 ∧ v11 = .int .i64 x11_1 ∧ Aside0 (impl_MulMatrix_1.l0 kq a0 a1 x7_1 a2_0 x11_1 a2_0 l2_1 a3_0 l3_1 = some r) ∧ Aside0 (kq ≤ k) ∧ Aside0 (w'.heap[g2]? = some (.cells #[.int .i64 a2_0,(.slice A2_1 l2_1.length c2_1)] 35 (0,0))) ∧ Aside0 (w'.heap[g3]? = some (.cells #[.int .i64 a3_0,(.slice A3_1 l3_1.length c3_1)] 35 (0,0))) ∧ Aside0 (Below w.heap.size w w'))
 case atStart => exact ⟨(1000000),(0),rs_,rs_,H',⟨Nat.le_refl _⟩,⟨pe_ BK2.out⟩,⟨pe_ BK3.out⟩,⟨be0_ HB.out⟩⟩
 case round =>
  clear H'
  try clear c1
  try clear c2
  try clear p2
  try clear c3
  try clear hcz5_0
  try clear hcz5_1
  try clear hfz5_0
  try clear hfz5_1
  obtain ⟨x7_1,x11_1,rfl,rfl,HA,HK1,BK2,BK3,HB⟩:=hrel
  cases gk with
  | zero => exact absurd HA.out (by simp [impl_MulMatrix_1.l0])
  | succ k1 =>
   have H:=HA.out
   clear HA
   simp only [impl_MulMatrix_1.l0] at H
   by_cases c6 : x11_1 < a2_0
   ·rw [if_pos c6] at H
    have c6b0 : decide (x11_1 < a2_0) = true:=decide_eq_true c6
    clear c6
    replace H:=Option.bind_eq_some_iff.mp H
    obtain ⟨t381,A70,H⟩:=H
    replace H : ((impl_Matrix_at.f a3_0 l3_1 x11_1 a1).bind fun t382 => ((impl_AddCost.f t381 t382).bind fun t383 => (impl_MulMatrix_1.l0 k1 a0 a1 (mn x7_1 t383) a2_0 (wrap64 (x11_1 + 1)) a2_0 l2_1 a3_0 l3_1))) = some r:=H
    have A7:=Aside0.mk A70
    clear A70
    replace H:=Option.bind_eq_some_iff.mp H
    obtain ⟨t382,A80,H⟩:=H
    replace H : ((impl_AddCost.f t381 t382).bind fun t383 => (impl_MulMatrix_1.l0 k1 a0 a1 (mn x7_1 t383) a2_0 (wrap64 (x11_1 + 1)) a2_0 l2_1 a3_0 l3_1)) = some r:=H
    have A8:=Aside0.mk A80
    clear A80
    replace H:=Option.bind_eq_some_iff.mp H
    obtain ⟨t383,A90,H⟩:=H
    replace H : (impl_MulMatrix_1.l0 k1 a0 a1 (mn x7_1 t383) a2_0 (wrap64 (x11_1 + 1)) a2_0 l2_1 a3_0 l3_1) = some r:=H
    have A9:=Aside0.mk A90
    clear A90
    obtain ⟨ji10,hji10⟩ : ∃ j_ : Int,(mn x7_1 t383) = j_:=⟨_,rfl⟩
    replace H : (impl_MulMatrix_1.l0 k1 a0 a1 ji10 a2_0 (wrap64 (x11_1 + 1)) a2_0 l2_1 a3_0 l3_1) = some r:=by first|(rw [hji10] at H;exact H)|(simp only [hji10] at H ⊢;exact H)
    (try rw [hji10] at A7)
    (try rw [hji10] at A8)
    (try rw [hji10] at A9)
    have hji10_ : (if t383 < x7_1 then t383 else x7_1) = ji10:=hji10
    have H':=Aside0.mk H
    clear H
    try go_wp2
    replace BK2:=Aside0.mk (blk_drew BK2.out)
    replace BK3:=Aside0.mk (blk_drew BK3.out)
    replace HB:=Aside0.mk (below_drew1 HB.out)
    refine start_ (n:=12) (S:=fun w' => w'.cell? ⟨g2,0,none⟩ = some (.int .i64 a2_0) ∧ w'.cell? ⟨g2,1,none⟩ = some (.slice A2_1 l2_1.length c2_1) ∧ w'.cell? ⟨g3,0,none⟩ = some (.int .i64 a3_0) ∧ w'.cell? ⟨g3,1,none⟩ = some (.slice A3_1 l3_1.length c3_1)) (ds:=[]) #[false,false,false,false,false,false,false,false,false,false,false,false] (by kernel_rfl) rfl rfl ⟨(blk_cell BK2.out 0).trans rfl,(blk_cell BK2.out 1).trans rfl,(blk_cell BK3.out 0).trans rfl,(blk_cell BK3.out 1).trans rfl⟩ (fun hHeld => ?_);refine with_tabW impl_MulMatrix_1.tab5 impl_MulMatrix_1.bits5 (fun HT_ HW_ => ?_)
    generalize wr.drew = w11 at BK2 BK3 HB hHeld ⊢
    refine pure_ (i:=0) (N:=some 14) (v:=?_) (a':=?_) #[true,false,false,false,false,false,false,false,false,false,false,false] rfl rfl (any_of HT_.out (by kernel_rfl)) (fun _ _ _ h => h) (Or.inl ⟨by rfl,?_⟩) ?_ ?_
    rotate_left
    ·intro w'
     go_simp
     with_reducible rfl
    rotate_left
    ·simp only [Act.put,List.setIfInBounds_toArray,List.set_cons_zero,List.set_cons_succ,i64_w,i32_w]
     rfl
    refine pure_ (i:=2) (N:=some 16) (v:=?_) (a':=?_) #[true,false,true,false,false,false,false,false,false,false,false,false] rfl rfl (any_of HT_.out (by kernel_rfl)) (fun _ _ _ h => h) (Or.inl ⟨by rfl,?_⟩) ?_ ?_
    rotate_left
    ·intro w'
     go_simp
     with_reducible rfl
    rotate_left
    ·simp only [Act.put,List.setIfInBounds_toArray,List.set_cons_zero,List.set_cons_succ,i64_w,i32_w]
     rfl
    refine pure_ (i:=3) (N:=some 17) (v:=?_) (a':=?_) #[true,false,true,true,false,false,false,false,false,false,false,false] rfl rfl (any_of HT_.out (by kernel_rfl)) (fun _ _ _ h => h) (Or.inl ⟨by rfl,?_⟩) ?_ ?_
    rotate_left
    ·intro w'
     go_simp
     with_reducible rfl
    rotate_left
    ·simp only [Act.put,List.setIfInBounds_toArray,List.set_cons_zero,List.set_cons_succ,i64_w,i32_w]
     rfl
    refine pure_ (i:=6) (N:=some 20) (v:=?_) (a':=?_) #[true,false,true,true,false,false,true,false,false,false,false,false] rfl rfl (any_of HT_.out (by kernel_rfl)) (fun _ _ _ h => h) (Or.inl ⟨by rfl,?_⟩) ?_ ?_
    rotate_left
    ·intro w'
     go_simp
     with_reducible rfl
    rotate_left
    ·simp only [Act.put,List.setIfInBounds_toArray,List.set_cons_zero,List.set_cons_succ,i64_w,i32_w]
     rfl
    refine pure_ (i:=7) (N:=some 21) (v:=?_) (a':=?_) #[true,false,true,true,false,false,true,true,false,false,false,false] rfl rfl (any_of HT_.out (by kernel_rfl)) (fun _ _ _ h => h) (Or.inl ⟨by rfl,?_⟩) ?_ ?_
    rotate_left
    ·intro w'
     go_simp
     with_reducible rfl
    rotate_left
    ·simp only [Act.put,List.setIfInBounds_toArray,List.set_cons_zero,List.set_cons_succ,i64_w,i32_w]
     rfl
    refine take_ (i:=1) (N:=some 15) (v:=?_) (a':=?_) #[true,true,true,true,false,false,true,true,false,false,false,false] rfl rfl (take_ofW HT_.out HW_.out (by kernel_rfl)) (fun _ _ _ h => h) (Or.inl ⟨by rfl,?_⟩) hHeld ?_ ?_
    rotate_left
    ·rintro w' ⟨s0,s1,s2,s3⟩
     go_simp
     with_reducible rfl
    rotate_left
    ·simp only [Act.put,List.setIfInBounds_toArray,List.set_cons_zero,List.set_cons_succ,i64_w,i32_w]
     rfl
    refine take_ (i:=5) (N:=some 19) (v:=?_) (a':=?_) #[true,true,true,true,false,true,true,true,false,false,false,false] rfl rfl (take_ofW HT_.out HW_.out (by kernel_rfl)) (fun _ _ _ h => h) (Or.inl ⟨by rfl,?_⟩) hHeld ?_ ?_
    rotate_left
    ·rintro w' ⟨s0,s1,s2,s3⟩
     go_simp
     with_reducible rfl
    rotate_left
    ·simp only [Act.put,List.setIfInBounds_toArray,List.set_cons_zero,List.set_cons_succ,i64_w,i32_w]
     rfl
    refine one_ (i:=4) (N:=some 18) #[true,true,true,true,true,true,true,true,false,false,false,false] rfl rfl (one_of HT_.out (by kernel_rfl)) (by decide) (fun K hK => ?_)
    refine goes_ Try.func74 (by kernel_rfl) rfl #[.agg #[.int .i64 a2_0,.slice A2_1 l2_1.length c2_1],.int .i64 a0,.int .i64 x11_1] (by rfl) rfl rfl lp_ ?_
    with_reducible refine (impl_Matrix_at.calls a2_0 _ _ l2_1 a0 x11_1 t381 _ ?side1 ?side2 A7.out).mono ?_
    (case side1 => exact cr_ (Kd.C_below HR2_1.out HB.out))
    (case side2 => exact HC2_1.out)
    rintro e w12 ⟨rfl,hb⟩
    refine ⟨_,rfl,?_⟩
    replace BK2:=Aside0.mk (kb_ BK2.out hb)
    replace BK3:=Aside0.mk (kb_ BK3.out hb)
    replace HB:=Aside0.mk (below_step (be0_ HB.out) hb)
    (try clear hb)
    (try clear hb2)
    (try clear hk)
    (try clear hi)
    refine hK.out _ _ ⟨(blk_cell BK2.out 0).trans rfl,(blk_cell BK2.out 1).trans rfl,(blk_cell BK3.out 0).trans rfl,(blk_cell BK3.out 1).trans rfl⟩ (fun hHeld => ?_)
    clear hK K
    refine norm_ (a':=?_) ?_ ?_
    rotate_left
    ·show Act.put _ (some 18) _ = _
     simp only [Act.put,List.setIfInBounds_toArray,List.set_cons_zero,List.set_cons_succ,i64_w,i32_w]
     rfl
    refine one_ (i:=8) (N:=some 22) #[true,true,true,true,true,true,true,true,true,false,false,false] rfl rfl (one_of HT_.out (by kernel_rfl)) (by decide) (fun K hK => ?_)
    refine goes_ Try.func74 (by kernel_rfl) rfl #[.agg #[.int .i64 a3_0,.slice A3_1 l3_1.length c3_1],.int .i64 x11_1,.int .i64 a1] (by rfl) rfl rfl lp_ ?_
    with_reducible refine (impl_Matrix_at.calls a3_0 _ _ l3_1 x11_1 a1 t382 _ ?side1 ?side2 A8.out).mono ?_
    (case side1 => exact cr_ (Kd.C_below HR3_1.out HB.out))
    (case side2 => exact HC3_1.out)
    rintro e w13 ⟨rfl,hb⟩
    refine ⟨_,rfl,?_⟩
    replace BK2:=Aside0.mk (kb_ BK2.out hb)
    replace BK3:=Aside0.mk (kb_ BK3.out hb)
    replace HB:=Aside0.mk (below_step (be0_ HB.out) hb)
    (try clear hb)
    (try clear hb2)
    (try clear hk)
    (try clear hi)
    refine hK.out _ _ ⟨(blk_cell BK2.out 0).trans rfl,(blk_cell BK2.out 1).trans rfl,(blk_cell BK3.out 0).trans rfl,(blk_cell BK3.out 1).trans rfl⟩ (fun hHeld => ?_)
    clear hK K
    refine norm_ (a':=?_) ?_ ?_
    rotate_left
    ·show Act.put _ (some 22) _ = _
     simp only [Act.put,List.setIfInBounds_toArray,List.set_cons_zero,List.set_cons_succ,i64_w,i32_w]
     rfl
    refine one_ (i:=9) (N:=some 23) #[true,true,true,true,true,true,true,true,true,true,false,false] rfl rfl (one_of HT_.out (by kernel_rfl)) (by decide) (fun K hK => ?_)
    refine goes_ Try.func138 (by kernel_rfl) rfl #[.int .i64 t381,.int .i64 t382] (by rfl) rfl rfl lp_ ?_
    with_reducible refine (impl_AddCost.calls t381 t382 t383 _ A9.out).mono ?_
    rintro e w14 ⟨rfl,hb⟩
    refine ⟨_,rfl,?_⟩
    replace BK2:=Aside0.mk (kb_ BK2.out hb)
    replace BK3:=Aside0.mk (kb_ BK3.out hb)
    replace HB:=Aside0.mk (below_step (be0_ HB.out) hb)
    (try clear hb)
    (try clear hb2)
    (try clear hk)
    (try clear hi)
    refine hK.out _ _ ⟨(blk_cell BK2.out 0).trans rfl,(blk_cell BK2.out 1).trans rfl,(blk_cell BK3.out 0).trans rfl,(blk_cell BK3.out 1).trans rfl⟩ (fun hHeld => ?_)
    clear hK K
    refine norm_ (a':=?_) ?_ ?_
    rotate_left
    ·show Act.put _ (some 23) _ = _
     simp only [Act.put,List.setIfInBounds_toArray,List.set_cons_zero,List.set_cons_succ,i64_w,i32_w]
     rfl
    refine pure_ (i:=10) (N:=some 24) (v:=?_) (a':=?_) #[true,true,true,true,true,true,true,true,true,true,true,false] rfl rfl (any_of HT_.out (by kernel_rfl)) (fun _ _ _ h => h) (Or.inl ⟨by rfl,?_⟩) ?_ ?_
    rotate_left
    ·intro w'
     go_simp
     with_reducible rfl
    rotate_left
    ·simp only [Act.put,List.setIfInBounds_toArray,List.set_cons_zero,List.set_cons_succ,i64_w,i32_w]
     rfl
    refine pure_ (i:=11) (N:=some 7) (v:=?_) (a':=?_) #[true,true,true,true,true,true,true,true,true,true,true,true] rfl rfl (any_of HT_.out (by kernel_rfl)) (fun _ _ _ h => h) (Or.inl ⟨by rfl,?_⟩) ?_ ?_
    rotate_left
    ·intro w'
     go_simp
     with_reducible rfl
    rotate_left
    ·simp only [Act.put,List.setIfInBounds_toArray,List.set_cons_zero,List.set_cons_succ,i64_w,i32_w]
     rfl
    refine done_ (done_of HT_.out (by kernel_rfl)) ?_
    try go_wp2
    go_roundg k1
    case measure => have:=HK1.out;omega
    case rel => exact ⟨(ji10),(wrap64 (x11_1 + 1)),(by first|rfl|(simp;done)|(simp only [← hji10] <;> (first|rfl|simp))|(simp [*];done)),rs_,H',⟨by have:=HK1.out;omega⟩,⟨pe_ BK2.out⟩,⟨pe_ BK3.out⟩,⟨be0_ HB.out⟩⟩
   ·rw [if_neg c6] at H
    have c6b0 : decide (x11_1 < a2_0) = false:=decide_eq_false c6
    clear c6
    obtain rfl:=Option.some.inj H
    go_wp2
    go_ret
    exact ⟨er_,be0_ HB.out⟩
def impl_filled__impl_MulMatrix_1.f (k : Nat) (a0 : Int) (a1_0 : Int) (l1_1 : List Int) (a2_0 : Int) (l2_1 : List Int) : Option (Int × List Int):=impl_filled.f (fun y0 y1 => impl_MulMatrix_1.f k  y0 y1 a1_0 l1_1 a2_0 l2_1) k a0
theorem impl_filled__impl_MulMatrix_1.mono : ∀ b0 b1 b2 b3 b4 k,LeO (impl_filled__impl_MulMatrix_1.f k b0 b1 b2 b3 b4) (impl_filled__impl_MulMatrix_1.f (k + 1) b0 b1 b2 b3 b4):=by
 intro b0 b1 b2 b3 b4 k
 exact impl_filled.monoP (fun _ _ => impl_MulMatrix_1.mono _ _ _ _ _ _ _) _ k
set_option maxHeartbeats 2000000 in
theorem impl_filled__impl_MulMatrix_1.calls (k : Nat) (a0 : Int) (g1 : Nat) (a1_0 : Int) (A1_1 : Option Addr) (c1_1 : Nat) (l1_1 : List Int) (g2 : Nat) (a2_0 : Int) (A2_1 : Option Addr) (c2_1 : Nat) (l2_1 : List Int) (r1 : Int) (r2 : List Int) (w : World) (hr1_1 : Kd.C (Kd.int .i64) w A1_1 l1_1.length l1_1) (hc1_1 : l1_1.length ≤ c1_1) (hr2_1 : Kd.C (Kd.int .i64) w A2_1 l2_1.length l2_1) (hc2_1 : l2_1.length ≤ c2_1) (hb1 : w.heap[g1]? = some (.cells #[.int .i64 a1_0,.slice A1_1 l1_1.length c1_1] 35 (0,0))) (hb2 : w.heap[g2]? = some (.cells #[.int .i64 a2_0,.slice A2_1 l2_1.length c2_1] 35 (0,0))) (h : impl_filled__impl_MulMatrix_1.f k a0 a1_0 l1_1 a2_0 l2_1 = some (r1,r2)) :
  Calls Try.prog 112 #[.int .i64 a0,.func (.func 137) #[] #[.pointer (some ⟨g1,0,none⟩),.pointer (some ⟨g2,0,none⟩)]] w fun e w' => ∃ v1_ : Value,e = .returned (.agg #[.int .i64 r1,v1_]) ∧ Kd.R (Kd.int .i64) 3 w' w.heap.size (fun _ => True) v1_ r2 ∧ Below w.heap.size w w':=by
 refine impl_filled.calls k a0 137 #[] #[.pointer (some ⟨g1,0,none⟩),.pointer (some ⟨g2,0,none⟩)] (fun y0 y1 => impl_MulMatrix_1.f k  y0 y1 a1_0 l1_1 a2_0 l2_1) r1 r2 w  ⟨_,Try.func137,rfl,rfl⟩ ?_ h
 intro ay0 ay1 z0 W_ hB_  h_
 refine calls_of_args (args':=#[.int .i64 ay0,.int .i64 ay1,.pointer (some ⟨g1,0,none⟩),.pointer (some ⟨g2,0,none⟩)]) (by simp) ?_
 refine (impl_MulMatrix_1.calls k ay0 ay1 g1 a1_0 A1_1 c1_1 l1_1 g2 a2_0 A2_1 c2_1 l2_1 z0 W_ (Kd.C_below hr1_1 hB_) hc1_1 (Kd.C_below hr2_1 hB_) hc2_1 (blk_below hb1 hB_) (blk_below hb2 hB_) h_).mono ?_
 exact fun e w' h => h
def impl_MulMatrix.f (k : Nat) (a0_0 : Int) (l0_1 : List Int) (a1_0 : Int) (l1_1 : List Int) : Option (Int × List Int × Bool):=(impl_alike.f k a0_0 l0_1 a1_0 l1_1).bind fun t387 => (if t387 = true then ((impl_filled__impl_MulMatrix_1.f k a0_0 a0_0 l0_1 a1_0 l1_1).bind fun bt388 => (some (bt388.1,bt388.2,true))) else (some (0,([] : List Int),false)))
theorem impl_MulMatrix.mono : ∀ a0 a1 a2 a3 k,LeO (impl_MulMatrix.f k a0 a1 a2 a3) (impl_MulMatrix.f (k + 1) a0 a1 a2 a3):=by
 intro a0 a1 a2 a3 k
 unfold impl_MulMatrix.f
 repeat' first
   | (with_reducible exact impl_alike.mono _ _ _ _ _)
   | (with_reducible exact impl_filled__impl_MulMatrix_1.mono _ _ _ _ _ _)
   | (with_reducible exact LeO.refl _)
   | (with_reducible exact LeO.none _)
   | (with_reducible refine LeO.ite ?_ ?_)
   | (with_reducible refine LeO.bind ?_ (fun _ => ?_))
   | exact impl_alike.mono _ _ _ _ _
   | exact impl_filled__impl_MulMatrix_1.mono _ _ _ _ _ _
   | exact LeO.none _
   | refine LeO.ite ?_ ?_
   | refine LeO.bind ?_ (fun _ => ?_)
set_option maxHeartbeats 8000000 in
set_option maxRecDepth 100000 in
theorem impl_MulMatrix.calls (k : Nat) (a0_0 : Int) (A0_1 : Option Addr) (c0_1 : Nat) (l0_1 : List Int) (a1_0 : Int) (A1_1 : Option Addr) (c1_1 : Nat) (l1_1 : List Int) (r1 : Int) (r2 : List Int) (r3 : Bool) (w : World) (hr0_1 : Kd.C (Kd.int .i64) w A0_1 l0_1.length l0_1) (hc0_1 : l0_1.length ≤ c0_1) (hr1_1 : Kd.C (Kd.int .i64) w A1_1 l1_1.length l1_1) (hc1_1 : l1_1.length ≤ c1_1) (h : impl_MulMatrix.f k a0_0 l0_1 a1_0 l1_1 = some (r1,r2,r3)) :
  Calls Try.prog 81 #[.agg #[.int .i64 a0_0,.slice A0_1 l0_1.length c0_1],.agg #[.int .i64 a1_0,.slice A1_1 l1_1.length c1_1]] w fun e w' => ∃ v1_ : Value,e = .returned (.tuple #[.agg #[.int .i64 r1,v1_],.bool r3]) ∧ Kd.R (Kd.int .i64) 3 w' w.heap.size (fun _ => True) v1_ r2 ∧ Below w.heap.size w w':=by
 have hu35:=Try.underlying35
 have HR0_1:=Aside0.mk hr0_1
 have HC0_1:=Aside0.mk hc0_1
 clear hr0_1 hc0_1
 have HR1_1:=Aside0.mk hr1_1
 have HC1_1:=Aside0.mk hc1_1
 clear hr1_1 hc1_1
 have HB:=Aside0.mk (Below.refl w.heap.size w)
 have H : ((impl_alike.f k a0_0 l0_1 a1_0 l1_1).bind fun t387 => (if t387 = true then ((impl_filled__impl_MulMatrix_1.f k a0_0 a0_0 l0_1 a1_0 l1_1).bind fun bt388 => (some (bt388.1,bt388.2,true))) else (some (0,([] : List Int),false)))) = some (r1,r2,r3):=h
 clear h
 replace H:=Option.bind_eq_some_iff.mp H
 obtain ⟨t387,A30,H⟩:=H
 replace H : (if t387 = true then ((impl_filled__impl_MulMatrix_1.f k a0_0 a0_0 l0_1 a1_0 l1_1).bind fun bt388 => (some (bt388.1,bt388.2,true))) else (some (0,([] : List Int),false))) = some (r1,r2,r3):=H
 have A3:=Aside0.mk A30
 clear A30
 by_cases c4 : t387 = true
 ·subst c4
  have H1 : ((impl_filled__impl_MulMatrix_1.f k a0_0 a0_0 l0_1 a1_0 l1_1).bind fun bt388 => (some (bt388.1,bt388.2,true))) = some (r1,r2,r3):=by rw [if_pos rfl] at H;exact H
  clear H
  have H:=H1
  clear H1
  replace H:=Option.bind_eq_some_iff.mp H
  obtain ⟨⟨t388,t389⟩,A50,H⟩:=H
  replace H : (some (t388,t389,true)) = some (r1,r2,r3):=H
  have A5:=Aside0.mk A50
  clear A50
  simp only [Option.some.injEq,Prod.mk.injEq] at H
  obtain ⟨rfl,rfl,rfl⟩:=H
  go_enter Try.func81,Try.ntmps81
  go_wp2_with (first|((with_reducible refine bev_ (N:=2) rfl rfl (cs:=#[.int .i64 a0_0,.slice A0_1 l0_1.length c0_1]) (t:=35) ?hr ?_);(case hr => first|(go_simp;done)|(go_simp;rfl));intro gb384 hg w6 hbox hb;have BK384:=Aside0.mk (hbox);have GW384:=Aside0.mk (szg_ hg (below_size (be0_ HB.out)));have GE384:=Aside0.mk (szg_ hg (below_size (be0_ HB.out)));replace HB:=Aside0.mk (below_step (be0_ HB.out) hb);clear hb hbox hg)|((with_reducible refine bev_ (N:=3) rfl rfl (cs:=#[.int .i64 a1_0,.slice A1_1 l1_1.length c1_1]) (t:=35) ?hr ?_);(case hr => first|(go_simp;done)|(go_simp;rfl));intro gb385 hg w7 hbox hb;have BK385:=Aside0.mk (hbox);have GW385:=Aside0.mk (szg_ hg (below_size (be1_ HB.out GE384.out)));have GE385:=Aside0.mk (szg_ hg (below_size (be1_ HB.out GE384.out)));replace HB:=Aside0.mk (below_step (be1_ HB.out GE384.out) hb);have NB384_385:=Aside0.mk (nl_ hg BK384.out);have NB385_384:=Aside0.mk (ng_ hg BK384.out);replace BK384:=Aside0.mk (kb_ BK384.out hb);clear hb hbox hg)|((with_reducible refine bev_ (N:=4) rfl rfl (cs:=#[.int .i64 0,.slice none 0 0]) (t:=35) ?hr ?_);(case hr => first|(go_simp;done)|(go_simp;rfl));intro gb386 hg w8 hbox hb;have BK386:=Aside0.mk (hbox);have GW386:=Aside0.mk (szg_ hg (below_size (be2_ HB.out GE384.out GE385.out)));have GE386:=Aside0.mk (szg_ hg (below_size (be2_ HB.out GE384.out GE385.out)));replace HB:=Aside0.mk (below_step (be2_ HB.out GE384.out GE385.out) hb);have NB384_386:=Aside0.mk (nl_ hg BK384.out);have NB386_384:=Aside0.mk (ng_ hg BK384.out);replace BK384:=Aside0.mk (kb_ BK384.out hb);have NB385_386:=Aside0.mk (nl_ hg BK385.out);have NB386_385:=Aside0.mk (ng_ hg BK385.out);replace BK385:=Aside0.mk (kb_ BK385.out hb);clear hb hbox hg;have hnb9:=NB384_385.out;have hnc9:=NB385_384.out;have hnb10:=NB384_386.out;have hnc10:=NB386_384.out;obtain ⟨hcz11_0,hcz11_1,hfz11_0,hfz11_1⟩:=cf2_ BK384.out;have hnb12:=NB385_386.out;have hnc12:=NB386_385.out;obtain ⟨hcz13_0,hcz13_1,hfz13_0,hfz13_1⟩:=cf2_ BK385.out)|((with_reducible refine gate_callee (f:=136) rfl ?_);refine goesL_ (some 8) rfl rfl Try.func136 (by kernel_rfl) rfl #[.agg #[.int .i64 a0_0,.slice A0_1 l0_1.length c0_1],.agg #[.int .i64 a1_0,.slice A1_1 l1_1.length c1_1]] rfl lp_ ?_;(with_reducible refine (impl_alike.calls k a0_0 _ _ l0_1 a1_0 _ _ l1_1 true _ ?side1 ?side2 ?side3 ?side4 A3.out).mono ?_);(case side1 => exact cr_ (Kd.C_below HR0_1.out HB.out));(case side2 => exact HC0_1.out);(case side3 => exact cr_ (Kd.C_below HR1_1.out HB.out));(case side4 => exact HC1_1.out);rintro e w14 ⟨rfl,hb⟩;refine ⟨_,rfl,?_⟩;replace BK384:=Aside0.mk (kb_ BK384.out hb);replace BK385:=Aside0.mk (kb_ BK385.out hb);replace BK386:=Aside0.mk (kb_ BK386.out hb);replace HB:=Aside0.mk (below_step (be3_ HB.out GE384.out GE385.out GE386.out) hb);(try clear hb);(try clear hb2);(try clear hk);(try clear hi);obtain ⟨hcz15_0,hcz15_1,hfz15_0,hfz15_1⟩:=cf2_ BK384.out)|((with_reducible refine gate_callee (f:=112) rfl ?_);refine goesL_ (some 14) rfl rfl Try.func112 (by kernel_rfl) rfl #[.int .i64 a0_0,.func (.func 137) #[] #[.pointer (some ⟨gb384,0,none⟩),.pointer (some ⟨gb385,0,none⟩)]] rfl lp_ ?_;(with_reducible refine (impl_filled__impl_MulMatrix_1.calls k a0_0 gb384 a0_0 A0_1 c0_1 l0_1 gb385 a1_0 A1_1 c1_1 l1_1 t388 t389 _ ?side1 ?side2 ?side3 ?side4 ?side5 ?side6 A5.out).mono ?_);(case side1 => exact cr_ (Kd.C_below HR0_1.out HB.out));(case side2 => exact HC0_1.out);(case side3 => exact cr_ (Kd.C_below HR1_1.out HB.out));(case side4 => exact HC1_1.out);(case side5 => refine pe_ ?_;exact BK384.out);(case side6 => refine pe_ ?_;exact BK385.out);rintro e w16 ⟨v390,rfl,ho0,hb⟩;refine ⟨_,rfl,?_⟩;have HO391:=Aside0.mk (Kd.R_lower ho0 (below_size (be3_ HB.out GE384.out GE385.out GE386.out)));replace BK384:=Aside0.mk (kb_ BK384.out hb);replace BK385:=Aside0.mk (kb_ BK385.out hb);replace BK386:=Aside0.mk (kb_ BK386.out hb);replace HB:=Aside0.mk (below_step (be3_ HB.out GE384.out GE385.out GE386.out) hb);(try clear hb);(try clear hb2);(try clear hk);(try clear hi);(try clear ho0);obtain ⟨hcz17_0,hcz17_1,hfz17_0,hfz17_1⟩:=cf2_ BK386.out;obtain ⟨Ao18,co18,eo18⟩:=Kd.R_slice HO391.out;subst eo18))
  refine bodyPost_ret (results_ct rfl _ _ gb386 35 #[.int .i64 t388,.slice Ao18 t389.length co18] (0,0) _ rfl (by refine pe_ ?_;refine blk_put (cs:=#[.int .i64 t388,.slice none 0 0]) ?_ 1 _ rfl;refine pe_ ?_;refine blk_put (cs:=#[.int .i64 0,.slice none 0 0]) ?_ 0 _ rfl;refine pe_ ?_;exact BK386.out) Try.underlying35 rfl (by kernel_rfl)) rfl ?_
  exact ⟨_,er_,by refine pr_ ?_;exact Kd.R_mono (Kd.R_far (p:=⟨gb386,1,none⟩) (Kd.R_far (p:=⟨gb386,0,none⟩) (Kd.R_types HO391.out BK386.out (by decide)) (fun _ hk => hk.2) (.int .i64 t388)) (fun _ hk => hk.2) (.slice Ao18 t389.length co18)) (fun _ hk => trivial),be3_ HB.out GE384.out GE385.out GE386.out⟩
 ·replace c4:=Bool.eq_false_iff.mpr c4
  subst c4
  have H1 : (some (0,([] : List Int),false)) = some (r1,r2,r3):=by rw [if_neg (show ¬ (false = true) by decide)] at H;exact H
  clear H
  have H:=H1
  clear H1
  simp only [Option.some.injEq,Prod.mk.injEq] at H
  obtain ⟨rfl,rfl,rfl⟩:=H
  go_enter Try.func81,Try.ntmps81
  go_wp2_with (first|((with_reducible refine bev_ (N:=2) rfl rfl (cs:=#[.int .i64 a0_0,.slice A0_1 l0_1.length c0_1]) (t:=35) ?hr ?_);(case hr => first|(go_simp;done)|(go_simp;rfl));intro gb384 hg w19 hbox hb;have BK384:=Aside0.mk (hbox);have GW384:=Aside0.mk (szg_ hg (below_size (be0_ HB.out)));have GE384:=Aside0.mk (szg_ hg (below_size (be0_ HB.out)));replace HB:=Aside0.mk (below_step (be0_ HB.out) hb);clear hb hbox hg)|((with_reducible refine bev_ (N:=3) rfl rfl (cs:=#[.int .i64 a1_0,.slice A1_1 l1_1.length c1_1]) (t:=35) ?hr ?_);(case hr => first|(go_simp;done)|(go_simp;rfl));intro gb385 hg w20 hbox hb;have BK385:=Aside0.mk (hbox);have GW385:=Aside0.mk (szg_ hg (below_size (be1_ HB.out GE384.out)));have GE385:=Aside0.mk (szg_ hg (below_size (be1_ HB.out GE384.out)));replace HB:=Aside0.mk (below_step (be1_ HB.out GE384.out) hb);have NB384_385:=Aside0.mk (nl_ hg BK384.out);have NB385_384:=Aside0.mk (ng_ hg BK384.out);replace BK384:=Aside0.mk (kb_ BK384.out hb);clear hb hbox hg)|((with_reducible refine bev_ (N:=4) rfl rfl (cs:=#[.int .i64 0,.slice none 0 0]) (t:=35) ?hr ?_);(case hr => first|(go_simp;done)|(go_simp;rfl));intro gb386 hg w21 hbox hb;have BK386:=Aside0.mk (hbox);have GW386:=Aside0.mk (szg_ hg (below_size (be2_ HB.out GE384.out GE385.out)));have GE386:=Aside0.mk (szg_ hg (below_size (be2_ HB.out GE384.out GE385.out)));replace HB:=Aside0.mk (below_step (be2_ HB.out GE384.out GE385.out) hb);have NB384_386:=Aside0.mk (nl_ hg BK384.out);have NB386_384:=Aside0.mk (ng_ hg BK384.out);replace BK384:=Aside0.mk (kb_ BK384.out hb);have NB385_386:=Aside0.mk (nl_ hg BK385.out);have NB386_385:=Aside0.mk (ng_ hg BK385.out);replace BK385:=Aside0.mk (kb_ BK385.out hb);clear hb hbox hg;have hnb22:=NB384_385.out;have hnc22:=NB385_384.out;have hnb23:=NB384_386.out;have hnc23:=NB386_384.out;obtain ⟨hcz24_0,hcz24_1,hfz24_0,hfz24_1⟩:=cf2_ BK384.out;have hnb25:=NB385_386.out;have hnc25:=NB386_385.out;obtain ⟨hcz26_0,hcz26_1,hfz26_0,hfz26_1⟩:=cf2_ BK385.out)|((with_reducible refine gate_callee (f:=136) rfl ?_);refine goesL_ (some 8) rfl rfl Try.func136 (by kernel_rfl) rfl #[.agg #[.int .i64 a0_0,.slice A0_1 l0_1.length c0_1],.agg #[.int .i64 a1_0,.slice A1_1 l1_1.length c1_1]] rfl lp_ ?_;(with_reducible refine (impl_alike.calls k a0_0 _ _ l0_1 a1_0 _ _ l1_1 false _ ?side1 ?side2 ?side3 ?side4 A3.out).mono ?_);(case side1 => exact cr_ (Kd.C_below HR0_1.out HB.out));(case side2 => exact HC0_1.out);(case side3 => exact cr_ (Kd.C_below HR1_1.out HB.out));(case side4 => exact HC1_1.out);rintro e w27 ⟨rfl,hb⟩;refine ⟨_,rfl,?_⟩;replace BK384:=Aside0.mk (kb_ BK384.out hb);replace BK385:=Aside0.mk (kb_ BK385.out hb);replace BK386:=Aside0.mk (kb_ BK386.out hb);replace HB:=Aside0.mk (below_step (be3_ HB.out GE384.out GE385.out GE386.out) hb);(try clear hb);(try clear hb2);(try clear hk);(try clear hi);obtain ⟨hcz28_0,hcz28_1,hfz28_0,hfz28_1⟩:=cf2_ BK386.out))
  refine bodyPost_ret (results_ct rfl _ _ gb386 35 #[.int .i64 0,.slice none 0 0] (0,0) _ rfl (by refine pe_ ?_;refine blk_put (cs:=#[.int .i64 0,.slice none 0 0]) ?_ 1 _ rfl;refine pe_ ?_;refine blk_put (cs:=#[.int .i64 0,.slice none 0 0]) ?_ 0 _ rfl;refine pe_ ?_;exact BK386.out) Try.underlying35 rfl (by kernel_rfl)) rfl ?_
  exact ⟨_,er_,by first|exact Kd.R_nil _ _ _ _ _|exact Kd.N_nil _ _ _ _ _|exact Kd.V_nil _ _ _ _ _|exact Kd.Q_nil _ _ _ _ _|exact Kd.S_nil _ _ _ _ _,be3_ HB.out GE384.out GE385.out GE386.out⟩
def impl_StepMatrix_1.f (a0 : Int) (a1 : Int) : Option (Int):=some 1000000
set_option maxHeartbeats 8000000 in
set_option maxRecDepth 100000 in
theorem impl_StepMatrix_1.calls (a0 : Int) (a1 : Int) (r : Int) (w : World) (h : impl_StepMatrix_1.f a0 a1 = some r) :
  Calls Try.prog 135 #[.int .i64 a0,.int .i64 a1] w fun e w' => e = .returned (.int .i64 r) ∧ Drawn0 w w':=by
 have H : (some 1000000) = some r:=h
 clear h
 obtain rfl:=Option.some.inj H
 go_enter Try.func135,Try.ntmps135
 go_wp2
 go_ret
 exact ⟨by first|rfl|(simp;done)|(simp [*];done),by repeat (first|exact Drawn0.refl _|apply Drawn0.step)⟩
def impl_filled__impl_StepMatrix_1.f (k : Nat) (a0 : Int) : Option (Int × List Int):=impl_filled.f (fun y0 y1 => impl_StepMatrix_1.f  y0 y1 ) k a0
theorem impl_filled__impl_StepMatrix_1.mono : ∀ b0 k,LeO (impl_filled__impl_StepMatrix_1.f k b0) (impl_filled__impl_StepMatrix_1.f (k + 1) b0):=by
 intro b0 k
 exact impl_filled.monoP (fun _ _ => LeO.refl _) _ k
set_option maxHeartbeats 2000000 in
theorem impl_filled__impl_StepMatrix_1.calls (k : Nat) (a0 : Int) (r1 : Int) (r2 : List Int) (w : World) (h : impl_filled__impl_StepMatrix_1.f k a0 = some (r1,r2)) :
  Calls Try.prog 112 #[.int .i64 a0,.func (.func 135) #[] #[]] w fun e w' => ∃ v1_ : Value,e = .returned (.agg #[.int .i64 r1,v1_]) ∧ Kd.R (Kd.int .i64) 3 w' w.heap.size (fun _ => True) v1_ r2 ∧ Below w.heap.size w w':=by
 refine impl_filled.calls k a0 135 #[] #[] (fun y0 y1 => impl_StepMatrix_1.f  y0 y1 ) r1 r2 w  ⟨_,Try.func135,rfl,rfl⟩ ?_ h
 intro ay0 ay1 z0 W_ hB_  h_
 refine calls_of_args (args':=#[.int .i64 ay0,.int .i64 ay1]) (by simp) ?_
 refine (impl_StepMatrix_1.calls ay0 ay1 z0 W_  h_).mono ?_
 rintro e w' ⟨rfl,hd⟩
 exact ⟨rfl,hd.below⟩
mutual
def impl_StepMatrix.j0 : Nat → ByteArray → Bool → Int → List Int → List Int → List (S92) → Option (Int × List Int × Bool)
 | 0,_,_,_,_,_,_ => none
 | k + 1,x1,x19,x365000,x365001,x365002,x365003 => if x19 = true then (some (0,([] : List Int),false)) else ((impl_filled__impl_StepMatrix_1.f k x365000).bind fun bt367 => (impl_StepMatrix.l0 k x1 x365003 (x365003.length : Int) 0 bt367.1 bt367.2))
def impl_StepMatrix.l0 : Nat → ByteArray → List (S92) → Int → Int → Int → List Int → Option (Int × List Int × Bool)
 | 0,_,_,_,_,_,_ => none
 | k + 1,x1,x25,x26,x27,x372000,x372001 => if x27 < x26 then (if 0 ≤ x27 then (if x27 < (x25.length : Int) then (if ((rd_T92 x25 x27).f1).toList = x1.toList then (if 0 ≤ (wrap64 ((wrap64 (((rd_T92 x25 x27).f0) * x372000)) + ((rd_T92 x25 x27).f2))) then (if (wrap64 ((wrap64 (((rd_T92 x25 x27).f0) * x372000)) + ((rd_T92 x25 x27).f2))) < (x372001.length : Int) then (impl_StepMatrix.l0 k x1 x25 x26 (wrap64 (x27 + 1)) x372000 (x372001.set ((wrap64 ((wrap64 (((rd_T92 x25 x27).f0) * x372000)) + ((rd_T92 x25 x27).f2))) : Int).toNat ((rd_T92 x25 x27).f3))) else (none)) else (none)) else (impl_StepMatrix.l0 k x1 x25 x26 (wrap64 (x27 + 1)) x372000 x372001)) else (none)) else (none)) else (some (x372000,x372001,true))
end
def impl_StepMatrix.f (k : Nat) (a0_0 : Int) (l0_1 : List Int) (l0_2 : List Int) (l0_3 : List (S92)) (a1 : ByteArray) : Option (Int × List Int × Bool):=(impl_AutomatonValid.f k a0_0 l0_1 l0_2 l0_3).bind fun t366 => (if t366 = true then (if a1.toList = ([97] : List UInt8) then (impl_StepMatrix.j0 k a1 false a0_0 l0_1 l0_2 l0_3) else (impl_StepMatrix.j0 k a1 (a1.toList != ([98] : List UInt8)) a0_0 l0_1 l0_2 l0_3)) else (impl_StepMatrix.j0 k a1 true a0_0 l0_1 l0_2 l0_3))
theorem impl_StepMatrix.mono_l : ∀ k,(∀ y0 y1 y2 y3 y4 y5,LeO (impl_StepMatrix.j0 k y0 y1 y2 y3 y4 y5) (impl_StepMatrix.j0 (k + 1) y0 y1 y2 y3 y4 y5)) ∧ (∀ y0 y1 y2 y3 y4 y5,LeO (impl_StepMatrix.l0 k y0 y1 y2 y3 y4 y5) (impl_StepMatrix.l0 (k + 1) y0 y1 y2 y3 y4 y5))
 | 0 => ⟨fun _ _ _ _ _ _ r h => by simp [impl_StepMatrix.j0] at h,fun _ _ _ _ _ _ r h => by simp [impl_StepMatrix.l0] at h⟩
 | k + 1 => by
  obtain ⟨ih0,ih1⟩:=impl_StepMatrix.mono_l k
  refine ⟨?_,?_⟩
  ·intro y0 y1 y2 y3 y4 y5
   unfold impl_StepMatrix.j0
   repeat' first
   | (with_reducible exact ih0 _ _ _ _ _ _)
   | (with_reducible exact ih1 _ _ _ _ _ _)
   | (with_reducible exact impl_AutomatonValid.mono _ _ _ _ _)
   | (with_reducible exact impl_filled__impl_StepMatrix_1.mono _ _)
   | (with_reducible exact LeO.refl _)
   | (with_reducible exact LeO.none _)
   | (with_reducible refine LeO.ite ?_ ?_)
   | (with_reducible refine LeO.bind ?_ (fun _ => ?_))
   | exact ih0 _ _ _ _ _ _
   | exact ih1 _ _ _ _ _ _
   | exact impl_AutomatonValid.mono _ _ _ _ _
   | exact impl_filled__impl_StepMatrix_1.mono _ _
   | exact LeO.none _
   | refine LeO.ite ?_ ?_
   | refine LeO.bind ?_ (fun _ => ?_)
  ·intro y0 y1 y2 y3 y4 y5
   unfold impl_StepMatrix.l0
   repeat' first
   | (with_reducible exact ih0 _ _ _ _ _ _)
   | (with_reducible exact ih1 _ _ _ _ _ _)
   | (with_reducible exact impl_AutomatonValid.mono _ _ _ _ _)
   | (with_reducible exact impl_filled__impl_StepMatrix_1.mono _ _)
   | (with_reducible exact LeO.refl _)
   | (with_reducible exact LeO.none _)
   | (with_reducible refine LeO.ite ?_ ?_)
   | (with_reducible refine LeO.bind ?_ (fun _ => ?_))
   | exact ih0 _ _ _ _ _ _
   | exact ih1 _ _ _ _ _ _
   | exact impl_AutomatonValid.mono _ _ _ _ _
   | exact impl_filled__impl_StepMatrix_1.mono _ _
   | exact LeO.none _
   | refine LeO.ite ?_ ?_
   | refine LeO.bind ?_ (fun _ => ?_)
theorem impl_StepMatrix.mono : ∀ a0 a1 a2 a3 a4 k,LeO (impl_StepMatrix.f k a0 a1 a2 a3 a4) (impl_StepMatrix.f (k + 1) a0 a1 a2 a3 a4):=by
 intro a0 a1 a2 a3 a4 k
 obtain ⟨ih0,ih1⟩:=impl_StepMatrix.mono_l k
 unfold impl_StepMatrix.f
 repeat' first
   | (with_reducible exact ih0 _ _ _ _ _ _)
   | (with_reducible exact ih1 _ _ _ _ _ _)
   | (with_reducible exact impl_AutomatonValid.mono _ _ _ _ _)
   | (with_reducible exact impl_filled__impl_StepMatrix_1.mono _ _)
   | (with_reducible exact LeO.refl _)
   | (with_reducible exact LeO.none _)
   | (with_reducible refine LeO.ite ?_ ?_)
   | (with_reducible refine LeO.bind ?_ (fun _ => ?_))
   | exact ih0 _ _ _ _ _ _
   | exact ih1 _ _ _ _ _ _
   | exact impl_AutomatonValid.mono _ _ _ _ _
   | exact impl_filled__impl_StepMatrix_1.mono _ _
   | exact LeO.none _
   | refine LeO.ite ?_ ?_
   | refine LeO.bind ?_ (fun _ => ?_)
set_option maxHeartbeats 8000000 in
set_option maxRecDepth 100000 in
theorem impl_StepMatrix.calls (k : Nat) (a0_0 : Int) (A0_1 : Option Addr) (c0_1 : Nat) (l0_1 : List Int) (A0_2 : Option Addr) (c0_2 : Nat) (l0_2 : List Int) (A0_3 : Option Addr) (c0_3 : Nat) (l0_3 : List (S92)) (a1 : ByteArray) (r1 : Int) (r2 : List Int) (r3 : Bool) (w : World) (hr0_1 : Kd.C (Kd.int .i64) w A0_1 l0_1.length l0_1) (hc0_1 : l0_1.length ≤ c0_1) (hr0_2 : Kd.C (Kd.int .i64) w A0_2 l0_2.length l0_2) (hc0_2 : l0_2.length ≤ c0_2) (hr0_3 : Kd.C k92 w A0_3 l0_3.length l0_3) (hc0_3 : l0_3.length ≤ c0_3) (h : impl_StepMatrix.f k a0_0 l0_1 l0_2 l0_3 a1 = some (r1,r2,r3)) :
  Calls Try.prog 80 #[.agg #[.int .i64 a0_0,.slice A0_1 l0_1.length c0_1,.slice A0_2 l0_2.length c0_2,.slice A0_3 l0_3.length c0_3],.string a1] w fun e w' => ∃ v1_ : Value,e = .returned (.tuple #[.agg #[.int .i64 r1,v1_],.bool r3]) ∧ Kd.R (Kd.int .i64) 3 w' w.heap.size (fun _ => True) v1_ r2 ∧ Below w.heap.size w w':=by
 have hu33:=Try.underlying33
 have hu35:=Try.underlying35
 have hu92:=Try.underlying92
 have HR0_1:=Aside0.mk hr0_1
 have HC0_1:=Aside0.mk hc0_1
 clear hr0_1 hc0_1
 have HR0_2:=Aside0.mk hr0_2
 have HC0_2:=Aside0.mk hc0_2
 clear hr0_2 hc0_2
 have HR0_3:=Aside0.mk hr0_3
 have HC0_3:=Aside0.mk hc0_3
 clear hr0_3 hc0_3
 have HB:=Aside0.mk (Below.refl w.heap.size w)
 have H : ((impl_AutomatonValid.f k a0_0 l0_1 l0_2 l0_3).bind fun t366 => (if t366 = true then (if a1.toList = ([97] : List UInt8) then (impl_StepMatrix.j0 k a1 false a0_0 l0_1 l0_2 l0_3) else (impl_StepMatrix.j0 k a1 (a1.toList != ([98] : List UInt8)) a0_0 l0_1 l0_2 l0_3)) else (impl_StepMatrix.j0 k a1 true a0_0 l0_1 l0_2 l0_3))) = some (r1,r2,r3):=h
 clear h
 have HC3:=Aside0.mk H
 clear H
 go_enter Try.func80,Try.ntmps80
 go_upto_region 1 with (first|((with_reducible refine bev_ (N:=2) rfl rfl (cs:=#[.int .i64 a0_0,.slice A0_1 l0_1.length c0_1,.slice A0_2 l0_2.length c0_2,.slice A0_3 l0_3.length c0_3]) (t:=33) ?hr ?_);(case hr => first|(go_simp;done)|(go_simp;rfl));intro gb364 hg w4 hbox hb;have BK364:=Aside0.mk (hbox);have GW364:=Aside0.mk (szg_ hg (below_size (be0_ HB.out)));have GE364:=Aside0.mk (szg_ hg (below_size (be0_ HB.out)));replace HB:=Aside0.mk (below_step (be0_ HB.out) hb);clear hb hbox hg)|((with_reducible refine bev_ (N:=4) rfl rfl (cs:=#[.int .i64 0,.slice none 0 0]) (t:=35) ?hr ?_);(case hr => first|(go_simp;done)|(go_simp;rfl));intro gb365 hg w5 hbox hb;have BK365:=Aside0.mk (hbox);have GW365:=Aside0.mk (szg_ hg (below_size (be1_ HB.out GE364.out)));have GE365:=Aside0.mk (szg_ hg (below_size (be1_ HB.out GE364.out)));replace HB:=Aside0.mk (below_step (be1_ HB.out GE364.out) hb);have NB364_365:=Aside0.mk (nl_ hg BK364.out);have NB365_364:=Aside0.mk (ng_ hg BK364.out);replace BK364:=Aside0.mk (kb_ BK364.out hb);clear hb hbox hg))
 (try simp only [Act.put,List.setIfInBounds_toArray,List.set_cons_zero,List.set_cons_succ])
 go_cut [19] (fun v19 wc => ∃ (kq : Nat) (x19_2 : Bool),v19 = .bool x19_2 ∧ Aside0 (impl_StepMatrix.j0 kq a1 x19_2 a0_0 l0_1 l0_2 l0_3 = some (r1,r2,r3)) ∧ Aside0 (kq ≤ k) ∧ Aside0 (wc.heap[gb364]? = some (.cells #[.int .i64 a0_0,(.slice A0_1 l0_1.length c0_1),(.slice A0_2 l0_2.length c0_2),(.slice A0_3 l0_3.length c0_3)] 33 (0,0))) ∧ Aside0 (wc.heap[gb365]? = some (.cells #[.int .i64 0,(.slice none 0 0)] 35 (0,0))) ∧ Aside0 (Below w.heap.size w wc))
 case first =>
  have H:=HC3.out
  clear HC3
  replace H:=Option.bind_eq_some_iff.mp H
  obtain ⟨t366,A60,H⟩:=H
  replace H : (if t366 = true then (if a1.toList = ([97] : List UInt8) then (impl_StepMatrix.j0 k a1 false a0_0 l0_1 l0_2 l0_3) else (impl_StepMatrix.j0 k a1 (a1.toList != ([98] : List UInt8)) a0_0 l0_1 l0_2 l0_3)) else (impl_StepMatrix.j0 k a1 true a0_0 l0_1 l0_2 l0_3)) = some (r1,r2,r3):=H
  have A6:=Aside0.mk A60
  clear A60
  by_cases c7 : t366 = true
  ·subst c7
   have H1 : (if a1.toList = ([97] : List UInt8) then (impl_StepMatrix.j0 k a1 false a0_0 l0_1 l0_2 l0_3) else (impl_StepMatrix.j0 k a1 (a1.toList != ([98] : List UInt8)) a0_0 l0_1 l0_2 l0_3)) = some (r1,r2,r3):=by rw [if_pos rfl] at H;exact H
   clear H
   have H:=H1
   clear H1
   by_cases c8 : a1.toList = ([97] : List UInt8)
   ·rw [if_pos c8] at H
    have c8b0 : (a1.toList == ([97] : List UInt8)) = true:=beq_iff_eq.mpr c8
    have c8b1 : (a1.toList != ([97] : List UInt8)) = false:=bne_eq_false_iff_eq.mpr c8
    clear c8
    (first|rw [c8b0]|(simp only [i64_w,i32_w];rw [c8b0])|skip)
    have H':=Aside0.mk H
    clear H
    have hnb9:=NB364_365.out
    have hnc9:=NB365_364.out
    obtain ⟨hcz10_0,hcz10_1,hcz10_2,hcz10_3,hfz10_0,hfz10_1,hfz10_2,hfz10_3⟩:=cf4_ BK364.out
    go_wp2_with (first|((with_reducible refine gate_callee (f:=72) rfl ?_);refine goesL_ (some 10) rfl rfl Try.func72 (by kernel_rfl) rfl #[.agg #[.int .i64 a0_0,.slice A0_1 l0_1.length c0_1,.slice A0_2 l0_2.length c0_2,.slice A0_3 l0_3.length c0_3]] rfl lp_ ?_;(with_reducible refine (impl_AutomatonValid.calls k a0_0 _ _ l0_1 _ _ l0_2 _ _ l0_3 true _ ?side1 ?side2 ?side3 ?side4 ?side5 ?side6 A6.out).mono ?_);(case side1 => exact cr_ (Kd.C_below HR0_1.out HB.out));(case side2 => exact HC0_1.out);(case side3 => exact cr_ (Kd.C_below HR0_2.out HB.out));(case side4 => exact HC0_2.out);(case side5 => exact cr_ (Kd.C_below HR0_3.out HB.out));(case side6 => exact HC0_3.out);rintro e w11 ⟨rfl,hb⟩;refine ⟨_,rfl,?_⟩;replace BK364:=Aside0.mk (kb_ BK364.out hb);replace BK365:=Aside0.mk (kb_ BK365.out hb);replace HB:=Aside0.mk (below_step (be2_ HB.out GE364.out GE365.out) hb);(try clear hb);(try clear hb2);(try clear hk);(try clear hi)))
    go_meet
    case rel => exact ⟨_,(false),rs_,H',⟨by first|omega|exact Nat.le_refl _⟩,⟨pe_ BK364.out⟩,⟨pe_ BK365.out⟩,⟨be2_ HB.out GE364.out GE365.out⟩⟩
   ·rw [if_neg c8] at H
    have c8b0 : (a1.toList == ([97] : List UInt8)) = false:=beq_eq_false_iff_ne.mpr c8
    have c8b1 : (a1.toList != ([97] : List UInt8)) = true:=bne_iff_ne.mpr c8
    (first|rw [c8b0]|(simp only [i64_w,i32_w];rw [c8b0])|skip)
    have H':=Aside0.mk H
    clear H
    have hnb12:=NB364_365.out
    have hnc12:=NB365_364.out
    obtain ⟨hcz13_0,hcz13_1,hcz13_2,hcz13_3,hfz13_0,hfz13_1,hfz13_2,hfz13_3⟩:=cf4_ BK364.out
    go_wp2_with (first|((with_reducible refine gate_callee (f:=72) rfl ?_);refine goesL_ (some 10) rfl rfl Try.func72 (by kernel_rfl) rfl #[.agg #[.int .i64 a0_0,.slice A0_1 l0_1.length c0_1,.slice A0_2 l0_2.length c0_2,.slice A0_3 l0_3.length c0_3]] rfl lp_ ?_;(with_reducible refine (impl_AutomatonValid.calls k a0_0 _ _ l0_1 _ _ l0_2 _ _ l0_3 true _ ?side1 ?side2 ?side3 ?side4 ?side5 ?side6 A6.out).mono ?_);(case side1 => exact cr_ (Kd.C_below HR0_1.out HB.out));(case side2 => exact HC0_1.out);(case side3 => exact cr_ (Kd.C_below HR0_2.out HB.out));(case side4 => exact HC0_2.out);(case side5 => exact cr_ (Kd.C_below HR0_3.out HB.out));(case side6 => exact HC0_3.out);rintro e w14 ⟨rfl,hb⟩;refine ⟨_,rfl,?_⟩;replace BK364:=Aside0.mk (kb_ BK364.out hb);replace BK365:=Aside0.mk (kb_ BK365.out hb);replace HB:=Aside0.mk (below_step (be2_ HB.out GE364.out GE365.out) hb);(try clear hb);(try clear hb2);(try clear hk);(try clear hi)))
    go_meet
    case rel => exact ⟨_,((a1.toList != ([98] : List UInt8))),rs_,H',⟨by first|omega|exact Nat.le_refl _⟩,⟨pe_ BK364.out⟩,⟨pe_ BK365.out⟩,⟨be2_ HB.out GE364.out GE365.out⟩⟩
  ·replace c7:=Bool.eq_false_iff.mpr c7
   subst c7
   have H1 : (impl_StepMatrix.j0 k a1 true a0_0 l0_1 l0_2 l0_3) = some (r1,r2,r3):=by rw [if_neg (show ¬ (false = true) by decide)] at H;exact H
   clear H
   have H:=H1
   clear H1
   have H':=Aside0.mk H
   clear H
   have hnb15:=NB364_365.out
   have hnc15:=NB365_364.out
   obtain ⟨hcz16_0,hcz16_1,hcz16_2,hcz16_3,hfz16_0,hfz16_1,hfz16_2,hfz16_3⟩:=cf4_ BK364.out
   go_wp2_with (first|((with_reducible refine gate_callee (f:=72) rfl ?_);refine goesL_ (some 10) rfl rfl Try.func72 (by kernel_rfl) rfl #[.agg #[.int .i64 a0_0,.slice A0_1 l0_1.length c0_1,.slice A0_2 l0_2.length c0_2,.slice A0_3 l0_3.length c0_3]] rfl lp_ ?_;(with_reducible refine (impl_AutomatonValid.calls k a0_0 _ _ l0_1 _ _ l0_2 _ _ l0_3 false _ ?side1 ?side2 ?side3 ?side4 ?side5 ?side6 A6.out).mono ?_);(case side1 => exact cr_ (Kd.C_below HR0_1.out HB.out));(case side2 => exact HC0_1.out);(case side3 => exact cr_ (Kd.C_below HR0_2.out HB.out));(case side4 => exact HC0_2.out);(case side5 => exact cr_ (Kd.C_below HR0_3.out HB.out));(case side6 => exact HC0_3.out);rintro e w17 ⟨rfl,hb⟩;refine ⟨_,rfl,?_⟩;replace BK364:=Aside0.mk (kb_ BK364.out hb);replace BK365:=Aside0.mk (kb_ BK365.out hb);replace HB:=Aside0.mk (below_step (be2_ HB.out GE364.out GE365.out) hb);(try clear hb);(try clear hb2);(try clear hk);(try clear hi)))
   go_meet
   case rel => exact ⟨_,(true),rs_,H',⟨by first|omega|exact Nat.le_refl _⟩,⟨pe_ BK364.out⟩,⟨pe_ BK365.out⟩,⟨be2_ HB.out GE364.out GE365.out⟩⟩
 case rest =>
  clear HC3
  try clear c1
  try clear p2
  try clear c7
  try clear c8
  try clear c8b0
  try clear c8b1
  try clear c9
  try clear c12
  try clear c15
  try clear hcz10_0
  try clear hcz10_1
  try clear hcz10_2
  try clear hcz10_3
  try clear hcz13_0
  try clear hcz13_1
  try clear hcz13_2
  try clear hcz13_3
  try clear hcz16_0
  try clear hcz16_1
  try clear hcz16_2
  try clear hcz16_3
  try clear hfz10_0
  try clear hfz10_1
  try clear hfz10_2
  try clear hfz10_3
  try clear hfz13_0
  try clear hfz13_1
  try clear hfz13_2
  try clear hfz13_3
  try clear hfz16_0
  try clear hfz16_1
  try clear hfz16_2
  try clear hfz16_3
  obtain ⟨kq,x19_2,rfl,HA,HJ2,BK364,BK365,HB⟩:=hcut
  cases kq with
  | zero => exact absurd HA.out (by simp [impl_StepMatrix.j0])
  | succ kj2 =>
   have H:=HA.out
   clear HA
   simp only [impl_StepMatrix.j0] at H
   by_cases c18 : x19_2 = true
   ·subst c18
    have H1 : (some (0,([] : List Int),false)) = some (r1,r2,r3):=by rw [if_pos rfl] at H;exact H
    clear H
    have H:=H1
    clear H1
    simp only [Option.some.injEq,Prod.mk.injEq] at H
    obtain ⟨rfl,rfl,rfl⟩:=H
    have hnb19:=NB365_364.out
    have hnc19:=NB364_365.out
    obtain ⟨hcz20_0,hcz20_1,hfz20_0,hfz20_1⟩:=cf2_ BK365.out
    go_wp2
    refine bodyPost_ret (results_ct rfl _ _ gb365 35 #[.int .i64 0,.slice none 0 0] (0,0) _ rfl (by refine pe_ ?_;refine blk_put (cs:=#[.int .i64 0,.slice none 0 0]) ?_ 1 _ rfl;refine pe_ ?_;refine blk_put (cs:=#[.int .i64 0,.slice none 0 0]) ?_ 0 _ rfl;refine pe_ ?_;exact BK365.out) Try.underlying35 rfl (by kernel_rfl)) rfl ?_
    exact ⟨_,er_,by first|exact Kd.R_nil _ _ _ _ _|exact Kd.N_nil _ _ _ _ _|exact Kd.V_nil _ _ _ _ _|exact Kd.Q_nil _ _ _ _ _|exact Kd.S_nil _ _ _ _ _,be2_ HB.out GE364.out GE365.out⟩
   ·replace c18:=Bool.eq_false_iff.mpr c18
    subst c18
    have H1 : ((impl_filled__impl_StepMatrix_1.f kj2 a0_0).bind fun bt367 => (impl_StepMatrix.l0 kj2 a1 l0_3 (l0_3.length : Int) 0 bt367.1 bt367.2)) = some (r1,r2,r3):=by rw [if_neg (show ¬ (false = true) by decide)] at H;exact H
    clear H
    have H:=H1
    clear H1
    replace H:=Option.bind_eq_some_iff.mp H
    obtain ⟨⟨t367,t368⟩,A210,H⟩:=H
    replace H : (impl_StepMatrix.l0 kj2 a1 l0_3 (l0_3.length : Int) 0 t367 t368) = some (r1,r2,r3):=H
    have A21:=Aside0.mk A210
    clear A210
    have H':=Aside0.mk H
    clear H
    have hnb22:=NB364_365.out
    have hnc22:=NB365_364.out
    obtain ⟨hcz23_0,hcz23_1,hcz23_2,hcz23_3,hfz23_0,hfz23_1,hfz23_2,hfz23_3⟩:=cf4_ BK364.out
    go_wp2_with (first|((with_reducible refine gate_callee (f:=112) rfl ?_);refine goesL_ (some 23) rfl rfl Try.func112 (by kernel_rfl) rfl #[.int .i64 a0_0,.func (.func 135) #[] #[]] rfl lp_ ?_;(with_reducible refine (impl_filled__impl_StepMatrix_1.calls kj2 a0_0 t367 t368 _ A21.out).mono ?_);rintro e w24 ⟨v369,rfl,ho0,hb⟩;refine ⟨_,rfl,?_⟩;have HO370:=Aside0.mk (Kd.R_lower ho0 (below_size (be2_ HB.out GE364.out GE365.out)));replace BK364:=Aside0.mk (kb_ BK364.out hb);replace BK365:=Aside0.mk (kb_ BK365.out hb);replace HB:=Aside0.mk (below_step (be2_ HB.out GE364.out GE365.out) hb);(try clear hb);(try clear hb2);(try clear hk);(try clear hi);(try clear ho0))|((with_reducible refine bev_ (N:=6) rfl rfl (cs:=#[.int .i64 0,.slice none 0 0]) (t:=35) ?hr ?_);(case hr => first|(go_simp;done)|(go_simp;rfl));intro gb371 hg w25 hbox hb;replace HO370:=Aside0.mk (Kd.R_below (pr_ HO370.out) hb);have BK371:=Aside0.mk (hbox);have GW371:=Aside0.mk (szg_ hg (below_size (be2_ HB.out GE364.out GE365.out)));have GE371:=Aside0.mk (szg_ hg (below_size (be2_ HB.out GE364.out GE365.out)));replace HB:=Aside0.mk (below_step (be2_ HB.out GE364.out GE365.out) hb);have NB364_371:=Aside0.mk (nl_ hg BK364.out);have NB371_364:=Aside0.mk (ng_ hg BK364.out);replace BK364:=Aside0.mk (kb_ BK364.out hb);have NB365_371:=Aside0.mk (nl_ hg BK365.out);have NB371_365:=Aside0.mk (ng_ hg BK365.out);replace BK365:=Aside0.mk (kb_ BK365.out hb);clear hb hbox hg;have hnb26:=NB371_364.out;have hnc26:=NB364_371.out;have hnb27:=NB371_365.out;have hnc27:=NB365_371.out;obtain ⟨hcz28_0,hcz28_1,hfz28_0,hfz28_1⟩:=cf2_ BK371.out;obtain ⟨Ao29,co29,eo29⟩:=Kd.R_slice HO370.out;subst eo29;obtain ⟨hcz30_0,hcz30_1,hcz30_2,hcz30_3,hfz30_0,hfz30_1,hfz30_2,hfz30_3⟩:=cf4_ BK364.out))
    go_loopg [27] kj2 (fun kq v27 w' => ∃ (x27_2 : Int) (x372001_2 : List Int) (u372001 : Value),v27 = .int .i64 x27_2 ∧ Aside0 (impl_StepMatrix.l0 kq a1 l0_3 (l0_3.length : Int) x27_2 t367 x372001_2 = some (r1,r2,r3)) ∧ Aside0 (kq ≤ kj2) ∧ Aside0 (Kd.R (Kd.int .i64) 3 w' w.heap.size (fun _ => True) u372001 x372001_2) ∧ Aside0 (w'.heap[gb364]? = some (.cells #[.int .i64 a0_0,(.slice A0_1 l0_1.length c0_1),(.slice A0_2 l0_2.length c0_2),(.slice A0_3 l0_3.length c0_3)] 33 (0,0))) ∧ Aside0 (w'.heap[gb365]? = some (.cells #[.int .i64 0,(.slice none 0 0)] 35 (0,0))) ∧ Aside0 (w'.heap[gb371]? = some (.cells #[.int .i64 t367,u372001] 35 (0,0))) ∧ Aside0 (Below w.heap.size w w'))
    case atStart => exact ⟨(0),(t368),(.slice Ao29 t368.length co29),rs_,H',⟨Nat.le_refl _⟩,⟨by refine pr_ ?_;exact Kd.R_mono (Kd.R_far (p:=⟨gb371,1,none⟩) (Kd.R_far (p:=⟨gb371,0,none⟩) (Kd.R_types HO370.out BK371.out (by decide)) (fun _ hk => hk.2) (.int .i64 t367)) (fun _ hk => hk.2) (.slice Ao29 t368.length co29)) (fun _ hk => trivial)⟩,⟨by refine pe_ ?_;refine blk_far ?_ NB364_371.out _;refine pe_ ?_;refine blk_far ?_ NB364_371.out _;refine pe_ ?_;exact BK364.out⟩,⟨by refine pe_ ?_;refine blk_far ?_ NB365_371.out _;refine pe_ ?_;refine blk_far ?_ NB365_371.out _;refine pe_ ?_;exact BK365.out⟩,⟨by refine pe_ ?_;refine blk_put (cs:=#[.int .i64 t367,.slice none 0 0]) ?_ 1 _ rfl;refine pe_ ?_;refine blk_put (cs:=#[.int .i64 0,.slice none 0 0]) ?_ 0 _ rfl;refine pe_ ?_;exact BK371.out⟩,⟨be3_ HB.out GE364.out GE365.out GE371.out⟩⟩
    case round =>
     clear H'
     try clear c1
     try clear c2
     try clear p2
     try clear c7
     try clear c8
     try clear c8b0
     try clear c8b1
     try clear c9
     try clear c11
     try clear c12
     try clear c15
     try clear c18
     try clear c19
     try clear c22
     try clear c26
     try clear c27
     try clear hcz10_0
     try clear hcz10_1
     try clear hcz10_2
     try clear hcz10_3
     try clear hcz13_0
     try clear hcz13_1
     try clear hcz13_2
     try clear hcz13_3
     try clear hcz16_0
     try clear hcz16_1
     try clear hcz16_2
     try clear hcz16_3
     try clear hcz20_0
     try clear hcz20_1
     try clear hcz23_0
     try clear hcz23_1
     try clear hcz23_2
     try clear hcz23_3
     try clear hcz28_0
     try clear hcz28_1
     try clear hcz30_0
     try clear hcz30_1
     try clear hcz30_2
     try clear hcz30_3
     try clear hfz10_0
     try clear hfz10_1
     try clear hfz10_2
     try clear hfz10_3
     try clear hfz13_0
     try clear hfz13_1
     try clear hfz13_2
     try clear hfz13_3
     try clear hfz16_0
     try clear hfz16_1
     try clear hfz16_2
     try clear hfz16_3
     try clear hfz20_0
     try clear hfz20_1
     try clear hfz23_0
     try clear hfz23_1
     try clear hfz23_2
     try clear hfz23_3
     try clear hfz28_0
     try clear hfz28_1
     try clear hfz30_0
     try clear hfz30_1
     try clear hfz30_2
     try clear hfz30_3
     try clear p2
     obtain ⟨x27_2,x372001_2,u372001,rfl,HA,HK2,HO_372001,BK364,BK365,BK371,HB⟩:=hrel
     cases gk with
     | zero => exact absurd HA.out (by simp [impl_StepMatrix.l0])
     | succ k2 =>
      have H:=HA.out
      clear HA
      simp only [impl_StepMatrix.l0] at H
      by_cases c31 : x27_2 < (l0_3.length : Int)
      ·rw [if_pos c31] at H
       have c31b0 : decide (x27_2 < (l0_3.length : Int)) = true:=decide_eq_true c31
       clear c31
       by_cases c32 : 0 ≤ x27_2
       ·rw [if_pos c32] at H
        have c32b0 : decide (0 ≤ x27_2) = true:=decide_eq_true c32
        clear c32
        by_cases c33 : x27_2 < (l0_3.length : Int)
        ·rw [if_pos c33] at H
         have c33b0 : decide (x27_2 < (l0_3.length : Int)) = true:=decide_eq_true c33
         clear c33
         by_cases c34 : ((rd_T92 l0_3 x27_2).f1).toList = a1.toList
         ·rw [if_pos c34] at H
          have c34b0 : (((rd_T92 l0_3 x27_2).f1).toList == a1.toList) = true:=beq_iff_eq.mpr c34
          have c34b1 : (((rd_T92 l0_3 x27_2).f1).toList != a1.toList) = false:=bne_eq_false_iff_eq.mpr c34
          clear c34
          obtain ⟨ji35,hji35⟩ : ∃ j_ : Int,(wrap64 ((wrap64 (((rd_T92 l0_3 x27_2).f0) * t367)) + ((rd_T92 l0_3 x27_2).f2))) = j_:=⟨_,rfl⟩
          replace H : (if 0 ≤ (ji35) then (if (ji35) < (x372001_2.length : Int) then (impl_StepMatrix.l0 k2 a1 l0_3 (l0_3.length : Int) (wrap64 (x27_2 + 1)) t367 (x372001_2.set ((ji35) : Int).toNat ((rd_T92 l0_3 x27_2).f3))) else (none)) else (none)) = some (r1,r2,r3):=by first|(rw [hji35] at H;exact H)|(simp only [hji35] at H ⊢;exact H)
          have hji35w : (IntKind.i64.wrap ((wrap64 (((rd_T92 l0_3 x27_2).f0) * t367)) + ((rd_T92 l0_3 x27_2).f2))) = ji35:=(i64_w _).trans hji35
          by_cases c36 : 0 ≤ (ji35)
          ·rw [if_pos c36] at H
           have c36b0 : decide (0 ≤ (ji35)) = true:=decide_eq_true c36
           clear c36
           by_cases c37 : (ji35) < (x372001_2.length : Int)
           ·rw [if_pos c37] at H
            have c37b0 : decide ((ji35) < (x372001_2.length : Int)) = true:=decide_eq_true c37
            clear c37
            obtain ⟨y374,hy374⟩ : ∃ y_ : List Int,y_ = (x372001_2.set ((ji35) : Int).toNat ((rd_T92 l0_3 x27_2).f3)):=⟨_,rfl⟩
            replace H : (impl_StepMatrix.l0 k2 a1 l0_3 (l0_3.length : Int) (wrap64 (x27_2 + 1)) t367 y374) = some (r1,r2,r3):=by first|(rw [hy374];with_reducible exact H)|(have H2_:=(Option.bind_some _ _).symm.trans H;rw [hy374];with_reducible exact H2_)|(have H2_:=(Option.bind_some _ _).symm.trans H;with_reducible exact H2_)|with_reducible exact H|(rw [hy374];exact H)|exact H
            have Ny374:=Aside0.mk hy374
            clear hy374
            have H':=Aside0.mk H
            clear H
            have p372 : 0 ≤ (x27_2 : Int):=of_decide_eq_true (by first|(with_reducible assumption)|assumption)
            have q372 : x27_2 < (l0_3.length : Int):=of_decide_eq_true (by first|(with_reducible assumption)|assumption)
            obtain ⟨ad372,e372,hx372_0,hx372_1,hx372_2,hx372_3⟩:=at_T92 HR0_3.out x27_2 p372 q372
            cases e372
            replace hx372_0:=hbc_ HB.out hx372_0
            replace hx372_1:=hbc_ HB.out hx372_1
            replace hx372_2:=hbc_ HB.out hx372_2
            replace hx372_3:=hbc_ HB.out hx372_3
            replace p372:=eq_true p372
            replace q372:=eq_true q372
            go_wp2_with (first|((with_reducible refine bev_ (N:=8) rfl rfl (cs:=#[.int .i64 0,.string (⟨#[]⟩ : ByteArray),.int .i64 0,.int .i64 0]) (t:=92) ?hr ?_);(case hr => first|(go_simp;done)|(go_simp;rfl));intro gb373 hg w39 hbox hb;replace HO_372001:=Aside0.mk (Kd.R_below (pr_ HO_372001.out) hb);have BK373:=Aside0.mk (hbox);have GW373:=Aside0.mk (szg_ hg (below_size (be3_ HB.out GE364.out GE365.out GE371.out)));have GE373:=Aside0.mk (szg_ hg (below_size (be3_ HB.out GE364.out GE365.out GE371.out)));replace HB:=Aside0.mk (below_step (be3_ HB.out GE364.out GE365.out GE371.out) hb);have NB364_373:=Aside0.mk (nl_ hg BK364.out);have NB373_364:=Aside0.mk (ng_ hg BK364.out);replace BK364:=Aside0.mk (kb_ BK364.out hb);have NB365_373:=Aside0.mk (nl_ hg BK365.out);have NB373_365:=Aside0.mk (ng_ hg BK365.out);replace BK365:=Aside0.mk (kb_ BK365.out hb);have NB371_373:=Aside0.mk (nl_ hg BK371.out);have NB373_371:=Aside0.mk (ng_ hg BK371.out);replace BK371:=Aside0.mk (kb_ BK371.out hb);clear hb hbox hg;have hnb40:=NB373_364.out;have hnc40:=NB364_373.out;have hnb41:=NB373_365.out;have hnc41:=NB365_373.out;have hnb42:=NB373_371.out;have hnc42:=NB371_373.out;obtain ⟨hcz43_0,hcz43_1,hcz43_2,hcz43_3,hfz43_0,hfz43_1,hfz43_2,hfz43_3⟩:=cf4_ BK373.out)|((with_reducible refine gate_store (t:=92) (p:=8) rfl ?_);refine store_event (t:=92) (p:=8) (v:=?vo_w44) (w1:=((((w39.setCell ⟨gb373,0,none⟩ (.int .i64 ((rd_T92 l0_3 x27_2).f0))).setCell ⟨gb373,1,none⟩ (.string ((rd_T92 l0_3 x27_2).f1))).setCell ⟨gb373,2,none⟩ (.int .i64 ((rd_T92 l0_3 x27_2).f2))).setCell ⟨gb373,3,none⟩ (.int .i64 ((rd_T92 l0_3 x27_2).f3)))) ?hg ?ho ?hn ?hr ?_;(case ho => rfl);(case hg => rfl);(case hn => rfl);(case hr => first|(go_simp;done)|(go_simp;rfl));intro w44 hw;have n0_ : Aside0 (Kd.R (Kd.int .i64) 3 w44 w.heap.size (fun _ => True) u372001 x372001_2):=⟨(by rw [hw];exact (by refine pr_ ?_;exact Kd.R_mono (Kd.R_far (p:=⟨gb373,3,none⟩) (Kd.R_far (p:=⟨gb373,2,none⟩) (Kd.R_far (p:=⟨gb373,1,none⟩) (Kd.R_far (p:=⟨gb373,0,none⟩) (Kd.R_types HO_372001.out BK373.out (by decide)) (fun _ hk => hk.2) (.int .i64 ((rd_T92 l0_3 x27_2).f0))) (fun _ hk => hk.2) (.string ((rd_T92 l0_3 x27_2).f1))) (fun _ hk => hk.2) (.int .i64 ((rd_T92 l0_3 x27_2).f2))) (fun _ hk => hk.2) (.int .i64 ((rd_T92 l0_3 x27_2).f3))) (fun _ hk => trivial)))⟩;have n1_ : Aside0 (w44.heap[gb364]? = some (.cells #[.int .i64 a0_0,.slice A0_1 l0_1.length c0_1,.slice A0_2 l0_2.length c0_2,.slice (some ad372) l0_3.length c0_3] 33 (0,0))):=⟨(by rw [hw];exact (by refine pe_ ?_;refine blk_far ?_ NB364_373.out _;refine pe_ ?_;refine blk_far ?_ NB364_373.out _;refine pe_ ?_;refine blk_far ?_ NB364_373.out _;refine pe_ ?_;refine blk_far ?_ NB364_373.out _;refine pe_ ?_;exact BK364.out))⟩;have n2_ : Aside0 (w44.heap[gb365]? = some (.cells #[.int .i64 0,.slice none 0 0] 35 (0,0))):=⟨(by rw [hw];exact (by refine pe_ ?_;refine blk_far ?_ NB365_373.out _;refine pe_ ?_;refine blk_far ?_ NB365_373.out _;refine pe_ ?_;refine blk_far ?_ NB365_373.out _;refine pe_ ?_;refine blk_far ?_ NB365_373.out _;refine pe_ ?_;exact BK365.out))⟩;have n3_ : Aside0 (w44.heap[gb371]? = some (.cells #[.int .i64 t367,u372001] 35 (0,0))):=⟨(by rw [hw];exact (by refine pe_ ?_;refine blk_far ?_ NB371_373.out _;refine pe_ ?_;refine blk_far ?_ NB371_373.out _;refine pe_ ?_;refine blk_far ?_ NB371_373.out _;refine pe_ ?_;refine blk_far ?_ NB371_373.out _;refine pe_ ?_;exact BK371.out))⟩;have n4_ : Aside0 (w44.heap[gb373]? = some (.cells #[.int .i64 ((rd_T92 l0_3 x27_2).f0),.string ((rd_T92 l0_3 x27_2).f1),.int .i64 ((rd_T92 l0_3 x27_2).f2),.int .i64 ((rd_T92 l0_3 x27_2).f3)] 92 (0,0))):=⟨(by rw [hw];exact (by refine pe_ ?_;refine blk_put (cs:=#[.int .i64 ((rd_T92 l0_3 x27_2).f0),.string ((rd_T92 l0_3 x27_2).f1),.int .i64 ((rd_T92 l0_3 x27_2).f2),.int .i64 0]) ?_ 3 _ rfl;refine pe_ ?_;refine blk_put (cs:=#[.int .i64 ((rd_T92 l0_3 x27_2).f0),.string ((rd_T92 l0_3 x27_2).f1),.int .i64 0,.int .i64 0]) ?_ 2 _ rfl;refine pe_ ?_;refine blk_put (cs:=#[.int .i64 ((rd_T92 l0_3 x27_2).f0),.string (⟨#[]⟩ : ByteArray),.int .i64 0,.int .i64 0]) ?_ 1 _ rfl;refine pe_ ?_;refine blk_put (cs:=#[.int .i64 0,.string (⟨#[]⟩ : ByteArray),.int .i64 0,.int .i64 0]) ?_ 0 _ rfl;refine pe_ ?_;exact BK373.out))⟩;have n5_ : Aside0 (Below w.heap.size w w44):=⟨(by rw [hw];exact (be4_ HB.out GE364.out GE365.out GE371.out GE373.out))⟩;clear hw;clear HO_372001;clear BK364;clear BK365;clear BK371;clear BK373;clear HB;have HO_372001:=n0_;have BK364:=n1_;have BK365:=n2_;have BK371:=n3_;have BK373:=n4_;have HB:=n5_;clear n0_ n1_ n2_ n3_ n4_ n5_;obtain ⟨hcz45_0,hcz45_1,hcz45_2,hcz45_3,hfz45_0,hfz45_1,hfz45_2,hfz45_3⟩:=cf4_ BK373.out;have hnb46:=NB371_364.out;have hnc46:=NB364_371.out;have hnb47:=NB371_365.out;have hnc47:=NB365_371.out;obtain ⟨hcz48_0,hcz48_1,hfz48_0,hfz48_1⟩:=cf2_ BK371.out;have p38 : 0 ≤ ((ji35) : Int):=of_decide_eq_true (by first|(with_reducible assumption)|assumption);have q38 : ((ji35) : Int) < ((x372001_2.length : Int) : Int):=of_decide_eq_true (by first|(with_reducible assumption)|assumption);obtain ⟨go38,co38,eo38,gb38,gl38,cl38,HG38⟩:=Kd.R_form HO_372001.out (by omega);(first|cases eo38|(injection eo38 with ea_ en_ ec_;(first|subst ea_|(injection ea_ with ea_;subst ea_));subst ec_;clear en_));have GB38:=Aside0.mk gb38;have GG38:=Aside0.mk HG38;clear gb38 gl38 HG38;obtain ⟨hx38_0,hf38_0⟩:=Kd.R_celln 0 HO_372001.out ((ji35) : Int) p38 q38;replace p38:=eq_true p38;replace q38:=eq_true q38;obtain ⟨hy49_,hz49_⟩:=Kd.R_celln 0 HO_372001.out ((ji35) : Int) (of_decide_eq_true (by first|(with_reducible assumption)|assumption)) (of_decide_eq_true (by first|(with_reducible assumption)|assumption));have HP49:=Kd.R_putg HO_372001.out ((ji35) : Int) ((rd_T92 l0_3 x27_2).f3))|((with_reducible refine gate_store (t:=3) (p:=47) rfl ?_);refine store_event (t:=3) (p:=47) (v:=?vo_w50) (w1:=(w44.setCell ⟨go38,((ji35) : Int).toNat,none⟩ (.int .i64 ((rd_T92 l0_3 x27_2).f3)))) ?hg ?ho ?hn ?hr ?_;(case ho => rfl);(case hg => rfl);(case hn => rfl);(case hr => first|(go_simp;done)|(go_simp;rfl));intro w50 hw;have hg : w44.grownBy w50 (some go38):=(by rw [hw];exact HP49.2);have hp_ : Kd.R (Kd.int .i64) 3 w50 w.heap.size (fun _ => True) (.slice (some ⟨go38,0,none⟩) x372001_2.length co38) y374:=(by rw [hw,Ny374.out];exact HP49.1);clear HP49;replace BK364:=Aside0.mk (blk_grown (g:=gb364) (o:=.cells #[.int .i64 a0_0,.slice A0_1 l0_1.length c0_1,.slice A0_2 l0_2.length c0_2,.slice (some ad372) l0_3.length c0_3] 33 (0,0)) (pe_ BK364.out) hg (Kd.R_ne HO_372001.out BK364.out (by decide)));replace BK365:=Aside0.mk (blk_grown (g:=gb365) (o:=.cells #[.int .i64 0,.slice none 0 0] 35 (0,0)) (pe_ BK365.out) hg (Kd.R_ne HO_372001.out BK365.out (by decide)));replace BK371:=Aside0.mk (blk_grown (g:=gb371) (o:=.cells #[.int .i64 t367,.slice (some ⟨go38,0,none⟩) x372001_2.length co38] 35 (0,0)) (pe_ BK371.out) hg (Kd.R_ne HO_372001.out BK371.out (by decide)));replace BK373:=Aside0.mk (blk_grown (g:=gb373) (o:=.cells #[.int .i64 ((rd_T92 l0_3 x27_2).f0),.string ((rd_T92 l0_3 x27_2).f1),.int .i64 ((rd_T92 l0_3 x27_2).f2),.int .i64 ((rd_T92 l0_3 x27_2).f3)] 92 (0,0)) (pe_ BK373.out) hg (Kd.R_ne HO_372001.out BK373.out (by decide)));replace HO_372001:=Aside0.mk (hp_);replace HB:=Aside0.mk ((by rw [hw];exact below_set (HB.out) GB38.out : Below w.heap.size w w50));clear hg hw hp_))
            go_roundg k2
            case measure => have:=HJ2.out;have:=HK2.out;omega
            case rel => exact ⟨(wrap64 (x27_2 + 1)),(y374),(.slice (some ⟨go38,0,none⟩) x372001_2.length co38),rs_,H',⟨by have:=HJ2.out;have:=HK2.out;omega⟩,⟨pr_ HO_372001.out⟩,⟨pe_ BK364.out⟩,⟨pe_ BK365.out⟩,⟨pe_ BK371.out⟩,⟨be4_ HB.out GE364.out GE365.out GE371.out GE373.out⟩⟩
           ·rw [if_neg c37] at H
            exact absurd H (by simp)
          ·rw [if_neg c36] at H
           exact absurd H (by simp)
         ·rw [if_neg c34] at H
          have c34b0 : (((rd_T92 l0_3 x27_2).f1).toList == a1.toList) = false:=beq_eq_false_iff_ne.mpr c34
          have c34b1 : (((rd_T92 l0_3 x27_2).f1).toList != a1.toList) = true:=bne_iff_ne.mpr c34
          have H':=Aside0.mk H
          clear H
          have p372 : 0 ≤ (x27_2 : Int):=of_decide_eq_true (by first|(with_reducible assumption)|assumption)
          have q372 : x27_2 < (l0_3.length : Int):=of_decide_eq_true (by first|(with_reducible assumption)|assumption)
          obtain ⟨ad372,e372,hx372_0,hx372_1,hx372_2,hx372_3⟩:=at_T92 HR0_3.out x27_2 p372 q372
          cases e372
          replace hx372_0:=hbc_ HB.out hx372_0
          replace hx372_1:=hbc_ HB.out hx372_1
          replace hx372_2:=hbc_ HB.out hx372_2
          replace hx372_3:=hbc_ HB.out hx372_3
          replace p372:=eq_true p372
          replace q372:=eq_true q372
          go_wp2_with (first|((with_reducible refine bev_ (N:=8) rfl rfl (cs:=#[.int .i64 0,.string (⟨#[]⟩ : ByteArray),.int .i64 0,.int .i64 0]) (t:=92) ?hr ?_);(case hr => first|(go_simp;done)|(go_simp;rfl));intro gb373 hg w51 hbox hb;replace HO_372001:=Aside0.mk (Kd.R_below (pr_ HO_372001.out) hb);have BK373:=Aside0.mk (hbox);have GW373:=Aside0.mk (szg_ hg (below_size (be3_ HB.out GE364.out GE365.out GE371.out)));have GE373:=Aside0.mk (szg_ hg (below_size (be3_ HB.out GE364.out GE365.out GE371.out)));replace HB:=Aside0.mk (below_step (be3_ HB.out GE364.out GE365.out GE371.out) hb);have NB364_373:=Aside0.mk (nl_ hg BK364.out);have NB373_364:=Aside0.mk (ng_ hg BK364.out);replace BK364:=Aside0.mk (kb_ BK364.out hb);have NB365_373:=Aside0.mk (nl_ hg BK365.out);have NB373_365:=Aside0.mk (ng_ hg BK365.out);replace BK365:=Aside0.mk (kb_ BK365.out hb);have NB371_373:=Aside0.mk (nl_ hg BK371.out);have NB373_371:=Aside0.mk (ng_ hg BK371.out);replace BK371:=Aside0.mk (kb_ BK371.out hb);clear hb hbox hg;have hnb52:=NB373_364.out;have hnc52:=NB364_373.out;have hnb53:=NB373_365.out;have hnc53:=NB365_373.out;have hnb54:=NB373_371.out;have hnc54:=NB371_373.out;obtain ⟨hcz55_0,hcz55_1,hcz55_2,hcz55_3,hfz55_0,hfz55_1,hfz55_2,hfz55_3⟩:=cf4_ BK373.out))
          go_roundg k2
          case measure => have:=HJ2.out;have:=HK2.out;omega
          case rel => exact ⟨(wrap64 (x27_2 + 1)),(x372001_2),(u372001),rs_,H',⟨by have:=HJ2.out;have:=HK2.out;omega⟩,⟨by refine pr_ ?_;exact Kd.R_mono (Kd.R_far (p:=⟨gb373,3,none⟩) (Kd.R_far (p:=⟨gb373,2,none⟩) (Kd.R_far (p:=⟨gb373,1,none⟩) (Kd.R_far (p:=⟨gb373,0,none⟩) (Kd.R_types HO_372001.out BK373.out (by decide)) (fun _ hk => hk.2) (.int .i64 ((rd_T92 l0_3 x27_2).f0))) (fun _ hk => hk.2) (.string ((rd_T92 l0_3 x27_2).f1))) (fun _ hk => hk.2) (.int .i64 ((rd_T92 l0_3 x27_2).f2))) (fun _ hk => hk.2) (.int .i64 ((rd_T92 l0_3 x27_2).f3))) (fun _ hk => trivial)⟩,⟨by refine pe_ ?_;refine blk_far ?_ NB364_373.out _;refine pe_ ?_;refine blk_far ?_ NB364_373.out _;refine pe_ ?_;refine blk_far ?_ NB364_373.out _;refine pe_ ?_;refine blk_far ?_ NB364_373.out _;refine pe_ ?_;exact BK364.out⟩,⟨by refine pe_ ?_;refine blk_far ?_ NB365_373.out _;refine pe_ ?_;refine blk_far ?_ NB365_373.out _;refine pe_ ?_;refine blk_far ?_ NB365_373.out _;refine pe_ ?_;refine blk_far ?_ NB365_373.out _;refine pe_ ?_;exact BK365.out⟩,⟨by refine pe_ ?_;refine blk_far ?_ NB371_373.out _;refine pe_ ?_;refine blk_far ?_ NB371_373.out _;refine pe_ ?_;refine blk_far ?_ NB371_373.out _;refine pe_ ?_;refine blk_far ?_ NB371_373.out _;refine pe_ ?_;exact BK371.out⟩,⟨be4_ HB.out GE364.out GE365.out GE371.out GE373.out⟩⟩
        ·rw [if_neg c33] at H
         exact absurd H (by simp)
       ·rw [if_neg c32] at H
        exact absurd H (by simp)
      ·rw [if_neg c31] at H
       have c31b0 : decide (x27_2 < (l0_3.length : Int)) = false:=decide_eq_false c31
       clear c31
       simp only [Option.some.injEq,Prod.mk.injEq] at H
       obtain ⟨rfl,rfl,rfl⟩:=H
       have hnb56:=NB371_364.out
       have hnc56:=NB364_371.out
       have hnb57:=NB371_365.out
       have hnc57:=NB365_371.out
       obtain ⟨hcz58_0,hcz58_1,hfz58_0,hfz58_1⟩:=cf2_ BK371.out
       have hnb59:=NB365_364.out
       have hnc59:=NB364_365.out
       obtain ⟨hcz60_0,hcz60_1,hfz60_0,hfz60_1⟩:=cf2_ BK365.out
       obtain ⟨Ao61,co61,eo61⟩:=Kd.R_slice HO_372001.out
       subst eo61
       go_wp2
       refine bodyPost_ret (results_ct rfl _ _ gb365 35 #[.int .i64 t367,.slice Ao61 x372001_2.length co61] (0,0) _ rfl (by refine pe_ ?_;refine blk_put (cs:=#[.int .i64 t367,.slice none 0 0]) ?_ 1 _ rfl;refine pe_ ?_;refine blk_put (cs:=#[.int .i64 0,.slice none 0 0]) ?_ 0 _ rfl;refine pe_ ?_;exact BK365.out) Try.underlying35 rfl (by kernel_rfl)) rfl ?_
       exact ⟨_,er_,by refine pr_ ?_;exact Kd.R_mono (Kd.R_far (p:=⟨gb365,1,none⟩) (Kd.R_far (p:=⟨gb365,0,none⟩) (Kd.R_types HO_372001.out BK365.out (by decide)) (fun _ hk => hk.2) (.int .i64 t367)) (fun _ hk => hk.2) (.slice Ao61 x372001_2.length co61)) (fun _ hk => trivial),be3_ HB.out GE364.out GE365.out GE371.out⟩
def impl_UnitMatrix_1.f (a0 : Int) (a1 : Int) : Option (Int):=if a0 = a1 then (some 0) else (some 1000000)
set_option maxHeartbeats 8000000 in
set_option maxRecDepth 100000 in
theorem impl_UnitMatrix_1.calls (a0 : Int) (a1 : Int) (r : Int) (w : World) (h : impl_UnitMatrix_1.f a0 a1 = some r) :
  Calls Try.prog 134 #[.int .i64 a0,.int .i64 a1] w fun e w' => e = .returned (.int .i64 r) ∧ Drawn0 w w':=by
 have H : (if a0 = a1 then (some 0) else (some 1000000)) = some r:=h
 clear h
 by_cases c3 : a0 = a1
 ·rw [if_pos c3] at H
  have c3b0 : (a0 == a1) = true:=beq_iff_eq.mpr c3
  have c3b1 : (a0 != a1) = false:=bne_eq_false_iff_eq.mpr c3
  clear c3
  obtain rfl:=Option.some.inj H
  go_enter Try.func134,Try.ntmps134
  go_wp2
  go_ret
  exact ⟨by first|rfl|(simp;done)|(simp [*];done),by repeat (first|exact Drawn0.refl _|apply Drawn0.step)⟩
 ·rw [if_neg c3] at H
  have c3b0 : (a0 == a1) = false:=beq_eq_false_iff_ne.mpr c3
  have c3b1 : (a0 != a1) = true:=bne_iff_ne.mpr c3
  obtain rfl:=Option.some.inj H
  go_enter Try.func134,Try.ntmps134
  go_wp2
  go_ret
  exact ⟨by first|rfl|(simp;done)|(simp [*];done),by repeat (first|exact Drawn0.refl _|apply Drawn0.step)⟩
def impl_filled__impl_UnitMatrix_1.f (k : Nat) (a0 : Int) : Option (Int × List Int):=impl_filled.f (fun y0 y1 => impl_UnitMatrix_1.f  y0 y1 ) k a0
theorem impl_filled__impl_UnitMatrix_1.mono : ∀ b0 k,LeO (impl_filled__impl_UnitMatrix_1.f k b0) (impl_filled__impl_UnitMatrix_1.f (k + 1) b0):=by
 intro b0 k
 exact impl_filled.monoP (fun _ _ => LeO.refl _) _ k
set_option maxHeartbeats 2000000 in
theorem impl_filled__impl_UnitMatrix_1.calls (k : Nat) (a0 : Int) (r1 : Int) (r2 : List Int) (w : World) (h : impl_filled__impl_UnitMatrix_1.f k a0 = some (r1,r2)) :
  Calls Try.prog 112 #[.int .i64 a0,.func (.func 134) #[] #[]] w fun e w' => ∃ v1_ : Value,e = .returned (.agg #[.int .i64 r1,v1_]) ∧ Kd.R (Kd.int .i64) 3 w' w.heap.size (fun _ => True) v1_ r2 ∧ Below w.heap.size w w':=by
 refine impl_filled.calls k a0 134 #[] #[] (fun y0 y1 => impl_UnitMatrix_1.f  y0 y1 ) r1 r2 w  ⟨_,Try.func134,rfl,rfl⟩ ?_ h
 intro ay0 ay1 z0 W_ hB_  h_
 refine calls_of_args (args':=#[.int .i64 ay0,.int .i64 ay1]) (by simp) ?_
 refine (impl_UnitMatrix_1.calls ay0 ay1 z0 W_  h_).mono ?_
 rintro e w' ⟨rfl,hd⟩
 exact ⟨rfl,hd.below⟩
def impl_UnitMatrix.f (k : Nat) (a0 : Int) : Option (Int × List Int × Bool):=if a0 < 1 then (some (0,([] : List Int),false)) else (if a0 > 4 then (some (0,([] : List Int),false)) else ((impl_filled__impl_UnitMatrix_1.f k a0).bind fun bt360 => (some (bt360.1,bt360.2,true))))
theorem impl_UnitMatrix.mono : ∀ a0 k,LeO (impl_UnitMatrix.f k a0) (impl_UnitMatrix.f (k + 1) a0):=by
 intro a0 k
 unfold impl_UnitMatrix.f
 repeat' first
   | (with_reducible exact impl_filled__impl_UnitMatrix_1.mono _ _)
   | (with_reducible exact LeO.refl _)
   | (with_reducible exact LeO.none _)
   | (with_reducible refine LeO.ite ?_ ?_)
   | (with_reducible refine LeO.bind ?_ (fun _ => ?_))
   | exact impl_filled__impl_UnitMatrix_1.mono _ _
   | exact LeO.none _
   | refine LeO.ite ?_ ?_
   | refine LeO.bind ?_ (fun _ => ?_)
set_option maxHeartbeats 8000000 in
set_option maxRecDepth 100000 in
theorem impl_UnitMatrix.calls (k : Nat) (a0 : Int) (r1 : Int) (r2 : List Int) (r3 : Bool) (w : World) (h : impl_UnitMatrix.f k a0 = some (r1,r2,r3)) :
  Calls Try.prog 79 #[.int .i64 a0] w fun e w' => ∃ v1_ : Value,e = .returned (.tuple #[.agg #[.int .i64 r1,v1_],.bool r3]) ∧ Kd.R (Kd.int .i64) 3 w' w.heap.size (fun _ => True) v1_ r2 ∧ Below w.heap.size w w':=by
 have hu35:=Try.underlying35
 have HB:=Aside0.mk (Below.refl w.heap.size w)
 have H : (if a0 < 1 then (some (0,([] : List Int),false)) else (if a0 > 4 then (some (0,([] : List Int),false)) else ((impl_filled__impl_UnitMatrix_1.f k a0).bind fun bt360 => (some (bt360.1,bt360.2,true))))) = some (r1,r2,r3):=h
 clear h
 by_cases c2 : a0 < 1
 ·rw [if_pos c2] at H
  have c2b0 : decide (a0 < 1) = true:=decide_eq_true c2
  clear c2
  simp only [Option.some.injEq,Prod.mk.injEq] at H
  obtain ⟨rfl,rfl,rfl⟩:=H
  go_enter Try.func79,Try.ntmps79
  go_wp2_with (first|((with_reducible refine bev_ (N:=2) rfl rfl (cs:=#[.int .i64 0,.slice none 0 0]) (t:=35) ?hr ?_);(case hr => first|(go_simp;done)|(go_simp;rfl));intro gb359 hg w3 hbox hb;have BK359:=Aside0.mk (hbox);have GW359:=Aside0.mk (szg_ hg (below_size (be0_ HB.out)));have GE359:=Aside0.mk (szg_ hg (below_size (be0_ HB.out)));replace HB:=Aside0.mk (below_step (be0_ HB.out) hb);clear hb hbox hg;obtain ⟨hcz4_0,hcz4_1,hfz4_0,hfz4_1⟩:=cf2_ BK359.out))
  refine bodyPost_ret (results_ct rfl _ _ gb359 35 #[.int .i64 0,.slice none 0 0] (0,0) _ rfl (by refine pe_ ?_;refine blk_put (cs:=#[.int .i64 0,.slice none 0 0]) ?_ 1 _ rfl;refine pe_ ?_;refine blk_put (cs:=#[.int .i64 0,.slice none 0 0]) ?_ 0 _ rfl;refine pe_ ?_;exact BK359.out) Try.underlying35 rfl (by kernel_rfl)) rfl ?_
  exact ⟨_,er_,by first|exact Kd.R_nil _ _ _ _ _|exact Kd.N_nil _ _ _ _ _|exact Kd.V_nil _ _ _ _ _|exact Kd.Q_nil _ _ _ _ _|exact Kd.S_nil _ _ _ _ _,be1_ HB.out GE359.out⟩
 ·rw [if_neg c2] at H
  have c2b0 : decide (a0 < 1) = false:=decide_eq_false c2
  clear c2
  by_cases c5 : a0 > 4
  ·rw [if_pos c5] at H
   have c5b0 : decide (4 < a0) = true:=decide_eq_true c5
   clear c5
   simp only [Option.some.injEq,Prod.mk.injEq] at H
   obtain ⟨rfl,rfl,rfl⟩:=H
   go_enter Try.func79,Try.ntmps79
   go_wp2_with (first|((with_reducible refine bev_ (N:=2) rfl rfl (cs:=#[.int .i64 0,.slice none 0 0]) (t:=35) ?hr ?_);(case hr => first|(go_simp;done)|(go_simp;rfl));intro gb359 hg w6 hbox hb;have BK359:=Aside0.mk (hbox);have GW359:=Aside0.mk (szg_ hg (below_size (be0_ HB.out)));have GE359:=Aside0.mk (szg_ hg (below_size (be0_ HB.out)));replace HB:=Aside0.mk (below_step (be0_ HB.out) hb);clear hb hbox hg;obtain ⟨hcz7_0,hcz7_1,hfz7_0,hfz7_1⟩:=cf2_ BK359.out))
   refine bodyPost_ret (results_ct rfl _ _ gb359 35 #[.int .i64 0,.slice none 0 0] (0,0) _ rfl (by refine pe_ ?_;refine blk_put (cs:=#[.int .i64 0,.slice none 0 0]) ?_ 1 _ rfl;refine pe_ ?_;refine blk_put (cs:=#[.int .i64 0,.slice none 0 0]) ?_ 0 _ rfl;refine pe_ ?_;exact BK359.out) Try.underlying35 rfl (by kernel_rfl)) rfl ?_
   exact ⟨_,er_,by first|exact Kd.R_nil _ _ _ _ _|exact Kd.N_nil _ _ _ _ _|exact Kd.V_nil _ _ _ _ _|exact Kd.Q_nil _ _ _ _ _|exact Kd.S_nil _ _ _ _ _,be1_ HB.out GE359.out⟩
  ·rw [if_neg c5] at H
   have c5b0 : decide (4 < a0) = false:=decide_eq_false c5
   clear c5
   replace H:=Option.bind_eq_some_iff.mp H
   obtain ⟨⟨t360,t361⟩,A80,H⟩:=H
   replace H : (some (t360,t361,true)) = some (r1,r2,r3):=H
   have A8:=Aside0.mk A80
   clear A80
   simp only [Option.some.injEq,Prod.mk.injEq] at H
   obtain ⟨rfl,rfl,rfl⟩:=H
   go_enter Try.func79,Try.ntmps79
   go_wp2_with (first|((with_reducible refine bev_ (N:=2) rfl rfl (cs:=#[.int .i64 0,.slice none 0 0]) (t:=35) ?hr ?_);(case hr => first|(go_simp;done)|(go_simp;rfl));intro gb359 hg w9 hbox hb;have BK359:=Aside0.mk (hbox);have GW359:=Aside0.mk (szg_ hg (below_size (be0_ HB.out)));have GE359:=Aside0.mk (szg_ hg (below_size (be0_ HB.out)));replace HB:=Aside0.mk (below_step (be0_ HB.out) hb);clear hb hbox hg)|((with_reducible refine gate_callee (f:=112) rfl ?_);refine goesL_ (some 12) rfl rfl Try.func112 (by kernel_rfl) rfl #[.int .i64 a0,.func (.func 134) #[] #[]] rfl lp_ ?_;(with_reducible refine (impl_filled__impl_UnitMatrix_1.calls k a0 t360 t361 _ A8.out).mono ?_);rintro e w10 ⟨v362,rfl,ho0,hb⟩;refine ⟨_,rfl,?_⟩;have HO363:=Aside0.mk (Kd.R_lower ho0 (below_size (be1_ HB.out GE359.out)));replace BK359:=Aside0.mk (kb_ BK359.out hb);replace HB:=Aside0.mk (below_step (be1_ HB.out GE359.out) hb);(try clear hb);(try clear hb2);(try clear hk);(try clear hi);(try clear ho0);obtain ⟨hcz11_0,hcz11_1,hfz11_0,hfz11_1⟩:=cf2_ BK359.out;obtain ⟨Ao12,co12,eo12⟩:=Kd.R_slice HO363.out;subst eo12))
   refine bodyPost_ret (results_ct rfl _ _ gb359 35 #[.int .i64 t360,.slice Ao12 t361.length co12] (0,0) _ rfl (by refine pe_ ?_;refine blk_put (cs:=#[.int .i64 t360,.slice none 0 0]) ?_ 1 _ rfl;refine pe_ ?_;refine blk_put (cs:=#[.int .i64 0,.slice none 0 0]) ?_ 0 _ rfl;refine pe_ ?_;exact BK359.out) Try.underlying35 rfl (by kernel_rfl)) rfl ?_
   exact ⟨_,er_,by refine pr_ ?_;exact Kd.R_mono (Kd.R_far (p:=⟨gb359,1,none⟩) (Kd.R_far (p:=⟨gb359,0,none⟩) (Kd.R_types HO363.out BK359.out (by decide)) (fun _ hk => hk.2) (.int .i64 t360)) (fun _ hk => hk.2) (.slice Ao12 t361.length co12)) (fun _ hk => trivial),be1_ HB.out GE359.out⟩
def impl_WordValid.l0 : Nat → ByteArray → Int → Int → Option (Bool)
 | 0,_,_,_ => none
 | k + 1,x0,x5,x6 => if x6 < x5 then (if 0 ≤ x6 then (if x6 < (x0.size : Int) then (if (bt x0 x6) = 97 then (impl_WordValid.l0 k x0 x5 (wrap64 (x6 + 1))) else (if (bt x0 x6) = 98 then (impl_WordValid.l0 k x0 x5 (wrap64 (x6 + 1))) else (some false))) else (none)) else (none)) else (some (decide ((x0.size : Int) ≤ 1000)))
def impl_WordValid.f (k : Nat) (a0 : ByteArray) : Option (Bool):=impl_WordValid.l0 k a0 (a0.size : Int) 0
theorem impl_WordValid.mono_l : ∀ k,(∀ y0 y1 y2,LeO (impl_WordValid.l0 k y0 y1 y2) (impl_WordValid.l0 (k + 1) y0 y1 y2))
 | 0 => fun _ _ _ r h => by simp [impl_WordValid.l0] at h
 | k + 1 => by
  have ih0:=impl_WordValid.mono_l k
  ·intro y0 y1 y2
   unfold impl_WordValid.l0
   repeat' first
   | (with_reducible exact ih0 _ _ _)
   | (with_reducible exact LeO.refl _)
   | (with_reducible exact LeO.none _)
   | (with_reducible refine LeO.ite ?_ ?_)
   | (with_reducible refine LeO.bind ?_ (fun _ => ?_))
   | exact ih0 _ _ _
   | exact LeO.none _
   | refine LeO.ite ?_ ?_
   | refine LeO.bind ?_ (fun _ => ?_)
theorem impl_WordValid.mono : ∀ a0 k,LeO (impl_WordValid.f k a0) (impl_WordValid.f (k + 1) a0):=by
 intro a0 k
 have ih0:=impl_WordValid.mono_l k
 unfold impl_WordValid.f
 repeat' first
   | (with_reducible exact ih0 _ _ _)
   | (with_reducible exact LeO.refl _)
   | (with_reducible exact LeO.none _)
   | (with_reducible refine LeO.ite ?_ ?_)
   | (with_reducible refine LeO.bind ?_ (fun _ => ?_))
   | exact ih0 _ _ _
   | exact LeO.none _
   | refine LeO.ite ?_ ?_
   | refine LeO.bind ?_ (fun _ => ?_)
set_option maxHeartbeats 8000000 in
set_option maxRecDepth 100000 in
theorem impl_WordValid.calls (k : Nat) (a0 : ByteArray) (r : Bool) (w : World) (h : impl_WordValid.f k a0 = some r) :
  Calls Try.prog 78 #[.string a0] w fun e w' => e = .returned (.bool r) ∧ Drawn0 w w':=by
 have H : (impl_WordValid.l0 k a0 (a0.size : Int) 0) = some r:=h
 clear h
 have H':=Aside0.mk H
 clear H
 go_enter Try.func78,Try.ntmps78
 go_wp2
 go_loopg [6] k (fun kq v6 w' => ∃ (x6_1 : Int),v6 = .int .i64 x6_1 ∧ Aside0 (impl_WordValid.l0 kq a0 (a0.size : Int) x6_1 = some r) ∧ Aside0 (kq ≤ k) ∧ Drawn0 w w')
 case atStart => exact ⟨(0),rs_,H',⟨Nat.le_refl _⟩,by repeat (first|exact Drawn0.refl _|apply Drawn0.step)⟩
 case round =>
  clear H'
  obtain ⟨x6_1,rfl,HA,HK1,⟨m1,rfl⟩⟩:=hrel
  cases gk with
  | zero => exact absurd HA.out (by simp [impl_WordValid.l0])
  | succ k1 =>
   have H:=HA.out
   clear HA
   simp only [impl_WordValid.l0] at H
   by_cases c2 : x6_1 < (a0.size : Int)
   ·rw [if_pos c2] at H
    have c2b0 : decide (x6_1 < (a0.size : Int)) = true:=decide_eq_true c2
    clear c2
    by_cases c3 : 0 ≤ x6_1
    ·rw [if_pos c3] at H
     have c3b0 : decide (0 ≤ x6_1) = true:=decide_eq_true c3
     clear c3
     by_cases c4 : x6_1 < (a0.size : Int)
     ·rw [if_pos c4] at H
      have c4b0 : decide (x6_1 < (a0.size : Int)) = true:=decide_eq_true c4
      clear c4
      by_cases c6 : (bt a0 x6_1) = 97
      ·rw [if_pos c6] at H
       have c6b0 : ((bt a0 x6_1) == 97) = true:=beq_iff_eq.mpr c6
       have c6b1 : ((bt a0 x6_1) != 97) = false:=bne_eq_false_iff_eq.mpr c6
       clear c6
       have H':=Aside0.mk H
       clear H
       have p5 : 0 ≤ (x6_1 : Int):=of_decide_eq_true (by first|(with_reducible assumption)|assumption)
       have q5 : x6_1 < (a0.size : Int):=of_decide_eq_true (by first|(with_reducible assumption)|assumption)
       have hx5:=bt_at a0 x6_1
       replace p5:=eq_true p5
       replace q5:=eq_true q5
       go_wp2
       go_roundg k1
       case measure => have:=HK1.out;omega
       case rel => exact ⟨(wrap64 (x6_1 + 1)),rs_,H',⟨by have:=HK1.out;omega⟩,by repeat (first|exact Drawn0.refl _|apply Drawn0.step)⟩
      ·rw [if_neg c6] at H
       have c6b0 : ((bt a0 x6_1) == 97) = false:=beq_eq_false_iff_ne.mpr c6
       have c6b1 : ((bt a0 x6_1) != 97) = true:=bne_iff_ne.mpr c6
       by_cases c8 : (bt a0 x6_1) = 98
       ·rw [if_pos c8] at H
        have c8b0 : ((bt a0 x6_1) == 98) = true:=beq_iff_eq.mpr c8
        have c8b1 : ((bt a0 x6_1) != 98) = false:=bne_eq_false_iff_eq.mpr c8
        clear c8
        have H':=Aside0.mk H
        clear H
        have p5 : 0 ≤ (x6_1 : Int):=of_decide_eq_true (by first|(with_reducible assumption)|assumption)
        have q5 : x6_1 < (a0.size : Int):=of_decide_eq_true (by first|(with_reducible assumption)|assumption)
        have hx5:=bt_at a0 x6_1
        replace p5:=eq_true p5
        replace q5:=eq_true q5
        have p7 : 0 ≤ (x6_1 : Int):=of_decide_eq_true (by first|(with_reducible assumption)|assumption)
        have q7 : x6_1 < (a0.size : Int):=of_decide_eq_true (by first|(with_reducible assumption)|assumption)
        have hx7:=bt_at a0 x6_1
        replace p7:=eq_true p7
        replace q7:=eq_true q7
        go_wp2
        go_roundg k1
        case measure => have:=HK1.out;omega
        case rel => exact ⟨(wrap64 (x6_1 + 1)),rs_,H',⟨by have:=HK1.out;omega⟩,by repeat (first|exact Drawn0.refl _|apply Drawn0.step)⟩
       ·rw [if_neg c8] at H
        have c8b0 : ((bt a0 x6_1) == 98) = false:=beq_eq_false_iff_ne.mpr c8
        have c8b1 : ((bt a0 x6_1) != 98) = true:=bne_iff_ne.mpr c8
        obtain rfl:=Option.some.inj H
        have p5 : 0 ≤ (x6_1 : Int):=of_decide_eq_true (by first|(with_reducible assumption)|assumption)
        have q5 : x6_1 < (a0.size : Int):=of_decide_eq_true (by first|(with_reducible assumption)|assumption)
        have hx5:=bt_at a0 x6_1
        replace p5:=eq_true p5
        replace q5:=eq_true q5
        have p7 : 0 ≤ (x6_1 : Int):=of_decide_eq_true (by first|(with_reducible assumption)|assumption)
        have q7 : x6_1 < (a0.size : Int):=of_decide_eq_true (by first|(with_reducible assumption)|assumption)
        have hx7:=bt_at a0 x6_1
        replace p7:=eq_true p7
        replace q7:=eq_true q7
        go_wp2
        go_ret
        exact ⟨by first|rfl|(simp;done)|(simp [*];done),by repeat (first|exact Drawn0.refl _|apply Drawn0.step)⟩
     ·rw [if_neg c4] at H
      exact absurd H (by simp)
    ·rw [if_neg c3] at H
     exact absurd H (by simp)
   ·rw [if_neg c2] at H
    have c2b0 : decide (x6_1 < (a0.size : Int)) = false:=decide_eq_false c2
    clear c2
    obtain rfl:=Option.some.inj H
    go_wp2
    go_ret
    exact ⟨by first|rfl|(simp;done)|(simp [*];done),by repeat (first|exact Drawn0.refl _|apply Drawn0.step)⟩
mutual
def impl_WordMatrix.j0 : Nat → ByteArray → Bool → Int → List Int → List Int → List (S92) → Option (Int × List Int × Bool)
 | 0,_,_,_,_,_,_ => none
 | k + 1,x1,x18,x393000,x393001,x393002,x393003 => if x18 = true then (some (0,([] : List Int),false)) else ((impl_UnitMatrix.f k x393000).bind fun bt396 => (impl_WordMatrix.l0 k x1 (x1.size : Int) 0 x393000 x393001 x393002 x393003 bt396.1 bt396.2.1))
def impl_WordMatrix.l0 : Nat → ByteArray → Int → Int → Int → List Int → List Int → List (S92) → Int → List Int → Option (Int × List Int × Bool)
 | 0,_,_,_,_,_,_,_,_,_ => none
 | k + 1,x1,x27,x28,x393000,x393001,x393002,x393003,x402000,x402001 => if x28 < x27 then (if 0 ≤ x28 then (if x28 ≤ (wrap64 (x28 + 1)) then (if (wrap64 (x28 + 1)) ≤ (x1.size : Int) then ((impl_StepMatrix.f k x393000 x393001 x393002 x393003 (x1.extract (x28 : Int).toNat ((wrap64 (x28 + 1)) : Int).toNat)).bind fun bt402 => ((impl_MulMatrix.f k x402000 x402001 bt402.1 bt402.2.1).bind fun bt408 => (impl_WordMatrix.l0 k x1 x27 (wrap64 (x28 + 1)) x393000 x393001 x393002 x393003 bt408.1 bt408.2.1))) else (none)) else (none)) else (none)) else (some (x402000,x402001,true))
end
def impl_WordMatrix.f (k : Nat) (a0_0 : Int) (l0_1 : List Int) (l0_2 : List Int) (l0_3 : List (S92)) (a1 : ByteArray) : Option (Int × List Int × Bool):=(impl_AutomatonValid.f k a0_0 l0_1 l0_2 l0_3).bind fun t394 => (if t394 = true then ((impl_WordValid.f k a1).bind fun t395 => (impl_WordMatrix.j0 k a1 (!t395) a0_0 l0_1 l0_2 l0_3)) else (impl_WordMatrix.j0 k a1 true a0_0 l0_1 l0_2 l0_3))
theorem impl_WordMatrix.mono_l : ∀ k,(∀ y0 y1 y2 y3 y4 y5,LeO (impl_WordMatrix.j0 k y0 y1 y2 y3 y4 y5) (impl_WordMatrix.j0 (k + 1) y0 y1 y2 y3 y4 y5)) ∧ (∀ y0 y1 y2 y3 y4 y5 y6 y7 y8,LeO (impl_WordMatrix.l0 k y0 y1 y2 y3 y4 y5 y6 y7 y8) (impl_WordMatrix.l0 (k + 1) y0 y1 y2 y3 y4 y5 y6 y7 y8))
 | 0 => ⟨fun _ _ _ _ _ _ r h => by simp [impl_WordMatrix.j0] at h,fun _ _ _ _ _ _ _ _ _ r h => by simp [impl_WordMatrix.l0] at h⟩
 | k + 1 => by
  obtain ⟨ih0,ih1⟩:=impl_WordMatrix.mono_l k
  refine ⟨?_,?_⟩
  ·intro y0 y1 y2 y3 y4 y5
   unfold impl_WordMatrix.j0
   repeat' first
   | (with_reducible exact ih0 _ _ _ _ _ _)
   | (with_reducible exact ih1 _ _ _ _ _ _ _ _ _)
   | (with_reducible exact impl_AutomatonValid.mono _ _ _ _ _)
   | (with_reducible exact impl_MulMatrix.mono _ _ _ _ _)
   | (with_reducible exact impl_StepMatrix.mono _ _ _ _ _ _)
   | (with_reducible exact impl_UnitMatrix.mono _ _)
   | (with_reducible exact impl_WordValid.mono _ _)
   | (with_reducible exact LeO.refl _)
   | (with_reducible exact LeO.none _)
   | (with_reducible refine LeO.ite ?_ ?_)
   | (with_reducible refine LeO.bind ?_ (fun _ => ?_))
   | exact ih0 _ _ _ _ _ _
   | exact ih1 _ _ _ _ _ _ _ _ _
   | exact impl_AutomatonValid.mono _ _ _ _ _
   | exact impl_MulMatrix.mono _ _ _ _ _
   | exact impl_StepMatrix.mono _ _ _ _ _ _
   | exact impl_UnitMatrix.mono _ _
   | exact impl_WordValid.mono _ _
   | exact LeO.none _
   | refine LeO.ite ?_ ?_
   | refine LeO.bind ?_ (fun _ => ?_)
  ·intro y0 y1 y2 y3 y4 y5 y6 y7 y8
   unfold impl_WordMatrix.l0
   repeat' first
   | (with_reducible exact ih0 _ _ _ _ _ _)
   | (with_reducible exact ih1 _ _ _ _ _ _ _ _ _)
   | (with_reducible exact impl_AutomatonValid.mono _ _ _ _ _)
   | (with_reducible exact impl_MulMatrix.mono _ _ _ _ _)
   | (with_reducible exact impl_StepMatrix.mono _ _ _ _ _ _)
   | (with_reducible exact impl_UnitMatrix.mono _ _)
   | (with_reducible exact impl_WordValid.mono _ _)
   | (with_reducible exact LeO.refl _)
   | (with_reducible exact LeO.none _)
   | (with_reducible refine LeO.ite ?_ ?_)
   | (with_reducible refine LeO.bind ?_ (fun _ => ?_))
   | exact ih0 _ _ _ _ _ _
   | exact ih1 _ _ _ _ _ _ _ _ _
   | exact impl_AutomatonValid.mono _ _ _ _ _
   | exact impl_MulMatrix.mono _ _ _ _ _
   | exact impl_StepMatrix.mono _ _ _ _ _ _
   | exact impl_UnitMatrix.mono _ _
   | exact impl_WordValid.mono _ _
   | exact LeO.none _
   | refine LeO.ite ?_ ?_
   | refine LeO.bind ?_ (fun _ => ?_)
theorem impl_WordMatrix.mono : ∀ a0 a1 a2 a3 a4 k,LeO (impl_WordMatrix.f k a0 a1 a2 a3 a4) (impl_WordMatrix.f (k + 1) a0 a1 a2 a3 a4):=by
 intro a0 a1 a2 a3 a4 k
 obtain ⟨ih0,ih1⟩:=impl_WordMatrix.mono_l k
 unfold impl_WordMatrix.f
 repeat' first
   | (with_reducible exact ih0 _ _ _ _ _ _)
   | (with_reducible exact ih1 _ _ _ _ _ _ _ _ _)
   | (with_reducible exact impl_AutomatonValid.mono _ _ _ _ _)
   | (with_reducible exact impl_MulMatrix.mono _ _ _ _ _)
   | (with_reducible exact impl_StepMatrix.mono _ _ _ _ _ _)
   | (with_reducible exact impl_UnitMatrix.mono _ _)
   | (with_reducible exact impl_WordValid.mono _ _)
   | (with_reducible exact LeO.refl _)
   | (with_reducible exact LeO.none _)
   | (with_reducible refine LeO.ite ?_ ?_)
   | (with_reducible refine LeO.bind ?_ (fun _ => ?_))
   | exact ih0 _ _ _ _ _ _
   | exact ih1 _ _ _ _ _ _ _ _ _
   | exact impl_AutomatonValid.mono _ _ _ _ _
   | exact impl_MulMatrix.mono _ _ _ _ _
   | exact impl_StepMatrix.mono _ _ _ _ _ _
   | exact impl_UnitMatrix.mono _ _
   | exact impl_WordValid.mono _ _
   | exact LeO.none _
   | refine LeO.ite ?_ ?_
   | refine LeO.bind ?_ (fun _ => ?_)
def impl_WordMatrix.T7 : Bool × List (List Nat × List Nat):=(true,[([],[]),([],[]),([],[]),([],[]),([3],[3]),([1,2,4],[1,2,4]),([0,5],[0,5]),([6],[6]),([7],[7]),([7],[7]),([],[]),([10,8,6,0,1,2,3,4,5,6,7,8,10],[8,10]),([9,11,0,1,2,3,4,5,6,7,8,9,10,11],[9])])
def impl_WordMatrix.B7 : List Nat:=[0,0,0,0,8,30,63,127,255,255,0,1535,4095]
theorem impl_WordMatrix.tab7 : rtab .any (opsOf Try.f23 7) = impl_WordMatrix.T7:=by kernel_rfl
theorem impl_WordMatrix.bits7 : waitsOk impl_WordMatrix.T7.2 impl_WordMatrix.B7 = true:=by kernel_rfl
set_option maxHeartbeats 8000000 in
set_option maxRecDepth 100000 in
theorem impl_WordMatrix.calls (k : Nat) (a0_0 : Int) (A0_1 : Option Addr) (c0_1 : Nat) (l0_1 : List Int) (A0_2 : Option Addr) (c0_2 : Nat) (l0_2 : List Int) (A0_3 : Option Addr) (c0_3 : Nat) (l0_3 : List (S92)) (a1 : ByteArray) (r1 : Int) (r2 : List Int) (r3 : Bool) (w : World) (hr0_1 : Kd.C (Kd.int .i64) w A0_1 l0_1.length l0_1) (hc0_1 : l0_1.length ≤ c0_1) (hr0_2 : Kd.C (Kd.int .i64) w A0_2 l0_2.length l0_2) (hc0_2 : l0_2.length ≤ c0_2) (hr0_3 : Kd.C k92 w A0_3 l0_3.length l0_3) (hc0_3 : l0_3.length ≤ c0_3) (h : impl_WordMatrix.f k a0_0 l0_1 l0_2 l0_3 a1 = some (r1,r2,r3)) :
  Calls Try.prog 23 #[.agg #[.int .i64 a0_0,.slice A0_1 l0_1.length c0_1,.slice A0_2 l0_2.length c0_2,.slice A0_3 l0_3.length c0_3],.string a1] w fun e w' => ∃ v1_ : Value,e = .returned (.tuple #[.agg #[.int .i64 r1,v1_],.bool r3]) ∧ Kd.R (Kd.int .i64) 3 w' w.heap.size (fun _ => True) v1_ r2 ∧ Below w.heap.size w w':=by
 have hu33:=Try.underlying33
 have hu35:=Try.underlying35
 have HR0_1:=Aside0.mk hr0_1
 have HC0_1:=Aside0.mk hc0_1
 clear hr0_1 hc0_1
 have HR0_2:=Aside0.mk hr0_2
 have HC0_2:=Aside0.mk hc0_2
 clear hr0_2 hc0_2
 have HR0_3:=Aside0.mk hr0_3
 have HC0_3:=Aside0.mk hc0_3
 clear hr0_3 hc0_3
 have HB:=Aside0.mk (Below.refl w.heap.size w)
 have H : ((impl_AutomatonValid.f k a0_0 l0_1 l0_2 l0_3).bind fun t394 => (if t394 = true then ((impl_WordValid.f k a1).bind fun t395 => (impl_WordMatrix.j0 k a1 (!t395) a0_0 l0_1 l0_2 l0_3)) else (impl_WordMatrix.j0 k a1 true a0_0 l0_1 l0_2 l0_3))) = some (r1,r2,r3):=h
 clear h
 have HC3:=Aside0.mk H
 clear H
 go_enter Try.func23,Try.ntmps23
 go_upto_region 1 with (first|((with_reducible refine bev_ (N:=2) rfl rfl (cs:=#[.int .i64 a0_0,.slice A0_1 l0_1.length c0_1,.slice A0_2 l0_2.length c0_2,.slice A0_3 l0_3.length c0_3]) (t:=33) ?hr ?_);(case hr => first|(go_simp;done)|(go_simp;rfl));intro gb392 hg w4 hbox hb;have BK392:=Aside0.mk (hbox);have GW392:=Aside0.mk (szg_ hg (below_size (be0_ HB.out)));have GE392:=Aside0.mk (szg_ hg (below_size (be0_ HB.out)));replace HB:=Aside0.mk (below_step (be0_ HB.out) hb);clear hb hbox hg)|((with_reducible refine bev_ (N:=4) rfl rfl (cs:=#[.int .i64 0,.slice none 0 0]) (t:=35) ?hr ?_);(case hr => first|(go_simp;done)|(go_simp;rfl));intro gb393 hg w5 hbox hb;have BK393:=Aside0.mk (hbox);have GW393:=Aside0.mk (szg_ hg (below_size (be1_ HB.out GE392.out)));have GE393:=Aside0.mk (szg_ hg (below_size (be1_ HB.out GE392.out)));replace HB:=Aside0.mk (below_step (be1_ HB.out GE392.out) hb);have NB392_393:=Aside0.mk (nl_ hg BK392.out);have NB393_392:=Aside0.mk (ng_ hg BK392.out);replace BK392:=Aside0.mk (kb_ BK392.out hb);clear hb hbox hg))
 (try simp only [Act.put,List.setIfInBounds_toArray,List.set_cons_zero,List.set_cons_succ])
 go_cut [18] (fun v18 wc => ∃ (kq : Nat) (x18_2 : Bool),v18 = .bool x18_2 ∧ Aside0 (impl_WordMatrix.j0 kq a1 x18_2 a0_0 l0_1 l0_2 l0_3 = some (r1,r2,r3)) ∧ Aside0 (kq ≤ k) ∧ Aside0 (wc.heap[gb392]? = some (.cells #[.int .i64 a0_0,(.slice A0_1 l0_1.length c0_1),(.slice A0_2 l0_2.length c0_2),(.slice A0_3 l0_3.length c0_3)] 33 (0,0))) ∧ Aside0 (wc.heap[gb393]? = some (.cells #[.int .i64 0,(.slice none 0 0)] 35 (0,0))) ∧ Aside0 (Below w.heap.size w wc))
 case first =>
  have H:=HC3.out
  clear HC3
  replace H:=Option.bind_eq_some_iff.mp H
  obtain ⟨t394,A60,H⟩:=H
  replace H : (if t394 = true then ((impl_WordValid.f k a1).bind fun t395 => (impl_WordMatrix.j0 k a1 (!t395) a0_0 l0_1 l0_2 l0_3)) else (impl_WordMatrix.j0 k a1 true a0_0 l0_1 l0_2 l0_3)) = some (r1,r2,r3):=H
  have A6:=Aside0.mk A60
  clear A60
  by_cases c7 : t394 = true
  ·subst c7
   have H1 : ((impl_WordValid.f k a1).bind fun t395 => (impl_WordMatrix.j0 k a1 (!t395) a0_0 l0_1 l0_2 l0_3)) = some (r1,r2,r3):=by rw [if_pos rfl] at H;exact H
   clear H
   have H:=H1
   clear H1
   replace H:=Option.bind_eq_some_iff.mp H
   obtain ⟨t395,A80,H⟩:=H
   replace H : (impl_WordMatrix.j0 k a1 (!t395) a0_0 l0_1 l0_2 l0_3) = some (r1,r2,r3):=H
   have A8:=Aside0.mk A80
   clear A80
   have H':=Aside0.mk H
   clear H
   have hnb9:=NB392_393.out
   have hnc9:=NB393_392.out
   obtain ⟨hcz10_0,hcz10_1,hcz10_2,hcz10_3,hfz10_0,hfz10_1,hfz10_2,hfz10_3⟩:=cf4_ BK392.out
   go_wp2_with (first|((with_reducible refine gate_callee (f:=72) rfl ?_);refine goesL_ (some 12) rfl rfl Try.func72 (by kernel_rfl) rfl #[.agg #[.int .i64 a0_0,.slice A0_1 l0_1.length c0_1,.slice A0_2 l0_2.length c0_2,.slice A0_3 l0_3.length c0_3]] rfl lp_ ?_;(with_reducible refine (impl_AutomatonValid.calls k a0_0 _ _ l0_1 _ _ l0_2 _ _ l0_3 true _ ?side1 ?side2 ?side3 ?side4 ?side5 ?side6 A6.out).mono ?_);(case side1 => exact cr_ (Kd.C_below HR0_1.out HB.out));(case side2 => exact HC0_1.out);(case side3 => exact cr_ (Kd.C_below HR0_2.out HB.out));(case side4 => exact HC0_2.out);(case side5 => exact cr_ (Kd.C_below HR0_3.out HB.out));(case side6 => exact HC0_3.out);rintro e w11 ⟨rfl,hb⟩;refine ⟨_,rfl,?_⟩;replace BK392:=Aside0.mk (kb_ BK392.out hb);replace BK393:=Aside0.mk (kb_ BK393.out hb);replace HB:=Aside0.mk (below_step (be2_ HB.out GE392.out GE393.out) hb);(try clear hb);(try clear hb2);(try clear hk);(try clear hi))|(go_at_call 78;(with_reducible refine (impl_WordValid.calls k a1 t395 _ A8.out).mono ?_);rintro e w' ⟨rfl,⟨nd,rfl⟩⟩))
   go_meet
   case rel => exact ⟨_,(!t395),rs_,H',⟨by first|omega|exact Nat.le_refl _⟩,⟨pe_ BK392.out⟩,⟨pe_ BK393.out⟩,⟨be2_ HB.out GE392.out GE393.out⟩⟩
  ·replace c7:=Bool.eq_false_iff.mpr c7
   subst c7
   have H1 : (impl_WordMatrix.j0 k a1 true a0_0 l0_1 l0_2 l0_3) = some (r1,r2,r3):=by rw [if_neg (show ¬ (false = true) by decide)] at H;exact H
   clear H
   have H:=H1
   clear H1
   have H':=Aside0.mk H
   clear H
   have hnb12:=NB392_393.out
   have hnc12:=NB393_392.out
   obtain ⟨hcz13_0,hcz13_1,hcz13_2,hcz13_3,hfz13_0,hfz13_1,hfz13_2,hfz13_3⟩:=cf4_ BK392.out
   go_wp2_with (first|((with_reducible refine gate_callee (f:=72) rfl ?_);refine goesL_ (some 12) rfl rfl Try.func72 (by kernel_rfl) rfl #[.agg #[.int .i64 a0_0,.slice A0_1 l0_1.length c0_1,.slice A0_2 l0_2.length c0_2,.slice A0_3 l0_3.length c0_3]] rfl lp_ ?_;(with_reducible refine (impl_AutomatonValid.calls k a0_0 _ _ l0_1 _ _ l0_2 _ _ l0_3 false _ ?side1 ?side2 ?side3 ?side4 ?side5 ?side6 A6.out).mono ?_);(case side1 => exact cr_ (Kd.C_below HR0_1.out HB.out));(case side2 => exact HC0_1.out);(case side3 => exact cr_ (Kd.C_below HR0_2.out HB.out));(case side4 => exact HC0_2.out);(case side5 => exact cr_ (Kd.C_below HR0_3.out HB.out));(case side6 => exact HC0_3.out);rintro e w14 ⟨rfl,hb⟩;refine ⟨_,rfl,?_⟩;replace BK392:=Aside0.mk (kb_ BK392.out hb);replace BK393:=Aside0.mk (kb_ BK393.out hb);replace HB:=Aside0.mk (below_step (be2_ HB.out GE392.out GE393.out) hb);(try clear hb);(try clear hb2);(try clear hk);(try clear hi)))
   go_meet
   case rel => exact ⟨_,(true),rs_,H',⟨by first|omega|exact Nat.le_refl _⟩,⟨pe_ BK392.out⟩,⟨pe_ BK393.out⟩,⟨be2_ HB.out GE392.out GE393.out⟩⟩
 case rest =>
  clear HC3
  try clear c1
  try clear c2
  try clear p2
  try clear c7
  try clear c9
  try clear c12
  try clear hcz10_0
  try clear hcz10_1
  try clear hcz10_2
  try clear hcz10_3
  try clear hcz13_0
  try clear hcz13_1
  try clear hcz13_2
  try clear hcz13_3
  try clear hfz10_0
  try clear hfz10_1
  try clear hfz10_2
  try clear hfz10_3
  try clear hfz13_0
  try clear hfz13_1
  try clear hfz13_2
  try clear hfz13_3
  obtain ⟨kq,x18_2,rfl,HA,HJ2,BK392,BK393,HB⟩:=hcut
  cases kq with
  | zero => exact absurd HA.out (by simp [impl_WordMatrix.j0])
  | succ kj2 =>
   have H:=HA.out
   clear HA
   simp only [impl_WordMatrix.j0] at H
   by_cases c15 : x18_2 = true
   ·subst c15
    have H1 : (some (0,([] : List Int),false)) = some (r1,r2,r3):=by rw [if_pos rfl] at H;exact H
    clear H
    have H:=H1
    clear H1
    simp only [Option.some.injEq,Prod.mk.injEq] at H
    obtain ⟨rfl,rfl,rfl⟩:=H
    have hnb16:=NB393_392.out
    have hnc16:=NB392_393.out
    obtain ⟨hcz17_0,hcz17_1,hfz17_0,hfz17_1⟩:=cf2_ BK393.out
    go_wp2
    refine bodyPost_ret (results_ct rfl _ _ gb393 35 #[.int .i64 0,.slice none 0 0] (0,0) _ rfl (by refine pe_ ?_;refine blk_put (cs:=#[.int .i64 0,.slice none 0 0]) ?_ 1 _ rfl;refine pe_ ?_;refine blk_put (cs:=#[.int .i64 0,.slice none 0 0]) ?_ 0 _ rfl;refine pe_ ?_;exact BK393.out) Try.underlying35 rfl (by kernel_rfl)) rfl ?_
    exact ⟨_,er_,by first|exact Kd.R_nil _ _ _ _ _|exact Kd.N_nil _ _ _ _ _|exact Kd.V_nil _ _ _ _ _|exact Kd.Q_nil _ _ _ _ _|exact Kd.S_nil _ _ _ _ _,be2_ HB.out GE392.out GE393.out⟩
   ·replace c15:=Bool.eq_false_iff.mpr c15
    subst c15
    have H1 : ((impl_UnitMatrix.f kj2 a0_0).bind fun bt396 => (impl_WordMatrix.l0 kj2 a1 (a1.size : Int) 0 a0_0 l0_1 l0_2 l0_3 bt396.1 bt396.2.1)) = some (r1,r2,r3):=by rw [if_neg (show ¬ (false = true) by decide)] at H;exact H
    clear H
    have H:=H1
    clear H1
    replace H:=Option.bind_eq_some_iff.mp H
    obtain ⟨⟨t396,t397,t400⟩,A180,H⟩:=H
    replace H : (impl_WordMatrix.l0 kj2 a1 (a1.size : Int) 0 a0_0 l0_1 l0_2 l0_3 t396 t397) = some (r1,r2,r3):=H
    have A18:=Aside0.mk A180
    clear A180
    have H':=Aside0.mk H
    clear H
    have hnb19:=NB392_393.out
    have hnc19:=NB393_392.out
    obtain ⟨hcz20_0,hcz20_1,hcz20_2,hcz20_3,hfz20_0,hfz20_1,hfz20_2,hfz20_3⟩:=cf4_ BK392.out
    go_wp2_with (first|((with_reducible refine gate_callee (f:=79) rfl ?_);refine goesL_ (some 23) rfl rfl Try.func79 (by kernel_rfl) rfl #[.int .i64 a0_0] rfl lp_ ?_;(with_reducible refine (impl_UnitMatrix.calls kj2 a0_0 t396 t397 t400 _ A18.out).mono ?_);rintro e w21 ⟨v398,rfl,ho0,hb⟩;refine ⟨_,rfl,?_⟩;have HO399:=Aside0.mk (Kd.R_lower ho0 (below_size (be2_ HB.out GE392.out GE393.out)));replace BK392:=Aside0.mk (kb_ BK392.out hb);replace BK393:=Aside0.mk (kb_ BK393.out hb);replace HB:=Aside0.mk (below_step (be2_ HB.out GE392.out GE393.out) hb);(try clear hb);(try clear hb2);(try clear hk);(try clear hi);(try clear ho0))|((with_reducible refine bev_ (N:=6) rfl rfl (cs:=#[.int .i64 0,.slice none 0 0]) (t:=35) ?hr ?_);(case hr => first|(go_simp;done)|(go_simp;rfl));intro gb401 hg w22 hbox hb;replace HO399:=Aside0.mk (Kd.R_below (pr_ HO399.out) hb);have BK401:=Aside0.mk (hbox);have GW401:=Aside0.mk (szg_ hg (below_size (be2_ HB.out GE392.out GE393.out)));have GE401:=Aside0.mk (szg_ hg (below_size (be2_ HB.out GE392.out GE393.out)));replace HB:=Aside0.mk (below_step (be2_ HB.out GE392.out GE393.out) hb);have NB392_401:=Aside0.mk (nl_ hg BK392.out);have NB401_392:=Aside0.mk (ng_ hg BK392.out);replace BK392:=Aside0.mk (kb_ BK392.out hb);have NB393_401:=Aside0.mk (nl_ hg BK393.out);have NB401_393:=Aside0.mk (ng_ hg BK393.out);replace BK393:=Aside0.mk (kb_ BK393.out hb);clear hb hbox hg;have hnb23:=NB401_392.out;have hnc23:=NB392_401.out;have hnb24:=NB401_393.out;have hnc24:=NB393_401.out;obtain ⟨hcz25_0,hcz25_1,hfz25_0,hfz25_1⟩:=cf2_ BK401.out;obtain ⟨Ao26,co26,eo26⟩:=Kd.R_slice HO399.out;subst eo26))
    go_loopg [28] kj2 (fun kq v28 w' => ∃ (x28_2 : Int) (x402000_2 : Int) (x402001_2 : List Int) (u402001 : Value),v28 = .int .i64 x28_2 ∧ Aside0 (impl_WordMatrix.l0 kq a1 (a1.size : Int) x28_2 a0_0 l0_1 l0_2 l0_3 x402000_2 x402001_2 = some (r1,r2,r3)) ∧ Aside0 (kq ≤ kj2) ∧ Aside0 (Kd.R (Kd.int .i64) 3 w' w.heap.size (fun _ => True) u402001 x402001_2) ∧ Aside0 (w'.heap[gb392]? = some (.cells #[.int .i64 a0_0,(.slice A0_1 l0_1.length c0_1),(.slice A0_2 l0_2.length c0_2),(.slice A0_3 l0_3.length c0_3)] 33 (0,0))) ∧ Aside0 (w'.heap[gb393]? = some (.cells #[.int .i64 0,(.slice none 0 0)] 35 (0,0))) ∧ Aside0 (w'.heap[gb401]? = some (.cells #[.int .i64 x402000_2,u402001] 35 (0,0))) ∧ Aside0 (Below w.heap.size w w'))
    case atStart => exact ⟨(0),(t396),(t397),(.slice Ao26 t397.length co26),rs_,H',⟨Nat.le_refl _⟩,⟨by refine pr_ ?_;exact Kd.R_mono (Kd.R_far (p:=⟨gb401,1,none⟩) (Kd.R_far (p:=⟨gb401,0,none⟩) (Kd.R_types HO399.out BK401.out (by decide)) (fun _ hk => hk.2) (.int .i64 t396)) (fun _ hk => hk.2) (.slice Ao26 t397.length co26)) (fun _ hk => trivial)⟩,⟨by refine pe_ ?_;refine blk_far ?_ NB392_401.out _;refine pe_ ?_;refine blk_far ?_ NB392_401.out _;refine pe_ ?_;exact BK392.out⟩,⟨by refine pe_ ?_;refine blk_far ?_ NB393_401.out _;refine pe_ ?_;refine blk_far ?_ NB393_401.out _;refine pe_ ?_;exact BK393.out⟩,⟨by refine pe_ ?_;refine blk_put (cs:=#[.int .i64 t396,.slice none 0 0]) ?_ 1 _ rfl;refine pe_ ?_;refine blk_put (cs:=#[.int .i64 0,.slice none 0 0]) ?_ 0 _ rfl;refine pe_ ?_;exact BK401.out⟩,⟨be3_ HB.out GE392.out GE393.out GE401.out⟩⟩
    case round =>
     clear H'
     try clear c1
     try clear c2
     try clear p2
     try clear c7
     try clear c9
     try clear c12
     try clear c15
     try clear c16
     try clear c19
     try clear c23
     try clear c24
     try clear hcz10_0
     try clear hcz10_1
     try clear hcz10_2
     try clear hcz10_3
     try clear hcz13_0
     try clear hcz13_1
     try clear hcz13_2
     try clear hcz13_3
     try clear hcz17_0
     try clear hcz17_1
     try clear hcz20_0
     try clear hcz20_1
     try clear hcz20_2
     try clear hcz20_3
     try clear hcz25_0
     try clear hcz25_1
     try clear hfz10_0
     try clear hfz10_1
     try clear hfz10_2
     try clear hfz10_3
     try clear hfz13_0
     try clear hfz13_1
     try clear hfz13_2
     try clear hfz13_3
     try clear hfz17_0
     try clear hfz17_1
     try clear hfz20_0
     try clear hfz20_1
     try clear hfz20_2
     try clear hfz20_3
     try clear hfz25_0
     try clear hfz25_1
     try clear p2
     obtain ⟨x28_2,x402000_2,x402001_2,u402001,rfl,HA,HK2,HO_402001,BK392,BK393,BK401,HB⟩:=hrel
     cases gk with
     | zero => exact absurd HA.out (by simp [impl_WordMatrix.l0])
     | succ k2 =>
      have H:=HA.out
      clear HA
      simp only [impl_WordMatrix.l0] at H
      by_cases c27 : x28_2 < (a1.size : Int)
      ·rw [if_pos c27] at H
       have c27b0 : decide (x28_2 < (a1.size : Int)) = true:=decide_eq_true c27
       clear c27
       by_cases c28 : 0 ≤ x28_2
       ·rw [if_pos c28] at H
        have c28b0:=eq_true c28
        have c28b1 : decide (0 ≤ x28_2) = true:=decide_eq_true c28
        clear c28
        by_cases c29 : x28_2 ≤ (wrap64 (x28_2 + 1))
        ·rw [if_pos c29] at H
         have c29b0:=eq_true c29
         have c29b1 : decide (x28_2 ≤ (wrap64 (x28_2 + 1))) = true:=decide_eq_true c29
         by_cases c30 : (wrap64 (x28_2 + 1)) ≤ (a1.size : Int)
         ·rw [if_pos c30] at H
          have c30b0:=eq_true c30
          have c30b1 : decide ((wrap64 (x28_2 + 1)) ≤ (a1.size : Int)) = true:=decide_eq_true c30
          replace H:=Option.bind_eq_some_iff.mp H
          obtain ⟨⟨t402,t403,t406⟩,A310,H⟩:=H
          replace H : ((impl_MulMatrix.f k2 x402000_2 x402001_2 t402 t403).bind fun bt408 => (impl_WordMatrix.l0 k2 a1 (a1.size : Int) (wrap64 (x28_2 + 1)) a0_0 l0_1 l0_2 l0_3 bt408.1 bt408.2.1)) = some (r1,r2,r3):=H
          have A31:=Aside0.mk A310
          clear A310
          replace H:=Option.bind_eq_some_iff.mp H
          obtain ⟨⟨t408,t409,t412⟩,A320,H⟩:=H
          replace H : (impl_WordMatrix.l0 k2 a1 (a1.size : Int) (wrap64 (x28_2 + 1)) a0_0 l0_1 l0_2 l0_3 t408 t409) = some (r1,r2,r3):=H
          have A32:=Aside0.mk A320
          clear A320
          have H':=Aside0.mk H
          clear H
          try go_wp2
          replace HO_402001:=Aside0.mk (Kd.R_drew HO_402001.out)
          replace BK392:=Aside0.mk (blk_drew BK392.out)
          replace BK393:=Aside0.mk (blk_drew BK393.out)
          replace BK401:=Aside0.mk (blk_drew BK401.out)
          replace HB:=Aside0.mk (below_drew1 HB.out)
          refine start_ (n:=13) (S:=fun w' => w'.cell? ⟨gb392,0,none⟩ = some (.int .i64 a0_0) ∧ w'.cell? ⟨gb392,1,none⟩ = some (.slice A0_1 l0_1.length c0_1) ∧ w'.cell? ⟨gb392,2,none⟩ = some (.slice A0_2 l0_2.length c0_2) ∧ w'.cell? ⟨gb392,3,none⟩ = some (.slice A0_3 l0_3.length c0_3)) (ds:=[]) #[false,false,false,false,false,false,false,false,false,false,false,false,false] (by kernel_rfl) rfl rfl ⟨(blk_cell BK392.out 0).trans rfl,(blk_cell BK392.out 1).trans rfl,(blk_cell BK392.out 2).trans rfl,(blk_cell BK392.out 3).trans rfl⟩ (fun hHeld => ?_);refine with_tabW impl_WordMatrix.tab7 impl_WordMatrix.bits7 (fun HT_ HW_ => ?_)
          generalize wr.drew = w33 at HO_402001 BK392 BK393 BK401 HB hHeld ⊢
          refine stW_ [.p 1 33,.p 2 34,.p 3 35,.p 4 36,.p 5 37,.t 0 32] 6 63 13 HT_.out HW_.out hHeld (a':=?_) ?_ rfl (by kernel_rfl) (fun _ _ _ _ h => h) ?_
          rotate_left
          ·repeat (first|exact Steps.nil|(refine Steps.p (oi:=?_) (v:=?_) (a1:=?_) ?_ ?_ ?_ ?_ ?_;rotate_left 2;rfl;rfl;(refine Or.inl ⟨by rfl,?_⟩;intro w';go_simp;with_reducible rfl);rotate_left;(simp only [Act.put,List.setIfInBounds_toArray,List.set_cons_zero,List.set_cons_succ,i64_w,i32_w];rfl))|(refine Steps.t (oi:=?_) (v:=?_) (a1:=?_) ?_ ?_ ?_ ?_ ?_;rotate_left 2;rfl;rfl;(refine Or.inl ⟨by rfl,?_⟩;rintro w' ⟨s0,s1,s2,s3⟩;go_simp;with_reducible rfl);rotate_left;(simp only [Act.put,List.setIfInBounds_toArray,List.set_cons_zero,List.set_cons_succ,i64_w,i32_w];rfl)))
          refine join_ (σ:=Value × Nat) 2 #[true,true,true,true,true,true,true,true,true,true,true,false,false] (fun s_ => [(38,.tuple #[.agg #[.int .i64 t402,s_.1],.bool t406]),(9,.pointer (some ⟨s_.2,0,none⟩)),(31,.tuple #[.agg #[.int .i64 t402,s_.1],.bool t406]),(39,.agg #[.int .i64 t402,s_.1]),(40,.bool t406)]) (fun s_ w' => (w'.cell? ⟨gb392,0,none⟩ = some (.int .i64 a0_0) ∧ w'.cell? ⟨gb392,1,none⟩ = some (.slice A0_1 l0_1.length c0_1) ∧ w'.cell? ⟨gb392,2,none⟩ = some (.slice A0_2 l0_2.length c0_2) ∧ w'.cell? ⟨gb392,3,none⟩ = some (.slice A0_3 l0_3.length c0_3)) ∧ (Kd.R (Kd.int .i64) 3 w' w.heap.size (fun k_ => some k_ ≠ (u402001 : Value).ownBlock) s_.1 t403) ∧ (Kd.R (Kd.int .i64) 3 w' w.heap.size (fun k_ => some k_ ≠ (s_.1 : Value).ownBlock) u402001 x402001_2) ∧ (w'.heap[gb392]? = some (.cells #[.int .i64 a0_0,.slice A0_1 l0_1.length c0_1,.slice A0_2 l0_2.length c0_2,.slice A0_3 l0_3.length c0_3] 33 (0,0))) ∧ (w'.heap[gb393]? = some (.cells #[.int .i64 0,.slice none 0 0] 35 (0,0))) ∧ (w'.heap[gb401]? = some (.cells #[.int .i64 x402000_2,u402001] 35 (0,0))) ∧ (w'.heap[s_.2]? = some (.cells #[.int .i64 0,.slice none 0 0] 35 (0,0))) ∧ (w.heap.size ≤ s_.2) ∧ (w.heap.size ≤ s_.2) ∧ (gb392 ≠ s_.2) ∧ (s_.2 ≠ gb392) ∧ (gb393 ≠ s_.2) ∧ (s_.2 ≠ gb393) ∧ (gb401 ≠ s_.2) ∧ (s_.2 ≠ gb401) ∧ (Below w.heap.size w w')) ?_ ?_
          rotate_left
          ·intro hCont
           refine two_ (i:=6) (j:=10) (Ni:=some 38) (Nj:=some 9) #[true,true,true,true,true,true,true,false,false,false,false,false,false] #[true,true,true,true,true,true,false,false,false,false,true,false,false] rfl rfl rfl rfl (two_of HT_.out (by kernel_rfl)) (by decide) (by decide) (fun K hK => ?_) (fun K hK => ?_)
           ·skip
            refine goes_ Try.func80 (by kernel_rfl) rfl #[.agg #[.int .i64 a0_0,.slice A0_1 l0_1.length c0_1,.slice A0_2 l0_2.length c0_2,.slice A0_3 l0_3.length c0_3],.string (a1.extract (x28_2 : Int).toNat ((wrap64 (x28_2 + 1)) : Int).toNat)] (by rfl) rfl rfl lp_ ?_
            with_reducible refine (impl_StepMatrix.calls k2 a0_0 _ _ l0_1 _ _ l0_2 _ _ l0_3 (a1.extract (x28_2 : Int).toNat ((wrap64 (x28_2 + 1)) : Int).toNat) t402 t403 t406 _ ?side1 ?side2 ?side3 ?side4 ?side5 ?side6 A31.out).mono ?_
            (case side1 => exact cr_ (Kd.C_below HR0_1.out HB.out))
            (case side2 => exact HC0_1.out)
            (case side3 => exact cr_ (Kd.C_below HR0_2.out HB.out))
            (case side4 => exact HC0_2.out)
            (case side5 => exact cr_ (Kd.C_below HR0_3.out HB.out))
            (case side6 => exact HC0_3.out)
            rintro e w34 ⟨v404,rfl,ho0,hb⟩
            refine ⟨_,rfl,?_⟩
            have HO405:=Aside0.mk (Kd.R_lower (Kd.R_new' ho0 (Kd.R_lt (pr_ HO_402001.out))) (below_size (be3_ HB.out GE392.out GE393.out GE401.out)))
            replace HO_402001:=Aside0.mk (Kd.R_elder' (pr_ HO_402001.out) (Kd.R_base ho0) hb)
            replace BK392:=Aside0.mk (kb_ BK392.out hb)
            replace BK393:=Aside0.mk (kb_ BK393.out hb)
            replace BK401:=Aside0.mk (kb_ BK401.out hb)
            replace HB:=Aside0.mk (below_step (be3_ HB.out GE392.out GE393.out GE401.out) hb)
            (try clear hb)
            (try clear hb2)
            (try clear hk)
            (try clear hi)
            (try clear ho0)
            refine hK.out _ _ ⟨(blk_cell BK392.out 0).trans rfl,(blk_cell BK392.out 1).trans rfl,(blk_cell BK392.out 2).trans rfl,(blk_cell BK392.out 3).trans rfl⟩ (fun hHeld => ?_)
            clear hK K
            refine norm_ (a':=?_) ?_ ?_
            rotate_left
            ·show Act.put _ (some 38) _ = _
             simp only [Act.put,List.setIfInBounds_toArray,List.set_cons_zero,List.set_cons_succ,i64_w,i32_w]
             rfl
            refine stW_ [.p 7 31,.p 8 39,.p 9 40] 3 1023 13 HT_.out HW_.out hHeld (a':=?_) ?_ rfl (by kernel_rfl) (fun _ _ _ _ h => h) ?_
            rotate_left
            ·repeat (first|exact Steps.nil|(refine Steps.p (oi:=?_) (v:=?_) (a1:=?_) ?_ ?_ ?_ ?_ ?_;rotate_left 2;rfl;rfl;(refine Or.inl ⟨by rfl,?_⟩;intro w';go_simp;with_reducible rfl);rotate_left;(simp only [Act.put,List.setIfInBounds_toArray,List.set_cons_zero,List.set_cons_succ,i64_w,i32_w];rfl)))
            refine one_ (i:=10) (N:=some 9) #[true,true,true,true,true,true,true,true,true,true,true,false,false] rfl rfl (one_of HT_.out (by kernel_rfl)) (by decide) (fun K hK => ?_)
            refine box_step ?hg (N:=9) ?hd (cs:=#[.int .i64 0,.slice none 0 0]) (t:=35) ?hr ?_;(case hd => rfl);(case hg => rfl);(case hr => first|(go_simp;done)|(go_simp;rfl))
            intro gb407 hg w35 hbox hb
            replace HO_402001:=Aside0.mk (Kd.R_below (pr_ HO_402001.out) hb)
            replace HO405:=Aside0.mk (Kd.R_below (pr_ HO405.out) hb)
            have BK407:=Aside0.mk (hbox)
            have GW407:=Aside0.mk (szg_ hg (below_size (be3_ HB.out GE392.out GE393.out GE401.out)))
            have GE407:=Aside0.mk (szg_ hg (below_size (be3_ HB.out GE392.out GE393.out GE401.out)))
            replace HB:=Aside0.mk (below_step (be3_ HB.out GE392.out GE393.out GE401.out) hb)
            have NB392_407:=Aside0.mk (nl_ hg BK392.out)
            have NB407_392:=Aside0.mk (ng_ hg BK392.out)
            replace BK392:=Aside0.mk (kb_ BK392.out hb)
            have NB393_407:=Aside0.mk (nl_ hg BK393.out)
            have NB407_393:=Aside0.mk (ng_ hg BK393.out)
            replace BK393:=Aside0.mk (kb_ BK393.out hb)
            have NB401_407:=Aside0.mk (nl_ hg BK401.out)
            have NB407_401:=Aside0.mk (ng_ hg BK401.out)
            replace BK401:=Aside0.mk (kb_ BK401.out hb)
            clear hb hbox hg
            refine hK.out _ _ ⟨(blk_cell BK392.out 0).trans rfl,(blk_cell BK392.out 1).trans rfl,(blk_cell BK392.out 2).trans rfl,(blk_cell BK392.out 3).trans rfl⟩ (fun hHeld => ?_)
            clear hK K
            refine norm_ (a':=?_) ?_ ?_
            rotate_left
            ·show Act.put _ (some 9) _ = _
             simp only [Act.put,List.setIfInBounds_toArray,List.set_cons_zero,List.set_cons_succ,i64_w,i32_w]
             rfl
            exact norm_ (by simp only [putAll,Act.put,List.setIfInBounds_toArray,List.set_cons_zero,List.set_cons_succ]) (hCont (v404,gb407) _ ⟨hHeld,(by refine pr_ ?_;exact Kd.R_mono HO405.out (fun _ hk => hk.2)),(by refine pr_ ?_;exact Kd.R_mono HO_402001.out (fun _ hk => hk.2)),(pe_ BK392.out),(pe_ BK393.out),(pe_ BK401.out),(pe_ BK407.out),GW407.out,GE407.out,NB392_407.out,NB407_392.out,NB393_407.out,NB407_393.out,NB401_407.out,NB407_401.out,(be4_ HB.out GE392.out GE393.out GE401.out GE407.out)⟩)
           ·skip
            refine box_step ?hg (N:=9) ?hd (cs:=#[.int .i64 0,.slice none 0 0]) (t:=35) ?hr ?_;(case hd => rfl);(case hg => rfl);(case hr => first|(go_simp;done)|(go_simp;rfl))
            intro gb407 hg w34 hbox hb
            replace HO_402001:=Aside0.mk (Kd.R_below (pr_ HO_402001.out) hb)
            have BK407:=Aside0.mk (hbox)
            have GW407:=Aside0.mk (szg_ hg (below_size (be3_ HB.out GE392.out GE393.out GE401.out)))
            have GE407:=Aside0.mk (szg_ hg (below_size (be3_ HB.out GE392.out GE393.out GE401.out)))
            replace HB:=Aside0.mk (below_step (be3_ HB.out GE392.out GE393.out GE401.out) hb)
            have NB392_407:=Aside0.mk (nl_ hg BK392.out)
            have NB407_392:=Aside0.mk (ng_ hg BK392.out)
            replace BK392:=Aside0.mk (kb_ BK392.out hb)
            have NB393_407:=Aside0.mk (nl_ hg BK393.out)
            have NB407_393:=Aside0.mk (ng_ hg BK393.out)
            replace BK393:=Aside0.mk (kb_ BK393.out hb)
            have NB401_407:=Aside0.mk (nl_ hg BK401.out)
            have NB407_401:=Aside0.mk (ng_ hg BK401.out)
            replace BK401:=Aside0.mk (kb_ BK401.out hb)
            clear hb hbox hg
            refine hK.out _ _ ⟨(blk_cell BK392.out 0).trans rfl,(blk_cell BK392.out 1).trans rfl,(blk_cell BK392.out 2).trans rfl,(blk_cell BK392.out 3).trans rfl⟩ (fun hHeld => ?_)
            clear hK K
            refine norm_ (a':=?_) ?_ ?_
            rotate_left
            ·show Act.put _ (some 9) _ = _
             simp only [Act.put,List.setIfInBounds_toArray,List.set_cons_zero,List.set_cons_succ,i64_w,i32_w]
             rfl
            refine one_ (i:=6) (N:=some 38) #[true,true,true,true,true,true,true,false,false,false,true,false,false] rfl rfl (one_of HT_.out (by kernel_rfl)) (by decide) (fun K hK => ?_)
            refine goes_ Try.func80 (by kernel_rfl) rfl #[.agg #[.int .i64 a0_0,.slice A0_1 l0_1.length c0_1,.slice A0_2 l0_2.length c0_2,.slice A0_3 l0_3.length c0_3],.string (a1.extract (x28_2 : Int).toNat ((wrap64 (x28_2 + 1)) : Int).toNat)] (by rfl) rfl rfl lp_ ?_
            with_reducible refine (impl_StepMatrix.calls k2 a0_0 _ _ l0_1 _ _ l0_2 _ _ l0_3 (a1.extract (x28_2 : Int).toNat ((wrap64 (x28_2 + 1)) : Int).toNat) t402 t403 t406 _ ?side1 ?side2 ?side3 ?side4 ?side5 ?side6 A31.out).mono ?_
            (case side1 => exact cr_ (Kd.C_below HR0_1.out HB.out))
            (case side2 => exact HC0_1.out)
            (case side3 => exact cr_ (Kd.C_below HR0_2.out HB.out))
            (case side4 => exact HC0_2.out)
            (case side5 => exact cr_ (Kd.C_below HR0_3.out HB.out))
            (case side6 => exact HC0_3.out)
            rintro e w35 ⟨v404,rfl,ho0,hb⟩
            refine ⟨_,rfl,?_⟩
            have HO405:=Aside0.mk (Kd.R_lower (Kd.R_new' ho0 (Kd.R_lt (pr_ HO_402001.out))) (below_size (be4_ HB.out GE392.out GE393.out GE401.out GE407.out)))
            replace HO_402001:=Aside0.mk (Kd.R_elder' (pr_ HO_402001.out) (Kd.R_base ho0) hb)
            replace BK392:=Aside0.mk (kb_ BK392.out hb)
            replace BK393:=Aside0.mk (kb_ BK393.out hb)
            replace BK401:=Aside0.mk (kb_ BK401.out hb)
            replace BK407:=Aside0.mk (kb_ BK407.out hb)
            replace HB:=Aside0.mk (below_step (be4_ HB.out GE392.out GE393.out GE401.out GE407.out) hb)
            (try clear hb)
            (try clear hb2)
            (try clear hk)
            (try clear hi)
            (try clear ho0)
            refine hK.out _ _ ⟨(blk_cell BK392.out 0).trans rfl,(blk_cell BK392.out 1).trans rfl,(blk_cell BK392.out 2).trans rfl,(blk_cell BK392.out 3).trans rfl⟩ (fun hHeld => ?_)
            clear hK K
            refine norm_ (a':=?_) ?_ ?_
            rotate_left
            ·show Act.put _ (some 38) _ = _
             simp only [Act.put,List.setIfInBounds_toArray,List.set_cons_zero,List.set_cons_succ,i64_w,i32_w]
             rfl
            refine stW_ [.p 7 31,.p 8 39,.p 9 40] 3 2047 13 HT_.out HW_.out hHeld (a':=?_) ?_ rfl (by kernel_rfl) (fun _ _ _ _ h => h) ?_
            rotate_left
            ·repeat (first|exact Steps.nil|(refine Steps.p (oi:=?_) (v:=?_) (a1:=?_) ?_ ?_ ?_ ?_ ?_;rotate_left 2;rfl;rfl;(refine Or.inl ⟨by rfl,?_⟩;intro w';go_simp;with_reducible rfl);rotate_left;(simp only [Act.put,List.setIfInBounds_toArray,List.set_cons_zero,List.set_cons_succ,i64_w,i32_w];rfl)))
            exact norm_ (by simp only [putAll,Act.put,List.setIfInBounds_toArray,List.set_cons_zero,List.set_cons_succ]) (hCont (v404,gb407) _ ⟨hHeld,(by refine pr_ ?_;exact Kd.R_mono HO405.out (fun _ hk => hk.2)),(by refine pr_ ?_;exact Kd.R_mono HO_402001.out (fun _ hk => hk.2)),(pe_ BK392.out),(pe_ BK393.out),(pe_ BK401.out),(pe_ BK407.out),GW407.out,GE407.out,NB392_407.out,NB407_392.out,NB393_407.out,NB407_393.out,NB401_407.out,NB407_401.out,(be4_ HB.out GE392.out GE393.out GE401.out GE407.out)⟩)
          rintro ⟨v404,gb407⟩ w36 ⟨hS_,h0_,h1_,h2_,h3_,h4_,h5_,h6_,h7_,h8_,h9_,h10_,h11_,h12_,h13_,h14_⟩
          have n0_ : Aside0 (Kd.R (Kd.int .i64) 3 w36 w.heap.size (fun k_ => some k_ ≠ (u402001 : Value).ownBlock) v404 t403):=⟨h0_⟩
          have n1_ : Aside0 (Kd.R (Kd.int .i64) 3 w36 w.heap.size (fun k_ => some k_ ≠ (v404 : Value).ownBlock) u402001 x402001_2):=⟨h1_⟩
          have n2_ : Aside0 (w36.heap[gb392]? = some (.cells #[.int .i64 a0_0,.slice A0_1 l0_1.length c0_1,.slice A0_2 l0_2.length c0_2,.slice A0_3 l0_3.length c0_3] 33 (0,0))):=⟨h2_⟩
          have n3_ : Aside0 (w36.heap[gb393]? = some (.cells #[.int .i64 0,.slice none 0 0] 35 (0,0))):=⟨h3_⟩
          have n4_ : Aside0 (w36.heap[gb401]? = some (.cells #[.int .i64 x402000_2,u402001] 35 (0,0))):=⟨h4_⟩
          have n5_ : Aside0 (w36.heap[gb407]? = some (.cells #[.int .i64 0,.slice none 0 0] 35 (0,0))):=⟨h5_⟩
          have n6_ : Aside0 (w.heap.size ≤ gb407):=⟨h6_⟩
          have n7_ : Aside0 (w.heap.size ≤ gb407):=⟨h7_⟩
          have n8_ : Aside0 (gb392 ≠ gb407):=⟨h8_⟩
          have n9_ : Aside0 (gb407 ≠ gb392):=⟨h9_⟩
          have n10_ : Aside0 (gb393 ≠ gb407):=⟨h10_⟩
          have n11_ : Aside0 (gb407 ≠ gb393):=⟨h11_⟩
          have n12_ : Aside0 (gb401 ≠ gb407):=⟨h12_⟩
          have n13_ : Aside0 (gb407 ≠ gb401):=⟨h13_⟩
          have n14_ : Aside0 (Below w.heap.size w w36):=⟨h14_⟩
          clear HO_402001
          clear BK392
          clear BK393
          clear BK401
          clear HB
          clear h0_ h1_ h2_ h3_ h4_ h5_ h6_ h7_ h8_ h9_ h10_ h11_ h12_ h13_ h14_
          have HO405:=n0_
          have HO_402001:=n1_
          have BK392:=n2_
          have BK393:=n3_
          have BK401:=n4_
          have BK407:=n5_
          have GW407:=n6_
          have GE407:=n7_
          have NB392_407:=n8_
          have NB407_392:=n9_
          have NB393_407:=n10_
          have NB407_393:=n11_
          have NB401_407:=n12_
          have NB407_401:=n13_
          have HB:=n14_
          clear n0_ n1_ n2_ n3_ n4_ n5_ n6_ n7_ n8_ n9_ n10_ n11_ n12_ n13_ n14_
          have hHeld : w36.cell? ⟨gb392,0,none⟩ = some (.int .i64 a0_0) ∧ w36.cell? ⟨gb392,1,none⟩ = some (.slice A0_1 l0_1.length c0_1) ∧ w36.cell? ⟨gb392,2,none⟩ = some (.slice A0_2 l0_2.length c0_2) ∧ w36.cell? ⟨gb392,3,none⟩ = some (.slice A0_3 l0_3.length c0_3):=hS_
          obtain ⟨Ao38,co38,eo38⟩:=Kd.R_slice HO405.out
          (first|subst eo38|(injection eo38 with f1_ f2_ f3_;have f4_:=f1_.symm;have f5_:=f3_.symm;clear f1_ f2_ f3_;subst f4_;subst f5_))
          refine norm_ (a':=?_) ?_ ?_
          rotate_left
          ·simp only [putAll,Act.put,List.setIfInBounds_toArray,List.set_cons_zero,List.set_cons_succ]
           rfl
          refine one_ (i:=11) (N:=none) #[true,true,true,true,true,true,true,true,true,true,true,true,false] rfl rfl (one_of HT_.out (by kernel_rfl)) (by decide) (fun K hK => ?_)
          have hs37 : w36.cell? ⟨gb407,0,none⟩ = some (.int .i64 0):=(blk_cell BK407.out 0).trans rfl
          have hfs37:=blk_frozen BK407.out 0
          have hns37_0:=NB392_407.out
          have hns37_1:=NB393_407.out
          have hns37_2:=NB401_407.out
          have hms37_0:=NB407_392.out
          have hms37_1:=NB407_393.out
          have hms37_2:=NB407_401.out
          have hs39 : w36.cell? ⟨gb407,1,none⟩ = some (.slice none 0 0):=(blk_cell BK407.out 1).trans rfl
          have hfs39:=blk_frozen BK407.out 1
          have hns39_0:=NB392_407.out
          have hns39_1:=NB393_407.out
          have hns39_2:=NB401_407.out
          have hms39_0:=NB407_392.out
          have hms39_1:=NB407_393.out
          have hms39_2:=NB407_401.out
          refine skip_ (w1:=?_) (by rfl) rfl ?_ ?_
          rotate_left
          ·go_simp
           rfl
          refine hK.out _ _ ⟨((cell_far (p:=⟨gb407,_,none⟩) NB392_407.out _).trans (((cell_far (p:=⟨gb407,_,none⟩) NB392_407.out _).trans (hHeld.1)))),((cell_far (p:=⟨gb407,_,none⟩) NB392_407.out _).trans (((cell_far (p:=⟨gb407,_,none⟩) NB392_407.out _).trans (hHeld.2.1)))),((cell_far (p:=⟨gb407,_,none⟩) NB392_407.out _).trans (((cell_far (p:=⟨gb407,_,none⟩) NB392_407.out _).trans (hHeld.2.2.1)))),((cell_far (p:=⟨gb407,_,none⟩) NB392_407.out _).trans (((cell_far (p:=⟨gb407,_,none⟩) NB392_407.out _).trans (hHeld.2.2.2))))⟩ (fun hHeld => ?_)
          clear hK K
          refine pure_ (i:=12) (N:=some 10) (v:=?_) (a':=?_) #[true,true,true,true,true,true,true,true,true,true,true,true,true] rfl rfl (any_of HT_.out (by kernel_rfl)) (fun _ _ _ h => h) (Or.inl ⟨by rfl,?_⟩) ?_ ?_
          rotate_left
          ·intro w'
           go_simp
           with_reducible rfl
          rotate_left
          ·simp only [Act.put,List.setIfInBounds_toArray,List.set_cons_zero,List.set_cons_succ,i64_w,i32_w]
           rfl
          refine done_ (done_of HT_.out (by kernel_rfl)) ?_
          have hnb40:=NB401_392.out
          have hnc40:=NB392_401.out
          have hnb41:=NB401_393.out
          have hnc41:=NB393_401.out
          have hnb42:=NB401_407.out
          have hnc42:=NB407_401.out
          obtain ⟨hcz43_0,hcz43_1,hfz43_0,hfz43_1⟩:=cf2_ BK401.out
          have hnb44:=NB407_392.out
          have hnc44:=NB392_407.out
          have hnb45:=NB407_393.out
          have hnc45:=NB393_407.out
          obtain ⟨hcz46_0,hcz46_1,hfz46_0,hfz46_1⟩:=cf2_ BK407.out
          obtain ⟨Ao47,co47,eo47⟩:=Kd.R_slice HO_402001.out
          subst eo47
          try go_wp2_with (first|((with_reducible refine gate_callee (f:=81) rfl ?_);refine goesL_ (some 44) rfl rfl Try.func81 (by kernel_rfl) rfl #[.agg #[.int .i64 x402000_2,.slice Ao47 x402001_2.length co47],.agg #[.int .i64 t402,.slice Ao38 t403.length co38]] rfl lp_ ?_;(with_reducible refine (impl_MulMatrix.calls k2 x402000_2 _ _ x402001_2 t402 _ _ t403 t408 t409 t412 _ ?side1 ?side2 ?side3 ?side4 A32.out).mono ?_);(case side1 => refine (Kd.R_reads' (e:=3) (base:=w.heap.size) (ok:=fun k_ => some k_ ≠ (.slice Ao38 t403.length co38 : Value).ownBlock) (n:=x402001_2.length) (c:=co47) ?_).2.2;exact (by refine pr_ ?_;exact (Kd.R_mono (Kd.R_far (p:=⟨gb407,1,none⟩) (Kd.R_far (p:=⟨gb407,0,none⟩) (Kd.R_types HO_402001.out BK407.out (by decide)) (fun _ hk => hk.2) (.int .i64 t402)) (fun _ hk => hk.2) (.slice Ao38 t403.length co38)) (fun _ h_ => h_.1))));(case side2 => exact (Kd.R_reads' HO_402001.out).2.1);(case side3 => refine (Kd.R_reads' (e:=3) (base:=w.heap.size) (ok:=fun k_ => some k_ ≠ (.slice Ao47 x402001_2.length co47 : Value).ownBlock) (n:=t403.length) (c:=co38) ?_).2.2;exact (by refine pr_ ?_;exact (Kd.R_mono (Kd.R_far (p:=⟨gb407,1,none⟩) (Kd.R_far (p:=⟨gb407,0,none⟩) (Kd.R_types HO405.out BK407.out (by decide)) (fun _ hk => hk.2) (.int .i64 t402)) (fun _ hk => hk.2) (.slice Ao38 t403.length co38)) (fun _ h_ => h_.1))));(case side4 => exact (Kd.R_reads' HO405.out).2.1);rintro e w48 ⟨v410,rfl,ho0,hb⟩;refine ⟨_,rfl,?_⟩;have HO411:=Aside0.mk (Kd.R_lower (Kd.R_new' (Kd.R_new' ho0 (Kd.R_lt (by refine pr_ ?_;exact (Kd.R_mono (Kd.R_far (p:=⟨gb407,1,none⟩) (Kd.R_far (p:=⟨gb407,0,none⟩) (Kd.R_types HO_402001.out BK407.out (by decide)) (fun _ hk => hk.2) (.int .i64 t402)) (fun _ hk => hk.2) (.slice Ao38 t403.length co38)) (fun _ h_ => h_.1))))) (Kd.R_lt (by refine pr_ ?_;exact (Kd.R_mono (Kd.R_far (p:=⟨gb407,1,none⟩) (Kd.R_far (p:=⟨gb407,0,none⟩) (Kd.R_types HO405.out BK407.out (by decide)) (fun _ hk => hk.2) (.int .i64 t402)) (fun _ hk => hk.2) (.slice Ao38 t403.length co38)) (fun _ h_ => h_.1))))) (below_size (be4_ HB.out GE392.out GE393.out GE401.out GE407.out)));replace HO_402001:=Aside0.mk (Kd.R_elder' (by refine pr_ ?_;exact (Kd.R_mono (Kd.R_far (p:=⟨gb407,1,none⟩) (Kd.R_far (p:=⟨gb407,0,none⟩) (Kd.R_types HO_402001.out BK407.out (by decide)) (fun _ hk => hk.2) (.int .i64 t402)) (fun _ hk => hk.2) (.slice Ao38 t403.length co38)) (fun _ h_ => h_.1))) (Kd.R_base ho0) hb);replace HO405:=Aside0.mk (Kd.R_elder' (by refine pr_ ?_;exact (Kd.R_mono (Kd.R_far (p:=⟨gb407,1,none⟩) (Kd.R_far (p:=⟨gb407,0,none⟩) (Kd.R_types HO405.out BK407.out (by decide)) (fun _ hk => hk.2) (.int .i64 t402)) (fun _ hk => hk.2) (.slice Ao38 t403.length co38)) (fun _ h_ => h_.1))) (Kd.R_base ho0) hb);replace BK392:=Aside0.mk (blk_below (g:=gb392) (o:=.cells #[.int .i64 a0_0,.slice A0_1 l0_1.length c0_1,.slice A0_2 l0_2.length c0_2,.slice A0_3 l0_3.length c0_3] 33 (0,0)) (by refine pe_ ?_;refine blk_far ?_ NB392_407.out _;refine pe_ ?_;refine blk_far ?_ NB392_407.out _;refine pe_ ?_;exact BK392.out) hb);replace BK393:=Aside0.mk (blk_below (g:=gb393) (o:=.cells #[.int .i64 0,.slice none 0 0] 35 (0,0)) (by refine pe_ ?_;refine blk_far ?_ NB393_407.out _;refine pe_ ?_;refine blk_far ?_ NB393_407.out _;refine pe_ ?_;exact BK393.out) hb);replace BK401:=Aside0.mk (blk_below (g:=gb401) (o:=.cells #[.int .i64 x402000_2,.slice Ao47 x402001_2.length co47] 35 (0,0)) (by refine pe_ ?_;refine blk_far ?_ NB401_407.out _;refine pe_ ?_;refine blk_far ?_ NB401_407.out _;refine pe_ ?_;exact BK401.out) hb);replace BK407:=Aside0.mk (blk_below (g:=gb407) (o:=.cells #[.int .i64 t402,.slice Ao38 t403.length co38] 35 (0,0)) (by refine pe_ ?_;refine blk_put (cs:=#[.int .i64 t402,.slice none 0 0]) ?_ 1 _ rfl;refine pe_ ?_;refine blk_put (cs:=#[.int .i64 0,.slice none 0 0]) ?_ 0 _ rfl;refine pe_ ?_;exact BK407.out) hb);replace HB:=Aside0.mk (below_step (be4_ HB.out GE392.out GE393.out GE401.out GE407.out) hb);(try clear hb);(try clear hb2);(try clear hk);(try clear hi);(try clear ho0);obtain ⟨hcz49_0,hcz49_1,hfz49_0,hfz49_1⟩:=cf2_ BK401.out;obtain ⟨Ao50,co50,eo50⟩:=Kd.R_slice HO411.out;subst eo50))
          go_roundg k2
          case measure => have:=HJ2.out;have:=HK2.out;omega
          case rel => exact ⟨(wrap64 (x28_2 + 1)),(t408),(t409),(.slice Ao50 t409.length co50),rs_,H',⟨by have:=HJ2.out;have:=HK2.out;omega⟩,⟨by refine pr_ ?_;exact Kd.R_mono (Kd.R_far (p:=⟨gb401,1,none⟩) (Kd.R_far (p:=⟨gb401,0,none⟩) (Kd.R_types HO411.out BK401.out (by decide)) (fun _ hk => hk.2) (.int .i64 t408)) (fun _ hk => hk.2) (.slice Ao50 t409.length co50)) (fun _ hk => trivial)⟩,⟨by refine pe_ ?_;refine blk_far ?_ NB392_401.out _;refine pe_ ?_;refine blk_far ?_ NB392_401.out _;refine pe_ ?_;exact BK392.out⟩,⟨by refine pe_ ?_;refine blk_far ?_ NB393_401.out _;refine pe_ ?_;refine blk_far ?_ NB393_401.out _;refine pe_ ?_;exact BK393.out⟩,⟨by refine pe_ ?_;refine blk_put (cs:=#[.int .i64 t408,.slice Ao47 x402001_2.length co47]) ?_ 1 _ rfl;refine pe_ ?_;refine blk_put (cs:=#[.int .i64 x402000_2,.slice Ao47 x402001_2.length co47]) ?_ 0 _ rfl;refine pe_ ?_;exact BK401.out⟩,⟨be4_ HB.out GE392.out GE393.out GE401.out GE407.out⟩⟩
         ·rw [if_neg c30] at H
          exact absurd H (by simp)
        ·rw [if_neg c29] at H
         exact absurd H (by simp)
       ·rw [if_neg c28] at H
        exact absurd H (by simp)
      ·rw [if_neg c27] at H
       have c27b0 : decide (x28_2 < (a1.size : Int)) = false:=decide_eq_false c27
       clear c27
       simp only [Option.some.injEq,Prod.mk.injEq] at H
       obtain ⟨rfl,rfl,rfl⟩:=H
       have hnb51:=NB401_392.out
       have hnc51:=NB392_401.out
       have hnb52:=NB401_393.out
       have hnc52:=NB393_401.out
       obtain ⟨hcz53_0,hcz53_1,hfz53_0,hfz53_1⟩:=cf2_ BK401.out
       have hnb54:=NB393_392.out
       have hnc54:=NB392_393.out
       obtain ⟨hcz55_0,hcz55_1,hfz55_0,hfz55_1⟩:=cf2_ BK393.out
       obtain ⟨Ao56,co56,eo56⟩:=Kd.R_slice HO_402001.out
       subst eo56
       go_wp2
       refine bodyPost_ret (results_ct rfl _ _ gb393 35 #[.int .i64 x402000_2,.slice Ao56 x402001_2.length co56] (0,0) _ rfl (by refine pe_ ?_;refine blk_put (cs:=#[.int .i64 x402000_2,.slice none 0 0]) ?_ 1 _ rfl;refine pe_ ?_;refine blk_put (cs:=#[.int .i64 0,.slice none 0 0]) ?_ 0 _ rfl;refine pe_ ?_;exact BK393.out) Try.underlying35 rfl (by kernel_rfl)) rfl ?_
       exact ⟨_,er_,by refine pr_ ?_;exact Kd.R_mono (Kd.R_far (p:=⟨gb393,1,none⟩) (Kd.R_far (p:=⟨gb393,0,none⟩) (Kd.R_types HO_402001.out BK393.out (by decide)) (fun _ hk => hk.2) (.int .i64 x402000_2)) (fun _ hk => hk.2) (.slice Ao56 x402001_2.length co56)) (fun _ hk => trivial),be3_ HB.out GE392.out GE393.out GE401.out⟩
def laws_eqIntS.l0 : Nat → List Int → List Int → Int → Option (Bool)
 | 0,_,_,_ => none
 | k + 1,x0,x1,x5 => if x5 < (x0.length : Int) then (if 0 ≤ x5 then (if x5 < (x1.length : Int) then (if (rd x0 x5) = (rd x1 x5) then (laws_eqIntS.l0 k x0 x1 (wrap64 (x5 + 1))) else (some false)) else (none)) else (none)) else (some true)
def laws_eqIntS.f (k : Nat) (l0 : List Int) (l1 : List Int) : Option (Bool):=if (l0.length : Int) = (l1.length : Int) then (laws_eqIntS.l0 k l0 l1 0) else (some false)
theorem laws_eqIntS.mono_l : ∀ k,(∀ y0 y1 y2,LeO (laws_eqIntS.l0 k y0 y1 y2) (laws_eqIntS.l0 (k + 1) y0 y1 y2))
 | 0 => fun _ _ _ r h => by simp [laws_eqIntS.l0] at h
 | k + 1 => by
  have ih0:=laws_eqIntS.mono_l k
  ·intro y0 y1 y2
   unfold laws_eqIntS.l0
   repeat' first
   | (with_reducible exact ih0 _ _ _)
   | (with_reducible exact LeO.refl _)
   | (with_reducible exact LeO.none _)
   | (with_reducible refine LeO.ite ?_ ?_)
   | (with_reducible refine LeO.bind ?_ (fun _ => ?_))
   | exact ih0 _ _ _
   | exact LeO.none _
   | refine LeO.ite ?_ ?_
   | refine LeO.bind ?_ (fun _ => ?_)
theorem laws_eqIntS.mono : ∀ a0 a1 k,LeO (laws_eqIntS.f k a0 a1) (laws_eqIntS.f (k + 1) a0 a1):=by
 intro a0 a1 k
 have ih0:=laws_eqIntS.mono_l k
 unfold laws_eqIntS.f
 repeat' first
   | (with_reducible exact ih0 _ _ _)
   | (with_reducible exact LeO.refl _)
   | (with_reducible exact LeO.none _)
   | (with_reducible refine LeO.ite ?_ ?_)
   | (with_reducible refine LeO.bind ?_ (fun _ => ?_))
   | exact ih0 _ _ _
   | exact LeO.none _
   | refine LeO.ite ?_ ?_
   | refine LeO.bind ?_ (fun _ => ?_)
set_option maxHeartbeats 8000000 in
set_option maxRecDepth 100000 in
theorem laws_eqIntS.calls (k : Nat) (A0 : Option Addr) (c0 : Nat) (l0 : List Int) (A1 : Option Addr) (c1 : Nat) (l1 : List Int) (r : Bool) (w : World) (hr0 : Kd.C (Kd.int .i64) w A0 l0.length l0) (hc0 : l0.length ≤ c0) (hr1 : Kd.C (Kd.int .i64) w A1 l1.length l1) (hc1 : l1.length ≤ c1) (h : laws_eqIntS.f k l0 l1 = some r) :
  Calls Try.prog 29 #[.slice A0 l0.length c0,.slice A1 l1.length c1] w fun e w' => e = .returned (.bool r) ∧ Drawn0 w w':=by
 have HR0:=Aside0.mk hr0
 have HC0:=Aside0.mk hc0
 clear hr0 hc0
 have HR1:=Aside0.mk hr1
 have HC1:=Aside0.mk hc1
 clear hr1 hc1
 have H : (if (l0.length : Int) = (l1.length : Int) then (laws_eqIntS.l0 k l0 l1 0) else (some false)) = some r:=h
 clear h
 by_cases c3 : (l0.length : Int) = (l1.length : Int)
 ·rw [if_pos c3] at H
  have c3b0 : ((l0.length : Int) == (l1.length : Int)) = true:=beq_iff_eq.mpr c3
  have c3b1 : ((l0.length : Int) != (l1.length : Int)) = false:=bne_eq_false_iff_eq.mpr c3
  have c3b2 : (l0.length == l1.length) = true:=by first|simpa using c3|(simp at c3 ⊢;omega)
  clear c3
  have H':=Aside0.mk H
  clear H
  go_enter Try.func29,Try.ntmps29
  go_wp2
  repeat (go_quiet (fail);try go_wp2)
  go_loopg [5] k (fun kq v5 w' => ∃ (x5_1 : Int),v5 = .int .i64 x5_1 ∧ Aside0 (laws_eqIntS.l0 kq l0 l1 x5_1 = some r) ∧ Aside0 (kq ≤ k) ∧ Drawn0 w w')
  case atStart => exact ⟨(0),rs_,H',⟨Nat.le_refl _⟩,by repeat (first|exact Drawn0.refl _|apply Drawn0.step)⟩
  case round =>
   clear H'
   try clear c1
   try clear c2
   try clear p2
   try clear c3
   try clear c3b0
   try clear c3b1
   try clear c3b2
   obtain ⟨x5_1,rfl,HA,HK1,⟨m1,rfl⟩⟩:=hrel
   cases gk with
   | zero => exact absurd HA.out (by simp [laws_eqIntS.l0])
   | succ k1 =>
    have H:=HA.out
    clear HA
    simp only [laws_eqIntS.l0] at H
    by_cases c4 : x5_1 < (l0.length : Int)
    ·rw [if_pos c4] at H
     have c4b0 : decide (x5_1 < (l0.length : Int)) = true:=decide_eq_true c4
     clear c4
     by_cases c5 : 0 ≤ x5_1
     ·rw [if_pos c5] at H
      have c5b0 : decide (0 ≤ x5_1) = true:=decide_eq_true c5
      clear c5
      by_cases c6 : x5_1 < (l1.length : Int)
      ·rw [if_pos c6] at H
       have c6b0 : decide (x5_1 < (l1.length : Int)) = true:=decide_eq_true c6
       clear c6
       by_cases c7 : (rd l0 x5_1) = (rd l1 x5_1)
       ·rw [if_pos c7] at H
        have c7b0 : ((rd l0 x5_1) == (rd l1 x5_1)) = true:=beq_iff_eq.mpr c7
        have c7b1 : ((rd l0 x5_1) != (rd l1 x5_1)) = false:=bne_eq_false_iff_eq.mpr c7
        clear c7
        have H':=Aside0.mk H
        clear H
        have p224 : 0 ≤ (x5_1 : Int):=of_decide_eq_true (by first|(with_reducible assumption)|assumption)
        have q224 : x5_1 < (l0.length : Int):=of_decide_eq_true (by first|(with_reducible assumption)|assumption)
        obtain ⟨ad224,e224,hx224_0⟩:=Kd.at_int HR0.out x5_1 p224 q224
        cases e224
        replace p224:=eq_true p224
        replace q224:=eq_true q224
        have p225 : 0 ≤ (x5_1 : Int):=of_decide_eq_true (by first|(with_reducible assumption)|assumption)
        have q225 : x5_1 < (l1.length : Int):=of_decide_eq_true (by first|(with_reducible assumption)|assumption)
        obtain ⟨ad225,e225,hx225_0⟩:=Kd.at_int HR1.out x5_1 p225 q225
        cases e225
        replace p225:=eq_true p225
        replace q225:=eq_true q225
        go_wp2
        repeat (go_quiet (fail);try go_wp2)
        go_roundg k1
        case measure => have:=HK1.out;omega
        case rel => exact ⟨(wrap64 (x5_1 + 1)),rs_,H',⟨by have:=HK1.out;omega⟩,by repeat (first|exact Drawn0.refl _|apply Drawn0.step)⟩
       ·rw [if_neg c7] at H
        have c7b0 : ((rd l0 x5_1) == (rd l1 x5_1)) = false:=beq_eq_false_iff_ne.mpr c7
        have c7b1 : ((rd l0 x5_1) != (rd l1 x5_1)) = true:=bne_iff_ne.mpr c7
        obtain rfl:=Option.some.inj H
        have p224 : 0 ≤ (x5_1 : Int):=of_decide_eq_true (by first|(with_reducible assumption)|assumption)
        have q224 : x5_1 < (l0.length : Int):=of_decide_eq_true (by first|(with_reducible assumption)|assumption)
        obtain ⟨ad224,e224,hx224_0⟩:=Kd.at_int HR0.out x5_1 p224 q224
        cases e224
        replace p224:=eq_true p224
        replace q224:=eq_true q224
        have p225 : 0 ≤ (x5_1 : Int):=of_decide_eq_true (by first|(with_reducible assumption)|assumption)
        have q225 : x5_1 < (l1.length : Int):=of_decide_eq_true (by first|(with_reducible assumption)|assumption)
        obtain ⟨ad225,e225,hx225_0⟩:=Kd.at_int HR1.out x5_1 p225 q225
        cases e225
        replace p225:=eq_true p225
        replace q225:=eq_true q225
        go_wp2
        repeat (go_quiet (fail);try go_wp2)
        go_ret
        exact ⟨by first|rfl|(simp;done)|(simp [*];done),by repeat (first|exact Drawn0.refl _|apply Drawn0.step)⟩
      ·rw [if_neg c6] at H
       exact absurd H (by simp)
     ·rw [if_neg c5] at H
      exact absurd H (by simp)
    ·rw [if_neg c4] at H
     have c4b0 : decide (x5_1 < (l0.length : Int)) = false:=decide_eq_false c4
     clear c4
     obtain rfl:=Option.some.inj H
     go_wp2
     repeat (go_quiet (fail);try go_wp2)
     go_ret
     exact ⟨by first|rfl|(simp;done)|(simp [*];done),by repeat (first|exact Drawn0.refl _|apply Drawn0.step)⟩
 ·rw [if_neg c3] at H
  have c3b0 : ((l0.length : Int) == (l1.length : Int)) = false:=beq_eq_false_iff_ne.mpr c3
  have c3b1 : ((l0.length : Int) != (l1.length : Int)) = true:=bne_iff_ne.mpr c3
  have c3b2 : (l0.length == l1.length) = false:=by first|simpa using c3|(simp at c3 ⊢;omega)
  obtain rfl:=Option.some.inj H
  go_enter Try.func29,Try.ntmps29
  go_wp2
  repeat (go_quiet (fail);try go_wp2)
  go_ret
  exact ⟨by first|rfl|(simp;done)|(simp [*];done),by repeat (first|exact Drawn0.refl _|apply Drawn0.step)⟩
def laws_eqStep.f (a0_0 : Int) (a0_1 : ByteArray) (a0_2 : Int) (a0_3 : Int) (a1_0 : Int) (a1_1 : ByteArray) (a1_2 : Int) (a1_3 : Int) : Option (Bool):=if a0_0 = a1_0 then (if a0_1.toList = a1_1.toList then (if a0_2 = a1_2 then (if a0_3 = a1_3 then (some true) else (some false)) else (some false)) else (some false)) else (some false)
set_option maxHeartbeats 8000000 in
set_option maxRecDepth 100000 in
theorem laws_eqStep.calls (a0_0 : Int) (a0_1 : ByteArray) (a0_2 : Int) (a0_3 : Int) (a1_0 : Int) (a1_1 : ByteArray) (a1_2 : Int) (a1_3 : Int) (r : Bool) (w : World) (h : laws_eqStep.f a0_0 a0_1 a0_2 a0_3 a1_0 a1_1 a1_2 a1_3 = some r) :
  Calls Try.prog 129 #[.agg #[.int .i64 a0_0,.string a0_1,.int .i64 a0_2,.int .i64 a0_3],.agg #[.int .i64 a1_0,.string a1_1,.int .i64 a1_2,.int .i64 a1_3]] w fun e w' => e = .returned (.bool r) ∧ Below w.heap.size w w':=by
 have hu92:=Try.underlying92
 have HB:=Aside0.mk (Below.refl w.heap.size w)
 have H : (if a0_0 = a1_0 then (if a0_1.toList = a1_1.toList then (if a0_2 = a1_2 then (if a0_3 = a1_3 then (some true) else (some false)) else (some false)) else (some false)) else (some false)) = some r:=h
 clear h
 by_cases c3 : a0_0 = a1_0
 ·rw [if_pos c3] at H
  have c3b0 : (a0_0 == a1_0) = true:=beq_iff_eq.mpr c3
  have c3b1 : (a0_0 != a1_0) = false:=bne_eq_false_iff_eq.mpr c3
  clear c3
  by_cases c4 : a0_1.toList = a1_1.toList
  ·rw [if_pos c4] at H
   have c4b0 : (a0_1.toList == a1_1.toList) = true:=beq_iff_eq.mpr c4
   have c4b1 : (a0_1.toList != a1_1.toList) = false:=bne_eq_false_iff_eq.mpr c4
   clear c4
   by_cases c5 : a0_2 = a1_2
   ·rw [if_pos c5] at H
    have c5b0 : (a0_2 == a1_2) = true:=beq_iff_eq.mpr c5
    have c5b1 : (a0_2 != a1_2) = false:=bne_eq_false_iff_eq.mpr c5
    clear c5
    by_cases c6 : a0_3 = a1_3
    ·rw [if_pos c6] at H
     have c6b0 : (a0_3 == a1_3) = true:=beq_iff_eq.mpr c6
     have c6b1 : (a0_3 != a1_3) = false:=bne_eq_false_iff_eq.mpr c6
     clear c6
     obtain rfl:=Option.some.inj H
     go_enter Try.func129,Try.ntmps129
     go_wp2_with (first|((with_reducible refine bev_ (N:=2) rfl rfl (cs:=#[.int .i64 a0_0,.string a0_1,.int .i64 a0_2,.int .i64 a0_3]) (t:=92) ?hr ?_);(case hr => first|(go_simp;done)|(go_simp;rfl));intro gb226 hg w7 hbox hb;have BK226:=Aside0.mk (hbox);have GW226:=Aside0.mk (szg_ hg (below_size (be0_ HB.out)));have GE226:=Aside0.mk (szg_ hg (below_size (be0_ HB.out)));replace HB:=Aside0.mk (below_step (be0_ HB.out) hb);clear hb hbox hg)|((with_reducible refine bev_ (N:=3) rfl rfl (cs:=#[.int .i64 a1_0,.string a1_1,.int .i64 a1_2,.int .i64 a1_3]) (t:=92) ?hr ?_);(case hr => first|(go_simp;done)|(go_simp;rfl));intro gb227 hg w8 hbox hb;have BK227:=Aside0.mk (hbox);have GW227:=Aside0.mk (szg_ hg (below_size (be1_ HB.out GE226.out)));have GE227:=Aside0.mk (szg_ hg (below_size (be1_ HB.out GE226.out)));replace HB:=Aside0.mk (below_step (be1_ HB.out GE226.out) hb);have NB226_227:=Aside0.mk (nl_ hg BK226.out);have NB227_226:=Aside0.mk (ng_ hg BK226.out);replace BK226:=Aside0.mk (kb_ BK226.out hb);clear hb hbox hg;have hnb9:=NB226_227.out;have hnc9:=NB227_226.out;obtain ⟨hcz10_0,hcz10_1,hcz10_2,hcz10_3,hfz10_0,hfz10_1,hfz10_2,hfz10_3⟩:=cf4_ BK226.out;obtain ⟨hcz11_0,hcz11_1,hcz11_2,hcz11_3,hfz11_0,hfz11_1,hfz11_2,hfz11_3⟩:=cf4_ BK227.out))
     go_ret
     exact ⟨er_,be2_ HB.out GE226.out GE227.out⟩
    ·rw [if_neg c6] at H
     have c6b0 : (a0_3 == a1_3) = false:=beq_eq_false_iff_ne.mpr c6
     have c6b1 : (a0_3 != a1_3) = true:=bne_iff_ne.mpr c6
     obtain rfl:=Option.some.inj H
     go_enter Try.func129,Try.ntmps129
     go_wp2_with (first|((with_reducible refine bev_ (N:=2) rfl rfl (cs:=#[.int .i64 a0_0,.string a0_1,.int .i64 a0_2,.int .i64 a0_3]) (t:=92) ?hr ?_);(case hr => first|(go_simp;done)|(go_simp;rfl));intro gb226 hg w12 hbox hb;have BK226:=Aside0.mk (hbox);have GW226:=Aside0.mk (szg_ hg (below_size (be0_ HB.out)));have GE226:=Aside0.mk (szg_ hg (below_size (be0_ HB.out)));replace HB:=Aside0.mk (below_step (be0_ HB.out) hb);clear hb hbox hg)|((with_reducible refine bev_ (N:=3) rfl rfl (cs:=#[.int .i64 a1_0,.string a1_1,.int .i64 a1_2,.int .i64 a1_3]) (t:=92) ?hr ?_);(case hr => first|(go_simp;done)|(go_simp;rfl));intro gb227 hg w13 hbox hb;have BK227:=Aside0.mk (hbox);have GW227:=Aside0.mk (szg_ hg (below_size (be1_ HB.out GE226.out)));have GE227:=Aside0.mk (szg_ hg (below_size (be1_ HB.out GE226.out)));replace HB:=Aside0.mk (below_step (be1_ HB.out GE226.out) hb);have NB226_227:=Aside0.mk (nl_ hg BK226.out);have NB227_226:=Aside0.mk (ng_ hg BK226.out);replace BK226:=Aside0.mk (kb_ BK226.out hb);clear hb hbox hg;have hnb14:=NB226_227.out;have hnc14:=NB227_226.out;obtain ⟨hcz15_0,hcz15_1,hcz15_2,hcz15_3,hfz15_0,hfz15_1,hfz15_2,hfz15_3⟩:=cf4_ BK226.out;obtain ⟨hcz16_0,hcz16_1,hcz16_2,hcz16_3,hfz16_0,hfz16_1,hfz16_2,hfz16_3⟩:=cf4_ BK227.out))
     go_ret
     exact ⟨er_,be2_ HB.out GE226.out GE227.out⟩
   ·rw [if_neg c5] at H
    have c5b0 : (a0_2 == a1_2) = false:=beq_eq_false_iff_ne.mpr c5
    have c5b1 : (a0_2 != a1_2) = true:=bne_iff_ne.mpr c5
    obtain rfl:=Option.some.inj H
    go_enter Try.func129,Try.ntmps129
    go_wp2_with (first|((with_reducible refine bev_ (N:=2) rfl rfl (cs:=#[.int .i64 a0_0,.string a0_1,.int .i64 a0_2,.int .i64 a0_3]) (t:=92) ?hr ?_);(case hr => first|(go_simp;done)|(go_simp;rfl));intro gb226 hg w17 hbox hb;have BK226:=Aside0.mk (hbox);have GW226:=Aside0.mk (szg_ hg (below_size (be0_ HB.out)));have GE226:=Aside0.mk (szg_ hg (below_size (be0_ HB.out)));replace HB:=Aside0.mk (below_step (be0_ HB.out) hb);clear hb hbox hg)|((with_reducible refine bev_ (N:=3) rfl rfl (cs:=#[.int .i64 a1_0,.string a1_1,.int .i64 a1_2,.int .i64 a1_3]) (t:=92) ?hr ?_);(case hr => first|(go_simp;done)|(go_simp;rfl));intro gb227 hg w18 hbox hb;have BK227:=Aside0.mk (hbox);have GW227:=Aside0.mk (szg_ hg (below_size (be1_ HB.out GE226.out)));have GE227:=Aside0.mk (szg_ hg (below_size (be1_ HB.out GE226.out)));replace HB:=Aside0.mk (below_step (be1_ HB.out GE226.out) hb);have NB226_227:=Aside0.mk (nl_ hg BK226.out);have NB227_226:=Aside0.mk (ng_ hg BK226.out);replace BK226:=Aside0.mk (kb_ BK226.out hb);clear hb hbox hg;have hnb19:=NB226_227.out;have hnc19:=NB227_226.out;obtain ⟨hcz20_0,hcz20_1,hcz20_2,hcz20_3,hfz20_0,hfz20_1,hfz20_2,hfz20_3⟩:=cf4_ BK226.out;obtain ⟨hcz21_0,hcz21_1,hcz21_2,hcz21_3,hfz21_0,hfz21_1,hfz21_2,hfz21_3⟩:=cf4_ BK227.out))
    go_ret
    exact ⟨er_,be2_ HB.out GE226.out GE227.out⟩
  ·rw [if_neg c4] at H
   have c4b0 : (a0_1.toList == a1_1.toList) = false:=beq_eq_false_iff_ne.mpr c4
   have c4b1 : (a0_1.toList != a1_1.toList) = true:=bne_iff_ne.mpr c4
   obtain rfl:=Option.some.inj H
   go_enter Try.func129,Try.ntmps129
   go_wp2_with (first|((with_reducible refine bev_ (N:=2) rfl rfl (cs:=#[.int .i64 a0_0,.string a0_1,.int .i64 a0_2,.int .i64 a0_3]) (t:=92) ?hr ?_);(case hr => first|(go_simp;done)|(go_simp;rfl));intro gb226 hg w22 hbox hb;have BK226:=Aside0.mk (hbox);have GW226:=Aside0.mk (szg_ hg (below_size (be0_ HB.out)));have GE226:=Aside0.mk (szg_ hg (below_size (be0_ HB.out)));replace HB:=Aside0.mk (below_step (be0_ HB.out) hb);clear hb hbox hg)|((with_reducible refine bev_ (N:=3) rfl rfl (cs:=#[.int .i64 a1_0,.string a1_1,.int .i64 a1_2,.int .i64 a1_3]) (t:=92) ?hr ?_);(case hr => first|(go_simp;done)|(go_simp;rfl));intro gb227 hg w23 hbox hb;have BK227:=Aside0.mk (hbox);have GW227:=Aside0.mk (szg_ hg (below_size (be1_ HB.out GE226.out)));have GE227:=Aside0.mk (szg_ hg (below_size (be1_ HB.out GE226.out)));replace HB:=Aside0.mk (below_step (be1_ HB.out GE226.out) hb);have NB226_227:=Aside0.mk (nl_ hg BK226.out);have NB227_226:=Aside0.mk (ng_ hg BK226.out);replace BK226:=Aside0.mk (kb_ BK226.out hb);clear hb hbox hg;have hnb24:=NB226_227.out;have hnc24:=NB227_226.out;obtain ⟨hcz25_0,hcz25_1,hcz25_2,hcz25_3,hfz25_0,hfz25_1,hfz25_2,hfz25_3⟩:=cf4_ BK226.out;obtain ⟨hcz26_0,hcz26_1,hcz26_2,hcz26_3,hfz26_0,hfz26_1,hfz26_2,hfz26_3⟩:=cf4_ BK227.out))
   go_ret
   exact ⟨er_,be2_ HB.out GE226.out GE227.out⟩
 ·rw [if_neg c3] at H
  have c3b0 : (a0_0 == a1_0) = false:=beq_eq_false_iff_ne.mpr c3
  have c3b1 : (a0_0 != a1_0) = true:=bne_iff_ne.mpr c3
  obtain rfl:=Option.some.inj H
  go_enter Try.func129,Try.ntmps129
  go_wp2_with (first|((with_reducible refine bev_ (N:=2) rfl rfl (cs:=#[.int .i64 a0_0,.string a0_1,.int .i64 a0_2,.int .i64 a0_3]) (t:=92) ?hr ?_);(case hr => first|(go_simp;done)|(go_simp;rfl));intro gb226 hg w27 hbox hb;have BK226:=Aside0.mk (hbox);have GW226:=Aside0.mk (szg_ hg (below_size (be0_ HB.out)));have GE226:=Aside0.mk (szg_ hg (below_size (be0_ HB.out)));replace HB:=Aside0.mk (below_step (be0_ HB.out) hb);clear hb hbox hg)|((with_reducible refine bev_ (N:=3) rfl rfl (cs:=#[.int .i64 a1_0,.string a1_1,.int .i64 a1_2,.int .i64 a1_3]) (t:=92) ?hr ?_);(case hr => first|(go_simp;done)|(go_simp;rfl));intro gb227 hg w28 hbox hb;have BK227:=Aside0.mk (hbox);have GW227:=Aside0.mk (szg_ hg (below_size (be1_ HB.out GE226.out)));have GE227:=Aside0.mk (szg_ hg (below_size (be1_ HB.out GE226.out)));replace HB:=Aside0.mk (below_step (be1_ HB.out GE226.out) hb);have NB226_227:=Aside0.mk (nl_ hg BK226.out);have NB227_226:=Aside0.mk (ng_ hg BK226.out);replace BK226:=Aside0.mk (kb_ BK226.out hb);clear hb hbox hg;have hnb29:=NB226_227.out;have hnc29:=NB227_226.out;obtain ⟨hcz30_0,hcz30_1,hcz30_2,hcz30_3,hfz30_0,hfz30_1,hfz30_2,hfz30_3⟩:=cf4_ BK226.out;obtain ⟨hcz31_0,hcz31_1,hcz31_2,hcz31_3,hfz31_0,hfz31_1,hfz31_2,hfz31_3⟩:=cf4_ BK227.out))
  go_ret
  exact ⟨er_,be2_ HB.out GE226.out GE227.out⟩
def laws_eqStepS.l0 : Nat → List (S92) → List (S92) → Int → Option (Bool)
 | 0,_,_,_ => none
 | k + 1,x0,x1,x5 => if x5 < (x0.length : Int) then (if 0 ≤ x5 then (if x5 < (x1.length : Int) then ((laws_eqStep.f ((rd_T92 x0 x5).f0) ((rd_T92 x0 x5).f1) ((rd_T92 x0 x5).f2) ((rd_T92 x0 x5).f3) ((rd_T92 x1 x5).f0) ((rd_T92 x1 x5).f1) ((rd_T92 x1 x5).f2) ((rd_T92 x1 x5).f3)).bind fun t230 => (if t230 = true then (laws_eqStepS.l0 k x0 x1 (wrap64 (x5 + 1))) else (some false))) else (none)) else (none)) else (some true)
def laws_eqStepS.f (k : Nat) (l0 : List (S92)) (l1 : List (S92)) : Option (Bool):=if (l0.length : Int) = (l1.length : Int) then (laws_eqStepS.l0 k l0 l1 0) else (some false)
theorem laws_eqStepS.mono_l : ∀ k,(∀ y0 y1 y2,LeO (laws_eqStepS.l0 k y0 y1 y2) (laws_eqStepS.l0 (k + 1) y0 y1 y2))
 | 0 => fun _ _ _ r h => by simp [laws_eqStepS.l0] at h
 | k + 1 => by
  have ih0:=laws_eqStepS.mono_l k
  ·intro y0 y1 y2
   unfold laws_eqStepS.l0
   repeat' first
   | (with_reducible exact ih0 _ _ _)
   | (with_reducible exact LeO.refl _)
   | (with_reducible exact LeO.none _)
   | (with_reducible refine LeO.ite ?_ ?_)
   | (with_reducible refine LeO.bind ?_ (fun _ => ?_))
   | exact ih0 _ _ _
   | exact LeO.none _
   | refine LeO.ite ?_ ?_
   | refine LeO.bind ?_ (fun _ => ?_)
theorem laws_eqStepS.mono : ∀ a0 a1 k,LeO (laws_eqStepS.f k a0 a1) (laws_eqStepS.f (k + 1) a0 a1):=by
 intro a0 a1 k
 have ih0:=laws_eqStepS.mono_l k
 unfold laws_eqStepS.f
 repeat' first
   | (with_reducible exact ih0 _ _ _)
   | (with_reducible exact LeO.refl _)
   | (with_reducible exact LeO.none _)
   | (with_reducible refine LeO.ite ?_ ?_)
   | (with_reducible refine LeO.bind ?_ (fun _ => ?_))
   | exact ih0 _ _ _
   | exact LeO.none _
   | refine LeO.ite ?_ ?_
   | refine LeO.bind ?_ (fun _ => ?_)
def laws_eqStepS.T6 : Bool × List (List Nat × List Nat):=(true,[([],[]),([],[]),([0,1],[0,1]),([2],[2]),([],[]),([],[]),([4,5],[4,5]),([6],[6]),([3,7],[3,7]),([8],[8])])
def laws_eqStepS.B6 : List Nat:=[0,0,3,7,0,0,48,112,255,511]
theorem laws_eqStepS.tab6 : rtab .any (opsOf Try.f75 6) = laws_eqStepS.T6:=by kernel_rfl
theorem laws_eqStepS.bits6 : waitsOk laws_eqStepS.T6.2 laws_eqStepS.B6 = true:=by kernel_rfl
set_option maxHeartbeats 8000000 in
set_option maxRecDepth 100000 in
theorem laws_eqStepS.calls (k : Nat) (A0 : Option Addr) (c0 : Nat) (l0 : List (S92)) (A1 : Option Addr) (c1 : Nat) (l1 : List (S92)) (r : Bool) (w : World) (hr0 : Kd.C k92 w A0 l0.length l0) (hc0 : l0.length ≤ c0) (hr1 : Kd.C k92 w A1 l1.length l1) (hc1 : l1.length ≤ c1) (h : laws_eqStepS.f k l0 l1 = some r) :
  Calls Try.prog 75 #[.slice A0 l0.length c0,.slice A1 l1.length c1] w fun e w' => e = .returned (.bool r) ∧ Below w.heap.size w w':=by
 have hu92:=Try.underlying92
 have HR0:=Aside0.mk hr0
 have HC0:=Aside0.mk hc0
 clear hr0 hc0
 have HR1:=Aside0.mk hr1
 have HC1:=Aside0.mk hc1
 clear hr1 hc1
 have HB:=Aside0.mk (Below.refl w.heap.size w)
 have H : (if (l0.length : Int) = (l1.length : Int) then (laws_eqStepS.l0 k l0 l1 0) else (some false)) = some r:=h
 clear h
 by_cases c3 : (l0.length : Int) = (l1.length : Int)
 ·rw [if_pos c3] at H
  have c3b0 : ((l0.length : Int) == (l1.length : Int)) = true:=beq_iff_eq.mpr c3
  have c3b1 : ((l0.length : Int) != (l1.length : Int)) = false:=bne_eq_false_iff_eq.mpr c3
  have c3b2 : (l0.length == l1.length) = true:=by first|simpa using c3|(simp at c3 ⊢;omega)
  clear c3
  have H':=Aside0.mk H
  clear H
  go_enter Try.func75,Try.ntmps75
  go_wp2
  go_loopg [5] k (fun kq v5 w' => ∃ (x5_1 : Int),v5 = .int .i64 x5_1 ∧ Aside0 (laws_eqStepS.l0 kq l0 l1 x5_1 = some r) ∧ Aside0 (kq ≤ k) ∧ Aside0 (Below w.heap.size w w'))
  case atStart => exact ⟨(0),rs_,H',⟨Nat.le_refl _⟩,⟨be0_ HB.out⟩⟩
  case round =>
   clear H'
   try clear c1
   try clear p2
   try clear c3
   try clear c3b0
   try clear c3b1
   try clear c3b2
   obtain ⟨x5_1,rfl,HA,HK1,HB⟩:=hrel
   cases gk with
   | zero => exact absurd HA.out (by simp [laws_eqStepS.l0])
   | succ k1 =>
    have H:=HA.out
    clear HA
    simp only [laws_eqStepS.l0] at H
    by_cases c4 : x5_1 < (l0.length : Int)
    ·rw [if_pos c4] at H
     have c4b0 : decide (x5_1 < (l0.length : Int)) = true:=decide_eq_true c4
     clear c4
     by_cases c5 : 0 ≤ x5_1
     ·rw [if_pos c5] at H
      have c5b0 : decide (0 ≤ x5_1) = true:=decide_eq_true c5
      clear c5
      by_cases c6 : x5_1 < (l1.length : Int)
      ·rw [if_pos c6] at H
       have c6b0 : decide (x5_1 < (l1.length : Int)) = true:=decide_eq_true c6
       clear c6
       replace H:=Option.bind_eq_some_iff.mp H
       obtain ⟨t230,A70,H⟩:=H
       replace H : (if t230 = true then (laws_eqStepS.l0 k1 l0 l1 (wrap64 (x5_1 + 1))) else (some false)) = some r:=H
       have A7:=Aside0.mk A70
       clear A70
       by_cases c8 : t230 = true
       ·subst c8
        have H1 : (laws_eqStepS.l0 k1 l0 l1 (wrap64 (x5_1 + 1))) = some r:=by rw [if_pos rfl] at H;exact H
        clear H
        have H:=H1
        clear H1
        have H':=Aside0.mk H
        clear H
        try go_wp2
        replace HB:=Aside0.mk (below_drew1 HB.out)
        have p228 : 0 ≤ (x5_1 : Int):=of_decide_eq_true (by first|(with_reducible assumption)|assumption)
        have q228 : x5_1 < (l0.length : Int):=of_decide_eq_true (by first|(with_reducible assumption)|assumption)
        obtain ⟨ad228,e228,hx228_0,hx228_1,hx228_2,hx228_3⟩:=at_T92 HR0.out x5_1 p228 q228
        have hw228_3:=hx228_3
        have hw228_2:=hx228_2
        have hw228_1:=hx228_1
        have hw228_0:=hx228_0
        cases e228
        replace hx228_0:=hbc_ HB.out hx228_0
        replace hx228_1:=hbc_ HB.out hx228_1
        replace hx228_2:=hbc_ HB.out hx228_2
        replace hx228_3:=hbc_ HB.out hx228_3
        replace p228:=eq_true p228
        replace q228:=eq_true q228
        have p229 : 0 ≤ (x5_1 : Int):=of_decide_eq_true (by first|(with_reducible assumption)|assumption)
        have q229 : x5_1 < (l1.length : Int):=of_decide_eq_true (by first|(with_reducible assumption)|assumption)
        obtain ⟨ad229,e229,hx229_0,hx229_1,hx229_2,hx229_3⟩:=at_T92 HR1.out x5_1 p229 q229
        have hw229_3:=hx229_3
        have hw229_2:=hx229_2
        have hw229_1:=hx229_1
        have hw229_0:=hx229_0
        cases e229
        replace hx229_0:=hbc_ HB.out hx229_0
        replace hx229_1:=hbc_ HB.out hx229_1
        replace hx229_2:=hbc_ HB.out hx229_2
        replace hx229_3:=hbc_ HB.out hx229_3
        replace p229:=eq_true p229
        replace q229:=eq_true q229
        refine start_ (n:=10) (S:=fun w' => w'.cell? (ad228.add ((x5_1).toNat * 4)) = some (.int .i64 ((rd_T92 l0 x5_1).f0)) ∧ w'.cell? ⟨(ad228.add ((x5_1).toNat * 4)).block,(ad228.add ((x5_1).toNat * 4)).off + 1,none⟩ = some (.string ((rd_T92 l0 x5_1).f1)) ∧ w'.cell? ⟨(ad228.add ((x5_1).toNat * 4)).block,(ad228.add ((x5_1).toNat * 4)).off + 2,none⟩ = some (.int .i64 ((rd_T92 l0 x5_1).f2)) ∧ w'.cell? ⟨(ad228.add ((x5_1).toNat * 4)).block,(ad228.add ((x5_1).toNat * 4)).off + 3,none⟩ = some (.int .i64 ((rd_T92 l0 x5_1).f3)) ∧ w'.cell? (ad229.add ((x5_1).toNat * 4)) = some (.int .i64 ((rd_T92 l1 x5_1).f0)) ∧ w'.cell? ⟨(ad229.add ((x5_1).toNat * 4)).block,(ad229.add ((x5_1).toNat * 4)).off + 1,none⟩ = some (.string ((rd_T92 l1 x5_1).f1)) ∧ w'.cell? ⟨(ad229.add ((x5_1).toNat * 4)).block,(ad229.add ((x5_1).toNat * 4)).off + 2,none⟩ = some (.int .i64 ((rd_T92 l1 x5_1).f2)) ∧ w'.cell? ⟨(ad229.add ((x5_1).toNat * 4)).block,(ad229.add ((x5_1).toNat * 4)).off + 3,none⟩ = some (.int .i64 ((rd_T92 l1 x5_1).f3))) (ds:=[]) #[false,false,false,false,false,false,false,false,false,false] (by kernel_rfl) rfl rfl ⟨((HB.out.cell (World.block_lt_of_cell? w _ hw228_0)).trans hw228_0),((HB.out.cell (World.block_lt_of_cell? w _ hw228_1)).trans hw228_1),((HB.out.cell (World.block_lt_of_cell? w _ hw228_2)).trans hw228_2),((HB.out.cell (World.block_lt_of_cell? w _ hw228_3)).trans hw228_3),((HB.out.cell (World.block_lt_of_cell? w _ hw229_0)).trans hw229_0),((HB.out.cell (World.block_lt_of_cell? w _ hw229_1)).trans hw229_1),((HB.out.cell (World.block_lt_of_cell? w _ hw229_2)).trans hw229_2),((HB.out.cell (World.block_lt_of_cell? w _ hw229_3)).trans hw229_3)⟩ (fun hHeld => ?_);refine with_tabW laws_eqStepS.tab6 laws_eqStepS.bits6 (fun HT_ HW_ => ?_)
        generalize wr.drew = w9 at HB hx228_0 hx228_1 hx228_2 hx228_3 hx229_0 hx229_1 hx229_2 hx229_3 hHeld ⊢
        refine stW_ [.p 0 17,.p 1 18,.p 2 19,.p 4 21,.p 5 22,.p 6 23,.t 3 20,.t 7 24] 8 255 10 HT_.out HW_.out hHeld (a':=?_) ?_ rfl (by kernel_rfl) (fun _ _ _ _ h => h) ?_
        rotate_left
        ·repeat (first|exact Steps.nil|(refine Steps.p (oi:=?_) (v:=?_) (a1:=?_) ?_ ?_ ?_ ?_ ?_;rotate_left 2;rfl;rfl;(refine Or.inl ⟨by rfl,?_⟩;intro w';go_simp;with_reducible rfl);rotate_left;(simp only [Act.put,List.setIfInBounds_toArray,List.set_cons_zero,List.set_cons_succ,i64_w,i32_w];rfl))|(refine Steps.t (oi:=?_) (v:=?_) (a1:=?_) ?_ ?_ ?_ ?_ ?_;rotate_left 2;rfl;rfl;(refine Or.inl ⟨by rfl,?_⟩;rintro w' ⟨s0,s1,s2,s3,s4,s5,s6,s7⟩;go_simp;with_reducible rfl);rotate_left;(simp only [Act.put,List.setIfInBounds_toArray,List.set_cons_zero,List.set_cons_succ,i64_w,i32_w];rfl)))
        refine one_ (i:=8) (N:=some 25) #[true,true,true,true,true,true,true,true,true,false] rfl rfl (one_of HT_.out (by kernel_rfl)) (by decide) (fun K hK => ?_)
        refine goes_ Try.func129 (by kernel_rfl) rfl #[.agg #[.int .i64 ((rd_T92 l0 x5_1).f0),.string ((rd_T92 l0 x5_1).f1),.int .i64 ((rd_T92 l0 x5_1).f2),.int .i64 ((rd_T92 l0 x5_1).f3)],.agg #[.int .i64 ((rd_T92 l1 x5_1).f0),.string ((rd_T92 l1 x5_1).f1),.int .i64 ((rd_T92 l1 x5_1).f2),.int .i64 ((rd_T92 l1 x5_1).f3)]] (by rfl) rfl rfl lp_ ?_
        with_reducible refine (laws_eqStep.calls ((rd_T92 l0 x5_1).f0) ((rd_T92 l0 x5_1).f1) ((rd_T92 l0 x5_1).f2) ((rd_T92 l0 x5_1).f3) ((rd_T92 l1 x5_1).f0) ((rd_T92 l1 x5_1).f1) ((rd_T92 l1 x5_1).f2) ((rd_T92 l1 x5_1).f3) true _ A7.out).mono ?_
        rintro e w10 ⟨rfl,hb⟩
        refine ⟨_,rfl,?_⟩
        replace HB:=Aside0.mk (below_step (be0_ HB.out) hb)
        (try clear hb)
        (try clear hb2)
        (try clear hk)
        (try clear hi)
        refine hK.out _ _ ⟨((HB.out.cell (World.block_lt_of_cell? w _ hw228_0)).trans hw228_0),((HB.out.cell (World.block_lt_of_cell? w _ hw228_1)).trans hw228_1),((HB.out.cell (World.block_lt_of_cell? w _ hw228_2)).trans hw228_2),((HB.out.cell (World.block_lt_of_cell? w _ hw228_3)).trans hw228_3),((HB.out.cell (World.block_lt_of_cell? w _ hw229_0)).trans hw229_0),((HB.out.cell (World.block_lt_of_cell? w _ hw229_1)).trans hw229_1),((HB.out.cell (World.block_lt_of_cell? w _ hw229_2)).trans hw229_2),((HB.out.cell (World.block_lt_of_cell? w _ hw229_3)).trans hw229_3)⟩ (fun hHeld => ?_)
        clear hK K
        refine norm_ (a':=?_) ?_ ?_
        rotate_left
        ·show Act.put _ (some 25) _ = _
         simp only [Act.put,List.setIfInBounds_toArray,List.set_cons_zero,List.set_cons_succ,i64_w,i32_w]
         rfl
        refine pure_ (i:=9) (N:=some 26) (v:=?_) (a':=?_) #[true,true,true,true,true,true,true,true,true,true] rfl rfl (any_of HT_.out (by kernel_rfl)) (fun _ _ _ h => h) (Or.inl ⟨by rfl,?_⟩) ?_ ?_
        rotate_left
        ·intro w'
         go_simp
         with_reducible rfl
        rotate_left
        ·simp only [Act.put,List.setIfInBounds_toArray,List.set_cons_zero,List.set_cons_succ,i64_w,i32_w]
         rfl
        refine done_ (done_of HT_.out (by kernel_rfl)) ?_
        try go_wp2
        go_roundg k1
        case measure => have:=HK1.out;omega
        case rel => exact ⟨(wrap64 (x5_1 + 1)),rs_,H',⟨by have:=HK1.out;omega⟩,⟨be0_ HB.out⟩⟩
       ·replace c8:=Bool.eq_false_iff.mpr c8
        subst c8
        have H1 : (some false) = some r:=by rw [if_neg (show ¬ (false = true) by decide)] at H;exact H
        clear H
        have H:=H1
        clear H1
        obtain rfl:=Option.some.inj H
        try go_wp2
        replace HB:=Aside0.mk (below_drew1 HB.out)
        have p228 : 0 ≤ (x5_1 : Int):=of_decide_eq_true (by first|(with_reducible assumption)|assumption)
        have q228 : x5_1 < (l0.length : Int):=of_decide_eq_true (by first|(with_reducible assumption)|assumption)
        obtain ⟨ad228,e228,hx228_0,hx228_1,hx228_2,hx228_3⟩:=at_T92 HR0.out x5_1 p228 q228
        have hw228_3:=hx228_3
        have hw228_2:=hx228_2
        have hw228_1:=hx228_1
        have hw228_0:=hx228_0
        cases e228
        replace hx228_0:=hbc_ HB.out hx228_0
        replace hx228_1:=hbc_ HB.out hx228_1
        replace hx228_2:=hbc_ HB.out hx228_2
        replace hx228_3:=hbc_ HB.out hx228_3
        replace p228:=eq_true p228
        replace q228:=eq_true q228
        have p229 : 0 ≤ (x5_1 : Int):=of_decide_eq_true (by first|(with_reducible assumption)|assumption)
        have q229 : x5_1 < (l1.length : Int):=of_decide_eq_true (by first|(with_reducible assumption)|assumption)
        obtain ⟨ad229,e229,hx229_0,hx229_1,hx229_2,hx229_3⟩:=at_T92 HR1.out x5_1 p229 q229
        have hw229_3:=hx229_3
        have hw229_2:=hx229_2
        have hw229_1:=hx229_1
        have hw229_0:=hx229_0
        cases e229
        replace hx229_0:=hbc_ HB.out hx229_0
        replace hx229_1:=hbc_ HB.out hx229_1
        replace hx229_2:=hbc_ HB.out hx229_2
        replace hx229_3:=hbc_ HB.out hx229_3
        replace p229:=eq_true p229
        replace q229:=eq_true q229
        refine start_ (n:=10) (S:=fun w' => w'.cell? (ad228.add ((x5_1).toNat * 4)) = some (.int .i64 ((rd_T92 l0 x5_1).f0)) ∧ w'.cell? ⟨(ad228.add ((x5_1).toNat * 4)).block,(ad228.add ((x5_1).toNat * 4)).off + 1,none⟩ = some (.string ((rd_T92 l0 x5_1).f1)) ∧ w'.cell? ⟨(ad228.add ((x5_1).toNat * 4)).block,(ad228.add ((x5_1).toNat * 4)).off + 2,none⟩ = some (.int .i64 ((rd_T92 l0 x5_1).f2)) ∧ w'.cell? ⟨(ad228.add ((x5_1).toNat * 4)).block,(ad228.add ((x5_1).toNat * 4)).off + 3,none⟩ = some (.int .i64 ((rd_T92 l0 x5_1).f3)) ∧ w'.cell? (ad229.add ((x5_1).toNat * 4)) = some (.int .i64 ((rd_T92 l1 x5_1).f0)) ∧ w'.cell? ⟨(ad229.add ((x5_1).toNat * 4)).block,(ad229.add ((x5_1).toNat * 4)).off + 1,none⟩ = some (.string ((rd_T92 l1 x5_1).f1)) ∧ w'.cell? ⟨(ad229.add ((x5_1).toNat * 4)).block,(ad229.add ((x5_1).toNat * 4)).off + 2,none⟩ = some (.int .i64 ((rd_T92 l1 x5_1).f2)) ∧ w'.cell? ⟨(ad229.add ((x5_1).toNat * 4)).block,(ad229.add ((x5_1).toNat * 4)).off + 3,none⟩ = some (.int .i64 ((rd_T92 l1 x5_1).f3))) (ds:=[]) #[false,false,false,false,false,false,false,false,false,false] (by kernel_rfl) rfl rfl ⟨((HB.out.cell (World.block_lt_of_cell? w _ hw228_0)).trans hw228_0),((HB.out.cell (World.block_lt_of_cell? w _ hw228_1)).trans hw228_1),((HB.out.cell (World.block_lt_of_cell? w _ hw228_2)).trans hw228_2),((HB.out.cell (World.block_lt_of_cell? w _ hw228_3)).trans hw228_3),((HB.out.cell (World.block_lt_of_cell? w _ hw229_0)).trans hw229_0),((HB.out.cell (World.block_lt_of_cell? w _ hw229_1)).trans hw229_1),((HB.out.cell (World.block_lt_of_cell? w _ hw229_2)).trans hw229_2),((HB.out.cell (World.block_lt_of_cell? w _ hw229_3)).trans hw229_3)⟩ (fun hHeld => ?_);refine with_tabW laws_eqStepS.tab6 laws_eqStepS.bits6 (fun HT_ HW_ => ?_)
        generalize wr.drew = w11 at HB hx228_0 hx228_1 hx228_2 hx228_3 hx229_0 hx229_1 hx229_2 hx229_3 hHeld ⊢
        refine stW_ [.p 0 17,.p 1 18,.p 2 19,.p 4 21,.p 5 22,.p 6 23,.t 3 20,.t 7 24] 8 255 10 HT_.out HW_.out hHeld (a':=?_) ?_ rfl (by kernel_rfl) (fun _ _ _ _ h => h) ?_
        rotate_left
        ·repeat (first|exact Steps.nil|(refine Steps.p (oi:=?_) (v:=?_) (a1:=?_) ?_ ?_ ?_ ?_ ?_;rotate_left 2;rfl;rfl;(refine Or.inl ⟨by rfl,?_⟩;intro w';go_simp;with_reducible rfl);rotate_left;(simp only [Act.put,List.setIfInBounds_toArray,List.set_cons_zero,List.set_cons_succ,i64_w,i32_w];rfl))|(refine Steps.t (oi:=?_) (v:=?_) (a1:=?_) ?_ ?_ ?_ ?_ ?_;rotate_left 2;rfl;rfl;(refine Or.inl ⟨by rfl,?_⟩;rintro w' ⟨s0,s1,s2,s3,s4,s5,s6,s7⟩;go_simp;with_reducible rfl);rotate_left;(simp only [Act.put,List.setIfInBounds_toArray,List.set_cons_zero,List.set_cons_succ,i64_w,i32_w];rfl)))
        refine one_ (i:=8) (N:=some 25) #[true,true,true,true,true,true,true,true,true,false] rfl rfl (one_of HT_.out (by kernel_rfl)) (by decide) (fun K hK => ?_)
        refine goes_ Try.func129 (by kernel_rfl) rfl #[.agg #[.int .i64 ((rd_T92 l0 x5_1).f0),.string ((rd_T92 l0 x5_1).f1),.int .i64 ((rd_T92 l0 x5_1).f2),.int .i64 ((rd_T92 l0 x5_1).f3)],.agg #[.int .i64 ((rd_T92 l1 x5_1).f0),.string ((rd_T92 l1 x5_1).f1),.int .i64 ((rd_T92 l1 x5_1).f2),.int .i64 ((rd_T92 l1 x5_1).f3)]] (by rfl) rfl rfl lp_ ?_
        with_reducible refine (laws_eqStep.calls ((rd_T92 l0 x5_1).f0) ((rd_T92 l0 x5_1).f1) ((rd_T92 l0 x5_1).f2) ((rd_T92 l0 x5_1).f3) ((rd_T92 l1 x5_1).f0) ((rd_T92 l1 x5_1).f1) ((rd_T92 l1 x5_1).f2) ((rd_T92 l1 x5_1).f3) false _ A7.out).mono ?_
        rintro e w12 ⟨rfl,hb⟩
        refine ⟨_,rfl,?_⟩
        replace HB:=Aside0.mk (below_step (be0_ HB.out) hb)
        (try clear hb)
        (try clear hb2)
        (try clear hk)
        (try clear hi)
        refine hK.out _ _ ⟨((HB.out.cell (World.block_lt_of_cell? w _ hw228_0)).trans hw228_0),((HB.out.cell (World.block_lt_of_cell? w _ hw228_1)).trans hw228_1),((HB.out.cell (World.block_lt_of_cell? w _ hw228_2)).trans hw228_2),((HB.out.cell (World.block_lt_of_cell? w _ hw228_3)).trans hw228_3),((HB.out.cell (World.block_lt_of_cell? w _ hw229_0)).trans hw229_0),((HB.out.cell (World.block_lt_of_cell? w _ hw229_1)).trans hw229_1),((HB.out.cell (World.block_lt_of_cell? w _ hw229_2)).trans hw229_2),((HB.out.cell (World.block_lt_of_cell? w _ hw229_3)).trans hw229_3)⟩ (fun hHeld => ?_)
        clear hK K
        refine norm_ (a':=?_) ?_ ?_
        rotate_left
        ·show Act.put _ (some 25) _ = _
         simp only [Act.put,List.setIfInBounds_toArray,List.set_cons_zero,List.set_cons_succ,i64_w,i32_w]
         rfl
        refine pure_ (i:=9) (N:=some 26) (v:=?_) (a':=?_) #[true,true,true,true,true,true,true,true,true,true] rfl rfl (any_of HT_.out (by kernel_rfl)) (fun _ _ _ h => h) (Or.inl ⟨by rfl,?_⟩) ?_ ?_
        rotate_left
        ·intro w'
         go_simp
         with_reducible rfl
        rotate_left
        ·simp only [Act.put,List.setIfInBounds_toArray,List.set_cons_zero,List.set_cons_succ,i64_w,i32_w]
         rfl
        refine done_ (done_of HT_.out (by kernel_rfl)) ?_
        try go_wp2
        go_ret
        exact ⟨er_,be0_ HB.out⟩
      ·rw [if_neg c6] at H
       exact absurd H (by simp)
     ·rw [if_neg c5] at H
      exact absurd H (by simp)
    ·rw [if_neg c4] at H
     have c4b0 : decide (x5_1 < (l0.length : Int)) = false:=decide_eq_false c4
     clear c4
     obtain rfl:=Option.some.inj H
     go_wp2
     go_ret
     exact ⟨er_,be0_ HB.out⟩
 ·rw [if_neg c3] at H
  have c3b0 : ((l0.length : Int) == (l1.length : Int)) = false:=beq_eq_false_iff_ne.mpr c3
  have c3b1 : ((l0.length : Int) != (l1.length : Int)) = true:=bne_iff_ne.mpr c3
  have c3b2 : (l0.length == l1.length) = false:=by first|simpa using c3|(simp at c3 ⊢;omega)
  obtain rfl:=Option.some.inj H
  go_enter Try.func75,Try.ntmps75
  go_wp2
  go_ret
  exact ⟨er_,be0_ HB.out⟩
end Go.Proofs.Ytfmbpoojpnoafaa.X
end
