import Derived.Test.YtfmbpoojpnoafaaKFnExactWordMatrix1
import Derived.Test.YtfmbpoojpnoafaaKFnExactWordMatrix2
import Derived.Test.YtfmbpoojpnoafaaKFnExactWordMatrix3
import Derived.Test.YtfmbpoojpnoafaaKFnExactWordMatrix5
import Derived.Deep.Slices
import Derived.Deep.Fields
import Derived.ChangeSame
import Derived.Lib.SmallJoins
import Derived.ChangeSlices
section
namespace Go.Proofs.Ytfmbpoojpnoafaa.X
open Go.RowKit Go.Proofs.YtfmbpoojpnoafaaW.PrintWords Go.Proofs.YtfmbpoojpnoafaaW.PrintLast Go.Proofs.YtfmbpoojpnoafaaW.PrintMore
attribute [local go_sem] max2_int min2_int max_two min_two max_three min_three max_four min_four
set_option linter.unusedVariables false
set_option linter.unusedSimpArgs false
mutual
def laws_FnExactWordMatrix.j0 : Nat → ByteArray → Bool → Bool → Bool → Int → List Int → List Int → List (S118) → Int → List Int → Int → List Int → List Int → List (S92) → Int → List Int → Option (Bool)
 | 0,_,_,_,_,_,_,_,_,_,_,_,_,_,_,_,_ => none
 | k + 1,x1,x7,x10,x47,x436000,x436001,x436002,x436003,x453000,x453001,x464000,x464001,x464002,x464003,x470000,x470001 => if x47 = true then (some false) else ((laws_toAutomaton.f k x436000 x436001 x436002 x436003).bind fun bt471 => ((laws_eqAutomaton.f k x464000 x464001 x464002 x464003 bt471.1 bt471.2.1 bt471.2.2.1 bt471.2.2.2).bind fun t481 => (if t481 = true then ((laws_markAutomaton.f k x464000 x464001 x464002 x464003 1).bind fun bt482 => (if bt482.1 < 0 then (laws_FnExactWordMatrix.j1 k x1 x7 true x436000 x436001 x436002 x436003 x453000 x453001 x470000 x470001) else ((laws_eqMatrix.f k x470000 x470001 x453000 x453001).bind fun t486 => (if t486 = true then (laws_FnExactWordMatrix.j1 k x1 x7 (x10 != x7) x436000 x436001 x436002 x436003 x453000 x453001 x470000 x470001) else (laws_FnExactWordMatrix.j1 k x1 x7 true x436000 x436001 x436002 x436003 x453000 x453001 x470000 x470001))))) else (some false))))
def laws_FnExactWordMatrix.j1 : Nat → ByteArray → Bool → Bool → Int → List Int → List Int → List (S118) → Int → List Int → Int → List Int → Option (Bool)
 | 0,_,_,_,_,_,_,_,_,_,_,_ => none
 | k + 1,x1,x7,x68,x436000,x436001,x436002,x436003,x453000,x453001,x470000,x470001 => if x68 = true then (some false) else ((laws_markMatrix.f k x470000 x470001 1).bind fun bt487 => ((laws_heldMatrix.f k x470000 bt487.2 1).bind fun t489 => (if t489 < 0 then (some false) else (if t489 = bt487.1 then ((laws_toAutomaton.f k x436000 x436001 x436002 x436003).bind fun bt490 => ((impl_WordMatrix.f k bt490.1 bt490.2.1 bt490.2.2.1 bt490.2.2.2 x1).bind fun bt500 => ((laws_eqMatrix.f k bt500.1 bt500.2.1 x453000 x453001).bind fun t506 => (if t506 = true then (laws_FnExactWordMatrix.j2 k bt487.1 (bt500.2.2 != x7) x470000 bt487.2) else (laws_FnExactWordMatrix.j2 k bt487.1 true x470000 bt487.2))))) else (some false)))))
def laws_FnExactWordMatrix.j2 : Nat → Int → Bool → Int → List Int → Option (Bool)
 | 0,_,_,_,_ => none
 | k + 1,x12,x95,x470000,x470001 => if x95 = true then (some false) else ((laws_heldMatrix.f k x470000 x470001 1).bind fun t507 => (if t507 < 0 then (some false) else (if t507 = x12 then (some true) else (some false))))
end
def laws_FnExactWordMatrix.f (k : Nat) (a0_0 : Int) (l0_1 : List Int) (l0_2 : List Int) (l0_3 : List (S118)) (a1 : ByteArray) : Option (Bool):=if (a1.size : Int) > 1048576 then (some true) else ((laws_szAutomaton.f k a0_0 l0_1 l0_2 l0_3 1048576).bind fun t436 => (if t436 < 0 then (some true) else ((laws_toAutomaton.f k a0_0 l0_1 l0_2 l0_3).bind fun bt437 => ((spec_WordMatrix.f k bt437.1 bt437.2.1 bt437.2.2.1 bt437.2.2.2 a1).bind fun bt447 => ((laws_toAutomaton.f k a0_0 l0_1 l0_2 l0_3).bind fun bt453 => ((impl_WordMatrix.f k bt453.1 bt453.2.1 bt453.2.2.1 bt453.2.2.2 a1).bind fun bt464 => ((laws_eqMatrix.f k bt464.1 bt464.2.1 bt447.1 bt447.2.1).bind fun t470 => (if t470 = true then (laws_FnExactWordMatrix.j0 k a1 bt447.2.2 bt464.2.2 (bt464.2.2 != bt447.2.2) a0_0 l0_1 l0_2 l0_3 bt447.1 bt447.2.1 bt453.1 bt453.2.1 bt453.2.2.1 bt453.2.2.2 bt464.1 bt464.2.1) else (laws_FnExactWordMatrix.j0 k a1 bt447.2.2 bt464.2.2 true a0_0 l0_1 l0_2 l0_3 bt447.1 bt447.2.1 bt453.1 bt453.2.1 bt453.2.2.1 bt453.2.2.2 bt464.1 bt464.2.1)))))))))
theorem laws_FnExactWordMatrix.mono_l : ∀ k,(∀ y0 y1 y2 y3 y4 y5 y6 y7 y8 y9 y10 y11 y12 y13 y14 y15,LeO (laws_FnExactWordMatrix.j0 k y0 y1 y2 y3 y4 y5 y6 y7 y8 y9 y10 y11 y12 y13 y14 y15) (laws_FnExactWordMatrix.j0 (k + 1) y0 y1 y2 y3 y4 y5 y6 y7 y8 y9 y10 y11 y12 y13 y14 y15)) ∧ (∀ y0 y1 y2 y3 y4 y5 y6 y7 y8 y9 y10,LeO (laws_FnExactWordMatrix.j1 k y0 y1 y2 y3 y4 y5 y6 y7 y8 y9 y10) (laws_FnExactWordMatrix.j1 (k + 1) y0 y1 y2 y3 y4 y5 y6 y7 y8 y9 y10)) ∧ (∀ y0 y1 y2 y3,LeO (laws_FnExactWordMatrix.j2 k y0 y1 y2 y3) (laws_FnExactWordMatrix.j2 (k + 1) y0 y1 y2 y3))
 | 0 => ⟨fun _ _ _ _ _ _ _ _ _ _ _ _ _ _ _ _ r h => by simp [laws_FnExactWordMatrix.j0] at h,fun _ _ _ _ _ _ _ _ _ _ _ r h => by simp [laws_FnExactWordMatrix.j1] at h,fun _ _ _ _ r h => by simp [laws_FnExactWordMatrix.j2] at h⟩
 | k + 1 => by
  obtain ⟨ih0,ih1,ih2⟩:=laws_FnExactWordMatrix.mono_l k
  refine ⟨?_,?_,?_⟩
  ·intro y0 y1 y2 y3 y4 y5 y6 y7 y8 y9 y10 y11 y12 y13 y14 y15
   unfold laws_FnExactWordMatrix.j0
   repeat' first
   | (with_reducible exact ih0 _ _ _ _ _ _ _ _ _ _ _ _ _ _ _ _)
   | (with_reducible exact ih1 _ _ _ _ _ _ _ _ _ _ _)
   | (with_reducible exact ih2 _ _ _ _)
   | (with_reducible exact impl_WordMatrix.mono _ _ _ _ _ _)
   | (with_reducible exact laws_eqAutomaton.mono _ _ _ _ _ _ _ _ _)
   | (with_reducible exact laws_eqMatrix.mono _ _ _ _ _)
   | (with_reducible exact laws_heldMatrix.mono _ _ _ _)
   | (with_reducible exact laws_markAutomaton.mono _ _ _ _ _ _)
   | (with_reducible exact laws_markMatrix.mono _ _ _ _)
   | (with_reducible exact laws_szAutomaton.mono _ _ _ _ _ _)
   | (with_reducible exact laws_toAutomaton.mono _ _ _ _ _)
   | (with_reducible exact spec_WordMatrix.mono _ _ _ _ _ _)
   | (with_reducible exact LeO.refl _)
   | (with_reducible exact LeO.none _)
   | (with_reducible refine LeO.ite ?_ ?_)
   | (with_reducible refine LeO.bind ?_ (fun _ => ?_))
   | exact ih0 _ _ _ _ _ _ _ _ _ _ _ _ _ _ _ _
   | exact ih1 _ _ _ _ _ _ _ _ _ _ _
   | exact ih2 _ _ _ _
   | exact impl_WordMatrix.mono _ _ _ _ _ _
   | exact laws_eqAutomaton.mono _ _ _ _ _ _ _ _ _
   | exact laws_eqMatrix.mono _ _ _ _ _
   | exact laws_heldMatrix.mono _ _ _ _
   | exact laws_markAutomaton.mono _ _ _ _ _ _
   | exact laws_markMatrix.mono _ _ _ _
   | exact laws_szAutomaton.mono _ _ _ _ _ _
   | exact laws_toAutomaton.mono _ _ _ _ _
   | exact spec_WordMatrix.mono _ _ _ _ _ _
   | exact LeO.none _
   | refine LeO.ite ?_ ?_
   | refine LeO.bind ?_ (fun _ => ?_)
  ·intro y0 y1 y2 y3 y4 y5 y6 y7 y8 y9 y10
   unfold laws_FnExactWordMatrix.j1
   repeat' first
   | (with_reducible exact ih0 _ _ _ _ _ _ _ _ _ _ _ _ _ _ _ _)
   | (with_reducible exact ih1 _ _ _ _ _ _ _ _ _ _ _)
   | (with_reducible exact ih2 _ _ _ _)
   | (with_reducible exact impl_WordMatrix.mono _ _ _ _ _ _)
   | (with_reducible exact laws_eqAutomaton.mono _ _ _ _ _ _ _ _ _)
   | (with_reducible exact laws_eqMatrix.mono _ _ _ _ _)
   | (with_reducible exact laws_heldMatrix.mono _ _ _ _)
   | (with_reducible exact laws_markAutomaton.mono _ _ _ _ _ _)
   | (with_reducible exact laws_markMatrix.mono _ _ _ _)
   | (with_reducible exact laws_szAutomaton.mono _ _ _ _ _ _)
   | (with_reducible exact laws_toAutomaton.mono _ _ _ _ _)
   | (with_reducible exact spec_WordMatrix.mono _ _ _ _ _ _)
   | (with_reducible exact LeO.refl _)
   | (with_reducible exact LeO.none _)
   | (with_reducible refine LeO.ite ?_ ?_)
   | (with_reducible refine LeO.bind ?_ (fun _ => ?_))
   | exact ih0 _ _ _ _ _ _ _ _ _ _ _ _ _ _ _ _
   | exact ih1 _ _ _ _ _ _ _ _ _ _ _
   | exact ih2 _ _ _ _
   | exact impl_WordMatrix.mono _ _ _ _ _ _
   | exact laws_eqAutomaton.mono _ _ _ _ _ _ _ _ _
   | exact laws_eqMatrix.mono _ _ _ _ _
   | exact laws_heldMatrix.mono _ _ _ _
   | exact laws_markAutomaton.mono _ _ _ _ _ _
   | exact laws_markMatrix.mono _ _ _ _
   | exact laws_szAutomaton.mono _ _ _ _ _ _
   | exact laws_toAutomaton.mono _ _ _ _ _
   | exact spec_WordMatrix.mono _ _ _ _ _ _
   | exact LeO.none _
   | refine LeO.ite ?_ ?_
   | refine LeO.bind ?_ (fun _ => ?_)
  ·intro y0 y1 y2 y3
   unfold laws_FnExactWordMatrix.j2
   repeat' first
   | (with_reducible exact ih0 _ _ _ _ _ _ _ _ _ _ _ _ _ _ _ _)
   | (with_reducible exact ih1 _ _ _ _ _ _ _ _ _ _ _)
   | (with_reducible exact ih2 _ _ _ _)
   | (with_reducible exact impl_WordMatrix.mono _ _ _ _ _ _)
   | (with_reducible exact laws_eqAutomaton.mono _ _ _ _ _ _ _ _ _)
   | (with_reducible exact laws_eqMatrix.mono _ _ _ _ _)
   | (with_reducible exact laws_heldMatrix.mono _ _ _ _)
   | (with_reducible exact laws_markAutomaton.mono _ _ _ _ _ _)
   | (with_reducible exact laws_markMatrix.mono _ _ _ _)
   | (with_reducible exact laws_szAutomaton.mono _ _ _ _ _ _)
   | (with_reducible exact laws_toAutomaton.mono _ _ _ _ _)
   | (with_reducible exact spec_WordMatrix.mono _ _ _ _ _ _)
   | (with_reducible exact LeO.refl _)
   | (with_reducible exact LeO.none _)
   | (with_reducible refine LeO.ite ?_ ?_)
   | (with_reducible refine LeO.bind ?_ (fun _ => ?_))
   | exact ih0 _ _ _ _ _ _ _ _ _ _ _ _ _ _ _ _
   | exact ih1 _ _ _ _ _ _ _ _ _ _ _
   | exact ih2 _ _ _ _
   | exact impl_WordMatrix.mono _ _ _ _ _ _
   | exact laws_eqAutomaton.mono _ _ _ _ _ _ _ _ _
   | exact laws_eqMatrix.mono _ _ _ _ _
   | exact laws_heldMatrix.mono _ _ _ _
   | exact laws_markAutomaton.mono _ _ _ _ _ _
   | exact laws_markMatrix.mono _ _ _ _
   | exact laws_szAutomaton.mono _ _ _ _ _ _
   | exact laws_toAutomaton.mono _ _ _ _ _
   | exact spec_WordMatrix.mono _ _ _ _ _ _
   | exact LeO.none _
   | refine LeO.ite ?_ ?_
   | refine LeO.bind ?_ (fun _ => ?_)
theorem laws_FnExactWordMatrix.mono : ∀ a0 a1 a2 a3 a4 k,LeO (laws_FnExactWordMatrix.f k a0 a1 a2 a3 a4) (laws_FnExactWordMatrix.f (k + 1) a0 a1 a2 a3 a4):=by
 intro a0 a1 a2 a3 a4 k
 obtain ⟨ih0,ih1,ih2⟩:=laws_FnExactWordMatrix.mono_l k
 unfold laws_FnExactWordMatrix.f
 repeat' first
   | (with_reducible exact ih0 _ _ _ _ _ _ _ _ _ _ _ _ _ _ _ _)
   | (with_reducible exact ih1 _ _ _ _ _ _ _ _ _ _ _)
   | (with_reducible exact ih2 _ _ _ _)
   | (with_reducible exact impl_WordMatrix.mono _ _ _ _ _ _)
   | (with_reducible exact laws_eqAutomaton.mono _ _ _ _ _ _ _ _ _)
   | (with_reducible exact laws_eqMatrix.mono _ _ _ _ _)
   | (with_reducible exact laws_heldMatrix.mono _ _ _ _)
   | (with_reducible exact laws_markAutomaton.mono _ _ _ _ _ _)
   | (with_reducible exact laws_markMatrix.mono _ _ _ _)
   | (with_reducible exact laws_szAutomaton.mono _ _ _ _ _ _)
   | (with_reducible exact laws_toAutomaton.mono _ _ _ _ _)
   | (with_reducible exact spec_WordMatrix.mono _ _ _ _ _ _)
   | (with_reducible exact LeO.refl _)
   | (with_reducible exact LeO.none _)
   | (with_reducible refine LeO.ite ?_ ?_)
   | (with_reducible refine LeO.bind ?_ (fun _ => ?_))
   | exact ih0 _ _ _ _ _ _ _ _ _ _ _ _ _ _ _ _
   | exact ih1 _ _ _ _ _ _ _ _ _ _ _
   | exact ih2 _ _ _ _
   | exact impl_WordMatrix.mono _ _ _ _ _ _
   | exact laws_eqAutomaton.mono _ _ _ _ _ _ _ _ _
   | exact laws_eqMatrix.mono _ _ _ _ _
   | exact laws_heldMatrix.mono _ _ _ _
   | exact laws_markAutomaton.mono _ _ _ _ _ _
   | exact laws_markMatrix.mono _ _ _ _
   | exact laws_szAutomaton.mono _ _ _ _ _ _
   | exact laws_toAutomaton.mono _ _ _ _ _
   | exact spec_WordMatrix.mono _ _ _ _ _ _
   | exact LeO.none _
   | refine LeO.ite ?_ ?_
   | refine LeO.bind ?_ (fun _ => ?_)
set_option maxHeartbeats 8000000 in
set_option maxRecDepth 100000 in
theorem laws_FnExactWordMatrix.calls (k : Nat) (a0_0 : Int) (A0_1 : Option Addr) (c0_1 : Nat) (l0_1 : List Int) (A0_2 : Option Addr) (c0_2 : Nat) (l0_2 : List Int) (A0_3 : Option Addr) (c0_3 : Nat) (l0_3 : List (S118)) (a1 : ByteArray) (r : Bool) (w : World) (hr0_1 : Kd.C (Kd.int .i64) w A0_1 l0_1.length l0_1) (hc0_1 : l0_1.length ≤ c0_1) (hr0_2 : Kd.C (Kd.int .i64) w A0_2 l0_2.length l0_2) (hc0_2 : l0_2.length ≤ c0_2) (hr0_3 : Kd.C k118 w A0_3 l0_3.length l0_3) (hc0_3 : l0_3.length ≤ c0_3) (h : laws_FnExactWordMatrix.f k a0_0 l0_1 l0_2 l0_3 a1 = some r) :
  Calls Try.prog 4 #[.agg #[.int .i64 a0_0,.slice A0_1 l0_1.length c0_1,.slice A0_2 l0_2.length c0_2,.slice A0_3 l0_3.length c0_3],.string a1] w fun e w' => e = .returned (.bool r) ∧ Below w.heap.size w w':=by
 have hu25:=Try.underlying25
 have hu35:=Try.underlying35
 have hu33:=Try.underlying33
 have HR0_1:=Aside0.mk hr0_1
 have HC0_1:=Aside0.mk hc0_1
 clear hr0_1 hc0_1
 have HR0_2:=Aside0.mk hr0_2
 have HC0_2:=Aside0.mk hc0_2
 clear hr0_2 hc0_2
 have HR0_3:=Aside0.mk hr0_3
 have HC0_3:=Aside0.mk hc0_3
 clear hr0_3 hc0_3
 have HB:=Aside0.mk (Below.refl w.heap.size w)
 have H : (if (a1.size : Int) > 1048576 then (some true) else ((laws_szAutomaton.f k a0_0 l0_1 l0_2 l0_3 1048576).bind fun t436 => (if t436 < 0 then (some true) else ((laws_toAutomaton.f k a0_0 l0_1 l0_2 l0_3).bind fun bt437 => ((spec_WordMatrix.f k bt437.1 bt437.2.1 bt437.2.2.1 bt437.2.2.2 a1).bind fun bt447 => ((laws_toAutomaton.f k a0_0 l0_1 l0_2 l0_3).bind fun bt453 => ((impl_WordMatrix.f k bt453.1 bt453.2.1 bt453.2.2.1 bt453.2.2.2 a1).bind fun bt464 => ((laws_eqMatrix.f k bt464.1 bt464.2.1 bt447.1 bt447.2.1).bind fun t470 => (if t470 = true then (laws_FnExactWordMatrix.j0 k a1 bt447.2.2 bt464.2.2 (bt464.2.2 != bt447.2.2) a0_0 l0_1 l0_2 l0_3 bt447.1 bt447.2.1 bt453.1 bt453.2.1 bt453.2.2.1 bt453.2.2.2 bt464.1 bt464.2.1) else (laws_FnExactWordMatrix.j0 k a1 bt447.2.2 bt464.2.2 true a0_0 l0_1 l0_2 l0_3 bt447.1 bt447.2.1 bt453.1 bt453.2.1 bt453.2.2.1 bt453.2.2.2 bt464.1 bt464.2.1)))))))))) = some r:=h
 clear h
 by_cases c3 : (a1.size : Int) > 1048576
 ·rw [if_pos c3] at H
  have c3b0 : decide (1048576 < (a1.size : Int)) = true:=decide_eq_true c3
  have c3b1 : decide (1048576 < a1.size) = true:=decide_eq_true (by omega)
  clear c3
  obtain rfl:=Option.some.inj H
  go_enter Try.func4,Try.ntmps4
  go_wp2_with (first|((with_reducible refine bev_ (N:=2) rfl rfl (cs:=#[.int .i64 a0_0,.slice A0_1 l0_1.length c0_1,.slice A0_2 l0_2.length c0_2,.slice A0_3 l0_3.length c0_3]) (t:=25) ?hr ?_);(case hr => first|(go_simp;done)|(go_simp;rfl));intro gb435 hg w4 hbox hb;have BK435:=Aside0.mk (hbox);have GW435:=Aside0.mk (szg_ hg (below_size (be0_ HB.out)));have GE435:=Aside0.mk (szg_ hg (below_size (be0_ HB.out)));replace HB:=Aside0.mk (below_step (be0_ HB.out) hb);clear hb hbox hg))
  go_ret
  exact ⟨er_,be1_ HB.out GE435.out⟩
 ·rw [if_neg c3] at H
  have c3b0 : decide (1048576 < (a1.size : Int)) = false:=decide_eq_false c3
  have c3b1 : decide (1048576 < a1.size) = false:=decide_eq_false (by omega)
  clear c3
  replace H:=Option.bind_eq_some_iff.mp H
  obtain ⟨t436,A50,H⟩:=H
  replace H : (if t436 < 0 then (some true) else ((laws_toAutomaton.f k a0_0 l0_1 l0_2 l0_3).bind fun bt437 => ((spec_WordMatrix.f k bt437.1 bt437.2.1 bt437.2.2.1 bt437.2.2.2 a1).bind fun bt447 => ((laws_toAutomaton.f k a0_0 l0_1 l0_2 l0_3).bind fun bt453 => ((impl_WordMatrix.f k bt453.1 bt453.2.1 bt453.2.2.1 bt453.2.2.2 a1).bind fun bt464 => ((laws_eqMatrix.f k bt464.1 bt464.2.1 bt447.1 bt447.2.1).bind fun t470 => (if t470 = true then (laws_FnExactWordMatrix.j0 k a1 bt447.2.2 bt464.2.2 (bt464.2.2 != bt447.2.2) a0_0 l0_1 l0_2 l0_3 bt447.1 bt447.2.1 bt453.1 bt453.2.1 bt453.2.2.1 bt453.2.2.2 bt464.1 bt464.2.1) else (laws_FnExactWordMatrix.j0 k a1 bt447.2.2 bt464.2.2 true a0_0 l0_1 l0_2 l0_3 bt447.1 bt447.2.1 bt453.1 bt453.2.1 bt453.2.2.1 bt453.2.2.2 bt464.1 bt464.2.1)))))))) = some r:=H
  have A5:=Aside0.mk A50
  clear A50
  by_cases c6 : t436 < 0
  ·rw [if_pos c6] at H
   have c6b0 : decide (t436 < 0) = true:=decide_eq_true c6
   clear c6
   obtain rfl:=Option.some.inj H
   go_enter Try.func4,Try.ntmps4
   go_wp2_with (first|((with_reducible refine bev_ (N:=2) rfl rfl (cs:=#[.int .i64 a0_0,.slice A0_1 l0_1.length c0_1,.slice A0_2 l0_2.length c0_2,.slice A0_3 l0_3.length c0_3]) (t:=25) ?hr ?_);(case hr => first|(go_simp;done)|(go_simp;rfl));intro gb435 hg w7 hbox hb;have BK435:=Aside0.mk (hbox);have GW435:=Aside0.mk (szg_ hg (below_size (be0_ HB.out)));have GE435:=Aside0.mk (szg_ hg (below_size (be0_ HB.out)));replace HB:=Aside0.mk (below_step (be0_ HB.out) hb);clear hb hbox hg;obtain ⟨hcz8_0,hcz8_1,hcz8_2,hcz8_3,hfz8_0,hfz8_1,hfz8_2,hfz8_3⟩:=cf4_ BK435.out)|((with_reducible refine gate_callee (f:=14) rfl ?_);refine goesL_ (some 21) rfl rfl Try.func14 (by kernel_rfl) rfl #[.agg #[.int .i64 a0_0,.slice A0_1 l0_1.length c0_1,.slice A0_2 l0_2.length c0_2,.slice A0_3 l0_3.length c0_3],.int .i64 1048576] rfl lp_ ?_;(with_reducible refine (laws_szAutomaton.calls k a0_0 _ _ l0_1 _ _ l0_2 _ _ l0_3 1048576 t436 _ ?side1 ?side2 ?side3 ?side4 ?side5 ?side6 A5.out).mono ?_);(case side1 => exact cr_ (Kd.C_below HR0_1.out HB.out));(case side2 => exact HC0_1.out);(case side3 => exact cr_ (Kd.C_below HR0_2.out HB.out));(case side4 => exact HC0_2.out);(case side5 => exact cr_ (Kd.C_below HR0_3.out HB.out));(case side6 => exact HC0_3.out);rintro e w9 ⟨rfl,hb⟩;refine ⟨_,rfl,?_⟩;replace BK435:=Aside0.mk (kb_ BK435.out hb);replace HB:=Aside0.mk (below_step (be1_ HB.out GE435.out) hb);(try clear hb);(try clear hb2);(try clear hk);(try clear hi)))
   go_ret
   exact ⟨er_,be1_ HB.out GE435.out⟩
  ·rw [if_neg c6] at H
   have c6b0 : decide (t436 < 0) = false:=decide_eq_false c6
   clear c6
   replace H:=Option.bind_eq_some_iff.mp H
   obtain ⟨⟨t437,t438,t441,t444⟩,A100,H⟩:=H
   replace H : ((spec_WordMatrix.f k t437 t438 t441 t444 a1).bind fun bt447 => ((laws_toAutomaton.f k a0_0 l0_1 l0_2 l0_3).bind fun bt453 => ((impl_WordMatrix.f k bt453.1 bt453.2.1 bt453.2.2.1 bt453.2.2.2 a1).bind fun bt464 => ((laws_eqMatrix.f k bt464.1 bt464.2.1 bt447.1 bt447.2.1).bind fun t470 => (if t470 = true then (laws_FnExactWordMatrix.j0 k a1 bt447.2.2 bt464.2.2 (bt464.2.2 != bt447.2.2) a0_0 l0_1 l0_2 l0_3 bt447.1 bt447.2.1 bt453.1 bt453.2.1 bt453.2.2.1 bt453.2.2.2 bt464.1 bt464.2.1) else (laws_FnExactWordMatrix.j0 k a1 bt447.2.2 bt464.2.2 true a0_0 l0_1 l0_2 l0_3 bt447.1 bt447.2.1 bt453.1 bt453.2.1 bt453.2.2.1 bt453.2.2.2 bt464.1 bt464.2.1)))))) = some r:=H
   have A10:=Aside0.mk A100
   clear A100
   replace H:=Option.bind_eq_some_iff.mp H
   obtain ⟨⟨t447,t448,t451⟩,A110,H⟩:=H
   replace H : ((laws_toAutomaton.f k a0_0 l0_1 l0_2 l0_3).bind fun bt453 => ((impl_WordMatrix.f k bt453.1 bt453.2.1 bt453.2.2.1 bt453.2.2.2 a1).bind fun bt464 => ((laws_eqMatrix.f k bt464.1 bt464.2.1 t447 t448).bind fun t470 => (if t470 = true then (laws_FnExactWordMatrix.j0 k a1 t451 bt464.2.2 (bt464.2.2 != t451) a0_0 l0_1 l0_2 l0_3 t447 t448 bt453.1 bt453.2.1 bt453.2.2.1 bt453.2.2.2 bt464.1 bt464.2.1) else (laws_FnExactWordMatrix.j0 k a1 t451 bt464.2.2 true a0_0 l0_1 l0_2 l0_3 t447 t448 bt453.1 bt453.2.1 bt453.2.2.1 bt453.2.2.2 bt464.1 bt464.2.1))))) = some r:=H
   have A11:=Aside0.mk A110
   clear A110
   replace H:=Option.bind_eq_some_iff.mp H
   obtain ⟨⟨t453,t454,t457,t460⟩,A120,H⟩:=H
   replace H : ((impl_WordMatrix.f k t453 t454 t457 t460 a1).bind fun bt464 => ((laws_eqMatrix.f k bt464.1 bt464.2.1 t447 t448).bind fun t470 => (if t470 = true then (laws_FnExactWordMatrix.j0 k a1 t451 bt464.2.2 (bt464.2.2 != t451) a0_0 l0_1 l0_2 l0_3 t447 t448 t453 t454 t457 t460 bt464.1 bt464.2.1) else (laws_FnExactWordMatrix.j0 k a1 t451 bt464.2.2 true a0_0 l0_1 l0_2 l0_3 t447 t448 t453 t454 t457 t460 bt464.1 bt464.2.1)))) = some r:=H
   have A12:=Aside0.mk A120
   clear A120
   replace H:=Option.bind_eq_some_iff.mp H
   obtain ⟨⟨t464,t465,t468⟩,A130,H⟩:=H
   replace H : ((laws_eqMatrix.f k t464 t465 t447 t448).bind fun t470 => (if t470 = true then (laws_FnExactWordMatrix.j0 k a1 t451 t468 (t468 != t451) a0_0 l0_1 l0_2 l0_3 t447 t448 t453 t454 t457 t460 t464 t465) else (laws_FnExactWordMatrix.j0 k a1 t451 t468 true a0_0 l0_1 l0_2 l0_3 t447 t448 t453 t454 t457 t460 t464 t465))) = some r:=H
   have A13:=Aside0.mk A130
   clear A130
   have HC14:=Aside0.mk H
   clear H
   go_enter Try.func4,Try.ntmps4
   go_upto_region 10 with (first|((with_reducible refine bev_ (N:=2) rfl rfl (cs:=#[.int .i64 a0_0,.slice A0_1 l0_1.length c0_1,.slice A0_2 l0_2.length c0_2,.slice A0_3 l0_3.length c0_3]) (t:=25) ?hr ?_);(case hr => first|(go_simp;done)|(go_simp;rfl));intro gb435 hg w15 hbox hb;have BK435:=Aside0.mk (hbox);have GW435:=Aside0.mk (szg_ hg (below_size (be0_ HB.out)));have GE435:=Aside0.mk (szg_ hg (below_size (be0_ HB.out)));replace HB:=Aside0.mk (below_step (be0_ HB.out) hb);clear hb hbox hg;obtain ⟨hcz16_0,hcz16_1,hcz16_2,hcz16_3,hfz16_0,hfz16_1,hfz16_2,hfz16_3⟩:=cf4_ BK435.out)|((with_reducible refine gate_callee (f:=14) rfl ?_);refine goesL_ (some 21) rfl rfl Try.func14 (by kernel_rfl) rfl #[.agg #[.int .i64 a0_0,.slice A0_1 l0_1.length c0_1,.slice A0_2 l0_2.length c0_2,.slice A0_3 l0_3.length c0_3],.int .i64 1048576] rfl lp_ ?_;(with_reducible refine (laws_szAutomaton.calls k a0_0 _ _ l0_1 _ _ l0_2 _ _ l0_3 1048576 t436 _ ?side1 ?side2 ?side3 ?side4 ?side5 ?side6 A5.out).mono ?_);(case side1 => exact cr_ (Kd.C_below HR0_1.out HB.out));(case side2 => exact HC0_1.out);(case side3 => exact cr_ (Kd.C_below HR0_2.out HB.out));(case side4 => exact HC0_2.out);(case side5 => exact cr_ (Kd.C_below HR0_3.out HB.out));(case side6 => exact HC0_3.out);rintro e w17 ⟨rfl,hb⟩;refine ⟨_,rfl,?_⟩;replace BK435:=Aside0.mk (kb_ BK435.out hb);replace HB:=Aside0.mk (below_step (be1_ HB.out GE435.out) hb);(try clear hb);(try clear hb2);(try clear hk);(try clear hi);obtain ⟨hcz18_0,hcz18_1,hcz18_2,hcz18_3,hfz18_0,hfz18_1,hfz18_2,hfz18_3⟩:=cf4_ BK435.out)|((with_reducible refine gate_callee (f:=17) rfl ?_);refine goesL_ (some 26) rfl rfl Try.func17 (by kernel_rfl) rfl #[.agg #[.int .i64 a0_0,.slice A0_1 l0_1.length c0_1,.slice A0_2 l0_2.length c0_2,.slice A0_3 l0_3.length c0_3]] rfl lp_ ?_;(with_reducible refine (laws_toAutomaton.calls k a0_0 _ _ l0_1 _ _ l0_2 _ _ l0_3 t437 t438 t441 t444 _ ?side1 ?side2 ?side3 ?side4 ?side5 ?side6 A10.out).mono ?_);(case side1 => exact cr_ (Kd.C_below HR0_1.out HB.out));(case side2 => exact HC0_1.out);(case side3 => exact cr_ (Kd.C_below HR0_2.out HB.out));(case side4 => exact HC0_2.out);(case side5 => exact cr_ (Kd.C_below HR0_3.out HB.out));(case side6 => exact HC0_3.out);rintro e w19 ⟨v439,v442,v445,rfl,ho0,ho1,ho2,hb⟩;refine ⟨_,rfl,?_⟩;have HO440:=Aside0.mk (Kd.R_lower ho0 (below_size (be1_ HB.out GE435.out)));have HO443:=Aside0.mk (Kd.R_lower ho1 (below_size (be1_ HB.out GE435.out)));have HO446:=Aside0.mk (Kd.R_lower ho2 (below_size (be1_ HB.out GE435.out)));replace BK435:=Aside0.mk (kb_ BK435.out hb);replace HB:=Aside0.mk (below_step (be1_ HB.out GE435.out) hb);(try clear hb);(try clear hb2);(try clear hk);(try clear hi);(try clear ho0);(try clear ho1);(try clear ho2);obtain ⟨Ao20,co20,eo20⟩:=Kd.R_slice HO440.out;subst eo20;obtain ⟨Ao21,co21,eo21⟩:=Kd.R_slice HO443.out;subst eo21;obtain ⟨Ao22,co22,eo22⟩:=Kd.R_slice HO446.out;subst eo22)|((with_reducible refine gate_callee (f:=22) rfl ?_);refine goesL_ (some 28) rfl rfl Try.func22 (by kernel_rfl) rfl #[.agg #[.int .i64 t437,.slice Ao20 t438.length co20,.slice Ao21 t441.length co21,.slice Ao22 t444.length co22],.string a1] rfl lp_ ?_;(with_reducible refine (spec_WordMatrix.calls k t437 _ _ t438 _ _ t441 _ _ t444 a1 t447 t448 t451 _ ?side1 ?side2 ?side3 ?side4 ?side5 ?side6 A11.out).mono ?_);(case side1 => exact cr_ (Kd.R_reads' HO440.out).2.2);(case side2 => exact (Kd.R_reads' HO440.out).2.1);(case side3 => exact cr_ (Kd.R_reads' HO443.out).2.2);(case side4 => exact (Kd.R_reads' HO443.out).2.1);(case side5 => exact cr_ (Kd.R_reads' HO446.out).2.2);(case side6 => exact (Kd.R_reads' HO446.out).2.1);rintro e w23 ⟨v449,rfl,ho0,hb⟩;refine ⟨_,rfl,?_⟩;replace HO446:=Aside0.mk (Kd.R_below (pr_ HO446.out) hb);have HO450:=Aside0.mk (Kd.R_lower (Kd.R_new' (Kd.R_new' ho0 (Kd.R_lt (pr_ HO440.out))) (Kd.R_lt (pr_ HO443.out))) (below_size (be1_ HB.out GE435.out)));replace HO440:=Aside0.mk (Kd.R_elder' (pr_ HO440.out) (Kd.R_base ho0) hb);replace HO443:=Aside0.mk (Kd.R_elder' (pr_ HO443.out) (Kd.R_base ho0) hb);replace BK435:=Aside0.mk (kb_ BK435.out hb);replace HB:=Aside0.mk (below_step (be1_ HB.out GE435.out) hb);(try clear hb);(try clear hb2);(try clear hk);(try clear hi);(try clear ho0))|((with_reducible refine bev_ (N:=6) rfl rfl (cs:=#[.int .i64 0,.slice none 0 0]) (t:=35) ?hr ?_);(case hr => first|(go_simp;done)|(go_simp;rfl));intro gb452 hg w24 hbox hb;replace HO440:=Aside0.mk (Kd.R_below (pr_ HO440.out) hb);replace HO443:=Aside0.mk (Kd.R_below (pr_ HO443.out) hb);replace HO446:=Aside0.mk (Kd.R_below (pr_ HO446.out) hb);replace HO450:=Aside0.mk (Kd.R_below (pr_ HO450.out) hb);have BK452:=Aside0.mk (hbox);have GW452:=Aside0.mk (szg_ hg (below_size (be1_ HB.out GE435.out)));have GE452:=Aside0.mk (szg_ hg (below_size (be1_ HB.out GE435.out)));replace HB:=Aside0.mk (below_step (be1_ HB.out GE435.out) hb);have NB435_452:=Aside0.mk (nl_ hg BK435.out);have NB452_435:=Aside0.mk (ng_ hg BK435.out);replace BK435:=Aside0.mk (kb_ BK435.out hb);clear hb hbox hg;have hnb25:=NB452_435.out;have hnc25:=NB435_452.out;obtain ⟨hcz26_0,hcz26_1,hfz26_0,hfz26_1⟩:=cf2_ BK452.out;obtain ⟨Ao27,co27,eo27⟩:=Kd.R_slice HO450.out;subst eo27;obtain ⟨hcz28_0,hcz28_1,hcz28_2,hcz28_3,hfz28_0,hfz28_1,hfz28_2,hfz28_3⟩:=cf4_ BK435.out)|((with_reducible refine gate_callee (f:=17) rfl ?_);refine goesL_ (some 32) rfl rfl Try.func17 (by kernel_rfl) rfl #[.agg #[.int .i64 a0_0,.slice A0_1 l0_1.length c0_1,.slice A0_2 l0_2.length c0_2,.slice A0_3 l0_3.length c0_3]] rfl lp_ ?_;(with_reducible refine (laws_toAutomaton.calls k a0_0 _ _ l0_1 _ _ l0_2 _ _ l0_3 t453 t454 t457 t460 _ ?side1 ?side2 ?side3 ?side4 ?side5 ?side6 A12.out).mono ?_);(case side1 => exact Kd.C_below HR0_1.out (be2_ HB.out GE435.out GE452.out));(case side2 => exact HC0_1.out);(case side3 => exact Kd.C_below HR0_2.out (be2_ HB.out GE435.out GE452.out));(case side4 => exact HC0_2.out);(case side5 => exact Kd.C_below HR0_3.out (be2_ HB.out GE435.out GE452.out));(case side6 => exact HC0_3.out);rintro e w29 ⟨v455,v458,v461,rfl,ho0,ho1,ho2,hb⟩;refine ⟨_,rfl,?_⟩;have HO456:=Aside0.mk (Kd.R_lower (Kd.R_new' (Kd.R_new' (Kd.R_new' ho0 (Kd.R_lt (by refine pr_ ?_;exact (Kd.R_mono (Kd.R_far (p:=⟨gb452,1,none⟩) (Kd.R_far (p:=⟨gb452,0,none⟩) (Kd.R_types HO440.out BK452.out (by decide)) (fun _ hk => hk.2) (.int .i64 t447)) (fun _ hk => hk.2) (.slice Ao27 t448.length co27)) (fun _ h_ => h_.1))))) (Kd.R_lt (by refine pr_ ?_;exact (Kd.R_mono (Kd.R_far (p:=⟨gb452,1,none⟩) (Kd.R_far (p:=⟨gb452,0,none⟩) (Kd.R_types HO443.out BK452.out (by decide)) (fun _ hk => hk.2) (.int .i64 t447)) (fun _ hk => hk.2) (.slice Ao27 t448.length co27)) (fun _ h_ => h_.1))))) (Kd.R_lt (by refine pr_ ?_;exact (Kd.R_mono (Kd.R_far (p:=⟨gb452,1,none⟩) (Kd.R_far (p:=⟨gb452,0,none⟩) (Kd.R_types HO450.out BK452.out (by decide)) (fun _ hk => hk.2) (.int .i64 t447)) (fun _ hk => hk.2) (.slice Ao27 t448.length co27)) (fun _ h_ => h_.1))))) (below_size (be2_ HB.out GE435.out GE452.out)));have HO459:=Aside0.mk (Kd.R_lower (Kd.R_new' (Kd.R_new' (Kd.R_new' ho1 (Kd.R_lt (by refine pr_ ?_;exact (Kd.R_mono (Kd.R_far (p:=⟨gb452,1,none⟩) (Kd.R_far (p:=⟨gb452,0,none⟩) (Kd.R_types HO440.out BK452.out (by decide)) (fun _ hk => hk.2) (.int .i64 t447)) (fun _ hk => hk.2) (.slice Ao27 t448.length co27)) (fun _ h_ => h_.1))))) (Kd.R_lt (by refine pr_ ?_;exact (Kd.R_mono (Kd.R_far (p:=⟨gb452,1,none⟩) (Kd.R_far (p:=⟨gb452,0,none⟩) (Kd.R_types HO443.out BK452.out (by decide)) (fun _ hk => hk.2) (.int .i64 t447)) (fun _ hk => hk.2) (.slice Ao27 t448.length co27)) (fun _ h_ => h_.1))))) (Kd.R_lt (by refine pr_ ?_;exact (Kd.R_mono (Kd.R_far (p:=⟨gb452,1,none⟩) (Kd.R_far (p:=⟨gb452,0,none⟩) (Kd.R_types HO450.out BK452.out (by decide)) (fun _ hk => hk.2) (.int .i64 t447)) (fun _ hk => hk.2) (.slice Ao27 t448.length co27)) (fun _ h_ => h_.1))))) (below_size (be2_ HB.out GE435.out GE452.out)));replace HO440:=Aside0.mk (Kd.R_mono (Kd.R_told (Kd.R_told (Kd.R_old (by refine pr_ ?_;exact (Kd.R_mono (Kd.R_far (p:=⟨gb452,1,none⟩) (Kd.R_far (p:=⟨gb452,0,none⟩) (Kd.R_types HO440.out BK452.out (by decide)) (fun _ hk => hk.2) (.int .i64 t447)) (fun _ hk => hk.2) (.slice Ao27 t448.length co27)) (fun _ h_ => h_.1))) hb) (Kd.R_base ho0)) (Kd.R_base ho1)) (fun _ h_ => h_.1));replace HO443:=Aside0.mk (Kd.R_mono (Kd.R_told (Kd.R_told (Kd.R_old (by refine pr_ ?_;exact (Kd.R_mono (Kd.R_far (p:=⟨gb452,1,none⟩) (Kd.R_far (p:=⟨gb452,0,none⟩) (Kd.R_types HO443.out BK452.out (by decide)) (fun _ hk => hk.2) (.int .i64 t447)) (fun _ hk => hk.2) (.slice Ao27 t448.length co27)) (fun _ h_ => h_.1))) hb) (Kd.R_base ho0)) (Kd.R_base ho1)) (fun _ h_ => h_.1));replace HO450:=Aside0.mk (Kd.R_mono (Kd.R_told (Kd.R_told (Kd.R_old (by refine pr_ ?_;exact (Kd.R_mono (Kd.R_far (p:=⟨gb452,1,none⟩) (Kd.R_far (p:=⟨gb452,0,none⟩) (Kd.R_types HO450.out BK452.out (by decide)) (fun _ hk => hk.2) (.int .i64 t447)) (fun _ hk => hk.2) (.slice Ao27 t448.length co27)) (fun _ h_ => h_.1))) hb) (Kd.R_base ho0)) (Kd.R_base ho1)) (fun _ h_ => h_.1));have HO462:=Aside0.mk (Kd.R_lower (Kd.R_new' ho2 (Kd.R_lt (by refine pr_ ?_;exact (Kd.R_mono (Kd.R_far (p:=⟨gb452,1,none⟩) (Kd.R_far (p:=⟨gb452,0,none⟩) (Kd.R_types HO446.out BK452.out (by decide)) (fun _ hk => hk.2) (.int .i64 t447)) (fun _ hk => hk.2) (.slice Ao27 t448.length co27)) (fun _ h_ => h_.1))))) (below_size (be2_ HB.out GE435.out GE452.out)));replace HO446:=Aside0.mk (Kd.R_elder' (by refine pr_ ?_;exact (Kd.R_mono (Kd.R_far (p:=⟨gb452,1,none⟩) (Kd.R_far (p:=⟨gb452,0,none⟩) (Kd.R_types HO446.out BK452.out (by decide)) (fun _ hk => hk.2) (.int .i64 t447)) (fun _ hk => hk.2) (.slice Ao27 t448.length co27)) (fun _ h_ => h_.1))) (Kd.R_base ho2) hb);replace BK435:=Aside0.mk (blk_below (g:=gb435) (o:=.cells #[.int .i64 a0_0,.slice A0_1 l0_1.length c0_1,.slice A0_2 l0_2.length c0_2,.slice A0_3 l0_3.length c0_3] 25 (0,0)) (by refine pe_ ?_;refine blk_far ?_ NB435_452.out _;refine pe_ ?_;refine blk_far ?_ NB435_452.out _;refine pe_ ?_;exact BK435.out) hb);replace BK452:=Aside0.mk (blk_below (g:=gb452) (o:=.cells #[.int .i64 t447,.slice Ao27 t448.length co27] 35 (0,0)) (by refine pe_ ?_;refine blk_put (cs:=#[.int .i64 t447,.slice none 0 0]) ?_ 1 _ rfl;refine pe_ ?_;refine blk_put (cs:=#[.int .i64 0,.slice none 0 0]) ?_ 0 _ rfl;refine pe_ ?_;exact BK452.out) hb);replace HB:=Aside0.mk (below_step (be2_ HB.out GE435.out GE452.out) hb);(try clear hb);(try clear hb2);(try clear hk);(try clear hi);(try clear ho0);(try clear ho1);(try clear ho2))|((with_reducible refine bev_ (N:=8) rfl rfl (cs:=#[.int .i64 0,.slice none 0 0,.slice none 0 0,.slice none 0 0]) (t:=33) ?hr ?_);(case hr => first|(go_simp;done)|(go_simp;rfl));intro gb463 hg w30 hbox hb;replace HO440:=Aside0.mk (Kd.R_below (pr_ HO440.out) hb);replace HO443:=Aside0.mk (Kd.R_below (pr_ HO443.out) hb);replace HO446:=Aside0.mk (Kd.R_below (pr_ HO446.out) hb);replace HO450:=Aside0.mk (Kd.R_below (pr_ HO450.out) hb);replace HO456:=Aside0.mk (Kd.R_below (pr_ HO456.out) hb);replace HO459:=Aside0.mk (Kd.R_below (pr_ HO459.out) hb);replace HO462:=Aside0.mk (Kd.R_below (pr_ HO462.out) hb);have BK463:=Aside0.mk (hbox);have GW463:=Aside0.mk (szg_ hg (below_size (be2_ HB.out GE435.out GE452.out)));have GE463:=Aside0.mk (szg_ hg (below_size (be2_ HB.out GE435.out GE452.out)));replace HB:=Aside0.mk (below_step (be2_ HB.out GE435.out GE452.out) hb);have NB435_463:=Aside0.mk (nl_ hg BK435.out);have NB463_435:=Aside0.mk (ng_ hg BK435.out);replace BK435:=Aside0.mk (kb_ BK435.out hb);have NB452_463:=Aside0.mk (nl_ hg BK452.out);have NB463_452:=Aside0.mk (ng_ hg BK452.out);replace BK452:=Aside0.mk (kb_ BK452.out hb);clear hb hbox hg;have hnb31:=NB463_435.out;have hnc31:=NB435_463.out;have hnb32:=NB463_452.out;have hnc32:=NB452_463.out;obtain ⟨hcz33_0,hcz33_1,hcz33_2,hcz33_3,hfz33_0,hfz33_1,hfz33_2,hfz33_3⟩:=cf4_ BK463.out;obtain ⟨Ao34,co34,eo34⟩:=Kd.R_slice HO456.out;subst eo34;obtain ⟨Ao35,co35,eo35⟩:=Kd.R_slice HO459.out;subst eo35;obtain ⟨Ao36,co36,eo36⟩:=Kd.R_slice HO462.out;subst eo36)|((with_reducible refine gate_callee (f:=23) rfl ?_);refine goesL_ (some 36) rfl rfl Try.func23 (by kernel_rfl) rfl #[.agg #[.int .i64 t453,.slice Ao34 t454.length co34,.slice Ao35 t457.length co35,.slice Ao36 t460.length co36],.string a1] rfl lp_ ?_;(with_reducible refine (impl_WordMatrix.calls k t453 _ _ t454 _ _ t457 _ _ t460 a1 t464 t465 t468 _ ?side1 ?side2 ?side3 ?side4 ?side5 ?side6 A13.out).mono ?_);(case side1 => refine (Kd.R_reads' (e:=3) (base:=w.heap.size) (ok:=fun k_ => (((some k_ ≠ (.slice Ao35 t457.length co35 : Value).ownBlock ∧ some k_ ≠ (.slice Ao20 t438.length co20 : Value).ownBlock) ∧ some k_ ≠ (.slice Ao21 t441.length co21 : Value).ownBlock) ∧ some k_ ≠ (.slice Ao27 t448.length co27 : Value).ownBlock)) (n:=t454.length) (c:=co34) ?_).2.2;exact (by refine pr_ ?_;exact (Kd.R_mono (Kd.R_far (p:=⟨gb463,3,none⟩) (Kd.R_far (p:=⟨gb463,2,none⟩) (Kd.R_far (p:=⟨gb463,1,none⟩) (Kd.R_far (p:=⟨gb463,0,none⟩) (Kd.R_types HO456.out BK463.out (by decide)) (fun _ hk => hk.2) (.int .i64 t453)) (fun _ hk => hk.2) (.slice Ao34 t454.length co34)) (fun _ hk => hk.2) (.slice Ao35 t457.length co35)) (fun _ hk => hk.2) (.slice Ao36 t460.length co36)) (fun _ h_ => h_.1))));(case side2 => exact (Kd.R_reads' HO456.out).2.1);(case side3 => refine (Kd.R_reads' (e:=3) (base:=w.heap.size) (ok:=fun k_ => (((some k_ ≠ (.slice Ao34 t454.length co34 : Value).ownBlock ∧ some k_ ≠ (.slice Ao20 t438.length co20 : Value).ownBlock) ∧ some k_ ≠ (.slice Ao21 t441.length co21 : Value).ownBlock) ∧ some k_ ≠ (.slice Ao27 t448.length co27 : Value).ownBlock)) (n:=t457.length) (c:=co35) ?_).2.2;exact (by refine pr_ ?_;exact (Kd.R_mono (Kd.R_far (p:=⟨gb463,3,none⟩) (Kd.R_far (p:=⟨gb463,2,none⟩) (Kd.R_far (p:=⟨gb463,1,none⟩) (Kd.R_far (p:=⟨gb463,0,none⟩) (Kd.R_types HO459.out BK463.out (by decide)) (fun _ hk => hk.2) (.int .i64 t453)) (fun _ hk => hk.2) (.slice Ao34 t454.length co34)) (fun _ hk => hk.2) (.slice Ao35 t457.length co35)) (fun _ hk => hk.2) (.slice Ao36 t460.length co36)) (fun _ h_ => h_.1))));(case side4 => exact (Kd.R_reads' HO459.out).2.1);(case side5 => refine (Kd.R_reads' (e:=92) (base:=w.heap.size) (ok:=fun k_ => (True ∧ some k_ ≠ (.slice Ao22 t444.length co22 : Value).ownBlock)) (n:=t460.length) (c:=co36) ?_).2.2;exact (by refine pr_ ?_;exact (Kd.R_mono (Kd.R_far (p:=⟨gb463,3,none⟩) (Kd.R_far (p:=⟨gb463,2,none⟩) (Kd.R_far (p:=⟨gb463,1,none⟩) (Kd.R_far (p:=⟨gb463,0,none⟩) (Kd.R_types HO462.out BK463.out (by decide)) (fun _ hk => hk.2) (.int .i64 t453)) (fun _ hk => hk.2) (.slice Ao34 t454.length co34)) (fun _ hk => hk.2) (.slice Ao35 t457.length co35)) (fun _ hk => hk.2) (.slice Ao36 t460.length co36)) (fun _ h_ => h_.1))));(case side6 => exact (Kd.R_reads' HO462.out).2.1);rintro e w37 ⟨v466,rfl,ho0,hb⟩;refine ⟨_,rfl,?_⟩;replace HO446:=Aside0.mk (Kd.R_below (by refine pr_ ?_;exact (Kd.R_mono (Kd.R_far (p:=⟨gb463,3,none⟩) (Kd.R_far (p:=⟨gb463,2,none⟩) (Kd.R_far (p:=⟨gb463,1,none⟩) (Kd.R_far (p:=⟨gb463,0,none⟩) (Kd.R_types HO446.out BK463.out (by decide)) (fun _ hk => hk.2) (.int .i64 t453)) (fun _ hk => hk.2) (.slice Ao34 t454.length co34)) (fun _ hk => hk.2) (.slice Ao35 t457.length co35)) (fun _ hk => hk.2) (.slice Ao36 t460.length co36)) (fun _ h_ => h_.1))) hb);replace HO462:=Aside0.mk (Kd.R_below (by refine pr_ ?_;exact (Kd.R_mono (Kd.R_far (p:=⟨gb463,3,none⟩) (Kd.R_far (p:=⟨gb463,2,none⟩) (Kd.R_far (p:=⟨gb463,1,none⟩) (Kd.R_far (p:=⟨gb463,0,none⟩) (Kd.R_types HO462.out BK463.out (by decide)) (fun _ hk => hk.2) (.int .i64 t453)) (fun _ hk => hk.2) (.slice Ao34 t454.length co34)) (fun _ hk => hk.2) (.slice Ao35 t457.length co35)) (fun _ hk => hk.2) (.slice Ao36 t460.length co36)) (fun _ h_ => h_.1))) hb);have HO467:=Aside0.mk (Kd.R_lower (Kd.R_new' (Kd.R_new' (Kd.R_new' (Kd.R_new' (Kd.R_new' ho0 (Kd.R_lt (by refine pr_ ?_;exact (Kd.R_mono (Kd.R_far (p:=⟨gb463,3,none⟩) (Kd.R_far (p:=⟨gb463,2,none⟩) (Kd.R_far (p:=⟨gb463,1,none⟩) (Kd.R_far (p:=⟨gb463,0,none⟩) (Kd.R_types HO440.out BK463.out (by decide)) (fun _ hk => hk.2) (.int .i64 t453)) (fun _ hk => hk.2) (.slice Ao34 t454.length co34)) (fun _ hk => hk.2) (.slice Ao35 t457.length co35)) (fun _ hk => hk.2) (.slice Ao36 t460.length co36)) (fun _ h_ => h_.1))))) (Kd.R_lt (by refine pr_ ?_;exact (Kd.R_mono (Kd.R_far (p:=⟨gb463,3,none⟩) (Kd.R_far (p:=⟨gb463,2,none⟩) (Kd.R_far (p:=⟨gb463,1,none⟩) (Kd.R_far (p:=⟨gb463,0,none⟩) (Kd.R_types HO443.out BK463.out (by decide)) (fun _ hk => hk.2) (.int .i64 t453)) (fun _ hk => hk.2) (.slice Ao34 t454.length co34)) (fun _ hk => hk.2) (.slice Ao35 t457.length co35)) (fun _ hk => hk.2) (.slice Ao36 t460.length co36)) (fun _ h_ => h_.1))))) (Kd.R_lt (by refine pr_ ?_;exact (Kd.R_mono (Kd.R_far (p:=⟨gb463,3,none⟩) (Kd.R_far (p:=⟨gb463,2,none⟩) (Kd.R_far (p:=⟨gb463,1,none⟩) (Kd.R_far (p:=⟨gb463,0,none⟩) (Kd.R_types HO450.out BK463.out (by decide)) (fun _ hk => hk.2) (.int .i64 t453)) (fun _ hk => hk.2) (.slice Ao34 t454.length co34)) (fun _ hk => hk.2) (.slice Ao35 t457.length co35)) (fun _ hk => hk.2) (.slice Ao36 t460.length co36)) (fun _ h_ => h_.1))))) (Kd.R_lt (by refine pr_ ?_;exact (Kd.R_mono (Kd.R_far (p:=⟨gb463,3,none⟩) (Kd.R_far (p:=⟨gb463,2,none⟩) (Kd.R_far (p:=⟨gb463,1,none⟩) (Kd.R_far (p:=⟨gb463,0,none⟩) (Kd.R_types HO456.out BK463.out (by decide)) (fun _ hk => hk.2) (.int .i64 t453)) (fun _ hk => hk.2) (.slice Ao34 t454.length co34)) (fun _ hk => hk.2) (.slice Ao35 t457.length co35)) (fun _ hk => hk.2) (.slice Ao36 t460.length co36)) (fun _ h_ => h_.1))))) (Kd.R_lt (by refine pr_ ?_;exact (Kd.R_mono (Kd.R_far (p:=⟨gb463,3,none⟩) (Kd.R_far (p:=⟨gb463,2,none⟩) (Kd.R_far (p:=⟨gb463,1,none⟩) (Kd.R_far (p:=⟨gb463,0,none⟩) (Kd.R_types HO459.out BK463.out (by decide)) (fun _ hk => hk.2) (.int .i64 t453)) (fun _ hk => hk.2) (.slice Ao34 t454.length co34)) (fun _ hk => hk.2) (.slice Ao35 t457.length co35)) (fun _ hk => hk.2) (.slice Ao36 t460.length co36)) (fun _ h_ => h_.1))))) (below_size (be3_ HB.out GE435.out GE452.out GE463.out)));replace HO440:=Aside0.mk (Kd.R_elder' (by refine pr_ ?_;exact (Kd.R_mono (Kd.R_far (p:=⟨gb463,3,none⟩) (Kd.R_far (p:=⟨gb463,2,none⟩) (Kd.R_far (p:=⟨gb463,1,none⟩) (Kd.R_far (p:=⟨gb463,0,none⟩) (Kd.R_types HO440.out BK463.out (by decide)) (fun _ hk => hk.2) (.int .i64 t453)) (fun _ hk => hk.2) (.slice Ao34 t454.length co34)) (fun _ hk => hk.2) (.slice Ao35 t457.length co35)) (fun _ hk => hk.2) (.slice Ao36 t460.length co36)) (fun _ h_ => h_.1))) (Kd.R_base ho0) hb);replace HO443:=Aside0.mk (Kd.R_elder' (by refine pr_ ?_;exact (Kd.R_mono (Kd.R_far (p:=⟨gb463,3,none⟩) (Kd.R_far (p:=⟨gb463,2,none⟩) (Kd.R_far (p:=⟨gb463,1,none⟩) (Kd.R_far (p:=⟨gb463,0,none⟩) (Kd.R_types HO443.out BK463.out (by decide)) (fun _ hk => hk.2) (.int .i64 t453)) (fun _ hk => hk.2) (.slice Ao34 t454.length co34)) (fun _ hk => hk.2) (.slice Ao35 t457.length co35)) (fun _ hk => hk.2) (.slice Ao36 t460.length co36)) (fun _ h_ => h_.1))) (Kd.R_base ho0) hb);replace HO450:=Aside0.mk (Kd.R_elder' (by refine pr_ ?_;exact (Kd.R_mono (Kd.R_far (p:=⟨gb463,3,none⟩) (Kd.R_far (p:=⟨gb463,2,none⟩) (Kd.R_far (p:=⟨gb463,1,none⟩) (Kd.R_far (p:=⟨gb463,0,none⟩) (Kd.R_types HO450.out BK463.out (by decide)) (fun _ hk => hk.2) (.int .i64 t453)) (fun _ hk => hk.2) (.slice Ao34 t454.length co34)) (fun _ hk => hk.2) (.slice Ao35 t457.length co35)) (fun _ hk => hk.2) (.slice Ao36 t460.length co36)) (fun _ h_ => h_.1))) (Kd.R_base ho0) hb);replace HO456:=Aside0.mk (Kd.R_elder' (by refine pr_ ?_;exact (Kd.R_mono (Kd.R_far (p:=⟨gb463,3,none⟩) (Kd.R_far (p:=⟨gb463,2,none⟩) (Kd.R_far (p:=⟨gb463,1,none⟩) (Kd.R_far (p:=⟨gb463,0,none⟩) (Kd.R_types HO456.out BK463.out (by decide)) (fun _ hk => hk.2) (.int .i64 t453)) (fun _ hk => hk.2) (.slice Ao34 t454.length co34)) (fun _ hk => hk.2) (.slice Ao35 t457.length co35)) (fun _ hk => hk.2) (.slice Ao36 t460.length co36)) (fun _ h_ => h_.1))) (Kd.R_base ho0) hb);replace HO459:=Aside0.mk (Kd.R_elder' (by refine pr_ ?_;exact (Kd.R_mono (Kd.R_far (p:=⟨gb463,3,none⟩) (Kd.R_far (p:=⟨gb463,2,none⟩) (Kd.R_far (p:=⟨gb463,1,none⟩) (Kd.R_far (p:=⟨gb463,0,none⟩) (Kd.R_types HO459.out BK463.out (by decide)) (fun _ hk => hk.2) (.int .i64 t453)) (fun _ hk => hk.2) (.slice Ao34 t454.length co34)) (fun _ hk => hk.2) (.slice Ao35 t457.length co35)) (fun _ hk => hk.2) (.slice Ao36 t460.length co36)) (fun _ h_ => h_.1))) (Kd.R_base ho0) hb);replace BK435:=Aside0.mk (blk_below (g:=gb435) (o:=.cells #[.int .i64 a0_0,.slice A0_1 l0_1.length c0_1,.slice A0_2 l0_2.length c0_2,.slice A0_3 l0_3.length c0_3] 25 (0,0)) (by refine pe_ ?_;refine blk_far ?_ NB435_463.out _;refine pe_ ?_;refine blk_far ?_ NB435_463.out _;refine pe_ ?_;refine blk_far ?_ NB435_463.out _;refine pe_ ?_;refine blk_far ?_ NB435_463.out _;refine pe_ ?_;exact BK435.out) hb);replace BK452:=Aside0.mk (blk_below (g:=gb452) (o:=.cells #[.int .i64 t447,.slice Ao27 t448.length co27] 35 (0,0)) (by refine pe_ ?_;refine blk_far ?_ NB452_463.out _;refine pe_ ?_;refine blk_far ?_ NB452_463.out _;refine pe_ ?_;refine blk_far ?_ NB452_463.out _;refine pe_ ?_;refine blk_far ?_ NB452_463.out _;refine pe_ ?_;exact BK452.out) hb);replace BK463:=Aside0.mk (blk_below (g:=gb463) (o:=.cells #[.int .i64 t453,.slice Ao34 t454.length co34,.slice Ao35 t457.length co35,.slice Ao36 t460.length co36] 33 (0,0)) (by refine pe_ ?_;refine blk_put (cs:=#[.int .i64 t453,.slice Ao34 t454.length co34,.slice Ao35 t457.length co35,.slice none 0 0]) ?_ 3 _ rfl;refine pe_ ?_;refine blk_put (cs:=#[.int .i64 t453,.slice Ao34 t454.length co34,.slice none 0 0,.slice none 0 0]) ?_ 2 _ rfl;refine pe_ ?_;refine blk_put (cs:=#[.int .i64 t453,.slice none 0 0,.slice none 0 0,.slice none 0 0]) ?_ 1 _ rfl;refine pe_ ?_;refine blk_put (cs:=#[.int .i64 0,.slice none 0 0,.slice none 0 0,.slice none 0 0]) ?_ 0 _ rfl;refine pe_ ?_;exact BK463.out) hb);replace HB:=Aside0.mk (below_step (be3_ HB.out GE435.out GE452.out GE463.out) hb);(try clear hb);(try clear hb2);(try clear hk);(try clear hi);(try clear ho0))|((with_reducible refine bev_ (N:=9) rfl rfl (cs:=#[.int .i64 0,.slice none 0 0]) (t:=35) ?hr ?_);(case hr => first|(go_simp;done)|(go_simp;rfl));intro gb469 hg w38 hbox hb;replace HO440:=Aside0.mk (Kd.R_below (pr_ HO440.out) hb);replace HO443:=Aside0.mk (Kd.R_below (pr_ HO443.out) hb);replace HO446:=Aside0.mk (Kd.R_below (pr_ HO446.out) hb);replace HO450:=Aside0.mk (Kd.R_below (pr_ HO450.out) hb);replace HO456:=Aside0.mk (Kd.R_below (pr_ HO456.out) hb);replace HO459:=Aside0.mk (Kd.R_below (pr_ HO459.out) hb);replace HO462:=Aside0.mk (Kd.R_below (pr_ HO462.out) hb);replace HO467:=Aside0.mk (Kd.R_below (pr_ HO467.out) hb);have BK469:=Aside0.mk (hbox);have GW469:=Aside0.mk (szg_ hg (below_size (be3_ HB.out GE435.out GE452.out GE463.out)));have GE469:=Aside0.mk (szg_ hg (below_size (be3_ HB.out GE435.out GE452.out GE463.out)));replace HB:=Aside0.mk (below_step (be3_ HB.out GE435.out GE452.out GE463.out) hb);have NB435_469:=Aside0.mk (nl_ hg BK435.out);have NB469_435:=Aside0.mk (ng_ hg BK435.out);replace BK435:=Aside0.mk (kb_ BK435.out hb);have NB452_469:=Aside0.mk (nl_ hg BK452.out);have NB469_452:=Aside0.mk (ng_ hg BK452.out);replace BK452:=Aside0.mk (kb_ BK452.out hb);have NB463_469:=Aside0.mk (nl_ hg BK463.out);have NB469_463:=Aside0.mk (ng_ hg BK463.out);replace BK463:=Aside0.mk (kb_ BK463.out hb);clear hb hbox hg;have hnb39:=NB469_435.out;have hnc39:=NB435_469.out;have hnb40:=NB469_452.out;have hnc40:=NB452_469.out;have hnb41:=NB469_463.out;have hnc41:=NB463_469.out;obtain ⟨hcz42_0,hcz42_1,hfz42_0,hfz42_1⟩:=cf2_ BK469.out;obtain ⟨Ao43,co43,eo43⟩:=Kd.R_slice HO467.out;subst eo43))
   (try simp only [Act.put,List.setIfInBounds_toArray,List.set_cons_zero,List.set_cons_succ])
   go_cut [47] (fun v47 wc => ∃ (kq : Nat) (x47_13 : Bool),v47 = .bool x47_13 ∧ Aside0 (laws_FnExactWordMatrix.j0 kq a1 t451 t468 x47_13 a0_0 l0_1 l0_2 l0_3 t447 t448 t453 t454 t457 t460 t464 t465 = some r) ∧ Aside0 (kq ≤ k) ∧ Aside0 (Kd.R (Kd.int .i64) 3 wc w.heap.size (fun k_ => some k_ ≠ ((.slice Ao34 t454.length co34) : Value).ownBlock ∧ some k_ ≠ ((.slice Ao35 t457.length co35) : Value).ownBlock ∧ some k_ ≠ ((.slice Ao43 t465.length co43) : Value).ownBlock) (.slice Ao27 t448.length co27) t448) ∧ Aside0 (Kd.R (Kd.int .i64) 3 wc w.heap.size (fun k_ => some k_ ≠ ((.slice Ao27 t448.length co27) : Value).ownBlock ∧ some k_ ≠ ((.slice Ao35 t457.length co35) : Value).ownBlock ∧ some k_ ≠ ((.slice Ao43 t465.length co43) : Value).ownBlock) (.slice Ao34 t454.length co34) t454) ∧ Aside0 (Kd.R (Kd.int .i64) 3 wc w.heap.size (fun k_ => some k_ ≠ ((.slice Ao27 t448.length co27) : Value).ownBlock ∧ some k_ ≠ ((.slice Ao34 t454.length co34) : Value).ownBlock ∧ some k_ ≠ ((.slice Ao43 t465.length co43) : Value).ownBlock) (.slice Ao35 t457.length co35) t457) ∧ Aside0 (Kd.R k92 92 wc w.heap.size (fun _ => True) (.slice Ao36 t460.length co36) t460) ∧ Aside0 (Kd.R (Kd.int .i64) 3 wc w.heap.size (fun k_ => some k_ ≠ ((.slice Ao27 t448.length co27) : Value).ownBlock ∧ some k_ ≠ ((.slice Ao34 t454.length co34) : Value).ownBlock ∧ some k_ ≠ ((.slice Ao35 t457.length co35) : Value).ownBlock) (.slice Ao43 t465.length co43) t465) ∧ Aside0 (wc.heap[gb435]? = some (.cells #[.int .i64 a0_0,(.slice A0_1 l0_1.length c0_1),(.slice A0_2 l0_2.length c0_2),(.slice A0_3 l0_3.length c0_3)] 25 (0,0))) ∧ Aside0 (wc.heap[gb452]? = some (.cells #[.int .i64 t447,(.slice Ao27 t448.length co27)] 35 (0,0))) ∧ Aside0 (wc.heap[gb463]? = some (.cells #[.int .i64 t453,(.slice Ao34 t454.length co34),(.slice Ao35 t457.length co35),(.slice Ao36 t460.length co36)] 33 (0,0))) ∧ Aside0 (wc.heap[gb469]? = some (.cells #[.int .i64 t464,(.slice Ao43 t465.length co43)] 35 (0,0))) ∧ Aside0 (Below w.heap.size w wc))
   case first =>
    have H:=HC14.out
    clear HC14
    replace H:=Option.bind_eq_some_iff.mp H
    obtain ⟨t470,A440,H⟩:=H
    replace H : (if t470 = true then (laws_FnExactWordMatrix.j0 k a1 t451 t468 (t468 != t451) a0_0 l0_1 l0_2 l0_3 t447 t448 t453 t454 t457 t460 t464 t465) else (laws_FnExactWordMatrix.j0 k a1 t451 t468 true a0_0 l0_1 l0_2 l0_3 t447 t448 t453 t454 t457 t460 t464 t465)) = some r:=H
    have A44:=Aside0.mk A440
    clear A440
    by_cases c45 : t470 = true
    ·subst c45
     have H1 : (laws_FnExactWordMatrix.j0 k a1 t451 t468 (t468 != t451) a0_0 l0_1 l0_2 l0_3 t447 t448 t453 t454 t457 t460 t464 t465) = some r:=by rw [if_pos rfl] at H;exact H
     clear H
     have H:=H1
     clear H1
     have H':=Aside0.mk H
     clear H
     have hnb46:=NB469_435.out
     have hnc46:=NB435_469.out
     have hnb47:=NB469_452.out
     have hnc47:=NB452_469.out
     have hnb48:=NB469_463.out
     have hnc48:=NB463_469.out
     obtain ⟨hcz49_0,hcz49_1,hfz49_0,hfz49_1⟩:=cf2_ BK469.out
     have hnb50:=NB452_435.out
     have hnc50:=NB435_452.out
     have hnb51:=NB452_463.out
     have hnc51:=NB463_452.out
     obtain ⟨hcz52_0,hcz52_1,hfz52_0,hfz52_1⟩:=cf2_ BK452.out
     go_wp2_with (first|((with_reducible refine gate_callee (f:=21) rfl ?_);refine goesL_ (some 41) rfl rfl Try.func21 (by kernel_rfl) rfl #[.agg #[.int .i64 t464,.slice Ao43 t465.length co43],.agg #[.int .i64 t447,.slice Ao27 t448.length co27]] rfl lp_ ?_;(with_reducible refine (laws_eqMatrix.calls k t464 _ _ t465 t447 _ _ t448 true _ ?side1 ?side2 ?side3 ?side4 A44.out).mono ?_);(case side1 => refine (Kd.R_reads' (e:=3) (base:=w.heap.size) (ok:=fun k_ => (((((True ∧ some k_ ≠ (.slice Ao20 t438.length co20 : Value).ownBlock) ∧ some k_ ≠ (.slice Ao21 t441.length co21 : Value).ownBlock) ∧ some k_ ≠ (.slice Ao27 t448.length co27 : Value).ownBlock) ∧ some k_ ≠ (.slice Ao34 t454.length co34 : Value).ownBlock) ∧ some k_ ≠ (.slice Ao35 t457.length co35 : Value).ownBlock)) (n:=t465.length) (c:=co43) ?_).2.2;exact (by refine pr_ ?_;exact (Kd.R_mono (Kd.R_far (p:=⟨gb469,1,none⟩) (Kd.R_far (p:=⟨gb469,0,none⟩) (Kd.R_types HO467.out BK469.out (by decide)) (fun _ hk => hk.2) (.int .i64 t464)) (fun _ hk => hk.2) (.slice Ao43 t465.length co43)) (fun _ h_ => h_.1))));(case side2 => exact (Kd.R_reads' HO467.out).2.1);(case side3 => refine (Kd.R_reads' (e:=3) (base:=w.heap.size) (ok:=fun k_ => (((((True ∧ some k_ ≠ (.slice Ao20 t438.length co20 : Value).ownBlock) ∧ some k_ ≠ (.slice Ao21 t441.length co21 : Value).ownBlock) ∧ some k_ ≠ (.slice Ao34 t454.length co34 : Value).ownBlock) ∧ some k_ ≠ (.slice Ao35 t457.length co35 : Value).ownBlock) ∧ some k_ ≠ (.slice Ao43 t465.length co43 : Value).ownBlock)) (n:=t448.length) (c:=co27) ?_).2.2;exact (by refine pr_ ?_;exact (Kd.R_mono (Kd.R_far (p:=⟨gb469,1,none⟩) (Kd.R_far (p:=⟨gb469,0,none⟩) (Kd.R_types HO450.out BK469.out (by decide)) (fun _ hk => hk.2) (.int .i64 t464)) (fun _ hk => hk.2) (.slice Ao43 t465.length co43)) (fun _ h_ => h_.1))));(case side4 => exact (Kd.R_reads' HO450.out).2.1);rintro e w53 ⟨rfl,hb⟩;refine ⟨_,rfl,?_⟩;replace HO440:=Aside0.mk (Kd.R_below (by refine pr_ ?_;exact (Kd.R_mono (Kd.R_far (p:=⟨gb469,1,none⟩) (Kd.R_far (p:=⟨gb469,0,none⟩) (Kd.R_types HO440.out BK469.out (by decide)) (fun _ hk => hk.2) (.int .i64 t464)) (fun _ hk => hk.2) (.slice Ao43 t465.length co43)) (fun _ h_ => h_.1))) hb);replace HO443:=Aside0.mk (Kd.R_below (by refine pr_ ?_;exact (Kd.R_mono (Kd.R_far (p:=⟨gb469,1,none⟩) (Kd.R_far (p:=⟨gb469,0,none⟩) (Kd.R_types HO443.out BK469.out (by decide)) (fun _ hk => hk.2) (.int .i64 t464)) (fun _ hk => hk.2) (.slice Ao43 t465.length co43)) (fun _ h_ => h_.1))) hb);replace HO446:=Aside0.mk (Kd.R_below (by refine pr_ ?_;exact (Kd.R_mono (Kd.R_far (p:=⟨gb469,1,none⟩) (Kd.R_far (p:=⟨gb469,0,none⟩) (Kd.R_types HO446.out BK469.out (by decide)) (fun _ hk => hk.2) (.int .i64 t464)) (fun _ hk => hk.2) (.slice Ao43 t465.length co43)) (fun _ h_ => h_.1))) hb);replace HO450:=Aside0.mk (Kd.R_below (by refine pr_ ?_;exact (Kd.R_mono (Kd.R_far (p:=⟨gb469,1,none⟩) (Kd.R_far (p:=⟨gb469,0,none⟩) (Kd.R_types HO450.out BK469.out (by decide)) (fun _ hk => hk.2) (.int .i64 t464)) (fun _ hk => hk.2) (.slice Ao43 t465.length co43)) (fun _ h_ => h_.1))) hb);replace HO456:=Aside0.mk (Kd.R_below (by refine pr_ ?_;exact (Kd.R_mono (Kd.R_far (p:=⟨gb469,1,none⟩) (Kd.R_far (p:=⟨gb469,0,none⟩) (Kd.R_types HO456.out BK469.out (by decide)) (fun _ hk => hk.2) (.int .i64 t464)) (fun _ hk => hk.2) (.slice Ao43 t465.length co43)) (fun _ h_ => h_.1))) hb);replace HO459:=Aside0.mk (Kd.R_below (by refine pr_ ?_;exact (Kd.R_mono (Kd.R_far (p:=⟨gb469,1,none⟩) (Kd.R_far (p:=⟨gb469,0,none⟩) (Kd.R_types HO459.out BK469.out (by decide)) (fun _ hk => hk.2) (.int .i64 t464)) (fun _ hk => hk.2) (.slice Ao43 t465.length co43)) (fun _ h_ => h_.1))) hb);replace HO462:=Aside0.mk (Kd.R_below (by refine pr_ ?_;exact (Kd.R_mono (Kd.R_far (p:=⟨gb469,1,none⟩) (Kd.R_far (p:=⟨gb469,0,none⟩) (Kd.R_types HO462.out BK469.out (by decide)) (fun _ hk => hk.2) (.int .i64 t464)) (fun _ hk => hk.2) (.slice Ao43 t465.length co43)) (fun _ h_ => h_.1))) hb);replace HO467:=Aside0.mk (Kd.R_below (by refine pr_ ?_;exact (Kd.R_mono (Kd.R_far (p:=⟨gb469,1,none⟩) (Kd.R_far (p:=⟨gb469,0,none⟩) (Kd.R_types HO467.out BK469.out (by decide)) (fun _ hk => hk.2) (.int .i64 t464)) (fun _ hk => hk.2) (.slice Ao43 t465.length co43)) (fun _ h_ => h_.1))) hb);replace BK435:=Aside0.mk (blk_below (g:=gb435) (o:=.cells #[.int .i64 a0_0,.slice A0_1 l0_1.length c0_1,.slice A0_2 l0_2.length c0_2,.slice A0_3 l0_3.length c0_3] 25 (0,0)) (by refine pe_ ?_;refine blk_far ?_ NB435_469.out _;refine pe_ ?_;refine blk_far ?_ NB435_469.out _;refine pe_ ?_;exact BK435.out) hb);replace BK452:=Aside0.mk (blk_below (g:=gb452) (o:=.cells #[.int .i64 t447,.slice Ao27 t448.length co27] 35 (0,0)) (by refine pe_ ?_;refine blk_far ?_ NB452_469.out _;refine pe_ ?_;refine blk_far ?_ NB452_469.out _;refine pe_ ?_;exact BK452.out) hb);replace BK463:=Aside0.mk (blk_below (g:=gb463) (o:=.cells #[.int .i64 t453,.slice Ao34 t454.length co34,.slice Ao35 t457.length co35,.slice Ao36 t460.length co36] 33 (0,0)) (by refine pe_ ?_;refine blk_far ?_ NB463_469.out _;refine pe_ ?_;refine blk_far ?_ NB463_469.out _;refine pe_ ?_;exact BK463.out) hb);replace BK469:=Aside0.mk (blk_below (g:=gb469) (o:=.cells #[.int .i64 t464,.slice Ao43 t465.length co43] 35 (0,0)) (by refine pe_ ?_;refine blk_put (cs:=#[.int .i64 t464,.slice none 0 0]) ?_ 1 _ rfl;refine pe_ ?_;refine blk_put (cs:=#[.int .i64 0,.slice none 0 0]) ?_ 0 _ rfl;refine pe_ ?_;exact BK469.out) hb);replace HB:=Aside0.mk (below_step (be4_ HB.out GE435.out GE452.out GE463.out GE469.out) hb);(try clear hb);(try clear hb2);(try clear hk);(try clear hi)))
     go_meet
     case rel => exact ⟨_,((t468 != t451)),rs_,H',⟨by first|omega|exact Nat.le_refl _⟩,⟨by refine pr_ ?_;exact Kd.R_mono HO450.out (fun _ hk => ⟨hk.1.1.2,⟨hk.1.2,hk.2⟩⟩)⟩,⟨by refine pr_ ?_;exact Kd.R_mono HO456.out (fun _ hk => ⟨hk.1.2,⟨hk.1.1.1.1,hk.2⟩⟩)⟩,⟨by refine pr_ ?_;exact Kd.R_mono HO459.out (fun _ hk => ⟨hk.1.2,⟨hk.1.1.1.1,hk.2⟩⟩)⟩,⟨by refine pr_ ?_;exact Kd.R_mono HO462.out (fun _ hk => trivial)⟩,⟨by refine pr_ ?_;exact Kd.R_mono HO467.out (fun _ hk => ⟨hk.1.1.2,⟨hk.1.2,hk.2⟩⟩)⟩,⟨pe_ BK435.out⟩,⟨pe_ BK452.out⟩,⟨pe_ BK463.out⟩,⟨pe_ BK469.out⟩,⟨be4_ HB.out GE435.out GE452.out GE463.out GE469.out⟩⟩
    ·replace c45:=Bool.eq_false_iff.mpr c45
     subst c45
     have H1 : (laws_FnExactWordMatrix.j0 k a1 t451 t468 true a0_0 l0_1 l0_2 l0_3 t447 t448 t453 t454 t457 t460 t464 t465) = some r:=by rw [if_neg (show ¬ (false = true) by decide)] at H;exact H
     clear H
     have H:=H1
     clear H1
     have H':=Aside0.mk H
     clear H
     have hnb54:=NB469_435.out
     have hnc54:=NB435_469.out
     have hnb55:=NB469_452.out
     have hnc55:=NB452_469.out
     have hnb56:=NB469_463.out
     have hnc56:=NB463_469.out
     obtain ⟨hcz57_0,hcz57_1,hfz57_0,hfz57_1⟩:=cf2_ BK469.out
     have hnb58:=NB452_435.out
     have hnc58:=NB435_452.out
     have hnb59:=NB452_463.out
     have hnc59:=NB463_452.out
     obtain ⟨hcz60_0,hcz60_1,hfz60_0,hfz60_1⟩:=cf2_ BK452.out
     go_wp2_with (first|((with_reducible refine gate_callee (f:=21) rfl ?_);refine goesL_ (some 41) rfl rfl Try.func21 (by kernel_rfl) rfl #[.agg #[.int .i64 t464,.slice Ao43 t465.length co43],.agg #[.int .i64 t447,.slice Ao27 t448.length co27]] rfl lp_ ?_;(with_reducible refine (laws_eqMatrix.calls k t464 _ _ t465 t447 _ _ t448 false _ ?side1 ?side2 ?side3 ?side4 A44.out).mono ?_);(case side1 => refine (Kd.R_reads' (e:=3) (base:=w.heap.size) (ok:=fun k_ => (((((True ∧ some k_ ≠ (.slice Ao20 t438.length co20 : Value).ownBlock) ∧ some k_ ≠ (.slice Ao21 t441.length co21 : Value).ownBlock) ∧ some k_ ≠ (.slice Ao27 t448.length co27 : Value).ownBlock) ∧ some k_ ≠ (.slice Ao34 t454.length co34 : Value).ownBlock) ∧ some k_ ≠ (.slice Ao35 t457.length co35 : Value).ownBlock)) (n:=t465.length) (c:=co43) ?_).2.2;exact (by refine pr_ ?_;exact (Kd.R_mono (Kd.R_far (p:=⟨gb469,1,none⟩) (Kd.R_far (p:=⟨gb469,0,none⟩) (Kd.R_types HO467.out BK469.out (by decide)) (fun _ hk => hk.2) (.int .i64 t464)) (fun _ hk => hk.2) (.slice Ao43 t465.length co43)) (fun _ h_ => h_.1))));(case side2 => exact (Kd.R_reads' HO467.out).2.1);(case side3 => refine (Kd.R_reads' (e:=3) (base:=w.heap.size) (ok:=fun k_ => (((((True ∧ some k_ ≠ (.slice Ao20 t438.length co20 : Value).ownBlock) ∧ some k_ ≠ (.slice Ao21 t441.length co21 : Value).ownBlock) ∧ some k_ ≠ (.slice Ao34 t454.length co34 : Value).ownBlock) ∧ some k_ ≠ (.slice Ao35 t457.length co35 : Value).ownBlock) ∧ some k_ ≠ (.slice Ao43 t465.length co43 : Value).ownBlock)) (n:=t448.length) (c:=co27) ?_).2.2;exact (by refine pr_ ?_;exact (Kd.R_mono (Kd.R_far (p:=⟨gb469,1,none⟩) (Kd.R_far (p:=⟨gb469,0,none⟩) (Kd.R_types HO450.out BK469.out (by decide)) (fun _ hk => hk.2) (.int .i64 t464)) (fun _ hk => hk.2) (.slice Ao43 t465.length co43)) (fun _ h_ => h_.1))));(case side4 => exact (Kd.R_reads' HO450.out).2.1);rintro e w61 ⟨rfl,hb⟩;refine ⟨_,rfl,?_⟩;replace HO440:=Aside0.mk (Kd.R_below (by refine pr_ ?_;exact (Kd.R_mono (Kd.R_far (p:=⟨gb469,1,none⟩) (Kd.R_far (p:=⟨gb469,0,none⟩) (Kd.R_types HO440.out BK469.out (by decide)) (fun _ hk => hk.2) (.int .i64 t464)) (fun _ hk => hk.2) (.slice Ao43 t465.length co43)) (fun _ h_ => h_.1))) hb);replace HO443:=Aside0.mk (Kd.R_below (by refine pr_ ?_;exact (Kd.R_mono (Kd.R_far (p:=⟨gb469,1,none⟩) (Kd.R_far (p:=⟨gb469,0,none⟩) (Kd.R_types HO443.out BK469.out (by decide)) (fun _ hk => hk.2) (.int .i64 t464)) (fun _ hk => hk.2) (.slice Ao43 t465.length co43)) (fun _ h_ => h_.1))) hb);replace HO446:=Aside0.mk (Kd.R_below (by refine pr_ ?_;exact (Kd.R_mono (Kd.R_far (p:=⟨gb469,1,none⟩) (Kd.R_far (p:=⟨gb469,0,none⟩) (Kd.R_types HO446.out BK469.out (by decide)) (fun _ hk => hk.2) (.int .i64 t464)) (fun _ hk => hk.2) (.slice Ao43 t465.length co43)) (fun _ h_ => h_.1))) hb);replace HO450:=Aside0.mk (Kd.R_below (by refine pr_ ?_;exact (Kd.R_mono (Kd.R_far (p:=⟨gb469,1,none⟩) (Kd.R_far (p:=⟨gb469,0,none⟩) (Kd.R_types HO450.out BK469.out (by decide)) (fun _ hk => hk.2) (.int .i64 t464)) (fun _ hk => hk.2) (.slice Ao43 t465.length co43)) (fun _ h_ => h_.1))) hb);replace HO456:=Aside0.mk (Kd.R_below (by refine pr_ ?_;exact (Kd.R_mono (Kd.R_far (p:=⟨gb469,1,none⟩) (Kd.R_far (p:=⟨gb469,0,none⟩) (Kd.R_types HO456.out BK469.out (by decide)) (fun _ hk => hk.2) (.int .i64 t464)) (fun _ hk => hk.2) (.slice Ao43 t465.length co43)) (fun _ h_ => h_.1))) hb);replace HO459:=Aside0.mk (Kd.R_below (by refine pr_ ?_;exact (Kd.R_mono (Kd.R_far (p:=⟨gb469,1,none⟩) (Kd.R_far (p:=⟨gb469,0,none⟩) (Kd.R_types HO459.out BK469.out (by decide)) (fun _ hk => hk.2) (.int .i64 t464)) (fun _ hk => hk.2) (.slice Ao43 t465.length co43)) (fun _ h_ => h_.1))) hb);replace HO462:=Aside0.mk (Kd.R_below (by refine pr_ ?_;exact (Kd.R_mono (Kd.R_far (p:=⟨gb469,1,none⟩) (Kd.R_far (p:=⟨gb469,0,none⟩) (Kd.R_types HO462.out BK469.out (by decide)) (fun _ hk => hk.2) (.int .i64 t464)) (fun _ hk => hk.2) (.slice Ao43 t465.length co43)) (fun _ h_ => h_.1))) hb);replace HO467:=Aside0.mk (Kd.R_below (by refine pr_ ?_;exact (Kd.R_mono (Kd.R_far (p:=⟨gb469,1,none⟩) (Kd.R_far (p:=⟨gb469,0,none⟩) (Kd.R_types HO467.out BK469.out (by decide)) (fun _ hk => hk.2) (.int .i64 t464)) (fun _ hk => hk.2) (.slice Ao43 t465.length co43)) (fun _ h_ => h_.1))) hb);replace BK435:=Aside0.mk (blk_below (g:=gb435) (o:=.cells #[.int .i64 a0_0,.slice A0_1 l0_1.length c0_1,.slice A0_2 l0_2.length c0_2,.slice A0_3 l0_3.length c0_3] 25 (0,0)) (by refine pe_ ?_;refine blk_far ?_ NB435_469.out _;refine pe_ ?_;refine blk_far ?_ NB435_469.out _;refine pe_ ?_;exact BK435.out) hb);replace BK452:=Aside0.mk (blk_below (g:=gb452) (o:=.cells #[.int .i64 t447,.slice Ao27 t448.length co27] 35 (0,0)) (by refine pe_ ?_;refine blk_far ?_ NB452_469.out _;refine pe_ ?_;refine blk_far ?_ NB452_469.out _;refine pe_ ?_;exact BK452.out) hb);replace BK463:=Aside0.mk (blk_below (g:=gb463) (o:=.cells #[.int .i64 t453,.slice Ao34 t454.length co34,.slice Ao35 t457.length co35,.slice Ao36 t460.length co36] 33 (0,0)) (by refine pe_ ?_;refine blk_far ?_ NB463_469.out _;refine pe_ ?_;refine blk_far ?_ NB463_469.out _;refine pe_ ?_;exact BK463.out) hb);replace BK469:=Aside0.mk (blk_below (g:=gb469) (o:=.cells #[.int .i64 t464,.slice Ao43 t465.length co43] 35 (0,0)) (by refine pe_ ?_;refine blk_put (cs:=#[.int .i64 t464,.slice none 0 0]) ?_ 1 _ rfl;refine pe_ ?_;refine blk_put (cs:=#[.int .i64 0,.slice none 0 0]) ?_ 0 _ rfl;refine pe_ ?_;exact BK469.out) hb);replace HB:=Aside0.mk (below_step (be4_ HB.out GE435.out GE452.out GE463.out GE469.out) hb);(try clear hb);(try clear hb2);(try clear hk);(try clear hi)))
     go_meet
     case rel => exact ⟨_,(true),rs_,H',⟨by first|omega|exact Nat.le_refl _⟩,⟨by refine pr_ ?_;exact Kd.R_mono HO450.out (fun _ hk => ⟨hk.1.1.2,⟨hk.1.2,hk.2⟩⟩)⟩,⟨by refine pr_ ?_;exact Kd.R_mono HO456.out (fun _ hk => ⟨hk.1.2,⟨hk.1.1.1.1,hk.2⟩⟩)⟩,⟨by refine pr_ ?_;exact Kd.R_mono HO459.out (fun _ hk => ⟨hk.1.2,⟨hk.1.1.1.1,hk.2⟩⟩)⟩,⟨by refine pr_ ?_;exact Kd.R_mono HO462.out (fun _ hk => trivial)⟩,⟨by refine pr_ ?_;exact Kd.R_mono HO467.out (fun _ hk => ⟨hk.1.1.2,⟨hk.1.2,hk.2⟩⟩)⟩,⟨pe_ BK435.out⟩,⟨pe_ BK452.out⟩,⟨pe_ BK463.out⟩,⟨pe_ BK469.out⟩,⟨be4_ HB.out GE435.out GE452.out GE463.out GE469.out⟩⟩
   case rest =>
    clear HC14
    try clear c1
    try clear c2
    try clear p2
    try clear c3
    try clear c3b0
    try clear c3b1
    try clear c4
    try clear c5
    try clear c6
    try clear c6b0
    try clear c14
    try clear c17
    try clear c21
    try clear c22
    try clear c23
    try clear c25
    try clear c31
    try clear c32
    try clear c39
    try clear c40
    try clear c41
    try clear c45
    try clear c46
    try clear c47
    try clear c48
    try clear c50
    try clear c51
    try clear c54
    try clear c55
    try clear c56
    try clear c58
    try clear c59
    try clear hcz16_0
    try clear hcz16_1
    try clear hcz16_2
    try clear hcz16_3
    try clear hcz18_0
    try clear hcz18_1
    try clear hcz18_2
    try clear hcz18_3
    try clear hcz26_0
    try clear hcz26_1
    try clear hcz28_0
    try clear hcz28_1
    try clear hcz28_2
    try clear hcz28_3
    try clear hcz33_0
    try clear hcz33_1
    try clear hcz33_2
    try clear hcz33_3
    try clear hcz42_0
    try clear hcz42_1
    try clear hcz49_0
    try clear hcz49_1
    try clear hcz52_0
    try clear hcz52_1
    try clear hcz57_0
    try clear hcz57_1
    try clear hcz60_0
    try clear hcz60_1
    try clear hcz8_0
    try clear hcz8_1
    try clear hcz8_2
    try clear hcz8_3
    try clear hfz16_0
    try clear hfz16_1
    try clear hfz16_2
    try clear hfz16_3
    try clear hfz18_0
    try clear hfz18_1
    try clear hfz18_2
    try clear hfz18_3
    try clear hfz26_0
    try clear hfz26_1
    try clear hfz28_0
    try clear hfz28_1
    try clear hfz28_2
    try clear hfz28_3
    try clear hfz33_0
    try clear hfz33_1
    try clear hfz33_2
    try clear hfz33_3
    try clear hfz42_0
    try clear hfz42_1
    try clear hfz49_0
    try clear hfz49_1
    try clear hfz52_0
    try clear hfz52_1
    try clear hfz57_0
    try clear hfz57_1
    try clear hfz60_0
    try clear hfz60_1
    try clear hfz8_0
    try clear hfz8_1
    try clear hfz8_2
    try clear hfz8_3
    obtain ⟨kq,x47_13,rfl,HA,HJ13,HO_453001,HO_464001,HO_464002,HO_464003,HO_470001,BK435,BK452,BK463,BK469,HB⟩:=hcut
    cases kq with
    | zero => exact absurd HA.out (by simp [laws_FnExactWordMatrix.j0])
    | succ kj13 =>
     have H:=HA.out
     clear HA
     simp only [laws_FnExactWordMatrix.j0] at H
     by_cases c62 : x47_13 = true
     ·subst c62
      have H1 : (some false) = some r:=by rw [if_pos rfl] at H;exact H
      clear H
      have H:=H1
      clear H1
      obtain rfl:=Option.some.inj H
      go_wp2
      go_ret
      exact ⟨er_,be4_ HB.out GE435.out GE452.out GE463.out GE469.out⟩
     ·replace c62:=Bool.eq_false_iff.mpr c62
      subst c62
      have H1 : ((laws_toAutomaton.f kj13 a0_0 l0_1 l0_2 l0_3).bind fun bt471 => ((laws_eqAutomaton.f kj13 t453 t454 t457 t460 bt471.1 bt471.2.1 bt471.2.2.1 bt471.2.2.2).bind fun t481 => (if t481 = true then ((laws_markAutomaton.f kj13 t453 t454 t457 t460 1).bind fun bt482 => (if bt482.1 < 0 then (laws_FnExactWordMatrix.j1 kj13 a1 t451 true a0_0 l0_1 l0_2 l0_3 t447 t448 t464 t465) else ((laws_eqMatrix.f kj13 t464 t465 t447 t448).bind fun t486 => (if t486 = true then (laws_FnExactWordMatrix.j1 kj13 a1 t451 (t468 != t451) a0_0 l0_1 l0_2 l0_3 t447 t448 t464 t465) else (laws_FnExactWordMatrix.j1 kj13 a1 t451 true a0_0 l0_1 l0_2 l0_3 t447 t448 t464 t465))))) else (some false)))) = some r:=by rw [if_neg (show ¬ (false = true) by decide)] at H;exact H
      clear H
      have H:=H1
      clear H1
      replace H:=Option.bind_eq_some_iff.mp H
      obtain ⟨⟨t471,t472,t475,t478⟩,A630,H⟩:=H
      replace H : ((laws_eqAutomaton.f kj13 t453 t454 t457 t460 t471 t472 t475 t478).bind fun t481 => (if t481 = true then ((laws_markAutomaton.f kj13 t453 t454 t457 t460 1).bind fun bt482 => (if bt482.1 < 0 then (laws_FnExactWordMatrix.j1 kj13 a1 t451 true a0_0 l0_1 l0_2 l0_3 t447 t448 t464 t465) else ((laws_eqMatrix.f kj13 t464 t465 t447 t448).bind fun t486 => (if t486 = true then (laws_FnExactWordMatrix.j1 kj13 a1 t451 (t468 != t451) a0_0 l0_1 l0_2 l0_3 t447 t448 t464 t465) else (laws_FnExactWordMatrix.j1 kj13 a1 t451 true a0_0 l0_1 l0_2 l0_3 t447 t448 t464 t465))))) else (some false))) = some r:=H
      have A63:=Aside0.mk A630
      clear A630
      replace H:=Option.bind_eq_some_iff.mp H
      obtain ⟨t481,A640,H⟩:=H
      replace H : (if t481 = true then ((laws_markAutomaton.f kj13 t453 t454 t457 t460 1).bind fun bt482 => (if bt482.1 < 0 then (laws_FnExactWordMatrix.j1 kj13 a1 t451 true a0_0 l0_1 l0_2 l0_3 t447 t448 t464 t465) else ((laws_eqMatrix.f kj13 t464 t465 t447 t448).bind fun t486 => (if t486 = true then (laws_FnExactWordMatrix.j1 kj13 a1 t451 (t468 != t451) a0_0 l0_1 l0_2 l0_3 t447 t448 t464 t465) else (laws_FnExactWordMatrix.j1 kj13 a1 t451 true a0_0 l0_1 l0_2 l0_3 t447 t448 t464 t465))))) else (some false)) = some r:=H
      have A64:=Aside0.mk A640
      clear A640
      by_cases c65 : t481 = true
      ·subst c65
       have H1 : ((laws_markAutomaton.f kj13 t453 t454 t457 t460 1).bind fun bt482 => (if bt482.1 < 0 then (laws_FnExactWordMatrix.j1 kj13 a1 t451 true a0_0 l0_1 l0_2 l0_3 t447 t448 t464 t465) else ((laws_eqMatrix.f kj13 t464 t465 t447 t448).bind fun t486 => (if t486 = true then (laws_FnExactWordMatrix.j1 kj13 a1 t451 (t468 != t451) a0_0 l0_1 l0_2 l0_3 t447 t448 t464 t465) else (laws_FnExactWordMatrix.j1 kj13 a1 t451 true a0_0 l0_1 l0_2 l0_3 t447 t448 t464 t465))))) = some r:=by rw [if_pos rfl] at H;exact H
       clear H
       have H:=H1
       clear H1
       replace H:=Option.bind_eq_some_iff.mp H
       obtain ⟨⟨t482,t483,t484,t485⟩,A660,H⟩:=H
       replace H : (if t482 < 0 then (laws_FnExactWordMatrix.j1 kj13 a1 t451 true a0_0 l0_1 l0_2 l0_3 t447 t448 t464 t465) else ((laws_eqMatrix.f kj13 t464 t465 t447 t448).bind fun t486 => (if t486 = true then (laws_FnExactWordMatrix.j1 kj13 a1 t451 (t468 != t451) a0_0 l0_1 l0_2 l0_3 t447 t448 t464 t465) else (laws_FnExactWordMatrix.j1 kj13 a1 t451 true a0_0 l0_1 l0_2 l0_3 t447 t448 t464 t465)))) = some r:=H
       have A66:=Aside0.mk A660
       clear A660
       have HC67:=Aside0.mk H
       clear H
       try go_wp2
       replace HO_453001:=Aside0.mk (Kd.R_drew HO_453001.out)
       replace HO_464001:=Aside0.mk (Kd.R_drew HO_464001.out)
       replace HO_464002:=Aside0.mk (Kd.R_drew HO_464002.out)
       replace HO_464003:=Aside0.mk (Kd.R_drew HO_464003.out)
       replace HO_470001:=Aside0.mk (Kd.R_drew HO_470001.out)
       replace BK435:=Aside0.mk (blk_drew BK435.out)
       replace BK452:=Aside0.mk (blk_drew BK452.out)
       replace BK463:=Aside0.mk (blk_drew BK463.out)
       replace BK469:=Aside0.mk (blk_drew BK469.out)
       replace HB:=Aside0.mk (below_drew1 HB.out)
       refine start_ (n:=5) (S:=fun w' => w'.cell? ⟨gb463,0,none⟩ = some (.int .i64 t453) ∧ w'.cell? ⟨gb463,1,none⟩ = some (.slice Ao34 t454.length co34) ∧ w'.cell? ⟨gb463,2,none⟩ = some (.slice Ao35 t457.length co35) ∧ w'.cell? ⟨gb463,3,none⟩ = some (.slice Ao36 t460.length co36) ∧ w'.cell? ⟨gb435,0,none⟩ = some (.int .i64 a0_0) ∧ w'.cell? ⟨gb435,1,none⟩ = some (.slice A0_1 l0_1.length c0_1) ∧ w'.cell? ⟨gb435,2,none⟩ = some (.slice A0_2 l0_2.length c0_2) ∧ w'.cell? ⟨gb435,3,none⟩ = some (.slice A0_3 l0_3.length c0_3)) (ds:=[]) #[false,false,false,false,false] (by kernel_rfl) rfl rfl ⟨(blk_cell BK463.out 0).trans rfl,(blk_cell BK463.out 1).trans rfl,(blk_cell BK463.out 2).trans rfl,(blk_cell BK463.out 3).trans rfl,(blk_cell BK435.out 0).trans rfl,(blk_cell BK435.out 1).trans rfl,(blk_cell BK435.out 2).trans rfl,(blk_cell BK435.out 3).trans rfl⟩ (fun hHeld => ?_)
       generalize wc.drew = w68 at HO_453001 HO_464001 HO_464002 HO_464003 HO_470001 BK435 BK452 BK463 BK469 HB hHeld ⊢
       refine take_ (i:=0) (N:=some 48) (v:=?_) (a':=?_) #[true,false,false,false,false] rfl rfl (by kernel_rfl) (fun _ _ _ h => h) (Or.inl ⟨by rfl,?_⟩) hHeld ?_ ?_
       rotate_left
       ·rintro w' ⟨s0,s1,s2,s3,s4,s5,s6,s7⟩
        go_simp
        with_reducible rfl
       rotate_left
       ·simp only [Act.put,List.setIfInBounds_toArray,List.set_cons_zero,List.set_cons_succ,i64_w,i32_w]
        rfl
       refine take_ (i:=1) (N:=some 49) (v:=?_) (a':=?_) #[true,true,false,false,false] rfl rfl (by kernel_rfl) (fun _ _ _ h => h) (Or.inl ⟨by rfl,?_⟩) hHeld ?_ ?_
       rotate_left
       ·rintro w' ⟨s0,s1,s2,s3,s4,s5,s6,s7⟩
        go_simp
        with_reducible rfl
       rotate_left
       ·simp only [Act.put,List.setIfInBounds_toArray,List.set_cons_zero,List.set_cons_succ,i64_w,i32_w]
        rfl
       refine one_ (i:=2) (N:=some 50) #[true,true,true,false,false] rfl rfl (by kernel_rfl) (by decide) (fun K hK => ?_)
       refine goes_ Try.func17 (by kernel_rfl) rfl #[.agg #[.int .i64 a0_0,.slice A0_1 l0_1.length c0_1,.slice A0_2 l0_2.length c0_2,.slice A0_3 l0_3.length c0_3]] (by rfl) rfl rfl lp_ ?_
       with_reducible refine (laws_toAutomaton.calls kj13 a0_0 _ _ l0_1 _ _ l0_2 _ _ l0_3 t471 t472 t475 t478 _ ?side1 ?side2 ?side3 ?side4 ?side5 ?side6 A63.out).mono ?_
       (case side1 => exact cr_ (Kd.C_below HR0_1.out HB.out))
       (case side2 => exact HC0_1.out)
       (case side3 => exact cr_ (Kd.C_below HR0_2.out HB.out))
       (case side4 => exact HC0_2.out)
       (case side5 => exact cr_ (Kd.C_below HR0_3.out HB.out))
       (case side6 => exact HC0_3.out)
       rintro e w69 ⟨v473,v476,v479,rfl,ho0,ho1,ho2,hb⟩
       refine ⟨_,rfl,?_⟩
       have HO474:=Aside0.mk (Kd.R_lower (Kd.R_new' (Kd.R_new' (Kd.R_new' (Kd.R_new' ho0 (Kd.R_lt (pr_ HO_453001.out))) (Kd.R_lt (pr_ HO_464001.out))) (Kd.R_lt (pr_ HO_464002.out))) (Kd.R_lt (pr_ HO_470001.out))) (below_size (be4_ HB.out GE435.out GE452.out GE463.out GE469.out)))
       have HO477:=Aside0.mk (Kd.R_lower (Kd.R_new' (Kd.R_new' (Kd.R_new' (Kd.R_new' ho1 (Kd.R_lt (pr_ HO_453001.out))) (Kd.R_lt (pr_ HO_464001.out))) (Kd.R_lt (pr_ HO_464002.out))) (Kd.R_lt (pr_ HO_470001.out))) (below_size (be4_ HB.out GE435.out GE452.out GE463.out GE469.out)))
       replace HO_453001:=Aside0.mk (Kd.R_mono (Kd.R_told (Kd.R_told (Kd.R_old (pr_ HO_453001.out) hb) (Kd.R_base ho0)) (Kd.R_base ho1)) (fun _ h_ => h_.1))
       replace HO_464001:=Aside0.mk (Kd.R_mono (Kd.R_told (Kd.R_told (Kd.R_old (pr_ HO_464001.out) hb) (Kd.R_base ho0)) (Kd.R_base ho1)) (fun _ h_ => h_.1))
       replace HO_464002:=Aside0.mk (Kd.R_mono (Kd.R_told (Kd.R_told (Kd.R_old (pr_ HO_464002.out) hb) (Kd.R_base ho0)) (Kd.R_base ho1)) (fun _ h_ => h_.1))
       replace HO_470001:=Aside0.mk (Kd.R_mono (Kd.R_told (Kd.R_told (Kd.R_old (pr_ HO_470001.out) hb) (Kd.R_base ho0)) (Kd.R_base ho1)) (fun _ h_ => h_.1))
       have HO480:=Aside0.mk (Kd.R_lower (Kd.R_new' ho2 (Kd.R_lt (pr_ HO_464003.out))) (below_size (be4_ HB.out GE435.out GE452.out GE463.out GE469.out)))
       replace HO_464003:=Aside0.mk (Kd.R_elder' (pr_ HO_464003.out) (Kd.R_base ho2) hb)
       replace BK435:=Aside0.mk (kb_ BK435.out hb)
       replace BK452:=Aside0.mk (kb_ BK452.out hb)
       replace BK463:=Aside0.mk (kb_ BK463.out hb)
       replace BK469:=Aside0.mk (kb_ BK469.out hb)
       replace HB:=Aside0.mk (below_step (be4_ HB.out GE435.out GE452.out GE463.out GE469.out) hb)
       (try clear hb)
       (try clear hb2)
       (try clear hk)
       (try clear hi)
       (try clear ho0)
       (try clear ho1)
       (try clear ho2)
       obtain ⟨Ao70,co70,eo70⟩:=Kd.R_slice HO474.out
       (first|subst eo70|(injection eo70 with f1_ f2_ f3_;have f4_:=f1_.symm;have f5_:=f3_.symm;clear f1_ f2_ f3_;subst f4_;subst f5_))
       obtain ⟨Ao71,co71,eo71⟩:=Kd.R_slice HO477.out
       (first|subst eo71|(injection eo71 with f1_ f2_ f3_;have f4_:=f1_.symm;have f5_:=f3_.symm;clear f1_ f2_ f3_;subst f4_;subst f5_))
       obtain ⟨Ao72,co72,eo72⟩:=Kd.R_slice HO480.out
       (first|subst eo72|(injection eo72 with f1_ f2_ f3_;have f4_:=f1_.symm;have f5_:=f3_.symm;clear f1_ f2_ f3_;subst f4_;subst f5_))
       refine hK.out _ _ ⟨(blk_cell BK463.out 0).trans rfl,(blk_cell BK463.out 1).trans rfl,(blk_cell BK463.out 2).trans rfl,(blk_cell BK463.out 3).trans rfl,(blk_cell BK435.out 0).trans rfl,(blk_cell BK435.out 1).trans rfl,(blk_cell BK435.out 2).trans rfl,(blk_cell BK435.out 3).trans rfl⟩ (fun hHeld => ?_)
       clear hK K
       refine norm_ (a':=?_) ?_ ?_
       rotate_left
       ·show Act.put _ (some 50) _ = _
        simp only [Act.put,List.setIfInBounds_toArray,List.set_cons_zero,List.set_cons_succ,i64_w,i32_w]
        rfl
       refine one_ (i:=3) (N:=some 51) #[true,true,true,true,false] rfl rfl (by kernel_rfl) (by decide) (fun K hK => ?_)
       refine goes_ Try.func20 (by kernel_rfl) rfl #[.agg #[.int .i64 t453,.slice Ao34 t454.length co34,.slice Ao35 t457.length co35,.slice Ao36 t460.length co36],.agg #[.int .i64 t471,.slice Ao70 t472.length co70,.slice Ao71 t475.length co71,.slice Ao72 t478.length co72]] (by rfl) rfl rfl lp_ ?_
       with_reducible refine (laws_eqAutomaton.calls kj13 t453 _ _ t454 _ _ t457 _ _ t460 t471 _ _ t472 _ _ t475 _ _ t478 true _ ?side1 ?side2 ?side3 ?side4 ?side5 ?side6 ?side7 ?side8 ?side9 ?side10 ?side11 ?side12 A64.out).mono ?_
       (case side1 => exact cr_ (Kd.R_reads' HO_464001.out).2.2)
       (case side2 => exact (Kd.R_reads' HO_464001.out).2.1)
       (case side3 => exact cr_ (Kd.R_reads' HO_464002.out).2.2)
       (case side4 => exact (Kd.R_reads' HO_464002.out).2.1)
       (case side5 => exact cr_ (Kd.R_reads' HO_464003.out).2.2)
       (case side6 => exact (Kd.R_reads' HO_464003.out).2.1)
       (case side7 => exact cr_ (Kd.R_reads' HO474.out).2.2)
       (case side8 => exact (Kd.R_reads' HO474.out).2.1)
       (case side9 => exact cr_ (Kd.R_reads' HO477.out).2.2)
       (case side10 => exact (Kd.R_reads' HO477.out).2.1)
       (case side11 => exact cr_ (Kd.R_reads' HO480.out).2.2)
       (case side12 => exact (Kd.R_reads' HO480.out).2.1)
       rintro e w73 ⟨rfl,hb⟩
       refine ⟨_,rfl,?_⟩
       replace HO_453001:=Aside0.mk (Kd.R_below (pr_ HO_453001.out) hb)
       replace HO_464001:=Aside0.mk (Kd.R_below (pr_ HO_464001.out) hb)
       replace HO_464002:=Aside0.mk (Kd.R_below (pr_ HO_464002.out) hb)
       replace HO_464003:=Aside0.mk (Kd.R_below (pr_ HO_464003.out) hb)
       replace HO_470001:=Aside0.mk (Kd.R_below (pr_ HO_470001.out) hb)
       replace HO474:=Aside0.mk (Kd.R_below (pr_ HO474.out) hb)
       replace HO477:=Aside0.mk (Kd.R_below (pr_ HO477.out) hb)
       replace HO480:=Aside0.mk (Kd.R_below (pr_ HO480.out) hb)
       replace BK435:=Aside0.mk (kb_ BK435.out hb)
       replace BK452:=Aside0.mk (kb_ BK452.out hb)
       replace BK463:=Aside0.mk (kb_ BK463.out hb)
       replace BK469:=Aside0.mk (kb_ BK469.out hb)
       replace HB:=Aside0.mk (below_step (be4_ HB.out GE435.out GE452.out GE463.out GE469.out) hb)
       (try clear hb)
       (try clear hb2)
       (try clear hk)
       (try clear hi)
       refine hK.out _ _ ⟨(blk_cell BK463.out 0).trans rfl,(blk_cell BK463.out 1).trans rfl,(blk_cell BK463.out 2).trans rfl,(blk_cell BK463.out 3).trans rfl,(blk_cell BK435.out 0).trans rfl,(blk_cell BK435.out 1).trans rfl,(blk_cell BK435.out 2).trans rfl,(blk_cell BK435.out 3).trans rfl⟩ (fun hHeld => ?_)
       clear hK K
       refine norm_ (a':=?_) ?_ ?_
       rotate_left
       ·show Act.put _ (some 51) _ = _
        simp only [Act.put,List.setIfInBounds_toArray,List.set_cons_zero,List.set_cons_succ,i64_w,i32_w]
        rfl
       refine pure_ (i:=4) (N:=some 52) (v:=?_) (a':=?_) #[true,true,true,true,true] rfl rfl (by kernel_rfl) (fun _ _ _ h => h) (Or.inl ⟨by rfl,?_⟩) ?_ ?_
       rotate_left
       ·intro w'
        go_simp
        with_reducible rfl
       rotate_left
       ·simp only [Act.put,List.setIfInBounds_toArray,List.set_cons_zero,List.set_cons_succ,i64_w,i32_w]
        rfl
       refine done_ (by kernel_rfl) ?_
       have hnb74:=NB463_435.out
       have hnc74:=NB435_463.out
       have hnb75:=NB463_452.out
       have hnc75:=NB452_463.out
       have hnb76:=NB463_469.out
       have hnc76:=NB469_463.out
       obtain ⟨hcz77_0,hcz77_1,hcz77_2,hcz77_3,hfz77_0,hfz77_1,hfz77_2,hfz77_3⟩:=cf4_ BK463.out
       go_upto_region 16 with (first|((with_reducible refine gate_callee (f:=24) rfl ?_);refine goesL_ (some 55) rfl rfl Try.func24 (by kernel_rfl) rfl #[.agg #[.int .i64 t453,.slice Ao34 t454.length co34,.slice Ao35 t457.length co35,.slice Ao36 t460.length co36],.int .i64 1] rfl lp_ ?_;(with_reducible refine (laws_markAutomaton.calls kj13 t453 (fun k_ => some k_ = (.slice Ao34 t454.length co34 : Value).ownBlock) (.slice Ao34 t454.length co34) t454 (fun k_ => some k_ = (.slice Ao35 t457.length co35 : Value).ownBlock) (.slice Ao35 t457.length co35) t457 (fun k_ => some k_ = (.slice Ao36 t460.length co36 : Value).ownBlock) (.slice Ao36 t460.length co36) t460 1 t482 t483 t484 t485 w _ ?side1 ?side2 ?side3 ?side4 ?side5 ?side6 A66.out).mono ?_);(case side1 => repeat (first|(with_reducible first|exact HB.out|apply below_alloc|apply pw_below_drewN|apply below_drew1|refine below_set ?_ GE435.out|refine below_set ?_ GE452.out|refine below_set ?_ GE463.out|refine below_set ?_ GE469.out)|exact HB.out));(case side2 => exact Kd.R_tight rfl HO_464001.out);(case side3 => exact fun k_ e_ => (HO_464001.out.1 k_ e_.symm).1.1.2.1);(case side4 => exact Kd.R_tight rfl HO_464002.out);(case side5 => exact fun k_ e_ => (HO_464002.out.1 k_ e_.symm).1.1.2.1);(case side6 => exact Kd.R_tight rfl HO_464003.out);rintro e w78 ⟨rfl,hy0,hy1,hy2,hb,hkp⟩;refine ⟨_,rfl,?_⟩;replace HO_453001:=Aside0.mk (Kd.R_mono (ok':=fun k_ => some k_ ≠ (.slice Ao34 t454.length co34 : Value).ownBlock ∧ some k_ ≠ (.slice Ao35 t457.length co35 : Value).ownBlock ∧ some k_ ≠ (.slice Ao43 t465.length co43 : Value).ownBlock ∧ some k_ ≠ (.slice Ao70 t472.length co70 : Value).ownBlock ∧ some k_ ≠ (.slice Ao71 t475.length co71 : Value).ownBlock) (Kd.R_keptB ((Kd.R_apart' HO_453001.out (Kd.R_typed HO_464003.out) (by decide))) hkp (fun k_ hk_ hs_ => Or.elim hs_ (fun e_ => (hk_.1.1.1.1) e_) (fun e_ => Or.elim e_ (fun e_ => (hk_.1.1.1.2.1) e_) (fun e_ => (hk_.2) e_)))) (fun k_ hk_ => ⟨hk_.1.1.1.1.1,hk_.1.1.1.1.2.1,hk_.1.1.1.1.2.2,hk_.1.1.1.2,hk_.1.1.2⟩));replace HO_470001:=Aside0.mk (Kd.R_mono (ok':=fun k_ => some k_ ≠ (.slice Ao27 t448.length co27 : Value).ownBlock ∧ some k_ ≠ (.slice Ao34 t454.length co34 : Value).ownBlock ∧ some k_ ≠ (.slice Ao35 t457.length co35 : Value).ownBlock ∧ some k_ ≠ (.slice Ao70 t472.length co70 : Value).ownBlock ∧ some k_ ≠ (.slice Ao71 t475.length co71 : Value).ownBlock) (Kd.R_keptB ((Kd.R_apart' HO_470001.out (Kd.R_typed HO_464003.out) (by decide))) hkp (fun k_ hk_ hs_ => Or.elim hs_ (fun e_ => (hk_.1.1.1.2.1) e_) (fun e_ => Or.elim e_ (fun e_ => (hk_.1.1.1.2.2) e_) (fun e_ => (hk_.2) e_)))) (fun k_ hk_ => ⟨hk_.1.1.1.1.1,hk_.1.1.1.1.2.1,hk_.1.1.1.1.2.2,hk_.1.1.1.2,hk_.1.1.2⟩));replace BK435:=Aside0.mk (blk_kept (pe_ BK435.out) hkp (fun hs_ => Or.elim hs_ (fun e_ => (fun e_ => (Kd.R_ne HO_464001.out BK435.out (by decide)) e_) e_) (fun e_ => Or.elim e_ (fun e_ => (fun e_ => (Kd.R_ne HO_464002.out BK435.out (by decide)) e_) e_) (fun e_ => (fun e_ => (Kd.R_ne HO_464003.out BK435.out (by decide)) e_) e_))));replace BK452:=Aside0.mk (blk_kept (pe_ BK452.out) hkp (fun hs_ => Or.elim hs_ (fun e_ => (fun e_ => (Kd.R_ne HO_464001.out BK452.out (by decide)) e_) e_) (fun e_ => Or.elim e_ (fun e_ => (fun e_ => (Kd.R_ne HO_464002.out BK452.out (by decide)) e_) e_) (fun e_ => (fun e_ => (Kd.R_ne HO_464003.out BK452.out (by decide)) e_) e_))));replace BK463:=Aside0.mk (blk_kept (pe_ BK463.out) hkp (fun hs_ => Or.elim hs_ (fun e_ => (fun e_ => (Kd.R_ne HO_464001.out BK463.out (by decide)) e_) e_) (fun e_ => Or.elim e_ (fun e_ => (fun e_ => (Kd.R_ne HO_464002.out BK463.out (by decide)) e_) e_) (fun e_ => (fun e_ => (Kd.R_ne HO_464003.out BK463.out (by decide)) e_) e_))));replace BK469:=Aside0.mk (blk_kept (pe_ BK469.out) hkp (fun hs_ => Or.elim hs_ (fun e_ => (fun e_ => (Kd.R_ne HO_464001.out BK469.out (by decide)) e_) e_) (fun e_ => Or.elim e_ (fun e_ => (fun e_ => (Kd.R_ne HO_464002.out BK469.out (by decide)) e_) e_) (fun e_ => (fun e_ => (Kd.R_ne HO_464003.out BK469.out (by decide)) e_) e_))));replace HO474:=Aside0.mk (Kd.R_mono (ok':=fun k_ => some k_ ≠ (.slice Ao27 t448.length co27 : Value).ownBlock ∧ some k_ ≠ (.slice Ao34 t454.length co34 : Value).ownBlock ∧ some k_ ≠ (.slice Ao35 t457.length co35 : Value).ownBlock ∧ some k_ ≠ (.slice Ao43 t465.length co43 : Value).ownBlock ∧ some k_ ≠ (.slice Ao71 t475.length co71 : Value).ownBlock) (Kd.R_keptB ((Kd.R_apart' HO474.out (Kd.R_typed HO_464003.out) (by decide))) hkp (fun k_ hk_ hs_ => Or.elim hs_ (fun e_ => (hk_.1.1.1.2) e_) (fun e_ => Or.elim e_ (fun e_ => (hk_.1.1.2) e_) (fun e_ => (hk_.2) e_)))) (fun k_ hk_ => ⟨hk_.1.1.1.1.1.2,hk_.1.1.1.1.2,hk_.1.1.1.2,hk_.1.1.2,hk_.1.1.1.1.1.1⟩));replace HO477:=Aside0.mk (Kd.R_mono (ok':=fun k_ => some k_ ≠ (.slice Ao27 t448.length co27 : Value).ownBlock ∧ some k_ ≠ (.slice Ao34 t454.length co34 : Value).ownBlock ∧ some k_ ≠ (.slice Ao35 t457.length co35 : Value).ownBlock ∧ some k_ ≠ (.slice Ao43 t465.length co43 : Value).ownBlock ∧ some k_ ≠ (.slice Ao70 t472.length co70 : Value).ownBlock) (Kd.R_keptB ((Kd.R_apart' HO477.out (Kd.R_typed HO_464003.out) (by decide))) hkp (fun k_ hk_ hs_ => Or.elim hs_ (fun e_ => (hk_.1.1.1.2) e_) (fun e_ => Or.elim e_ (fun e_ => (hk_.1.1.2) e_) (fun e_ => (hk_.2) e_)))) (fun k_ hk_ => ⟨hk_.1.1.1.1.1.2,hk_.1.1.1.1.2,hk_.1.1.1.2,hk_.1.1.2,hk_.1.1.1.1.1.1⟩));replace HO_464003:=Aside0.mk (Kd.R_reok rfl hy2 (fun k_ e_ => HO_464003.out.1 k_ e_));replace HO480:=Aside0.mk (Kd.R_mono (ok':=fun k_ => some k_ ≠ (.slice Ao36 t460.length co36 : Value).ownBlock) (Kd.R_keptB ((Kd.R_apart' (Kd.R_apart' HO480.out (Kd.R_typed HO_464001.out) (by decide)) (Kd.R_typed HO_464002.out) (by decide))) hkp (fun k_ hk_ hs_ => Or.elim hs_ (fun e_ => (hk_.1.2) e_) (fun e_ => Or.elim e_ (fun e_ => (hk_.2) e_) (fun e_ => (hk_.1.1.2) e_)))) (fun k_ hk_ => hk_.1.1.1.2));replace HO_464001:=Aside0.mk (Kd.R_reok rfl hy0 (fun k_ e_ => HO_464001.out.1 k_ e_));replace HO_464002:=Aside0.mk (Kd.R_reok rfl hy1 (fun k_ e_ => HO_464002.out.1 k_ e_));replace HB:=Aside0.mk (hb);(try clear hb);(try clear hkp);(try clear hy0);(try clear hy1);(try clear hy2)))
       (try simp only [Act.put,List.setIfInBounds_toArray,List.set_cons_zero,List.set_cons_succ])
       go_cut [68] (fun v68 wc => ∃ (kq : Nat) (x68_66 : Bool),v68 = .bool x68_66 ∧ Aside0 (laws_FnExactWordMatrix.j1 kq a1 t451 x68_66 a0_0 l0_1 l0_2 l0_3 t447 t448 t464 t465 = some r) ∧ Aside0 (kq ≤ kj13) ∧ Aside0 (Kd.R (Kd.int .i64) 3 wc w.heap.size (fun k_ => some k_ ≠ ((.slice Ao34 t454.length co34) : Value).ownBlock ∧ some k_ ≠ ((.slice Ao35 t457.length co35) : Value).ownBlock ∧ some k_ ≠ ((.slice Ao43 t465.length co43) : Value).ownBlock) (.slice Ao27 t448.length co27) t448) ∧ Aside0 (Kd.R (Kd.int .i64) 3 wc w.heap.size (fun k_ => some k_ ≠ ((.slice Ao27 t448.length co27) : Value).ownBlock ∧ some k_ ≠ ((.slice Ao35 t457.length co35) : Value).ownBlock ∧ some k_ ≠ ((.slice Ao43 t465.length co43) : Value).ownBlock) (.slice Ao34 t454.length co34) t483) ∧ Aside0 (Kd.R (Kd.int .i64) 3 wc w.heap.size (fun k_ => some k_ ≠ ((.slice Ao27 t448.length co27) : Value).ownBlock ∧ some k_ ≠ ((.slice Ao34 t454.length co34) : Value).ownBlock ∧ some k_ ≠ ((.slice Ao43 t465.length co43) : Value).ownBlock) (.slice Ao35 t457.length co35) t484) ∧ Aside0 (Kd.R k92 92 wc w.heap.size (fun _ => True) (.slice Ao36 t460.length co36) t485) ∧ Aside0 (Kd.R (Kd.int .i64) 3 wc w.heap.size (fun k_ => some k_ ≠ ((.slice Ao27 t448.length co27) : Value).ownBlock ∧ some k_ ≠ ((.slice Ao34 t454.length co34) : Value).ownBlock ∧ some k_ ≠ ((.slice Ao35 t457.length co35) : Value).ownBlock) (.slice Ao43 t465.length co43) t465) ∧ Aside0 (wc.heap[gb435]? = some (.cells #[.int .i64 a0_0,(.slice A0_1 l0_1.length c0_1),(.slice A0_2 l0_2.length c0_2),(.slice A0_3 l0_3.length c0_3)] 25 (0,0))) ∧ Aside0 (wc.heap[gb452]? = some (.cells #[.int .i64 t447,(.slice Ao27 t448.length co27)] 35 (0,0))) ∧ Aside0 (wc.heap[gb463]? = some (.cells #[.int .i64 t453,(.slice Ao34 t454.length co34),(.slice Ao35 t457.length co35),(.slice Ao36 t460.length co36)] 33 (0,0))) ∧ Aside0 (wc.heap[gb469]? = some (.cells #[.int .i64 t464,(.slice Ao43 t465.length co43)] 35 (0,0))) ∧ Aside0 (Below w.heap.size w wc))
       case first =>
        have H:=HC67.out
        clear HC67
        by_cases c79 : t482 < 0
        ·rw [if_pos c79] at H
         have c79b0 : decide (t482 < 0) = true:=decide_eq_true c79
         clear c79
         (first|rw [c79b0]|(simp only [i64_w,i32_w];rw [c79b0])|skip)
         have H':=Aside0.mk H
         clear H
         go_wp2
         go_meet
         case rel => exact ⟨_,(true),rs_,H',⟨by have:=HJ13.out;first|omega|exact Nat.le_refl _⟩,⟨by refine pr_ ?_;exact Kd.R_mono HO_453001.out (fun _ hk => ⟨hk.1,⟨hk.2.1,hk.2.2.1⟩⟩)⟩,⟨by refine pr_ ?_;exact Kd.R_mono HO_464001.out (fun _ hk => ⟨hk.1.1.1,⟨hk.1.1.2.1,hk.1.1.2.2⟩⟩)⟩,⟨by refine pr_ ?_;exact Kd.R_mono HO_464002.out (fun _ hk => ⟨hk.1.1.1,⟨hk.1.1.2.1,hk.1.1.2.2⟩⟩)⟩,⟨by refine pr_ ?_;exact Kd.R_mono HO_464003.out (fun _ hk => trivial)⟩,⟨by refine pr_ ?_;exact Kd.R_mono HO_470001.out (fun _ hk => ⟨hk.1,⟨hk.2.1,hk.2.2.1⟩⟩)⟩,⟨pe_ BK435.out⟩,⟨pe_ BK452.out⟩,⟨pe_ BK463.out⟩,⟨pe_ BK469.out⟩,⟨be4_ HB.out GE435.out GE452.out GE463.out GE469.out⟩⟩
        ·rw [if_neg c79] at H
         have c79b0 : decide (t482 < 0) = false:=decide_eq_false c79
         clear c79
         (first|rw [c79b0]|(simp only [i64_w,i32_w];rw [c79b0])|skip)
         replace H:=Option.bind_eq_some_iff.mp H
         obtain ⟨t486,A800,H⟩:=H
         replace H : (if t486 = true then (laws_FnExactWordMatrix.j1 kj13 a1 t451 (t468 != t451) a0_0 l0_1 l0_2 l0_3 t447 t448 t464 t465) else (laws_FnExactWordMatrix.j1 kj13 a1 t451 true a0_0 l0_1 l0_2 l0_3 t447 t448 t464 t465)) = some r:=H
         have A80:=Aside0.mk A800
         clear A800
         by_cases c81 : t486 = true
         ·subst c81
          have H1 : (laws_FnExactWordMatrix.j1 kj13 a1 t451 (t468 != t451) a0_0 l0_1 l0_2 l0_3 t447 t448 t464 t465) = some r:=by rw [if_pos rfl] at H;exact H
          clear H
          have H:=H1
          clear H1
          have H':=Aside0.mk H
          clear H
          have hnb82:=NB469_435.out
          have hnc82:=NB435_469.out
          have hnb83:=NB469_452.out
          have hnc83:=NB452_469.out
          have hnb84:=NB469_463.out
          have hnc84:=NB463_469.out
          obtain ⟨hcz85_0,hcz85_1,hfz85_0,hfz85_1⟩:=cf2_ BK469.out
          have hnb86:=NB452_435.out
          have hnc86:=NB435_452.out
          have hnb87:=NB452_463.out
          have hnc87:=NB463_452.out
          obtain ⟨hcz88_0,hcz88_1,hfz88_0,hfz88_1⟩:=cf2_ BK452.out
          go_wp2_with (first|(go_at_call 21;(with_reducible refine (laws_eqMatrix.calls kj13 t464 _ _ t465 t447 _ _ t448 true _ ?side1 ?side2 ?side3 ?side4 A80.out).mono ?_);(case side1 => exact cr_ (Kd.R_reads' HO_470001.out).2.2);(case side2 => exact (Kd.R_reads' HO_470001.out).2.1);(case side3 => exact cr_ (Kd.R_reads' HO_453001.out).2.2);(case side4 => exact (Kd.R_reads' HO_453001.out).2.1);rintro e w89 ⟨rfl,hb⟩;replace HO_453001:=Aside0.mk (Kd.R_below (pr_ HO_453001.out) hb);replace HO_464001:=Aside0.mk (Kd.R_below (pr_ HO_464001.out) hb);replace HO_464002:=Aside0.mk (Kd.R_below (pr_ HO_464002.out) hb);replace HO_464003:=Aside0.mk (Kd.R_below (pr_ HO_464003.out) hb);replace HO_470001:=Aside0.mk (Kd.R_below (pr_ HO_470001.out) hb);replace HO474:=Aside0.mk (Kd.R_below (pr_ HO474.out) hb);replace HO477:=Aside0.mk (Kd.R_below (pr_ HO477.out) hb);replace HO480:=Aside0.mk (Kd.R_below (pr_ HO480.out) hb);replace BK435:=Aside0.mk (kb_ BK435.out hb);replace BK452:=Aside0.mk (kb_ BK452.out hb);replace BK463:=Aside0.mk (kb_ BK463.out hb);replace BK469:=Aside0.mk (kb_ BK469.out hb);replace HB:=Aside0.mk (below_step (be4_ HB.out GE435.out GE452.out GE463.out GE469.out) hb);(try clear hb);(try clear hb2);(try clear hk);(try clear hi)))
          go_meet
          case rel => exact ⟨_,((t468 != t451)),rs_,H',⟨by have:=HJ13.out;first|omega|exact Nat.le_refl _⟩,⟨by refine pr_ ?_;exact Kd.R_mono HO_453001.out (fun _ hk => ⟨hk.1,⟨hk.2.1,hk.2.2.1⟩⟩)⟩,⟨by refine pr_ ?_;exact Kd.R_mono HO_464001.out (fun _ hk => ⟨hk.1.1.1,⟨hk.1.1.2.1,hk.1.1.2.2⟩⟩)⟩,⟨by refine pr_ ?_;exact Kd.R_mono HO_464002.out (fun _ hk => ⟨hk.1.1.1,⟨hk.1.1.2.1,hk.1.1.2.2⟩⟩)⟩,⟨by refine pr_ ?_;exact Kd.R_mono HO_464003.out (fun _ hk => trivial)⟩,⟨by refine pr_ ?_;exact Kd.R_mono HO_470001.out (fun _ hk => ⟨hk.1,⟨hk.2.1,hk.2.2.1⟩⟩)⟩,⟨pe_ BK435.out⟩,⟨pe_ BK452.out⟩,⟨pe_ BK463.out⟩,⟨pe_ BK469.out⟩,⟨be4_ HB.out GE435.out GE452.out GE463.out GE469.out⟩⟩
         ·replace c81:=Bool.eq_false_iff.mpr c81
          subst c81
          have H1 : (laws_FnExactWordMatrix.j1 kj13 a1 t451 true a0_0 l0_1 l0_2 l0_3 t447 t448 t464 t465) = some r:=by rw [if_neg (show ¬ (false = true) by decide)] at H;exact H
          clear H
          have H:=H1
          clear H1
          have H':=Aside0.mk H
          clear H
          have hnb90:=NB469_435.out
          have hnc90:=NB435_469.out
          have hnb91:=NB469_452.out
          have hnc91:=NB452_469.out
          have hnb92:=NB469_463.out
          have hnc92:=NB463_469.out
          obtain ⟨hcz93_0,hcz93_1,hfz93_0,hfz93_1⟩:=cf2_ BK469.out
          have hnb94:=NB452_435.out
          have hnc94:=NB435_452.out
          have hnb95:=NB452_463.out
          have hnc95:=NB463_452.out
          obtain ⟨hcz96_0,hcz96_1,hfz96_0,hfz96_1⟩:=cf2_ BK452.out
          go_wp2_with (first|(go_at_call 21;(with_reducible refine (laws_eqMatrix.calls kj13 t464 _ _ t465 t447 _ _ t448 false _ ?side1 ?side2 ?side3 ?side4 A80.out).mono ?_);(case side1 => exact cr_ (Kd.R_reads' HO_470001.out).2.2);(case side2 => exact (Kd.R_reads' HO_470001.out).2.1);(case side3 => exact cr_ (Kd.R_reads' HO_453001.out).2.2);(case side4 => exact (Kd.R_reads' HO_453001.out).2.1);rintro e w97 ⟨rfl,hb⟩;replace HO_453001:=Aside0.mk (Kd.R_below (pr_ HO_453001.out) hb);replace HO_464001:=Aside0.mk (Kd.R_below (pr_ HO_464001.out) hb);replace HO_464002:=Aside0.mk (Kd.R_below (pr_ HO_464002.out) hb);replace HO_464003:=Aside0.mk (Kd.R_below (pr_ HO_464003.out) hb);replace HO_470001:=Aside0.mk (Kd.R_below (pr_ HO_470001.out) hb);replace HO474:=Aside0.mk (Kd.R_below (pr_ HO474.out) hb);replace HO477:=Aside0.mk (Kd.R_below (pr_ HO477.out) hb);replace HO480:=Aside0.mk (Kd.R_below (pr_ HO480.out) hb);replace BK435:=Aside0.mk (kb_ BK435.out hb);replace BK452:=Aside0.mk (kb_ BK452.out hb);replace BK463:=Aside0.mk (kb_ BK463.out hb);replace BK469:=Aside0.mk (kb_ BK469.out hb);replace HB:=Aside0.mk (below_step (be4_ HB.out GE435.out GE452.out GE463.out GE469.out) hb);(try clear hb);(try clear hb2);(try clear hk);(try clear hi)))
          go_meet
          case rel => exact ⟨_,(true),rs_,H',⟨by have:=HJ13.out;first|omega|exact Nat.le_refl _⟩,⟨by refine pr_ ?_;exact Kd.R_mono HO_453001.out (fun _ hk => ⟨hk.1,⟨hk.2.1,hk.2.2.1⟩⟩)⟩,⟨by refine pr_ ?_;exact Kd.R_mono HO_464001.out (fun _ hk => ⟨hk.1.1.1,⟨hk.1.1.2.1,hk.1.1.2.2⟩⟩)⟩,⟨by refine pr_ ?_;exact Kd.R_mono HO_464002.out (fun _ hk => ⟨hk.1.1.1,⟨hk.1.1.2.1,hk.1.1.2.2⟩⟩)⟩,⟨by refine pr_ ?_;exact Kd.R_mono HO_464003.out (fun _ hk => trivial)⟩,⟨by refine pr_ ?_;exact Kd.R_mono HO_470001.out (fun _ hk => ⟨hk.1,⟨hk.2.1,hk.2.2.1⟩⟩)⟩,⟨pe_ BK435.out⟩,⟨pe_ BK452.out⟩,⟨pe_ BK463.out⟩,⟨pe_ BK469.out⟩,⟨be4_ HB.out GE435.out GE452.out GE463.out GE469.out⟩⟩
       case rest =>
        clear HC67
        try clear c1
        try clear c2
        try clear p2
        try clear c3
        try clear c3b0
        try clear c3b1
        try clear c4
        try clear c5
        try clear c6
        try clear c6b0
        try clear c7
        try clear c8
        try clear c9
        try clear c14
        try clear c17
        try clear c20
        try clear c21
        try clear c22
        try clear c23
        try clear c24
        try clear c25
        try clear c31
        try clear c32
        try clear c39
        try clear c40
        try clear c41
        try clear c45
        try clear c46
        try clear c47
        try clear c48
        try clear c50
        try clear c51
        try clear c54
        try clear c55
        try clear c56
        try clear c58
        try clear c59
        try clear c62
        try clear c65
        try clear c74
        try clear c75
        try clear c76
        try clear c79
        try clear c79b0
        try clear c81
        try clear c82
        try clear c83
        try clear c84
        try clear c86
        try clear c87
        try clear c90
        try clear c91
        try clear c92
        try clear c94
        try clear c95
        try clear hcz16_0
        try clear hcz16_1
        try clear hcz16_2
        try clear hcz16_3
        try clear hcz18_0
        try clear hcz18_1
        try clear hcz18_2
        try clear hcz18_3
        try clear hcz26_0
        try clear hcz26_1
        try clear hcz28_0
        try clear hcz28_1
        try clear hcz28_2
        try clear hcz28_3
        try clear hcz33_0
        try clear hcz33_1
        try clear hcz33_2
        try clear hcz33_3
        try clear hcz42_0
        try clear hcz42_1
        try clear hcz49_0
        try clear hcz49_1
        try clear hcz52_0
        try clear hcz52_1
        try clear hcz57_0
        try clear hcz57_1
        try clear hcz60_0
        try clear hcz60_1
        try clear hcz77_0
        try clear hcz77_1
        try clear hcz77_2
        try clear hcz77_3
        try clear hcz85_0
        try clear hcz85_1
        try clear hcz88_0
        try clear hcz88_1
        try clear hcz8_0
        try clear hcz8_1
        try clear hcz8_2
        try clear hcz8_3
        try clear hcz93_0
        try clear hcz93_1
        try clear hcz96_0
        try clear hcz96_1
        try clear hfz16_0
        try clear hfz16_1
        try clear hfz16_2
        try clear hfz16_3
        try clear hfz18_0
        try clear hfz18_1
        try clear hfz18_2
        try clear hfz18_3
        try clear hfz26_0
        try clear hfz26_1
        try clear hfz28_0
        try clear hfz28_1
        try clear hfz28_2
        try clear hfz28_3
        try clear hfz33_0
        try clear hfz33_1
        try clear hfz33_2
        try clear hfz33_3
        try clear hfz42_0
        try clear hfz42_1
        try clear hfz49_0
        try clear hfz49_1
        try clear hfz52_0
        try clear hfz52_1
        try clear hfz57_0
        try clear hfz57_1
        try clear hfz60_0
        try clear hfz60_1
        try clear hfz77_0
        try clear hfz77_1
        try clear hfz77_2
        try clear hfz77_3
        try clear hfz85_0
        try clear hfz85_1
        try clear hfz88_0
        try clear hfz88_1
        try clear hfz8_0
        try clear hfz8_1
        try clear hfz8_2
        try clear hfz8_3
        try clear hfz93_0
        try clear hfz93_1
        try clear hfz96_0
        try clear hfz96_1
        try clear p2
        obtain ⟨kq,x68_66,rfl,HA,HJ66,HO_453001,HO_464001,HO_464002,HO_464003,HO_470001,BK435,BK452,BK463,BK469,HB⟩:=hcut
        have hl464001_66:=(Kd.R_reads' HO_464001.out).1
        rw [hl464001_66] at HO_464001
        (try simp only [hl464001_66])
        (try simp only [hl464001_66] at BK435)
        (try simp only [hl464001_66] at BK452)
        (try simp only [hl464001_66] at BK463)
        (try simp only [hl464001_66] at BK469)
        (try simp only [hl464001_66] at HO_453001)
        (try simp only [hl464001_66] at HO_464002)
        (try simp only [hl464001_66] at HO_464003)
        (try simp only [hl464001_66] at HO_470001)
        have hl464002_66:=(Kd.R_reads' HO_464002.out).1
        rw [hl464002_66] at HO_464002
        (try simp only [hl464002_66])
        (try simp only [hl464002_66] at BK435)
        (try simp only [hl464002_66] at BK452)
        (try simp only [hl464002_66] at BK463)
        (try simp only [hl464002_66] at BK469)
        (try simp only [hl464002_66] at HO_453001)
        (try simp only [hl464002_66] at HO_464001)
        (try simp only [hl464002_66] at HO_464003)
        (try simp only [hl464002_66] at HO_470001)
        have hl464003_66:=(Kd.R_reads' HO_464003.out).1
        rw [hl464003_66] at HO_464003
        (try simp only [hl464003_66])
        (try simp only [hl464003_66] at BK435)
        (try simp only [hl464003_66] at BK452)
        (try simp only [hl464003_66] at BK463)
        (try simp only [hl464003_66] at BK469)
        (try simp only [hl464003_66] at HO_453001)
        (try simp only [hl464003_66] at HO_464001)
        (try simp only [hl464003_66] at HO_464002)
        (try simp only [hl464003_66] at HO_470001)
        cases kq with
        | zero => exact absurd HA.out (by simp [laws_FnExactWordMatrix.j1])
        | succ kj66 =>
         have H:=HA.out
         clear HA
         simp only [laws_FnExactWordMatrix.j1] at H
         by_cases c98 : x68_66 = true
         ·subst c98
          have H1 : (some false) = some r:=by rw [if_pos rfl] at H;exact H
          clear H
          have H:=H1
          clear H1
          obtain rfl:=Option.some.inj H
          go_wp2
          go_ret
          exact ⟨er_,be4_ HB.out GE435.out GE452.out GE463.out GE469.out⟩
         ·replace c98:=Bool.eq_false_iff.mpr c98
          subst c98
          have H1 : ((laws_markMatrix.f kj66 t464 t465 1).bind fun bt487 => ((laws_heldMatrix.f kj66 t464 bt487.2 1).bind fun t489 => (if t489 < 0 then (some false) else (if t489 = bt487.1 then ((laws_toAutomaton.f kj66 a0_0 l0_1 l0_2 l0_3).bind fun bt490 => ((impl_WordMatrix.f kj66 bt490.1 bt490.2.1 bt490.2.2.1 bt490.2.2.2 a1).bind fun bt500 => ((laws_eqMatrix.f kj66 bt500.1 bt500.2.1 t447 t448).bind fun t506 => (if t506 = true then (laws_FnExactWordMatrix.j2 kj66 bt487.1 (bt500.2.2 != t451) t464 bt487.2) else (laws_FnExactWordMatrix.j2 kj66 bt487.1 true t464 bt487.2))))) else (some false))))) = some r:=by rw [if_neg (show ¬ (false = true) by decide)] at H;exact H
          clear H
          have H:=H1
          clear H1
          replace H:=Option.bind_eq_some_iff.mp H
          obtain ⟨⟨t487,t488⟩,A990,H⟩:=H
          replace H : ((laws_heldMatrix.f kj66 t464 t488 1).bind fun t489 => (if t489 < 0 then (some false) else (if t489 = t487 then ((laws_toAutomaton.f kj66 a0_0 l0_1 l0_2 l0_3).bind fun bt490 => ((impl_WordMatrix.f kj66 bt490.1 bt490.2.1 bt490.2.2.1 bt490.2.2.2 a1).bind fun bt500 => ((laws_eqMatrix.f kj66 bt500.1 bt500.2.1 t447 t448).bind fun t506 => (if t506 = true then (laws_FnExactWordMatrix.j2 kj66 t487 (bt500.2.2 != t451) t464 t488) else (laws_FnExactWordMatrix.j2 kj66 t487 true t464 t488))))) else (some false)))) = some r:=H
          have A99:=Aside0.mk A990
          clear A990
          replace H:=Option.bind_eq_some_iff.mp H
          obtain ⟨t489,A1000,H⟩:=H
          replace H : (if t489 < 0 then (some false) else (if t489 = t487 then ((laws_toAutomaton.f kj66 a0_0 l0_1 l0_2 l0_3).bind fun bt490 => ((impl_WordMatrix.f kj66 bt490.1 bt490.2.1 bt490.2.2.1 bt490.2.2.2 a1).bind fun bt500 => ((laws_eqMatrix.f kj66 bt500.1 bt500.2.1 t447 t448).bind fun t506 => (if t506 = true then (laws_FnExactWordMatrix.j2 kj66 t487 (bt500.2.2 != t451) t464 t488) else (laws_FnExactWordMatrix.j2 kj66 t487 true t464 t488))))) else (some false))) = some r:=H
          have A100:=Aside0.mk A1000
          clear A1000
          by_cases c101 : t489 < 0
          ·rw [if_pos c101] at H
           have c101b0 : decide (t489 < 0) = true:=decide_eq_true c101
           clear c101
           obtain rfl:=Option.some.inj H
           have hnb102:=NB469_435.out
           have hnc102:=NB435_469.out
           have hnb103:=NB469_452.out
           have hnc103:=NB452_469.out
           have hnb104:=NB469_463.out
           have hnc104:=NB463_469.out
           obtain ⟨hcz105_0,hcz105_1,hfz105_0,hfz105_1⟩:=cf2_ BK469.out
           go_wp2_with (first|((with_reducible refine gate_callee (f:=25) rfl ?_);refine goesL_ (some 71) rfl rfl Try.func25 (by kernel_rfl) rfl #[.agg #[.int .i64 t464,.slice Ao43 t465.length co43],.int .i64 1] rfl lp_ ?_;(with_reducible refine (laws_markMatrix.calls kj66 t464 (fun k_ => some k_ = (.slice Ao43 t465.length co43 : Value).ownBlock) (.slice Ao43 t465.length co43) t465 1 t487 t488 w _ ?side1 ?side2 A99.out).mono ?_);(case side1 => repeat (first|(with_reducible first|exact HB.out|apply below_alloc|apply pw_below_drewN|apply below_drew1|refine below_set ?_ GE435.out|refine below_set ?_ GE452.out|refine below_set ?_ GE463.out|refine below_set ?_ GE469.out)|exact HB.out));(case side2 => exact Kd.R_tight rfl HO_470001.out);rintro e w106 ⟨rfl,hy0,hb,hkp⟩;refine ⟨_,rfl,?_⟩;replace HO_453001:=Aside0.mk (Kd.R_mono (ok':=fun k_ => some k_ ≠ (.slice Ao34 t483.length co34 : Value).ownBlock ∧ some k_ ≠ (.slice Ao35 t484.length co35 : Value).ownBlock ∧ some k_ ≠ (.slice Ao43 t465.length co43 : Value).ownBlock) (Kd.R_keptB (HO_453001.out) hkp (fun k_ hk_ hs_ => (hk_.2.2) hs_)) (fun k_ hk_ => ⟨hk_.1.1,hk_.1.2.1,hk_.1.2.2⟩));replace HO_464001:=Aside0.mk (Kd.R_mono (ok':=fun k_ => some k_ ≠ (.slice Ao27 t448.length co27 : Value).ownBlock ∧ some k_ ≠ (.slice Ao35 t484.length co35 : Value).ownBlock ∧ some k_ ≠ (.slice Ao43 t465.length co43 : Value).ownBlock) (Kd.R_keptB (HO_464001.out) hkp (fun k_ hk_ hs_ => (hk_.2.2) hs_)) (fun k_ hk_ => ⟨hk_.1.1,hk_.1.2.1,hk_.1.2.2⟩));replace HO_464002:=Aside0.mk (Kd.R_mono (ok':=fun k_ => some k_ ≠ (.slice Ao27 t448.length co27 : Value).ownBlock ∧ some k_ ≠ (.slice Ao34 t483.length co34 : Value).ownBlock ∧ some k_ ≠ (.slice Ao43 t465.length co43 : Value).ownBlock) (Kd.R_keptB (HO_464002.out) hkp (fun k_ hk_ hs_ => (hk_.2.2) hs_)) (fun k_ hk_ => ⟨hk_.1.1,hk_.1.2.1,hk_.1.2.2⟩));replace HO_464003:=Aside0.mk (Kd.R_mono (ok':=fun k_ => True) (Kd.R_keptB ((Kd.R_apart' HO_464003.out (Kd.R_typed HO_470001.out) (by decide))) hkp (fun k_ hk_ hs_ => (hk_.2) hs_)) (fun k_ hk_ => trivial));replace BK435:=Aside0.mk (blk_kept (pe_ BK435.out) hkp (fun hs_ => (fun e_ => (Kd.R_ne HO_470001.out BK435.out (by decide)) e_) hs_));replace BK452:=Aside0.mk (blk_kept (pe_ BK452.out) hkp (fun hs_ => (fun e_ => (Kd.R_ne HO_470001.out BK452.out (by decide)) e_) hs_));replace BK463:=Aside0.mk (blk_kept (pe_ BK463.out) hkp (fun hs_ => (fun e_ => (Kd.R_ne HO_470001.out BK463.out (by decide)) e_) hs_));replace BK469:=Aside0.mk (blk_kept (pe_ BK469.out) hkp (fun hs_ => (fun e_ => (Kd.R_ne HO_470001.out BK469.out (by decide)) e_) hs_));replace HO_470001:=Aside0.mk (Kd.R_reok rfl hy0 (fun k_ e_ => HO_470001.out.1 k_ e_));replace HB:=Aside0.mk (hb);(try clear hb);(try clear hkp);(try clear hy0);obtain ⟨hcz107_0,hcz107_1,hfz107_0,hfz107_1⟩:=cf2_ BK469.out)|((with_reducible refine gate_callee (f:=26) rfl ?_);refine goesL_ (some 74) rfl rfl Try.func26 (by kernel_rfl) rfl #[.agg #[.int .i64 t464,.slice Ao43 t488.length co43],.int .i64 1] rfl (by (try simp only [List.map_toArray,List.map_cons,List.map_nil]);first|done|(rw [show t488.length = t465.length from (Kd.R_reads' HO_470001.out).1.symm] <;> rfl)|rfl|(simp only [List.length_drop,List.length_take];rfl)) ?_;(with_reducible refine (laws_heldMatrix.calls kj66 t464 _ _ t488 1 t489 _ ?side1 ?side2 A100.out).mono ?_);(case side1 => exact cr_ (Kd.R_reads' HO_470001.out).2.2);(case side2 => rw [show t488.length = t465.length from (Kd.R_reads' HO_470001.out).1.symm];exact (Kd.R_reads' HO_470001.out).2.1);rintro e w108 ⟨rfl,hb⟩;refine ⟨_,rfl,?_⟩;replace HO_453001:=Aside0.mk (Kd.R_below (pr_ HO_453001.out) hb);replace HO_464001:=Aside0.mk (Kd.R_below (pr_ HO_464001.out) hb);replace HO_464002:=Aside0.mk (Kd.R_below (pr_ HO_464002.out) hb);replace HO_464003:=Aside0.mk (Kd.R_below (pr_ HO_464003.out) hb);replace HO_470001:=Aside0.mk (Kd.R_below (pr_ HO_470001.out) hb);replace BK435:=Aside0.mk (kb_ BK435.out hb);replace BK452:=Aside0.mk (kb_ BK452.out hb);replace BK463:=Aside0.mk (kb_ BK463.out hb);replace BK469:=Aside0.mk (kb_ BK469.out hb);replace HB:=Aside0.mk (below_step (be4_ HB.out GE435.out GE452.out GE463.out GE469.out) hb);(try clear hb);(try clear hb2);(try clear hk);(try clear hi)))
           go_ret
           exact ⟨er_,be4_ HB.out GE435.out GE452.out GE463.out GE469.out⟩
          ·rw [if_neg c101] at H
           have c101b0 : decide (t489 < 0) = false:=decide_eq_false c101
           clear c101
           by_cases c109 : t489 = t487
           ·rw [if_pos c109] at H
            have c109b0 : (t489 == t487) = true:=beq_iff_eq.mpr c109
            have c109b1 : (t489 != t487) = false:=bne_eq_false_iff_eq.mpr c109
            clear c109
            replace H:=Option.bind_eq_some_iff.mp H
            obtain ⟨⟨t490,t491,t494,t497⟩,A1100,H⟩:=H
            replace H : ((impl_WordMatrix.f kj66 t490 t491 t494 t497 a1).bind fun bt500 => ((laws_eqMatrix.f kj66 bt500.1 bt500.2.1 t447 t448).bind fun t506 => (if t506 = true then (laws_FnExactWordMatrix.j2 kj66 t487 (bt500.2.2 != t451) t464 t488) else (laws_FnExactWordMatrix.j2 kj66 t487 true t464 t488)))) = some r:=H
            have A110:=Aside0.mk A1100
            clear A1100
            replace H:=Option.bind_eq_some_iff.mp H
            obtain ⟨⟨t500,t501,t504⟩,A1110,H⟩:=H
            replace H : ((laws_eqMatrix.f kj66 t500 t501 t447 t448).bind fun t506 => (if t506 = true then (laws_FnExactWordMatrix.j2 kj66 t487 (t504 != t451) t464 t488) else (laws_FnExactWordMatrix.j2 kj66 t487 true t464 t488))) = some r:=H
            have A111:=Aside0.mk A1110
            clear A1110
            have HC112:=Aside0.mk H
            clear H
            have hnb113:=NB469_435.out
            have hnc113:=NB435_469.out
            have hnb114:=NB469_452.out
            have hnc114:=NB452_469.out
            have hnb115:=NB469_463.out
            have hnc115:=NB463_469.out
            obtain ⟨hcz116_0,hcz116_1,hfz116_0,hfz116_1⟩:=cf2_ BK469.out
            go_upto_region 27 with (first|((with_reducible refine gate_callee (f:=25) rfl ?_);refine goesL_ (some 71) rfl rfl Try.func25 (by kernel_rfl) rfl #[.agg #[.int .i64 t464,.slice Ao43 t465.length co43],.int .i64 1] rfl lp_ ?_;(with_reducible refine (laws_markMatrix.calls kj66 t464 (fun k_ => some k_ = (.slice Ao43 t465.length co43 : Value).ownBlock) (.slice Ao43 t465.length co43) t465 1 t487 t488 w _ ?side1 ?side2 A99.out).mono ?_);(case side1 => repeat (first|(with_reducible first|exact HB.out|apply below_alloc|apply pw_below_drewN|apply below_drew1|refine below_set ?_ GE435.out|refine below_set ?_ GE452.out|refine below_set ?_ GE463.out|refine below_set ?_ GE469.out)|exact HB.out));(case side2 => exact Kd.R_tight rfl HO_470001.out);rintro e w117 ⟨rfl,hy0,hb,hkp⟩;refine ⟨_,rfl,?_⟩;replace HO_453001:=Aside0.mk (Kd.R_mono (ok':=fun k_ => some k_ ≠ (.slice Ao34 t483.length co34 : Value).ownBlock ∧ some k_ ≠ (.slice Ao35 t484.length co35 : Value).ownBlock ∧ some k_ ≠ (.slice Ao43 t465.length co43 : Value).ownBlock) (Kd.R_keptB (HO_453001.out) hkp (fun k_ hk_ hs_ => (hk_.2.2) hs_)) (fun k_ hk_ => ⟨hk_.1.1,hk_.1.2.1,hk_.1.2.2⟩));replace HO_464001:=Aside0.mk (Kd.R_mono (ok':=fun k_ => some k_ ≠ (.slice Ao27 t448.length co27 : Value).ownBlock ∧ some k_ ≠ (.slice Ao35 t484.length co35 : Value).ownBlock ∧ some k_ ≠ (.slice Ao43 t465.length co43 : Value).ownBlock) (Kd.R_keptB (HO_464001.out) hkp (fun k_ hk_ hs_ => (hk_.2.2) hs_)) (fun k_ hk_ => ⟨hk_.1.1,hk_.1.2.1,hk_.1.2.2⟩));replace HO_464002:=Aside0.mk (Kd.R_mono (ok':=fun k_ => some k_ ≠ (.slice Ao27 t448.length co27 : Value).ownBlock ∧ some k_ ≠ (.slice Ao34 t483.length co34 : Value).ownBlock ∧ some k_ ≠ (.slice Ao43 t465.length co43 : Value).ownBlock) (Kd.R_keptB (HO_464002.out) hkp (fun k_ hk_ hs_ => (hk_.2.2) hs_)) (fun k_ hk_ => ⟨hk_.1.1,hk_.1.2.1,hk_.1.2.2⟩));replace HO_464003:=Aside0.mk (Kd.R_mono (ok':=fun k_ => True) (Kd.R_keptB ((Kd.R_apart' HO_464003.out (Kd.R_typed HO_470001.out) (by decide))) hkp (fun k_ hk_ hs_ => (hk_.2) hs_)) (fun k_ hk_ => trivial));replace BK435:=Aside0.mk (blk_kept (pe_ BK435.out) hkp (fun hs_ => (fun e_ => (Kd.R_ne HO_470001.out BK435.out (by decide)) e_) hs_));replace BK452:=Aside0.mk (blk_kept (pe_ BK452.out) hkp (fun hs_ => (fun e_ => (Kd.R_ne HO_470001.out BK452.out (by decide)) e_) hs_));replace BK463:=Aside0.mk (blk_kept (pe_ BK463.out) hkp (fun hs_ => (fun e_ => (Kd.R_ne HO_470001.out BK463.out (by decide)) e_) hs_));replace BK469:=Aside0.mk (blk_kept (pe_ BK469.out) hkp (fun hs_ => (fun e_ => (Kd.R_ne HO_470001.out BK469.out (by decide)) e_) hs_));replace HO_470001:=Aside0.mk (Kd.R_reok rfl hy0 (fun k_ e_ => HO_470001.out.1 k_ e_));replace HB:=Aside0.mk (hb);(try clear hb);(try clear hkp);(try clear hy0);obtain ⟨hcz118_0,hcz118_1,hfz118_0,hfz118_1⟩:=cf2_ BK469.out)|((with_reducible refine gate_callee (f:=26) rfl ?_);refine goesL_ (some 74) rfl rfl Try.func26 (by kernel_rfl) rfl #[.agg #[.int .i64 t464,.slice Ao43 t488.length co43],.int .i64 1] rfl (by (try simp only [List.map_toArray,List.map_cons,List.map_nil]);first|done|(rw [show t488.length = t465.length from (Kd.R_reads' HO_470001.out).1.symm] <;> rfl)|rfl|(simp only [List.length_drop,List.length_take];rfl)) ?_;(with_reducible refine (laws_heldMatrix.calls kj66 t464 _ _ t488 1 t489 _ ?side1 ?side2 A100.out).mono ?_);(case side1 => exact cr_ (Kd.R_reads' HO_470001.out).2.2);(case side2 => rw [show t488.length = t465.length from (Kd.R_reads' HO_470001.out).1.symm];exact (Kd.R_reads' HO_470001.out).2.1);rintro e w119 ⟨rfl,hb⟩;refine ⟨_,rfl,?_⟩;replace HO_453001:=Aside0.mk (Kd.R_below (pr_ HO_453001.out) hb);replace HO_464001:=Aside0.mk (Kd.R_below (pr_ HO_464001.out) hb);replace HO_464002:=Aside0.mk (Kd.R_below (pr_ HO_464002.out) hb);replace HO_464003:=Aside0.mk (Kd.R_below (pr_ HO_464003.out) hb);replace HO_470001:=Aside0.mk (Kd.R_below (pr_ HO_470001.out) hb);replace BK435:=Aside0.mk (kb_ BK435.out hb);replace BK452:=Aside0.mk (kb_ BK452.out hb);replace BK463:=Aside0.mk (kb_ BK463.out hb);replace BK469:=Aside0.mk (kb_ BK469.out hb);replace HB:=Aside0.mk (below_step (be4_ HB.out GE435.out GE452.out GE463.out GE469.out) hb);(try clear hb);(try clear hb2);(try clear hk);(try clear hi);have hnb120:=NB435_452.out;have hnc120:=NB452_435.out;have hnb121:=NB435_463.out;have hnc121:=NB463_435.out;obtain ⟨hcz122_0,hcz122_1,hcz122_2,hcz122_3,hfz122_0,hfz122_1,hfz122_2,hfz122_3⟩:=cf4_ BK435.out)|((with_reducible refine gate_callee (f:=17) rfl ?_);refine goesL_ (some 82) rfl rfl Try.func17 (by kernel_rfl) rfl #[.agg #[.int .i64 a0_0,.slice A0_1 l0_1.length c0_1,.slice A0_2 l0_2.length c0_2,.slice A0_3 l0_3.length c0_3]] rfl lp_ ?_;(with_reducible refine (laws_toAutomaton.calls kj66 a0_0 _ _ l0_1 _ _ l0_2 _ _ l0_3 t490 t491 t494 t497 _ ?side1 ?side2 ?side3 ?side4 ?side5 ?side6 A110.out).mono ?_);(case side1 => exact cr_ (Kd.C_below HR0_1.out HB.out));(case side2 => exact HC0_1.out);(case side3 => exact cr_ (Kd.C_below HR0_2.out HB.out));(case side4 => exact HC0_2.out);(case side5 => exact cr_ (Kd.C_below HR0_3.out HB.out));(case side6 => exact HC0_3.out);rintro e w123 ⟨v492,v495,v498,rfl,ho0,ho1,ho2,hb⟩;refine ⟨_,rfl,?_⟩;have HO493:=Aside0.mk (Kd.R_lower (Kd.R_new' (Kd.R_new' (Kd.R_new' (Kd.R_new' ho0 (Kd.R_lt (pr_ HO_453001.out))) (Kd.R_lt (pr_ HO_464001.out))) (Kd.R_lt (pr_ HO_464002.out))) (Kd.R_lt (pr_ HO_470001.out))) (below_size (be4_ HB.out GE435.out GE452.out GE463.out GE469.out)));have HO496:=Aside0.mk (Kd.R_lower (Kd.R_new' (Kd.R_new' (Kd.R_new' (Kd.R_new' ho1 (Kd.R_lt (pr_ HO_453001.out))) (Kd.R_lt (pr_ HO_464001.out))) (Kd.R_lt (pr_ HO_464002.out))) (Kd.R_lt (pr_ HO_470001.out))) (below_size (be4_ HB.out GE435.out GE452.out GE463.out GE469.out)));replace HO_453001:=Aside0.mk (Kd.R_mono (Kd.R_told (Kd.R_told (Kd.R_old (pr_ HO_453001.out) hb) (Kd.R_base ho0)) (Kd.R_base ho1)) (fun _ h_ => h_.1));replace HO_464001:=Aside0.mk (Kd.R_mono (Kd.R_told (Kd.R_told (Kd.R_old (pr_ HO_464001.out) hb) (Kd.R_base ho0)) (Kd.R_base ho1)) (fun _ h_ => h_.1));replace HO_464002:=Aside0.mk (Kd.R_mono (Kd.R_told (Kd.R_told (Kd.R_old (pr_ HO_464002.out) hb) (Kd.R_base ho0)) (Kd.R_base ho1)) (fun _ h_ => h_.1));replace HO_470001:=Aside0.mk (Kd.R_mono (Kd.R_told (Kd.R_told (Kd.R_old (pr_ HO_470001.out) hb) (Kd.R_base ho0)) (Kd.R_base ho1)) (fun _ h_ => h_.1));have HO499:=Aside0.mk (Kd.R_lower (Kd.R_new' ho2 (Kd.R_lt (pr_ HO_464003.out))) (below_size (be4_ HB.out GE435.out GE452.out GE463.out GE469.out)));replace HO_464003:=Aside0.mk (Kd.R_elder' (pr_ HO_464003.out) (Kd.R_base ho2) hb);replace BK435:=Aside0.mk (kb_ BK435.out hb);replace BK452:=Aside0.mk (kb_ BK452.out hb);replace BK463:=Aside0.mk (kb_ BK463.out hb);replace BK469:=Aside0.mk (kb_ BK469.out hb);replace HB:=Aside0.mk (below_step (be4_ HB.out GE435.out GE452.out GE463.out GE469.out) hb);(try clear hb);(try clear hb2);(try clear hk);(try clear hi);(try clear ho0);(try clear ho1);(try clear ho2);obtain ⟨Ao124,co124,eo124⟩:=Kd.R_slice HO493.out;subst eo124;obtain ⟨Ao125,co125,eo125⟩:=Kd.R_slice HO496.out;subst eo125;obtain ⟨Ao126,co126,eo126⟩:=Kd.R_slice HO499.out;subst eo126)|((with_reducible refine gate_callee (f:=23) rfl ?_);refine goesL_ (some 84) rfl rfl Try.func23 (by kernel_rfl) rfl #[.agg #[.int .i64 t490,.slice Ao124 t491.length co124,.slice Ao125 t494.length co125,.slice Ao126 t497.length co126],.string a1] rfl lp_ ?_;(with_reducible refine (impl_WordMatrix.calls kj66 t490 _ _ t491 _ _ t494 _ _ t497 a1 t500 t501 t504 _ ?side1 ?side2 ?side3 ?side4 ?side5 ?side6 A111.out).mono ?_);(case side1 => exact cr_ (Kd.R_reads' HO493.out).2.2);(case side2 => exact (Kd.R_reads' HO493.out).2.1);(case side3 => exact cr_ (Kd.R_reads' HO496.out).2.2);(case side4 => exact (Kd.R_reads' HO496.out).2.1);(case side5 => exact cr_ (Kd.R_reads' HO499.out).2.2);(case side6 => exact (Kd.R_reads' HO499.out).2.1);rintro e w127 ⟨v502,rfl,ho0,hb⟩;refine ⟨_,rfl,?_⟩;replace HO_464003:=Aside0.mk (Kd.R_below (pr_ HO_464003.out) hb);replace HO499:=Aside0.mk (Kd.R_below (pr_ HO499.out) hb);have HO503:=Aside0.mk (Kd.R_lower (Kd.R_new' (Kd.R_new' (Kd.R_new' (Kd.R_new' (Kd.R_new' (Kd.R_new' ho0 (Kd.R_lt (pr_ HO_453001.out))) (Kd.R_lt (pr_ HO_464001.out))) (Kd.R_lt (pr_ HO_464002.out))) (Kd.R_lt (pr_ HO_470001.out))) (Kd.R_lt (pr_ HO493.out))) (Kd.R_lt (pr_ HO496.out))) (below_size (be4_ HB.out GE435.out GE452.out GE463.out GE469.out)));replace HO_453001:=Aside0.mk (Kd.R_elder' (pr_ HO_453001.out) (Kd.R_base ho0) hb);replace HO_464001:=Aside0.mk (Kd.R_elder' (pr_ HO_464001.out) (Kd.R_base ho0) hb);replace HO_464002:=Aside0.mk (Kd.R_elder' (pr_ HO_464002.out) (Kd.R_base ho0) hb);replace HO_470001:=Aside0.mk (Kd.R_elder' (pr_ HO_470001.out) (Kd.R_base ho0) hb);replace HO493:=Aside0.mk (Kd.R_elder' (pr_ HO493.out) (Kd.R_base ho0) hb);replace HO496:=Aside0.mk (Kd.R_elder' (pr_ HO496.out) (Kd.R_base ho0) hb);replace BK435:=Aside0.mk (kb_ BK435.out hb);replace BK452:=Aside0.mk (kb_ BK452.out hb);replace BK463:=Aside0.mk (kb_ BK463.out hb);replace BK469:=Aside0.mk (kb_ BK469.out hb);replace HB:=Aside0.mk (below_step (be4_ HB.out GE435.out GE452.out GE463.out GE469.out) hb);(try clear hb);(try clear hb2);(try clear hk);(try clear hi);(try clear ho0))|((with_reducible refine bev_ (N:=14) rfl rfl (cs:=#[.int .i64 0,.slice none 0 0]) (t:=35) ?hr ?_);(case hr => first|(go_simp;done)|(go_simp;rfl));intro gb505 hg w128 hbox hb;replace HO_453001:=Aside0.mk (Kd.R_below (pr_ HO_453001.out) hb);replace HO_464001:=Aside0.mk (Kd.R_below (pr_ HO_464001.out) hb);replace HO_464002:=Aside0.mk (Kd.R_below (pr_ HO_464002.out) hb);replace HO_464003:=Aside0.mk (Kd.R_below (pr_ HO_464003.out) hb);replace HO_470001:=Aside0.mk (Kd.R_below (pr_ HO_470001.out) hb);replace HO493:=Aside0.mk (Kd.R_below (pr_ HO493.out) hb);replace HO496:=Aside0.mk (Kd.R_below (pr_ HO496.out) hb);replace HO499:=Aside0.mk (Kd.R_below (pr_ HO499.out) hb);replace HO503:=Aside0.mk (Kd.R_below (pr_ HO503.out) hb);have BK505:=Aside0.mk (hbox);have GW505:=Aside0.mk (szg_ hg (below_size (be4_ HB.out GE435.out GE452.out GE463.out GE469.out)));have GE505:=Aside0.mk (szg_ hg (below_size (be4_ HB.out GE435.out GE452.out GE463.out GE469.out)));replace HB:=Aside0.mk (below_step (be4_ HB.out GE435.out GE452.out GE463.out GE469.out) hb);have NB435_505:=Aside0.mk (nl_ hg BK435.out);have NB505_435:=Aside0.mk (ng_ hg BK435.out);replace BK435:=Aside0.mk (kb_ BK435.out hb);have NB452_505:=Aside0.mk (nl_ hg BK452.out);have NB505_452:=Aside0.mk (ng_ hg BK452.out);replace BK452:=Aside0.mk (kb_ BK452.out hb);have NB463_505:=Aside0.mk (nl_ hg BK463.out);have NB505_463:=Aside0.mk (ng_ hg BK463.out);replace BK463:=Aside0.mk (kb_ BK463.out hb);have NB469_505:=Aside0.mk (nl_ hg BK469.out);have NB505_469:=Aside0.mk (ng_ hg BK469.out);replace BK469:=Aside0.mk (kb_ BK469.out hb);clear hb hbox hg;have hnb129:=NB505_435.out;have hnc129:=NB435_505.out;have hnb130:=NB505_452.out;have hnc130:=NB452_505.out;have hnb131:=NB505_463.out;have hnc131:=NB463_505.out;have hnb132:=NB505_469.out;have hnc132:=NB469_505.out;obtain ⟨hcz133_0,hcz133_1,hfz133_0,hfz133_1⟩:=cf2_ BK505.out;obtain ⟨Ao134,co134,eo134⟩:=Kd.R_slice HO503.out;subst eo134))
            (try simp only [Act.put,List.setIfInBounds_toArray,List.set_cons_zero,List.set_cons_succ])
            go_cut [95] (fun v95 wc => ∃ (kq : Nat) (x95_111 : Bool),v95 = .bool x95_111 ∧ Aside0 (laws_FnExactWordMatrix.j2 kq t487 x95_111 t464 t488 = some r) ∧ Aside0 (kq ≤ kj66) ∧ Aside0 (Kd.R (Kd.int .i64) 3 wc w.heap.size (fun k_ => some k_ ≠ ((.slice Ao34 t483.length co34) : Value).ownBlock ∧ some k_ ≠ ((.slice Ao35 t484.length co35) : Value).ownBlock ∧ some k_ ≠ ((.slice Ao43 t465.length co43) : Value).ownBlock ∧ some k_ ≠ ((.slice Ao134 t501.length co134) : Value).ownBlock) (.slice Ao27 t448.length co27) t448) ∧ Aside0 (Kd.R (Kd.int .i64) 3 wc w.heap.size (fun k_ => some k_ ≠ ((.slice Ao27 t448.length co27) : Value).ownBlock ∧ some k_ ≠ ((.slice Ao35 t484.length co35) : Value).ownBlock ∧ some k_ ≠ ((.slice Ao43 t465.length co43) : Value).ownBlock ∧ some k_ ≠ ((.slice Ao134 t501.length co134) : Value).ownBlock) (.slice Ao34 t483.length co34) t483) ∧ Aside0 (Kd.R (Kd.int .i64) 3 wc w.heap.size (fun k_ => some k_ ≠ ((.slice Ao27 t448.length co27) : Value).ownBlock ∧ some k_ ≠ ((.slice Ao34 t483.length co34) : Value).ownBlock ∧ some k_ ≠ ((.slice Ao43 t465.length co43) : Value).ownBlock ∧ some k_ ≠ ((.slice Ao134 t501.length co134) : Value).ownBlock) (.slice Ao35 t484.length co35) t484) ∧ Aside0 (Kd.R k92 92 wc w.heap.size (fun _ => True) (.slice Ao36 t485.length co36) t485) ∧ Aside0 (Kd.R (Kd.int .i64) 3 wc w.heap.size (fun k_ => some k_ ≠ ((.slice Ao27 t448.length co27) : Value).ownBlock ∧ some k_ ≠ ((.slice Ao34 t483.length co34) : Value).ownBlock ∧ some k_ ≠ ((.slice Ao35 t484.length co35) : Value).ownBlock ∧ some k_ ≠ ((.slice Ao134 t501.length co134) : Value).ownBlock) (.slice Ao43 t465.length co43) t488) ∧ Aside0 (Kd.R (Kd.int .i64) 3 wc w.heap.size (fun k_ => some k_ ≠ ((.slice Ao27 t448.length co27) : Value).ownBlock ∧ some k_ ≠ ((.slice Ao34 t483.length co34) : Value).ownBlock ∧ some k_ ≠ ((.slice Ao35 t484.length co35) : Value).ownBlock ∧ some k_ ≠ ((.slice Ao43 t465.length co43) : Value).ownBlock) (.slice Ao134 t501.length co134) t501) ∧ Aside0 (wc.heap[gb435]? = some (.cells #[.int .i64 a0_0,(.slice A0_1 l0_1.length c0_1),(.slice A0_2 l0_2.length c0_2),(.slice A0_3 l0_3.length c0_3)] 25 (0,0))) ∧ Aside0 (wc.heap[gb452]? = some (.cells #[.int .i64 t447,(.slice Ao27 t448.length co27)] 35 (0,0))) ∧ Aside0 (wc.heap[gb463]? = some (.cells #[.int .i64 t453,(.slice Ao34 t483.length co34),(.slice Ao35 t484.length co35),(.slice Ao36 t485.length co36)] 33 (0,0))) ∧ Aside0 (wc.heap[gb469]? = some (.cells #[.int .i64 t464,(.slice Ao43 t465.length co43)] 35 (0,0))) ∧ Aside0 (wc.heap[gb505]? = some (.cells #[.int .i64 t500,(.slice Ao134 t501.length co134)] 35 (0,0))) ∧ Aside0 (Below w.heap.size w wc))
            case first =>
             have H:=HC112.out
             clear HC112
             replace H:=Option.bind_eq_some_iff.mp H
             obtain ⟨t506,A1350,H⟩:=H
             replace H : (if t506 = true then (laws_FnExactWordMatrix.j2 kj66 t487 (t504 != t451) t464 t488) else (laws_FnExactWordMatrix.j2 kj66 t487 true t464 t488)) = some r:=H
             have A135:=Aside0.mk A1350
             clear A1350
             by_cases c136 : t506 = true
             ·subst c136
              have H1 : (laws_FnExactWordMatrix.j2 kj66 t487 (t504 != t451) t464 t488) = some r:=by rw [if_pos rfl] at H;exact H
              clear H
              have H:=H1
              clear H1
              have H':=Aside0.mk H
              clear H
              have hnb137:=NB505_435.out
              have hnc137:=NB435_505.out
              have hnb138:=NB505_452.out
              have hnc138:=NB452_505.out
              have hnb139:=NB505_463.out
              have hnc139:=NB463_505.out
              have hnb140:=NB505_469.out
              have hnc140:=NB469_505.out
              obtain ⟨hcz141_0,hcz141_1,hfz141_0,hfz141_1⟩:=cf2_ BK505.out
              have hnb142:=NB452_435.out
              have hnc142:=NB435_452.out
              have hnb143:=NB452_463.out
              have hnc143:=NB463_452.out
              have hnb144:=NB452_469.out
              have hnc144:=NB469_452.out
              obtain ⟨hcz145_0,hcz145_1,hfz145_0,hfz145_1⟩:=cf2_ BK452.out
              go_wp2_with (first|((with_reducible refine gate_callee (f:=21) rfl ?_);refine goesL_ (some 89) rfl rfl Try.func21 (by kernel_rfl) rfl #[.agg #[.int .i64 t500,.slice Ao134 t501.length co134],.agg #[.int .i64 t447,.slice Ao27 t448.length co27]] rfl lp_ ?_;(with_reducible refine (laws_eqMatrix.calls kj66 t500 _ _ t501 t447 _ _ t448 true _ ?side1 ?side2 ?side3 ?side4 A135.out).mono ?_);(case side1 => refine (Kd.R_reads' (e:=3) (base:=w.heap.size) (ok:=fun k_ => ((((((True ∧ some k_ ≠ (.slice Ao27 t448.length co27 : Value).ownBlock) ∧ some k_ ≠ (.slice Ao34 t483.length co34 : Value).ownBlock) ∧ some k_ ≠ (.slice Ao35 t484.length co35 : Value).ownBlock) ∧ some k_ ≠ (.slice Ao43 t465.length co43 : Value).ownBlock) ∧ some k_ ≠ (.slice Ao124 t491.length co124 : Value).ownBlock) ∧ some k_ ≠ (.slice Ao125 t494.length co125 : Value).ownBlock)) (n:=t501.length) (c:=co134) ?_).2.2;exact (by refine pr_ ?_;exact (Kd.R_mono (Kd.R_far (p:=⟨gb505,1,none⟩) (Kd.R_far (p:=⟨gb505,0,none⟩) (Kd.R_types HO503.out BK505.out (by decide)) (fun _ hk => hk.2) (.int .i64 t500)) (fun _ hk => hk.2) (.slice Ao134 t501.length co134)) (fun _ h_ => h_.1))));(case side2 => exact (Kd.R_reads' HO503.out).2.1);(case side3 => refine (Kd.R_reads' (e:=3) (base:=w.heap.size) (ok:=fun k_ => ((((some k_ ≠ (.slice Ao34 t483.length co34 : Value).ownBlock ∧ (some k_ ≠ (.slice Ao35 t484.length co35 : Value).ownBlock ∧ some k_ ≠ (.slice Ao43 t465.length co43 : Value).ownBlock)) ∧ some k_ ≠ (.slice Ao124 t491.length co124 : Value).ownBlock) ∧ some k_ ≠ (.slice Ao125 t494.length co125 : Value).ownBlock) ∧ some k_ ≠ (.slice Ao134 t501.length co134 : Value).ownBlock)) (n:=t448.length) (c:=co27) ?_).2.2;exact (by refine pr_ ?_;exact (Kd.R_mono (Kd.R_far (p:=⟨gb505,1,none⟩) (Kd.R_far (p:=⟨gb505,0,none⟩) (Kd.R_types HO_453001.out BK505.out (by decide)) (fun _ hk => hk.2) (.int .i64 t500)) (fun _ hk => hk.2) (.slice Ao134 t501.length co134)) (fun _ h_ => h_.1))));(case side4 => exact (Kd.R_reads' HO_453001.out).2.1);rintro e w146 ⟨rfl,hb⟩;refine ⟨_,rfl,?_⟩;replace HO_453001:=Aside0.mk (Kd.R_below (by refine pr_ ?_;exact (Kd.R_mono (Kd.R_far (p:=⟨gb505,1,none⟩) (Kd.R_far (p:=⟨gb505,0,none⟩) (Kd.R_types HO_453001.out BK505.out (by decide)) (fun _ hk => hk.2) (.int .i64 t500)) (fun _ hk => hk.2) (.slice Ao134 t501.length co134)) (fun _ h_ => h_.1))) hb);replace HO_464001:=Aside0.mk (Kd.R_below (by refine pr_ ?_;exact (Kd.R_mono (Kd.R_far (p:=⟨gb505,1,none⟩) (Kd.R_far (p:=⟨gb505,0,none⟩) (Kd.R_types HO_464001.out BK505.out (by decide)) (fun _ hk => hk.2) (.int .i64 t500)) (fun _ hk => hk.2) (.slice Ao134 t501.length co134)) (fun _ h_ => h_.1))) hb);replace HO_464002:=Aside0.mk (Kd.R_below (by refine pr_ ?_;exact (Kd.R_mono (Kd.R_far (p:=⟨gb505,1,none⟩) (Kd.R_far (p:=⟨gb505,0,none⟩) (Kd.R_types HO_464002.out BK505.out (by decide)) (fun _ hk => hk.2) (.int .i64 t500)) (fun _ hk => hk.2) (.slice Ao134 t501.length co134)) (fun _ h_ => h_.1))) hb);replace HO_464003:=Aside0.mk (Kd.R_below (by refine pr_ ?_;exact (Kd.R_mono (Kd.R_far (p:=⟨gb505,1,none⟩) (Kd.R_far (p:=⟨gb505,0,none⟩) (Kd.R_types HO_464003.out BK505.out (by decide)) (fun _ hk => hk.2) (.int .i64 t500)) (fun _ hk => hk.2) (.slice Ao134 t501.length co134)) (fun _ h_ => h_.1))) hb);replace HO_470001:=Aside0.mk (Kd.R_below (by refine pr_ ?_;exact (Kd.R_mono (Kd.R_far (p:=⟨gb505,1,none⟩) (Kd.R_far (p:=⟨gb505,0,none⟩) (Kd.R_types HO_470001.out BK505.out (by decide)) (fun _ hk => hk.2) (.int .i64 t500)) (fun _ hk => hk.2) (.slice Ao134 t501.length co134)) (fun _ h_ => h_.1))) hb);replace HO493:=Aside0.mk (Kd.R_below (by refine pr_ ?_;exact (Kd.R_mono (Kd.R_far (p:=⟨gb505,1,none⟩) (Kd.R_far (p:=⟨gb505,0,none⟩) (Kd.R_types HO493.out BK505.out (by decide)) (fun _ hk => hk.2) (.int .i64 t500)) (fun _ hk => hk.2) (.slice Ao134 t501.length co134)) (fun _ h_ => h_.1))) hb);replace HO496:=Aside0.mk (Kd.R_below (by refine pr_ ?_;exact (Kd.R_mono (Kd.R_far (p:=⟨gb505,1,none⟩) (Kd.R_far (p:=⟨gb505,0,none⟩) (Kd.R_types HO496.out BK505.out (by decide)) (fun _ hk => hk.2) (.int .i64 t500)) (fun _ hk => hk.2) (.slice Ao134 t501.length co134)) (fun _ h_ => h_.1))) hb);replace HO499:=Aside0.mk (Kd.R_below (by refine pr_ ?_;exact (Kd.R_mono (Kd.R_far (p:=⟨gb505,1,none⟩) (Kd.R_far (p:=⟨gb505,0,none⟩) (Kd.R_types HO499.out BK505.out (by decide)) (fun _ hk => hk.2) (.int .i64 t500)) (fun _ hk => hk.2) (.slice Ao134 t501.length co134)) (fun _ h_ => h_.1))) hb);replace HO503:=Aside0.mk (Kd.R_below (by refine pr_ ?_;exact (Kd.R_mono (Kd.R_far (p:=⟨gb505,1,none⟩) (Kd.R_far (p:=⟨gb505,0,none⟩) (Kd.R_types HO503.out BK505.out (by decide)) (fun _ hk => hk.2) (.int .i64 t500)) (fun _ hk => hk.2) (.slice Ao134 t501.length co134)) (fun _ h_ => h_.1))) hb);replace BK435:=Aside0.mk (blk_below (g:=gb435) (o:=.cells #[.int .i64 a0_0,.slice A0_1 l0_1.length c0_1,.slice A0_2 l0_2.length c0_2,.slice A0_3 l0_3.length c0_3] 25 (0,0)) (by refine pe_ ?_;refine blk_far ?_ NB435_505.out _;refine pe_ ?_;refine blk_far ?_ NB435_505.out _;refine pe_ ?_;exact BK435.out) hb);replace BK452:=Aside0.mk (blk_below (g:=gb452) (o:=.cells #[.int .i64 t447,.slice Ao27 t448.length co27] 35 (0,0)) (by refine pe_ ?_;refine blk_far ?_ NB452_505.out _;refine pe_ ?_;refine blk_far ?_ NB452_505.out _;refine pe_ ?_;exact BK452.out) hb);replace BK463:=Aside0.mk (blk_below (g:=gb463) (o:=.cells #[.int .i64 t453,.slice Ao34 t483.length co34,.slice Ao35 t484.length co35,.slice Ao36 t485.length co36] 33 (0,0)) (by refine pe_ ?_;refine blk_far ?_ NB463_505.out _;refine pe_ ?_;refine blk_far ?_ NB463_505.out _;refine pe_ ?_;exact BK463.out) hb);replace BK469:=Aside0.mk (blk_below (g:=gb469) (o:=.cells #[.int .i64 t464,.slice Ao43 t465.length co43] 35 (0,0)) (by refine pe_ ?_;refine blk_far ?_ NB469_505.out _;refine pe_ ?_;refine blk_far ?_ NB469_505.out _;refine pe_ ?_;exact BK469.out) hb);replace BK505:=Aside0.mk (blk_below (g:=gb505) (o:=.cells #[.int .i64 t500,.slice Ao134 t501.length co134] 35 (0,0)) (by refine pe_ ?_;refine blk_put (cs:=#[.int .i64 t500,.slice none 0 0]) ?_ 1 _ rfl;refine pe_ ?_;refine blk_put (cs:=#[.int .i64 0,.slice none 0 0]) ?_ 0 _ rfl;refine pe_ ?_;exact BK505.out) hb);replace HB:=Aside0.mk (below_step (be5_ HB.out GE435.out GE452.out GE463.out GE469.out GE505.out) hb);(try clear hb);(try clear hb2);(try clear hk);(try clear hi)))
              go_meet
              case rel => exact ⟨_,((t504 != t451)),rs_,H',⟨by have:=HJ13.out;have:=HJ66.out;first|omega|exact Nat.le_refl _⟩,⟨by (try simp only [hl464001_66]);(try simp only [hl464002_66]);(try simp only [hl464003_66]);refine pr_ ?_;exact Kd.R_mono HO_453001.out (fun _ hk => ⟨hk.1.1.1.1,⟨hk.1.1.1.2.1,⟨hk.1.1.1.2.2,hk.2⟩⟩⟩)⟩,⟨by (try simp only [hl464001_66]);(try simp only [hl464002_66]);(try simp only [hl464003_66]);refine pr_ ?_;exact Kd.R_mono HO_464001.out (fun _ hk => ⟨hk.1.1.1.1,⟨hk.1.1.1.2.1,⟨hk.1.1.1.2.2,hk.2⟩⟩⟩)⟩,⟨by (try simp only [hl464001_66]);(try simp only [hl464002_66]);(try simp only [hl464003_66]);refine pr_ ?_;exact Kd.R_mono HO_464002.out (fun _ hk => ⟨hk.1.1.1.1,⟨hk.1.1.1.2.1,⟨hk.1.1.1.2.2,hk.2⟩⟩⟩)⟩,⟨by (try simp only [hl464001_66]);(try simp only [hl464002_66]);(try simp only [hl464003_66]);refine pr_ ?_;exact Kd.R_mono HO_464003.out (fun _ hk => trivial)⟩,⟨by (try simp only [hl464001_66]);(try simp only [hl464002_66]);(try simp only [hl464003_66]);refine pr_ ?_;exact Kd.R_mono HO_470001.out (fun _ hk => ⟨hk.1.1.1.1,⟨hk.1.1.1.2.1,⟨hk.1.1.1.2.2,hk.2⟩⟩⟩)⟩,⟨by (try simp only [hl464001_66]);(try simp only [hl464002_66]);(try simp only [hl464003_66]);refine pr_ ?_;exact Kd.R_mono HO503.out (fun _ hk => ⟨hk.1.1.1.1.1.2,⟨hk.1.1.1.1.2,⟨hk.1.1.1.2,hk.1.1.2⟩⟩⟩)⟩,⟨by (try simp only [hl464001_66]);(try simp only [hl464002_66]);(try simp only [hl464003_66]);refine pe_ ?_;exact BK435.out⟩,⟨by (try simp only [hl464001_66]);(try simp only [hl464002_66]);(try simp only [hl464003_66]);refine pe_ ?_;exact BK452.out⟩,⟨by (try simp only [hl464001_66]);(try simp only [hl464002_66]);(try simp only [hl464003_66]);refine pe_ ?_;exact BK463.out⟩,⟨by (try simp only [hl464001_66]);(try simp only [hl464002_66]);(try simp only [hl464003_66]);refine pe_ ?_;exact BK469.out⟩,⟨by (try simp only [hl464001_66]);(try simp only [hl464002_66]);(try simp only [hl464003_66]);refine pe_ ?_;exact BK505.out⟩,⟨be5_ HB.out GE435.out GE452.out GE463.out GE469.out GE505.out⟩⟩
             ·replace c136:=Bool.eq_false_iff.mpr c136
              subst c136
              have H1 : (laws_FnExactWordMatrix.j2 kj66 t487 true t464 t488) = some r:=by rw [if_neg (show ¬ (false = true) by decide)] at H;exact H
              clear H
              have H:=H1
              clear H1
              have H':=Aside0.mk H
              clear H
              have hnb147:=NB505_435.out
              have hnc147:=NB435_505.out
              have hnb148:=NB505_452.out
              have hnc148:=NB452_505.out
              have hnb149:=NB505_463.out
              have hnc149:=NB463_505.out
              have hnb150:=NB505_469.out
              have hnc150:=NB469_505.out
              obtain ⟨hcz151_0,hcz151_1,hfz151_0,hfz151_1⟩:=cf2_ BK505.out
              have hnb152:=NB452_435.out
              have hnc152:=NB435_452.out
              have hnb153:=NB452_463.out
              have hnc153:=NB463_452.out
              have hnb154:=NB452_469.out
              have hnc154:=NB469_452.out
              obtain ⟨hcz155_0,hcz155_1,hfz155_0,hfz155_1⟩:=cf2_ BK452.out
              go_wp2_with (first|((with_reducible refine gate_callee (f:=21) rfl ?_);refine goesL_ (some 89) rfl rfl Try.func21 (by kernel_rfl) rfl #[.agg #[.int .i64 t500,.slice Ao134 t501.length co134],.agg #[.int .i64 t447,.slice Ao27 t448.length co27]] rfl lp_ ?_;(with_reducible refine (laws_eqMatrix.calls kj66 t500 _ _ t501 t447 _ _ t448 false _ ?side1 ?side2 ?side3 ?side4 A135.out).mono ?_);(case side1 => refine (Kd.R_reads' (e:=3) (base:=w.heap.size) (ok:=fun k_ => ((((((True ∧ some k_ ≠ (.slice Ao27 t448.length co27 : Value).ownBlock) ∧ some k_ ≠ (.slice Ao34 t483.length co34 : Value).ownBlock) ∧ some k_ ≠ (.slice Ao35 t484.length co35 : Value).ownBlock) ∧ some k_ ≠ (.slice Ao43 t465.length co43 : Value).ownBlock) ∧ some k_ ≠ (.slice Ao124 t491.length co124 : Value).ownBlock) ∧ some k_ ≠ (.slice Ao125 t494.length co125 : Value).ownBlock)) (n:=t501.length) (c:=co134) ?_).2.2;exact (by refine pr_ ?_;exact (Kd.R_mono (Kd.R_far (p:=⟨gb505,1,none⟩) (Kd.R_far (p:=⟨gb505,0,none⟩) (Kd.R_types HO503.out BK505.out (by decide)) (fun _ hk => hk.2) (.int .i64 t500)) (fun _ hk => hk.2) (.slice Ao134 t501.length co134)) (fun _ h_ => h_.1))));(case side2 => exact (Kd.R_reads' HO503.out).2.1);(case side3 => refine (Kd.R_reads' (e:=3) (base:=w.heap.size) (ok:=fun k_ => ((((some k_ ≠ (.slice Ao34 t483.length co34 : Value).ownBlock ∧ (some k_ ≠ (.slice Ao35 t484.length co35 : Value).ownBlock ∧ some k_ ≠ (.slice Ao43 t465.length co43 : Value).ownBlock)) ∧ some k_ ≠ (.slice Ao124 t491.length co124 : Value).ownBlock) ∧ some k_ ≠ (.slice Ao125 t494.length co125 : Value).ownBlock) ∧ some k_ ≠ (.slice Ao134 t501.length co134 : Value).ownBlock)) (n:=t448.length) (c:=co27) ?_).2.2;exact (by refine pr_ ?_;exact (Kd.R_mono (Kd.R_far (p:=⟨gb505,1,none⟩) (Kd.R_far (p:=⟨gb505,0,none⟩) (Kd.R_types HO_453001.out BK505.out (by decide)) (fun _ hk => hk.2) (.int .i64 t500)) (fun _ hk => hk.2) (.slice Ao134 t501.length co134)) (fun _ h_ => h_.1))));(case side4 => exact (Kd.R_reads' HO_453001.out).2.1);rintro e w156 ⟨rfl,hb⟩;refine ⟨_,rfl,?_⟩;replace HO_453001:=Aside0.mk (Kd.R_below (by refine pr_ ?_;exact (Kd.R_mono (Kd.R_far (p:=⟨gb505,1,none⟩) (Kd.R_far (p:=⟨gb505,0,none⟩) (Kd.R_types HO_453001.out BK505.out (by decide)) (fun _ hk => hk.2) (.int .i64 t500)) (fun _ hk => hk.2) (.slice Ao134 t501.length co134)) (fun _ h_ => h_.1))) hb);replace HO_464001:=Aside0.mk (Kd.R_below (by refine pr_ ?_;exact (Kd.R_mono (Kd.R_far (p:=⟨gb505,1,none⟩) (Kd.R_far (p:=⟨gb505,0,none⟩) (Kd.R_types HO_464001.out BK505.out (by decide)) (fun _ hk => hk.2) (.int .i64 t500)) (fun _ hk => hk.2) (.slice Ao134 t501.length co134)) (fun _ h_ => h_.1))) hb);replace HO_464002:=Aside0.mk (Kd.R_below (by refine pr_ ?_;exact (Kd.R_mono (Kd.R_far (p:=⟨gb505,1,none⟩) (Kd.R_far (p:=⟨gb505,0,none⟩) (Kd.R_types HO_464002.out BK505.out (by decide)) (fun _ hk => hk.2) (.int .i64 t500)) (fun _ hk => hk.2) (.slice Ao134 t501.length co134)) (fun _ h_ => h_.1))) hb);replace HO_464003:=Aside0.mk (Kd.R_below (by refine pr_ ?_;exact (Kd.R_mono (Kd.R_far (p:=⟨gb505,1,none⟩) (Kd.R_far (p:=⟨gb505,0,none⟩) (Kd.R_types HO_464003.out BK505.out (by decide)) (fun _ hk => hk.2) (.int .i64 t500)) (fun _ hk => hk.2) (.slice Ao134 t501.length co134)) (fun _ h_ => h_.1))) hb);replace HO_470001:=Aside0.mk (Kd.R_below (by refine pr_ ?_;exact (Kd.R_mono (Kd.R_far (p:=⟨gb505,1,none⟩) (Kd.R_far (p:=⟨gb505,0,none⟩) (Kd.R_types HO_470001.out BK505.out (by decide)) (fun _ hk => hk.2) (.int .i64 t500)) (fun _ hk => hk.2) (.slice Ao134 t501.length co134)) (fun _ h_ => h_.1))) hb);replace HO493:=Aside0.mk (Kd.R_below (by refine pr_ ?_;exact (Kd.R_mono (Kd.R_far (p:=⟨gb505,1,none⟩) (Kd.R_far (p:=⟨gb505,0,none⟩) (Kd.R_types HO493.out BK505.out (by decide)) (fun _ hk => hk.2) (.int .i64 t500)) (fun _ hk => hk.2) (.slice Ao134 t501.length co134)) (fun _ h_ => h_.1))) hb);replace HO496:=Aside0.mk (Kd.R_below (by refine pr_ ?_;exact (Kd.R_mono (Kd.R_far (p:=⟨gb505,1,none⟩) (Kd.R_far (p:=⟨gb505,0,none⟩) (Kd.R_types HO496.out BK505.out (by decide)) (fun _ hk => hk.2) (.int .i64 t500)) (fun _ hk => hk.2) (.slice Ao134 t501.length co134)) (fun _ h_ => h_.1))) hb);replace HO499:=Aside0.mk (Kd.R_below (by refine pr_ ?_;exact (Kd.R_mono (Kd.R_far (p:=⟨gb505,1,none⟩) (Kd.R_far (p:=⟨gb505,0,none⟩) (Kd.R_types HO499.out BK505.out (by decide)) (fun _ hk => hk.2) (.int .i64 t500)) (fun _ hk => hk.2) (.slice Ao134 t501.length co134)) (fun _ h_ => h_.1))) hb);replace HO503:=Aside0.mk (Kd.R_below (by refine pr_ ?_;exact (Kd.R_mono (Kd.R_far (p:=⟨gb505,1,none⟩) (Kd.R_far (p:=⟨gb505,0,none⟩) (Kd.R_types HO503.out BK505.out (by decide)) (fun _ hk => hk.2) (.int .i64 t500)) (fun _ hk => hk.2) (.slice Ao134 t501.length co134)) (fun _ h_ => h_.1))) hb);replace BK435:=Aside0.mk (blk_below (g:=gb435) (o:=.cells #[.int .i64 a0_0,.slice A0_1 l0_1.length c0_1,.slice A0_2 l0_2.length c0_2,.slice A0_3 l0_3.length c0_3] 25 (0,0)) (by refine pe_ ?_;refine blk_far ?_ NB435_505.out _;refine pe_ ?_;refine blk_far ?_ NB435_505.out _;refine pe_ ?_;exact BK435.out) hb);replace BK452:=Aside0.mk (blk_below (g:=gb452) (o:=.cells #[.int .i64 t447,.slice Ao27 t448.length co27] 35 (0,0)) (by refine pe_ ?_;refine blk_far ?_ NB452_505.out _;refine pe_ ?_;refine blk_far ?_ NB452_505.out _;refine pe_ ?_;exact BK452.out) hb);replace BK463:=Aside0.mk (blk_below (g:=gb463) (o:=.cells #[.int .i64 t453,.slice Ao34 t483.length co34,.slice Ao35 t484.length co35,.slice Ao36 t485.length co36] 33 (0,0)) (by refine pe_ ?_;refine blk_far ?_ NB463_505.out _;refine pe_ ?_;refine blk_far ?_ NB463_505.out _;refine pe_ ?_;exact BK463.out) hb);replace BK469:=Aside0.mk (blk_below (g:=gb469) (o:=.cells #[.int .i64 t464,.slice Ao43 t465.length co43] 35 (0,0)) (by refine pe_ ?_;refine blk_far ?_ NB469_505.out _;refine pe_ ?_;refine blk_far ?_ NB469_505.out _;refine pe_ ?_;exact BK469.out) hb);replace BK505:=Aside0.mk (blk_below (g:=gb505) (o:=.cells #[.int .i64 t500,.slice Ao134 t501.length co134] 35 (0,0)) (by refine pe_ ?_;refine blk_put (cs:=#[.int .i64 t500,.slice none 0 0]) ?_ 1 _ rfl;refine pe_ ?_;refine blk_put (cs:=#[.int .i64 0,.slice none 0 0]) ?_ 0 _ rfl;refine pe_ ?_;exact BK505.out) hb);replace HB:=Aside0.mk (below_step (be5_ HB.out GE435.out GE452.out GE463.out GE469.out GE505.out) hb);(try clear hb);(try clear hb2);(try clear hk);(try clear hi)))
              go_meet
              case rel => exact ⟨_,(true),rs_,H',⟨by have:=HJ13.out;have:=HJ66.out;first|omega|exact Nat.le_refl _⟩,⟨by (try simp only [hl464001_66]);(try simp only [hl464002_66]);(try simp only [hl464003_66]);refine pr_ ?_;exact Kd.R_mono HO_453001.out (fun _ hk => ⟨hk.1.1.1.1,⟨hk.1.1.1.2.1,⟨hk.1.1.1.2.2,hk.2⟩⟩⟩)⟩,⟨by (try simp only [hl464001_66]);(try simp only [hl464002_66]);(try simp only [hl464003_66]);refine pr_ ?_;exact Kd.R_mono HO_464001.out (fun _ hk => ⟨hk.1.1.1.1,⟨hk.1.1.1.2.1,⟨hk.1.1.1.2.2,hk.2⟩⟩⟩)⟩,⟨by (try simp only [hl464001_66]);(try simp only [hl464002_66]);(try simp only [hl464003_66]);refine pr_ ?_;exact Kd.R_mono HO_464002.out (fun _ hk => ⟨hk.1.1.1.1,⟨hk.1.1.1.2.1,⟨hk.1.1.1.2.2,hk.2⟩⟩⟩)⟩,⟨by (try simp only [hl464001_66]);(try simp only [hl464002_66]);(try simp only [hl464003_66]);refine pr_ ?_;exact Kd.R_mono HO_464003.out (fun _ hk => trivial)⟩,⟨by (try simp only [hl464001_66]);(try simp only [hl464002_66]);(try simp only [hl464003_66]);refine pr_ ?_;exact Kd.R_mono HO_470001.out (fun _ hk => ⟨hk.1.1.1.1,⟨hk.1.1.1.2.1,⟨hk.1.1.1.2.2,hk.2⟩⟩⟩)⟩,⟨by (try simp only [hl464001_66]);(try simp only [hl464002_66]);(try simp only [hl464003_66]);refine pr_ ?_;exact Kd.R_mono HO503.out (fun _ hk => ⟨hk.1.1.1.1.1.2,⟨hk.1.1.1.1.2,⟨hk.1.1.1.2,hk.1.1.2⟩⟩⟩)⟩,⟨by (try simp only [hl464001_66]);(try simp only [hl464002_66]);(try simp only [hl464003_66]);refine pe_ ?_;exact BK435.out⟩,⟨by (try simp only [hl464001_66]);(try simp only [hl464002_66]);(try simp only [hl464003_66]);refine pe_ ?_;exact BK452.out⟩,⟨by (try simp only [hl464001_66]);(try simp only [hl464002_66]);(try simp only [hl464003_66]);refine pe_ ?_;exact BK463.out⟩,⟨by (try simp only [hl464001_66]);(try simp only [hl464002_66]);(try simp only [hl464003_66]);refine pe_ ?_;exact BK469.out⟩,⟨by (try simp only [hl464001_66]);(try simp only [hl464002_66]);(try simp only [hl464003_66]);refine pe_ ?_;exact BK505.out⟩,⟨be5_ HB.out GE435.out GE452.out GE463.out GE469.out GE505.out⟩⟩
            case rest =>
             clear HC112
             try clear c1
             try clear c2
             try clear p2
             try clear c3
             try clear c3b0
             try clear c3b1
             try clear c4
             try clear c5
             try clear c6
             try clear c6b0
             try clear c7
             try clear c8
             try clear c9
             try clear c10
             try clear c11
             try clear c12
             try clear c13
             try clear c14
             try clear c15
             try clear c17
             try clear c20
             try clear c21
             try clear c22
             try clear c23
             try clear c24
             try clear c25
             try clear c26
             try clear c31
             try clear c32
             try clear c39
             try clear c40
             try clear c41
             try clear c45
             try clear c46
             try clear c47
             try clear c48
             try clear c50
             try clear c51
             try clear c54
             try clear c55
             try clear c56
             try clear c58
             try clear c59
             try clear c62
             try clear c65
             try clear c74
             try clear c75
             try clear c76
             try clear c79
             try clear c79b0
             try clear c81
             try clear c82
             try clear c83
             try clear c84
             try clear c86
             try clear c87
             try clear c90
             try clear c91
             try clear c92
             try clear c94
             try clear c95
             try clear c98
             try clear c101
             try clear c101b0
             try clear c102
             try clear c103
             try clear c104
             try clear c109
             try clear c109b0
             try clear c109b1
             try clear c113
             try clear c114
             try clear c115
             try clear c120
             try clear c121
             try clear c129
             try clear c130
             try clear c131
             try clear c132
             try clear c136
             try clear c137
             try clear c138
             try clear c139
             try clear c140
             try clear c142
             try clear c143
             try clear c144
             try clear c147
             try clear c148
             try clear c149
             try clear c150
             try clear c152
             try clear c153
             try clear c154
             try clear hcz105_0
             try clear hcz105_1
             try clear hcz107_0
             try clear hcz107_1
             try clear hcz116_0
             try clear hcz116_1
             try clear hcz118_0
             try clear hcz118_1
             try clear hcz122_0
             try clear hcz122_1
             try clear hcz122_2
             try clear hcz122_3
             try clear hcz133_0
             try clear hcz133_1
             try clear hcz141_0
             try clear hcz141_1
             try clear hcz145_0
             try clear hcz145_1
             try clear hcz151_0
             try clear hcz151_1
             try clear hcz155_0
             try clear hcz155_1
             try clear hcz16_0
             try clear hcz16_1
             try clear hcz16_2
             try clear hcz16_3
             try clear hcz18_0
             try clear hcz18_1
             try clear hcz18_2
             try clear hcz18_3
             try clear hcz26_0
             try clear hcz26_1
             try clear hcz28_0
             try clear hcz28_1
             try clear hcz28_2
             try clear hcz28_3
             try clear hcz33_0
             try clear hcz33_1
             try clear hcz33_2
             try clear hcz33_3
             try clear hcz42_0
             try clear hcz42_1
             try clear hcz49_0
             try clear hcz49_1
             try clear hcz52_0
             try clear hcz52_1
             try clear hcz57_0
             try clear hcz57_1
             try clear hcz60_0
             try clear hcz60_1
             try clear hcz77_0
             try clear hcz77_1
             try clear hcz77_2
             try clear hcz77_3
             try clear hcz85_0
             try clear hcz85_1
             try clear hcz88_0
             try clear hcz88_1
             try clear hcz8_0
             try clear hcz8_1
             try clear hcz8_2
             try clear hcz8_3
             try clear hcz93_0
             try clear hcz93_1
             try clear hcz96_0
             try clear hcz96_1
             try clear hfz105_0
             try clear hfz105_1
             try clear hfz107_0
             try clear hfz107_1
             try clear hfz116_0
             try clear hfz116_1
             try clear hfz118_0
             try clear hfz118_1
             try clear hfz122_0
             try clear hfz122_1
             try clear hfz122_2
             try clear hfz122_3
             try clear hfz133_0
             try clear hfz133_1
             try clear hfz141_0
             try clear hfz141_1
             try clear hfz145_0
             try clear hfz145_1
             try clear hfz151_0
             try clear hfz151_1
             try clear hfz155_0
             try clear hfz155_1
             try clear hfz16_0
             try clear hfz16_1
             try clear hfz16_2
             try clear hfz16_3
             try clear hfz18_0
             try clear hfz18_1
             try clear hfz18_2
             try clear hfz18_3
             try clear hfz26_0
             try clear hfz26_1
             try clear hfz28_0
             try clear hfz28_1
             try clear hfz28_2
             try clear hfz28_3
             try clear hfz33_0
             try clear hfz33_1
             try clear hfz33_2
             try clear hfz33_3
             try clear hfz42_0
             try clear hfz42_1
             try clear hfz49_0
             try clear hfz49_1
             try clear hfz52_0
             try clear hfz52_1
             try clear hfz57_0
             try clear hfz57_1
             try clear hfz60_0
             try clear hfz60_1
             try clear hfz77_0
             try clear hfz77_1
             try clear hfz77_2
             try clear hfz77_3
             try clear hfz85_0
             try clear hfz85_1
             try clear hfz88_0
             try clear hfz88_1
             try clear hfz8_0
             try clear hfz8_1
             try clear hfz8_2
             try clear hfz8_3
             try clear hfz93_0
             try clear hfz93_1
             try clear hfz96_0
             try clear hfz96_1
             try clear p2
             obtain ⟨kq,x95_111,rfl,HA,HJ111,HO_453001,HO_464001,HO_464002,HO_464003,HO_470001,HO_506001,BK435,BK452,BK463,BK469,BK505,HB⟩:=hcut
             have hl470001_111:=(Kd.R_reads' HO_470001.out).1
             rw [hl470001_111] at HO_470001
             (try simp only [hl470001_111])
             (try simp only [hl470001_111] at BK435)
             (try simp only [hl470001_111] at BK452)
             (try simp only [hl470001_111] at BK463)
             (try simp only [hl470001_111] at BK469)
             (try simp only [hl470001_111] at BK505)
             (try simp only [hl470001_111] at HO_453001)
             (try simp only [hl470001_111] at HO_464001)
             (try simp only [hl470001_111] at HO_464002)
             (try simp only [hl470001_111] at HO_464003)
             (try simp only [hl470001_111] at HO_506001)
             cases kq with
             | zero => exact absurd HA.out (by simp [laws_FnExactWordMatrix.j2])
             | succ kj111 =>
              have H:=HA.out
              clear HA
              simp only [laws_FnExactWordMatrix.j2] at H
              by_cases c157 : x95_111 = true
              ·subst c157
               have H1 : (some false) = some r:=by rw [if_pos rfl] at H;exact H
               clear H
               have H:=H1
               clear H1
               obtain rfl:=Option.some.inj H
               go_wp2
               go_ret
               exact ⟨er_,be5_ HB.out GE435.out GE452.out GE463.out GE469.out GE505.out⟩
              ·replace c157:=Bool.eq_false_iff.mpr c157
               subst c157
               have H1 : ((laws_heldMatrix.f kj111 t464 t488 1).bind fun t507 => (if t507 < 0 then (some false) else (if t507 = t487 then (some true) else (some false)))) = some r:=by rw [if_neg (show ¬ (false = true) by decide)] at H;exact H
               clear H
               have H:=H1
               clear H1
               replace H:=Option.bind_eq_some_iff.mp H
               obtain ⟨t507,A1580,H⟩:=H
               replace H : (if t507 < 0 then (some false) else (if t507 = t487 then (some true) else (some false))) = some r:=H
               have A158:=Aside0.mk A1580
               clear A1580
               by_cases c159 : t507 < 0
               ·rw [if_pos c159] at H
                have c159b0 : decide (t507 < 0) = true:=decide_eq_true c159
                clear c159
                obtain rfl:=Option.some.inj H
                have hnb160:=NB469_435.out
                have hnc160:=NB435_469.out
                have hnb161:=NB469_452.out
                have hnc161:=NB452_469.out
                have hnb162:=NB469_463.out
                have hnc162:=NB463_469.out
                have hnb163:=NB469_505.out
                have hnc163:=NB505_469.out
                obtain ⟨hcz164_0,hcz164_1,hfz164_0,hfz164_1⟩:=cf2_ BK469.out
                go_wp2_with (first|((with_reducible refine gate_callee (f:=26) rfl ?_);refine goesL_ (some 98) rfl rfl Try.func26 (by kernel_rfl) rfl #[.agg #[.int .i64 t464,.slice Ao43 t488.length co43],.int .i64 1] rfl lp_ ?_;(with_reducible refine (laws_heldMatrix.calls kj111 t464 _ _ t488 1 t507 _ ?side1 ?side2 A158.out).mono ?_);(case side1 => exact cr_ (Kd.R_reads' HO_470001.out).2.2);(case side2 => exact (Kd.R_reads' HO_470001.out).2.1);rintro e w165 ⟨rfl,hb⟩;refine ⟨_,rfl,?_⟩;replace HO_453001:=Aside0.mk (Kd.R_below (pr_ HO_453001.out) hb);replace HO_464001:=Aside0.mk (Kd.R_below (pr_ HO_464001.out) hb);replace HO_464002:=Aside0.mk (Kd.R_below (pr_ HO_464002.out) hb);replace HO_464003:=Aside0.mk (Kd.R_below (pr_ HO_464003.out) hb);replace HO_470001:=Aside0.mk (Kd.R_below (pr_ HO_470001.out) hb);replace HO_506001:=Aside0.mk (Kd.R_below (pr_ HO_506001.out) hb);replace BK435:=Aside0.mk (kb_ BK435.out hb);replace BK452:=Aside0.mk (kb_ BK452.out hb);replace BK463:=Aside0.mk (kb_ BK463.out hb);replace BK469:=Aside0.mk (kb_ BK469.out hb);replace BK505:=Aside0.mk (kb_ BK505.out hb);replace HB:=Aside0.mk (below_step (be5_ HB.out GE435.out GE452.out GE463.out GE469.out GE505.out) hb);(try clear hb);(try clear hb2);(try clear hk);(try clear hi)))
                go_ret
                exact ⟨er_,be5_ HB.out GE435.out GE452.out GE463.out GE469.out GE505.out⟩
               ·rw [if_neg c159] at H
                have c159b0 : decide (t507 < 0) = false:=decide_eq_false c159
                clear c159
                by_cases c166 : t507 = t487
                ·rw [if_pos c166] at H
                 have c166b0 : (t507 == t487) = true:=beq_iff_eq.mpr c166
                 have c166b1 : (t507 != t487) = false:=bne_eq_false_iff_eq.mpr c166
                 clear c166
                 obtain rfl:=Option.some.inj H
                 have hnb167:=NB469_435.out
                 have hnc167:=NB435_469.out
                 have hnb168:=NB469_452.out
                 have hnc168:=NB452_469.out
                 have hnb169:=NB469_463.out
                 have hnc169:=NB463_469.out
                 have hnb170:=NB469_505.out
                 have hnc170:=NB505_469.out
                 obtain ⟨hcz171_0,hcz171_1,hfz171_0,hfz171_1⟩:=cf2_ BK469.out
                 go_wp2_with (first|((with_reducible refine gate_callee (f:=26) rfl ?_);refine goesL_ (some 98) rfl rfl Try.func26 (by kernel_rfl) rfl #[.agg #[.int .i64 t464,.slice Ao43 t488.length co43],.int .i64 1] rfl lp_ ?_;(with_reducible refine (laws_heldMatrix.calls kj111 t464 _ _ t488 1 t507 _ ?side1 ?side2 A158.out).mono ?_);(case side1 => exact cr_ (Kd.R_reads' HO_470001.out).2.2);(case side2 => exact (Kd.R_reads' HO_470001.out).2.1);rintro e w172 ⟨rfl,hb⟩;refine ⟨_,rfl,?_⟩;replace HO_453001:=Aside0.mk (Kd.R_below (pr_ HO_453001.out) hb);replace HO_464001:=Aside0.mk (Kd.R_below (pr_ HO_464001.out) hb);replace HO_464002:=Aside0.mk (Kd.R_below (pr_ HO_464002.out) hb);replace HO_464003:=Aside0.mk (Kd.R_below (pr_ HO_464003.out) hb);replace HO_470001:=Aside0.mk (Kd.R_below (pr_ HO_470001.out) hb);replace HO_506001:=Aside0.mk (Kd.R_below (pr_ HO_506001.out) hb);replace BK435:=Aside0.mk (kb_ BK435.out hb);replace BK452:=Aside0.mk (kb_ BK452.out hb);replace BK463:=Aside0.mk (kb_ BK463.out hb);replace BK469:=Aside0.mk (kb_ BK469.out hb);replace BK505:=Aside0.mk (kb_ BK505.out hb);replace HB:=Aside0.mk (below_step (be5_ HB.out GE435.out GE452.out GE463.out GE469.out GE505.out) hb);(try clear hb);(try clear hb2);(try clear hk);(try clear hi)))
                 go_ret
                 exact ⟨er_,be5_ HB.out GE435.out GE452.out GE463.out GE469.out GE505.out⟩
                ·rw [if_neg c166] at H
                 have c166b0 : (t507 == t487) = false:=beq_eq_false_iff_ne.mpr c166
                 have c166b1 : (t507 != t487) = true:=bne_iff_ne.mpr c166
                 obtain rfl:=Option.some.inj H
                 have hnb173:=NB469_435.out
                 have hnc173:=NB435_469.out
                 have hnb174:=NB469_452.out
                 have hnc174:=NB452_469.out
                 have hnb175:=NB469_463.out
                 have hnc175:=NB463_469.out
                 have hnb176:=NB469_505.out
                 have hnc176:=NB505_469.out
                 obtain ⟨hcz177_0,hcz177_1,hfz177_0,hfz177_1⟩:=cf2_ BK469.out
                 go_wp2_with (first|((with_reducible refine gate_callee (f:=26) rfl ?_);refine goesL_ (some 98) rfl rfl Try.func26 (by kernel_rfl) rfl #[.agg #[.int .i64 t464,.slice Ao43 t488.length co43],.int .i64 1] rfl lp_ ?_;(with_reducible refine (laws_heldMatrix.calls kj111 t464 _ _ t488 1 t507 _ ?side1 ?side2 A158.out).mono ?_);(case side1 => exact cr_ (Kd.R_reads' HO_470001.out).2.2);(case side2 => exact (Kd.R_reads' HO_470001.out).2.1);rintro e w178 ⟨rfl,hb⟩;refine ⟨_,rfl,?_⟩;replace HO_453001:=Aside0.mk (Kd.R_below (pr_ HO_453001.out) hb);replace HO_464001:=Aside0.mk (Kd.R_below (pr_ HO_464001.out) hb);replace HO_464002:=Aside0.mk (Kd.R_below (pr_ HO_464002.out) hb);replace HO_464003:=Aside0.mk (Kd.R_below (pr_ HO_464003.out) hb);replace HO_470001:=Aside0.mk (Kd.R_below (pr_ HO_470001.out) hb);replace HO_506001:=Aside0.mk (Kd.R_below (pr_ HO_506001.out) hb);replace BK435:=Aside0.mk (kb_ BK435.out hb);replace BK452:=Aside0.mk (kb_ BK452.out hb);replace BK463:=Aside0.mk (kb_ BK463.out hb);replace BK469:=Aside0.mk (kb_ BK469.out hb);replace BK505:=Aside0.mk (kb_ BK505.out hb);replace HB:=Aside0.mk (below_step (be5_ HB.out GE435.out GE452.out GE463.out GE469.out GE505.out) hb);(try clear hb);(try clear hb2);(try clear hk);(try clear hi)))
                 go_ret
                 exact ⟨er_,be5_ HB.out GE435.out GE452.out GE463.out GE469.out GE505.out⟩
           ·rw [if_neg c109] at H
            have c109b0 : (t489 == t487) = false:=beq_eq_false_iff_ne.mpr c109
            have c109b1 : (t489 != t487) = true:=bne_iff_ne.mpr c109
            obtain rfl:=Option.some.inj H
            have hnb179:=NB469_435.out
            have hnc179:=NB435_469.out
            have hnb180:=NB469_452.out
            have hnc180:=NB452_469.out
            have hnb181:=NB469_463.out
            have hnc181:=NB463_469.out
            obtain ⟨hcz182_0,hcz182_1,hfz182_0,hfz182_1⟩:=cf2_ BK469.out
            go_wp2_with (first|((with_reducible refine gate_callee (f:=25) rfl ?_);refine goesL_ (some 71) rfl rfl Try.func25 (by kernel_rfl) rfl #[.agg #[.int .i64 t464,.slice Ao43 t465.length co43],.int .i64 1] rfl lp_ ?_;(with_reducible refine (laws_markMatrix.calls kj66 t464 (fun k_ => some k_ = (.slice Ao43 t465.length co43 : Value).ownBlock) (.slice Ao43 t465.length co43) t465 1 t487 t488 w _ ?side1 ?side2 A99.out).mono ?_);(case side1 => repeat (first|(with_reducible first|exact HB.out|apply below_alloc|apply pw_below_drewN|apply below_drew1|refine below_set ?_ GE435.out|refine below_set ?_ GE452.out|refine below_set ?_ GE463.out|refine below_set ?_ GE469.out)|exact HB.out));(case side2 => exact Kd.R_tight rfl HO_470001.out);rintro e w183 ⟨rfl,hy0,hb,hkp⟩;refine ⟨_,rfl,?_⟩;replace HO_453001:=Aside0.mk (Kd.R_mono (ok':=fun k_ => some k_ ≠ (.slice Ao34 t483.length co34 : Value).ownBlock ∧ some k_ ≠ (.slice Ao35 t484.length co35 : Value).ownBlock ∧ some k_ ≠ (.slice Ao43 t465.length co43 : Value).ownBlock) (Kd.R_keptB (HO_453001.out) hkp (fun k_ hk_ hs_ => (hk_.2.2) hs_)) (fun k_ hk_ => ⟨hk_.1.1,hk_.1.2.1,hk_.1.2.2⟩));replace HO_464001:=Aside0.mk (Kd.R_mono (ok':=fun k_ => some k_ ≠ (.slice Ao27 t448.length co27 : Value).ownBlock ∧ some k_ ≠ (.slice Ao35 t484.length co35 : Value).ownBlock ∧ some k_ ≠ (.slice Ao43 t465.length co43 : Value).ownBlock) (Kd.R_keptB (HO_464001.out) hkp (fun k_ hk_ hs_ => (hk_.2.2) hs_)) (fun k_ hk_ => ⟨hk_.1.1,hk_.1.2.1,hk_.1.2.2⟩));replace HO_464002:=Aside0.mk (Kd.R_mono (ok':=fun k_ => some k_ ≠ (.slice Ao27 t448.length co27 : Value).ownBlock ∧ some k_ ≠ (.slice Ao34 t483.length co34 : Value).ownBlock ∧ some k_ ≠ (.slice Ao43 t465.length co43 : Value).ownBlock) (Kd.R_keptB (HO_464002.out) hkp (fun k_ hk_ hs_ => (hk_.2.2) hs_)) (fun k_ hk_ => ⟨hk_.1.1,hk_.1.2.1,hk_.1.2.2⟩));replace HO_464003:=Aside0.mk (Kd.R_mono (ok':=fun k_ => True) (Kd.R_keptB ((Kd.R_apart' HO_464003.out (Kd.R_typed HO_470001.out) (by decide))) hkp (fun k_ hk_ hs_ => (hk_.2) hs_)) (fun k_ hk_ => trivial));replace BK435:=Aside0.mk (blk_kept (pe_ BK435.out) hkp (fun hs_ => (fun e_ => (Kd.R_ne HO_470001.out BK435.out (by decide)) e_) hs_));replace BK452:=Aside0.mk (blk_kept (pe_ BK452.out) hkp (fun hs_ => (fun e_ => (Kd.R_ne HO_470001.out BK452.out (by decide)) e_) hs_));replace BK463:=Aside0.mk (blk_kept (pe_ BK463.out) hkp (fun hs_ => (fun e_ => (Kd.R_ne HO_470001.out BK463.out (by decide)) e_) hs_));replace BK469:=Aside0.mk (blk_kept (pe_ BK469.out) hkp (fun hs_ => (fun e_ => (Kd.R_ne HO_470001.out BK469.out (by decide)) e_) hs_));replace HO_470001:=Aside0.mk (Kd.R_reok rfl hy0 (fun k_ e_ => HO_470001.out.1 k_ e_));replace HB:=Aside0.mk (hb);(try clear hb);(try clear hkp);(try clear hy0);obtain ⟨hcz184_0,hcz184_1,hfz184_0,hfz184_1⟩:=cf2_ BK469.out)|((with_reducible refine gate_callee (f:=26) rfl ?_);refine goesL_ (some 74) rfl rfl Try.func26 (by kernel_rfl) rfl #[.agg #[.int .i64 t464,.slice Ao43 t488.length co43],.int .i64 1] rfl (by (try simp only [List.map_toArray,List.map_cons,List.map_nil]);first|done|(rw [show t488.length = t465.length from (Kd.R_reads' HO_470001.out).1.symm] <;> rfl)|rfl|(simp only [List.length_drop,List.length_take];rfl)) ?_;(with_reducible refine (laws_heldMatrix.calls kj66 t464 _ _ t488 1 t489 _ ?side1 ?side2 A100.out).mono ?_);(case side1 => exact cr_ (Kd.R_reads' HO_470001.out).2.2);(case side2 => rw [show t488.length = t465.length from (Kd.R_reads' HO_470001.out).1.symm];exact (Kd.R_reads' HO_470001.out).2.1);rintro e w185 ⟨rfl,hb⟩;refine ⟨_,rfl,?_⟩;replace HO_453001:=Aside0.mk (Kd.R_below (pr_ HO_453001.out) hb);replace HO_464001:=Aside0.mk (Kd.R_below (pr_ HO_464001.out) hb);replace HO_464002:=Aside0.mk (Kd.R_below (pr_ HO_464002.out) hb);replace HO_464003:=Aside0.mk (Kd.R_below (pr_ HO_464003.out) hb);replace HO_470001:=Aside0.mk (Kd.R_below (pr_ HO_470001.out) hb);replace BK435:=Aside0.mk (kb_ BK435.out hb);replace BK452:=Aside0.mk (kb_ BK452.out hb);replace BK463:=Aside0.mk (kb_ BK463.out hb);replace BK469:=Aside0.mk (kb_ BK469.out hb);replace HB:=Aside0.mk (below_step (be4_ HB.out GE435.out GE452.out GE463.out GE469.out) hb);(try clear hb);(try clear hb2);(try clear hk);(try clear hi)))
            go_ret
            exact ⟨er_,be4_ HB.out GE435.out GE452.out GE463.out GE469.out⟩
      ·replace c65:=Bool.eq_false_iff.mpr c65
       subst c65
       have H1 : (some false) = some r:=by rw [if_neg (show ¬ (false = true) by decide)] at H;exact H
       clear H
       have H:=H1
       clear H1
       obtain rfl:=Option.some.inj H
       try go_wp2
       replace HO_453001:=Aside0.mk (Kd.R_drew HO_453001.out)
       replace HO_464001:=Aside0.mk (Kd.R_drew HO_464001.out)
       replace HO_464002:=Aside0.mk (Kd.R_drew HO_464002.out)
       replace HO_464003:=Aside0.mk (Kd.R_drew HO_464003.out)
       replace HO_470001:=Aside0.mk (Kd.R_drew HO_470001.out)
       replace BK435:=Aside0.mk (blk_drew BK435.out)
       replace BK452:=Aside0.mk (blk_drew BK452.out)
       replace BK463:=Aside0.mk (blk_drew BK463.out)
       replace BK469:=Aside0.mk (blk_drew BK469.out)
       replace HB:=Aside0.mk (below_drew1 HB.out)
       refine start_ (n:=5) (S:=fun w' => w'.cell? ⟨gb463,0,none⟩ = some (.int .i64 t453) ∧ w'.cell? ⟨gb463,1,none⟩ = some (.slice Ao34 t454.length co34) ∧ w'.cell? ⟨gb463,2,none⟩ = some (.slice Ao35 t457.length co35) ∧ w'.cell? ⟨gb463,3,none⟩ = some (.slice Ao36 t460.length co36) ∧ w'.cell? ⟨gb435,0,none⟩ = some (.int .i64 a0_0) ∧ w'.cell? ⟨gb435,1,none⟩ = some (.slice A0_1 l0_1.length c0_1) ∧ w'.cell? ⟨gb435,2,none⟩ = some (.slice A0_2 l0_2.length c0_2) ∧ w'.cell? ⟨gb435,3,none⟩ = some (.slice A0_3 l0_3.length c0_3)) (ds:=[]) #[false,false,false,false,false] (by kernel_rfl) rfl rfl ⟨(blk_cell BK463.out 0).trans rfl,(blk_cell BK463.out 1).trans rfl,(blk_cell BK463.out 2).trans rfl,(blk_cell BK463.out 3).trans rfl,(blk_cell BK435.out 0).trans rfl,(blk_cell BK435.out 1).trans rfl,(blk_cell BK435.out 2).trans rfl,(blk_cell BK435.out 3).trans rfl⟩ (fun hHeld => ?_)
       generalize wc.drew = w186 at HO_453001 HO_464001 HO_464002 HO_464003 HO_470001 BK435 BK452 BK463 BK469 HB hHeld ⊢
       refine take_ (i:=0) (N:=some 48) (v:=?_) (a':=?_) #[true,false,false,false,false] rfl rfl (by kernel_rfl) (fun _ _ _ h => h) (Or.inl ⟨by rfl,?_⟩) hHeld ?_ ?_
       rotate_left
       ·rintro w' ⟨s0,s1,s2,s3,s4,s5,s6,s7⟩
        go_simp
        with_reducible rfl
       rotate_left
       ·simp only [Act.put,List.setIfInBounds_toArray,List.set_cons_zero,List.set_cons_succ,i64_w,i32_w]
        rfl
       refine take_ (i:=1) (N:=some 49) (v:=?_) (a':=?_) #[true,true,false,false,false] rfl rfl (by kernel_rfl) (fun _ _ _ h => h) (Or.inl ⟨by rfl,?_⟩) hHeld ?_ ?_
       rotate_left
       ·rintro w' ⟨s0,s1,s2,s3,s4,s5,s6,s7⟩
        go_simp
        with_reducible rfl
       rotate_left
       ·simp only [Act.put,List.setIfInBounds_toArray,List.set_cons_zero,List.set_cons_succ,i64_w,i32_w]
        rfl
       refine one_ (i:=2) (N:=some 50) #[true,true,true,false,false] rfl rfl (by kernel_rfl) (by decide) (fun K hK => ?_)
       refine goes_ Try.func17 (by kernel_rfl) rfl #[.agg #[.int .i64 a0_0,.slice A0_1 l0_1.length c0_1,.slice A0_2 l0_2.length c0_2,.slice A0_3 l0_3.length c0_3]] (by rfl) rfl rfl lp_ ?_
       with_reducible refine (laws_toAutomaton.calls kj13 a0_0 _ _ l0_1 _ _ l0_2 _ _ l0_3 t471 t472 t475 t478 _ ?side1 ?side2 ?side3 ?side4 ?side5 ?side6 A63.out).mono ?_
       (case side1 => exact cr_ (Kd.C_below HR0_1.out HB.out))
       (case side2 => exact HC0_1.out)
       (case side3 => exact cr_ (Kd.C_below HR0_2.out HB.out))
       (case side4 => exact HC0_2.out)
       (case side5 => exact cr_ (Kd.C_below HR0_3.out HB.out))
       (case side6 => exact HC0_3.out)
       rintro e w187 ⟨v473,v476,v479,rfl,ho0,ho1,ho2,hb⟩
       refine ⟨_,rfl,?_⟩
       have HO474:=Aside0.mk (Kd.R_lower (Kd.R_new' (Kd.R_new' (Kd.R_new' (Kd.R_new' ho0 (Kd.R_lt (pr_ HO_453001.out))) (Kd.R_lt (pr_ HO_464001.out))) (Kd.R_lt (pr_ HO_464002.out))) (Kd.R_lt (pr_ HO_470001.out))) (below_size (be4_ HB.out GE435.out GE452.out GE463.out GE469.out)))
       have HO477:=Aside0.mk (Kd.R_lower (Kd.R_new' (Kd.R_new' (Kd.R_new' (Kd.R_new' ho1 (Kd.R_lt (pr_ HO_453001.out))) (Kd.R_lt (pr_ HO_464001.out))) (Kd.R_lt (pr_ HO_464002.out))) (Kd.R_lt (pr_ HO_470001.out))) (below_size (be4_ HB.out GE435.out GE452.out GE463.out GE469.out)))
       replace HO_453001:=Aside0.mk (Kd.R_mono (Kd.R_told (Kd.R_told (Kd.R_old (pr_ HO_453001.out) hb) (Kd.R_base ho0)) (Kd.R_base ho1)) (fun _ h_ => h_.1))
       replace HO_464001:=Aside0.mk (Kd.R_mono (Kd.R_told (Kd.R_told (Kd.R_old (pr_ HO_464001.out) hb) (Kd.R_base ho0)) (Kd.R_base ho1)) (fun _ h_ => h_.1))
       replace HO_464002:=Aside0.mk (Kd.R_mono (Kd.R_told (Kd.R_told (Kd.R_old (pr_ HO_464002.out) hb) (Kd.R_base ho0)) (Kd.R_base ho1)) (fun _ h_ => h_.1))
       replace HO_470001:=Aside0.mk (Kd.R_mono (Kd.R_told (Kd.R_told (Kd.R_old (pr_ HO_470001.out) hb) (Kd.R_base ho0)) (Kd.R_base ho1)) (fun _ h_ => h_.1))
       have HO480:=Aside0.mk (Kd.R_lower (Kd.R_new' ho2 (Kd.R_lt (pr_ HO_464003.out))) (below_size (be4_ HB.out GE435.out GE452.out GE463.out GE469.out)))
       replace HO_464003:=Aside0.mk (Kd.R_elder' (pr_ HO_464003.out) (Kd.R_base ho2) hb)
       replace BK435:=Aside0.mk (kb_ BK435.out hb)
       replace BK452:=Aside0.mk (kb_ BK452.out hb)
       replace BK463:=Aside0.mk (kb_ BK463.out hb)
       replace BK469:=Aside0.mk (kb_ BK469.out hb)
       replace HB:=Aside0.mk (below_step (be4_ HB.out GE435.out GE452.out GE463.out GE469.out) hb)
       (try clear hb)
       (try clear hb2)
       (try clear hk)
       (try clear hi)
       (try clear ho0)
       (try clear ho1)
       (try clear ho2)
       obtain ⟨Ao188,co188,eo188⟩:=Kd.R_slice HO474.out
       (first|subst eo188|(injection eo188 with f1_ f2_ f3_;have f4_:=f1_.symm;have f5_:=f3_.symm;clear f1_ f2_ f3_;subst f4_;subst f5_))
       obtain ⟨Ao189,co189,eo189⟩:=Kd.R_slice HO477.out
       (first|subst eo189|(injection eo189 with f1_ f2_ f3_;have f4_:=f1_.symm;have f5_:=f3_.symm;clear f1_ f2_ f3_;subst f4_;subst f5_))
       obtain ⟨Ao190,co190,eo190⟩:=Kd.R_slice HO480.out
       (first|subst eo190|(injection eo190 with f1_ f2_ f3_;have f4_:=f1_.symm;have f5_:=f3_.symm;clear f1_ f2_ f3_;subst f4_;subst f5_))
       refine hK.out _ _ ⟨(blk_cell BK463.out 0).trans rfl,(blk_cell BK463.out 1).trans rfl,(blk_cell BK463.out 2).trans rfl,(blk_cell BK463.out 3).trans rfl,(blk_cell BK435.out 0).trans rfl,(blk_cell BK435.out 1).trans rfl,(blk_cell BK435.out 2).trans rfl,(blk_cell BK435.out 3).trans rfl⟩ (fun hHeld => ?_)
       clear hK K
       refine norm_ (a':=?_) ?_ ?_
       rotate_left
       ·show Act.put _ (some 50) _ = _
        simp only [Act.put,List.setIfInBounds_toArray,List.set_cons_zero,List.set_cons_succ,i64_w,i32_w]
        rfl
       refine one_ (i:=3) (N:=some 51) #[true,true,true,true,false] rfl rfl (by kernel_rfl) (by decide) (fun K hK => ?_)
       refine goes_ Try.func20 (by kernel_rfl) rfl #[.agg #[.int .i64 t453,.slice Ao34 t454.length co34,.slice Ao35 t457.length co35,.slice Ao36 t460.length co36],.agg #[.int .i64 t471,.slice Ao188 t472.length co188,.slice Ao189 t475.length co189,.slice Ao190 t478.length co190]] (by rfl) rfl rfl lp_ ?_
       with_reducible refine (laws_eqAutomaton.calls kj13 t453 _ _ t454 _ _ t457 _ _ t460 t471 _ _ t472 _ _ t475 _ _ t478 false _ ?side1 ?side2 ?side3 ?side4 ?side5 ?side6 ?side7 ?side8 ?side9 ?side10 ?side11 ?side12 A64.out).mono ?_
       (case side1 => exact cr_ (Kd.R_reads' HO_464001.out).2.2)
       (case side2 => exact (Kd.R_reads' HO_464001.out).2.1)
       (case side3 => exact cr_ (Kd.R_reads' HO_464002.out).2.2)
       (case side4 => exact (Kd.R_reads' HO_464002.out).2.1)
       (case side5 => exact cr_ (Kd.R_reads' HO_464003.out).2.2)
       (case side6 => exact (Kd.R_reads' HO_464003.out).2.1)
       (case side7 => exact cr_ (Kd.R_reads' HO474.out).2.2)
       (case side8 => exact (Kd.R_reads' HO474.out).2.1)
       (case side9 => exact cr_ (Kd.R_reads' HO477.out).2.2)
       (case side10 => exact (Kd.R_reads' HO477.out).2.1)
       (case side11 => exact cr_ (Kd.R_reads' HO480.out).2.2)
       (case side12 => exact (Kd.R_reads' HO480.out).2.1)
       rintro e w191 ⟨rfl,hb⟩
       refine ⟨_,rfl,?_⟩
       replace HO_453001:=Aside0.mk (Kd.R_below (pr_ HO_453001.out) hb)
       replace HO_464001:=Aside0.mk (Kd.R_below (pr_ HO_464001.out) hb)
       replace HO_464002:=Aside0.mk (Kd.R_below (pr_ HO_464002.out) hb)
       replace HO_464003:=Aside0.mk (Kd.R_below (pr_ HO_464003.out) hb)
       replace HO_470001:=Aside0.mk (Kd.R_below (pr_ HO_470001.out) hb)
       replace HO474:=Aside0.mk (Kd.R_below (pr_ HO474.out) hb)
       replace HO477:=Aside0.mk (Kd.R_below (pr_ HO477.out) hb)
       replace HO480:=Aside0.mk (Kd.R_below (pr_ HO480.out) hb)
       replace BK435:=Aside0.mk (kb_ BK435.out hb)
       replace BK452:=Aside0.mk (kb_ BK452.out hb)
       replace BK463:=Aside0.mk (kb_ BK463.out hb)
       replace BK469:=Aside0.mk (kb_ BK469.out hb)
       replace HB:=Aside0.mk (below_step (be4_ HB.out GE435.out GE452.out GE463.out GE469.out) hb)
       (try clear hb)
       (try clear hb2)
       (try clear hk)
       (try clear hi)
       refine hK.out _ _ ⟨(blk_cell BK463.out 0).trans rfl,(blk_cell BK463.out 1).trans rfl,(blk_cell BK463.out 2).trans rfl,(blk_cell BK463.out 3).trans rfl,(blk_cell BK435.out 0).trans rfl,(blk_cell BK435.out 1).trans rfl,(blk_cell BK435.out 2).trans rfl,(blk_cell BK435.out 3).trans rfl⟩ (fun hHeld => ?_)
       clear hK K
       refine norm_ (a':=?_) ?_ ?_
       rotate_left
       ·show Act.put _ (some 51) _ = _
        simp only [Act.put,List.setIfInBounds_toArray,List.set_cons_zero,List.set_cons_succ,i64_w,i32_w]
        rfl
       refine pure_ (i:=4) (N:=some 52) (v:=?_) (a':=?_) #[true,true,true,true,true] rfl rfl (by kernel_rfl) (fun _ _ _ h => h) (Or.inl ⟨by rfl,?_⟩) ?_ ?_
       rotate_left
       ·intro w'
        go_simp
        with_reducible rfl
       rotate_left
       ·simp only [Act.put,List.setIfInBounds_toArray,List.set_cons_zero,List.set_cons_succ,i64_w,i32_w]
        rfl
       refine done_ (by kernel_rfl) ?_
       try go_wp2
       go_ret
       exact ⟨er_,be4_ HB.out GE435.out GE452.out GE463.out GE469.out⟩
def laws_FnExactWordMatrix.Pure : Prop := ∀ (a0_0 : Int) (l0_1 : List Int) (l0_2 : List Int) (l0_3 : List (S118)) (a1 : ByteArray),(Lit.int .i64 a0_0).wf = true → l0_1.length ≤ maxLen → (∀ x_ ∈ l0_1,(Lit.int .i64 x_).wf = true) → l0_2.length ≤ maxLen → (∀ x_ ∈ l0_2,(Lit.int .i64 x_).wf = true) → l0_3.length ≤ maxLen → (∀ x_ ∈ l0_3,(Lit.int .i64 x_.f0).wf = true ∧ x_.f1.size ≤ maxLen ∧ (Lit.int .i64 x_.f2).wf = true ∧ (Lit.int .i64 x_.f3).wf = true) → a1.size ≤ 140737488351232 → ∃ k,laws_FnExactWordMatrix.f k a0_0 l0_1 l0_2 l0_3 a1 = some true
end Go.Proofs.Ytfmbpoojpnoafaa.X
end
section
namespace Go.Proofs.Ytfmbpoojpnoafaa.X
open Go.RowKit Go.Proofs.Ytfmbpoojpnoafaa.X Go.Proofs.YtfmbpoojpnoafaaW.PrintWords Go.Proofs.YtfmbpoojpnoafaaW.PrintLast Go.Proofs.YtfmbpoojpnoafaaW.PrintMore
set_option linter.unusedVariables false
set_option linter.unusedSimpArgs false
open Go.ChangeShapes Go.WideShapes Go.Deep
theorem field_ints {H : Type} {enc : TypeId × Value → H} {P : Program} {w : World} {base : Nat} {spare : Nat → Bool} {held : Bool} {t e : TypeId} {k : IntKind} {fuel : Nat} {v : Value} {x : DataW H × List MemPlace}
  (ht : P.underlying t = some (.slice e)) (he : P.underlying e = some (.int k)) (hc : P.cellsOf e = 1) (h : DataW.trod enc P w base spare held fuel t [v] = some x) :
  ∃ (A : Option Addr) (c : Nat) (l : List Int),v = .slice A l.length c ∧ Kd.C (Kd.int k) w A l.length l ∧ l.length ≤ c ∧ l.length ≤ maxLen ∧ ∀ n ∈ l,(Lit.int k n).wf = true:=by
 rcases open_ints ht he hc h with ⟨hcs,_⟩ | ⟨a,len,cap,zs,hcs,_,hl,hm,hz,_,hcell,hwf⟩
 ·simp at hcs
  obtain ⟨l,h1,h2,h3,h4,h5⟩:=ReadsInt.ofRowC (k:=k) (w:=w) (a:=none) (len:=0) (cap:=0) (zs:=[]) (.inl ⟨rfl,rfl,rfl,rfl⟩)
  exact ⟨none,0,l,by rw [hcs,← h1],Kd.C_of_reads (d:=(0 : Int)) (h1:=fun _ => rfl) h2,h5,h3,h4⟩
 ·simp at hcs
  have hr : ∃ l : List Int,len = l.length ∧ ReadsInt w k (some a) l.length l ∧ l.length ≤ maxLen ∧ (∀ x ∈ l,(Lit.int k x).wf = true):=by
   refine ⟨zs.take len,?_,?_,?_,fun x hx => hwf x (List.mem_of_mem_take hx)⟩
   ·rw [List.length_take,hz];split <;> omega
   ·have hlen : (zs.take len).length = len:=by rw [List.length_take,hz];split <;> omega
    refine ⟨rfl,by rw [hlen];exact Nat.le_trans hl hm,fun hn => ⟨a,rfl,fun j hj => ?_⟩⟩
    rw [hlen] at hj
    have hj2 : j < zs.length:=by rw [hz];split <;> omega
    rw [hcell j hj2]
    simp [List.getD_eq_getElem?_getD,List.getElem?_take,hj]
   ·rw [List.length_take];exact Nat.le_trans (Nat.min_le_left _ _) (Nat.le_trans hl hm)
  obtain ⟨l,h1,h2,h3,h4⟩:=hr
  exact ⟨some a,cap,l,by rw [hcs,← h1],Kd.C_of_reads (d:=(0 : Int)) (h1:=fun _ => rfl) h2,by omega,h3,h4⟩
theorem field_int {H : Type} {enc : TypeId × Value → H} {P : Program} {w : World} {base : Nat} {spare : Nat → Bool} {held : Bool} {t : TypeId} {k : IntKind} {fuel : Nat} {v : Value} {x : DataW H × List MemPlace}
  (ht : P.underlying t = some (.int k)) (h : DataW.trod enc P w base spare held fuel t [v] = some x) : ∃ n : Int,v = .int k n ∧ (Lit.int k n).wf = true:=by
 obtain ⟨n,h1,_,h2⟩:=DataW.trod_int ht h
 simp at h1
 exact ⟨n,h1,h2⟩
theorem field_str {H : Type} {enc : TypeId × Value → H} {P : Program} {w : World} {base : Nat} {spare : Nat → Bool} {held : Bool} {t : TypeId} {fuel : Nat} {v : Value} {x : DataW H × List MemPlace}
  (ht : P.underlying t = some .string) (h : DataW.trod enc P w base spare held fuel t [v] = some x) : ∃ s : ByteArray,v = .string s ∧ s.size ≤ maxLen:=by
 obtain ⟨s,h1,_,h2⟩:=DataW.trod_string ht h
 simp at h1
 exact ⟨s,h1,h2⟩
set_option maxRecDepth 100000 in
theorem row_matrix {H : Type} {enc : TypeId × Value → H} {w : World} {base b0 : Nat} {r : Reach} {spare : Nat → Bool} {held : Bool} {v : Value} {d : DataW H} {p : List MemPlace}
  (hv : Value.okWide Try.prog w r b0 27 v) (h : DataW.Trod enc Try.prog w base spare held 27 v d p) :
  ∃ (n : Int) (A : Option Addr) (c : Nat) (l : List Int),v = .agg #[.int .i64 n,.slice A l.length c] ∧ Kd.C (Kd.int .i64) w A l.length l ∧ l.length ≤ c ∧ (Lit.int .i64 n).wf = true ∧ l.length ≤ maxLen ∧ ∀ x ∈ l,(Lit.int .i64 x).wf = true:=by
 obtain ⟨v0,v1,y0,y1,n,rfl,_,_,h0,h1⟩:=Go.Joins.open_agg2 Try.underlying27 (by kernel_rfl) (by kernel_rfl) hv h
 obtain ⟨z,rfl,hz⟩:=field_int Try.underlying3 h0
 obtain ⟨A,c,l,rfl,hC,hc,hm,hw⟩:=field_ints Try.underlying22 Try.underlying3 (by kernel_rfl) h1
 exact ⟨z,A,c,l,rfl,hC,hc,hz,hm,hw⟩
end Go.Proofs.Ytfmbpoojpnoafaa.X
end
section
namespace Go.Proofs.Ytfmbpoojpnoafaa.X
open Go.RowKit Go.Proofs.Ytfmbpoojpnoafaa.X Go.Proofs.YtfmbpoojpnoafaaW.PrintWords Go.Proofs.YtfmbpoojpnoafaaW.PrintLast Go.Proofs.YtfmbpoojpnoafaaW.PrintMore
set_option linter.unusedVariables false
set_option linter.unusedSimpArgs false
open Go.ChangeShapes Go.WideShapes Go.Deep
set_option maxRecDepth 100000 in
theorem field_steps {H : Type} {enc : TypeId × Value → H} {w : World} {base : Nat} {spare : Nat → Bool} {held : Bool} {fuel : Nat} {v : Value} {x : DataW H × List MemPlace}
  (h : DataW.trod enc Try.prog w base spare held fuel 23 [v] = some x) :
  ∃ (A : Option Addr) (c : Nat) (l : List S118),v = .slice A l.length c ∧ Kd.C k118 w A l.length l ∧ l.length ≤ c ∧ l.length ≤ maxLen ∧ ∀ s ∈ l,(Lit.int .i64 s.f0).wf = true ∧ s.f1.size ≤ maxLen ∧ (Lit.int .i64 s.f2).wf = true ∧ (Lit.int .i64 s.f3).wf = true:=by
 rcases open_slice Try.underlying23 h with ⟨hcs,_⟩ | ⟨a,len,cap,m,n,D,Pl,hcs,_,hl,hm,hmm,_,hi⟩
 ·simp at hcs
  exact ⟨none,0,[],hcs,Kd.C_nil _ _,Nat.le_refl _,by simp,fun s hs => by cases hs⟩
 ·simp at hcs
  have hlm : len ≤ m:=by rw [hmm];split <;> omega
  have one : ∀ i,i < len → ∃ s : S118,(∀ u : Nat,∀ y,[Value.int .i64 s.f0,.string s.f1,.int .i64 s.f2,.int .i64 s.f3][u]? = some y → w.cell? (a.add (i * 4 + u)) = some y) ∧ (Lit.int .i64 s.f0).wf = true ∧ s.f1.size ≤ maxLen ∧ (Lit.int .i64 s.f2).wf = true ∧ (Lit.int .i64 s.f3).wf = true:=by
   intro i hil
   obtain ⟨cs',hc,ht'⟩:=hi i (by omega)
   rw [show Try.prog.cellsOf 118 = 4 by kernel_rfl] at hc
   obtain ⟨_,hcl,hat⟩:=World.cells?_some hc
   match cs',hcl with
   | [q0,q1,q2,q3],_ =>
   obtain ⟨y0,y1,y2,y3,n',_,_,t0,t1,t2,t3⟩:=Go.Joins.trod_struct4 Try.underlying118 ht'
   have ei : Try.prog.cellsOf 3 = 1:=by kernel_rfl
   have es : Try.prog.cellsOf 9 = 1:=by kernel_rfl
   have t0 : DataW.trod enc Try.prog w base spare held n' 3 [q0] = some y0:=by simpa [ei,es] using t0
   have t1 : DataW.trod enc Try.prog w base spare held n' 9 [q1] = some y1:=by simpa [ei,es] using t1
   have t2 : DataW.trod enc Try.prog w base spare held n' 3 [q2] = some y2:=by simpa [ei,es] using t2
   have t3 : DataW.trod enc Try.prog w base spare held n' 3 [q3] = some y3:=by simpa [ei,es] using t3
   have hat' : ∀ u,u < 4 → w.cell? (a.add (i * 4 + u)) = [q0,q1,q2,q3][u]?:=fun u hu => by rw [← Go.Deep.add_add];exact hat u hu
   have c0:=hat' 0 (by omega)
   have c1:=hat' 1 (by omega)
   have c2:=hat' 2 (by omega)
   have c3:=hat' 3 (by omega)
   clear hat hat' hc ht'
   obtain ⟨z0,rfl,w0⟩:=field_int Try.underlying3 t0
   obtain ⟨z1,rfl,w1⟩:=field_str Try.underlying9 t1
   obtain ⟨z2,rfl,w2⟩:=field_int Try.underlying3 t2
   obtain ⟨z3,rfl,w3⟩:=field_int Try.underlying3 t3
   refine ⟨⟨z0,z1,z2,z3⟩,?_,w0,w1,w2,w3⟩
   intro u y hu
   match u,hu with
   | 0,hu => obtain rfl:=Option.some.inj hu;exact c0
   | 1,hu => obtain rfl:=Option.some.inj hu;exact c1
   | 2,hu => obtain rfl:=Option.some.inj hu;exact c2
   | 3,hu => obtain rfl:=Option.some.inj hu;exact c3
   | u + 4,hu => simp at hu
  obtain ⟨l,hll,hlp⟩ : ∃ l : List S118,l.length = len ∧ ∀ i s,l[i]? = some s → (∀ u : Nat,∀ y,[Value.int .i64 s.f0,.string s.f1,.int .i64 s.f2,.int .i64 s.f3][u]? = some y → w.cell? (a.add (i * 4 + u)) = some y) ∧ (Lit.int .i64 s.f0).wf = true ∧ s.f1.size ≤ maxLen ∧ (Lit.int .i64 s.f2).wf = true ∧ (Lit.int .i64 s.f3).wf = true:=by
   have : ∀ q,q ≤ len → ∃ l : List S118,l.length = q ∧ ∀ i s,l[i]? = some s → (∀ u : Nat,∀ y,[Value.int .i64 s.f0,.string s.f1,.int .i64 s.f2,.int .i64 s.f3][u]? = some y → w.cell? (a.add (i * 4 + u)) = some y) ∧ (Lit.int .i64 s.f0).wf = true ∧ s.f1.size ≤ maxLen ∧ (Lit.int .i64 s.f2).wf = true ∧ (Lit.int .i64 s.f3).wf = true:=by
    intro q
    induction q with
    | zero => intro _;exact ⟨[],rfl,fun i s h => by simp at h⟩
    | succ q ih =>
     intro hq
     obtain ⟨l,h1,h2⟩:=ih (by omega)
     obtain ⟨s,hs⟩:=one q (by omega)
     refine ⟨l ++ [s],by simp [h1],fun i s' h => ?_⟩
     by_cases e : i < l.length
     ·rw [List.getElem?_append_left e] at h;exact h2 i s' h
     ·rw [List.getElem?_append_right (by omega)] at h
      have : i = q:=by
       have:=(List.getElem?_eq_some_iff.mp h).1
       simp at this;omega
      subst this
      rw [h1,Nat.sub_self] at h
      obtain rfl:=Option.some.inj h
      exact hs
   exact this len (Nat.le_refl _)
  refine ⟨some a,cap,l,by rw [hcs,hll],?_,by omega,by omega,fun s hs => ?_⟩
  ·refine ⟨rfl,(by have e : maxLen = 9223372036854775807:=rfl;omega),fun _ => ⟨a,rfl,fun j p hj => ?_⟩⟩
   exact ⟨_,rfl,k118_mk w p,(hlp j p hj).1⟩
  ·obtain ⟨i,hi',rfl⟩:=List.mem_iff_getElem.mp hs
   exact (hlp i _ (List.getElem?_eq_getElem hi')).2
set_option maxRecDepth 100000 in
theorem row_automaton {H : Type} {enc : TypeId × Value → H} {w : World} {base b0 : Nat} {r : Reach} {spare : Nat → Bool} {held : Bool} {v : Value} {d : DataW H} {p : List MemPlace}
  (hv : Value.okWide Try.prog w r b0 25 v) (h : DataW.Trod enc Try.prog w base spare held 25 v d p) :
  ∃ (n : Int) (A1 : Option Addr) (c1 : Nat) (l1 : List Int) (A2 : Option Addr) (c2 : Nat) (l2 : List Int) (A3 : Option Addr) (c3 : Nat) (l3 : List S118),v = .agg #[.int .i64 n,.slice A1 l1.length c1,.slice A2 l2.length c2,.slice A3 l3.length c3] ∧
   Kd.C (Kd.int .i64) w A1 l1.length l1 ∧ l1.length ≤ c1 ∧ Kd.C (Kd.int .i64) w A2 l2.length l2 ∧ l2.length ≤ c2 ∧ Kd.C k118 w A3 l3.length l3 ∧ l3.length ≤ c3 ∧ (Lit.int .i64 n).wf = true ∧
   l1.length ≤ maxLen ∧ (∀ x ∈ l1,(Lit.int .i64 x).wf = true) ∧ l2.length ≤ maxLen ∧ (∀ x ∈ l2,(Lit.int .i64 x).wf = true) ∧ l3.length ≤ maxLen ∧ (∀ s ∈ l3,(Lit.int .i64 s.f0).wf = true ∧ s.f1.size ≤ maxLen ∧ (Lit.int .i64 s.f2).wf = true ∧ (Lit.int .i64 s.f3).wf = true):=by
 obtain ⟨v0,v1,v2,v3,y0,y1,y2,y3,n,rfl,_,_,h0,h1,h2,h3⟩:=Go.Joins.open_agg4 Try.underlying25 (by kernel_rfl) (by kernel_rfl) hv h
 obtain ⟨z,rfl,hz⟩:=field_int Try.underlying3 h0
 obtain ⟨A1,c1,l1,rfl,hC1,hc1,hm1,hw1⟩:=field_ints Try.underlying22 Try.underlying3 (by kernel_rfl) h1
 obtain ⟨A2,c2,l2,rfl,hC2,hc2,hm2,hw2⟩:=field_ints Try.underlying22 Try.underlying3 (by kernel_rfl) h2
 obtain ⟨A3,c3,l3,rfl,hC3,hc3,hm3,hw3⟩:=field_steps h3
 exact ⟨z,A1,c1,l1,A2,c2,l2,A3,c3,l3,rfl,hC1,hc1,hC2,hc2,hC3,hc3,hz,hm1,hw1,hm2,hw2,hm3,hw3⟩
end Go.Proofs.Ytfmbpoojpnoafaa.X
end
section
namespace Go.Proofs.Ytfmbpoojpnoafaa.X
open Go.RowKit Go.Proofs.YtfmbpoojpnoafaaW.PrintWords Go.Proofs.YtfmbpoojpnoafaaW.PrintLast Go.Proofs.YtfmbpoojpnoafaaW.PrintMore
attribute [local go_sem] max2_int min2_int max_two min_two max_three min_three max_four min_four
set_option linter.unusedVariables false
set_option linter.unusedSimpArgs false
def laws_szMatrix.f (a0_0 : Int) (l0_1 : List Int) (a1 : Int) : Option (Int):=(laws_szIntS.f l0_1 a1).bind fun t109 => (if t109 < 0 then (some (-1)) else (some t109))
set_option maxHeartbeats 8000000 in
set_option maxRecDepth 100000 in
theorem laws_szMatrix.calls (a0_0 : Int) (A0_1 : Option Addr) (c0_1 : Nat) (l0_1 : List Int) (a1 : Int) (r : Int) (w : World) (hr0_1 : Kd.C (Kd.int .i64) w A0_1 l0_1.length l0_1) (hc0_1 : l0_1.length ≤ c0_1) (h : laws_szMatrix.f a0_0 l0_1 a1 = some r) :
  Calls Try.prog 15 #[.agg #[.int .i64 a0_0,.slice A0_1 l0_1.length c0_1],.int .i64 a1] w fun e w' => e = .returned (.int .i64 r) ∧ Below w.heap.size w w':=by
 have hu27:=Try.underlying27
 have HR0_1:=Aside0.mk hr0_1
 have HC0_1:=Aside0.mk hc0_1
 clear hr0_1 hc0_1
 have HB:=Aside0.mk (Below.refl w.heap.size w)
 have H : ((laws_szIntS.f l0_1 a1).bind fun t109 => (if t109 < 0 then (some (-1)) else (some t109))) = some r:=h
 clear h
 replace H:=Option.bind_eq_some_iff.mp H
 obtain ⟨t109,A30,H⟩:=H
 replace H : (if t109 < 0 then (some (-1)) else (some t109)) = some r:=H
 have A3:=Aside0.mk A30
 clear A30
 by_cases c4 : t109 < 0
 ·rw [if_pos c4] at H
  have c4b0 : decide (t109 < 0) = true:=decide_eq_true c4
  clear c4
  obtain rfl:=Option.some.inj H
  go_enter Try.func15,Try.ntmps15
  go_wp2_with (first|((with_reducible refine bev_ (N:=2) rfl rfl (cs:=#[.int .i64 a0_0,.slice A0_1 l0_1.length c0_1]) (t:=27) ?hr ?_);(case hr => first|(go_simp;done)|(go_simp;rfl));intro gb108 hg w5 hbox hb;have BK108:=Aside0.mk (hbox);have GW108:=Aside0.mk (szg_ hg (below_size (be0_ HB.out)));have GE108:=Aside0.mk (szg_ hg (below_size (be0_ HB.out)));replace HB:=Aside0.mk (below_step (be0_ HB.out) hb);clear hb hbox hg;obtain ⟨hcz6_0,hcz6_1,hfz6_0,hfz6_1⟩:=cf2_ BK108.out)|((with_reducible refine gate_callee (f:=65) rfl ?_);refine goesL_ (some 8) rfl rfl Try.func65 (by kernel_rfl) rfl #[.slice A0_1 l0_1.length c0_1,.int .i64 a1] rfl lp_ ?_;(with_reducible refine (laws_szIntS.calls _ _ l0_1 a1 t109 _ ?side1 ?side2 A3.out).mono ?_);(case side1 => exact cr_ (Kd.C_below HR0_1.out HB.out));(case side2 => exact HC0_1.out);rintro e w' ⟨rfl,⟨nd,rfl⟩⟩;refine ⟨_,rfl,?_⟩))
  go_ret
  exact ⟨er_,be1_ HB.out GE108.out⟩
 ·rw [if_neg c4] at H
  have c4b0 : decide (t109 < 0) = false:=decide_eq_false c4
  clear c4
  obtain rfl:=Option.some.inj H
  go_enter Try.func15,Try.ntmps15
  go_wp2_with (first|((with_reducible refine bev_ (N:=2) rfl rfl (cs:=#[.int .i64 a0_0,.slice A0_1 l0_1.length c0_1]) (t:=27) ?hr ?_);(case hr => first|(go_simp;done)|(go_simp;rfl));intro gb108 hg w7 hbox hb;have BK108:=Aside0.mk (hbox);have GW108:=Aside0.mk (szg_ hg (below_size (be0_ HB.out)));have GE108:=Aside0.mk (szg_ hg (below_size (be0_ HB.out)));replace HB:=Aside0.mk (below_step (be0_ HB.out) hb);clear hb hbox hg;obtain ⟨hcz8_0,hcz8_1,hfz8_0,hfz8_1⟩:=cf2_ BK108.out)|((with_reducible refine gate_callee (f:=65) rfl ?_);refine goesL_ (some 8) rfl rfl Try.func65 (by kernel_rfl) rfl #[.slice A0_1 l0_1.length c0_1,.int .i64 a1] rfl lp_ ?_;(with_reducible refine (laws_szIntS.calls _ _ l0_1 a1 t109 _ ?side1 ?side2 A3.out).mono ?_);(case side1 => exact cr_ (Kd.C_below HR0_1.out HB.out));(case side2 => exact HC0_1.out);rintro e w' ⟨rfl,⟨nd,rfl⟩⟩;refine ⟨_,rfl,?_⟩))
  go_ret
  exact ⟨er_,be1_ HB.out GE108.out⟩
def laws_toMatrix.f (k : Nat) (a0_0 : Int) (l0_1 : List Int) : Option (Int × List Int):=(laws_toIntS.f k l0_1).bind fun t180 => (some (a0_0,t180))
theorem laws_toMatrix.mono : ∀ a0 a1 k,LeO (laws_toMatrix.f k a0 a1) (laws_toMatrix.f (k + 1) a0 a1):=by
 intro a0 a1 k
 unfold laws_toMatrix.f
 repeat' first
   | (with_reducible exact laws_toIntS.mono _ _)
   | (with_reducible exact LeO.refl _)
   | (with_reducible exact LeO.none _)
   | (with_reducible refine LeO.ite ?_ ?_)
   | (with_reducible refine LeO.bind ?_ (fun _ => ?_))
   | exact laws_toIntS.mono _ _
   | exact LeO.none _
   | refine LeO.ite ?_ ?_
   | refine LeO.bind ?_ (fun _ => ?_)
set_option maxHeartbeats 8000000 in
set_option maxRecDepth 100000 in
theorem laws_toMatrix.calls (k : Nat) (a0_0 : Int) (A0_1 : Option Addr) (c0_1 : Nat) (l0_1 : List Int) (r1 : Int) (r2 : List Int) (w : World) (hr0_1 : Kd.C (Kd.int .i64) w A0_1 l0_1.length l0_1) (hc0_1 : l0_1.length ≤ c0_1) (h : laws_toMatrix.f k a0_0 l0_1 = some (r1,r2)) :
  Calls Try.prog 18 #[.agg #[.int .i64 a0_0,.slice A0_1 l0_1.length c0_1]] w fun e w' => ∃ v1_ : Value,e = .returned (.agg #[.int .i64 r1,v1_]) ∧ Kd.R (Kd.int .i64) 3 w' w.heap.size (fun _ => True) v1_ r2 ∧ Below w.heap.size w w':=by
 have hu27:=Try.underlying27
 have hu35:=Try.underlying35
 have HR0_1:=Aside0.mk hr0_1
 have HC0_1:=Aside0.mk hc0_1
 clear hr0_1 hc0_1
 have HB:=Aside0.mk (Below.refl w.heap.size w)
 have H : ((laws_toIntS.f k l0_1).bind fun t180 => (some (a0_0,t180))) = some (r1,r2):=h
 clear h
 replace H:=Option.bind_eq_some_iff.mp H
 obtain ⟨t180,A20,H⟩:=H
 replace H : (some (a0_0,t180)) = some (r1,r2):=H
 have A2:=Aside0.mk A20
 clear A20
 simp only [Option.some.injEq,Prod.mk.injEq] at H
 obtain ⟨rfl,rfl⟩:=H
 go_enter Try.func18,Try.ntmps18
 go_wp2_with (first|((with_reducible refine bev_ (N:=1) rfl rfl (cs:=#[.int .i64 a0_0,.slice A0_1 l0_1.length c0_1]) (t:=27) ?hr ?_);(case hr => first|(go_simp;done)|(go_simp;rfl));intro gb177 hg w3 hbox hb;have BK177:=Aside0.mk (hbox);have GW177:=Aside0.mk (szg_ hg (below_size (be0_ HB.out)));have GE177:=Aside0.mk (szg_ hg (below_size (be0_ HB.out)));replace HB:=Aside0.mk (below_step (be0_ HB.out) hb);clear hb hbox hg)|((with_reducible refine bev_ (N:=2) rfl rfl (cs:=#[.int .i64 0,.slice none 0 0]) (t:=35) ?hr ?_);(case hr => first|(go_simp;done)|(go_simp;rfl));intro gb178 hg w4 hbox hb;have BK178:=Aside0.mk (hbox);have GW178:=Aside0.mk (szg_ hg (below_size (be1_ HB.out GE177.out)));have GE178:=Aside0.mk (szg_ hg (below_size (be1_ HB.out GE177.out)));replace HB:=Aside0.mk (below_step (be1_ HB.out GE177.out) hb);have NB177_178:=Aside0.mk (nl_ hg BK177.out);have NB178_177:=Aside0.mk (ng_ hg BK177.out);replace BK177:=Aside0.mk (kb_ BK177.out hb);clear hb hbox hg)|((with_reducible refine bev_ (N:=3) rfl rfl (cs:=#[.int .i64 0,.slice none 0 0]) (t:=35) ?hr ?_);(case hr => first|(go_simp;done)|(go_simp;rfl));intro gb179 hg w5 hbox hb;have BK179:=Aside0.mk (hbox);have GW179:=Aside0.mk (szg_ hg (below_size (be2_ HB.out GE177.out GE178.out)));have GE179:=Aside0.mk (szg_ hg (below_size (be2_ HB.out GE177.out GE178.out)));replace HB:=Aside0.mk (below_step (be2_ HB.out GE177.out GE178.out) hb);have NB177_179:=Aside0.mk (nl_ hg BK177.out);have NB179_177:=Aside0.mk (ng_ hg BK177.out);replace BK177:=Aside0.mk (kb_ BK177.out hb);have NB178_179:=Aside0.mk (nl_ hg BK178.out);have NB179_178:=Aside0.mk (ng_ hg BK178.out);replace BK178:=Aside0.mk (kb_ BK178.out hb);clear hb hbox hg;have hnb6:=NB177_178.out;have hnc6:=NB178_177.out;have hnb7:=NB177_179.out;have hnc7:=NB179_177.out;obtain ⟨hcz8_0,hcz8_1,hfz8_0,hfz8_1⟩:=cf2_ BK177.out;have hnb9:=NB179_178.out;have hnc9:=NB178_179.out;obtain ⟨hcz10_0,hcz10_1,hfz10_0,hfz10_1⟩:=cf2_ BK179.out)|((with_reducible refine gate_callee (f:=70) rfl ?_);refine goesL_ (some 9) rfl rfl Try.func70 (by kernel_rfl) rfl #[.slice A0_1 l0_1.length c0_1] rfl lp_ ?_;(with_reducible refine (laws_toIntS.calls k _ _ l0_1 t180 _ ?side1 ?side2 A2.out).mono ?_);(case side1 => exact Kd.C_below HR0_1.out (be3_ HB.out GE177.out GE178.out GE179.out));(case side2 => exact HC0_1.out);rintro e w11 ⟨v181,rfl,ho0,hb⟩;refine ⟨_,rfl,?_⟩;have HO182:=Aside0.mk (Kd.R_lower ho0 (below_size (be3_ HB.out GE177.out GE178.out GE179.out)));replace BK177:=Aside0.mk (blk_below (g:=gb177) (o:=.cells #[.int .i64 a0_0,.slice A0_1 l0_1.length c0_1] 27 (0,0)) (by refine pe_ ?_;refine blk_far ?_ NB177_179.out _;refine pe_ ?_;exact BK177.out) hb);replace BK178:=Aside0.mk (blk_below (g:=gb178) (o:=.cells #[.int .i64 0,.slice none 0 0] 35 (0,0)) (by refine pe_ ?_;refine blk_far ?_ NB178_179.out _;refine pe_ ?_;exact BK178.out) hb);replace BK179:=Aside0.mk (blk_below (g:=gb179) (o:=.cells #[.int .i64 a0_0,.slice none 0 0] 35 (0,0)) (by refine pe_ ?_;refine blk_put (cs:=#[.int .i64 0,.slice none 0 0]) ?_ 0 _ rfl;refine pe_ ?_;exact BK179.out) hb);replace HB:=Aside0.mk (below_step (be3_ HB.out GE177.out GE178.out GE179.out) hb);(try clear hb);(try clear hb2);(try clear hk);(try clear hi);(try clear ho0);obtain ⟨Ao12,co12,eo12⟩:=Kd.R_slice HO182.out;subst eo12;obtain ⟨hcz13_0,hcz13_1,hfz13_0,hfz13_1⟩:=cf2_ BK179.out;obtain ⟨hcz14_0,hcz14_1,hfz14_0,hfz14_1⟩:=cf2_ BK178.out))
 refine bodyPost_ret (results_cell_row rfl _ _ gb178 35 #[.int .i64 a0_0,.slice Ao12 t180.length co12] (0,0) _ rfl (by refine pe_ ?_;refine blk_put (cs:=#[.int .i64 a0_0,.slice none 0 0]) ?_ 1 _ rfl;refine pe_ ?_;refine blk_put (cs:=#[.int .i64 0,.slice none 0 0]) ?_ 0 _ rfl;refine pe_ ?_;refine blk_far ?_ NB178_179.out _;refine pe_ ?_;exact BK178.out) Try.underlying35 rfl (by kernel_rfl)) rfl ?_
 exact ⟨_,er_,by refine pr_ ?_;exact Kd.R_mono (Kd.R_far (p:=⟨gb178,1,none⟩) (Kd.R_far (p:=⟨gb178,0,none⟩) (Kd.R_far (p:=⟨gb179,1,none⟩) (Kd.R_types (Kd.R_types HO182.out BK179.out (by decide)) BK178.out (by decide)) (fun _ hk => hk.1.2) (.slice Ao12 t180.length co12)) (fun _ hk => hk.2) (.int .i64 a0_0)) (fun _ hk => hk.2) (.slice Ao12 t180.length co12)) (fun _ hk => trivial),be3_ HB.out GE177.out GE178.out GE179.out⟩
end Go.Proofs.Ytfmbpoojpnoafaa.X
end
section
namespace Go.Proofs.Ytfmbpoojpnoafaa.Y
open Go.RowKit Go.Proofs.Ytfmbpoojpnoafaa.X Go.Proofs.YtfmbpoojpnoafaaW.PrintWords Go.Proofs.YtfmbpoojpnoafaaW.PrintLast Go.Proofs.YtfmbpoojpnoafaaW.PrintMore
set_option linter.unusedVariables false
set_option linter.unusedSimpArgs false
def L (s : ByteArray) : List UInt8:=s.data.toList
theorem L_size (s : ByteArray) : s.size = (L s).length:=by simp [L]
theorem L_mk (l : List UInt8) : L ⟨l.toArray⟩ = l:=by simp [L]
theorem L_inj {s t : ByteArray} (h : L s = L t) : s = t:=by
 cases s;cases t;simp [L] at h;subst h;rfl
theorem toList_L (s : ByteArray) : s.toList = L s:=ByteArray.toList_eq s
theorem L_extract (s : ByteArray) (a b : Nat) : L (s.extract a b) = ((L s).take b).drop a:=by
 simp [L,ByteArray.data_extract,Array.toList_extract,List.extract,List.drop_take]
theorem L_append (s t : ByteArray) : L (s ++ t) = L s ++ L t:=by simp [L,ByteArray.data_append]
theorem L_nil {s : ByteArray} : s.toList = ([] : List UInt8) ↔ L s = []:=by rw [toList_L]
theorem bt_L (s : ByteArray) (i : Int) : bt s i = (((L s).getD i.toNat 0).toNat : Int):=by
 unfold bt L
 split
 ·next h =>
  have h' : i.toNat < s.data.toList.length:=by simpa using h
  rw [List.getD_eq_getElem?_getD,List.getElem?_eq_getElem h']
  simp;rfl
 ·next h =>
  have h' : s.data.toList.length ≤ i.toNat:=by simpa using h
  rw [List.getD_eq_getElem?_getD,List.getElem?_eq_none h'];rfl
theorem w64 {x : Int} (h0 : -9223372036854775808 ≤ x) (h1 : x ≤ 9223372036854775807) : wrap64 x = x:=by unfold wrap64;omega
theorem _root_.Go.Proofs.YtfmbpoojpnoafaaW.PrintWords.Ev.is {α : Type} {g : Nat → Option α} {r r' : α} (h : Ev g r) (e : r = r') : Ev g r':=e ▸ h
theorem bt_suffix {s : ByteArray} {u : List UInt8} {c : UInt8} {e : List UInt8} (h : L s = u ++ c :: e) : bt s u.length = (c.toNat : Int):=by
 rw [bt_L,h];simp [List.getD_eq_getElem?_getD]
theorem size_suffix {s : ByteArray} {u e : List UInt8} (h : L s = u ++ e) : s.size = u.length + e.length:=by rw [L_size,h];simp
theorem u8_ne {c d : UInt8} (h : c ≠ d) : ¬ ((c.toNat : Int) = (d.toNat : Int)):=by
 intro e;exact h (UInt8.toNat.inj (by exact_mod_cast e))
theorem rd_mid (pre : List Int) (x : Int) (t : List Int) : rd (pre ++ x :: t) (pre.length : Int) = x:=by simp [rd,List.getD_eq_getElem?_getD]
theorem rd_nat (l : List Int) (i : Nat) : rd l (i : Int) = l.getD i 0:=by simp [rd]
theorem snoc_len (pre : List Int) (x : Int) : (((pre ++ [x]).length : Nat) : Int) = (pre.length : Int) + 1:=by simp
theorem wf_in {n : Int} (h : (Lit.int .i64 n).wf = true) : -9223372036854775808 ≤ n ∧ n ≤ 9223372036854775807:=by
 have hmin : IntKind.i64.min = -9223372036854775808:=rfl
 have hmax : IntKind.i64.max = 9223372036854775807:=rfl
 simp only [Lit.wf,Bool.and_eq_true,decide_eq_true_eq] at h
 omega
theorem maxLen_eq : maxLen = 9223372036854775807:=rfl
theorem ev_all {α : Type} {f : Nat → Nat → Option α} {g : Nat → α} (n : Nat) (h : ∀ i,i < n → Ev (f i) (g i)) : ∃ K0,∀ K,K0 ≤ K → ∀ i,i < n → f i K = some (g i):=by
 induction n with
 | zero => exact ⟨0,fun _ _ i hi => by omega⟩
 | succ n ih =>
  obtain ⟨K0,h0⟩:=ih (fun i hi => h i (by omega))
  obtain ⟨K1,h1⟩:=h n (by omega)
  refine ⟨max K0 K1,fun K hK i hi => ?_⟩
  by_cases e : i = n
  ·subst e;exact h1 K (by omega)
  ·exact h0 K (by omega) i (by omega)
theorem ev_up {α : Type} {f : Nat → Option α} {p : Nat → Nat → Option α} {r : α} (h : Ev f r) (hp : ∃ K0,∀ K,K0 ≤ K → ∀ j,LeO (f j) (p K (j + 1))) (hm : ∀ K j,LeO (p K j) (p K (j + 1))) : Ev (fun K => p K K) r:=by
 obtain ⟨K1,h1⟩:=h
 obtain ⟨K0,h0⟩:=hp
 refine ⟨max K0 (K1 + 1),fun K hK => ?_⟩
 have a:=h0 K (by omega) K1 r (h1 K1 (Nat.le_refl _))
 exact at_rounds (g:=p K) (hm K) (show K1 + 1 ≤ K by omega) a
theorem ev_some {α : Type} {f : Nat → Option α} {r : α} (h : ∀ k,f k = some r) : Ev f r:=⟨0,fun k _ => h k⟩
theorem up_loop {β : Type} (n : Nat) (L : Nat → Nat → Option β) (r : β) (step : ∀ i,i < n → Ev (L (i + 1)) r → Ev (L i) r) (h : Ev (L n) r) : Ev (L 0) r:=by
 have go : ∀ d,d ≤ n → Ev (L (n - d)) r:=by
  intro d
  induction d with
  | zero => intro _;exact h
  | succ d ih =>
   intro hd
   have e : n - (d + 1) + 1 = n - d:=by omega
   exact step (n - (d + 1)) (by omega) (by rw [e];exact ih (by omega))
 have:=go n (Nat.le_refl _)
 rwa [Nat.sub_self] at this
def tab (N : Nat) (F : Nat → Int) : List Int:=(List.range N).map F
theorem tab_length (N : Nat) (F : Nat → Int) : (tab N F).length = N:=by simp [tab]
theorem tab_snoc (N : Nat) (F : Nat → Int) : tab N F ++ [F N] = tab (N + 1) F:=by simp [tab,List.range_succ]
theorem tab_get (N : Nat) (F : Nat → Int) (j : Nat) (h : j < N) : (tab N F).getD j 0 = F j:=by
 simp [tab,List.getD_eq_getElem?_getD,List.getElem?_map,List.getElem?_range h]
theorem tab_congr (N : Nat) (F G : Nat → Int) (h : ∀ j,j < N → F j = G j) : tab N F = tab N G:=by
 unfold tab
 exact List.map_congr_left (fun j hj => h j (List.mem_range.mp hj))
theorem mem_tab {N : Nat} {F : Nat → Int} {x : Int} : x ∈ tab N F ↔ ∃ j,j < N ∧ F j = x:=by simp [tab]
theorem eq_tab (l : List Int) (N : Nat) (h : l.length = N) : l = tab N (fun j => l.getD j 0):=by
 apply List.ext_getElem
 ·simp [tab,h]
 ·intro i h1 h2
  simp [tab,List.getD_eq_getElem?_getD,List.getElem?_eq_getElem h1]
theorem fold_snoc {β : Type} (n : Nat) (f : β → Nat → β) (b : β) : (List.range (n + 1)).foldl f b = f ((List.range n).foldl f b) n:=by simp [List.range_succ]
theorem toIntS_ev (l : List Int) (h : l.length ≤ 1048576) : Ev (fun k => laws_toIntS.f k l) l:=by
 have go : ∀ (t pre : List Int),l = pre ++ t → Ev (fun k => laws_toIntS.l0 k l (pre ++ List.replicate t.length 0) (pre.length : Int)) l:=by
  intro t
  induction t with
  | nil =>
   intro pre hl
   refine Ev.step (f:=fun _ => some l) (fun k => ?_) (Ev.now _)
   simp only [laws_toIntS.l0]
   rw [if_neg (by rw [hl];simp)]
   simp [hl]
  | cons x t ih =>
   intro pre hl
   have hlen : l.length = pre.length + (t.length + 1):=by rw [hl];simp
   refine Ev.step (fun k => ?_) (ih (pre ++ [x]) (by simp [hl]))
   simp only [laws_toIntS.l0]
   rw [if_pos (by omega),if_pos (by omega),if_pos (by simp;omega),w64 (by omega) (by omega),hl,rd_mid,snoc_len,← hl]
   congr 1
   simp [List.replicate_succ,List.set_append]
 refine Ev.congr (fun k => ?_) (go l [] rfl)
 unfold laws_toIntS.f
 rw [if_pos (by omega),if_pos (by omega)]
 simp
theorem eqIntS_ev (a b : List Int) (h : a.length ≤ 1000000000) : Ev (fun k => laws_eqIntS.f k a b) (decide (a = b)):=by
 by_cases hl : a.length = b.length
 ·have go : ∀ (t u pre : List Int),a = pre ++ t → b = pre ++ u → Ev (fun k => laws_eqIntS.l0 k a b (pre.length : Int)) (decide (a = b)):=by
   intro t
   induction t with
   | nil =>
    intro u pre ha hb
    have hu : u = []:=by
     have h1:=congrArg List.length ha
     have h2:=congrArg List.length hb
     simp at h1 h2
     exact List.length_eq_zero_iff.mp (by omega)
    subst hu
    have hab : a = b:=by rw [ha,hb]
    refine Ev.step (f:=fun _ => some true) (fun k => ?_) ((Ev.now _).is (by rw [decide_eq_true hab]))
    simp only [laws_eqIntS.l0]
    rw [if_neg (by rw [ha];simp)]
   | cons x t ih =>
    intro u pre ha hb
    have hla : a.length = pre.length + (t.length + 1):=by rw [ha];simp
    cases u with
    | nil => have h2:=congrArg List.length hb;simp at h2;omega
    | cons y u =>
     by_cases hxy : x = y
     ·subst hxy
      refine Ev.step (fun k => ?_) (ih u (pre ++ [x]) (by simp [ha]) (by simp [hb]))
      simp only [laws_eqIntS.l0]
      rw [if_pos (by omega),if_pos (by omega),if_pos (by omega),w64 (by omega) (by omega),snoc_len,if_pos (by rw [ha,hb,rd_mid,rd_mid])]
     ·have hab : ¬ a = b:=by
       intro e
       rw [ha,hb] at e
       have:=List.append_cancel_left e
       simp at this
       exact hxy this.1
      refine Ev.step (f:=fun _ => some false) (fun k => ?_) ((Ev.now _).is (by rw [decide_eq_false hab]))
      simp only [laws_eqIntS.l0]
      rw [if_pos (by omega),if_pos (by omega),if_pos (by omega),if_neg (by rw [ha,hb,rd_mid,rd_mid];exact hxy)]
  refine Ev.congr (fun k => ?_) (go a b [] rfl rfl)
  unfold laws_eqIntS.f
  rw [if_pos (by omega)];rfl
 ·have hab : ¬ a = b:=fun e => hl (by rw [e])
  refine Ev.congr (f:=fun _ => some false) (fun k => ?_) ((Ev.now _).is (by rw [decide_eq_false hab]))
  unfold laws_eqIntS.f
  rw [if_neg (by omega)]
theorem toMatrix_ev (n : Int) (l : List Int) (h : l.length ≤ 1048576) : Ev (fun k => laws_toMatrix.f k n l) (n,l):=by
 refine Ev.congr (f:=?f1) (fun k => ?h1) ?k1
 case h1 => unfold laws_toMatrix.f;exact rfl
 exact Ev.bind (toIntS_ev l h) (Ev.now _)
theorem eqMatrix_ev (n : Int) (l : List Int) (h : l.length ≤ 1000000000) : Ev (fun k => laws_eqMatrix.f k n l n l) true:=by
 refine Ev.congr (f:=?f2) (fun k => ?h2) ?k2
 case h2 => unfold laws_eqMatrix.f;rw [if_pos rfl] <;> exact rfl
 exact Ev.bind (eqIntS_ev l l h) (Ev.congr (f:=fun _ => some true) (fun k => by simp) (Ev.now _))
theorem szMatrix_eq (n : Int) (l : List Int) (z : Int) (h : l.length ≤ maxLen) (h0 : 0 ≤ z) (h1 : z ≤ 1048576) : laws_szMatrix.f n l z = some (if (l.length : Int) ≤ z then z - l.length else -1):=by
 rw [maxLen_eq] at h
 unfold laws_szMatrix.f laws_szIntS.f
 rw [w64 (by omega) (by omega)]
 by_cases hl : (l.length : Int) ≤ z
 ·rw [if_neg (by omega),if_pos hl,Option.bind_some,if_neg (by omega)]
 ·rw [if_pos (by omega),if_neg hl];rfl
theorem Ev_t {α : Type} {f g : Nat → Option α} {r : α} {c : Prop} [Decidable c] (h : c) (k : Ev f r) : Ev (fun n => if c then f n else g n) r:=Ev.congr (fun n => if_pos h) k
theorem Ev_f {α : Type} {f g : Nat → Option α} {r : α} {c : Prop} [Decidable c] (h : ¬ c) (k : Ev g r) : Ev (fun n => if c then f n else g n) r:=Ev.congr (fun n => if_neg h) k
theorem Ev_sz {α : Type} {o : Option Int} {z : Int} {g : Nat → Int → Option α} {r : α} (h : o = some z) (k : Ev (fun n => g n z) r) : Ev (fun n => o.bind (g n)) r:=Ev.congr (fun n => by rw [h];rfl) k
end Go.Proofs.Ytfmbpoojpnoafaa.Y
end
section
namespace Go.Proofs.Ytfmbpoojpnoafaa.X
open Go.RowKit Go.Proofs.YtfmbpoojpnoafaaW.PrintWords Go.Proofs.YtfmbpoojpnoafaaW.PrintLast Go.Proofs.YtfmbpoojpnoafaaW.PrintMore
attribute [local go_sem] max2_int min2_int max_two min_two max_three min_three max_four min_four
set_option linter.unusedVariables false
set_option linter.unusedSimpArgs false
def impl_GradesValid_1.f (a0 : Int) : Option (Bool):=some (decide (a0 > 3))
set_option maxHeartbeats 8000000 in
set_option maxRecDepth 100000 in
theorem impl_GradesValid_1.calls (a0 : Int) (r : Bool) (w : World) (h : impl_GradesValid_1.f a0 = some r) :
  Calls Try.prog 128 #[.int .i64 a0] w fun e w' => e = .returned (.bool r) ∧ Drawn0 w w':=by
 have H : (some (decide (a0 > 3))) = some r:=h
 clear h
 obtain rfl:=Option.some.inj H
 go_enter Try.func128,Try.ntmps128
 go_wp2
 go_ret
 exact ⟨by first|rfl|(simp;done)|(simp [*];done),by repeat (first|exact Drawn0.refl _|apply Drawn0.step)⟩
def slices_ContainsFunc_int_int__impl_GradesValid_1.f (k : Nat) (l0 : List Int) : Option (Bool):=slices_ContainsFunc_int_int.f (fun y0 => impl_GradesValid_1.f  y0 ) k l0
theorem slices_ContainsFunc_int_int__impl_GradesValid_1.mono : ∀ b0 k,LeO (slices_ContainsFunc_int_int__impl_GradesValid_1.f k b0) (slices_ContainsFunc_int_int__impl_GradesValid_1.f (k + 1) b0):=by
 intro b0 k
 exact slices_ContainsFunc_int_int.monoP (fun _ => LeO.refl _) _ k
set_option maxHeartbeats 2000000 in
theorem slices_ContainsFunc_int_int__impl_GradesValid_1.calls (k : Nat) (A0 : Option Addr) (c0 : Nat) (l0 : List Int) (r : Bool) (w : World) (hr0 : Kd.C (Kd.int .i64) w A0 l0.length l0) (hc0 : l0.length ≤ c0) (h : slices_ContainsFunc_int_int__impl_GradesValid_1.f k l0 = some r) :
  Calls Try.prog 127 #[.slice A0 l0.length c0,.func (.func 128) #[] #[]] w fun e w' => e = .returned (.bool r) ∧ Below w.heap.size w w':=by
 refine slices_ContainsFunc_int_int.calls k A0 c0 l0 128 #[] #[] (fun y0 => impl_GradesValid_1.f  y0 ) r w hr0 hc0 ⟨_,Try.func128,rfl,rfl⟩ ?_ h
 intro ay0 z0 W_ hB_  h_
 refine calls_of_args (args':=#[.int .i64 ay0]) (by simp) ?_
 refine (impl_GradesValid_1.calls ay0 z0 W_  h_).mono ?_
 rintro e w' ⟨rfl,hd⟩
 exact ⟨rfl,hd.below⟩
def impl_GradesValid.f (k : Nat) (a0_0 : Int) (l0_1 : List Int) : Option (Bool):=(impl_MatrixValid.f k a0_0 l0_1).bind fun t213 => (if t213 = true then ((slices_ContainsFunc_int_int__impl_GradesValid_1.f k l0_1).bind fun t214 => (some (!t214))) else (some false))
theorem impl_GradesValid.mono : ∀ a0 a1 k,LeO (impl_GradesValid.f k a0 a1) (impl_GradesValid.f (k + 1) a0 a1):=by
 intro a0 a1 k
 unfold impl_GradesValid.f
 repeat' first
   | (with_reducible exact impl_MatrixValid.mono _ _ _)
   | (with_reducible exact slices_ContainsFunc_int_int__impl_GradesValid_1.mono _ _)
   | (with_reducible exact LeO.refl _)
   | (with_reducible exact LeO.none _)
   | (with_reducible refine LeO.ite ?_ ?_)
   | (with_reducible refine LeO.bind ?_ (fun _ => ?_))
   | exact impl_MatrixValid.mono _ _ _
   | exact slices_ContainsFunc_int_int__impl_GradesValid_1.mono _ _
   | exact LeO.none _
   | refine LeO.ite ?_ ?_
   | refine LeO.bind ?_ (fun _ => ?_)
set_option maxHeartbeats 8000000 in
set_option maxRecDepth 100000 in
theorem impl_GradesValid.calls (k : Nat) (a0_0 : Int) (A0_1 : Option Addr) (c0_1 : Nat) (l0_1 : List Int) (r : Bool) (w : World) (hr0_1 : Kd.C (Kd.int .i64) w A0_1 l0_1.length l0_1) (hc0_1 : l0_1.length ≤ c0_1) (h : impl_GradesValid.f k a0_0 l0_1 = some r) :
  Calls Try.prog 73 #[.agg #[.int .i64 a0_0,.slice A0_1 l0_1.length c0_1]] w fun e w' => e = .returned (.bool r) ∧ Below w.heap.size w w':=by
 have hu35:=Try.underlying35
 have HR0_1:=Aside0.mk hr0_1
 have HC0_1:=Aside0.mk hc0_1
 clear hr0_1 hc0_1
 have HB:=Aside0.mk (Below.refl w.heap.size w)
 have H : ((impl_MatrixValid.f k a0_0 l0_1).bind fun t213 => (if t213 = true then ((slices_ContainsFunc_int_int__impl_GradesValid_1.f k l0_1).bind fun t214 => (some (!t214))) else (some false))) = some r:=h
 clear h
 replace H:=Option.bind_eq_some_iff.mp H
 obtain ⟨t213,A20,H⟩:=H
 replace H : (if t213 = true then ((slices_ContainsFunc_int_int__impl_GradesValid_1.f k l0_1).bind fun t214 => (some (!t214))) else (some false)) = some r:=H
 have A2:=Aside0.mk A20
 clear A20
 by_cases c3 : t213 = true
 ·subst c3
  have H1 : ((slices_ContainsFunc_int_int__impl_GradesValid_1.f k l0_1).bind fun t214 => (some (!t214))) = some r:=by rw [if_pos rfl] at H;exact H
  clear H
  have H:=H1
  clear H1
  replace H:=Option.bind_eq_some_iff.mp H
  obtain ⟨t214,A40,H⟩:=H
  replace H : (some (!t214)) = some r:=H
  have A4:=Aside0.mk A40
  clear A40
  obtain rfl:=Option.some.inj H
  go_enter Try.func73,Try.ntmps73
  go_wp2_with (first|((with_reducible refine bev_ (N:=1) rfl rfl (cs:=#[.int .i64 a0_0,.slice A0_1 l0_1.length c0_1]) (t:=35) ?hr ?_);(case hr => first|(go_simp;done)|(go_simp;rfl));intro gb212 hg w5 hbox hb;have BK212:=Aside0.mk (hbox);have GW212:=Aside0.mk (szg_ hg (below_size (be0_ HB.out)));have GE212:=Aside0.mk (szg_ hg (below_size (be0_ HB.out)));replace HB:=Aside0.mk (below_step (be0_ HB.out) hb);clear hb hbox hg;obtain ⟨hcz6_0,hcz6_1,hfz6_0,hfz6_1⟩:=cf2_ BK212.out)|((with_reducible refine gate_callee (f:=126) rfl ?_);refine goesL_ (some 4) rfl rfl Try.func126 (by kernel_rfl) rfl #[.agg #[.int .i64 a0_0,.slice A0_1 l0_1.length c0_1]] rfl lp_ ?_;(with_reducible refine (impl_MatrixValid.calls k a0_0 _ _ l0_1 true _ ?side1 ?side2 A2.out).mono ?_);(case side1 => exact cr_ (Kd.C_below HR0_1.out HB.out));(case side2 => exact HC0_1.out);rintro e w7 ⟨rfl,hb⟩;refine ⟨_,rfl,?_⟩;replace BK212:=Aside0.mk (kb_ BK212.out hb);replace HB:=Aside0.mk (below_step (be1_ HB.out GE212.out) hb);(try clear hb);(try clear hb2);(try clear hk);(try clear hi);obtain ⟨hcz8_0,hcz8_1,hfz8_0,hfz8_1⟩:=cf2_ BK212.out)|(go_at_call 127;(with_reducible refine (slices_ContainsFunc_int_int__impl_GradesValid_1.calls k _ _ l0_1 t214 _ ?side1 ?side2 A4.out).mono ?_);(case side1 => exact cr_ (Kd.C_below HR0_1.out HB.out));(case side2 => exact HC0_1.out);rintro e w9 ⟨rfl,hb⟩;replace BK212:=Aside0.mk (kb_ BK212.out hb);replace HB:=Aside0.mk (below_step (be1_ HB.out GE212.out) hb);(try clear hb);(try clear hb2);(try clear hk);(try clear hi)))
  go_ret
  exact ⟨er_,be1_ HB.out GE212.out⟩
 ·replace c3:=Bool.eq_false_iff.mpr c3
  subst c3
  have H1 : (some false) = some r:=by rw [if_neg (show ¬ (false = true) by decide)] at H;exact H
  clear H
  have H:=H1
  clear H1
  obtain rfl:=Option.some.inj H
  go_enter Try.func73,Try.ntmps73
  go_wp2_with (first|((with_reducible refine bev_ (N:=1) rfl rfl (cs:=#[.int .i64 a0_0,.slice A0_1 l0_1.length c0_1]) (t:=35) ?hr ?_);(case hr => first|(go_simp;done)|(go_simp;rfl));intro gb212 hg w10 hbox hb;have BK212:=Aside0.mk (hbox);have GW212:=Aside0.mk (szg_ hg (below_size (be0_ HB.out)));have GE212:=Aside0.mk (szg_ hg (below_size (be0_ HB.out)));replace HB:=Aside0.mk (below_step (be0_ HB.out) hb);clear hb hbox hg;obtain ⟨hcz11_0,hcz11_1,hfz11_0,hfz11_1⟩:=cf2_ BK212.out)|((with_reducible refine gate_callee (f:=126) rfl ?_);refine goesL_ (some 4) rfl rfl Try.func126 (by kernel_rfl) rfl #[.agg #[.int .i64 a0_0,.slice A0_1 l0_1.length c0_1]] rfl lp_ ?_;(with_reducible refine (impl_MatrixValid.calls k a0_0 _ _ l0_1 false _ ?side1 ?side2 A2.out).mono ?_);(case side1 => exact cr_ (Kd.C_below HR0_1.out HB.out));(case side2 => exact HC0_1.out);rintro e w12 ⟨rfl,hb⟩;refine ⟨_,rfl,?_⟩;replace BK212:=Aside0.mk (kb_ BK212.out hb);replace HB:=Aside0.mk (below_step (be1_ HB.out GE212.out) hb);(try clear hb);(try clear hb2);(try clear hk);(try clear hi)))
  go_ret
  exact ⟨er_,be1_ HB.out GE212.out⟩
def spec_CostValid.f (a0 : Int) : Option (Bool):=(spec_l1In.f a0 0 1000000).bind fun t128 => (some t128)
set_option maxHeartbeats 8000000 in
set_option maxRecDepth 100000 in
theorem spec_CostValid.calls (a0 : Int) (r : Bool) (w : World) (h : spec_CostValid.f a0 = some r) :
  Calls Try.prog 178 #[.int .i64 a0] w fun e w' => e = .returned (.bool r) ∧ Drawn0 w w':=by
 have H : ((spec_l1In.f a0 0 1000000).bind fun t128 => (some t128)) = some r:=h
 clear h
 replace H:=Option.bind_eq_some_iff.mp H
 obtain ⟨t128,A20,H⟩:=H
 replace H : (some t128) = some r:=H
 have A2:=Aside0.mk A20
 clear A20
 obtain rfl:=Option.some.inj H
 go_enter Try.func178,Try.ntmps178
 go_wp2_with (first|((with_reducible refine gate_callee (f:=90) rfl ?_);refine goesL_ (some 4) rfl rfl Try.func90 (by kernel_rfl) rfl #[.int .i64 a0,.int .i64 0,.int .i64 1000000] rfl lp_ ?_;(with_reducible refine (spec_l1In.calls a0 0 1000000 t128 _ A2.out).mono ?_);rintro e w' ⟨rfl,⟨nd,rfl⟩⟩;refine ⟨_,rfl,?_⟩))
 go_ret
 exact ⟨by first|rfl|(simp;done)|(simp [*];done),by repeat (first|exact Drawn0.refl _|apply Drawn0.step)⟩
def spec_l1All.l0 : Nat → List Int → Int → Int → Option (Bool)
 | 0,_,_,_ => none
 | k + 1,x5,x6,x7 => if x7 < x6 then (if 0 ≤ x7 then (if x7 < (x5.length : Int) then ((spec_CostValid.f (rd x5 x7)).bind fun t130 => (if t130 = true then (spec_l1All.l0 k x5 x6 (wrap64 (x7 + 1))) else (some false))) else (none)) else (none)) else (some true)
def spec_l1All.f (k : Nat) (l0 : List Int) : Option (Bool):=spec_l1All.l0 k l0 (l0.length : Int) 0
theorem spec_l1All.mono_l : ∀ k,(∀ y0 y1 y2,LeO (spec_l1All.l0 k y0 y1 y2) (spec_l1All.l0 (k + 1) y0 y1 y2))
 | 0 => fun _ _ _ r h => by simp [spec_l1All.l0] at h
 | k + 1 => by
  have ih0:=spec_l1All.mono_l k
  ·intro y0 y1 y2
   unfold spec_l1All.l0
   repeat' first
   | (with_reducible exact ih0 _ _ _)
   | (with_reducible exact LeO.refl _)
   | (with_reducible exact LeO.none _)
   | (with_reducible refine LeO.ite ?_ ?_)
   | (with_reducible refine LeO.bind ?_ (fun _ => ?_))
   | exact ih0 _ _ _
   | exact LeO.none _
   | refine LeO.ite ?_ ?_
   | refine LeO.bind ?_ (fun _ => ?_)
theorem spec_l1All.mono : ∀ a0 k,LeO (spec_l1All.f k a0) (spec_l1All.f (k + 1) a0):=by
 intro a0 k
 have ih0:=spec_l1All.mono_l k
 unfold spec_l1All.f
 repeat' first
   | (with_reducible exact ih0 _ _ _)
   | (with_reducible exact LeO.refl _)
   | (with_reducible exact LeO.none _)
   | (with_reducible refine LeO.ite ?_ ?_)
   | (with_reducible refine LeO.bind ?_ (fun _ => ?_))
   | exact ih0 _ _ _
   | exact LeO.none _
   | refine LeO.ite ?_ ?_
   | refine LeO.bind ?_ (fun _ => ?_)
set_option maxHeartbeats 8000000 in
set_option maxRecDepth 100000 in
theorem spec_l1All.calls (k : Nat) (A0 : Option Addr) (c0 : Nat) (l0 : List Int) (r : Bool) (w : World) (hr0 : Kd.C (Kd.int .i64) w A0 l0.length l0) (hc0 : l0.length ≤ c0) (h : spec_l1All.f k l0 = some r) :
  Calls Try.prog 159 #[.slice A0 l0.length c0] w fun e w' => e = .returned (.bool r) ∧ Drawn0 w w':=by
 have HR0:=Aside0.mk hr0
 have HC0:=Aside0.mk hc0
 clear hr0 hc0
 have H : (spec_l1All.l0 k l0 (l0.length : Int) 0) = some r:=h
 clear h
 have H':=Aside0.mk H
 clear H
 go_enter Try.func159,Try.ntmps159
 go_wp2
 go_loopg [7] k (fun kq v7 w' => ∃ (x7_1 : Int),v7 = .int .i64 x7_1 ∧ Aside0 (spec_l1All.l0 kq l0 (l0.length : Int) x7_1 = some r) ∧ Aside0 (kq ≤ k) ∧ Drawn0 w w')
 case atStart => exact ⟨(0),rs_,H',⟨Nat.le_refl _⟩,by repeat (first|exact Drawn0.refl _|apply Drawn0.step)⟩
 case round =>
  clear H'
  try clear c1
  obtain ⟨x7_1,rfl,HA,HK1,⟨m1,rfl⟩⟩:=hrel
  cases gk with
  | zero => exact absurd HA.out (by simp [spec_l1All.l0])
  | succ k1 =>
   have H:=HA.out
   clear HA
   simp only [spec_l1All.l0] at H
   by_cases c2 : x7_1 < (l0.length : Int)
   ·rw [if_pos c2] at H
    have c2b0 : decide (x7_1 < (l0.length : Int)) = true:=decide_eq_true c2
    clear c2
    by_cases c3 : 0 ≤ x7_1
    ·rw [if_pos c3] at H
     have c3b0 : decide (0 ≤ x7_1) = true:=decide_eq_true c3
     clear c3
     by_cases c4 : x7_1 < (l0.length : Int)
     ·rw [if_pos c4] at H
      have c4b0 : decide (x7_1 < (l0.length : Int)) = true:=decide_eq_true c4
      clear c4
      replace H:=Option.bind_eq_some_iff.mp H
      obtain ⟨t130,A50,H⟩:=H
      replace H : (if t130 = true then (spec_l1All.l0 k1 l0 (l0.length : Int) (wrap64 (x7_1 + 1))) else (some false)) = some r:=H
      have A5:=Aside0.mk A50
      clear A50
      by_cases c6 : t130 = true
      ·subst c6
       have H1 : (spec_l1All.l0 k1 l0 (l0.length : Int) (wrap64 (x7_1 + 1))) = some r:=by rw [if_pos rfl] at H;exact H
       clear H
       have H:=H1
       clear H1
       have H':=Aside0.mk H
       clear H
       have p129 : 0 ≤ (x7_1 : Int):=of_decide_eq_true (by first|(with_reducible assumption)|assumption)
       have q129 : x7_1 < (l0.length : Int):=of_decide_eq_true (by first|(with_reducible assumption)|assumption)
       obtain ⟨ad129,e129,hx129_0⟩:=Kd.at_int HR0.out x7_1 p129 q129
       cases e129
       replace p129:=eq_true p129
       replace q129:=eq_true q129
       go_wp2_with (first|((with_reducible refine gate_callee (f:=178) rfl ?_);refine goesL_ (some 12) rfl rfl Try.func178 (by kernel_rfl) rfl #[.int .i64 (rd l0 x7_1)] rfl lp_ ?_;(with_reducible refine (spec_CostValid.calls (rd l0 x7_1) true _ A5.out).mono ?_);rintro e w' ⟨rfl,⟨nd,rfl⟩⟩;refine ⟨_,rfl,?_⟩))
       go_roundg k1
       case measure => have:=HK1.out;omega
       case rel => exact ⟨(wrap64 (x7_1 + 1)),rs_,H',⟨by have:=HK1.out;omega⟩,by repeat (first|exact Drawn0.refl _|apply Drawn0.step)⟩
      ·replace c6:=Bool.eq_false_iff.mpr c6
       subst c6
       have H1 : (some false) = some r:=by rw [if_neg (show ¬ (false = true) by decide)] at H;exact H
       clear H
       have H:=H1
       clear H1
       obtain rfl:=Option.some.inj H
       have p129 : 0 ≤ (x7_1 : Int):=of_decide_eq_true (by first|(with_reducible assumption)|assumption)
       have q129 : x7_1 < (l0.length : Int):=of_decide_eq_true (by first|(with_reducible assumption)|assumption)
       obtain ⟨ad129,e129,hx129_0⟩:=Kd.at_int HR0.out x7_1 p129 q129
       cases e129
       replace p129:=eq_true p129
       replace q129:=eq_true q129
       go_wp2_with (first|((with_reducible refine gate_callee (f:=178) rfl ?_);refine goesL_ (some 12) rfl rfl Try.func178 (by kernel_rfl) rfl #[.int .i64 (rd l0 x7_1)] rfl lp_ ?_;(with_reducible refine (spec_CostValid.calls (rd l0 x7_1) false _ A5.out).mono ?_);rintro e w' ⟨rfl,⟨nd,rfl⟩⟩;refine ⟨_,rfl,?_⟩))
       go_ret
       exact ⟨by first|rfl|(simp;done)|(simp [*];done),by repeat (first|exact Drawn0.refl _|apply Drawn0.step)⟩
     ·rw [if_neg c4] at H
      exact absurd H (by simp)
    ·rw [if_neg c3] at H
     exact absurd H (by simp)
   ·rw [if_neg c2] at H
    have c2b0 : decide (x7_1 < (l0.length : Int)) = false:=decide_eq_false c2
    clear c2
    obtain rfl:=Option.some.inj H
    go_wp2
    go_ret
    exact ⟨by first|rfl|(simp;done)|(simp [*];done),by repeat (first|exact Drawn0.refl _|apply Drawn0.step)⟩
def spec_MatrixValid.f (k : Nat) (a0_0 : Int) (l0_1 : List Int) : Option (Bool):=(spec_l1In.f a0_0 1 4).bind fun t132 => (if t132 = true then (if (l0_1.length : Int) = (wrap64 (a0_0 * a0_0)) then ((spec_l1All.f k l0_1).bind fun t133 => (some t133)) else (some false)) else (some false))
theorem spec_MatrixValid.mono : ∀ a0 a1 k,LeO (spec_MatrixValid.f k a0 a1) (spec_MatrixValid.f (k + 1) a0 a1):=by
 intro a0 a1 k
 unfold spec_MatrixValid.f
 repeat' first
   | (with_reducible exact spec_l1All.mono _ _)
   | (with_reducible exact LeO.refl _)
   | (with_reducible exact LeO.none _)
   | (with_reducible refine LeO.ite ?_ ?_)
   | (with_reducible refine LeO.bind ?_ (fun _ => ?_))
   | exact spec_l1All.mono _ _
   | exact LeO.none _
   | refine LeO.ite ?_ ?_
   | refine LeO.bind ?_ (fun _ => ?_)
set_option maxHeartbeats 8000000 in
set_option maxRecDepth 100000 in
theorem spec_MatrixValid.calls (k : Nat) (a0_0 : Int) (A0_1 : Option Addr) (c0_1 : Nat) (l0_1 : List Int) (r : Bool) (w : World) (hr0_1 : Kd.C (Kd.int .i64) w A0_1 l0_1.length l0_1) (hc0_1 : l0_1.length ≤ c0_1) (h : spec_MatrixValid.f k a0_0 l0_1 = some r) :
  Calls Try.prog 122 #[.agg #[.int .i64 a0_0,.slice A0_1 l0_1.length c0_1]] w fun e w' => e = .returned (.bool r) ∧ Below w.heap.size w w':=by
 have hu35:=Try.underlying35
 have HR0_1:=Aside0.mk hr0_1
 have HC0_1:=Aside0.mk hc0_1
 clear hr0_1 hc0_1
 have HB:=Aside0.mk (Below.refl w.heap.size w)
 have H : ((spec_l1In.f a0_0 1 4).bind fun t132 => (if t132 = true then (if (l0_1.length : Int) = (wrap64 (a0_0 * a0_0)) then ((spec_l1All.f k l0_1).bind fun t133 => (some t133)) else (some false)) else (some false))) = some r:=h
 clear h
 replace H:=Option.bind_eq_some_iff.mp H
 obtain ⟨t132,A20,H⟩:=H
 replace H : (if t132 = true then (if (l0_1.length : Int) = (wrap64 (a0_0 * a0_0)) then ((spec_l1All.f k l0_1).bind fun t133 => (some t133)) else (some false)) else (some false)) = some r:=H
 have A2:=Aside0.mk A20
 clear A20
 by_cases c3 : t132 = true
 ·subst c3
  have H1 : (if (l0_1.length : Int) = (wrap64 (a0_0 * a0_0)) then ((spec_l1All.f k l0_1).bind fun t133 => (some t133)) else (some false)) = some r:=by rw [if_pos rfl] at H;exact H
  clear H
  have H:=H1
  clear H1
  by_cases c4 : (l0_1.length : Int) = (wrap64 (a0_0 * a0_0))
  ·rw [if_pos c4] at H
   have c4b0 : ((l0_1.length : Int) == (wrap64 (a0_0 * a0_0))) = true:=beq_iff_eq.mpr c4
   have c4b1 : ((l0_1.length : Int) != (wrap64 (a0_0 * a0_0))) = false:=bne_eq_false_iff_eq.mpr c4
   clear c4
   replace H:=Option.bind_eq_some_iff.mp H
   obtain ⟨t133,A50,H⟩:=H
   replace H : (some t133) = some r:=H
   have A5:=Aside0.mk A50
   clear A50
   obtain rfl:=Option.some.inj H
   go_enter Try.func122,Try.ntmps122
   go_wp2_with (first|((with_reducible refine gate_dst (N:=1) rfl ?_);(try (refine gate_guard (by rfl) ?_;dsimp only));refine box_event ?hg (N:=1) ?hd (cs:=#[.int .i64 a0_0,.slice A0_1 l0_1.length c0_1]) (t:=35) ?hr ?_;(case hd => rfl);(case hg => rfl);(case hr => first|(go_simp;done)|(go_simp;rfl));intro gb131 hg w6 hbox hb;have BK131:=Aside0.mk (hbox);have GW131:=Aside0.mk (szg_ hg (below_size (be0_ HB.out)));have GE131:=Aside0.mk (szg_ hg (below_size (be0_ HB.out)));replace HB:=Aside0.mk (below_step (be0_ HB.out) hb);clear hb hbox hg;obtain ⟨hcz7_0,hcz7_1,hfz7_0,hfz7_1⟩:=cf2_ BK131.out)|((with_reducible refine gate_callee (f:=90) rfl ?_);refine goesL_ (some 5) rfl rfl Try.func90 (by kernel_rfl) rfl #[.int .i64 a0_0,.int .i64 1,.int .i64 4] rfl lp_ ?_;(with_reducible refine (spec_l1In.calls a0_0 1 4 true _ A2.out).mono ?_);rintro e w' ⟨rfl,⟨nd,rfl⟩⟩;refine ⟨_,rfl,?_⟩)|(go_at_call 159;(with_reducible refine (spec_l1All.calls k _ _ l0_1 t133 _ ?side1 ?side2 A5.out).mono ?_);(case side1 => exact cr_ (Kd.C_below HR0_1.out (be1_ HB.out GE131.out)));(case side2 => exact HC0_1.out);rintro e w' ⟨rfl,⟨nd,rfl⟩⟩))
   go_ret
   exact ⟨er_,be1_ HB.out GE131.out⟩
  ·rw [if_neg c4] at H
   have c4b0 : ((l0_1.length : Int) == (wrap64 (a0_0 * a0_0))) = false:=beq_eq_false_iff_ne.mpr c4
   have c4b1 : ((l0_1.length : Int) != (wrap64 (a0_0 * a0_0))) = true:=bne_iff_ne.mpr c4
   obtain rfl:=Option.some.inj H
   go_enter Try.func122,Try.ntmps122
   go_wp2_with (first|((with_reducible refine gate_dst (N:=1) rfl ?_);(try (refine gate_guard (by rfl) ?_;dsimp only));refine box_event ?hg (N:=1) ?hd (cs:=#[.int .i64 a0_0,.slice A0_1 l0_1.length c0_1]) (t:=35) ?hr ?_;(case hd => rfl);(case hg => rfl);(case hr => first|(go_simp;done)|(go_simp;rfl));intro gb131 hg w8 hbox hb;have BK131:=Aside0.mk (hbox);have GW131:=Aside0.mk (szg_ hg (below_size (be0_ HB.out)));have GE131:=Aside0.mk (szg_ hg (below_size (be0_ HB.out)));replace HB:=Aside0.mk (below_step (be0_ HB.out) hb);clear hb hbox hg;obtain ⟨hcz9_0,hcz9_1,hfz9_0,hfz9_1⟩:=cf2_ BK131.out)|((with_reducible refine gate_callee (f:=90) rfl ?_);refine goesL_ (some 5) rfl rfl Try.func90 (by kernel_rfl) rfl #[.int .i64 a0_0,.int .i64 1,.int .i64 4] rfl lp_ ?_;(with_reducible refine (spec_l1In.calls a0_0 1 4 true _ A2.out).mono ?_);rintro e w' ⟨rfl,⟨nd,rfl⟩⟩;refine ⟨_,rfl,?_⟩))
   go_ret
   exact ⟨er_,be1_ HB.out GE131.out⟩
 ·replace c3:=Bool.eq_false_iff.mpr c3
  subst c3
  have H1 : (some false) = some r:=by rw [if_neg (show ¬ (false = true) by decide)] at H;exact H
  clear H
  have H:=H1
  clear H1
  obtain rfl:=Option.some.inj H
  go_enter Try.func122,Try.ntmps122
  go_wp2_with (first|((with_reducible refine gate_dst (N:=1) rfl ?_);(try (refine gate_guard (by rfl) ?_;dsimp only));refine box_event ?hg (N:=1) ?hd (cs:=#[.int .i64 a0_0,.slice A0_1 l0_1.length c0_1]) (t:=35) ?hr ?_;(case hd => rfl);(case hg => rfl);(case hr => first|(go_simp;done)|(go_simp;rfl));intro gb131 hg w10 hbox hb;have BK131:=Aside0.mk (hbox);have GW131:=Aside0.mk (szg_ hg (below_size (be0_ HB.out)));have GE131:=Aside0.mk (szg_ hg (below_size (be0_ HB.out)));replace HB:=Aside0.mk (below_step (be0_ HB.out) hb);clear hb hbox hg;obtain ⟨hcz11_0,hcz11_1,hfz11_0,hfz11_1⟩:=cf2_ BK131.out)|((with_reducible refine gate_callee (f:=90) rfl ?_);refine goesL_ (some 5) rfl rfl Try.func90 (by kernel_rfl) rfl #[.int .i64 a0_0,.int .i64 1,.int .i64 4] rfl lp_ ?_;(with_reducible refine (spec_l1In.calls a0_0 1 4 false _ A2.out).mono ?_);rintro e w' ⟨rfl,⟨nd,rfl⟩⟩;refine ⟨_,rfl,?_⟩))
  go_ret
  exact ⟨er_,be1_ HB.out GE131.out⟩
def spec_GradesValid.l0 : Nat → List Int → Int → Int → Int → List Int → Option (Bool)
 | 0,_,_,_,_,_ => none
 | k + 1,x6,x7,x8,x135000,x135001 => if x8 < x7 then (if 0 ≤ x8 then (if x8 < (x6.length : Int) then ((spec_l1In.f (rd x6 x8) 0 3).bind fun t136 => (if t136 = true then (spec_GradesValid.l0 k x6 x7 (wrap64 (x8 + 1)) x135000 x135001) else (some false))) else (none)) else (none)) else ((spec_MatrixValid.f k x135000 x135001).bind fun t137 => (some t137))
def spec_GradesValid.f (k : Nat) (a0_0 : Int) (l0_1 : List Int) : Option (Bool):=spec_GradesValid.l0 k l0_1 (l0_1.length : Int) 0 a0_0 l0_1
theorem spec_GradesValid.mono_l : ∀ k,(∀ y0 y1 y2 y3 y4,LeO (spec_GradesValid.l0 k y0 y1 y2 y3 y4) (spec_GradesValid.l0 (k + 1) y0 y1 y2 y3 y4))
 | 0 => fun _ _ _ _ _ r h => by simp [spec_GradesValid.l0] at h
 | k + 1 => by
  have ih0:=spec_GradesValid.mono_l k
  ·intro y0 y1 y2 y3 y4
   unfold spec_GradesValid.l0
   repeat' first
   | (with_reducible exact ih0 _ _ _ _ _)
   | (with_reducible exact spec_MatrixValid.mono _ _ _)
   | (with_reducible exact LeO.refl _)
   | (with_reducible exact LeO.none _)
   | (with_reducible refine LeO.ite ?_ ?_)
   | (with_reducible refine LeO.bind ?_ (fun _ => ?_))
   | exact ih0 _ _ _ _ _
   | exact spec_MatrixValid.mono _ _ _
   | exact LeO.none _
   | refine LeO.ite ?_ ?_
   | refine LeO.bind ?_ (fun _ => ?_)
theorem spec_GradesValid.mono : ∀ a0 a1 k,LeO (spec_GradesValid.f k a0 a1) (spec_GradesValid.f (k + 1) a0 a1):=by
 intro a0 a1 k
 have ih0:=spec_GradesValid.mono_l k
 unfold spec_GradesValid.f
 repeat' first
   | (with_reducible exact ih0 _ _ _ _ _)
   | (with_reducible exact spec_MatrixValid.mono _ _ _)
   | (with_reducible exact LeO.refl _)
   | (with_reducible exact LeO.none _)
   | (with_reducible refine LeO.ite ?_ ?_)
   | (with_reducible refine LeO.bind ?_ (fun _ => ?_))
   | exact ih0 _ _ _ _ _
   | exact spec_MatrixValid.mono _ _ _
   | exact LeO.none _
   | refine LeO.ite ?_ ?_
   | refine LeO.bind ?_ (fun _ => ?_)
set_option maxHeartbeats 8000000 in
set_option maxRecDepth 100000 in
theorem spec_GradesValid.calls (k : Nat) (a0_0 : Int) (A0_1 : Option Addr) (c0_1 : Nat) (l0_1 : List Int) (r : Bool) (w : World) (hr0_1 : Kd.C (Kd.int .i64) w A0_1 l0_1.length l0_1) (hc0_1 : l0_1.length ≤ c0_1) (h : spec_GradesValid.f k a0_0 l0_1 = some r) :
  Calls Try.prog 68 #[.agg #[.int .i64 a0_0,.slice A0_1 l0_1.length c0_1]] w fun e w' => e = .returned (.bool r) ∧ Below w.heap.size w w':=by
 have hu35:=Try.underlying35
 have HR0_1:=Aside0.mk hr0_1
 have HC0_1:=Aside0.mk hc0_1
 clear hr0_1 hc0_1
 have HB:=Aside0.mk (Below.refl w.heap.size w)
 have H : (spec_GradesValid.l0 k l0_1 (l0_1.length : Int) 0 a0_0 l0_1) = some r:=h
 clear h
 have H':=Aside0.mk H
 clear H
 go_enter Try.func68,Try.ntmps68
 go_wp2_with (first|((with_reducible refine bev_ (N:=1) rfl rfl (cs:=#[.int .i64 a0_0,.slice A0_1 l0_1.length c0_1]) (t:=35) ?hr ?_);(case hr => first|(go_simp;done)|(go_simp;rfl));intro gb134 hg w2 hbox hb;have BK134:=Aside0.mk (hbox);have GW134:=Aside0.mk (szg_ hg (below_size (be0_ HB.out)));have GE134:=Aside0.mk (szg_ hg (below_size (be0_ HB.out)));replace HB:=Aside0.mk (below_step (be0_ HB.out) hb);clear hb hbox hg;obtain ⟨hcz3_0,hcz3_1,hfz3_0,hfz3_1⟩:=cf2_ BK134.out))
 go_loopg [8] k (fun kq v8 w' => ∃ (x8_1 : Int),v8 = .int .i64 x8_1 ∧ Aside0 (spec_GradesValid.l0 kq l0_1 (l0_1.length : Int) x8_1 a0_0 l0_1 = some r) ∧ Aside0 (kq ≤ k) ∧ Aside0 (w'.heap[gb134]? = some (.cells #[.int .i64 a0_0,(.slice A0_1 l0_1.length c0_1)] 35 (0,0))) ∧ Aside0 (Below w.heap.size w w'))
 case atStart => exact ⟨(0),rs_,H',⟨Nat.le_refl _⟩,⟨pe_ BK134.out⟩,⟨be1_ HB.out GE134.out⟩⟩
 case round =>
  clear H'
  try clear p2
  try clear hcz3_0
  try clear hcz3_1
  try clear hfz3_0
  try clear hfz3_1
  obtain ⟨x8_1,rfl,HA,HK1,BK134,HB⟩:=hrel
  cases gk with
  | zero => exact absurd HA.out (by simp [spec_GradesValid.l0])
  | succ k1 =>
   have H:=HA.out
   clear HA
   simp only [spec_GradesValid.l0] at H
   by_cases c4 : x8_1 < (l0_1.length : Int)
   ·rw [if_pos c4] at H
    have c4b0 : decide (x8_1 < (l0_1.length : Int)) = true:=decide_eq_true c4
    clear c4
    by_cases c5 : 0 ≤ x8_1
    ·rw [if_pos c5] at H
     have c5b0 : decide (0 ≤ x8_1) = true:=decide_eq_true c5
     clear c5
     by_cases c6 : x8_1 < (l0_1.length : Int)
     ·rw [if_pos c6] at H
      have c6b0 : decide (x8_1 < (l0_1.length : Int)) = true:=decide_eq_true c6
      clear c6
      replace H:=Option.bind_eq_some_iff.mp H
      obtain ⟨t136,A70,H⟩:=H
      replace H : (if t136 = true then (spec_GradesValid.l0 k1 l0_1 (l0_1.length : Int) (wrap64 (x8_1 + 1)) a0_0 l0_1) else (some false)) = some r:=H
      have A7:=Aside0.mk A70
      clear A70
      by_cases c8 : t136 = true
      ·subst c8
       have H1 : (spec_GradesValid.l0 k1 l0_1 (l0_1.length : Int) (wrap64 (x8_1 + 1)) a0_0 l0_1) = some r:=by rw [if_pos rfl] at H;exact H
       clear H
       have H:=H1
       clear H1
       have H':=Aside0.mk H
       clear H
       have p135 : 0 ≤ (x8_1 : Int):=of_decide_eq_true (by first|(with_reducible assumption)|assumption)
       have q135 : x8_1 < (l0_1.length : Int):=of_decide_eq_true (by first|(with_reducible assumption)|assumption)
       obtain ⟨ad135,e135,hx135_0⟩:=Kd.at_int HR0_1.out x8_1 p135 q135
       cases e135
       replace hx135_0:=hbc_ HB.out hx135_0
       replace p135:=eq_true p135
       replace q135:=eq_true q135
       go_wp2_with (first|((with_reducible refine gate_callee (f:=90) rfl ?_);refine goesL_ (some 13) rfl rfl Try.func90 (by kernel_rfl) rfl #[.int .i64 (rd l0_1 x8_1),.int .i64 0,.int .i64 3] rfl lp_ ?_;(with_reducible refine (spec_l1In.calls (rd l0_1 x8_1) 0 3 true _ A7.out).mono ?_);rintro e w' ⟨rfl,⟨nd,rfl⟩⟩;refine ⟨_,rfl,?_⟩))
       go_roundg k1
       case measure => have:=HK1.out;omega
       case rel => exact ⟨(wrap64 (x8_1 + 1)),rs_,H',⟨by have:=HK1.out;omega⟩,⟨pe_ BK134.out⟩,⟨be1_ HB.out GE134.out⟩⟩
      ·replace c8:=Bool.eq_false_iff.mpr c8
       subst c8
       have H1 : (some false) = some r:=by rw [if_neg (show ¬ (false = true) by decide)] at H;exact H
       clear H
       have H:=H1
       clear H1
       obtain rfl:=Option.some.inj H
       have p135 : 0 ≤ (x8_1 : Int):=of_decide_eq_true (by first|(with_reducible assumption)|assumption)
       have q135 : x8_1 < (l0_1.length : Int):=of_decide_eq_true (by first|(with_reducible assumption)|assumption)
       obtain ⟨ad135,e135,hx135_0⟩:=Kd.at_int HR0_1.out x8_1 p135 q135
       cases e135
       replace hx135_0:=hbc_ HB.out hx135_0
       replace p135:=eq_true p135
       replace q135:=eq_true q135
       go_wp2_with (first|((with_reducible refine gate_callee (f:=90) rfl ?_);refine goesL_ (some 13) rfl rfl Try.func90 (by kernel_rfl) rfl #[.int .i64 (rd l0_1 x8_1),.int .i64 0,.int .i64 3] rfl lp_ ?_;(with_reducible refine (spec_l1In.calls (rd l0_1 x8_1) 0 3 false _ A7.out).mono ?_);rintro e w' ⟨rfl,⟨nd,rfl⟩⟩;refine ⟨_,rfl,?_⟩))
       go_ret
       exact ⟨er_,be1_ HB.out GE134.out⟩
     ·rw [if_neg c6] at H
      exact absurd H (by simp)
    ·rw [if_neg c5] at H
     exact absurd H (by simp)
   ·rw [if_neg c4] at H
    have c4b0 : decide (x8_1 < (l0_1.length : Int)) = false:=decide_eq_false c4
    clear c4
    replace H:=Option.bind_eq_some_iff.mp H
    obtain ⟨t137,A90,H⟩:=H
    replace H : (some t137) = some r:=H
    have A9:=Aside0.mk A90
    clear A90
    obtain rfl:=Option.some.inj H
    obtain ⟨hcz10_0,hcz10_1,hfz10_0,hfz10_1⟩:=cf2_ BK134.out
    go_wp2_with (first|((with_reducible refine gate_callee (f:=122) rfl ?_);refine goesL_ (some 17) rfl rfl Try.func122 (by kernel_rfl) rfl #[.agg #[.int .i64 a0_0,.slice A0_1 l0_1.length c0_1]] rfl lp_ ?_;(with_reducible refine (spec_MatrixValid.calls k1 a0_0 _ _ l0_1 t137 _ ?side1 ?side2 A9.out).mono ?_);(case side1 => exact cr_ (Kd.C_below HR0_1.out HB.out));(case side2 => exact HC0_1.out);rintro e w11 ⟨rfl,hb⟩;refine ⟨_,rfl,?_⟩;replace BK134:=Aside0.mk (kb_ BK134.out hb);replace HB:=Aside0.mk (below_step (be1_ HB.out GE134.out) hb);(try clear hb);(try clear hb2);(try clear hk);(try clear hi)))
    go_ret
    exact ⟨er_,be1_ HB.out GE134.out⟩
end Go.Proofs.Ytfmbpoojpnoafaa.X
end
