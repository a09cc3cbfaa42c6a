import Derived.Test.YtfmbpoojpnoafaaKFnExactGradeBetween1
import Derived.Test.YtfmbpoojpnoafaaKFnExactGradeBetween3
import Derived.Test.YtfmbpoojpnoafaaKFnExactGradeBetween4
import Derived.Deep.Slices
import Derived.Deep.Fields
import Derived.ChangeSame
import Derived.Lib.SmallJoins
import Derived.ChangeSlices
import Derived.Test.YtfmbpoojpnoafaaKFnExactGradeBetween2
import Derived.Lib.Bytealg
section
namespace Go.Proofs.Ytfmbpoojpnoafaa.X
open Go.RowKit Go.Proofs.YtfmbpoojpnoafaaW.PrintWords Go.Proofs.YtfmbpoojpnoafaaW.PrintLast Go.Proofs.YtfmbpoojpnoafaaW.PrintMore
attribute [local go_sem] max2_int min2_int max_two min_two max_three min_three max_four min_four
set_option linter.unusedVariables false
set_option linter.unusedSimpArgs false
mutual
def laws_FnExactGradeBetween.j0 : Nat → Int → Int → List Int → List Int → List (S118) → Int → List Int → Option (Bool)
 | 0,_,_,_,_,_,_,_ => none
 | k + 1,x5,x240000,x240001,x240002,x240003,x241000,x241001 => (laws_szMatrix.f x241000 x241001 x5).bind fun t242 => (if t242 < 0 then (some true) else (laws_FnExactGradeBetween.j1 k x240000 x240001 x240002 x240003 x241000 x241001))
def laws_FnExactGradeBetween.j1 : Nat → Int → List Int → List Int → List (S118) → Int → List Int → Option (Bool)
 | 0,_,_,_,_,_,_ => none
 | k + 1,x240000,x240001,x240002,x240003,x241000,x241001 => (laws_toAutomaton.f k x240000 x240001 x240002 x240003).bind fun bt243 => ((laws_toMatrix.f k x241000 x241001).bind fun bt253 => ((spec_GradeBetween.f k bt243.1 bt243.2.1 bt243.2.2.1 bt243.2.2.2 bt253.1 bt253.2).bind fun t257 => ((laws_toAutomaton.f k x240000 x240001 x240002 x240003).bind fun bt258 => ((laws_toMatrix.f k x241000 x241001).bind fun bt269 => ((impl_GradeBetween.f k bt258.1 bt258.2.1 bt258.2.2.1 bt258.2.2.2 bt269.1 bt269.2).bind fun t274 => (if t274 = t257 then (laws_FnExactGradeBetween.j2 k x240000 x240001 x240002 x240003 x241000 x241001 bt258.1 bt258.2.1 bt258.2.2.1 bt258.2.2.2 bt269.1 bt269.2) else (some false)))))))
def laws_FnExactGradeBetween.j2 : Nat → Int → List Int → List Int → List (S118) → Int → List Int → Int → List Int → List Int → List (S92) → Int → List Int → Option (Bool)
 | 0,_,_,_,_,_,_,_,_,_,_,_,_ => none
 | k + 1,x240000,x240001,x240002,x240003,x241000,x241001,x269000,x269001,x269002,x269003,x274000,x274001 => (laws_toAutomaton.f k x240000 x240001 x240002 x240003).bind fun bt275 => ((laws_eqAutomaton.f k x269000 x269001 x269002 x269003 bt275.1 bt275.2.1 bt275.2.2.1 bt275.2.2.2).bind fun t285 => (if t285 = true then (laws_FnExactGradeBetween.j3 k x241000 x241001 x274000 x274001) else (some false)))
def laws_FnExactGradeBetween.j3 : Nat → Int → List Int → Int → List Int → Option (Bool)
 | 0,_,_,_,_ => none
 | k + 1,x241000,x241001,x274000,x274001 => (laws_toMatrix.f k x241000 x241001).bind fun bt286 => ((laws_eqMatrix.f k x274000 x274001 bt286.1 bt286.2).bind fun t290 => (if t290 = true then (some true) else (some false)))
end
def laws_FnExactGradeBetween.f (k : Nat) (a0_0 : Int) (l0_1 : List Int) (l0_2 : List Int) (l0_3 : List (S118)) (a1_0 : Int) (l1_1 : List Int) : Option (Bool):=(laws_szAutomaton.f k a0_0 l0_1 l0_2 l0_3 1048576).bind fun t241 => (if t241 < 0 then (some true) else (laws_FnExactGradeBetween.j0 k t241 a0_0 l0_1 l0_2 l0_3 a1_0 l1_1))
theorem laws_FnExactGradeBetween.mono_l : ∀ k,(∀ y0 y1 y2 y3 y4 y5 y6,LeO (laws_FnExactGradeBetween.j0 k y0 y1 y2 y3 y4 y5 y6) (laws_FnExactGradeBetween.j0 (k + 1) y0 y1 y2 y3 y4 y5 y6)) ∧ (∀ y0 y1 y2 y3 y4 y5,LeO (laws_FnExactGradeBetween.j1 k y0 y1 y2 y3 y4 y5) (laws_FnExactGradeBetween.j1 (k + 1) y0 y1 y2 y3 y4 y5)) ∧ (∀ y0 y1 y2 y3 y4 y5 y6 y7 y8 y9 y10 y11,LeO (laws_FnExactGradeBetween.j2 k y0 y1 y2 y3 y4 y5 y6 y7 y8 y9 y10 y11) (laws_FnExactGradeBetween.j2 (k + 1) y0 y1 y2 y3 y4 y5 y6 y7 y8 y9 y10 y11)) ∧ (∀ y0 y1 y2 y3,LeO (laws_FnExactGradeBetween.j3 k y0 y1 y2 y3) (laws_FnExactGradeBetween.j3 (k + 1) y0 y1 y2 y3))
 | 0 => ⟨fun _ _ _ _ _ _ _ r h => by simp [laws_FnExactGradeBetween.j0] at h,fun _ _ _ _ _ _ r h => by simp [laws_FnExactGradeBetween.j1] at h,fun _ _ _ _ _ _ _ _ _ _ _ _ r h => by simp [laws_FnExactGradeBetween.j2] at h,fun _ _ _ _ r h => by simp [laws_FnExactGradeBetween.j3] at h⟩
 | k + 1 => by
  obtain ⟨ih0,ih1,ih2,ih3⟩:=laws_FnExactGradeBetween.mono_l k
  refine ⟨?_,?_,?_,?_⟩
  ·intro y0 y1 y2 y3 y4 y5 y6
   unfold laws_FnExactGradeBetween.j0
   repeat' first
   | (with_reducible exact ih0 _ _ _ _ _ _ _)
   | (with_reducible exact ih1 _ _ _ _ _ _)
   | (with_reducible exact ih2 _ _ _ _ _ _ _ _ _ _ _ _)
   | (with_reducible exact ih3 _ _ _ _)
   | (with_reducible exact impl_GradeBetween.mono _ _ _ _ _ _ _)
   | (with_reducible exact laws_eqAutomaton.mono _ _ _ _ _ _ _ _ _)
   | (with_reducible exact laws_eqMatrix.mono _ _ _ _ _)
   | (with_reducible exact laws_szAutomaton.mono _ _ _ _ _ _)
   | (with_reducible exact laws_toAutomaton.mono _ _ _ _ _)
   | (with_reducible exact laws_toMatrix.mono _ _ _)
   | (with_reducible exact spec_GradeBetween.mono _ _ _ _ _ _ _)
   | (with_reducible exact LeO.refl _)
   | (with_reducible exact LeO.none _)
   | (with_reducible refine LeO.ite ?_ ?_)
   | (with_reducible refine LeO.bind ?_ (fun _ => ?_))
   | exact ih0 _ _ _ _ _ _ _
   | exact ih1 _ _ _ _ _ _
   | exact ih2 _ _ _ _ _ _ _ _ _ _ _ _
   | exact ih3 _ _ _ _
   | exact impl_GradeBetween.mono _ _ _ _ _ _ _
   | exact laws_eqAutomaton.mono _ _ _ _ _ _ _ _ _
   | exact laws_eqMatrix.mono _ _ _ _ _
   | exact laws_szAutomaton.mono _ _ _ _ _ _
   | exact laws_toAutomaton.mono _ _ _ _ _
   | exact laws_toMatrix.mono _ _ _
   | exact spec_GradeBetween.mono _ _ _ _ _ _ _
   | exact LeO.none _
   | refine LeO.ite ?_ ?_
   | refine LeO.bind ?_ (fun _ => ?_)
  ·intro y0 y1 y2 y3 y4 y5
   unfold laws_FnExactGradeBetween.j1
   repeat' first
   | (with_reducible exact ih0 _ _ _ _ _ _ _)
   | (with_reducible exact ih1 _ _ _ _ _ _)
   | (with_reducible exact ih2 _ _ _ _ _ _ _ _ _ _ _ _)
   | (with_reducible exact ih3 _ _ _ _)
   | (with_reducible exact impl_GradeBetween.mono _ _ _ _ _ _ _)
   | (with_reducible exact laws_eqAutomaton.mono _ _ _ _ _ _ _ _ _)
   | (with_reducible exact laws_eqMatrix.mono _ _ _ _ _)
   | (with_reducible exact laws_szAutomaton.mono _ _ _ _ _ _)
   | (with_reducible exact laws_toAutomaton.mono _ _ _ _ _)
   | (with_reducible exact laws_toMatrix.mono _ _ _)
   | (with_reducible exact spec_GradeBetween.mono _ _ _ _ _ _ _)
   | (with_reducible exact LeO.refl _)
   | (with_reducible exact LeO.none _)
   | (with_reducible refine LeO.ite ?_ ?_)
   | (with_reducible refine LeO.bind ?_ (fun _ => ?_))
   | exact ih0 _ _ _ _ _ _ _
   | exact ih1 _ _ _ _ _ _
   | exact ih2 _ _ _ _ _ _ _ _ _ _ _ _
   | exact ih3 _ _ _ _
   | exact impl_GradeBetween.mono _ _ _ _ _ _ _
   | exact laws_eqAutomaton.mono _ _ _ _ _ _ _ _ _
   | exact laws_eqMatrix.mono _ _ _ _ _
   | exact laws_szAutomaton.mono _ _ _ _ _ _
   | exact laws_toAutomaton.mono _ _ _ _ _
   | exact laws_toMatrix.mono _ _ _
   | exact spec_GradeBetween.mono _ _ _ _ _ _ _
   | exact LeO.none _
   | refine LeO.ite ?_ ?_
   | refine LeO.bind ?_ (fun _ => ?_)
  ·intro y0 y1 y2 y3 y4 y5 y6 y7 y8 y9 y10 y11
   unfold laws_FnExactGradeBetween.j2
   repeat' first
   | (with_reducible exact ih0 _ _ _ _ _ _ _)
   | (with_reducible exact ih1 _ _ _ _ _ _)
   | (with_reducible exact ih2 _ _ _ _ _ _ _ _ _ _ _ _)
   | (with_reducible exact ih3 _ _ _ _)
   | (with_reducible exact impl_GradeBetween.mono _ _ _ _ _ _ _)
   | (with_reducible exact laws_eqAutomaton.mono _ _ _ _ _ _ _ _ _)
   | (with_reducible exact laws_eqMatrix.mono _ _ _ _ _)
   | (with_reducible exact laws_szAutomaton.mono _ _ _ _ _ _)
   | (with_reducible exact laws_toAutomaton.mono _ _ _ _ _)
   | (with_reducible exact laws_toMatrix.mono _ _ _)
   | (with_reducible exact spec_GradeBetween.mono _ _ _ _ _ _ _)
   | (with_reducible exact LeO.refl _)
   | (with_reducible exact LeO.none _)
   | (with_reducible refine LeO.ite ?_ ?_)
   | (with_reducible refine LeO.bind ?_ (fun _ => ?_))
   | exact ih0 _ _ _ _ _ _ _
   | exact ih1 _ _ _ _ _ _
   | exact ih2 _ _ _ _ _ _ _ _ _ _ _ _
   | exact ih3 _ _ _ _
   | exact impl_GradeBetween.mono _ _ _ _ _ _ _
   | exact laws_eqAutomaton.mono _ _ _ _ _ _ _ _ _
   | exact laws_eqMatrix.mono _ _ _ _ _
   | exact laws_szAutomaton.mono _ _ _ _ _ _
   | exact laws_toAutomaton.mono _ _ _ _ _
   | exact laws_toMatrix.mono _ _ _
   | exact spec_GradeBetween.mono _ _ _ _ _ _ _
   | exact LeO.none _
   | refine LeO.ite ?_ ?_
   | refine LeO.bind ?_ (fun _ => ?_)
  ·intro y0 y1 y2 y3
   unfold laws_FnExactGradeBetween.j3
   repeat' first
   | (with_reducible exact ih0 _ _ _ _ _ _ _)
   | (with_reducible exact ih1 _ _ _ _ _ _)
   | (with_reducible exact ih2 _ _ _ _ _ _ _ _ _ _ _ _)
   | (with_reducible exact ih3 _ _ _ _)
   | (with_reducible exact impl_GradeBetween.mono _ _ _ _ _ _ _)
   | (with_reducible exact laws_eqAutomaton.mono _ _ _ _ _ _ _ _ _)
   | (with_reducible exact laws_eqMatrix.mono _ _ _ _ _)
   | (with_reducible exact laws_szAutomaton.mono _ _ _ _ _ _)
   | (with_reducible exact laws_toAutomaton.mono _ _ _ _ _)
   | (with_reducible exact laws_toMatrix.mono _ _ _)
   | (with_reducible exact spec_GradeBetween.mono _ _ _ _ _ _ _)
   | (with_reducible exact LeO.refl _)
   | (with_reducible exact LeO.none _)
   | (with_reducible refine LeO.ite ?_ ?_)
   | (with_reducible refine LeO.bind ?_ (fun _ => ?_))
   | exact ih0 _ _ _ _ _ _ _
   | exact ih1 _ _ _ _ _ _
   | exact ih2 _ _ _ _ _ _ _ _ _ _ _ _
   | exact ih3 _ _ _ _
   | exact impl_GradeBetween.mono _ _ _ _ _ _ _
   | exact laws_eqAutomaton.mono _ _ _ _ _ _ _ _ _
   | exact laws_eqMatrix.mono _ _ _ _ _
   | exact laws_szAutomaton.mono _ _ _ _ _ _
   | exact laws_toAutomaton.mono _ _ _ _ _
   | exact laws_toMatrix.mono _ _ _
   | exact spec_GradeBetween.mono _ _ _ _ _ _ _
   | exact LeO.none _
   | refine LeO.ite ?_ ?_
   | refine LeO.bind ?_ (fun _ => ?_)
theorem laws_FnExactGradeBetween.mono : ∀ a0 a1 a2 a3 a4 a5 k,LeO (laws_FnExactGradeBetween.f k a0 a1 a2 a3 a4 a5) (laws_FnExactGradeBetween.f (k + 1) a0 a1 a2 a3 a4 a5):=by
 intro a0 a1 a2 a3 a4 a5 k
 obtain ⟨ih0,ih1,ih2,ih3⟩:=laws_FnExactGradeBetween.mono_l k
 unfold laws_FnExactGradeBetween.f
 repeat' first
   | (with_reducible exact ih0 _ _ _ _ _ _ _)
   | (with_reducible exact ih1 _ _ _ _ _ _)
   | (with_reducible exact ih2 _ _ _ _ _ _ _ _ _ _ _ _)
   | (with_reducible exact ih3 _ _ _ _)
   | (with_reducible exact impl_GradeBetween.mono _ _ _ _ _ _ _)
   | (with_reducible exact laws_eqAutomaton.mono _ _ _ _ _ _ _ _ _)
   | (with_reducible exact laws_eqMatrix.mono _ _ _ _ _)
   | (with_reducible exact laws_szAutomaton.mono _ _ _ _ _ _)
   | (with_reducible exact laws_toAutomaton.mono _ _ _ _ _)
   | (with_reducible exact laws_toMatrix.mono _ _ _)
   | (with_reducible exact spec_GradeBetween.mono _ _ _ _ _ _ _)
   | (with_reducible exact LeO.refl _)
   | (with_reducible exact LeO.none _)
   | (with_reducible refine LeO.ite ?_ ?_)
   | (with_reducible refine LeO.bind ?_ (fun _ => ?_))
   | exact ih0 _ _ _ _ _ _ _
   | exact ih1 _ _ _ _ _ _
   | exact ih2 _ _ _ _ _ _ _ _ _ _ _ _
   | exact ih3 _ _ _ _
   | exact impl_GradeBetween.mono _ _ _ _ _ _ _
   | exact laws_eqAutomaton.mono _ _ _ _ _ _ _ _ _
   | exact laws_eqMatrix.mono _ _ _ _ _
   | exact laws_szAutomaton.mono _ _ _ _ _ _
   | exact laws_toAutomaton.mono _ _ _ _ _
   | exact laws_toMatrix.mono _ _ _
   | exact spec_GradeBetween.mono _ _ _ _ _ _ _
   | exact LeO.none _
   | refine LeO.ite ?_ ?_
   | refine LeO.bind ?_ (fun _ => ?_)
set_option maxHeartbeats 8000000 in
set_option maxRecDepth 100000 in
theorem laws_FnExactGradeBetween.calls (k : Nat) (a0_0 : Int) (A0_1 : Option Addr) (c0_1 : Nat) (l0_1 : List Int) (A0_2 : Option Addr) (c0_2 : Nat) (l0_2 : List Int) (A0_3 : Option Addr) (c0_3 : Nat) (l0_3 : List (S118)) (a1_0 : Int) (A1_1 : Option Addr) (c1_1 : Nat) (l1_1 : List Int) (r : Bool) (w : World) (hr0_1 : Kd.C (Kd.int .i64) w A0_1 l0_1.length l0_1) (hc0_1 : l0_1.length ≤ c0_1) (hr0_2 : Kd.C (Kd.int .i64) w A0_2 l0_2.length l0_2) (hc0_2 : l0_2.length ≤ c0_2) (hr0_3 : Kd.C k118 w A0_3 l0_3.length l0_3) (hc0_3 : l0_3.length ≤ c0_3) (hr1_1 : Kd.C (Kd.int .i64) w A1_1 l1_1.length l1_1) (hc1_1 : l1_1.length ≤ c1_1) (h : laws_FnExactGradeBetween.f k a0_0 l0_1 l0_2 l0_3 a1_0 l1_1 = some r) :
  Calls Try.prog 3 #[.agg #[.int .i64 a0_0,.slice A0_1 l0_1.length c0_1,.slice A0_2 l0_2.length c0_2,.slice A0_3 l0_3.length c0_3],.agg #[.int .i64 a1_0,.slice A1_1 l1_1.length c1_1]] w fun e w' => e = .returned (.bool r) ∧ Below w.heap.size w w':=by
 have hu25:=Try.underlying25
 have hu27:=Try.underlying27
 have hu33:=Try.underlying33
 have hu35:=Try.underlying35
 have HR0_1:=Aside0.mk hr0_1
 have HC0_1:=Aside0.mk hc0_1
 clear hr0_1 hc0_1
 have HR0_2:=Aside0.mk hr0_2
 have HC0_2:=Aside0.mk hc0_2
 clear hr0_2 hc0_2
 have HR0_3:=Aside0.mk hr0_3
 have HC0_3:=Aside0.mk hc0_3
 clear hr0_3 hc0_3
 have HR1_1:=Aside0.mk hr1_1
 have HC1_1:=Aside0.mk hc1_1
 clear hr1_1 hc1_1
 have HB:=Aside0.mk (Below.refl w.heap.size w)
 have H : ((laws_szAutomaton.f k a0_0 l0_1 l0_2 l0_3 1048576).bind fun t241 => (if t241 < 0 then (some true) else (laws_FnExactGradeBetween.j0 k t241 a0_0 l0_1 l0_2 l0_3 a1_0 l1_1))) = some r:=h
 clear h
 replace H:=Option.bind_eq_some_iff.mp H
 obtain ⟨t241,A30,H⟩:=H
 replace H : (if t241 < 0 then (some true) else (laws_FnExactGradeBetween.j0 k t241 a0_0 l0_1 l0_2 l0_3 a1_0 l1_1)) = some r:=H
 have A3:=Aside0.mk A30
 clear A30
 have HC4:=Aside0.mk H
 clear H
 go_enter Try.func3,Try.ntmps3
 go_upto_if 14 with (first|((with_reducible refine gate_dst (N:=2) rfl ?_);refine box_event ?hg (N:=2) ?hd (cs:=#[.int .i64 a0_0,.slice A0_1 l0_1.length c0_1,.slice A0_2 l0_2.length c0_2,.slice A0_3 l0_3.length c0_3]) (t:=25) ?hr ?_;(case hd => rfl);(case hg => rfl);(case hr => first|(go_simp;done)|(go_simp;rfl));intro gb239 hg w5 hbox hb;have n0_:=Aside0.mk (below_step (be0_ HB.out) hb);have n1_:=Aside0.mk (hbox);have n2_:=Aside0.mk ((by rw [hg];exact (below_size (be0_ HB.out)) : w.heap.size ≤ gb239));have n3_:=Aside0.mk ((by rw [hg];exact (below_size (be0_ HB.out)) : w.heap.size ≤ gb239));clear HB;have HB:=n0_;have BK239:=n1_;have GW239:=n2_;have GE239:=n3_;clear n0_ n1_ n2_ n3_;clear hb hbox hg)|((with_reducible refine gate_dst (N:=3) rfl ?_);refine box_event ?hg (N:=3) ?hd (cs:=#[.int .i64 a1_0,.slice A1_1 l1_1.length c1_1]) (t:=27) ?hr ?_;(case hd => rfl);(case hg => rfl);(case hr => first|(go_simp;done)|(go_simp;rfl));intro gb240 hg w6 hbox hb;have n0_:=Aside0.mk (blk_below (g:=gb239) (o:=.cells #[.int .i64 a0_0,.slice A0_1 l0_1.length c0_1,.slice A0_2 l0_2.length c0_2,.slice A0_3 l0_3.length c0_3] 25 (0,0)) (pe_ BK239.out) hb);have n1_:=Aside0.mk (below_step (be1_ HB.out GE239.out) hb);have n2_:=Aside0.mk (hbox);have n3_:=Aside0.mk ((by rw [hg];exact (below_size (be1_ HB.out GE239.out)) : w.heap.size ≤ gb240));have n4_:=Aside0.mk ((by rw [hg];exact (below_size (be1_ HB.out GE239.out)) : w.heap.size ≤ gb240));have n5_:=Aside0.mk ((by rw [hg];exact Nat.ne_of_lt (blk_lt (g:=gb239) (o:=.cells #[.int .i64 a0_0,.slice A0_1 l0_1.length c0_1,.slice A0_2 l0_2.length c0_2,.slice A0_3 l0_3.length c0_3] 25 (0,0)) (pe_ BK239.out)) : gb239 ≠ gb240));have n6_:=Aside0.mk ((by rw [hg];exact Nat.ne_of_gt (blk_lt (g:=gb239) (o:=.cells #[.int .i64 a0_0,.slice A0_1 l0_1.length c0_1,.slice A0_2 l0_2.length c0_2,.slice A0_3 l0_3.length c0_3] 25 (0,0)) (pe_ BK239.out)) : gb240 ≠ gb239));clear BK239;clear HB;have BK239:=n0_;have HB:=n1_;have BK240:=n2_;have GW240:=n3_;have GE240:=n4_;have NB239_240:=n5_;have NB240_239:=n6_;clear n0_ n1_ n2_ n3_ n4_ n5_ n6_;clear hb hbox hg;have hnb7:=NB239_240.out;have hnc7:=NB240_239.out;have hcz8_0 : w6.cell? ⟨gb239,0,none⟩ = some (.int .i64 a0_0):=(blk_cell BK239.out 0).trans rfl;have hcz8_1 : w6.cell? ⟨gb239,1,none⟩ = some (.slice A0_1 l0_1.length c0_1):=(blk_cell BK239.out 1).trans rfl;have hcz8_2 : w6.cell? ⟨gb239,2,none⟩ = some (.slice A0_2 l0_2.length c0_2):=(blk_cell BK239.out 2).trans rfl;have hcz8_3 : w6.cell? ⟨gb239,3,none⟩ = some (.slice A0_3 l0_3.length c0_3):=(blk_cell BK239.out 3).trans rfl;have hfz8_0:=blk_frozen BK239.out 0;have hfz8_1:=blk_frozen BK239.out 1;have hfz8_2:=blk_frozen BK239.out 2;have hfz8_3:=blk_frozen BK239.out 3)|((with_reducible refine gate_callee (f:=14) rfl ?_);refine goesL_ (some 12) rfl rfl Try.func14 (by kernel_rfl) rfl #[.agg #[.int .i64 a0_0,.slice A0_1 l0_1.length c0_1,.slice A0_2 l0_2.length c0_2,.slice A0_3 l0_3.length c0_3],.int .i64 1048576] rfl lp_ ?_;(with_reducible refine (laws_szAutomaton.calls k a0_0 _ _ l0_1 _ _ l0_2 _ _ l0_3 1048576 t241 _ ?side1 ?side2 ?side3 ?side4 ?side5 ?side6 A3.out).mono ?_);(case side1 => repeat (first|exact (Kd.C_below HR0_1.out HB.out)|(with_reducible refine Kd.C_alloc ?_ _)|(with_reducible refine Kd.C_drewN ?_ _)|(with_reducible refine Kd.C_drew ?_)));(case side2 => exact HC0_1.out);(case side3 => repeat (first|exact (Kd.C_below HR0_2.out HB.out)|(with_reducible refine Kd.C_alloc ?_ _)|(with_reducible refine Kd.C_drewN ?_ _)|(with_reducible refine Kd.C_drew ?_)));(case side4 => exact HC0_2.out);(case side5 => repeat (first|exact (Kd.C_below HR0_3.out HB.out)|(with_reducible refine Kd.C_alloc ?_ _)|(with_reducible refine Kd.C_drewN ?_ _)|(with_reducible refine Kd.C_drew ?_)));(case side6 => exact HC0_3.out);rintro e w9 ⟨rfl,hb⟩;refine ⟨_,rfl,?_⟩;have n0_:=Aside0.mk (blk_below (g:=gb239) (o:=.cells #[.int .i64 a0_0,.slice A0_1 l0_1.length c0_1,.slice A0_2 l0_2.length c0_2,.slice A0_3 l0_3.length c0_3] 25 (0,0)) (pe_ BK239.out) hb);have n1_:=Aside0.mk (blk_below (g:=gb240) (o:=.cells #[.int .i64 a1_0,.slice A1_1 l1_1.length c1_1] 27 (0,0)) (pe_ BK240.out) hb);have n2_:=Aside0.mk (below_step (be2_ HB.out GE239.out GE240.out) hb);clear BK239;clear BK240;clear HB;have BK239:=n0_;have BK240:=n1_;have HB:=n2_;clear n0_ n1_ n2_;(try clear hb);(try clear hb2);(try clear hk);(try clear hi)))
 (try simp only [Act.put,List.setIfInBounds_toArray,List.set_cons_zero,List.set_cons_succ])
 go_cut [] (fun wc => ∃ (kq : Nat),Aside0 (laws_FnExactGradeBetween.j0 kq t241 a0_0 l0_1 l0_2 l0_3 a1_0 l1_1 = some r) ∧ Aside0 (kq ≤ k) ∧ Aside0 (wc.heap[gb239]? = some (.cells #[.int .i64 a0_0,(.slice A0_1 l0_1.length c0_1),(.slice A0_2 l0_2.length c0_2),(.slice A0_3 l0_3.length c0_3)] 25 (0,0))) ∧ Aside0 (wc.heap[gb240]? = some (.cells #[.int .i64 a1_0,(.slice A1_1 l1_1.length c1_1)] 27 (0,0))) ∧ Aside0 (Below w.heap.size w wc))
 case first =>
  have H:=HC4.out
  clear HC4
  by_cases c10 : t241 < 0
  ·rw [if_pos c10] at H
   have c10b0 : decide (t241 < 0) = true:=decide_eq_true c10
   clear c10
   (first|rw [c10b0]|(simp only [i64_w,i32_w];rw [c10b0])|skip)
   obtain rfl:=Option.some.inj H
   go_wp2
   go_ret
   exact ⟨by first|rfl|(simp [errW_none,errW_some] <;> rfl)|(simp [*,errW_none,errW_some] <;> rfl),be2_ HB.out GE239.out GE240.out⟩
  ·rw [if_neg c10] at H
   have c10b0 : decide (t241 < 0) = false:=decide_eq_false c10
   clear c10
   (first|rw [c10b0]|(simp only [i64_w,i32_w];rw [c10b0])|skip)
   have H':=Aside0.mk H
   clear H
   go_wp2
   go_meet
   case rel => exact ⟨_,H',⟨by first|omega|exact Nat.le_refl _⟩,⟨pe_ BK239.out⟩,⟨pe_ BK240.out⟩,⟨be2_ HB.out GE239.out GE240.out⟩⟩
 case rest =>
  clear HC4
  try clear c1
  try clear p2
  try clear c3
  try clear c7
  try clear c10
  try clear c10b0
  try clear hcz8_0
  try clear hcz8_1
  try clear hcz8_2
  try clear hcz8_3
  try clear hfz8_0
  try clear hfz8_1
  try clear hfz8_2
  try clear hfz8_3
  obtain ⟨kq,HA,HJ3,BK239,BK240,HB⟩:=hcut
  cases kq with
  | zero => exact absurd HA.out (by simp [laws_FnExactGradeBetween.j0])
  | succ kj3 =>
   have H:=HA.out
   clear HA
   simp only [laws_FnExactGradeBetween.j0] at H
   replace H:=Option.bind_eq_some_iff.mp H
   obtain ⟨t242,A110,H⟩:=H
   replace H : (if t242 < 0 then (some true) else (laws_FnExactGradeBetween.j1 kj3 a0_0 l0_1 l0_2 l0_3 a1_0 l1_1)) = some r:=H
   have A11:=Aside0.mk A110
   clear A110
   have HC12:=Aside0.mk H
   clear H
   have hnb13:=NB240_239.out
   have hnc13:=NB239_240.out
   have hcz14_0 : wc.cell? ⟨gb240,0,none⟩ = some (.int .i64 a1_0):=(blk_cell BK240.out 0).trans rfl
   have hcz14_1 : wc.cell? ⟨gb240,1,none⟩ = some (.slice A1_1 l1_1.length c1_1):=(blk_cell BK240.out 1).trans rfl
   have hfz14_0:=blk_frozen BK240.out 0
   have hfz14_1:=blk_frozen BK240.out 1
   go_upto_if 19 with (first|((with_reducible refine gate_callee (f:=15) rfl ?_);refine goesL_ (some 17) rfl rfl Try.func15 (by kernel_rfl) rfl #[.agg #[.int .i64 a1_0,.slice A1_1 l1_1.length c1_1],.int .i64 t241] rfl lp_ ?_;(with_reducible refine (laws_szMatrix.calls a1_0 _ _ l1_1 t241 t242 _ ?side1 ?side2 A11.out).mono ?_);(case side1 => repeat (first|exact (Kd.C_below HR1_1.out HB.out)|(with_reducible refine Kd.C_alloc ?_ _)|(with_reducible refine Kd.C_drewN ?_ _)|(with_reducible refine Kd.C_drew ?_)));(case side2 => exact HC1_1.out);rintro e w15 ⟨rfl,hb⟩;refine ⟨_,rfl,?_⟩;have n0_:=Aside0.mk (blk_below (g:=gb239) (o:=.cells #[.int .i64 a0_0,.slice A0_1 l0_1.length c0_1,.slice A0_2 l0_2.length c0_2,.slice A0_3 l0_3.length c0_3] 25 (0,0)) (pe_ BK239.out) hb);have n1_:=Aside0.mk (blk_below (g:=gb240) (o:=.cells #[.int .i64 a1_0,.slice A1_1 l1_1.length c1_1] 27 (0,0)) (pe_ BK240.out) hb);have n2_:=Aside0.mk (below_step (be2_ HB.out GE239.out GE240.out) hb);clear BK239;clear BK240;clear HB;have BK239:=n0_;have BK240:=n1_;have HB:=n2_;clear n0_ n1_ n2_;(try clear hb);(try clear hb2);(try clear hk);(try clear hi)))
   (try simp only [Act.put,List.setIfInBounds_toArray,List.set_cons_zero,List.set_cons_succ])
   go_cut [] (fun wc => ∃ (kq : Nat),Aside0 (laws_FnExactGradeBetween.j1 kq a0_0 l0_1 l0_2 l0_3 a1_0 l1_1 = some r) ∧ Aside0 (kq ≤ kj3) ∧ Aside0 (wc.heap[gb239]? = some (.cells #[.int .i64 a0_0,(.slice A0_1 l0_1.length c0_1),(.slice A0_2 l0_2.length c0_2),(.slice A0_3 l0_3.length c0_3)] 25 (0,0))) ∧ Aside0 (wc.heap[gb240]? = some (.cells #[.int .i64 a1_0,(.slice A1_1 l1_1.length c1_1)] 27 (0,0))) ∧ Aside0 (Below w.heap.size w wc))
   case first =>
    have H:=HC12.out
    clear HC12
    by_cases c16 : t242 < 0
    ·rw [if_pos c16] at H
     have c16b0 : decide (t242 < 0) = true:=decide_eq_true c16
     clear c16
     (first|rw [c16b0]|(simp only [i64_w,i32_w];rw [c16b0])|skip)
     obtain rfl:=Option.some.inj H
     go_wp2
     go_ret
     exact ⟨by first|rfl|(simp [errW_none,errW_some] <;> rfl)|(simp [*,errW_none,errW_some] <;> rfl),be2_ HB.out GE239.out GE240.out⟩
    ·rw [if_neg c16] at H
     have c16b0 : decide (t242 < 0) = false:=decide_eq_false c16
     clear c16
     (first|rw [c16b0]|(simp only [i64_w,i32_w];rw [c16b0])|skip)
     have H':=Aside0.mk H
     clear H
     go_wp2
     go_meet
     case rel => exact ⟨_,H',⟨by have:=HJ3.out;first|omega|exact Nat.le_refl _⟩,⟨pe_ BK239.out⟩,⟨pe_ BK240.out⟩,⟨be2_ HB.out GE239.out GE240.out⟩⟩
   case rest =>
    clear HC12
    try clear c1
    try clear p2
    try clear c3
    try clear c7
    try clear c10
    try clear c10b0
    try clear c13
    try clear c14
    try clear c15
    try clear c16
    try clear c16b0
    try clear hcz14_0
    try clear hcz14_1
    try clear hcz8_0
    try clear hcz8_1
    try clear hcz8_2
    try clear hcz8_3
    try clear hfz14_0
    try clear hfz14_1
    try clear hfz8_0
    try clear hfz8_1
    try clear hfz8_2
    try clear hfz8_3
    try clear p2
    obtain ⟨kq,HA,HJ11,BK239,BK240,HB⟩:=hcut
    cases kq with
    | zero => exact absurd HA.out (by simp [laws_FnExactGradeBetween.j1])
    | succ kj11 =>
     have H:=HA.out
     clear HA
     simp only [laws_FnExactGradeBetween.j1] at H
     replace H:=Option.bind_eq_some_iff.mp H
     obtain ⟨⟨t243,t244,t247,t250⟩,A170,H⟩:=H
     replace H : ((laws_toMatrix.f kj11 a1_0 l1_1).bind fun bt253 => ((spec_GradeBetween.f kj11 t243 t244 t247 t250 bt253.1 bt253.2).bind fun t257 => ((laws_toAutomaton.f kj11 a0_0 l0_1 l0_2 l0_3).bind fun bt258 => ((laws_toMatrix.f kj11 a1_0 l1_1).bind fun bt269 => ((impl_GradeBetween.f kj11 bt258.1 bt258.2.1 bt258.2.2.1 bt258.2.2.2 bt269.1 bt269.2).bind fun t274 => (if t274 = t257 then (laws_FnExactGradeBetween.j2 kj11 a0_0 l0_1 l0_2 l0_3 a1_0 l1_1 bt258.1 bt258.2.1 bt258.2.2.1 bt258.2.2.2 bt269.1 bt269.2) else (some false))))))) = some r:=H
     have A17:=Aside0.mk A170
     clear A170
     replace H:=Option.bind_eq_some_iff.mp H
     obtain ⟨⟨t253,t254⟩,A180,H⟩:=H
     replace H : ((spec_GradeBetween.f kj11 t243 t244 t247 t250 t253 t254).bind fun t257 => ((laws_toAutomaton.f kj11 a0_0 l0_1 l0_2 l0_3).bind fun bt258 => ((laws_toMatrix.f kj11 a1_0 l1_1).bind fun bt269 => ((impl_GradeBetween.f kj11 bt258.1 bt258.2.1 bt258.2.2.1 bt258.2.2.2 bt269.1 bt269.2).bind fun t274 => (if t274 = t257 then (laws_FnExactGradeBetween.j2 kj11 a0_0 l0_1 l0_2 l0_3 a1_0 l1_1 bt258.1 bt258.2.1 bt258.2.2.1 bt258.2.2.2 bt269.1 bt269.2) else (some false)))))) = some r:=H
     have A18:=Aside0.mk A180
     clear A180
     replace H:=Option.bind_eq_some_iff.mp H
     obtain ⟨t257,A190,H⟩:=H
     replace H : ((laws_toAutomaton.f kj11 a0_0 l0_1 l0_2 l0_3).bind fun bt258 => ((laws_toMatrix.f kj11 a1_0 l1_1).bind fun bt269 => ((impl_GradeBetween.f kj11 bt258.1 bt258.2.1 bt258.2.2.1 bt258.2.2.2 bt269.1 bt269.2).bind fun t274 => (if t274 = t257 then (laws_FnExactGradeBetween.j2 kj11 a0_0 l0_1 l0_2 l0_3 a1_0 l1_1 bt258.1 bt258.2.1 bt258.2.2.1 bt258.2.2.2 bt269.1 bt269.2) else (some false))))) = some r:=H
     have A19:=Aside0.mk A190
     clear A190
     replace H:=Option.bind_eq_some_iff.mp H
     obtain ⟨⟨t258,t259,t262,t265⟩,A200,H⟩:=H
     replace H : ((laws_toMatrix.f kj11 a1_0 l1_1).bind fun bt269 => ((impl_GradeBetween.f kj11 t258 t259 t262 t265 bt269.1 bt269.2).bind fun t274 => (if t274 = t257 then (laws_FnExactGradeBetween.j2 kj11 a0_0 l0_1 l0_2 l0_3 a1_0 l1_1 t258 t259 t262 t265 bt269.1 bt269.2) else (some false)))) = some r:=H
     have A20:=Aside0.mk A200
     clear A200
     replace H:=Option.bind_eq_some_iff.mp H
     obtain ⟨⟨t269,t270⟩,A210,H⟩:=H
     replace H : ((impl_GradeBetween.f kj11 t258 t259 t262 t265 t269 t270).bind fun t274 => (if t274 = t257 then (laws_FnExactGradeBetween.j2 kj11 a0_0 l0_1 l0_2 l0_3 a1_0 l1_1 t258 t259 t262 t265 t269 t270) else (some false))) = some r:=H
     have A21:=Aside0.mk A210
     clear A210
     replace H:=Option.bind_eq_some_iff.mp H
     obtain ⟨t274,A220,H⟩:=H
     replace H : (if t274 = t257 then (laws_FnExactGradeBetween.j2 kj11 a0_0 l0_1 l0_2 l0_3 a1_0 l1_1 t258 t259 t262 t265 t269 t270) else (some false)) = some r:=H
     have A22:=Aside0.mk A220
     clear A220
     have HC23:=Aside0.mk H
     clear H
     try go_wp2
     have n0_:=Aside0.mk (blk_drew BK239.out)
     have n1_:=Aside0.mk (blk_drew BK240.out)
     have n2_:=Aside0.mk (below_drew1 HB.out)
     clear BK239
     clear BK240
     clear HB
     have BK239:=n0_
     have BK240:=n1_
     have HB:=n2_
     clear n0_ n1_ n2_
     refine start_ (n:=6) (S:=fun w' => w'.cell? ⟨gb239,0,none⟩ = some (.int .i64 a0_0) ∧ w'.cell? ⟨gb239,1,none⟩ = some (.slice A0_1 l0_1.length c0_1) ∧ w'.cell? ⟨gb239,2,none⟩ = some (.slice A0_2 l0_2.length c0_2) ∧ w'.cell? ⟨gb239,3,none⟩ = some (.slice A0_3 l0_3.length c0_3) ∧ w'.cell? ⟨gb240,0,none⟩ = some (.int .i64 a1_0) ∧ w'.cell? ⟨gb240,1,none⟩ = some (.slice A1_1 l1_1.length c1_1)) (ds:=[]) #[false,false,false,false,false,false] (by kernel_rfl) rfl rfl ⟨(blk_cell BK239.out 0).trans rfl,(blk_cell BK239.out 1).trans rfl,(blk_cell BK239.out 2).trans rfl,(blk_cell BK239.out 3).trans rfl,(blk_cell BK240.out 0).trans rfl,(blk_cell BK240.out 1).trans rfl⟩ (fun hHeld => ?_)
     generalize wc.drew = w24 at BK239 BK240 HB hHeld ⊢
     refine take_ (i:=0) (N:=some 20) (v:=?_) (a':=?_) #[true,false,false,false,false,false] rfl rfl (by kernel_rfl) (fun _ _ _ h => h) (Or.inl ⟨by rfl,?_⟩) hHeld ?_ ?_
     rotate_left
     ·rintro w' ⟨s0,s1,s2,s3,s4,s5⟩
      go_simp
      with_reducible rfl
     rotate_left
     ·simp only [Act.put,List.setIfInBounds_toArray,List.set_cons_zero,List.set_cons_succ,i64_w,i32_w]
      rfl
     refine take_ (i:=2) (N:=some 22) (v:=?_) (a':=?_) #[true,false,true,false,false,false] rfl rfl (by kernel_rfl) (fun _ _ _ h => h) (Or.inl ⟨by rfl,?_⟩) hHeld ?_ ?_
     rotate_left
     ·rintro w' ⟨s0,s1,s2,s3,s4,s5⟩
      go_simp
      with_reducible rfl
     rotate_left
     ·simp only [Act.put,List.setIfInBounds_toArray,List.set_cons_zero,List.set_cons_succ,i64_w,i32_w]
      rfl
     refine one_ (i:=1) (N:=some 21) #[true,true,true,false,false,false] rfl rfl (by kernel_rfl) (by decide) (fun K hK => ?_)
     refine goes_ Try.func17 (by kernel_rfl) rfl #[.agg #[.int .i64 a0_0,.slice A0_1 l0_1.length c0_1,.slice A0_2 l0_2.length c0_2,.slice A0_3 l0_3.length c0_3]] (by rfl) rfl rfl lp_ ?_
     with_reducible refine (laws_toAutomaton.calls kj11 a0_0 _ _ l0_1 _ _ l0_2 _ _ l0_3 t243 t244 t247 t250 _ ?side1 ?side2 ?side3 ?side4 ?side5 ?side6 A17.out).mono ?_
     (case side1 => repeat (first|exact (Kd.C_below HR0_1.out HB.out)|(with_reducible refine Kd.C_alloc ?_ _)|(with_reducible refine Kd.C_drewN ?_ _)|(with_reducible refine Kd.C_drew ?_)))
     (case side2 => exact HC0_1.out)
     (case side3 => repeat (first|exact (Kd.C_below HR0_2.out HB.out)|(with_reducible refine Kd.C_alloc ?_ _)|(with_reducible refine Kd.C_drewN ?_ _)|(with_reducible refine Kd.C_drew ?_)))
     (case side4 => exact HC0_2.out)
     (case side5 => repeat (first|exact (Kd.C_below HR0_3.out HB.out)|(with_reducible refine Kd.C_alloc ?_ _)|(with_reducible refine Kd.C_drewN ?_ _)|(with_reducible refine Kd.C_drew ?_)))
     (case side6 => exact HC0_3.out)
     rintro e w25 ⟨v245,v248,v251,rfl,ho0,ho1,ho2,hb⟩
     refine ⟨_,rfl,?_⟩
     have n0_:=Aside0.mk (Kd.R_lower ho0 (below_size (be2_ HB.out GE239.out GE240.out)))
     have n1_:=Aside0.mk (Kd.R_lower ho1 (below_size (be2_ HB.out GE239.out GE240.out)))
     have n2_:=Aside0.mk (Kd.R_lower ho2 (below_size (be2_ HB.out GE239.out GE240.out)))
     have n3_:=Aside0.mk (blk_below (g:=gb239) (o:=.cells #[.int .i64 a0_0,.slice A0_1 l0_1.length c0_1,.slice A0_2 l0_2.length c0_2,.slice A0_3 l0_3.length c0_3] 25 (0,0)) (pe_ BK239.out) hb)
     have n4_:=Aside0.mk (blk_below (g:=gb240) (o:=.cells #[.int .i64 a1_0,.slice A1_1 l1_1.length c1_1] 27 (0,0)) (pe_ BK240.out) hb)
     have n5_:=Aside0.mk (below_step (be2_ HB.out GE239.out GE240.out) hb)
     clear BK239
     clear BK240
     clear HB
     have HO246:=n0_
     have HO249:=n1_
     have HO252:=n2_
     have BK239:=n3_
     have BK240:=n4_
     have HB:=n5_
     clear n0_ n1_ n2_ n3_ n4_ n5_
     (try clear hb)
     (try clear hb2)
     (try clear hk)
     (try clear hi)
     (try clear ho0)
     (try clear ho1)
     (try clear ho2)
     refine hK.out _ _ ⟨(blk_cell BK239.out 0).trans rfl,(blk_cell BK239.out 1).trans rfl,(blk_cell BK239.out 2).trans rfl,(blk_cell BK239.out 3).trans rfl,(blk_cell BK240.out 0).trans rfl,(blk_cell BK240.out 1).trans rfl⟩ (fun hHeld => ?_)
     clear hK K
     refine norm_ (a':=?_) ?_ ?_
     rotate_left
     ·show Act.put _ (some 21) _ = _
      simp only [Act.put,List.setIfInBounds_toArray,List.set_cons_zero,List.set_cons_succ,i64_w,i32_w]
      rfl
     refine one_ (i:=3) (N:=some 23) #[true,true,true,true,false,false] rfl rfl (by kernel_rfl) (by decide) (fun K hK => ?_)
     refine goes_ Try.func18 (by kernel_rfl) rfl #[.agg #[.int .i64 a1_0,.slice A1_1 l1_1.length c1_1]] (by rfl) rfl rfl lp_ ?_
     with_reducible refine (laws_toMatrix.calls kj11 a1_0 _ _ l1_1 t253 t254 _ ?side1 ?side2 A18.out).mono ?_
     (case side1 => repeat (first|exact (Kd.C_below HR1_1.out HB.out)|(with_reducible refine Kd.C_alloc ?_ _)|(with_reducible refine Kd.C_drewN ?_ _)|(with_reducible refine Kd.C_drew ?_)))
     (case side2 => exact HC1_1.out)
     rintro e w26 ⟨v255,rfl,ho0,hb⟩
     refine ⟨_,rfl,?_⟩
     have n0_:=Aside0.mk (Kd.R_elder' (pr_ HO246.out) (Kd.R_base ho0) hb)
     have n1_:=Aside0.mk (Kd.R_elder' (pr_ HO249.out) (Kd.R_base ho0) hb)
     have n2_:=Aside0.mk (Kd.R_below (pr_ HO252.out) hb)
     have n3_:=Aside0.mk (Kd.R_lower (Kd.R_new' (Kd.R_new' ho0 (Kd.R_lt (pr_ HO246.out))) (Kd.R_lt (pr_ HO249.out))) (below_size (be2_ HB.out GE239.out GE240.out)))
     have n4_:=Aside0.mk (blk_below (g:=gb239) (o:=.cells #[.int .i64 a0_0,.slice A0_1 l0_1.length c0_1,.slice A0_2 l0_2.length c0_2,.slice A0_3 l0_3.length c0_3] 25 (0,0)) (pe_ BK239.out) hb)
     have n5_:=Aside0.mk (blk_below (g:=gb240) (o:=.cells #[.int .i64 a1_0,.slice A1_1 l1_1.length c1_1] 27 (0,0)) (pe_ BK240.out) hb)
     have n6_:=Aside0.mk (below_step (be2_ HB.out GE239.out GE240.out) hb)
     clear HO246
     clear HO249
     clear HO252
     clear BK239
     clear BK240
     clear HB
     have HO246:=n0_
     have HO249:=n1_
     have HO252:=n2_
     have HO256:=n3_
     have BK239:=n4_
     have BK240:=n5_
     have HB:=n6_
     clear n0_ n1_ n2_ n3_ n4_ n5_ n6_
     (try clear hb)
     (try clear hb2)
     (try clear hk)
     (try clear hi)
     (try clear ho0)
     obtain ⟨Ao27,co27,eo27⟩:=Kd.R_slice HO246.out
     (first|subst eo27|(injection eo27 with f1_ f2_ f3_;have f4_:=f1_.symm;have f5_:=f3_.symm;clear f1_ f2_ f3_;subst f4_;subst f5_))
     obtain ⟨Ao28,co28,eo28⟩:=Kd.R_slice HO249.out
     (first|subst eo28|(injection eo28 with f1_ f2_ f3_;have f4_:=f1_.symm;have f5_:=f3_.symm;clear f1_ f2_ f3_;subst f4_;subst f5_))
     obtain ⟨Ao29,co29,eo29⟩:=Kd.R_slice HO252.out
     (first|subst eo29|(injection eo29 with f1_ f2_ f3_;have f4_:=f1_.symm;have f5_:=f3_.symm;clear f1_ f2_ f3_;subst f4_;subst f5_))
     obtain ⟨Ao30,co30,eo30⟩:=Kd.R_slice HO256.out
     (first|subst eo30|(injection eo30 with f1_ f2_ f3_;have f4_:=f1_.symm;have f5_:=f3_.symm;clear f1_ f2_ f3_;subst f4_;subst f5_))
     refine hK.out _ _ ⟨(blk_cell BK239.out 0).trans rfl,(blk_cell BK239.out 1).trans rfl,(blk_cell BK239.out 2).trans rfl,(blk_cell BK239.out 3).trans rfl,(blk_cell BK240.out 0).trans rfl,(blk_cell BK240.out 1).trans rfl⟩ (fun hHeld => ?_)
     clear hK K
     refine norm_ (a':=?_) ?_ ?_
     rotate_left
     ·show Act.put _ (some 23) _ = _
      simp only [Act.put,List.setIfInBounds_toArray,List.set_cons_zero,List.set_cons_succ,i64_w,i32_w]
      rfl
     refine one_ (i:=4) (N:=some 24) #[true,true,true,true,true,false] rfl rfl (by kernel_rfl) (by decide) (fun K hK => ?_)
     refine goes_ Try.func16 (by kernel_rfl) rfl #[.agg #[.int .i64 t243,.slice Ao27 t244.length co27,.slice Ao28 t247.length co28,.slice Ao29 t250.length co29],.agg #[.int .i64 t253,.slice Ao30 t254.length co30]] (by rfl) rfl rfl lp_ ?_
     with_reducible refine (spec_GradeBetween.calls kj11 t243 _ _ t244 _ _ t247 _ _ t250 t253 _ _ t254 t257 _ ?side1 ?side2 ?side3 ?side4 ?side5 ?side6 ?side7 ?side8 A19.out).mono ?_
     (case side1 => repeat (first|exact (Kd.R_reads' HO246.out).2.2|(with_reducible refine Kd.C_alloc ?_ _)|(with_reducible refine Kd.C_drewN ?_ _)|(with_reducible refine Kd.C_drew ?_)))
     (case side2 => exact (Kd.R_reads' HO246.out).2.1)
     (case side3 => repeat (first|exact (Kd.R_reads' HO249.out).2.2|(with_reducible refine Kd.C_alloc ?_ _)|(with_reducible refine Kd.C_drewN ?_ _)|(with_reducible refine Kd.C_drew ?_)))
     (case side4 => exact (Kd.R_reads' HO249.out).2.1)
     (case side5 => repeat (first|exact (Kd.R_reads' HO252.out).2.2|(with_reducible refine Kd.C_alloc ?_ _)|(with_reducible refine Kd.C_drewN ?_ _)|(with_reducible refine Kd.C_drew ?_)))
     (case side6 => exact (Kd.R_reads' HO252.out).2.1)
     (case side7 => repeat (first|exact (Kd.R_reads' HO256.out).2.2|(with_reducible refine Kd.C_alloc ?_ _)|(with_reducible refine Kd.C_drewN ?_ _)|(with_reducible refine Kd.C_drew ?_)))
     (case side8 => exact (Kd.R_reads' HO256.out).2.1)
     rintro e w31 ⟨rfl,hb⟩
     refine ⟨_,rfl,?_⟩
     have n0_:=Aside0.mk (Kd.R_below (pr_ HO246.out) hb)
     have n1_:=Aside0.mk (Kd.R_below (pr_ HO249.out) hb)
     have n2_:=Aside0.mk (Kd.R_below (pr_ HO252.out) hb)
     have n3_:=Aside0.mk (Kd.R_below (pr_ HO256.out) hb)
     have n4_:=Aside0.mk (blk_below (g:=gb239) (o:=.cells #[.int .i64 a0_0,.slice A0_1 l0_1.length c0_1,.slice A0_2 l0_2.length c0_2,.slice A0_3 l0_3.length c0_3] 25 (0,0)) (pe_ BK239.out) hb)
     have n5_:=Aside0.mk (blk_below (g:=gb240) (o:=.cells #[.int .i64 a1_0,.slice A1_1 l1_1.length c1_1] 27 (0,0)) (pe_ BK240.out) hb)
     have n6_:=Aside0.mk (below_step (be2_ HB.out GE239.out GE240.out) hb)
     clear HO246
     clear HO249
     clear HO252
     clear HO256
     clear BK239
     clear BK240
     clear HB
     have HO246:=n0_
     have HO249:=n1_
     have HO252:=n2_
     have HO256:=n3_
     have BK239:=n4_
     have BK240:=n5_
     have HB:=n6_
     clear n0_ n1_ n2_ n3_ n4_ n5_ n6_
     (try clear hb)
     (try clear hb2)
     (try clear hk)
     (try clear hi)
     refine hK.out _ _ ⟨(blk_cell BK239.out 0).trans rfl,(blk_cell BK239.out 1).trans rfl,(blk_cell BK239.out 2).trans rfl,(blk_cell BK239.out 3).trans rfl,(blk_cell BK240.out 0).trans rfl,(blk_cell BK240.out 1).trans rfl⟩ (fun hHeld => ?_)
     clear hK K
     refine norm_ (a':=?_) ?_ ?_
     rotate_left
     ·show Act.put _ (some 24) _ = _
      simp only [Act.put,List.setIfInBounds_toArray,List.set_cons_zero,List.set_cons_succ,i64_w,i32_w]
      rfl
     refine pure_ (i:=5) (N:=some 6) (v:=?_) (a':=?_) #[true,true,true,true,true,true] rfl rfl (by kernel_rfl) (fun _ _ _ h => h) (Or.inl ⟨by rfl,?_⟩) ?_ ?_
     rotate_left
     ·intro w'
      go_simp
      with_reducible rfl
     rotate_left
     ·simp only [Act.put,List.setIfInBounds_toArray,List.set_cons_zero,List.set_cons_succ,i64_w,i32_w]
      rfl
     refine done_ (by kernel_rfl) ?_
     have hnb32:=NB239_240.out
     have hnc32:=NB240_239.out
     have hcz33_0 : w31.cell? ⟨gb239,0,none⟩ = some (.int .i64 a0_0):=(blk_cell BK239.out 0).trans rfl
     have hcz33_1 : w31.cell? ⟨gb239,1,none⟩ = some (.slice A0_1 l0_1.length c0_1):=(blk_cell BK239.out 1).trans rfl
     have hcz33_2 : w31.cell? ⟨gb239,2,none⟩ = some (.slice A0_2 l0_2.length c0_2):=(blk_cell BK239.out 2).trans rfl
     have hcz33_3 : w31.cell? ⟨gb239,3,none⟩ = some (.slice A0_3 l0_3.length c0_3):=(blk_cell BK239.out 3).trans rfl
     have hfz33_0:=blk_frozen BK239.out 0
     have hfz33_1:=blk_frozen BK239.out 1
     have hfz33_2:=blk_frozen BK239.out 2
     have hfz33_3:=blk_frozen BK239.out 3
     go_upto_if 34 with (first|((with_reducible refine gate_callee (f:=17) rfl ?_);refine goesL_ (some 26) rfl rfl Try.func17 (by kernel_rfl) rfl #[.agg #[.int .i64 a0_0,.slice A0_1 l0_1.length c0_1,.slice A0_2 l0_2.length c0_2,.slice A0_3 l0_3.length c0_3]] rfl lp_ ?_;(with_reducible refine (laws_toAutomaton.calls kj11 a0_0 _ _ l0_1 _ _ l0_2 _ _ l0_3 t258 t259 t262 t265 _ ?side1 ?side2 ?side3 ?side4 ?side5 ?side6 A20.out).mono ?_);(case side1 => repeat (first|exact (Kd.C_below HR0_1.out HB.out)|(with_reducible refine Kd.C_alloc ?_ _)|(with_reducible refine Kd.C_drewN ?_ _)|(with_reducible refine Kd.C_drew ?_)));(case side2 => exact HC0_1.out);(case side3 => repeat (first|exact (Kd.C_below HR0_2.out HB.out)|(with_reducible refine Kd.C_alloc ?_ _)|(with_reducible refine Kd.C_drewN ?_ _)|(with_reducible refine Kd.C_drew ?_)));(case side4 => exact HC0_2.out);(case side5 => repeat (first|exact (Kd.C_below HR0_3.out HB.out)|(with_reducible refine Kd.C_alloc ?_ _)|(with_reducible refine Kd.C_drewN ?_ _)|(with_reducible refine Kd.C_drew ?_)));(case side6 => exact HC0_3.out);rintro e w34 ⟨v260,v263,v266,rfl,ho0,ho1,ho2,hb⟩;refine ⟨_,rfl,?_⟩;have n0_:=Aside0.mk (Kd.R_mono (Kd.R_told (Kd.R_told (Kd.R_old (pr_ HO246.out) hb) (Kd.R_base ho0)) (Kd.R_base ho1)) (fun _ h_ => h_.1));have n1_:=Aside0.mk (Kd.R_mono (Kd.R_told (Kd.R_told (Kd.R_old (pr_ HO249.out) hb) (Kd.R_base ho0)) (Kd.R_base ho1)) (fun _ h_ => h_.1));have n2_:=Aside0.mk (Kd.R_elder' (pr_ HO252.out) (Kd.R_base ho2) hb);have n3_:=Aside0.mk (Kd.R_mono (Kd.R_told (Kd.R_told (Kd.R_old (pr_ HO256.out) hb) (Kd.R_base ho0)) (Kd.R_base ho1)) (fun _ h_ => h_.1));have n4_:=Aside0.mk (Kd.R_lower (Kd.R_new' (Kd.R_new' (Kd.R_new' ho0 (Kd.R_lt (pr_ HO246.out))) (Kd.R_lt (pr_ HO249.out))) (Kd.R_lt (pr_ HO256.out))) (below_size (be2_ HB.out GE239.out GE240.out)));have n5_:=Aside0.mk (Kd.R_lower (Kd.R_new' (Kd.R_new' (Kd.R_new' ho1 (Kd.R_lt (pr_ HO246.out))) (Kd.R_lt (pr_ HO249.out))) (Kd.R_lt (pr_ HO256.out))) (below_size (be2_ HB.out GE239.out GE240.out)));have n6_:=Aside0.mk (Kd.R_lower (Kd.R_new' ho2 (Kd.R_lt (pr_ HO252.out))) (below_size (be2_ HB.out GE239.out GE240.out)));have n7_:=Aside0.mk (blk_below (g:=gb239) (o:=.cells #[.int .i64 a0_0,.slice A0_1 l0_1.length c0_1,.slice A0_2 l0_2.length c0_2,.slice A0_3 l0_3.length c0_3] 25 (0,0)) (pe_ BK239.out) hb);have n8_:=Aside0.mk (blk_below (g:=gb240) (o:=.cells #[.int .i64 a1_0,.slice A1_1 l1_1.length c1_1] 27 (0,0)) (pe_ BK240.out) hb);have n9_:=Aside0.mk (below_step (be2_ HB.out GE239.out GE240.out) hb);clear HO246;clear HO249;clear HO252;clear HO256;clear BK239;clear BK240;clear HB;have HO246:=n0_;have HO249:=n1_;have HO252:=n2_;have HO256:=n3_;have HO261:=n4_;have HO264:=n5_;have HO267:=n6_;have BK239:=n7_;have BK240:=n8_;have HB:=n9_;clear n0_ n1_ n2_ n3_ n4_ n5_ n6_ n7_ n8_ n9_;(try clear hb);(try clear hb2);(try clear hk);(try clear hi);(try clear ho0);(try clear ho1);(try clear ho2))|((with_reducible refine gate_dst (N:=7) rfl ?_);refine box_event ?hg (N:=7) ?hd (cs:=#[.int .i64 0,.slice none 0 0,.slice none 0 0,.slice none 0 0]) (t:=33) ?hr ?_;(case hd => rfl);(case hg => rfl);(case hr => first|(go_simp;done)|(go_simp;rfl));intro gb268 hg w35 hbox hb;have n0_:=Aside0.mk (Kd.R_below (pr_ HO246.out) hb);have n1_:=Aside0.mk (Kd.R_below (pr_ HO249.out) hb);have n2_:=Aside0.mk (Kd.R_below (pr_ HO252.out) hb);have n3_:=Aside0.mk (Kd.R_below (pr_ HO256.out) hb);have n4_:=Aside0.mk (Kd.R_below (pr_ HO261.out) hb);have n5_:=Aside0.mk (Kd.R_below (pr_ HO264.out) hb);have n6_:=Aside0.mk (Kd.R_below (pr_ HO267.out) hb);have n7_:=Aside0.mk (blk_below (g:=gb239) (o:=.cells #[.int .i64 a0_0,.slice A0_1 l0_1.length c0_1,.slice A0_2 l0_2.length c0_2,.slice A0_3 l0_3.length c0_3] 25 (0,0)) (pe_ BK239.out) hb);have n8_:=Aside0.mk (blk_below (g:=gb240) (o:=.cells #[.int .i64 a1_0,.slice A1_1 l1_1.length c1_1] 27 (0,0)) (pe_ BK240.out) hb);have n9_:=Aside0.mk (below_step (be2_ HB.out GE239.out GE240.out) hb);have n10_:=Aside0.mk (hbox);have n11_:=Aside0.mk ((by rw [hg];exact (below_size (be2_ HB.out GE239.out GE240.out)) : w.heap.size ≤ gb268));have n12_:=Aside0.mk ((by rw [hg];exact (below_size (be2_ HB.out GE239.out GE240.out)) : w.heap.size ≤ gb268));have n13_:=Aside0.mk ((by rw [hg];exact Nat.ne_of_lt (blk_lt (g:=gb239) (o:=.cells #[.int .i64 a0_0,.slice A0_1 l0_1.length c0_1,.slice A0_2 l0_2.length c0_2,.slice A0_3 l0_3.length c0_3] 25 (0,0)) (pe_ BK239.out)) : gb239 ≠ gb268));have n14_:=Aside0.mk ((by rw [hg];exact Nat.ne_of_gt (blk_lt (g:=gb239) (o:=.cells #[.int .i64 a0_0,.slice A0_1 l0_1.length c0_1,.slice A0_2 l0_2.length c0_2,.slice A0_3 l0_3.length c0_3] 25 (0,0)) (pe_ BK239.out)) : gb268 ≠ gb239));have n15_:=Aside0.mk ((by rw [hg];exact Nat.ne_of_lt (blk_lt (g:=gb240) (o:=.cells #[.int .i64 a1_0,.slice A1_1 l1_1.length c1_1] 27 (0,0)) (pe_ BK240.out)) : gb240 ≠ gb268));have n16_:=Aside0.mk ((by rw [hg];exact Nat.ne_of_gt (blk_lt (g:=gb240) (o:=.cells #[.int .i64 a1_0,.slice A1_1 l1_1.length c1_1] 27 (0,0)) (pe_ BK240.out)) : gb268 ≠ gb240));clear HO246;clear HO249;clear HO252;clear HO256;clear HO261;clear HO264;clear HO267;clear BK239;clear BK240;clear HB;have HO246:=n0_;have HO249:=n1_;have HO252:=n2_;have HO256:=n3_;have HO261:=n4_;have HO264:=n5_;have HO267:=n6_;have BK239:=n7_;have BK240:=n8_;have HB:=n9_;have BK268:=n10_;have GW268:=n11_;have GE268:=n12_;have NB239_268:=n13_;have NB268_239:=n14_;have NB240_268:=n15_;have NB268_240:=n16_;clear n0_ n1_ n2_ n3_ n4_ n5_ n6_ n7_ n8_ n9_ n10_ n11_ n12_ n13_ n14_ n15_ n16_;clear hb hbox hg;have hnb36:=NB268_239.out;have hnc36:=NB239_268.out;have hnb37:=NB268_240.out;have hnc37:=NB240_268.out;have hcz38_0 : w35.cell? ⟨gb268,0,none⟩ = some (.int .i64 0):=(blk_cell BK268.out 0).trans rfl;have hcz38_1 : w35.cell? ⟨gb268,1,none⟩ = some (.slice none 0 0):=(blk_cell BK268.out 1).trans rfl;have hcz38_2 : w35.cell? ⟨gb268,2,none⟩ = some (.slice none 0 0):=(blk_cell BK268.out 2).trans rfl;have hcz38_3 : w35.cell? ⟨gb268,3,none⟩ = some (.slice none 0 0):=(blk_cell BK268.out 3).trans rfl;have hfz38_0:=blk_frozen BK268.out 0;have hfz38_1:=blk_frozen BK268.out 1;have hfz38_2:=blk_frozen BK268.out 2;have hfz38_3:=blk_frozen BK268.out 3;obtain ⟨Ao39,co39,eo39⟩:=Kd.R_slice HO261.out;subst eo39;obtain ⟨Ao40,co40,eo40⟩:=Kd.R_slice HO264.out;subst eo40;obtain ⟨Ao41,co41,eo41⟩:=Kd.R_slice HO267.out;subst eo41;have hcz42_0 : w35.cell? ⟨gb240,0,none⟩ = some (.int .i64 a1_0):=(blk_cell BK240.out 0).trans rfl;have hcz42_1 : w35.cell? ⟨gb240,1,none⟩ = some (.slice A1_1 l1_1.length c1_1):=(blk_cell BK240.out 1).trans rfl;have hfz42_0:=blk_frozen BK240.out 0;have hfz42_1:=blk_frozen BK240.out 1)|((with_reducible refine gate_callee (f:=18) rfl ?_);refine goesL_ (some 28) rfl rfl Try.func18 (by kernel_rfl) rfl #[.agg #[.int .i64 a1_0,.slice A1_1 l1_1.length c1_1]] rfl lp_ ?_;(with_reducible refine (laws_toMatrix.calls kj11 a1_0 _ _ l1_1 t269 t270 _ ?side1 ?side2 A21.out).mono ?_);(case side1 => exact Kd.C_below HR1_1.out (be3_ HB.out GE239.out GE240.out GE268.out));(case side2 => exact HC1_1.out);rintro e w43 ⟨v271,rfl,ho0,hb⟩;refine ⟨_,rfl,?_⟩;have n0_:=Aside0.mk (Kd.R_elder' (by refine pr_ ?_;exact (Kd.R_mono (Kd.R_far (p:=⟨gb268,3,none⟩) (Kd.R_far (p:=⟨gb268,2,none⟩) (Kd.R_far (p:=⟨gb268,1,none⟩) (Kd.R_far (p:=⟨gb268,0,none⟩) (Kd.R_types HO246.out BK268.out (by decide)) (fun _ hk => hk.2) (.int .i64 t258)) (fun _ hk => hk.2) (.slice Ao39 t259.length co39)) (fun _ hk => hk.2) (.slice Ao40 t262.length co40)) (fun _ hk => hk.2) (.slice Ao41 t265.length co41)) (fun _ h_ => h_.1))) (Kd.R_base ho0) hb);have n1_:=Aside0.mk (Kd.R_elder' (by refine pr_ ?_;exact (Kd.R_mono (Kd.R_far (p:=⟨gb268,3,none⟩) (Kd.R_far (p:=⟨gb268,2,none⟩) (Kd.R_far (p:=⟨gb268,1,none⟩) (Kd.R_far (p:=⟨gb268,0,none⟩) (Kd.R_types HO249.out BK268.out (by decide)) (fun _ hk => hk.2) (.int .i64 t258)) (fun _ hk => hk.2) (.slice Ao39 t259.length co39)) (fun _ hk => hk.2) (.slice Ao40 t262.length co40)) (fun _ hk => hk.2) (.slice Ao41 t265.length co41)) (fun _ h_ => h_.1))) (Kd.R_base ho0) hb);have n2_:=Aside0.mk (Kd.R_below (by refine pr_ ?_;exact (Kd.R_mono (Kd.R_far (p:=⟨gb268,3,none⟩) (Kd.R_far (p:=⟨gb268,2,none⟩) (Kd.R_far (p:=⟨gb268,1,none⟩) (Kd.R_far (p:=⟨gb268,0,none⟩) (Kd.R_types HO252.out BK268.out (by decide)) (fun _ hk => hk.2) (.int .i64 t258)) (fun _ hk => hk.2) (.slice Ao39 t259.length co39)) (fun _ hk => hk.2) (.slice Ao40 t262.length co40)) (fun _ hk => hk.2) (.slice Ao41 t265.length co41)) (fun _ h_ => h_.1))) hb);have n3_:=Aside0.mk (Kd.R_elder' (by refine pr_ ?_;exact (Kd.R_mono (Kd.R_far (p:=⟨gb268,3,none⟩) (Kd.R_far (p:=⟨gb268,2,none⟩) (Kd.R_far (p:=⟨gb268,1,none⟩) (Kd.R_far (p:=⟨gb268,0,none⟩) (Kd.R_types HO256.out BK268.out (by decide)) (fun _ hk => hk.2) (.int .i64 t258)) (fun _ hk => hk.2) (.slice Ao39 t259.length co39)) (fun _ hk => hk.2) (.slice Ao40 t262.length co40)) (fun _ hk => hk.2) (.slice Ao41 t265.length co41)) (fun _ h_ => h_.1))) (Kd.R_base ho0) hb);have n4_:=Aside0.mk (Kd.R_elder' (by refine pr_ ?_;exact (Kd.R_mono (Kd.R_far (p:=⟨gb268,3,none⟩) (Kd.R_far (p:=⟨gb268,2,none⟩) (Kd.R_far (p:=⟨gb268,1,none⟩) (Kd.R_far (p:=⟨gb268,0,none⟩) (Kd.R_types HO261.out BK268.out (by decide)) (fun _ hk => hk.2) (.int .i64 t258)) (fun _ hk => hk.2) (.slice Ao39 t259.length co39)) (fun _ hk => hk.2) (.slice Ao40 t262.length co40)) (fun _ hk => hk.2) (.slice Ao41 t265.length co41)) (fun _ h_ => h_.1))) (Kd.R_base ho0) hb);have n5_:=Aside0.mk (Kd.R_elder' (by refine pr_ ?_;exact (Kd.R_mono (Kd.R_far (p:=⟨gb268,3,none⟩) (Kd.R_far (p:=⟨gb268,2,none⟩) (Kd.R_far (p:=⟨gb268,1,none⟩) (Kd.R_far (p:=⟨gb268,0,none⟩) (Kd.R_types HO264.out BK268.out (by decide)) (fun _ hk => hk.2) (.int .i64 t258)) (fun _ hk => hk.2) (.slice Ao39 t259.length co39)) (fun _ hk => hk.2) (.slice Ao40 t262.length co40)) (fun _ hk => hk.2) (.slice Ao41 t265.length co41)) (fun _ h_ => h_.1))) (Kd.R_base ho0) hb);have n6_:=Aside0.mk (Kd.R_below (by refine pr_ ?_;exact (Kd.R_mono (Kd.R_far (p:=⟨gb268,3,none⟩) (Kd.R_far (p:=⟨gb268,2,none⟩) (Kd.R_far (p:=⟨gb268,1,none⟩) (Kd.R_far (p:=⟨gb268,0,none⟩) (Kd.R_types HO267.out BK268.out (by decide)) (fun _ hk => hk.2) (.int .i64 t258)) (fun _ hk => hk.2) (.slice Ao39 t259.length co39)) (fun _ hk => hk.2) (.slice Ao40 t262.length co40)) (fun _ hk => hk.2) (.slice Ao41 t265.length co41)) (fun _ h_ => h_.1))) hb);have n7_:=Aside0.mk (Kd.R_lower (Kd.R_new' (Kd.R_new' (Kd.R_new' (Kd.R_new' (Kd.R_new' ho0 (Kd.R_lt (by refine pr_ ?_;exact (Kd.R_mono (Kd.R_far (p:=⟨gb268,3,none⟩) (Kd.R_far (p:=⟨gb268,2,none⟩) (Kd.R_far (p:=⟨gb268,1,none⟩) (Kd.R_far (p:=⟨gb268,0,none⟩) (Kd.R_types HO246.out BK268.out (by decide)) (fun _ hk => hk.2) (.int .i64 t258)) (fun _ hk => hk.2) (.slice Ao39 t259.length co39)) (fun _ hk => hk.2) (.slice Ao40 t262.length co40)) (fun _ hk => hk.2) (.slice Ao41 t265.length co41)) (fun _ h_ => h_.1))))) (Kd.R_lt (by refine pr_ ?_;exact (Kd.R_mono (Kd.R_far (p:=⟨gb268,3,none⟩) (Kd.R_far (p:=⟨gb268,2,none⟩) (Kd.R_far (p:=⟨gb268,1,none⟩) (Kd.R_far (p:=⟨gb268,0,none⟩) (Kd.R_types HO249.out BK268.out (by decide)) (fun _ hk => hk.2) (.int .i64 t258)) (fun _ hk => hk.2) (.slice Ao39 t259.length co39)) (fun _ hk => hk.2) (.slice Ao40 t262.length co40)) (fun _ hk => hk.2) (.slice Ao41 t265.length co41)) (fun _ h_ => h_.1))))) (Kd.R_lt (by refine pr_ ?_;exact (Kd.R_mono (Kd.R_far (p:=⟨gb268,3,none⟩) (Kd.R_far (p:=⟨gb268,2,none⟩) (Kd.R_far (p:=⟨gb268,1,none⟩) (Kd.R_far (p:=⟨gb268,0,none⟩) (Kd.R_types HO256.out BK268.out (by decide)) (fun _ hk => hk.2) (.int .i64 t258)) (fun _ hk => hk.2) (.slice Ao39 t259.length co39)) (fun _ hk => hk.2) (.slice Ao40 t262.length co40)) (fun _ hk => hk.2) (.slice Ao41 t265.length co41)) (fun _ h_ => h_.1))))) (Kd.R_lt (by refine pr_ ?_;exact (Kd.R_mono (Kd.R_far (p:=⟨gb268,3,none⟩) (Kd.R_far (p:=⟨gb268,2,none⟩) (Kd.R_far (p:=⟨gb268,1,none⟩) (Kd.R_far (p:=⟨gb268,0,none⟩) (Kd.R_types HO261.out BK268.out (by decide)) (fun _ hk => hk.2) (.int .i64 t258)) (fun _ hk => hk.2) (.slice Ao39 t259.length co39)) (fun _ hk => hk.2) (.slice Ao40 t262.length co40)) (fun _ hk => hk.2) (.slice Ao41 t265.length co41)) (fun _ h_ => h_.1))))) (Kd.R_lt (by refine pr_ ?_;exact (Kd.R_mono (Kd.R_far (p:=⟨gb268,3,none⟩) (Kd.R_far (p:=⟨gb268,2,none⟩) (Kd.R_far (p:=⟨gb268,1,none⟩) (Kd.R_far (p:=⟨gb268,0,none⟩) (Kd.R_types HO264.out BK268.out (by decide)) (fun _ hk => hk.2) (.int .i64 t258)) (fun _ hk => hk.2) (.slice Ao39 t259.length co39)) (fun _ hk => hk.2) (.slice Ao40 t262.length co40)) (fun _ hk => hk.2) (.slice Ao41 t265.length co41)) (fun _ h_ => h_.1))))) (below_size (be3_ HB.out GE239.out GE240.out GE268.out)));have n8_:=Aside0.mk (blk_below (g:=gb239) (o:=.cells #[.int .i64 a0_0,.slice A0_1 l0_1.length c0_1,.slice A0_2 l0_2.length c0_2,.slice A0_3 l0_3.length c0_3] 25 (0,0)) (by refine pe_ ?_;refine blk_far ?_ NB239_268.out _;refine pe_ ?_;refine blk_far ?_ NB239_268.out _;refine pe_ ?_;refine blk_far ?_ NB239_268.out _;refine pe_ ?_;refine blk_far ?_ NB239_268.out _;refine pe_ ?_;exact BK239.out) hb);have n9_:=Aside0.mk (blk_below (g:=gb240) (o:=.cells #[.int .i64 a1_0,.slice A1_1 l1_1.length c1_1] 27 (0,0)) (by refine pe_ ?_;refine blk_far ?_ NB240_268.out _;refine pe_ ?_;refine blk_far ?_ NB240_268.out _;refine pe_ ?_;refine blk_far ?_ NB240_268.out _;refine pe_ ?_;refine blk_far ?_ NB240_268.out _;refine pe_ ?_;exact BK240.out) hb);have n10_:=Aside0.mk (blk_below (g:=gb268) (o:=.cells #[.int .i64 t258,.slice Ao39 t259.length co39,.slice Ao40 t262.length co40,.slice Ao41 t265.length co41] 33 (0,0)) (by refine pe_ ?_;refine blk_put (cs:=#[.int .i64 t258,.slice Ao39 t259.length co39,.slice Ao40 t262.length co40,.slice none 0 0]) ?_ 3 _ rfl;refine pe_ ?_;refine blk_put (cs:=#[.int .i64 t258,.slice Ao39 t259.length co39,.slice none 0 0,.slice none 0 0]) ?_ 2 _ rfl;refine pe_ ?_;refine blk_put (cs:=#[.int .i64 t258,.slice none 0 0,.slice none 0 0,.slice none 0 0]) ?_ 1 _ rfl;refine pe_ ?_;refine blk_put (cs:=#[.int .i64 0,.slice none 0 0,.slice none 0 0,.slice none 0 0]) ?_ 0 _ rfl;refine pe_ ?_;exact BK268.out) hb);have n11_:=Aside0.mk (below_step (be3_ HB.out GE239.out GE240.out GE268.out) hb);clear HO246;clear HO249;clear HO252;clear HO256;clear HO261;clear HO264;clear HO267;clear BK239;clear BK240;clear BK268;clear HB;have HO246:=n0_;have HO249:=n1_;have HO252:=n2_;have HO256:=n3_;have HO261:=n4_;have HO264:=n5_;have HO267:=n6_;have HO272:=n7_;have BK239:=n8_;have BK240:=n9_;have BK268:=n10_;have HB:=n11_;clear n0_ n1_ n2_ n3_ n4_ n5_ n6_ n7_ n8_ n9_ n10_ n11_;(try clear hb);(try clear hb2);(try clear hk);(try clear hi);(try clear ho0))|((with_reducible refine gate_dst (N:=8) rfl ?_);refine box_event ?hg (N:=8) ?hd (cs:=#[.int .i64 0,.slice none 0 0]) (t:=35) ?hr ?_;(case hd => rfl);(case hg => rfl);(case hr => first|(go_simp;done)|(go_simp;rfl));intro gb273 hg w44 hbox hb;have n0_:=Aside0.mk (Kd.R_below (pr_ HO246.out) hb);have n1_:=Aside0.mk (Kd.R_below (pr_ HO249.out) hb);have n2_:=Aside0.mk (Kd.R_below (pr_ HO252.out) hb);have n3_:=Aside0.mk (Kd.R_below (pr_ HO256.out) hb);have n4_:=Aside0.mk (Kd.R_below (pr_ HO261.out) hb);have n5_:=Aside0.mk (Kd.R_below (pr_ HO264.out) hb);have n6_:=Aside0.mk (Kd.R_below (pr_ HO267.out) hb);have n7_:=Aside0.mk (Kd.R_below (pr_ HO272.out) hb);have n8_:=Aside0.mk (blk_below (g:=gb239) (o:=.cells #[.int .i64 a0_0,.slice A0_1 l0_1.length c0_1,.slice A0_2 l0_2.length c0_2,.slice A0_3 l0_3.length c0_3] 25 (0,0)) (pe_ BK239.out) hb);have n9_:=Aside0.mk (blk_below (g:=gb240) (o:=.cells #[.int .i64 a1_0,.slice A1_1 l1_1.length c1_1] 27 (0,0)) (pe_ BK240.out) hb);have n10_:=Aside0.mk (blk_below (g:=gb268) (o:=.cells #[.int .i64 t258,.slice Ao39 t259.length co39,.slice Ao40 t262.length co40,.slice Ao41 t265.length co41] 33 (0,0)) (pe_ BK268.out) hb);have n11_:=Aside0.mk (below_step (be3_ HB.out GE239.out GE240.out GE268.out) hb);have n12_:=Aside0.mk (hbox);have n13_:=Aside0.mk ((by rw [hg];exact (below_size (be3_ HB.out GE239.out GE240.out GE268.out)) : w.heap.size ≤ gb273));have n14_:=Aside0.mk ((by rw [hg];exact (below_size (be3_ HB.out GE239.out GE240.out GE268.out)) : w.heap.size ≤ gb273));have n15_:=Aside0.mk ((by rw [hg];exact Nat.ne_of_lt (blk_lt (g:=gb239) (o:=.cells #[.int .i64 a0_0,.slice A0_1 l0_1.length c0_1,.slice A0_2 l0_2.length c0_2,.slice A0_3 l0_3.length c0_3] 25 (0,0)) (pe_ BK239.out)) : gb239 ≠ gb273));have n16_:=Aside0.mk ((by rw [hg];exact Nat.ne_of_gt (blk_lt (g:=gb239) (o:=.cells #[.int .i64 a0_0,.slice A0_1 l0_1.length c0_1,.slice A0_2 l0_2.length c0_2,.slice A0_3 l0_3.length c0_3] 25 (0,0)) (pe_ BK239.out)) : gb273 ≠ gb239));have n17_:=Aside0.mk ((by rw [hg];exact Nat.ne_of_lt (blk_lt (g:=gb240) (o:=.cells #[.int .i64 a1_0,.slice A1_1 l1_1.length c1_1] 27 (0,0)) (pe_ BK240.out)) : gb240 ≠ gb273));have n18_:=Aside0.mk ((by rw [hg];exact Nat.ne_of_gt (blk_lt (g:=gb240) (o:=.cells #[.int .i64 a1_0,.slice A1_1 l1_1.length c1_1] 27 (0,0)) (pe_ BK240.out)) : gb273 ≠ gb240));have n19_:=Aside0.mk ((by rw [hg];exact Nat.ne_of_lt (blk_lt (g:=gb268) (o:=.cells #[.int .i64 t258,.slice Ao39 t259.length co39,.slice Ao40 t262.length co40,.slice Ao41 t265.length co41] 33 (0,0)) (pe_ BK268.out)) : gb268 ≠ gb273));have n20_:=Aside0.mk ((by rw [hg];exact Nat.ne_of_gt (blk_lt (g:=gb268) (o:=.cells #[.int .i64 t258,.slice Ao39 t259.length co39,.slice Ao40 t262.length co40,.slice Ao41 t265.length co41] 33 (0,0)) (pe_ BK268.out)) : gb273 ≠ gb268));clear HO246;clear HO249;clear HO252;clear HO256;clear HO261;clear HO264;clear HO267;clear HO272;clear BK239;clear BK240;clear BK268;clear HB;have HO246:=n0_;have HO249:=n1_;have HO252:=n2_;have HO256:=n3_;have HO261:=n4_;have HO264:=n5_;have HO267:=n6_;have HO272:=n7_;have BK239:=n8_;have BK240:=n9_;have BK268:=n10_;have HB:=n11_;have BK273:=n12_;have GW273:=n13_;have GE273:=n14_;have NB239_273:=n15_;have NB273_239:=n16_;have NB240_273:=n17_;have NB273_240:=n18_;have NB268_273:=n19_;have NB273_268:=n20_;clear n0_ n1_ n2_ n3_ n4_ n5_ n6_ n7_ n8_ n9_ n10_ n11_ n12_ n13_ n14_ n15_ n16_ n17_ n18_ n19_ n20_;clear hb hbox hg;have hnb45:=NB273_239.out;have hnc45:=NB239_273.out;have hnb46:=NB273_240.out;have hnc46:=NB240_273.out;have hnb47:=NB273_268.out;have hnc47:=NB268_273.out;have hcz48_0 : w44.cell? ⟨gb273,0,none⟩ = some (.int .i64 0):=(blk_cell BK273.out 0).trans rfl;have hcz48_1 : w44.cell? ⟨gb273,1,none⟩ = some (.slice none 0 0):=(blk_cell BK273.out 1).trans rfl;have hfz48_0:=blk_frozen BK273.out 0;have hfz48_1:=blk_frozen BK273.out 1;obtain ⟨Ao49,co49,eo49⟩:=Kd.R_slice HO272.out;subst eo49;have hcz50_0 : w44.cell? ⟨gb268,0,none⟩ = some (.int .i64 t258):=(blk_cell BK268.out 0).trans rfl;have hcz50_1 : w44.cell? ⟨gb268,1,none⟩ = some (.slice Ao39 t259.length co39):=(blk_cell BK268.out 1).trans rfl;have hcz50_2 : w44.cell? ⟨gb268,2,none⟩ = some (.slice Ao40 t262.length co40):=(blk_cell BK268.out 2).trans rfl;have hcz50_3 : w44.cell? ⟨gb268,3,none⟩ = some (.slice Ao41 t265.length co41):=(blk_cell BK268.out 3).trans rfl;have hfz50_0:=blk_frozen BK268.out 0;have hfz50_1:=blk_frozen BK268.out 1;have hfz50_2:=blk_frozen BK268.out 2;have hfz50_3:=blk_frozen BK268.out 3)|((with_reducible refine gate_callee (f:=19) rfl ?_);refine goesL_ (some 31) rfl rfl Try.func19 (by kernel_rfl) rfl #[.agg #[.int .i64 t258,.slice Ao39 t259.length co39,.slice Ao40 t262.length co40,.slice Ao41 t265.length co41],.agg #[.int .i64 t269,.slice Ao49 t270.length co49]] rfl lp_ ?_;(with_reducible refine (impl_GradeBetween.calls kj11 t258 _ _ t259 _ _ t262 _ _ t265 t269 _ _ t270 t274 _ ?side1 ?side2 ?side3 ?side4 ?side5 ?side6 ?side7 ?side8 A22.out).mono ?_);(case side1 => refine (Kd.R_reads' (e:=3) (base:=w.heap.size) (ok:=fun k_ => ((((some k_ ≠ (.slice Ao40 t262.length co40 : Value).ownBlock ∧ some k_ ≠ (.slice Ao27 t244.length co27 : Value).ownBlock) ∧ some k_ ≠ (.slice Ao28 t247.length co28 : Value).ownBlock) ∧ some k_ ≠ (.slice Ao30 t254.length co30 : Value).ownBlock) ∧ some k_ ≠ (.slice Ao49 t270.length co49 : Value).ownBlock)) (n:=t259.length) (c:=co39) ?_).2.2;exact (by refine pr_ ?_;exact (Kd.R_mono (Kd.R_far (p:=⟨gb273,1,none⟩) (Kd.R_far (p:=⟨gb273,0,none⟩) (Kd.R_types HO261.out BK273.out (by decide)) (fun _ hk => hk.2) (.int .i64 t269)) (fun _ hk => hk.2) (.slice Ao49 t270.length co49)) (fun _ h_ => h_.1))));(case side2 => exact (Kd.R_reads' HO261.out).2.1);(case side3 => refine (Kd.R_reads' (e:=3) (base:=w.heap.size) (ok:=fun k_ => ((((some k_ ≠ (.slice Ao39 t259.length co39 : Value).ownBlock ∧ some k_ ≠ (.slice Ao27 t244.length co27 : Value).ownBlock) ∧ some k_ ≠ (.slice Ao28 t247.length co28 : Value).ownBlock) ∧ some k_ ≠ (.slice Ao30 t254.length co30 : Value).ownBlock) ∧ some k_ ≠ (.slice Ao49 t270.length co49 : Value).ownBlock)) (n:=t262.length) (c:=co40) ?_).2.2;exact (by refine pr_ ?_;exact (Kd.R_mono (Kd.R_far (p:=⟨gb273,1,none⟩) (Kd.R_far (p:=⟨gb273,0,none⟩) (Kd.R_types HO264.out BK273.out (by decide)) (fun _ hk => hk.2) (.int .i64 t269)) (fun _ hk => hk.2) (.slice Ao49 t270.length co49)) (fun _ h_ => h_.1))));(case side4 => exact (Kd.R_reads' HO264.out).2.1);(case side5 => refine (Kd.R_reads' (e:=92) (base:=w.heap.size) (ok:=fun k_ => (True ∧ some k_ ≠ (.slice Ao29 t250.length co29 : Value).ownBlock)) (n:=t265.length) (c:=co41) ?_).2.2;exact (by refine pr_ ?_;exact (Kd.R_mono (Kd.R_far (p:=⟨gb273,1,none⟩) (Kd.R_far (p:=⟨gb273,0,none⟩) (Kd.R_types HO267.out BK273.out (by decide)) (fun _ hk => hk.2) (.int .i64 t269)) (fun _ hk => hk.2) (.slice Ao49 t270.length co49)) (fun _ h_ => h_.1))));(case side6 => exact (Kd.R_reads' HO267.out).2.1);(case side7 => refine (Kd.R_reads' (e:=3) (base:=w.heap.size) (ok:=fun k_ => (((((True ∧ some k_ ≠ (.slice Ao27 t244.length co27 : Value).ownBlock) ∧ some k_ ≠ (.slice Ao28 t247.length co28 : Value).ownBlock) ∧ some k_ ≠ (.slice Ao30 t254.length co30 : Value).ownBlock) ∧ some k_ ≠ (.slice Ao39 t259.length co39 : Value).ownBlock) ∧ some k_ ≠ (.slice Ao40 t262.length co40 : Value).ownBlock)) (n:=t270.length) (c:=co49) ?_).2.2;exact (by refine pr_ ?_;exact (Kd.R_mono (Kd.R_far (p:=⟨gb273,1,none⟩) (Kd.R_far (p:=⟨gb273,0,none⟩) (Kd.R_types HO272.out BK273.out (by decide)) (fun _ hk => hk.2) (.int .i64 t269)) (fun _ hk => hk.2) (.slice Ao49 t270.length co49)) (fun _ h_ => h_.1))));(case side8 => exact (Kd.R_reads' HO272.out).2.1);rintro e w51 ⟨rfl,hb⟩;refine ⟨_,rfl,?_⟩;have n0_:=Aside0.mk (Kd.R_below (by refine pr_ ?_;exact (Kd.R_mono (Kd.R_far (p:=⟨gb273,1,none⟩) (Kd.R_far (p:=⟨gb273,0,none⟩) (Kd.R_types HO246.out BK273.out (by decide)) (fun _ hk => hk.2) (.int .i64 t269)) (fun _ hk => hk.2) (.slice Ao49 t270.length co49)) (fun _ h_ => h_.1))) hb);have n1_:=Aside0.mk (Kd.R_below (by refine pr_ ?_;exact (Kd.R_mono (Kd.R_far (p:=⟨gb273,1,none⟩) (Kd.R_far (p:=⟨gb273,0,none⟩) (Kd.R_types HO249.out BK273.out (by decide)) (fun _ hk => hk.2) (.int .i64 t269)) (fun _ hk => hk.2) (.slice Ao49 t270.length co49)) (fun _ h_ => h_.1))) hb);have n2_:=Aside0.mk (Kd.R_below (by refine pr_ ?_;exact (Kd.R_mono (Kd.R_far (p:=⟨gb273,1,none⟩) (Kd.R_far (p:=⟨gb273,0,none⟩) (Kd.R_types HO252.out BK273.out (by decide)) (fun _ hk => hk.2) (.int .i64 t269)) (fun _ hk => hk.2) (.slice Ao49 t270.length co49)) (fun _ h_ => h_.1))) hb);have n3_:=Aside0.mk (Kd.R_below (by refine pr_ ?_;exact (Kd.R_mono (Kd.R_far (p:=⟨gb273,1,none⟩) (Kd.R_far (p:=⟨gb273,0,none⟩) (Kd.R_types HO256.out BK273.out (by decide)) (fun _ hk => hk.2) (.int .i64 t269)) (fun _ hk => hk.2) (.slice Ao49 t270.length co49)) (fun _ h_ => h_.1))) hb);have n4_:=Aside0.mk (Kd.R_below (by refine pr_ ?_;exact (Kd.R_mono (Kd.R_far (p:=⟨gb273,1,none⟩) (Kd.R_far (p:=⟨gb273,0,none⟩) (Kd.R_types HO261.out BK273.out (by decide)) (fun _ hk => hk.2) (.int .i64 t269)) (fun _ hk => hk.2) (.slice Ao49 t270.length co49)) (fun _ h_ => h_.1))) hb);have n5_:=Aside0.mk (Kd.R_below (by refine pr_ ?_;exact (Kd.R_mono (Kd.R_far (p:=⟨gb273,1,none⟩) (Kd.R_far (p:=⟨gb273,0,none⟩) (Kd.R_types HO264.out BK273.out (by decide)) (fun _ hk => hk.2) (.int .i64 t269)) (fun _ hk => hk.2) (.slice Ao49 t270.length co49)) (fun _ h_ => h_.1))) hb);have n6_:=Aside0.mk (Kd.R_below (by refine pr_ ?_;exact (Kd.R_mono (Kd.R_far (p:=⟨gb273,1,none⟩) (Kd.R_far (p:=⟨gb273,0,none⟩) (Kd.R_types HO267.out BK273.out (by decide)) (fun _ hk => hk.2) (.int .i64 t269)) (fun _ hk => hk.2) (.slice Ao49 t270.length co49)) (fun _ h_ => h_.1))) hb);have n7_:=Aside0.mk (Kd.R_below (by refine pr_ ?_;exact (Kd.R_mono (Kd.R_far (p:=⟨gb273,1,none⟩) (Kd.R_far (p:=⟨gb273,0,none⟩) (Kd.R_types HO272.out BK273.out (by decide)) (fun _ hk => hk.2) (.int .i64 t269)) (fun _ hk => hk.2) (.slice Ao49 t270.length co49)) (fun _ h_ => h_.1))) hb);have n8_:=Aside0.mk (blk_below (g:=gb239) (o:=.cells #[.int .i64 a0_0,.slice A0_1 l0_1.length c0_1,.slice A0_2 l0_2.length c0_2,.slice A0_3 l0_3.length c0_3] 25 (0,0)) (by refine pe_ ?_;refine blk_far ?_ NB239_273.out _;refine pe_ ?_;refine blk_far ?_ NB239_273.out _;refine pe_ ?_;exact BK239.out) hb);have n9_:=Aside0.mk (blk_below (g:=gb240) (o:=.cells #[.int .i64 a1_0,.slice A1_1 l1_1.length c1_1] 27 (0,0)) (by refine pe_ ?_;refine blk_far ?_ NB240_273.out _;refine pe_ ?_;refine blk_far ?_ NB240_273.out _;refine pe_ ?_;exact BK240.out) hb);have n10_:=Aside0.mk (blk_below (g:=gb268) (o:=.cells #[.int .i64 t258,.slice Ao39 t259.length co39,.slice Ao40 t262.length co40,.slice Ao41 t265.length co41] 33 (0,0)) (by refine pe_ ?_;refine blk_far ?_ NB268_273.out _;refine pe_ ?_;refine blk_far ?_ NB268_273.out _;refine pe_ ?_;exact BK268.out) hb);have n11_:=Aside0.mk (blk_below (g:=gb273) (o:=.cells #[.int .i64 t269,.slice Ao49 t270.length co49] 35 (0,0)) (by refine pe_ ?_;refine blk_put (cs:=#[.int .i64 t269,.slice none 0 0]) ?_ 1 _ rfl;refine pe_ ?_;refine blk_put (cs:=#[.int .i64 0,.slice none 0 0]) ?_ 0 _ rfl;refine pe_ ?_;exact BK273.out) hb);have n12_:=Aside0.mk (below_step (be4_ HB.out GE239.out GE240.out GE268.out GE273.out) hb);clear HO246;clear HO249;clear HO252;clear HO256;clear HO261;clear HO264;clear HO267;clear HO272;clear BK239;clear BK240;clear BK268;clear BK273;clear HB;have HO246:=n0_;have HO249:=n1_;have HO252:=n2_;have HO256:=n3_;have HO261:=n4_;have HO264:=n5_;have HO267:=n6_;have HO272:=n7_;have BK239:=n8_;have BK240:=n9_;have BK268:=n10_;have BK273:=n11_;have HB:=n12_;clear n0_ n1_ n2_ n3_ n4_ n5_ n6_ n7_ n8_ n9_ n10_ n11_ n12_;(try clear hb);(try clear hb2);(try clear hk);(try clear hi)))
     (try simp only [Act.put,List.setIfInBounds_toArray,List.set_cons_zero,List.set_cons_succ])
     go_cut [] (fun wc => ∃ (kq : Nat),Aside0 (laws_FnExactGradeBetween.j2 kq a0_0 l0_1 l0_2 l0_3 a1_0 l1_1 t258 t259 t262 t265 t269 t270 = some r) ∧ Aside0 (kq ≤ kj11) ∧ Aside0 (Kd.R (Kd.int .i64) 3 wc w.heap.size (fun k_ => some k_ ≠ ((.slice Ao40 t262.length co40) : Value).ownBlock ∧ some k_ ≠ ((.slice Ao49 t270.length co49) : Value).ownBlock) (.slice Ao39 t259.length co39) t259) ∧ Aside0 (Kd.R (Kd.int .i64) 3 wc w.heap.size (fun k_ => some k_ ≠ ((.slice Ao39 t259.length co39) : Value).ownBlock ∧ some k_ ≠ ((.slice Ao49 t270.length co49) : Value).ownBlock) (.slice Ao40 t262.length co40) t262) ∧ Aside0 (Kd.R k92 92 wc w.heap.size (fun _ => True) (.slice Ao41 t265.length co41) t265) ∧ Aside0 (Kd.R (Kd.int .i64) 3 wc w.heap.size (fun k_ => some k_ ≠ ((.slice Ao39 t259.length co39) : Value).ownBlock ∧ some k_ ≠ ((.slice Ao40 t262.length co40) : Value).ownBlock) (.slice Ao49 t270.length co49) t270) ∧ Aside0 (wc.heap[gb239]? = some (.cells #[.int .i64 a0_0,(.slice A0_1 l0_1.length c0_1),(.slice A0_2 l0_2.length c0_2),(.slice A0_3 l0_3.length c0_3)] 25 (0,0))) ∧ Aside0 (wc.heap[gb240]? = some (.cells #[.int .i64 a1_0,(.slice A1_1 l1_1.length c1_1)] 27 (0,0))) ∧ Aside0 (wc.heap[gb268]? = some (.cells #[.int .i64 t258,(.slice Ao39 t259.length co39),(.slice Ao40 t262.length co40),(.slice Ao41 t265.length co41)] 33 (0,0))) ∧ Aside0 (wc.heap[gb273]? = some (.cells #[.int .i64 t269,(.slice Ao49 t270.length co49)] 35 (0,0))) ∧ Aside0 (Below w.heap.size w wc))
     case first =>
      have H:=HC23.out
      clear HC23
      by_cases c52 : t274 = t257
      ·rw [if_pos c52] at H
       have c52b0 : (t274 == t257) = true:=beq_iff_eq.mpr c52
       have c52b1 : (t274 != t257) = false:=bne_eq_false_iff_eq.mpr c52
       clear c52
       (first|rw [c52b0]|(simp only [i64_w,i32_w];rw [c52b0])|skip)
       have H':=Aside0.mk H
       clear H
       go_wp2
       go_meet
       case rel => exact ⟨_,H',⟨by have:=HJ3.out;have:=HJ11.out;first|omega|exact Nat.le_refl _⟩,⟨by refine pr_ ?_;exact Kd.R_mono HO261.out (fun _ hk => ⟨hk.1.1.1.1,hk.2⟩)⟩,⟨by refine pr_ ?_;exact Kd.R_mono HO264.out (fun _ hk => ⟨hk.1.1.1.1,hk.2⟩)⟩,⟨by refine pr_ ?_;exact Kd.R_mono HO267.out (fun _ hk => trivial)⟩,⟨by refine pr_ ?_;exact Kd.R_mono HO272.out (fun _ hk => ⟨hk.1.2,hk.2⟩)⟩,⟨pe_ BK239.out⟩,⟨pe_ BK240.out⟩,⟨pe_ BK268.out⟩,⟨pe_ BK273.out⟩,⟨be4_ HB.out GE239.out GE240.out GE268.out GE273.out⟩⟩
      ·rw [if_neg c52] at H
       have c52b0 : (t274 == t257) = false:=beq_eq_false_iff_ne.mpr c52
       have c52b1 : (t274 != t257) = true:=bne_iff_ne.mpr c52
       (first|rw [c52b0]|(simp only [i64_w,i32_w];rw [c52b0])|skip)
       obtain rfl:=Option.some.inj H
       go_wp2
       go_ret
       exact ⟨by first|rfl|(simp [errW_none,errW_some] <;> rfl)|(simp [*,errW_none,errW_some] <;> rfl),be4_ HB.out GE239.out GE240.out GE268.out GE273.out⟩
     case rest =>
      clear HC23
      try clear c1
      try clear p2
      try clear c3
      try clear c4
      try clear c5
      try clear c7
      try clear c10
      try clear c10b0
      try clear c13
      try clear c14
      try clear c15
      try clear c16
      try clear c16b0
      try clear c17
      try clear c18
      try clear c19
      try clear c32
      try clear c36
      try clear c37
      try clear c45
      try clear c46
      try clear c47
      try clear c52
      try clear c52b0
      try clear c52b1
      try clear hcz14_0
      try clear hcz14_1
      try clear hcz33_0
      try clear hcz33_1
      try clear hcz33_2
      try clear hcz33_3
      try clear hcz38_0
      try clear hcz38_1
      try clear hcz38_2
      try clear hcz38_3
      try clear hcz42_0
      try clear hcz42_1
      try clear hcz48_0
      try clear hcz48_1
      try clear hcz50_0
      try clear hcz50_1
      try clear hcz50_2
      try clear hcz50_3
      try clear hcz8_0
      try clear hcz8_1
      try clear hcz8_2
      try clear hcz8_3
      try clear hfz14_0
      try clear hfz14_1
      try clear hfz33_0
      try clear hfz33_1
      try clear hfz33_2
      try clear hfz33_3
      try clear hfz38_0
      try clear hfz38_1
      try clear hfz38_2
      try clear hfz38_3
      try clear hfz42_0
      try clear hfz42_1
      try clear hfz48_0
      try clear hfz48_1
      try clear hfz50_0
      try clear hfz50_1
      try clear hfz50_2
      try clear hfz50_3
      try clear hfz8_0
      try clear hfz8_1
      try clear hfz8_2
      try clear hfz8_3
      try clear p2
      obtain ⟨kq,HA,HJ22,HO_269001,HO_269002,HO_269003,HO_274001,BK239,BK240,BK268,BK273,HB⟩:=hcut
      cases kq with
      | zero => exact absurd HA.out (by simp [laws_FnExactGradeBetween.j2])
      | succ kj22 =>
       have H:=HA.out
       clear HA
       simp only [laws_FnExactGradeBetween.j2] at H
       replace H:=Option.bind_eq_some_iff.mp H
       obtain ⟨⟨t275,t276,t279,t282⟩,A530,H⟩:=H
       replace H : ((laws_eqAutomaton.f kj22 t258 t259 t262 t265 t275 t276 t279 t282).bind fun t285 => (if t285 = true then (laws_FnExactGradeBetween.j3 kj22 a1_0 l1_1 t269 t270) else (some false))) = some r:=H
       have A53:=Aside0.mk A530
       clear A530
       replace H:=Option.bind_eq_some_iff.mp H
       obtain ⟨t285,A540,H⟩:=H
       replace H : (if t285 = true then (laws_FnExactGradeBetween.j3 kj22 a1_0 l1_1 t269 t270) else (some false)) = some r:=H
       have A54:=Aside0.mk A540
       clear A540
       have HC55:=Aside0.mk H
       clear H
       try go_wp2
       have n0_:=Aside0.mk (Kd.R_drew HO_269001.out)
       have n1_:=Aside0.mk (Kd.R_drew HO_269002.out)
       have n2_:=Aside0.mk (Kd.R_drew HO_269003.out)
       have n3_:=Aside0.mk (Kd.R_drew HO_274001.out)
       have n4_:=Aside0.mk (blk_drew BK239.out)
       have n5_:=Aside0.mk (blk_drew BK240.out)
       have n6_:=Aside0.mk (blk_drew BK268.out)
       have n7_:=Aside0.mk (blk_drew BK273.out)
       have n8_:=Aside0.mk (below_drew1 HB.out)
       clear HO_269001
       clear HO_269002
       clear HO_269003
       clear HO_274001
       clear BK239
       clear BK240
       clear BK268
       clear BK273
       clear HB
       have HO_269001:=n0_
       have HO_269002:=n1_
       have HO_269003:=n2_
       have HO_274001:=n3_
       have BK239:=n4_
       have BK240:=n5_
       have BK268:=n6_
       have BK273:=n7_
       have HB:=n8_
       clear n0_ n1_ n2_ n3_ n4_ n5_ n6_ n7_ n8_
       refine start_ (n:=5) (S:=fun w' => w'.cell? ⟨gb268,0,none⟩ = some (.int .i64 t258) ∧ w'.cell? ⟨gb268,1,none⟩ = some (.slice Ao39 t259.length co39) ∧ w'.cell? ⟨gb268,2,none⟩ = some (.slice Ao40 t262.length co40) ∧ w'.cell? ⟨gb268,3,none⟩ = some (.slice Ao41 t265.length co41) ∧ w'.cell? ⟨gb239,0,none⟩ = some (.int .i64 a0_0) ∧ w'.cell? ⟨gb239,1,none⟩ = some (.slice A0_1 l0_1.length c0_1) ∧ w'.cell? ⟨gb239,2,none⟩ = some (.slice A0_2 l0_2.length c0_2) ∧ w'.cell? ⟨gb239,3,none⟩ = some (.slice A0_3 l0_3.length c0_3)) (ds:=[]) #[false,false,false,false,false] (by kernel_rfl) rfl rfl ⟨(blk_cell BK268.out 0).trans rfl,(blk_cell BK268.out 1).trans rfl,(blk_cell BK268.out 2).trans rfl,(blk_cell BK268.out 3).trans rfl,(blk_cell BK239.out 0).trans rfl,(blk_cell BK239.out 1).trans rfl,(blk_cell BK239.out 2).trans rfl,(blk_cell BK239.out 3).trans rfl⟩ (fun hHeld => ?_)
       generalize wc.drew = w56 at HO_269001 HO_269002 HO_269003 HO_274001 BK239 BK240 BK268 BK273 HB hHeld ⊢
       refine take_ (i:=0) (N:=some 35) (v:=?_) (a':=?_) #[true,false,false,false,false] rfl rfl (by kernel_rfl) (fun _ _ _ h => h) (Or.inl ⟨by rfl,?_⟩) hHeld ?_ ?_
       rotate_left
       ·rintro w' ⟨s0,s1,s2,s3,s4,s5,s6,s7⟩
        go_simp
        with_reducible rfl
       rotate_left
       ·simp only [Act.put,List.setIfInBounds_toArray,List.set_cons_zero,List.set_cons_succ,i64_w,i32_w]
        rfl
       refine take_ (i:=1) (N:=some 36) (v:=?_) (a':=?_) #[true,true,false,false,false] rfl rfl (by kernel_rfl) (fun _ _ _ h => h) (Or.inl ⟨by rfl,?_⟩) hHeld ?_ ?_
       rotate_left
       ·rintro w' ⟨s0,s1,s2,s3,s4,s5,s6,s7⟩
        go_simp
        with_reducible rfl
       rotate_left
       ·simp only [Act.put,List.setIfInBounds_toArray,List.set_cons_zero,List.set_cons_succ,i64_w,i32_w]
        rfl
       refine one_ (i:=2) (N:=some 37) #[true,true,true,false,false] rfl rfl (by kernel_rfl) (by decide) (fun K hK => ?_)
       refine goes_ Try.func17 (by kernel_rfl) rfl #[.agg #[.int .i64 a0_0,.slice A0_1 l0_1.length c0_1,.slice A0_2 l0_2.length c0_2,.slice A0_3 l0_3.length c0_3]] (by rfl) rfl rfl lp_ ?_
       with_reducible refine (laws_toAutomaton.calls kj22 a0_0 _ _ l0_1 _ _ l0_2 _ _ l0_3 t275 t276 t279 t282 _ ?side1 ?side2 ?side3 ?side4 ?side5 ?side6 A53.out).mono ?_
       (case side1 => repeat (first|exact (Kd.C_below HR0_1.out HB.out)|(with_reducible refine Kd.C_alloc ?_ _)|(with_reducible refine Kd.C_drewN ?_ _)|(with_reducible refine Kd.C_drew ?_)))
       (case side2 => exact HC0_1.out)
       (case side3 => repeat (first|exact (Kd.C_below HR0_2.out HB.out)|(with_reducible refine Kd.C_alloc ?_ _)|(with_reducible refine Kd.C_drewN ?_ _)|(with_reducible refine Kd.C_drew ?_)))
       (case side4 => exact HC0_2.out)
       (case side5 => repeat (first|exact (Kd.C_below HR0_3.out HB.out)|(with_reducible refine Kd.C_alloc ?_ _)|(with_reducible refine Kd.C_drewN ?_ _)|(with_reducible refine Kd.C_drew ?_)))
       (case side6 => exact HC0_3.out)
       rintro e w57 ⟨v277,v280,v283,rfl,ho0,ho1,ho2,hb⟩
       refine ⟨_,rfl,?_⟩
       have n0_:=Aside0.mk (Kd.R_mono (Kd.R_told (Kd.R_told (Kd.R_old (pr_ HO_269001.out) hb) (Kd.R_base ho0)) (Kd.R_base ho1)) (fun _ h_ => h_.1))
       have n1_:=Aside0.mk (Kd.R_mono (Kd.R_told (Kd.R_told (Kd.R_old (pr_ HO_269002.out) hb) (Kd.R_base ho0)) (Kd.R_base ho1)) (fun _ h_ => h_.1))
       have n2_:=Aside0.mk (Kd.R_elder' (pr_ HO_269003.out) (Kd.R_base ho2) hb)
       have n3_:=Aside0.mk (Kd.R_mono (Kd.R_told (Kd.R_told (Kd.R_old (pr_ HO_274001.out) hb) (Kd.R_base ho0)) (Kd.R_base ho1)) (fun _ h_ => h_.1))
       have n4_:=Aside0.mk (Kd.R_lower (Kd.R_new' (Kd.R_new' (Kd.R_new' ho0 (Kd.R_lt (pr_ HO_269001.out))) (Kd.R_lt (pr_ HO_269002.out))) (Kd.R_lt (pr_ HO_274001.out))) (below_size (be4_ HB.out GE239.out GE240.out GE268.out GE273.out)))
       have n5_:=Aside0.mk (Kd.R_lower (Kd.R_new' (Kd.R_new' (Kd.R_new' ho1 (Kd.R_lt (pr_ HO_269001.out))) (Kd.R_lt (pr_ HO_269002.out))) (Kd.R_lt (pr_ HO_274001.out))) (below_size (be4_ HB.out GE239.out GE240.out GE268.out GE273.out)))
       have n6_:=Aside0.mk (Kd.R_lower (Kd.R_new' ho2 (Kd.R_lt (pr_ HO_269003.out))) (below_size (be4_ HB.out GE239.out GE240.out GE268.out GE273.out)))
       have n7_:=Aside0.mk (blk_below (g:=gb239) (o:=.cells #[.int .i64 a0_0,.slice A0_1 l0_1.length c0_1,.slice A0_2 l0_2.length c0_2,.slice A0_3 l0_3.length c0_3] 25 (0,0)) (pe_ BK239.out) hb)
       have n8_:=Aside0.mk (blk_below (g:=gb240) (o:=.cells #[.int .i64 a1_0,.slice A1_1 l1_1.length c1_1] 27 (0,0)) (pe_ BK240.out) hb)
       have n9_:=Aside0.mk (blk_below (g:=gb268) (o:=.cells #[.int .i64 t258,.slice Ao39 t259.length co39,.slice Ao40 t262.length co40,.slice Ao41 t265.length co41] 33 (0,0)) (pe_ BK268.out) hb)
       have n10_:=Aside0.mk (blk_below (g:=gb273) (o:=.cells #[.int .i64 t269,.slice Ao49 t270.length co49] 35 (0,0)) (pe_ BK273.out) hb)
       have n11_:=Aside0.mk (below_step (be4_ HB.out GE239.out GE240.out GE268.out GE273.out) hb)
       clear HO_269001
       clear HO_269002
       clear HO_269003
       clear HO_274001
       clear BK239
       clear BK240
       clear BK268
       clear BK273
       clear HB
       have HO_269001:=n0_
       have HO_269002:=n1_
       have HO_269003:=n2_
       have HO_274001:=n3_
       have HO278:=n4_
       have HO281:=n5_
       have HO284:=n6_
       have BK239:=n7_
       have BK240:=n8_
       have BK268:=n9_
       have BK273:=n10_
       have HB:=n11_
       clear n0_ n1_ n2_ n3_ n4_ n5_ n6_ n7_ n8_ n9_ n10_ n11_
       (try clear hb)
       (try clear hb2)
       (try clear hk)
       (try clear hi)
       (try clear ho0)
       (try clear ho1)
       (try clear ho2)
       obtain ⟨Ao58,co58,eo58⟩:=Kd.R_slice HO278.out
       (first|subst eo58|(injection eo58 with f1_ f2_ f3_;have f4_:=f1_.symm;have f5_:=f3_.symm;clear f1_ f2_ f3_;subst f4_;subst f5_))
       obtain ⟨Ao59,co59,eo59⟩:=Kd.R_slice HO281.out
       (first|subst eo59|(injection eo59 with f1_ f2_ f3_;have f4_:=f1_.symm;have f5_:=f3_.symm;clear f1_ f2_ f3_;subst f4_;subst f5_))
       obtain ⟨Ao60,co60,eo60⟩:=Kd.R_slice HO284.out
       (first|subst eo60|(injection eo60 with f1_ f2_ f3_;have f4_:=f1_.symm;have f5_:=f3_.symm;clear f1_ f2_ f3_;subst f4_;subst f5_))
       refine hK.out _ _ ⟨(blk_cell BK268.out 0).trans rfl,(blk_cell BK268.out 1).trans rfl,(blk_cell BK268.out 2).trans rfl,(blk_cell BK268.out 3).trans rfl,(blk_cell BK239.out 0).trans rfl,(blk_cell BK239.out 1).trans rfl,(blk_cell BK239.out 2).trans rfl,(blk_cell BK239.out 3).trans rfl⟩ (fun hHeld => ?_)
       clear hK K
       refine norm_ (a':=?_) ?_ ?_
       rotate_left
       ·show Act.put _ (some 37) _ = _
        simp only [Act.put,List.setIfInBounds_toArray,List.set_cons_zero,List.set_cons_succ,i64_w,i32_w]
        rfl
       refine one_ (i:=3) (N:=some 38) #[true,true,true,true,false] rfl rfl (by kernel_rfl) (by decide) (fun K hK => ?_)
       refine goes_ Try.func20 (by kernel_rfl) rfl #[.agg #[.int .i64 t258,.slice Ao39 t259.length co39,.slice Ao40 t262.length co40,.slice Ao41 t265.length co41],.agg #[.int .i64 t275,.slice Ao58 t276.length co58,.slice Ao59 t279.length co59,.slice Ao60 t282.length co60]] (by rfl) rfl rfl lp_ ?_
       with_reducible refine (laws_eqAutomaton.calls kj22 t258 _ _ t259 _ _ t262 _ _ t265 t275 _ _ t276 _ _ t279 _ _ t282 t285 _ ?side1 ?side2 ?side3 ?side4 ?side5 ?side6 ?side7 ?side8 ?side9 ?side10 ?side11 ?side12 A54.out).mono ?_
       (case side1 => repeat (first|exact (Kd.R_reads' HO_269001.out).2.2|(with_reducible refine Kd.C_alloc ?_ _)|(with_reducible refine Kd.C_drewN ?_ _)|(with_reducible refine Kd.C_drew ?_)))
       (case side2 => exact (Kd.R_reads' HO_269001.out).2.1)
       (case side3 => repeat (first|exact (Kd.R_reads' HO_269002.out).2.2|(with_reducible refine Kd.C_alloc ?_ _)|(with_reducible refine Kd.C_drewN ?_ _)|(with_reducible refine Kd.C_drew ?_)))
       (case side4 => exact (Kd.R_reads' HO_269002.out).2.1)
       (case side5 => repeat (first|exact (Kd.R_reads' HO_269003.out).2.2|(with_reducible refine Kd.C_alloc ?_ _)|(with_reducible refine Kd.C_drewN ?_ _)|(with_reducible refine Kd.C_drew ?_)))
       (case side6 => exact (Kd.R_reads' HO_269003.out).2.1)
       (case side7 => repeat (first|exact (Kd.R_reads' HO278.out).2.2|(with_reducible refine Kd.C_alloc ?_ _)|(with_reducible refine Kd.C_drewN ?_ _)|(with_reducible refine Kd.C_drew ?_)))
       (case side8 => exact (Kd.R_reads' HO278.out).2.1)
       (case side9 => repeat (first|exact (Kd.R_reads' HO281.out).2.2|(with_reducible refine Kd.C_alloc ?_ _)|(with_reducible refine Kd.C_drewN ?_ _)|(with_reducible refine Kd.C_drew ?_)))
       (case side10 => exact (Kd.R_reads' HO281.out).2.1)
       (case side11 => repeat (first|exact (Kd.R_reads' HO284.out).2.2|(with_reducible refine Kd.C_alloc ?_ _)|(with_reducible refine Kd.C_drewN ?_ _)|(with_reducible refine Kd.C_drew ?_)))
       (case side12 => exact (Kd.R_reads' HO284.out).2.1)
       rintro e w61 ⟨rfl,hb⟩
       refine ⟨_,rfl,?_⟩
       have n0_:=Aside0.mk (Kd.R_below (pr_ HO_269001.out) hb)
       have n1_:=Aside0.mk (Kd.R_below (pr_ HO_269002.out) hb)
       have n2_:=Aside0.mk (Kd.R_below (pr_ HO_269003.out) hb)
       have n3_:=Aside0.mk (Kd.R_below (pr_ HO_274001.out) hb)
       have n4_:=Aside0.mk (Kd.R_below (pr_ HO278.out) hb)
       have n5_:=Aside0.mk (Kd.R_below (pr_ HO281.out) hb)
       have n6_:=Aside0.mk (Kd.R_below (pr_ HO284.out) hb)
       have n7_:=Aside0.mk (blk_below (g:=gb239) (o:=.cells #[.int .i64 a0_0,.slice A0_1 l0_1.length c0_1,.slice A0_2 l0_2.length c0_2,.slice A0_3 l0_3.length c0_3] 25 (0,0)) (pe_ BK239.out) hb)
       have n8_:=Aside0.mk (blk_below (g:=gb240) (o:=.cells #[.int .i64 a1_0,.slice A1_1 l1_1.length c1_1] 27 (0,0)) (pe_ BK240.out) hb)
       have n9_:=Aside0.mk (blk_below (g:=gb268) (o:=.cells #[.int .i64 t258,.slice Ao39 t259.length co39,.slice Ao40 t262.length co40,.slice Ao41 t265.length co41] 33 (0,0)) (pe_ BK268.out) hb)
       have n10_:=Aside0.mk (blk_below (g:=gb273) (o:=.cells #[.int .i64 t269,.slice Ao49 t270.length co49] 35 (0,0)) (pe_ BK273.out) hb)
       have n11_:=Aside0.mk (below_step (be4_ HB.out GE239.out GE240.out GE268.out GE273.out) hb)
       clear HO_269001
       clear HO_269002
       clear HO_269003
       clear HO_274001
       clear HO278
       clear HO281
       clear HO284
       clear BK239
       clear BK240
       clear BK268
       clear BK273
       clear HB
       have HO_269001:=n0_
       have HO_269002:=n1_
       have HO_269003:=n2_
       have HO_274001:=n3_
       have HO278:=n4_
       have HO281:=n5_
       have HO284:=n6_
       have BK239:=n7_
       have BK240:=n8_
       have BK268:=n9_
       have BK273:=n10_
       have HB:=n11_
       clear n0_ n1_ n2_ n3_ n4_ n5_ n6_ n7_ n8_ n9_ n10_ n11_
       (try clear hb)
       (try clear hb2)
       (try clear hk)
       (try clear hi)
       refine hK.out _ _ ⟨(blk_cell BK268.out 0).trans rfl,(blk_cell BK268.out 1).trans rfl,(blk_cell BK268.out 2).trans rfl,(blk_cell BK268.out 3).trans rfl,(blk_cell BK239.out 0).trans rfl,(blk_cell BK239.out 1).trans rfl,(blk_cell BK239.out 2).trans rfl,(blk_cell BK239.out 3).trans rfl⟩ (fun hHeld => ?_)
       clear hK K
       refine norm_ (a':=?_) ?_ ?_
       rotate_left
       ·show Act.put _ (some 38) _ = _
        simp only [Act.put,List.setIfInBounds_toArray,List.set_cons_zero,List.set_cons_succ,i64_w,i32_w]
        rfl
       refine pure_ (i:=4) (N:=some 39) (v:=?_) (a':=?_) #[true,true,true,true,true] rfl rfl (by kernel_rfl) (fun _ _ _ h => h) (Or.inl ⟨by rfl,?_⟩) ?_ ?_
       rotate_left
       ·intro w'
        go_simp
        with_reducible rfl
       rotate_left
       ·simp only [Act.put,List.setIfInBounds_toArray,List.set_cons_zero,List.set_cons_succ,i64_w,i32_w]
        rfl
       refine done_ (by kernel_rfl) ?_
       go_upto_if 39 with (fail)
       go_cut [] (fun wc => ∃ (kq : Nat),Aside0 (laws_FnExactGradeBetween.j3 kq a1_0 l1_1 t269 t270 = some r) ∧ Aside0 (kq ≤ kj22) ∧ Aside0 (Kd.R (Kd.int .i64) 3 wc w.heap.size (fun k_ => some k_ ≠ ((.slice Ao40 t262.length co40) : Value).ownBlock ∧ some k_ ≠ ((.slice Ao49 t270.length co49) : Value).ownBlock) (.slice Ao39 t259.length co39) t259) ∧ Aside0 (Kd.R (Kd.int .i64) 3 wc w.heap.size (fun k_ => some k_ ≠ ((.slice Ao39 t259.length co39) : Value).ownBlock ∧ some k_ ≠ ((.slice Ao49 t270.length co49) : Value).ownBlock) (.slice Ao40 t262.length co40) t262) ∧ Aside0 (Kd.R k92 92 wc w.heap.size (fun _ => True) (.slice Ao41 t265.length co41) t265) ∧ Aside0 (Kd.R (Kd.int .i64) 3 wc w.heap.size (fun k_ => some k_ ≠ ((.slice Ao39 t259.length co39) : Value).ownBlock ∧ some k_ ≠ ((.slice Ao40 t262.length co40) : Value).ownBlock) (.slice Ao49 t270.length co49) t270) ∧ Aside0 (wc.heap[gb239]? = some (.cells #[.int .i64 a0_0,(.slice A0_1 l0_1.length c0_1),(.slice A0_2 l0_2.length c0_2),(.slice A0_3 l0_3.length c0_3)] 25 (0,0))) ∧ Aside0 (wc.heap[gb240]? = some (.cells #[.int .i64 a1_0,(.slice A1_1 l1_1.length c1_1)] 27 (0,0))) ∧ Aside0 (wc.heap[gb268]? = some (.cells #[.int .i64 t258,(.slice Ao39 t259.length co39),(.slice Ao40 t262.length co40),(.slice Ao41 t265.length co41)] 33 (0,0))) ∧ Aside0 (wc.heap[gb273]? = some (.cells #[.int .i64 t269,(.slice Ao49 t270.length co49)] 35 (0,0))) ∧ Aside0 (Below w.heap.size w wc))
       case first =>
        have H:=HC55.out
        clear HC55
        by_cases c62 : t285 = true
        ·subst c62
         have H1 : (laws_FnExactGradeBetween.j3 kj22 a1_0 l1_1 t269 t270) = some r:=by rw [if_pos rfl] at H;exact H
         clear H
         have H:=H1
         clear H1
         have H':=Aside0.mk H
         clear H
         go_wp2
         go_meet
         case rel => exact ⟨_,H',⟨by have:=HJ3.out;have:=HJ11.out;have:=HJ22.out;first|omega|exact Nat.le_refl _⟩,⟨by refine pr_ ?_;exact Kd.R_mono HO_269001.out (fun _ hk => ⟨hk.1.1.1,hk.1.1.2⟩)⟩,⟨by refine pr_ ?_;exact Kd.R_mono HO_269002.out (fun _ hk => ⟨hk.1.1.1,hk.1.1.2⟩)⟩,⟨by refine pr_ ?_;exact Kd.R_mono HO_269003.out (fun _ hk => trivial)⟩,⟨by refine pr_ ?_;exact Kd.R_mono HO_274001.out (fun _ hk => ⟨hk.1.1.1,hk.1.1.2⟩)⟩,⟨pe_ BK239.out⟩,⟨pe_ BK240.out⟩,⟨pe_ BK268.out⟩,⟨pe_ BK273.out⟩,⟨be4_ HB.out GE239.out GE240.out GE268.out GE273.out⟩⟩
        ·replace c62:=Bool.eq_false_iff.mpr c62
         subst c62
         have H1 : (some false) = some r:=by rw [if_neg (show ¬ (false = true) by decide)] at H;exact H
         clear H
         have H:=H1
         clear H1
         obtain rfl:=Option.some.inj H
         go_wp2
         go_ret
         exact ⟨by first|rfl|(simp [errW_none,errW_some] <;> rfl)|(simp [*,errW_none,errW_some] <;> rfl),be4_ HB.out GE239.out GE240.out GE268.out GE273.out⟩
       case rest =>
        clear HC55
        try clear c1
        try clear c2
        try clear p2
        try clear c3
        try clear c4
        try clear c5
        try clear c6
        try clear c7
        try clear c10
        try clear c10b0
        try clear c13
        try clear c14
        try clear c15
        try clear c16
        try clear c16b0
        try clear c17
        try clear c18
        try clear c19
        try clear c20
        try clear c32
        try clear c36
        try clear c37
        try clear c45
        try clear c46
        try clear c47
        try clear c52
        try clear c52b0
        try clear c52b1
        try clear c62
        try clear hcz14_0
        try clear hcz14_1
        try clear hcz33_0
        try clear hcz33_1
        try clear hcz33_2
        try clear hcz33_3
        try clear hcz38_0
        try clear hcz38_1
        try clear hcz38_2
        try clear hcz38_3
        try clear hcz42_0
        try clear hcz42_1
        try clear hcz48_0
        try clear hcz48_1
        try clear hcz50_0
        try clear hcz50_1
        try clear hcz50_2
        try clear hcz50_3
        try clear hcz8_0
        try clear hcz8_1
        try clear hcz8_2
        try clear hcz8_3
        try clear hfz14_0
        try clear hfz14_1
        try clear hfz33_0
        try clear hfz33_1
        try clear hfz33_2
        try clear hfz33_3
        try clear hfz38_0
        try clear hfz38_1
        try clear hfz38_2
        try clear hfz38_3
        try clear hfz42_0
        try clear hfz42_1
        try clear hfz48_0
        try clear hfz48_1
        try clear hfz50_0
        try clear hfz50_1
        try clear hfz50_2
        try clear hfz50_3
        try clear hfz8_0
        try clear hfz8_1
        try clear hfz8_2
        try clear hfz8_3
        try clear p2
        obtain ⟨kq,HA,HJ54,HO_269001,HO_269002,HO_269003,HO_274001,BK239,BK240,BK268,BK273,HB⟩:=hcut
        cases kq with
        | zero => exact absurd HA.out (by simp [laws_FnExactGradeBetween.j3])
        | succ kj54 =>
         have H:=HA.out
         clear HA
         simp only [laws_FnExactGradeBetween.j3] at H
         replace H:=Option.bind_eq_some_iff.mp H
         obtain ⟨⟨t286,t287⟩,A630,H⟩:=H
         replace H : ((laws_eqMatrix.f kj54 t269 t270 t286 t287).bind fun t290 => (if t290 = true then (some true) else (some false))) = some r:=H
         have A63:=Aside0.mk A630
         clear A630
         replace H:=Option.bind_eq_some_iff.mp H
         obtain ⟨t290,A640,H⟩:=H
         replace H : (if t290 = true then (some true) else (some false)) = some r:=H
         have A64:=Aside0.mk A640
         clear A640
         by_cases c65 : t290 = true
         ·subst c65
          have H1 : (some true) = some r:=by rw [if_pos rfl] at H;exact H
          clear H
          have H:=H1
          clear H1
          obtain rfl:=Option.some.inj H
          try go_wp2
          have n0_:=Aside0.mk (Kd.R_drew HO_269001.out)
          have n1_:=Aside0.mk (Kd.R_drew HO_269002.out)
          have n2_:=Aside0.mk (Kd.R_drew HO_269003.out)
          have n3_:=Aside0.mk (Kd.R_drew HO_274001.out)
          have n4_:=Aside0.mk (blk_drew BK239.out)
          have n5_:=Aside0.mk (blk_drew BK240.out)
          have n6_:=Aside0.mk (blk_drew BK268.out)
          have n7_:=Aside0.mk (blk_drew BK273.out)
          have n8_:=Aside0.mk (below_drew1 HB.out)
          clear HO_269001
          clear HO_269002
          clear HO_269003
          clear HO_274001
          clear BK239
          clear BK240
          clear BK268
          clear BK273
          clear HB
          have HO_269001:=n0_
          have HO_269002:=n1_
          have HO_269003:=n2_
          have HO_274001:=n3_
          have BK239:=n4_
          have BK240:=n5_
          have BK268:=n6_
          have BK273:=n7_
          have HB:=n8_
          clear n0_ n1_ n2_ n3_ n4_ n5_ n6_ n7_ n8_
          refine start_ (n:=5) (S:=fun w' => w'.cell? ⟨gb273,0,none⟩ = some (.int .i64 t269) ∧ w'.cell? ⟨gb273,1,none⟩ = some (.slice Ao49 t270.length co49) ∧ w'.cell? ⟨gb240,0,none⟩ = some (.int .i64 a1_0) ∧ w'.cell? ⟨gb240,1,none⟩ = some (.slice A1_1 l1_1.length c1_1)) (ds:=[]) #[false,false,false,false,false] (by kernel_rfl) rfl rfl ⟨(blk_cell BK273.out 0).trans rfl,(blk_cell BK273.out 1).trans rfl,(blk_cell BK240.out 0).trans rfl,(blk_cell BK240.out 1).trans rfl⟩ (fun hHeld => ?_)
          generalize wc.drew = w66 at HO_269001 HO_269002 HO_269003 HO_274001 BK239 BK240 BK268 BK273 HB hHeld ⊢
          refine take_ (i:=0) (N:=some 40) (v:=?_) (a':=?_) #[true,false,false,false,false] rfl rfl (by kernel_rfl) (fun _ _ _ h => h) (Or.inl ⟨by rfl,?_⟩) hHeld ?_ ?_
          rotate_left
          ·rintro w' ⟨s0,s1,s2,s3⟩
           go_simp
           with_reducible rfl
          rotate_left
          ·simp only [Act.put,List.setIfInBounds_toArray,List.set_cons_zero,List.set_cons_succ,i64_w,i32_w]
           rfl
          refine take_ (i:=1) (N:=some 41) (v:=?_) (a':=?_) #[true,true,false,false,false] rfl rfl (by kernel_rfl) (fun _ _ _ h => h) (Or.inl ⟨by rfl,?_⟩) hHeld ?_ ?_
          rotate_left
          ·rintro w' ⟨s0,s1,s2,s3⟩
           go_simp
           with_reducible rfl
          rotate_left
          ·simp only [Act.put,List.setIfInBounds_toArray,List.set_cons_zero,List.set_cons_succ,i64_w,i32_w]
           rfl
          refine one_ (i:=2) (N:=some 42) #[true,true,true,false,false] rfl rfl (by kernel_rfl) (by decide) (fun K hK => ?_)
          refine goes_ Try.func18 (by kernel_rfl) rfl #[.agg #[.int .i64 a1_0,.slice A1_1 l1_1.length c1_1]] (by rfl) rfl rfl lp_ ?_
          with_reducible refine (laws_toMatrix.calls kj54 a1_0 _ _ l1_1 t286 t287 _ ?side1 ?side2 A63.out).mono ?_
          (case side1 => repeat (first|exact (Kd.C_below HR1_1.out HB.out)|(with_reducible refine Kd.C_alloc ?_ _)|(with_reducible refine Kd.C_drewN ?_ _)|(with_reducible refine Kd.C_drew ?_)))
          (case side2 => exact HC1_1.out)
          rintro e w67 ⟨v288,rfl,ho0,hb⟩
          refine ⟨_,rfl,?_⟩
          have n0_:=Aside0.mk (Kd.R_elder' (pr_ HO_269001.out) (Kd.R_base ho0) hb)
          have n1_:=Aside0.mk (Kd.R_elder' (pr_ HO_269002.out) (Kd.R_base ho0) hb)
          have n2_:=Aside0.mk (Kd.R_below (pr_ HO_269003.out) hb)
          have n3_:=Aside0.mk (Kd.R_elder' (pr_ HO_274001.out) (Kd.R_base ho0) hb)
          have n4_:=Aside0.mk (Kd.R_lower (Kd.R_new' (Kd.R_new' (Kd.R_new' ho0 (Kd.R_lt (pr_ HO_269001.out))) (Kd.R_lt (pr_ HO_269002.out))) (Kd.R_lt (pr_ HO_274001.out))) (below_size (be4_ HB.out GE239.out GE240.out GE268.out GE273.out)))
          have n5_:=Aside0.mk (blk_below (g:=gb239) (o:=.cells #[.int .i64 a0_0,.slice A0_1 l0_1.length c0_1,.slice A0_2 l0_2.length c0_2,.slice A0_3 l0_3.length c0_3] 25 (0,0)) (pe_ BK239.out) hb)
          have n6_:=Aside0.mk (blk_below (g:=gb240) (o:=.cells #[.int .i64 a1_0,.slice A1_1 l1_1.length c1_1] 27 (0,0)) (pe_ BK240.out) hb)
          have n7_:=Aside0.mk (blk_below (g:=gb268) (o:=.cells #[.int .i64 t258,.slice Ao39 t259.length co39,.slice Ao40 t262.length co40,.slice Ao41 t265.length co41] 33 (0,0)) (pe_ BK268.out) hb)
          have n8_:=Aside0.mk (blk_below (g:=gb273) (o:=.cells #[.int .i64 t269,.slice Ao49 t270.length co49] 35 (0,0)) (pe_ BK273.out) hb)
          have n9_:=Aside0.mk (below_step (be4_ HB.out GE239.out GE240.out GE268.out GE273.out) hb)
          clear HO_269001
          clear HO_269002
          clear HO_269003
          clear HO_274001
          clear BK239
          clear BK240
          clear BK268
          clear BK273
          clear HB
          have HO_269001:=n0_
          have HO_269002:=n1_
          have HO_269003:=n2_
          have HO_274001:=n3_
          have HO289:=n4_
          have BK239:=n5_
          have BK240:=n6_
          have BK268:=n7_
          have BK273:=n8_
          have HB:=n9_
          clear n0_ n1_ n2_ n3_ n4_ n5_ n6_ n7_ n8_ n9_
          (try clear hb)
          (try clear hb2)
          (try clear hk)
          (try clear hi)
          (try clear ho0)
          obtain ⟨Ao68,co68,eo68⟩:=Kd.R_slice HO289.out
          (first|subst eo68|(injection eo68 with f1_ f2_ f3_;have f4_:=f1_.symm;have f5_:=f3_.symm;clear f1_ f2_ f3_;subst f4_;subst f5_))
          refine hK.out _ _ ⟨(blk_cell BK273.out 0).trans rfl,(blk_cell BK273.out 1).trans rfl,(blk_cell BK240.out 0).trans rfl,(blk_cell BK240.out 1).trans rfl⟩ (fun hHeld => ?_)
          clear hK K
          refine norm_ (a':=?_) ?_ ?_
          rotate_left
          ·show Act.put _ (some 42) _ = _
           simp only [Act.put,List.setIfInBounds_toArray,List.set_cons_zero,List.set_cons_succ,i64_w,i32_w]
           rfl
          refine one_ (i:=3) (N:=some 43) #[true,true,true,true,false] rfl rfl (by kernel_rfl) (by decide) (fun K hK => ?_)
          refine goes_ Try.func21 (by kernel_rfl) rfl #[.agg #[.int .i64 t269,.slice Ao49 t270.length co49],.agg #[.int .i64 t286,.slice Ao68 t287.length co68]] (by rfl) rfl rfl lp_ ?_
          with_reducible refine (laws_eqMatrix.calls kj54 t269 _ _ t270 t286 _ _ t287 true _ ?side1 ?side2 ?side3 ?side4 A64.out).mono ?_
          (case side1 => repeat (first|exact (Kd.R_reads' HO_274001.out).2.2|(with_reducible refine Kd.C_alloc ?_ _)|(with_reducible refine Kd.C_drewN ?_ _)|(with_reducible refine Kd.C_drew ?_)))
          (case side2 => exact (Kd.R_reads' HO_274001.out).2.1)
          (case side3 => repeat (first|exact (Kd.R_reads' HO289.out).2.2|(with_reducible refine Kd.C_alloc ?_ _)|(with_reducible refine Kd.C_drewN ?_ _)|(with_reducible refine Kd.C_drew ?_)))
          (case side4 => exact (Kd.R_reads' HO289.out).2.1)
          rintro e w69 ⟨rfl,hb⟩
          refine ⟨_,rfl,?_⟩
          have n0_:=Aside0.mk (Kd.R_below (pr_ HO_269001.out) hb)
          have n1_:=Aside0.mk (Kd.R_below (pr_ HO_269002.out) hb)
          have n2_:=Aside0.mk (Kd.R_below (pr_ HO_269003.out) hb)
          have n3_:=Aside0.mk (Kd.R_below (pr_ HO_274001.out) hb)
          have n4_:=Aside0.mk (Kd.R_below (pr_ HO289.out) hb)
          have n5_:=Aside0.mk (blk_below (g:=gb239) (o:=.cells #[.int .i64 a0_0,.slice A0_1 l0_1.length c0_1,.slice A0_2 l0_2.length c0_2,.slice A0_3 l0_3.length c0_3] 25 (0,0)) (pe_ BK239.out) hb)
          have n6_:=Aside0.mk (blk_below (g:=gb240) (o:=.cells #[.int .i64 a1_0,.slice A1_1 l1_1.length c1_1] 27 (0,0)) (pe_ BK240.out) hb)
          have n7_:=Aside0.mk (blk_below (g:=gb268) (o:=.cells #[.int .i64 t258,.slice Ao39 t259.length co39,.slice Ao40 t262.length co40,.slice Ao41 t265.length co41] 33 (0,0)) (pe_ BK268.out) hb)
          have n8_:=Aside0.mk (blk_below (g:=gb273) (o:=.cells #[.int .i64 t269,.slice Ao49 t270.length co49] 35 (0,0)) (pe_ BK273.out) hb)
          have n9_:=Aside0.mk (below_step (be4_ HB.out GE239.out GE240.out GE268.out GE273.out) hb)
          clear HO_269001
          clear HO_269002
          clear HO_269003
          clear HO_274001
          clear HO289
          clear BK239
          clear BK240
          clear BK268
          clear BK273
          clear HB
          have HO_269001:=n0_
          have HO_269002:=n1_
          have HO_269003:=n2_
          have HO_274001:=n3_
          have HO289:=n4_
          have BK239:=n5_
          have BK240:=n6_
          have BK268:=n7_
          have BK273:=n8_
          have HB:=n9_
          clear n0_ n1_ n2_ n3_ n4_ n5_ n6_ n7_ n8_ n9_
          (try clear hb)
          (try clear hb2)
          (try clear hk)
          (try clear hi)
          refine hK.out _ _ ⟨(blk_cell BK273.out 0).trans rfl,(blk_cell BK273.out 1).trans rfl,(blk_cell BK240.out 0).trans rfl,(blk_cell BK240.out 1).trans rfl⟩ (fun hHeld => ?_)
          clear hK K
          refine norm_ (a':=?_) ?_ ?_
          rotate_left
          ·show Act.put _ (some 43) _ = _
           simp only [Act.put,List.setIfInBounds_toArray,List.set_cons_zero,List.set_cons_succ,i64_w,i32_w]
           rfl
          refine pure_ (i:=4) (N:=some 44) (v:=?_) (a':=?_) #[true,true,true,true,true] rfl rfl (by kernel_rfl) (fun _ _ _ h => h) (Or.inl ⟨by rfl,?_⟩) ?_ ?_
          rotate_left
          ·intro w'
           go_simp
           with_reducible rfl
          rotate_left
          ·simp only [Act.put,List.setIfInBounds_toArray,List.set_cons_zero,List.set_cons_succ,i64_w,i32_w]
           rfl
          refine done_ (by kernel_rfl) ?_
          try go_wp2
          go_ret
          exact ⟨by first|rfl|(simp [errW_none,errW_some] <;> rfl)|(simp [*,errW_none,errW_some] <;> rfl),be4_ HB.out GE239.out GE240.out GE268.out GE273.out⟩
         ·replace c65:=Bool.eq_false_iff.mpr c65
          subst c65
          have H1 : (some false) = some r:=by rw [if_neg (show ¬ (false = true) by decide)] at H;exact H
          clear H
          have H:=H1
          clear H1
          obtain rfl:=Option.some.inj H
          try go_wp2
          have n0_:=Aside0.mk (Kd.R_drew HO_269001.out)
          have n1_:=Aside0.mk (Kd.R_drew HO_269002.out)
          have n2_:=Aside0.mk (Kd.R_drew HO_269003.out)
          have n3_:=Aside0.mk (Kd.R_drew HO_274001.out)
          have n4_:=Aside0.mk (blk_drew BK239.out)
          have n5_:=Aside0.mk (blk_drew BK240.out)
          have n6_:=Aside0.mk (blk_drew BK268.out)
          have n7_:=Aside0.mk (blk_drew BK273.out)
          have n8_:=Aside0.mk (below_drew1 HB.out)
          clear HO_269001
          clear HO_269002
          clear HO_269003
          clear HO_274001
          clear BK239
          clear BK240
          clear BK268
          clear BK273
          clear HB
          have HO_269001:=n0_
          have HO_269002:=n1_
          have HO_269003:=n2_
          have HO_274001:=n3_
          have BK239:=n4_
          have BK240:=n5_
          have BK268:=n6_
          have BK273:=n7_
          have HB:=n8_
          clear n0_ n1_ n2_ n3_ n4_ n5_ n6_ n7_ n8_
          refine start_ (n:=5) (S:=fun w' => w'.cell? ⟨gb273,0,none⟩ = some (.int .i64 t269) ∧ w'.cell? ⟨gb273,1,none⟩ = some (.slice Ao49 t270.length co49) ∧ w'.cell? ⟨gb240,0,none⟩ = some (.int .i64 a1_0) ∧ w'.cell? ⟨gb240,1,none⟩ = some (.slice A1_1 l1_1.length c1_1)) (ds:=[]) #[false,false,false,false,false] (by kernel_rfl) rfl rfl ⟨(blk_cell BK273.out 0).trans rfl,(blk_cell BK273.out 1).trans rfl,(blk_cell BK240.out 0).trans rfl,(blk_cell BK240.out 1).trans rfl⟩ (fun hHeld => ?_)
          generalize wc.drew = w70 at HO_269001 HO_269002 HO_269003 HO_274001 BK239 BK240 BK268 BK273 HB hHeld ⊢
          refine take_ (i:=0) (N:=some 40) (v:=?_) (a':=?_) #[true,false,false,false,false] rfl rfl (by kernel_rfl) (fun _ _ _ h => h) (Or.inl ⟨by rfl,?_⟩) hHeld ?_ ?_
          rotate_left
          ·rintro w' ⟨s0,s1,s2,s3⟩
           go_simp
           with_reducible rfl
          rotate_left
          ·simp only [Act.put,List.setIfInBounds_toArray,List.set_cons_zero,List.set_cons_succ,i64_w,i32_w]
           rfl
          refine take_ (i:=1) (N:=some 41) (v:=?_) (a':=?_) #[true,true,false,false,false] rfl rfl (by kernel_rfl) (fun _ _ _ h => h) (Or.inl ⟨by rfl,?_⟩) hHeld ?_ ?_
          rotate_left
          ·rintro w' ⟨s0,s1,s2,s3⟩
           go_simp
           with_reducible rfl
          rotate_left
          ·simp only [Act.put,List.setIfInBounds_toArray,List.set_cons_zero,List.set_cons_succ,i64_w,i32_w]
           rfl
          refine one_ (i:=2) (N:=some 42) #[true,true,true,false,false] rfl rfl (by kernel_rfl) (by decide) (fun K hK => ?_)
          refine goes_ Try.func18 (by kernel_rfl) rfl #[.agg #[.int .i64 a1_0,.slice A1_1 l1_1.length c1_1]] (by rfl) rfl rfl lp_ ?_
          with_reducible refine (laws_toMatrix.calls kj54 a1_0 _ _ l1_1 t286 t287 _ ?side1 ?side2 A63.out).mono ?_
          (case side1 => repeat (first|exact (Kd.C_below HR1_1.out HB.out)|(with_reducible refine Kd.C_alloc ?_ _)|(with_reducible refine Kd.C_drewN ?_ _)|(with_reducible refine Kd.C_drew ?_)))
          (case side2 => exact HC1_1.out)
          rintro e w71 ⟨v288,rfl,ho0,hb⟩
          refine ⟨_,rfl,?_⟩
          have n0_:=Aside0.mk (Kd.R_elder' (pr_ HO_269001.out) (Kd.R_base ho0) hb)
          have n1_:=Aside0.mk (Kd.R_elder' (pr_ HO_269002.out) (Kd.R_base ho0) hb)
          have n2_:=Aside0.mk (Kd.R_below (pr_ HO_269003.out) hb)
          have n3_:=Aside0.mk (Kd.R_elder' (pr_ HO_274001.out) (Kd.R_base ho0) hb)
          have n4_:=Aside0.mk (Kd.R_lower (Kd.R_new' (Kd.R_new' (Kd.R_new' ho0 (Kd.R_lt (pr_ HO_269001.out))) (Kd.R_lt (pr_ HO_269002.out))) (Kd.R_lt (pr_ HO_274001.out))) (below_size (be4_ HB.out GE239.out GE240.out GE268.out GE273.out)))
          have n5_:=Aside0.mk (blk_below (g:=gb239) (o:=.cells #[.int .i64 a0_0,.slice A0_1 l0_1.length c0_1,.slice A0_2 l0_2.length c0_2,.slice A0_3 l0_3.length c0_3] 25 (0,0)) (pe_ BK239.out) hb)
          have n6_:=Aside0.mk (blk_below (g:=gb240) (o:=.cells #[.int .i64 a1_0,.slice A1_1 l1_1.length c1_1] 27 (0,0)) (pe_ BK240.out) hb)
          have n7_:=Aside0.mk (blk_below (g:=gb268) (o:=.cells #[.int .i64 t258,.slice Ao39 t259.length co39,.slice Ao40 t262.length co40,.slice Ao41 t265.length co41] 33 (0,0)) (pe_ BK268.out) hb)
          have n8_:=Aside0.mk (blk_below (g:=gb273) (o:=.cells #[.int .i64 t269,.slice Ao49 t270.length co49] 35 (0,0)) (pe_ BK273.out) hb)
          have n9_:=Aside0.mk (below_step (be4_ HB.out GE239.out GE240.out GE268.out GE273.out) hb)
          clear HO_269001
          clear HO_269002
          clear HO_269003
          clear HO_274001
          clear BK239
          clear BK240
          clear BK268
          clear BK273
          clear HB
          have HO_269001:=n0_
          have HO_269002:=n1_
          have HO_269003:=n2_
          have HO_274001:=n3_
          have HO289:=n4_
          have BK239:=n5_
          have BK240:=n6_
          have BK268:=n7_
          have BK273:=n8_
          have HB:=n9_
          clear n0_ n1_ n2_ n3_ n4_ n5_ n6_ n7_ n8_ n9_
          (try clear hb)
          (try clear hb2)
          (try clear hk)
          (try clear hi)
          (try clear ho0)
          obtain ⟨Ao72,co72,eo72⟩:=Kd.R_slice HO289.out
          (first|subst eo72|(injection eo72 with f1_ f2_ f3_;have f4_:=f1_.symm;have f5_:=f3_.symm;clear f1_ f2_ f3_;subst f4_;subst f5_))
          refine hK.out _ _ ⟨(blk_cell BK273.out 0).trans rfl,(blk_cell BK273.out 1).trans rfl,(blk_cell BK240.out 0).trans rfl,(blk_cell BK240.out 1).trans rfl⟩ (fun hHeld => ?_)
          clear hK K
          refine norm_ (a':=?_) ?_ ?_
          rotate_left
          ·show Act.put _ (some 42) _ = _
           simp only [Act.put,List.setIfInBounds_toArray,List.set_cons_zero,List.set_cons_succ,i64_w,i32_w]
           rfl
          refine one_ (i:=3) (N:=some 43) #[true,true,true,true,false] rfl rfl (by kernel_rfl) (by decide) (fun K hK => ?_)
          refine goes_ Try.func21 (by kernel_rfl) rfl #[.agg #[.int .i64 t269,.slice Ao49 t270.length co49],.agg #[.int .i64 t286,.slice Ao72 t287.length co72]] (by rfl) rfl rfl lp_ ?_
          with_reducible refine (laws_eqMatrix.calls kj54 t269 _ _ t270 t286 _ _ t287 false _ ?side1 ?side2 ?side3 ?side4 A64.out).mono ?_
          (case side1 => repeat (first|exact (Kd.R_reads' HO_274001.out).2.2|(with_reducible refine Kd.C_alloc ?_ _)|(with_reducible refine Kd.C_drewN ?_ _)|(with_reducible refine Kd.C_drew ?_)))
          (case side2 => exact (Kd.R_reads' HO_274001.out).2.1)
          (case side3 => repeat (first|exact (Kd.R_reads' HO289.out).2.2|(with_reducible refine Kd.C_alloc ?_ _)|(with_reducible refine Kd.C_drewN ?_ _)|(with_reducible refine Kd.C_drew ?_)))
          (case side4 => exact (Kd.R_reads' HO289.out).2.1)
          rintro e w73 ⟨rfl,hb⟩
          refine ⟨_,rfl,?_⟩
          have n0_:=Aside0.mk (Kd.R_below (pr_ HO_269001.out) hb)
          have n1_:=Aside0.mk (Kd.R_below (pr_ HO_269002.out) hb)
          have n2_:=Aside0.mk (Kd.R_below (pr_ HO_269003.out) hb)
          have n3_:=Aside0.mk (Kd.R_below (pr_ HO_274001.out) hb)
          have n4_:=Aside0.mk (Kd.R_below (pr_ HO289.out) hb)
          have n5_:=Aside0.mk (blk_below (g:=gb239) (o:=.cells #[.int .i64 a0_0,.slice A0_1 l0_1.length c0_1,.slice A0_2 l0_2.length c0_2,.slice A0_3 l0_3.length c0_3] 25 (0,0)) (pe_ BK239.out) hb)
          have n6_:=Aside0.mk (blk_below (g:=gb240) (o:=.cells #[.int .i64 a1_0,.slice A1_1 l1_1.length c1_1] 27 (0,0)) (pe_ BK240.out) hb)
          have n7_:=Aside0.mk (blk_below (g:=gb268) (o:=.cells #[.int .i64 t258,.slice Ao39 t259.length co39,.slice Ao40 t262.length co40,.slice Ao41 t265.length co41] 33 (0,0)) (pe_ BK268.out) hb)
          have n8_:=Aside0.mk (blk_below (g:=gb273) (o:=.cells #[.int .i64 t269,.slice Ao49 t270.length co49] 35 (0,0)) (pe_ BK273.out) hb)
          have n9_:=Aside0.mk (below_step (be4_ HB.out GE239.out GE240.out GE268.out GE273.out) hb)
          clear HO_269001
          clear HO_269002
          clear HO_269003
          clear HO_274001
          clear HO289
          clear BK239
          clear BK240
          clear BK268
          clear BK273
          clear HB
          have HO_269001:=n0_
          have HO_269002:=n1_
          have HO_269003:=n2_
          have HO_274001:=n3_
          have HO289:=n4_
          have BK239:=n5_
          have BK240:=n6_
          have BK268:=n7_
          have BK273:=n8_
          have HB:=n9_
          clear n0_ n1_ n2_ n3_ n4_ n5_ n6_ n7_ n8_ n9_
          (try clear hb)
          (try clear hb2)
          (try clear hk)
          (try clear hi)
          refine hK.out _ _ ⟨(blk_cell BK273.out 0).trans rfl,(blk_cell BK273.out 1).trans rfl,(blk_cell BK240.out 0).trans rfl,(blk_cell BK240.out 1).trans rfl⟩ (fun hHeld => ?_)
          clear hK K
          refine norm_ (a':=?_) ?_ ?_
          rotate_left
          ·show Act.put _ (some 43) _ = _
           simp only [Act.put,List.setIfInBounds_toArray,List.set_cons_zero,List.set_cons_succ,i64_w,i32_w]
           rfl
          refine pure_ (i:=4) (N:=some 44) (v:=?_) (a':=?_) #[true,true,true,true,true] rfl rfl (by kernel_rfl) (fun _ _ _ h => h) (Or.inl ⟨by rfl,?_⟩) ?_ ?_
          rotate_left
          ·intro w'
           go_simp
           with_reducible rfl
          rotate_left
          ·simp only [Act.put,List.setIfInBounds_toArray,List.set_cons_zero,List.set_cons_succ,i64_w,i32_w]
           rfl
          refine done_ (by kernel_rfl) ?_
          try go_wp2
          go_ret
          exact ⟨by first|rfl|(simp [errW_none,errW_some] <;> rfl)|(simp [*,errW_none,errW_some] <;> rfl),be4_ HB.out GE239.out GE240.out GE268.out GE273.out⟩
def laws_FnExactGradeBetween.Pure : Prop := ∀ (a0_0 : Int) (l0_1 : List Int) (l0_2 : List Int) (l0_3 : List (S118)) (a1_0 : Int) (l1_1 : List Int),(Lit.int .i64 a0_0).wf = true → l0_1.length ≤ maxLen → (∀ x_ ∈ l0_1,(Lit.int .i64 x_).wf = true) → l0_2.length ≤ maxLen → (∀ x_ ∈ l0_2,(Lit.int .i64 x_).wf = true) → l0_3.length ≤ maxLen → (∀ x_ ∈ l0_3,(Lit.int .i64 x_.f0).wf = true ∧ x_.f1.size ≤ maxLen ∧ (Lit.int .i64 x_.f2).wf = true ∧ (Lit.int .i64 x_.f3).wf = true) → (Lit.int .i64 a1_0).wf = true → l1_1.length ≤ maxLen → (∀ x_ ∈ l1_1,(Lit.int .i64 x_).wf = true) → ∃ k,laws_FnExactGradeBetween.f k a0_0 l0_1 l0_2 l0_3 a1_0 l1_1 = some true
end Go.Proofs.Ytfmbpoojpnoafaa.X
end
section
namespace Go.Proofs.Ytfmbpoojpnoafaa.X
open Go.RowKit Go.Proofs.Ytfmbpoojpnoafaa.X Go.Proofs.YtfmbpoojpnoafaaW.PrintWords Go.Proofs.YtfmbpoojpnoafaaW.PrintLast Go.Proofs.YtfmbpoojpnoafaaW.PrintMore
set_option linter.unusedVariables false
set_option linter.unusedSimpArgs false
open Go.ChangeShapes Go.WideShapes Go.Deep
theorem field_ints {H : Type} {enc : TypeId × Value → H} {P : Program} {w : World} {base : Nat} {spare : Nat → Bool} {held : Bool} {t e : TypeId} {k : IntKind} {fuel : Nat} {v : Value} {x : DataW H × List MemPlace}
  (ht : P.underlying t = some (.slice e)) (he : P.underlying e = some (.int k)) (hc : P.cellsOf e = 1) (h : DataW.trod enc P w base spare held fuel t [v] = some x) :
  ∃ (A : Option Addr) (c : Nat) (l : List Int),v = .slice A l.length c ∧ Kd.C (Kd.int k) w A l.length l ∧ l.length ≤ c ∧ l.length ≤ maxLen ∧ ∀ n ∈ l,(Lit.int k n).wf = true:=by
 rcases open_ints ht he hc h with ⟨hcs,_⟩ | ⟨a,len,cap,zs,hcs,_,hl,hm,hz,_,hcell,hwf⟩
 ·simp at hcs
  obtain ⟨l,h1,h2,h3,h4,h5⟩:=ReadsInt.ofRowC (k:=k) (w:=w) (a:=none) (len:=0) (cap:=0) (zs:=[]) (.inl ⟨rfl,rfl,rfl,rfl⟩)
  exact ⟨none,0,l,by rw [hcs,← h1],Kd.C_of_reads (d:=(0 : Int)) (h1:=fun _ => rfl) h2,h5,h3,h4⟩
 ·simp at hcs
  have hr : ∃ l : List Int,len = l.length ∧ ReadsInt w k (some a) l.length l ∧ l.length ≤ maxLen ∧ (∀ x ∈ l,(Lit.int k x).wf = true):=by
   refine ⟨zs.take len,?_,?_,?_,fun x hx => hwf x (List.mem_of_mem_take hx)⟩
   ·rw [List.length_take,hz];split <;> omega
   ·have hlen : (zs.take len).length = len:=by rw [List.length_take,hz];split <;> omega
    refine ⟨rfl,by rw [hlen];exact Nat.le_trans hl hm,fun hn => ⟨a,rfl,fun j hj => ?_⟩⟩
    rw [hlen] at hj
    have hj2 : j < zs.length:=by rw [hz];split <;> omega
    rw [hcell j hj2]
    simp [List.getD_eq_getElem?_getD,List.getElem?_take,hj]
   ·rw [List.length_take];exact Nat.le_trans (Nat.min_le_left _ _) (Nat.le_trans hl hm)
  obtain ⟨l,h1,h2,h3,h4⟩:=hr
  exact ⟨some a,cap,l,by rw [hcs,← h1],Kd.C_of_reads (d:=(0 : Int)) (h1:=fun _ => rfl) h2,by omega,h3,h4⟩
theorem field_int {H : Type} {enc : TypeId × Value → H} {P : Program} {w : World} {base : Nat} {spare : Nat → Bool} {held : Bool} {t : TypeId} {k : IntKind} {fuel : Nat} {v : Value} {x : DataW H × List MemPlace}
  (ht : P.underlying t = some (.int k)) (h : DataW.trod enc P w base spare held fuel t [v] = some x) : ∃ n : Int,v = .int k n ∧ (Lit.int k n).wf = true:=by
 obtain ⟨n,h1,_,h2⟩:=DataW.trod_int ht h
 simp at h1
 exact ⟨n,h1,h2⟩
theorem field_str {H : Type} {enc : TypeId × Value → H} {P : Program} {w : World} {base : Nat} {spare : Nat → Bool} {held : Bool} {t : TypeId} {fuel : Nat} {v : Value} {x : DataW H × List MemPlace}
  (ht : P.underlying t = some .string) (h : DataW.trod enc P w base spare held fuel t [v] = some x) : ∃ s : ByteArray,v = .string s ∧ s.size ≤ maxLen:=by
 obtain ⟨s,h1,_,h2⟩:=DataW.trod_string ht h
 simp at h1
 exact ⟨s,h1,h2⟩
set_option maxRecDepth 100000 in
theorem row_matrix {H : Type} {enc : TypeId × Value → H} {w : World} {base b0 : Nat} {r : Reach} {spare : Nat → Bool} {held : Bool} {v : Value} {d : DataW H} {p : List MemPlace}
  (hv : Value.okWide Try.prog w r b0 27 v) (h : DataW.Trod enc Try.prog w base spare held 27 v d p) :
  ∃ (n : Int) (A : Option Addr) (c : Nat) (l : List Int),v = .agg #[.int .i64 n,.slice A l.length c] ∧ Kd.C (Kd.int .i64) w A l.length l ∧ l.length ≤ c ∧ (Lit.int .i64 n).wf = true ∧ l.length ≤ maxLen ∧ ∀ x ∈ l,(Lit.int .i64 x).wf = true:=by
 obtain ⟨v0,v1,y0,y1,n,rfl,_,_,h0,h1⟩:=Go.Joins.open_agg2 Try.underlying27 (by kernel_rfl) (by kernel_rfl) hv h
 obtain ⟨z,rfl,hz⟩:=field_int Try.underlying3 h0
 obtain ⟨A,c,l,rfl,hC,hc,hm,hw⟩:=field_ints Try.underlying22 Try.underlying3 (by kernel_rfl) h1
 exact ⟨z,A,c,l,rfl,hC,hc,hz,hm,hw⟩
end Go.Proofs.Ytfmbpoojpnoafaa.X
end
section
namespace Go.Proofs.Ytfmbpoojpnoafaa.X
open Go.RowKit Go.Proofs.Ytfmbpoojpnoafaa.X Go.Proofs.YtfmbpoojpnoafaaW.PrintWords Go.Proofs.YtfmbpoojpnoafaaW.PrintLast Go.Proofs.YtfmbpoojpnoafaaW.PrintMore
set_option linter.unusedVariables false
set_option linter.unusedSimpArgs false
open Go.ChangeShapes Go.WideShapes Go.Deep
set_option maxRecDepth 100000 in
theorem field_steps {H : Type} {enc : TypeId × Value → H} {w : World} {base : Nat} {spare : Nat → Bool} {held : Bool} {fuel : Nat} {v : Value} {x : DataW H × List MemPlace}
  (h : DataW.trod enc Try.prog w base spare held fuel 23 [v] = some x) :
  ∃ (A : Option Addr) (c : Nat) (l : List S118),v = .slice A l.length c ∧ Kd.C k118 w A l.length l ∧ l.length ≤ c ∧ l.length ≤ maxLen ∧ ∀ s ∈ l,(Lit.int .i64 s.f0).wf = true ∧ s.f1.size ≤ maxLen ∧ (Lit.int .i64 s.f2).wf = true ∧ (Lit.int .i64 s.f3).wf = true:=by
 rcases open_slice Try.underlying23 h with ⟨hcs,_⟩ | ⟨a,len,cap,m,n,D,Pl,hcs,_,hl,hm,hmm,_,hi⟩
 ·simp at hcs
  exact ⟨none,0,[],hcs,Kd.C_nil _ _,Nat.le_refl _,by simp,fun s hs => by cases hs⟩
 ·simp at hcs
  have hlm : len ≤ m:=by rw [hmm];split <;> omega
  have one : ∀ i,i < len → ∃ s : S118,(∀ u : Nat,∀ y,[Value.int .i64 s.f0,.string s.f1,.int .i64 s.f2,.int .i64 s.f3][u]? = some y → w.cell? (a.add (i * 4 + u)) = some y) ∧ (Lit.int .i64 s.f0).wf = true ∧ s.f1.size ≤ maxLen ∧ (Lit.int .i64 s.f2).wf = true ∧ (Lit.int .i64 s.f3).wf = true:=by
   intro i hil
   obtain ⟨cs',hc,ht'⟩:=hi i (by omega)
   rw [show Try.prog.cellsOf 118 = 4 by kernel_rfl] at hc
   obtain ⟨_,hcl,hat⟩:=World.cells?_some hc
   match cs',hcl with
   | [q0,q1,q2,q3],_ =>
   obtain ⟨y0,y1,y2,y3,n',_,_,t0,t1,t2,t3⟩:=Go.Joins.trod_struct4 Try.underlying118 ht'
   have ei : Try.prog.cellsOf 3 = 1:=by kernel_rfl
   have es : Try.prog.cellsOf 9 = 1:=by kernel_rfl
   have t0 : DataW.trod enc Try.prog w base spare held n' 3 [q0] = some y0:=by simpa [ei,es] using t0
   have t1 : DataW.trod enc Try.prog w base spare held n' 9 [q1] = some y1:=by simpa [ei,es] using t1
   have t2 : DataW.trod enc Try.prog w base spare held n' 3 [q2] = some y2:=by simpa [ei,es] using t2
   have t3 : DataW.trod enc Try.prog w base spare held n' 3 [q3] = some y3:=by simpa [ei,es] using t3
   have hat' : ∀ u,u < 4 → w.cell? (a.add (i * 4 + u)) = [q0,q1,q2,q3][u]?:=fun u hu => by rw [← Go.Deep.add_add];exact hat u hu
   have c0:=hat' 0 (by omega)
   have c1:=hat' 1 (by omega)
   have c2:=hat' 2 (by omega)
   have c3:=hat' 3 (by omega)
   clear hat hat' hc ht'
   obtain ⟨z0,rfl,w0⟩:=field_int Try.underlying3 t0
   obtain ⟨z1,rfl,w1⟩:=field_str Try.underlying9 t1
   obtain ⟨z2,rfl,w2⟩:=field_int Try.underlying3 t2
   obtain ⟨z3,rfl,w3⟩:=field_int Try.underlying3 t3
   refine ⟨⟨z0,z1,z2,z3⟩,?_,w0,w1,w2,w3⟩
   intro u y hu
   match u,hu with
   | 0,hu => obtain rfl:=Option.some.inj hu;exact c0
   | 1,hu => obtain rfl:=Option.some.inj hu;exact c1
   | 2,hu => obtain rfl:=Option.some.inj hu;exact c2
   | 3,hu => obtain rfl:=Option.some.inj hu;exact c3
   | u + 4,hu => simp at hu
  obtain ⟨l,hll,hlp⟩ : ∃ l : List S118,l.length = len ∧ ∀ i s,l[i]? = some s → (∀ u : Nat,∀ y,[Value.int .i64 s.f0,.string s.f1,.int .i64 s.f2,.int .i64 s.f3][u]? = some y → w.cell? (a.add (i * 4 + u)) = some y) ∧ (Lit.int .i64 s.f0).wf = true ∧ s.f1.size ≤ maxLen ∧ (Lit.int .i64 s.f2).wf = true ∧ (Lit.int .i64 s.f3).wf = true:=by
   have : ∀ q,q ≤ len → ∃ l : List S118,l.length = q ∧ ∀ i s,l[i]? = some s → (∀ u : Nat,∀ y,[Value.int .i64 s.f0,.string s.f1,.int .i64 s.f2,.int .i64 s.f3][u]? = some y → w.cell? (a.add (i * 4 + u)) = some y) ∧ (Lit.int .i64 s.f0).wf = true ∧ s.f1.size ≤ maxLen ∧ (Lit.int .i64 s.f2).wf = true ∧ (Lit.int .i64 s.f3).wf = true:=by
    intro q
    induction q with
    | zero => intro _;exact ⟨[],rfl,fun i s h => by simp at h⟩
    | succ q ih =>
     intro hq
     obtain ⟨l,h1,h2⟩:=ih (by omega)
     obtain ⟨s,hs⟩:=one q (by omega)
     refine ⟨l ++ [s],by simp [h1],fun i s' h => ?_⟩
     by_cases e : i < l.length
     ·rw [List.getElem?_append_left e] at h;exact h2 i s' h
     ·rw [List.getElem?_append_right (by omega)] at h
      have : i = q:=by
       have:=(List.getElem?_eq_some_iff.mp h).1
       simp at this;omega
      subst this
      rw [h1,Nat.sub_self] at h
      obtain rfl:=Option.some.inj h
      exact hs
   exact this len (Nat.le_refl _)
  refine ⟨some a,cap,l,by rw [hcs,hll],?_,by omega,by omega,fun s hs => ?_⟩
  ·refine ⟨rfl,(by have e : maxLen = 9223372036854775807:=rfl;omega),fun _ => ⟨a,rfl,fun j p hj => ?_⟩⟩
   exact ⟨_,rfl,k118_mk w p,(hlp j p hj).1⟩
  ·obtain ⟨i,hi',rfl⟩:=List.mem_iff_getElem.mp hs
   exact (hlp i _ (List.getElem?_eq_getElem hi')).2
set_option maxRecDepth 100000 in
theorem row_automaton {H : Type} {enc : TypeId × Value → H} {w : World} {base b0 : Nat} {r : Reach} {spare : Nat → Bool} {held : Bool} {v : Value} {d : DataW H} {p : List MemPlace}
  (hv : Value.okWide Try.prog w r b0 25 v) (h : DataW.Trod enc Try.prog w base spare held 25 v d p) :
  ∃ (n : Int) (A1 : Option Addr) (c1 : Nat) (l1 : List Int) (A2 : Option Addr) (c2 : Nat) (l2 : List Int) (A3 : Option Addr) (c3 : Nat) (l3 : List S118),v = .agg #[.int .i64 n,.slice A1 l1.length c1,.slice A2 l2.length c2,.slice A3 l3.length c3] ∧
   Kd.C (Kd.int .i64) w A1 l1.length l1 ∧ l1.length ≤ c1 ∧ Kd.C (Kd.int .i64) w A2 l2.length l2 ∧ l2.length ≤ c2 ∧ Kd.C k118 w A3 l3.length l3 ∧ l3.length ≤ c3 ∧ (Lit.int .i64 n).wf = true ∧
   l1.length ≤ maxLen ∧ (∀ x ∈ l1,(Lit.int .i64 x).wf = true) ∧ l2.length ≤ maxLen ∧ (∀ x ∈ l2,(Lit.int .i64 x).wf = true) ∧ l3.length ≤ maxLen ∧ (∀ s ∈ l3,(Lit.int .i64 s.f0).wf = true ∧ s.f1.size ≤ maxLen ∧ (Lit.int .i64 s.f2).wf = true ∧ (Lit.int .i64 s.f3).wf = true):=by
 obtain ⟨v0,v1,v2,v3,y0,y1,y2,y3,n,rfl,_,_,h0,h1,h2,h3⟩:=Go.Joins.open_agg4 Try.underlying25 (by kernel_rfl) (by kernel_rfl) hv h
 obtain ⟨z,rfl,hz⟩:=field_int Try.underlying3 h0
 obtain ⟨A1,c1,l1,rfl,hC1,hc1,hm1,hw1⟩:=field_ints Try.underlying22 Try.underlying3 (by kernel_rfl) h1
 obtain ⟨A2,c2,l2,rfl,hC2,hc2,hm2,hw2⟩:=field_ints Try.underlying22 Try.underlying3 (by kernel_rfl) h2
 obtain ⟨A3,c3,l3,rfl,hC3,hc3,hm3,hw3⟩:=field_steps h3
 exact ⟨z,A1,c1,l1,A2,c2,l2,A3,c3,l3,rfl,hC1,hc1,hC2,hc2,hC3,hc3,hz,hm1,hw1,hm2,hw2,hm3,hw3⟩
end Go.Proofs.Ytfmbpoojpnoafaa.X
end
section
namespace Go.Proofs.Ytfmbpoojpnoafaa.Y
open Go.RowKit Go.Proofs.Ytfmbpoojpnoafaa.X Go.Proofs.YtfmbpoojpnoafaaW.PrintWords Go.Proofs.YtfmbpoojpnoafaaW.PrintLast Go.Proofs.YtfmbpoojpnoafaaW.PrintMore
set_option linter.unusedVariables false
set_option linter.unusedSimpArgs false
def L (s : ByteArray) : List UInt8:=s.data.toList
theorem L_size (s : ByteArray) : s.size = (L s).length:=by simp [L]
theorem L_mk (l : List UInt8) : L ⟨l.toArray⟩ = l:=by simp [L]
theorem L_inj {s t : ByteArray} (h : L s = L t) : s = t:=by
 cases s;cases t;simp [L] at h;subst h;rfl
theorem toList_L (s : ByteArray) : s.toList = L s:=ByteArray.toList_eq s
theorem L_extract (s : ByteArray) (a b : Nat) : L (s.extract a b) = ((L s).take b).drop a:=by
 simp [L,ByteArray.data_extract,Array.toList_extract,List.extract,List.drop_take]
theorem L_append (s t : ByteArray) : L (s ++ t) = L s ++ L t:=by simp [L,ByteArray.data_append]
theorem L_nil {s : ByteArray} : s.toList = ([] : List UInt8) ↔ L s = []:=by rw [toList_L]
theorem bt_L (s : ByteArray) (i : Int) : bt s i = (((L s).getD i.toNat 0).toNat : Int):=by
 unfold bt L
 split
 ·next h =>
  have h' : i.toNat < s.data.toList.length:=by simpa using h
  rw [List.getD_eq_getElem?_getD,List.getElem?_eq_getElem h']
  simp;rfl
 ·next h =>
  have h' : s.data.toList.length ≤ i.toNat:=by simpa using h
  rw [List.getD_eq_getElem?_getD,List.getElem?_eq_none h'];rfl
theorem w64 {x : Int} (h0 : -9223372036854775808 ≤ x) (h1 : x ≤ 9223372036854775807) : wrap64 x = x:=by unfold wrap64;omega
theorem _root_.Go.Proofs.YtfmbpoojpnoafaaW.PrintWords.Ev.is {α : Type} {g : Nat → Option α} {r r' : α} (h : Ev g r) (e : r = r') : Ev g r':=e ▸ h
theorem bt_suffix {s : ByteArray} {u : List UInt8} {c : UInt8} {e : List UInt8} (h : L s = u ++ c :: e) : bt s u.length = (c.toNat : Int):=by
 rw [bt_L,h];simp [List.getD_eq_getElem?_getD]
theorem size_suffix {s : ByteArray} {u e : List UInt8} (h : L s = u ++ e) : s.size = u.length + e.length:=by rw [L_size,h];simp
theorem u8_ne {c d : UInt8} (h : c ≠ d) : ¬ ((c.toNat : Int) = (d.toNat : Int)):=by
 intro e;exact h (UInt8.toNat.inj (by exact_mod_cast e))
end Go.Proofs.Ytfmbpoojpnoafaa.Y
end
section
namespace Go.Proofs.Ytfmbpoojpnoafaa.Y
open Go.RowKit Go.Proofs.Ytfmbpoojpnoafaa.X Go.Proofs.YtfmbpoojpnoafaaW.PrintWords Go.Proofs.YtfmbpoojpnoafaaW.PrintLast Go.Proofs.YtfmbpoojpnoafaaW.PrintMore
set_option linter.unusedVariables false
set_option linter.unusedSimpArgs false
theorem rd_mid (pre : List Int) (x : Int) (t : List Int) : rd (pre ++ x :: t) (pre.length : Int) = x:=by simp [rd,List.getD_eq_getElem?_getD]
theorem rd_nat (l : List Int) (i : Nat) : rd l (i : Int) = l.getD i 0:=by simp [rd]
theorem snoc_len (pre : List Int) (x : Int) : (((pre ++ [x]).length : Nat) : Int) = (pre.length : Int) + 1:=by simp
theorem wf_in {n : Int} (h : (Lit.int .i64 n).wf = true) : -9223372036854775808 ≤ n ∧ n ≤ 9223372036854775807:=by
 have hmin : IntKind.i64.min = -9223372036854775808:=rfl
 have hmax : IntKind.i64.max = 9223372036854775807:=rfl
 simp only [Lit.wf,Bool.and_eq_true,decide_eq_true_eq] at h
 omega
theorem maxLen_eq : maxLen = 9223372036854775807:=rfl
theorem ev_all {α : Type} {f : Nat → Nat → Option α} {g : Nat → α} (n : Nat) (h : ∀ i,i < n → Ev (f i) (g i)) : ∃ K0,∀ K,K0 ≤ K → ∀ i,i < n → f i K = some (g i):=by
 induction n with
 | zero => exact ⟨0,fun _ _ i hi => by omega⟩
 | succ n ih =>
  obtain ⟨K0,h0⟩:=ih (fun i hi => h i (by omega))
  obtain ⟨K1,h1⟩:=h n (by omega)
  refine ⟨max K0 K1,fun K hK i hi => ?_⟩
  by_cases e : i = n
  ·subst e;exact h1 K (by omega)
  ·exact h0 K (by omega) i (by omega)
theorem ev_up {α : Type} {f : Nat → Option α} {p : Nat → Nat → Option α} {r : α} (h : Ev f r) (hp : ∃ K0,∀ K,K0 ≤ K → ∀ j,LeO (f j) (p K (j + 1))) (hm : ∀ K j,LeO (p K j) (p K (j + 1))) : Ev (fun K => p K K) r:=by
 obtain ⟨K1,h1⟩:=h
 obtain ⟨K0,h0⟩:=hp
 refine ⟨max K0 (K1 + 1),fun K hK => ?_⟩
 have a:=h0 K (by omega) K1 r (h1 K1 (Nat.le_refl _))
 exact at_rounds (g:=p K) (hm K) (show K1 + 1 ≤ K by omega) a
theorem ev_some {α : Type} {f : Nat → Option α} {r : α} (h : ∀ k,f k = some r) : Ev f r:=⟨0,fun k _ => h k⟩
theorem up_loop {β : Type} (n : Nat) (L : Nat → Nat → Option β) (r : β) (step : ∀ i,i < n → Ev (L (i + 1)) r → Ev (L i) r) (h : Ev (L n) r) : Ev (L 0) r:=by
 have go : ∀ d,d ≤ n → Ev (L (n - d)) r:=by
  intro d
  induction d with
  | zero => intro _;exact h
  | succ d ih =>
   intro hd
   have e : n - (d + 1) + 1 = n - d:=by omega
   exact step (n - (d + 1)) (by omega) (by rw [e];exact ih (by omega))
 have:=go n (Nat.le_refl _)
 rwa [Nat.sub_self] at this
def tab (N : Nat) (F : Nat → Int) : List Int:=(List.range N).map F
theorem tab_length (N : Nat) (F : Nat → Int) : (tab N F).length = N:=by simp [tab]
theorem tab_snoc (N : Nat) (F : Nat → Int) : tab N F ++ [F N] = tab (N + 1) F:=by simp [tab,List.range_succ]
theorem tab_get (N : Nat) (F : Nat → Int) (j : Nat) (h : j < N) : (tab N F).getD j 0 = F j:=by
 simp [tab,List.getD_eq_getElem?_getD,List.getElem?_map,List.getElem?_range h]
theorem tab_congr (N : Nat) (F G : Nat → Int) (h : ∀ j,j < N → F j = G j) : tab N F = tab N G:=by
 unfold tab
 exact List.map_congr_left (fun j hj => h j (List.mem_range.mp hj))
theorem mem_tab {N : Nat} {F : Nat → Int} {x : Int} : x ∈ tab N F ↔ ∃ j,j < N ∧ F j = x:=by simp [tab]
theorem eq_tab (l : List Int) (N : Nat) (h : l.length = N) : l = tab N (fun j => l.getD j 0):=by
 apply List.ext_getElem
 ·simp [tab,h]
 ·intro i h1 h2
  simp [tab,List.getD_eq_getElem?_getD,List.getElem?_eq_getElem h1]
theorem fold_snoc {β : Type} (n : Nat) (f : β → Nat → β) (b : β) : (List.range (n + 1)).foldl f b = f ((List.range n).foldl f b) n:=by simp [List.range_succ]
end Go.Proofs.Ytfmbpoojpnoafaa.Y
end
section
namespace Go.Proofs.Ytfmbpoojpnoafaa.Y
open Go.RowKit Go.Proofs.Ytfmbpoojpnoafaa.X Go.Proofs.YtfmbpoojpnoafaaW.PrintWords Go.Proofs.YtfmbpoojpnoafaaW.PrintLast Go.Proofs.YtfmbpoojpnoafaaW.PrintMore
set_option linter.unusedVariables false
set_option linter.unusedSimpArgs false
theorem toIntS_ev (l : List Int) (h : l.length ≤ 1048576) : Ev (fun k => laws_toIntS.f k l) l:=by
 have go : ∀ (t pre : List Int),l = pre ++ t → Ev (fun k => laws_toIntS.l0 k l (pre ++ List.replicate t.length 0) (pre.length : Int)) l:=by
  intro t
  induction t with
  | nil =>
   intro pre hl
   refine Ev.step (f:=fun _ => some l) (fun k => ?_) (Ev.now _)
   simp only [laws_toIntS.l0]
   rw [if_neg (by rw [hl];simp)]
   simp [hl]
  | cons x t ih =>
   intro pre hl
   have hlen : l.length = pre.length + (t.length + 1):=by rw [hl];simp
   refine Ev.step (fun k => ?_) (ih (pre ++ [x]) (by simp [hl]))
   simp only [laws_toIntS.l0]
   rw [if_pos (by omega),if_pos (by omega),if_pos (by simp;omega),w64 (by omega) (by omega),hl,rd_mid,snoc_len,← hl]
   congr 1
   simp [List.replicate_succ,List.set_append]
 refine Ev.congr (fun k => ?_) (go l [] rfl)
 unfold laws_toIntS.f
 rw [if_pos (by omega),if_pos (by omega)]
 simp
theorem eqIntS_ev (a b : List Int) (h : a.length ≤ 1000000000) : Ev (fun k => laws_eqIntS.f k a b) (decide (a = b)):=by
 by_cases hl : a.length = b.length
 ·have go : ∀ (t u pre : List Int),a = pre ++ t → b = pre ++ u → Ev (fun k => laws_eqIntS.l0 k a b (pre.length : Int)) (decide (a = b)):=by
   intro t
   induction t with
   | nil =>
    intro u pre ha hb
    have hu : u = []:=by
     have h1:=congrArg List.length ha
     have h2:=congrArg List.length hb
     simp at h1 h2
     exact List.length_eq_zero_iff.mp (by omega)
    subst hu
    have hab : a = b:=by rw [ha,hb]
    refine Ev.step (f:=fun _ => some true) (fun k => ?_) ((Ev.now _).is (by rw [decide_eq_true hab]))
    simp only [laws_eqIntS.l0]
    rw [if_neg (by rw [ha];simp)]
   | cons x t ih =>
    intro u pre ha hb
    have hla : a.length = pre.length + (t.length + 1):=by rw [ha];simp
    cases u with
    | nil => have h2:=congrArg List.length hb;simp at h2;omega
    | cons y u =>
     by_cases hxy : x = y
     ·subst hxy
      refine Ev.step (fun k => ?_) (ih u (pre ++ [x]) (by simp [ha]) (by simp [hb]))
      simp only [laws_eqIntS.l0]
      rw [if_pos (by omega),if_pos (by omega),if_pos (by omega),w64 (by omega) (by omega),snoc_len,if_pos (by rw [ha,hb,rd_mid,rd_mid])]
     ·have hab : ¬ a = b:=by
       intro e
       rw [ha,hb] at e
       have:=List.append_cancel_left e
       simp at this
       exact hxy this.1
      refine Ev.step (f:=fun _ => some false) (fun k => ?_) ((Ev.now _).is (by rw [decide_eq_false hab]))
      simp only [laws_eqIntS.l0]
      rw [if_pos (by omega),if_pos (by omega),if_pos (by omega),if_neg (by rw [ha,hb,rd_mid,rd_mid];exact hxy)]
  refine Ev.congr (fun k => ?_) (go a b [] rfl rfl)
  unfold laws_eqIntS.f
  rw [if_pos (by omega)];rfl
 ·have hab : ¬ a = b:=fun e => hl (by rw [e])
  refine Ev.congr (f:=fun _ => some false) (fun k => ?_) ((Ev.now _).is (by rw [decide_eq_false hab]))
  unfold laws_eqIntS.f
  rw [if_neg (by omega)]
theorem toMatrix_ev (n : Int) (l : List Int) (h : l.length ≤ 1048576) : Ev (fun k => laws_toMatrix.f k n l) (n,l):=by
 refine Ev.congr (f:=?f1) (fun k => ?h1) ?k1
 case h1 => unfold laws_toMatrix.f;exact rfl
 exact Ev.bind (toIntS_ev l h) (Ev.now _)
theorem eqMatrix_ev (n : Int) (l : List Int) (h : l.length ≤ 1000000000) : Ev (fun k => laws_eqMatrix.f k n l n l) true:=by
 refine Ev.congr (f:=?f2) (fun k => ?h2) ?k2
 case h2 => unfold laws_eqMatrix.f;rw [if_pos rfl] <;> exact rfl
 exact Ev.bind (eqIntS_ev l l h) (Ev.congr (f:=fun _ => some true) (fun k => by simp) (Ev.now _))
theorem szMatrix_eq (n : Int) (l : List Int) (z : Int) (h : l.length ≤ maxLen) (h0 : 0 ≤ z) (h1 : z ≤ 1048576) : laws_szMatrix.f n l z = some (if (l.length : Int) ≤ z then z - l.length else -1):=by
 rw [maxLen_eq] at h
 unfold laws_szMatrix.f laws_szIntS.f
 rw [w64 (by omega) (by omega)]
 by_cases hl : (l.length : Int) ≤ z
 ·rw [if_neg (by omega),if_pos hl,Option.bind_some,if_neg (by omega)]
 ·rw [if_pos (by omega),if_neg hl];rfl
theorem Ev_t {α : Type} {f g : Nat → Option α} {r : α} {c : Prop} [Decidable c] (h : c) (k : Ev f r) : Ev (fun n => if c then f n else g n) r:=Ev.congr (fun n => if_pos h) k
theorem Ev_f {α : Type} {f g : Nat → Option α} {r : α} {c : Prop} [Decidable c] (h : ¬ c) (k : Ev g r) : Ev (fun n => if c then f n else g n) r:=Ev.congr (fun n => if_neg h) k
theorem Ev_sz {α : Type} {o : Option Int} {z : Int} {g : Nat → Int → Option α} {r : α} (h : o = some z) (k : Ev (fun n => g n z) r) : Ev (fun n => o.bind (g n)) r:=Ev.congr (fun n => by rw [h];rfl) k
end Go.Proofs.Ytfmbpoojpnoafaa.Y
end
section
namespace Go.Proofs.Ytfmbpoojpnoafaa.Y
open Go.RowKit Go.Proofs.Ytfmbpoojpnoafaa.X Go.Proofs.YtfmbpoojpnoafaaW.PrintWords Go.Proofs.YtfmbpoojpnoafaaW.PrintLast Go.Proofs.YtfmbpoojpnoafaaW.PrintMore
set_option linter.unusedVariables false
set_option linter.unusedSimpArgs false
def okCost (x : Int) : Bool:=decide (0 ≤ x ∧ x ≤ 1000000)
def MV (n : Int) (l : List Int) : Prop:=1 ≤ n ∧ n ≤ 4 ∧ (l.length : Int) = n * n ∧ ∀ x ∈ l,0 ≤ x ∧ x ≤ 1000000
def GV (n : Int) (l : List Int) : Prop:=MV n l ∧ ∀ x ∈ l,x ≤ 3
instance (n : Int) (l : List Int) : Decidable (MV n l):=by unfold MV;infer_instance
instance (n : Int) (l : List Int) : Decidable (GV n l):=by unfold GV;infer_instance
theorem icost (a : Int) : impl_CostValid.f a = some (okCost a):=by
 unfold impl_CostValid.f okCost
 by_cases h : a ≥ 0
 ·rw [if_pos h];by_cases h2 : a ≤ 1000000 <;> simp [h2] <;> omega
 ·rw [if_neg h];simp;omega
theorem scost (a : Int) : spec_CostValid.f a = some (okCost a):=by
 unfold spec_CostValid.f spec_l1In.f okCost
 by_cases h : a ≥ 0
 ·rw [if_pos h];by_cases h2 : a ≤ 1000000 <;> simp [h2] <;> omega
 ·rw [if_neg h];simp;omega
theorem sIn (a lo hi : Int) : spec_l1In.f a lo hi = some (decide (lo ≤ a ∧ a ≤ hi)):=by
 unfold spec_l1In.f
 by_cases h : a ≥ lo
 ·rw [if_pos h];by_cases h2 : a ≤ hi <;> simp [h2] <;> omega
 ·rw [if_neg h];simp;omega
theorem index_ev (q : Int → Bool) (p : Int → Option Bool) (hp : ∀ x,p x = some (q x)) (l : List Int) (h : l.length ≤ maxLen) :
  Ev (fun k => slices_ContainsFunc_int_int.f p k l) (l.any q):=by
 rw [maxLen_eq] at h
 have go : ∀ (t pre : List Int),l = pre ++ t → ∃ z : Int,Ev (fun k => slices_IndexFunc_int_int.l0 p k l (l.length : Int) (pre.length : Int)) z ∧ decide (z ≥ 0) = t.any q:=by
  intro t
  induction t with
  | nil =>
   intro pre hl
   refine ⟨-1,?_,rfl⟩
   refine Ev.step (f:=fun _ => some (-1)) (fun k => ?_) (Ev.now _)
   simp only [slices_IndexFunc_int_int.l0]
   rw [if_neg (by rw [hl];simp)]
  | cons x t ih =>
   intro pre hl
   have hlen : l.length = pre.length + (t.length + 1):=by rw [hl];simp
   have hx : rd l (pre.length : Int) = x:=by rw [hl,rd_mid]
   cases hq : q x with
   | true =>
    refine ⟨pre.length,?_,by simp [hq]⟩
    refine Ev.step (f:=fun _ => some (pre.length : Int)) (fun k => ?_) (Ev.now _)
    simp only [slices_IndexFunc_int_int.l0]
    rw [if_pos (by omega),if_pos (by omega),if_pos (by omega),hx,hp,hq,Option.bind_some,if_pos rfl]
   | false =>
    obtain ⟨z,hz,hd⟩:=ih (pre ++ [x]) (by simp [hl])
    refine ⟨z,?_,by simp [hq,hd]⟩
    refine Ev.step (fun k => ?_) hz
    simp only [slices_IndexFunc_int_int.l0]
    rw [if_pos (by omega),if_pos (by omega),if_pos (by omega),hx,hp,hq,Option.bind_some,if_neg (by simp),w64 (by omega) (by omega),snoc_len]
 obtain ⟨z,hz,hd⟩:=go l [] rfl
 refine Ev.congr (f:=?f1) (fun k => ?h1) ?k1
 case h1 => unfold slices_ContainsFunc_int_int.f slices_IndexFunc_int_int.f;exact rfl
 exact Ev.bind hz (Ev.congr (f:=fun _ => some (l.any q)) (fun k => by rw [hd]) (Ev.now _))
theorem iMV (n : Int) (l : List Int) (hl : l.length ≤ maxLen) : Ev (fun k => impl_MatrixValid.f k n l) (decide (MV n l)):=by
 have no : ∀ f : Nat → Option Bool,(∀ k,f k = some false) → ¬ MV n l → Ev f (decide (MV n l)):=fun f h h2 => (ev_some h).is (by rw [decide_eq_false h2])
 by_cases h1 : n < 1
 ·exact no _ (fun k => by unfold impl_MatrixValid.f;rw [if_pos h1]) (fun h => by unfold MV at h;omega)
 by_cases h2 : n > 4
 ·exact no _ (fun k => by unfold impl_MatrixValid.f;rw [if_neg h1,if_pos h2]) (fun h => by unfold MV at h;omega)
 have hnn : 0 ≤ n * n ∧ n * n ≤ 16:=by
  have : n = 1 ∨ n = 2 ∨ n = 3 ∨ n = 4:=by omega
  rcases this with rfl|rfl|rfl|rfl <;> omega
 by_cases h3 : (l.length : Int) = wrap64 (n * n)
 ·rw [w64 (by omega) (by omega)] at h3
  refine Ev.congr (f:=?f2) (fun k => ?h2) ?k2
  case h2 => unfold impl_MatrixValid.f;rw [if_neg h1,if_neg h2,w64 (x:=n * n) (by omega) (by omega),if_pos h3] <;> exact rfl
  have hq : ∀ x,impl_MatrixValid_1.f x = some (!(okCost x)):=fun x => by unfold impl_MatrixValid_1.f;rw [icost];rfl
  refine Ev.bind (index_ev (fun x => !(okCost x)) _ hq l hl) ?_
  refine (ev_some (fun k => rfl)).is ?_
  rw [Bool.eq_iff_iff]
  simp only [Bool.not_eq_true',List.any_eq_false,Bool.not_eq_true',Bool.not_eq_false,decide_eq_true_eq]
  constructor
  ·intro h;exact ⟨by omega,by omega,h3,fun x hx => by simpa [okCost] using h x hx⟩
  ·intro h x hx;simpa [okCost] using h.2.2.2 x hx
 ·refine no _ (fun k => by unfold impl_MatrixValid.f;rw [if_neg h1,if_neg h2,if_neg h3]) (fun h => ?_)
  rw [w64 (by omega) (by omega)] at h3
  exact h3 h.2.2.1
theorem iGV (n : Int) (l : List Int) (hl : l.length ≤ maxLen) : Ev (fun k => impl_GradesValid.f k n l) (decide (GV n l)):=by
 refine Ev.congr (f:=?f3) (fun k => ?h3) ?k3
 case h3 => unfold impl_GradesValid.f;exact rfl
 refine Ev.bind (iMV n l hl) ?_
 by_cases h : MV n l
 ·refine Ev.congr (f:=?f4) (fun k => ?h4) ?k4
  case h4 => rw [decide_eq_true h,if_pos rfl] <;> exact rfl
  refine Ev.bind (index_ev (fun x => decide (x > 3)) _ (fun x => rfl) l hl) ?_
  refine (ev_some (fun k => rfl)).is ?_
  rw [Bool.eq_iff_iff]
  simp only [Bool.not_eq_true',List.any_eq_false,decide_eq_true_eq]
  exact ⟨fun g => ⟨h,fun x hx => by have:=g x hx;omega⟩,fun g x hx => by have:=g.2 x hx;omega⟩
 ·refine (ev_some (fun k => ?_)).is (by rw [decide_eq_false (fun g : GV n l => h g.1)])
  rw [decide_eq_false h];rfl
theorem sAll_ev (l : List Int) (h : l.length ≤ maxLen) : Ev (fun k => spec_l1All.f k l) (l.all okCost):=by
 rw [maxLen_eq] at h
 have go : ∀ (t pre : List Int),l = pre ++ t → Ev (fun k => spec_l1All.l0 k l (l.length : Int) (pre.length : Int)) (t.all okCost):=by
  intro t
  induction t with
  | nil =>
   intro pre hl
   refine Ev.step (f:=fun _ => some true) (fun k => ?_) (Ev.now _)
   simp only [spec_l1All.l0];rw [if_neg (by rw [hl];simp)]
  | cons x t ih =>
   intro pre hl
   have hlen : l.length = pre.length + (t.length + 1):=by rw [hl];simp
   have hx : rd l (pre.length : Int) = x:=by rw [hl,rd_mid]
   cases hq : okCost x with
   | true =>
    refine Ev.step (fun k => ?_) ((ih (pre ++ [x]) (by simp [hl])).is (by simp [hq]))
    simp only [spec_l1All.l0]
    rw [if_pos (by omega),if_pos (by omega),if_pos (by omega),hx,scost,hq,Option.bind_some,if_pos rfl,w64 (by omega) (by omega),snoc_len]
   | false =>
    refine Ev.step (f:=fun _ => some false) (fun k => ?_) ((Ev.now _).is (by simp [hq]))
    simp only [spec_l1All.l0]
    rw [if_pos (by omega),if_pos (by omega),if_pos (by omega),hx,scost,hq,Option.bind_some,if_neg (by simp)]
 exact go l [] rfl
theorem sMV (n : Int) (l : List Int) (hl : l.length ≤ maxLen) : Ev (fun k => spec_MatrixValid.f k n l) (decide (MV n l)):=by
 have no : ∀ f : Nat → Option Bool,(∀ k,f k = some false) → ¬ MV n l → Ev f (decide (MV n l)):=fun f h h2 => (ev_some h).is (by rw [decide_eq_false h2])
 by_cases h1 : 1 ≤ n ∧ n ≤ 4
 ·have hnn : 0 ≤ n * n ∧ n * n ≤ 16:=by
   have : n = 1 ∨ n = 2 ∨ n = 3 ∨ n = 4:=by omega
   rcases this with rfl|rfl|rfl|rfl <;> omega
  by_cases h3 : (l.length : Int) = n * n
  ·refine Ev.congr (f:=?f5) (fun k => ?h5) ?k5
   case h5 => unfold spec_MatrixValid.f;rw [sIn,decide_eq_true h1,Option.bind_some,if_pos rfl,w64 (x:=n * n) (by omega) (by omega),if_pos h3] <;> exact rfl
   refine Ev.bind (sAll_ev l hl) ((ev_some (fun k => rfl)).is ?_)
   rw [Bool.eq_iff_iff]
   simp only [List.all_eq_true,decide_eq_true_eq]
   exact ⟨fun g => ⟨h1.1,h1.2,h3,fun x hx => by simpa [okCost] using g x hx⟩,fun g x hx => by simpa [okCost] using g.2.2.2 x hx⟩
  ·exact no _ (fun k => by unfold spec_MatrixValid.f;rw [sIn,decide_eq_true h1,Option.bind_some,if_pos rfl,w64 (x:=n * n) (by omega) (by omega),if_neg h3]) (fun h => h3 h.2.2.1)
 ·exact no _ (fun k => by unfold spec_MatrixValid.f;rw [sIn,decide_eq_false h1];rfl) (fun h => h1 ⟨h.1,h.2.1⟩)
theorem sGV (n : Int) (l : List Int) (hl : l.length ≤ maxLen) : Ev (fun k => spec_GradesValid.f k n l) (decide (GV n l)):=by
 have hm:=hl
 rw [maxLen_eq] at hm
 have go : ∀ (t pre : List Int),l = pre ++ t → Ev (fun k => spec_GradesValid.l0 k l (l.length : Int) (pre.length : Int) n l) (decide ((∀ x ∈ t,0 ≤ x ∧ x ≤ 3) ∧ MV n l)):=by
  intro t
  induction t with
  | nil =>
   intro pre hp
   refine Ev.step (f:=?f6) (fun k => ?h6) ?k6
   case h6 => simp only [spec_GradesValid.l0];rw [if_neg (by rw [hp];simp)] <;> exact rfl
   exact Ev.bind (sMV n l hl) ((ev_some (fun k => rfl)).is (by simp))
  | cons x t ih =>
   intro pre hp
   have hlen : l.length = pre.length + (t.length + 1):=by rw [hp];simp
   have hx : rd l (pre.length : Int) = x:=by rw [hp,rd_mid]
   by_cases hq : 0 ≤ x ∧ x ≤ 3
   ·refine Ev.step (fun k => ?_) ((ih (pre ++ [x]) (by simp [hp])).is ?_)
    ·simp only [spec_GradesValid.l0]
     rw [if_pos (by omega),if_pos (by omega),if_pos (by omega),hx,sIn,decide_eq_true hq,Option.bind_some,if_pos rfl,w64 (by omega) (by omega),snoc_len]
    ·simp [hq.1,hq.2]
   ·refine Ev.step (f:=fun _ => some false) (fun k => ?_) ((Ev.now _).is ?_)
    ·simp only [spec_GradesValid.l0]
     rw [if_pos (by omega),if_pos (by omega),if_pos (by omega),hx,sIn,decide_eq_false hq,Option.bind_some,if_neg (by simp)]
    ·symm;rw [decide_eq_false_iff_not];intro h;exact hq (h.1 x (by simp))
 refine (go l [] rfl).is ?_
 rw [Bool.eq_iff_iff]
 simp only [decide_eq_true_eq]
 exact ⟨fun h => ⟨h.2,fun x hx => (h.1 x hx).2⟩,fun h => ⟨fun x hx => ⟨(h.1.2.2.2 x hx).1,h.2 x hx⟩,h.1⟩⟩
end Go.Proofs.Ytfmbpoojpnoafaa.Y
end
section
namespace Go.Proofs.Ytfmbpoojpnoafaa.Y
open Go.RowKit Go.Proofs.Ytfmbpoojpnoafaa.X Go.Proofs.YtfmbpoojpnoafaaW.PrintWords Go.Proofs.YtfmbpoojpnoafaaW.PrintLast Go.Proofs.YtfmbpoojpnoafaaW.PrintMore
set_option linter.unusedVariables false
set_option linter.unusedSimpArgs false
theorem rdS_mid (pre : List S92) (x : S92) (t : List S92) : rd_T92 (pre ++ x :: t) (pre.length : Int) = x:=by simp [rd_T92,List.getD_eq_getElem?_getD]
theorem snocA {α : Type} (pre : List α) (x : α) : (((pre ++ [x]).length : Nat) : Int) = (pre.length : Int) + 1:=by simp
def mrk (n : Int) : Option Int → List Int → Bool
 | _,[] => true
 | p,x :: t => decide (0 ≤ x ∧ x < n) && (match p with|none => true|some y => decide (y < x)) && mrk n (some x) t
def stepOk (n : Int) (s : S92) : Bool:=decide (0 ≤ s.f0 ∧ s.f0 < n ∧ 0 ≤ s.f2 ∧ s.f2 < n ∧ 0 ≤ s.f3 ∧ s.f3 ≤ 3 ∧ (s.f1.toList = ([97] : List UInt8) ∨ s.f1.toList = ([98] : List UInt8)))
def bef (s t : S92) : Bool:=if s.f0 = t.f0 then (if s.f1.toList = t.f1.toList then decide (s.f2 < t.f2) else Op.bytesLess s.f1.toList t.f1.toList) else decide (s.f0 < t.f0)
def stp (n : Int) : Option S92 → List S92 → Bool
 | _,[] => true
 | p,x :: t => stepOk n x && (match p with|none => true|some y => bef y x) && stp n (some x) t
def AV (n : Int) (s f : List Int) (t : List S92) : Bool:=decide (1 ≤ n ∧ n ≤ 4 ∧ t.length ≤ 24) && mrk n none s && mrk n none f && stp n none t
theorem iMarks (n : Int) (l : List Int) (h : l.length ≤ 1000000000) : Ev (fun k => impl_statesOk.f k l n) (mrk n none l):=by
 have go : ∀ (t pre : List Int),l = pre ++ t → Ev (fun k => impl_statesOk.l0 k l n l (l.length : Int) (pre.length : Int)) (mrk n pre.getLast? t):=by
  intro t
  induction t with
  | nil =>
   intro pre hl
   refine Ev.step (f:=fun _ => some true) (fun k => ?_) (Ev.now _)
   simp only [impl_statesOk.l0];rw [if_neg (by rw [hl];simp)]
  | cons x t ih =>
   intro pre hl
   have hlen : l.length = pre.length + (t.length + 1):=by rw [hl];simp
   have hx : rd l (pre.length : Int) = x:=by rw [hl,rd_mid]
   have i1:=ih (pre ++ [x]) (by simp [hl])
   rw [List.getLast?_concat,snoc_len] at i1
   by_cases h0 : x < 0
   ·refine Ev.step (f:=fun _ => some false) (fun k => ?_) ((Ev.now _).is ?_)
    ·simp only [impl_statesOk.l0];rw [if_pos (by omega),if_pos (by omega),if_pos (by omega),hx,if_pos h0]
    ·simp only [mrk];rw [decide_eq_false (by omega)];rfl
   by_cases h1 : x ≥ n
   ·refine Ev.step (f:=fun _ => some false) (fun k => ?_) ((Ev.now _).is ?_)
    ·simp only [impl_statesOk.l0];rw [if_pos (by omega),if_pos (by omega),if_pos (by omega),hx,if_neg h0,if_pos h1]
    ·simp only [mrk];rw [decide_eq_false (by omega)];rfl
   rcases List.eq_nil_or_concat pre with rfl | ⟨q,y,rfl⟩
   ·refine Ev.step (fun k => ?_) (i1.is ?_)
    ·simp only [impl_statesOk.l0];rw [if_pos (by omega),if_pos (by omega),if_pos (by omega),hx,if_neg h0,if_neg h1,if_neg (by simp),w64 (by omega) (by omega)]
    ·simp only [mrk,List.getLast?_nil];rw [decide_eq_true (by omega)];rfl
   ·rw [List.concat_eq_append] at *
    have e : wrap64 (((q ++ [y]).length : Int) - 1) = (q.length : Int):=by rw [snoc_len,w64 (by omega) (by rw [List.length_append] at hlen;omega)];omega
    have hy : rd l (q.length : Int) = y:=by rw [hl,List.append_assoc];exact rd_mid q y (x :: t)
    have hq:=hlen
    rw [List.length_append,List.length_singleton] at hq
    by_cases h2 : y ≥ x
    ·refine Ev.step (f:=fun _ => some false) (fun k => ?_) ((Ev.now _).is ?_)
     ·simp only [impl_statesOk.l0];rw [if_pos (by omega),if_pos (by omega),if_pos (by omega),hx,if_neg h0,if_neg h1,if_pos (by rw [snoc_len];omega),e,if_pos (by omega),if_pos (by omega),hy,if_pos h2]
     ·simp only [mrk,List.getLast?_concat];rw [decide_eq_false (p:=y < x) (by omega)];simp
    ·refine Ev.step (fun k => ?_) (i1.is ?_)
     ·simp only [impl_statesOk.l0];rw [if_pos (by omega),if_pos (by omega),if_pos (by omega),hx,if_neg h0,if_neg h1,if_pos (by rw [snoc_len];omega),e,if_pos (by omega),if_pos (by omega),hy,if_neg h2,w64 (by omega) (by omega)]
     ·simp only [mrk,List.getLast?_concat];rw [decide_eq_true (p:=y < x) (by omega),decide_eq_true (by omega)];rfl
 exact go l [] rfl
theorem sMarks (n : Int) (hn : 1 ≤ n ∧ n ≤ 4) (l : List Int) (h : l.length ≤ 1000000000) : Ev (fun k => spec_l3Marks.f k n l) (mrk n none l):=by
 have go : ∀ (t pre : List Int),l = pre ++ t → Ev (fun k => spec_l3Marks.l0 k n l l (l.length : Int) (pre.length : Int)) (mrk n pre.getLast? t):=by
  intro t
  induction t with
  | nil =>
   intro pre hl
   refine Ev.step (f:=fun _ => some true) (fun k => ?_) (Ev.now _)
   simp only [spec_l3Marks.l0];rw [if_neg (by rw [hl];simp)]
  | cons x t ih =>
   intro pre hl
   have hlen : l.length = pre.length + (t.length + 1):=by rw [hl];simp
   have hx : rd l (pre.length : Int) = x:=by rw [hl,rd_mid]
   have i1:=ih (pre ++ [x]) (by simp [hl])
   rw [List.getLast?_concat,snoc_len] at i1
   have hw : wrap64 (n - 1) = n - 1:=w64 (by omega) (by omega)
   by_cases h0 : 0 ≤ x ∧ x < n
   case neg =>
    refine Ev.step (f:=fun _ => some false) (fun k => ?_) ((Ev.now _).is ?_)
    ·simp only [spec_l3Marks.l0];rw [if_pos (by omega),if_pos (by omega),if_pos (by omega),hx,sIn,hw,decide_eq_false (by omega),Option.bind_some,if_neg (by simp)]
    ·simp only [mrk];rw [decide_eq_false h0];rfl
   have hd : decide (0 ≤ x ∧ x ≤ n - 1) = true:=decide_eq_true (by omega)
   rcases List.eq_nil_or_concat pre with rfl | ⟨q,y,rfl⟩
   ·refine Ev.step (fun k => ?_) (i1.is ?_)
    ·simp only [spec_l3Marks.l0];rw [if_pos (by omega),if_pos (by omega),if_pos (by omega),hx,sIn,hw,hd,Option.bind_some,if_pos rfl,if_neg (by simp),w64 (by omega) (by omega)]
    ·simp only [mrk,List.getLast?_nil];rw [decide_eq_true h0];rfl
   ·rw [List.concat_eq_append] at *
    have e : wrap64 (((q ++ [y]).length : Int) - 1) = (q.length : Int):=by rw [snoc_len,w64 (by omega) (by rw [List.length_append] at hlen;omega)];omega
    have hy : rd l (q.length : Int) = y:=by rw [hl,List.append_assoc];exact rd_mid q y (x :: t)
    have hq:=hlen
    rw [List.length_append,List.length_singleton] at hq
    by_cases h2 : y ≥ x
    ·refine Ev.step (f:=fun _ => some false) (fun k => ?_) ((Ev.now _).is ?_)
     ·simp only [spec_l3Marks.l0];rw [if_pos (by omega),if_pos (by omega),if_pos (by omega),hx,sIn,hw,hd,Option.bind_some,if_pos rfl,if_pos (by rw [snoc_len];omega),e,if_pos (by omega),if_pos (by omega),hy,if_pos h2]
     ·simp only [mrk,List.getLast?_concat];rw [decide_eq_false (p:=y < x) (by omega)];simp
    ·refine Ev.step (fun k => ?_) (i1.is ?_)
     ·simp only [spec_l3Marks.l0];rw [if_pos (by omega),if_pos (by omega),if_pos (by omega),hx,sIn,hw,hd,Option.bind_some,if_pos rfl,if_pos (by rw [snoc_len];omega),e,if_pos (by omega),if_pos (by omega),hy,if_neg h2,w64 (by omega) (by omega)]
     ·simp only [mrk,List.getLast?_concat];rw [decide_eq_true (p:=y < x) (by omega),decide_eq_true h0];rfl
 exact go l [] rfl
def cmp0 (a b : Int) : Int:=if a < b then -1 else if a > b then 1 else 0
def ordL (s t : S92) : Int:=if cmp0 s.f0 t.f0 = 0 then (if Lib.compareBytes s.f1.data.toList t.f1.data.toList = 0 then cmp0 s.f2 t.f2 else Lib.compareBytes s.f1.data.toList t.f1.data.toList) else cmp0 s.f0 t.f0
theorem cmp_eq (a b : Int) : cmp_Compare_int.f a b = some (cmp0 a b):=by
 unfold cmp_Compare_int.f cmp_isNaN_int.f cmp0
 simp only [bne_self_eq_false,Option.bind_some,Bool.false_eq_true,if_false]
 by_cases h : a < b
 ·rw [if_pos h,if_pos h]
 ·rw [if_neg h,if_neg h];by_cases h2 : a > b
  ·rw [if_pos h2,if_pos h2]
  ·rw [if_neg h2,if_neg h2]
theorem cmpOr_ev (l : List Int) (h : l.length ≤ 1000000000) : Ev (fun k => cmp_Or_int.f k l) ((l.find? (· != 0)).getD 0):=by
 have go : ∀ (t pre : List Int),l = pre ++ t → Ev (fun k => cmp_Or_int.l0 k 0 l (l.length : Int) (pre.length : Int)) ((t.find? (· != 0)).getD 0):=by
  intro t
  induction t with
  | nil =>
   intro pre hl
   refine Ev.step (f:=fun _ => some 0) (fun k => ?_) (Ev.now _)
   simp only [cmp_Or_int.l0];rw [if_neg (by rw [hl];simp)]
  | cons x t ih =>
   intro pre hl
   have hlen : l.length = pre.length + (t.length + 1):=by rw [hl];simp
   have hx : rd l (pre.length : Int) = x:=by rw [hl,rd_mid]
   have i1:=ih (pre ++ [x]) (by simp [hl])
   rw [snoc_len] at i1
   by_cases h0 : x = 0
   ·refine Ev.step (fun k => ?_) (i1.is ?_)
    ·simp only [cmp_Or_int.l0];rw [if_pos (by omega),if_pos (by omega),if_pos (by omega),hx,if_pos h0,w64 (by omega) (by omega)]
    ·simp [List.find?_cons,h0]
   ·refine Ev.step (f:=fun _ => some x) (fun k => ?_) ((Ev.now _).is ?_)
    ·simp only [cmp_Or_int.l0];rw [if_pos (by omega),if_pos (by omega),if_pos (by omega),hx,if_neg h0]
    ·simp [List.find?_cons,h0]
 exact go l [] rfl
theorem iOrder (s t : S92) : Ev (fun k => impl_stepOrder.f k s.f0 s.f1 s.f2 s.f3 t.f0 t.f1 t.f2 t.f3) (ordL s t):=by
 refine Ev.congr (f:=?f1) (fun k => ?h1) ?k1
 case h1 => unfold impl_stepOrder.f strings_Compare.f bytealg_CompareString.f;rw [cmp_eq,cmp_eq,Option.bind_some,Option.bind_some,Option.bind_some,Option.bind_some] <;> exact rfl
 refine (Ev.bind (cmpOr_ev _ (by simp)) (Ev.now _)).is ?_
 unfold ordL
 by_cases h : cmp0 s.f0 t.f0 = 0
 ·by_cases h2 : Lib.compareBytes s.f1.data.toList t.f1.data.toList = 0
  ·by_cases h3 : cmp0 s.f2 t.f2 = 0 <;> simp [List.find?_cons,h,h2,h3]
  ·simp [List.find?_cons,h,h2]
 ·simp [List.find?_cons,h]
theorem sBefore (s t : S92) : spec_l3Before.f s.f0 s.f1 s.f2 s.f3 t.f0 t.f1 t.f2 t.f3 = some (bef s t):=by
 unfold spec_l3Before.f bef
 by_cases h : s.f0 = t.f0
 ·rw [if_pos h,if_pos h];by_cases h2 : s.f1.toList = t.f1.toList
  ·rw [if_pos h2,if_pos h2]
  ·rw [if_neg h2,if_neg h2]
 ·rw [if_neg h,if_neg h]
theorem cmp0_lt {a b : Int} : cmp0 a b < 0 ↔ a < b:=by
 unfold cmp0
 by_cases h : a < b
 ·simp [h]
 ·by_cases h2 : a > b <;> simp [h,h2]
theorem cmp0_eq {a b : Int} : cmp0 a b = 0 ↔ a = b:=by
 unfold cmp0
 by_cases h : a < b
 ·rw [if_pos h];omega
 ·by_cases h2 : a > b
  ·rw [if_neg h,if_pos h2];omega
  ·rw [if_neg h,if_neg h2];omega
theorem ord_bef {n : Int} {s t : S92} (hs : stepOk n s = true) (ht : stepOk n t = true) : ordL s t < 0 ↔ bef s t = true:=by
 unfold stepOk at hs ht
 have hs:=of_decide_eq_true hs
 have ht:=of_decide_eq_true ht
 unfold ordL bef
 have e1:=toList_L s.f1
 have e2:=toList_L t.f1
 unfold L at e1 e2
 rw [← e1,← e2]
 by_cases h : s.f0 = t.f0
 ·rw [if_pos (cmp0_eq.mpr h),if_pos h]
  rcases hs.2.2.2.2.2.2 with a|a <;> rcases ht.2.2.2.2.2.2 with b|b <;> rw [a,b]
  ·rw [if_pos rfl,show Lib.compareBytes ([97] : List UInt8) [97] = 0 by decide,if_pos rfl,cmp0_lt,decide_eq_true_eq]
  ·rw [if_neg (show ¬ Lib.compareBytes ([97] : List UInt8) [98] = 0 by decide),if_neg (by decide)];decide
  ·rw [if_neg (show ¬ Lib.compareBytes ([98] : List UInt8) [97] = 0 by decide),if_neg (by decide)];decide
  ·rw [if_pos rfl,show Lib.compareBytes ([98] : List UInt8) [98] = 0 by decide,if_pos rfl,cmp0_lt,decide_eq_true_eq]
 ·rw [if_neg (fun g => h (cmp0_eq.mp g)),if_neg h,cmp0_lt,decide_eq_true_eq]
theorem iSteps (n : Int) (s f : List Int) (t : List S92) (h : t.length ≤ 1000000000) : Ev (fun k => impl_AutomatonValid.l0 k t (t.length : Int) 0 n s f t) (stp n none t):=by
 have go : ∀ (u pre : List S92),t = pre ++ u → (∀ y,pre.getLast? = some y → stepOk n y = true) → Ev (fun k => impl_AutomatonValid.l0 k t (t.length : Int) (pre.length : Int) n s f t) (stp n pre.getLast? u):=by
  intro u
  induction u with
  | nil =>
   intro pre hl _
   refine Ev.step (f:=fun _ => some true) (fun k => ?_) (Ev.now _)
   simp only [impl_AutomatonValid.l0];rw [if_neg (by rw [hl];simp)]
  | cons x u ih =>
   intro pre hl hp
   have hlen : t.length = pre.length + (u.length + 1):=by rw [hl];simp
   have hx : rd_T92 t (pre.length : Int) = x:=by rw [hl,rdS_mid]
   have tail : stepOk n x = true → Ev (fun k => if (pre.length : Int) > 0 then (if 0 ≤ (wrap64 ((pre.length : Int) - 1)) then (if (wrap64 ((pre.length : Int) - 1)) < (t.length : Int) then ((impl_stepOrder.f k ((rd_T92 t (wrap64 ((pre.length : Int) - 1))).f0) ((rd_T92 t (wrap64 ((pre.length : Int) - 1))).f1) ((rd_T92 t (wrap64 ((pre.length : Int) - 1))).f2) ((rd_T92 t (wrap64 ((pre.length : Int) - 1))).f3) x.f0 x.f1 x.f2 x.f3).bind fun z => (if z ≥ 0 then (some false) else (impl_AutomatonValid.l0 k t (t.length : Int) (wrap64 ((pre.length : Int) + 1)) n s f t))) else none) else none) else (impl_AutomatonValid.l0 k t (t.length : Int) (wrap64 ((pre.length : Int) + 1)) n s f t)) (stp n pre.getLast? (x :: u)):=by
    intro hok
    have i1:=ih (pre ++ [x]) (by simp [hl]) (fun y hy => by rw [List.getLast?_concat] at hy;obtain rfl:=Option.some.inj hy;exact hok)
    rw [List.getLast?_concat,snocA] at i1
    have ew : wrap64 ((pre.length : Int) + 1) = (pre.length : Int) + 1:=w64 (by omega) (by omega)
    rw [ew]
    rcases List.eq_nil_or_concat pre with rfl | ⟨q,y,rfl⟩
    ·refine Ev.congr (fun k => by rw [if_neg (by simp)] <;> exact rfl) (i1.is ?_)
     simp only [stp,List.getLast?_nil,hok,Bool.true_and]
    ·rw [List.concat_eq_append] at *
     have hq:=hlen
     rw [List.length_append,List.length_singleton] at hq
     have e : wrap64 (((q ++ [y]).length : Int) - 1) = (q.length : Int):=by rw [snocA,w64 (by omega) (by omega)];omega
     have hy : rd_T92 t (q.length : Int) = y:=by rw [hl,List.append_assoc];exact rdS_mid q y (x :: u)
     have hoy : stepOk n y = true:=hp y (by rw [List.getLast?_concat])
     refine Ev.congr (f:=?f2) (fun k => ?h2) ?k2
     case h2 => rw [e,if_pos (by rw [snocA];omega),if_pos (by omega),if_pos (by omega),hy] <;> exact rfl
     refine Ev.bind (iOrder y x) ?_
     by_cases hb : bef y x = true
     ·refine Ev.congr (fun k => if_neg (by have:=(ord_bef hoy hok).mpr hb;omega)) (i1.is ?_)
      simp only [stp,List.getLast?_concat,hok,hb,Bool.true_and]
     ·refine Ev.congr (f:=fun _ => some false) (fun k => if_pos (Int.not_lt.mp fun h => hb ((ord_bef hoy hok).mp h))) ((Ev.now _).is ?_)
      simp only [stp,List.getLast?_concat,hok,Bool.true_and]
      rw [Bool.not_eq_true] at hb
      rw [hb];rfl
   by_cases hok : stepOk n x = true
   ·have ho:=of_decide_eq_true (show decide _ = true from hok)
    refine Ev.step (fun k => ?_) (tail hok)
    simp only [impl_AutomatonValid.l0]
    rw [if_pos (by omega),if_pos (by omega),if_pos (by omega),hx,if_neg (by omega),if_neg (by omega),if_neg (by omega),if_neg (by omega)]
    rcases ho.2.2.2.2.2.2 with a|a
    ·rw [if_pos a,if_neg (by omega),if_neg (by omega)]
    ·rw [if_neg (by rw [a];decide),if_pos a,if_neg (by omega),if_neg (by omega)]
   ·refine Ev.step (f:=fun _ => some false) (fun k => ?_) ((Ev.now _).is ?_)
    ·simp only [impl_AutomatonValid.l0]
     rw [if_pos (by omega),if_pos (by omega),if_pos (by omega),hx]
     by_cases a1 : x.f0 < 0
     ·rw [if_pos a1]
     by_cases a2 : x.f0 ≥ n
     ·rw [if_neg a1,if_pos a2]
     by_cases a3 : x.f2 < 0
     ·rw [if_neg a1,if_neg a2,if_pos a3]
     by_cases a4 : x.f2 ≥ n
     ·rw [if_neg a1,if_neg a2,if_neg a3,if_pos a4]
     rw [if_neg a1,if_neg a2,if_neg a3,if_neg a4]
     by_cases b1 : x.f1.toList = ([97] : List UInt8)
     ·rw [if_pos b1]
      by_cases a5 : x.f3 < 0
      ·rw [if_pos a5]
      by_cases a6 : x.f3 > 3
      ·rw [if_neg a5,if_pos a6]
      exact absurd (show stepOk n x = true from decide_eq_true ⟨by omega,by omega,by omega,by omega,by omega,by omega,.inl b1⟩) hok
     ·rw [if_neg b1]
      by_cases b2 : x.f1.toList = ([98] : List UInt8)
      ·rw [if_pos b2]
       by_cases a5 : x.f3 < 0
       ·rw [if_pos a5]
       by_cases a6 : x.f3 > 3
       ·rw [if_neg a5,if_pos a6]
       exact absurd (show stepOk n x = true from decide_eq_true ⟨by omega,by omega,by omega,by omega,by omega,by omega,.inr b2⟩) hok
      ·rw [if_neg b2]
    ·rw [Bool.not_eq_true] at hok
     simp only [stp,hok,Bool.false_and]
 exact go t [] rfl (fun y hy => by simp at hy)
theorem sStepOk (n : Int) (hn : 1 ≤ n ∧ n ≤ 4) (x : S92) : spec_l3Step.f n x.f0 x.f1 x.f2 x.f3 = some (stepOk n x):=by
 unfold spec_l3Step.f stepOk
 rw [sIn,sIn,sIn,w64 (x:=n - 1) (by omega) (by omega),Option.bind_some]
 by_cases a1 : 0 ≤ x.f0 ∧ x.f0 ≤ n - 1
 ·rw [decide_eq_true a1,if_pos rfl,Option.bind_some]
  by_cases a2 : 0 ≤ x.f2 ∧ x.f2 ≤ n - 1
  ·rw [decide_eq_true a2,if_pos rfl,Option.bind_some]
   by_cases a3 : 0 ≤ x.f3 ∧ x.f3 ≤ 3
   ·rw [decide_eq_true a3,if_pos rfl]
    by_cases b : x.f1.toList = ([97] : List UInt8)
    ·rw [if_pos b,decide_eq_true (by refine ⟨?_,?_,?_,?_,?_,?_,.inl b⟩ <;> omega)]
    ·rw [if_neg b]
     by_cases b2 : x.f1.toList = ([98] : List UInt8)
     ·rw [b2,decide_eq_true (by refine ⟨?_,?_,?_,?_,?_,?_,.inr rfl⟩ <;> omega)];rfl
     ·rw [decide_eq_false (by intro g;rcases g.2.2.2.2.2.2 with c|c;exact b c;exact b2 c),beq_eq_false_iff_ne.mpr b2]
   ·rw [decide_eq_false a3,if_neg (by simp),decide_eq_false (by omega)]
  ·rw [decide_eq_false a2,if_neg (by simp),decide_eq_false (by omega)]
 ·rw [decide_eq_false a1,if_neg (by simp),decide_eq_false (by omega)]
theorem sSteps (n : Int) (hn : 1 ≤ n ∧ n ≤ 4) (s f : List Int) (t : List S92) (h : t.length ≤ 1000000000) : Ev (fun k => spec_AutomatonValid.l0 k t (t.length : Int) 0 n s f t) (stp n none t):=by
 have go : ∀ (u pre : List S92),t = pre ++ u → Ev (fun k => spec_AutomatonValid.l0 k t (t.length : Int) (pre.length : Int) n s f t) (stp n pre.getLast? u):=by
  intro u
  induction u with
  | nil =>
   intro pre hl
   refine Ev.step (f:=fun _ => some true) (fun k => ?_) (Ev.now _)
   simp only [spec_AutomatonValid.l0];rw [if_neg (by rw [hl];simp)]
  | cons x u ih =>
   intro pre hl
   have hlen : t.length = pre.length + (u.length + 1):=by rw [hl];simp
   have hx : rd_T92 t (pre.length : Int) = x:=by rw [hl,rdS_mid]
   have i1:=ih (pre ++ [x]) (by simp [hl])
   rw [List.getLast?_concat,snocA] at i1
   by_cases hok : stepOk n x = true
   ·rcases List.eq_nil_or_concat pre with rfl | ⟨q,y,rfl⟩
    ·refine Ev.step (fun k => ?_) (i1.is ?_)
     ·simp only [spec_AutomatonValid.l0];rw [if_pos (by omega),if_pos (by omega),if_pos (by omega),hx,sStepOk n hn,hok,Option.bind_some,if_pos rfl,if_neg (by simp),w64 (by omega) (by omega)]
     ·simp only [stp,List.getLast?_nil,hok,Bool.true_and]
    ·rw [List.concat_eq_append] at *
     have hq:=hlen
     rw [List.length_append,List.length_singleton] at hq
     have e : wrap64 (((q ++ [y]).length : Int) - 1) = (q.length : Int):=by rw [snocA,w64 (by omega) (by omega)];omega
     have hy : rd_T92 t (q.length : Int) = y:=by rw [hl,List.append_assoc];exact rdS_mid q y (x :: u)
     by_cases hb : bef y x = true
     ·refine Ev.step (fun k => ?_) (i1.is ?_)
      ·simp only [spec_AutomatonValid.l0];rw [if_pos (by omega),if_pos (by omega),if_pos (by omega),hx,sStepOk n hn,hok,Option.bind_some,if_pos rfl,if_pos (by rw [snocA];omega),e,if_pos (by omega),if_pos (by omega),hy,sBefore,hb,Option.bind_some,if_pos rfl,w64 (by omega) (by omega)]
      ·simp only [stp,List.getLast?_concat,hok,hb,Bool.true_and]
     ·rw [Bool.not_eq_true] at hb
      refine Ev.step (f:=fun _ => some false) (fun k => ?_) ((Ev.now _).is ?_)
      ·simp only [spec_AutomatonValid.l0];rw [if_pos (by omega),if_pos (by omega),if_pos (by omega),hx,sStepOk n hn,hok,Option.bind_some,if_pos rfl,if_pos (by rw [snocA];omega),e,if_pos (by omega),if_pos (by omega),hy,sBefore,hb,Option.bind_some,if_neg (by simp)]
      ·simp only [stp,List.getLast?_concat,hok,hb,Bool.true_and];rfl
   ·rw [Bool.not_eq_true] at hok
    refine Ev.step (f:=fun _ => some false) (fun k => ?_) ((Ev.now _).is ?_)
    ·simp only [spec_AutomatonValid.l0];rw [if_pos (by omega),if_pos (by omega),if_pos (by omega),hx,sStepOk n hn,hok,Option.bind_some,if_neg (by simp)]
    ·simp only [stp,hok,Bool.false_and]
 exact go t [] rfl
theorem iAV (n : Int) (s f : List Int) (t : List S92) (hs : s.length ≤ 1000000000) (hf : f.length ≤ 1000000000) (ht : t.length ≤ 1000000000) : Ev (fun k => impl_AutomatonValid.f k n s f t) (AV n s f t):=by
 have bad : ∀ g : Nat → Option Bool,(∀ k,g k = impl_AutomatonValid.j0 k true n s f t) → AV n s f t = false → Ev g (AV n s f t):=fun g hg he => Ev.congr hg ((Ev.step (f:=fun _ => some false) (fun k => by simp only [impl_AutomatonValid.j0];rw [if_pos trivial]) (Ev.now _)).is he.symm)
 by_cases h1 : n < 1
 ·exact bad _ (fun k => by unfold impl_AutomatonValid.f;rw [if_pos h1]) (by unfold AV;rw [decide_eq_false (by omega)];rfl)
 by_cases h2 : n > 4
 ·exact bad _ (fun k => by unfold impl_AutomatonValid.f;rw [if_neg h1,if_pos h2]) (by unfold AV;rw [decide_eq_false (by omega)];rfl)
 by_cases h3 : (t.length : Int) > 24
 ·exact bad _ (fun k => by unfold impl_AutomatonValid.f;rw [if_neg h1,if_neg h2,if_pos h3]) (by unfold AV;rw [decide_eq_false (by omega)];rfl)
 have hd : decide (1 ≤ n ∧ n ≤ 4 ∧ t.length ≤ 24) = true:=decide_eq_true (by omega)
 refine Ev.congr (f:=?f3) (fun k => ?h3) ?k3
 case h3 => unfold impl_AutomatonValid.f;rw [if_neg h1,if_neg h2,if_neg h3] <;> exact rfl
 refine Ev.bind (iMarks n s hs) ?_
 by_cases g1 : mrk n none s = true
 case neg =>
  exact bad _ (fun k => by rw [if_neg g1]) (by unfold AV;rw [Bool.not_eq_true] at g1;rw [g1];simp)
 refine Ev_t g1 ?_
 refine Ev.bind (iMarks n f hf) ?_
 by_cases g2 : mrk n none f = true
 case neg =>
  rw [Bool.not_eq_true] at g2
  exact bad _ (fun k => by rw [g2];rfl) (by unfold AV;rw [g2];simp)
 refine Ev.step (fun k => by rw [g2];simp only [impl_AutomatonValid.j0];rw [if_neg (by simp)]) ((iSteps n s f t ht).is ?_)
 unfold AV;rw [hd,g1,g2];rfl
theorem sAV (n : Int) (s f : List Int) (t : List S92) (hs : s.length ≤ 1000000000) (hf : f.length ≤ 1000000000) (ht : t.length ≤ 1000000000) : Ev (fun k => spec_AutomatonValid.f k n s f t) (AV n s f t):=by
 have bad : ∀ g : Nat → Option Bool,(∀ k,g k = spec_AutomatonValid.j0 k true n s f t) → AV n s f t = false → Ev g (AV n s f t):=fun g hg he => Ev.congr hg ((Ev.step (f:=fun _ => some false) (fun k => by simp only [spec_AutomatonValid.j0];rw [if_pos trivial]) (Ev.now _)).is he.symm)
 by_cases h1 : 1 ≤ n ∧ n ≤ 4
 case neg => exact bad _ (fun k => by unfold spec_AutomatonValid.f;rw [sIn,decide_eq_false h1,Option.bind_some,if_neg (by simp)]) (by unfold AV;rw [decide_eq_false (by omega)];rfl)
 refine Ev.congr (f:=?f4) (fun k => ?h4) ?k4
 case h4 => unfold spec_AutomatonValid.f;rw [sIn,decide_eq_true h1,Option.bind_some,if_pos rfl] <;> exact rfl
 refine Ev.bind (sMarks n h1 s hs) ?_
 by_cases g1 : mrk n none s = true
 case neg =>
  exact bad _ (fun k => by rw [if_neg g1]) (by unfold AV;rw [Bool.not_eq_true] at g1;rw [g1];simp)
 refine Ev_t g1 ?_
 refine Ev.bind (sMarks n h1 f hf) ?_
 by_cases g2 : mrk n none f = true
 case neg =>
  exact bad _ (fun k => by rw [if_neg g2]) (by unfold AV;rw [Bool.not_eq_true] at g2;rw [g2];simp)
 refine Ev_t g2 ?_
 by_cases h3 : (t.length : Int) > 24
 ·exact bad _ (fun k => by rw [decide_eq_true h3]) (by unfold AV;rw [decide_eq_false (by omega)];rfl)
 refine Ev.step (fun k => by rw [decide_eq_false h3];simp only [spec_AutomatonValid.j0];rw [if_neg (by simp)]) ((sSteps n h1 s f t ht).is ?_)
 unfold AV;rw [decide_eq_true (by omega),g1,g2];rfl
end Go.Proofs.Ytfmbpoojpnoafaa.Y
end
section
namespace Go.Proofs.Ytfmbpoojpnoafaa.Y
open Go.RowKit Go.Proofs.Ytfmbpoojpnoafaa.X Go.Proofs.YtfmbpoojpnoafaaW.PrintWords Go.Proofs.YtfmbpoojpnoafaaW.PrintLast Go.Proofs.YtfmbpoojpnoafaaW.PrintMore
set_option linter.unusedVariables false
set_option linter.unusedSimpArgs false
def cvS (x : S118) : S92:=⟨x.f0,x.f1,x.f2,x.f3⟩
theorem rdL_mid (pre : List S118) (x : S118) (t : List S118) : rd_T118 (pre ++ x :: t) (pre.length : Int) = x:=by simp [rd_T118,List.getD_eq_getElem?_getD]
theorem toStepS_ev (l : List S118) (h : l.length ≤ 1048576) : Ev (fun k => laws_toStepS.f k l) (l.map cvS):=by
 have go : ∀ (t pre : List S118),l = pre ++ t → Ev (fun k => laws_toStepS.l0 k l (pre.map cvS ++ List.replicate t.length z92) (pre.length : Int)) (l.map cvS):=by
  intro t
  induction t with
  | nil =>
   intro pre hl
   refine Ev.step (f:=fun _ => some (l.map cvS)) (fun k => ?_) (Ev.now _)
   simp only [laws_toStepS.l0]
   rw [if_neg (by rw [hl];simp)]
   simp [hl]
  | cons x t ih =>
   intro pre hl
   have hlen : l.length = pre.length + (t.length + 1):=by rw [hl];simp
   have hx : rd_T118 l (pre.length : Int) = x:=by rw [hl,rdL_mid]
   refine Ev.step (fun k => ?_) (ih (pre ++ [x]) (by simp [hl]))
   simp only [laws_toStepS.l0,laws_toStep.f]
   rw [if_pos (by omega),if_pos (by omega),hx,Option.bind_some,if_pos (by simp;omega),w64 (by omega) (by omega),snocA]
   congr 1
   simp [List.replicate_succ,List.set_append,cvS]
 refine Ev.congr (fun k => ?_) (go l [] rfl)
 unfold laws_toStepS.f
 rw [if_pos (by omega),if_pos (by omega)]
 simp
theorem eqStepS_ev (a : List S92) (h : a.length ≤ 1000000000) : Ev (fun k => laws_eqStepS.f k a a) true:=by
 have go : ∀ (t pre : List S92),a = pre ++ t → Ev (fun k => laws_eqStepS.l0 k a a (pre.length : Int)) true:=by
  intro t
  induction t with
  | nil =>
   intro pre hl
   refine Ev.step (f:=fun _ => some true) (fun k => ?_) (Ev.now _)
   simp only [laws_eqStepS.l0]
   rw [if_neg (by rw [hl];simp)]
  | cons x t ih =>
   intro pre hl
   have hlen : a.length = pre.length + (t.length + 1):=by rw [hl];simp
   have hx : rd_T92 a (pre.length : Int) = x:=by rw [hl,rdS_mid]
   refine Ev.step (fun k => ?_) (ih (pre ++ [x]) (by simp [hl]))
   simp only [laws_eqStepS.l0,laws_eqStep.f]
   rw [if_pos (by omega),if_pos (by omega),if_pos (by omega)]
   simp only [if_true,Option.bind_some]
   rw [w64 (by omega) (by omega),snocA]
 refine Ev.congr (fun k => ?_) (go a [] rfl)
 unfold laws_eqStepS.f
 rw [if_pos rfl];rfl
theorem toAutomaton_ev (n : Int) (s f : List Int) (t : List S118) (hs : s.length ≤ 1048576) (hf : f.length ≤ 1048576) (ht : t.length ≤ 1048576) : Ev (fun k => laws_toAutomaton.f k n s f t) (n,s,f,t.map cvS):=by
 refine Ev.congr (f:=?f1) (fun k => ?h1) ?k1
 case h1 => unfold laws_toAutomaton.f;exact rfl
 exact Ev.bind (toIntS_ev s hs) (Ev.bind (toIntS_ev f hf) (Ev.bind (toStepS_ev t ht) (Ev.now _)))
theorem eqAutomaton_ev (n : Int) (s f : List Int) (t : List S92) (hs : s.length ≤ 1000000000) (hf : f.length ≤ 1000000000) (ht : t.length ≤ 1000000000) : Ev (fun k => laws_eqAutomaton.f k n s f t n s f t) true:=by
 refine Ev.congr (f:=?f2) (fun k => ?h2) ?k2
 case h2 => unfold laws_eqAutomaton.f;rw [if_pos rfl] <;> exact rfl
 refine Ev.bind (eqIntS_ev s s hs) (Ev_t (by simp) (Ev.bind (eqIntS_ev f f hf) (Ev_t (by simp) (Ev.bind (eqStepS_ev t ht) (Ev_t rfl (Ev.now _))))))
theorem szIntS_eq (l : List Int) (z : Int) (h : l.length ≤ maxLen) (h0 : 0 ≤ z) (h1 : z ≤ 1048576) : laws_szIntS.f l z = some (if (l.length : Int) ≤ z then z - l.length else -1):=by
 rw [maxLen_eq] at h
 unfold laws_szIntS.f
 rw [w64 (by omega) (by omega)]
 by_cases hl : (l.length : Int) ≤ z
 ·rw [if_neg (by omega),if_pos hl]
 ·rw [if_pos (by omega),if_neg hl]
theorem szStepS_ev (l : List S118) (h : l.length ≤ maxLen) (hx : ∀ x ∈ l,x.f1.size ≤ maxLen) (z : Int) (h0 : 0 ≤ z) (h1 : z ≤ 1048576) : ∃ r : Int,Ev (fun k => laws_szStepS.f k l z) r ∧ (r < 0 ∨ (0 ≤ r ∧ r ≤ z ∧ l.length ≤ z)):=by
 rw [maxLen_eq] at h
 by_cases hl : (l.length : Int) ≤ z
 ·have go : ∀ (t pre : List S118) (y : Int),l = pre ++ t → 0 ≤ y → y ≤ z → ∃ r : Int,Ev (fun k => laws_szStepS.l0 k l y (pre.length : Int)) r ∧ (r < 0 ∨ (0 ≤ r ∧ r ≤ z)):=by
   intro t
   induction t with
   | nil =>
    intro pre y hp hy hz
    refine ⟨y,Ev.step (f:=fun _ => some y) (fun k => ?_) (Ev.now _),.inr ⟨hy,hz⟩⟩
    simp only [laws_szStepS.l0]
    rw [if_neg (by rw [hp];simp)]
   | cons x t ih =>
    intro pre y hp hy hz
    have hlen : l.length = pre.length + (t.length + 1):=by rw [hp];simp
    have hr : rd_T118 l (pre.length : Int) = x:=by rw [hp,rdL_mid]
    have hm:=hx x (by rw [hp];simp)
    rw [maxLen_eq] at hm
    have hw : wrap64 (y - (x.f1.size : Int)) = y - x.f1.size:=w64 (by omega) (by omega)
    by_cases hq : y - x.f1.size < 0
    ·refine ⟨-1,Ev.step (f:=fun _ => some (-1)) (fun k => ?_) (Ev.now _),.inl (by omega)⟩
     simp only [laws_szStepS.l0,laws_szStep.f]
     rw [if_pos (by omega),if_pos (by omega),hr,hw,if_pos hq,Option.bind_some,if_pos (by omega)]
    ·obtain ⟨r,e,c⟩:=ih (pre ++ [x]) (y - x.f1.size) (by simp [hp]) (by omega) (by omega)
     refine ⟨r,Ev.step (fun k => ?_) e,c⟩
     simp only [laws_szStepS.l0,laws_szStep.f]
     rw [if_pos (by omega),if_pos (by omega),hr,hw,if_neg hq,Option.bind_some,if_neg hq,w64 (by omega) (by omega),snocA]
  obtain ⟨r,e,c⟩:=go l [] (z - l.length) rfl (by omega) (by omega)
  refine ⟨r,Ev.congr (fun k => ?_) e,c.imp id (fun c => ⟨c.1,c.2,by omega⟩)⟩
  unfold laws_szStepS.f
  rw [w64 (by omega) (by omega),if_neg (by omega)];rfl
 ·refine ⟨-1,Ev.congr (f:=fun _ => some (-1)) (fun k => ?_) (Ev.now _),.inl (by omega)⟩
  unfold laws_szStepS.f
  rw [w64 (by omega) (by omega),if_pos (by omega)]
theorem szAutomaton_ev (n : Int) (s f : List Int) (t : List S118) (hs : s.length ≤ maxLen) (hf : f.length ≤ maxLen) (ht : t.length ≤ maxLen) (hx : ∀ x ∈ t,x.f1.size ≤ maxLen) (z : Int) (h0 : 0 ≤ z) (h1 : z ≤ 1048576) :
  ∃ r : Int,Ev (fun k => laws_szAutomaton.f k n s f t z) r ∧ (r < 0 ∨ (0 ≤ r ∧ r ≤ z ∧ s.length ≤ 1048576 ∧ f.length ≤ 1048576 ∧ t.length ≤ 1048576)):=by
 by_cases a1 : (s.length : Int) ≤ z
 case neg => exact ⟨-1,Ev.congr (f:=fun _ => some (-1)) (fun k => by unfold laws_szAutomaton.f;rw [szIntS_eq s z hs h0 h1,if_neg a1,Option.bind_some,if_pos (by omega)]) (Ev.now _),.inl (by omega)⟩
 by_cases a2 : (f.length : Int) ≤ z - s.length
 case neg => exact ⟨-1,Ev.congr (f:=fun _ => some (-1)) (fun k => by unfold laws_szAutomaton.f;rw [szIntS_eq s z hs h0 h1,if_pos a1,Option.bind_some,if_neg (by omega),szIntS_eq f _ hf (by omega) (by omega),if_neg a2,Option.bind_some,if_pos (by omega)]) (Ev.now _),.inl (by omega)⟩
 obtain ⟨r,e,c⟩:=szStepS_ev t ht hx (z - s.length - f.length) (by omega) (by omega)
 by_cases hr : r < 0
 ·refine ⟨-1,Ev.congr (f:=?f3) (fun k => ?h3) ?k3,.inl (by omega)⟩
  case h3 => unfold laws_szAutomaton.f;rw [szIntS_eq s z hs h0 h1,if_pos a1,Option.bind_some,if_neg (by omega),szIntS_eq f _ hf (by omega) (by omega),if_pos a2,Option.bind_some,if_neg (by omega)] <;> exact rfl
  exact Ev.bind e (Ev_t hr (Ev.now _))
 ·have c:=c.resolve_left hr
  refine ⟨r,Ev.congr (f:=?f4) (fun k => ?h4) ?k4,.inr ⟨c.1,by omega,by omega,by omega,by omega⟩⟩
  case h4 => unfold laws_szAutomaton.f;rw [szIntS_eq s z hs h0 h1,if_pos a1,Option.bind_some,if_neg (by omega),szIntS_eq f _ hf (by omega) (by omega),if_pos a2,Option.bind_some,if_neg (by omega)] <;> exact rfl
  exact Ev.bind e (Ev_f hr (Ev.now _))
end Go.Proofs.Ytfmbpoojpnoafaa.Y
end
section
namespace Go.Proofs.Ytfmbpoojpnoafaa.Y
open Go.RowKit Go.Proofs.Ytfmbpoojpnoafaa.X Go.Proofs.YtfmbpoojpnoafaaW.PrintWords Go.Proofs.YtfmbpoojpnoafaaW.PrintLast Go.Proofs.YtfmbpoojpnoafaaW.PrintMore
set_option linter.unusedVariables false
set_option linter.unusedSimpArgs false
theorem mrk_mem {n : Int} : ∀ {l : List Int} {p : Option Int},mrk n p l = true → ∀ x ∈ l,0 ≤ x ∧ x < n
 | [],_,_,x,hx => by cases hx
 | y :: t,p,h,x,hx => by
  simp only [mrk,Bool.and_eq_true,decide_eq_true_eq] at h
  rcases List.mem_cons.mp hx with rfl|hx
  ·exact h.1.1
  ·exact mrk_mem h.2 x hx
def betw (n : Int) (s f l : List Int) : Int:=s.foldl (fun acc i => f.foldl (fun acc k => mn acc (l.getD (i * n + k).toNat 0)) acc) 3
theorem cellZ {n i k : Int} (hn : 1 ≤ n ∧ n ≤ 4) (hi : 0 ≤ i ∧ i < n) (hk : 0 ≤ k ∧ k < n) : 0 ≤ i * n + k ∧ i * n + k < n * n ∧ i * n + k ≤ 16 ∧ 0 ≤ i * n ∧ i * n ≤ 16:=by
 have h1 : n = 1 ∨ n = 2 ∨ n = 3 ∨ n = 4:=by omega
 rcases h1 with rfl|rfl|rfl|rfl <;> omega
theorem cellW {n i k : Int} (hn : 1 ≤ n ∧ n ≤ 4) (hi : 0 ≤ i ∧ i < n) (hk : 0 ≤ k ∧ k < n) : wrap64 (wrap64 (i * n) + k) = i * n + k:=by
 have c:=cellZ hn hi hk
 rw [w64 (x:=i * n) (by omega) (by omega),w64 (by omega) (by omega)]
theorem sBetw (n : Int) (hn : 1 ≤ n ∧ n ≤ 4) (s f : List Int) (t : List S92) (l : List Int) (hl : (l.length : Int) = n * n) (hs : ∀ x ∈ s,0 ≤ x ∧ x < n) (hf : ∀ x ∈ f,0 ≤ x ∧ x < n) (hsl : s.length ≤ 1000000000) (hfl : f.length ≤ 1000000000) :
  Ev (fun k => spec_l6Between.f k n s f t n l) (betw n s f l):=by
 have go : ∀ (u pre : List Int) (acc : Int),s = pre ++ u → Ev (fun k => spec_l6Between.l0 k acc s (s.length : Int) (pre.length : Int) n s f t n l) (u.foldl (fun acc i => f.foldl (fun acc k => mn acc (l.getD (i * n + k).toNat 0)) acc) acc):=by
  intro u
  induction u with
  | nil =>
   intro pre acc hp
   refine Ev.step (f:=fun _ => some acc) (fun k => ?_) (Ev.now _)
   simp only [spec_l6Between.l0];rw [if_neg (by rw [hp];simp)]
  | cons x u ih =>
   intro pre acc hp
   have hlen : s.length = pre.length + (u.length + 1):=by rw [hp];simp
   have hx : rd s (pre.length : Int) = x:=by rw [hp,rd_mid]
   have hb:=hs x (by rw [hp];simp)
   have inner : ∀ (v q : List Int) (acc : Int),f = q ++ v → Ev (fun k => spec_l6Between.l1 k acc x s (s.length : Int) (pre.length : Int) f (f.length : Int) (q.length : Int) n s f t n l) (u.foldl (fun acc i => f.foldl (fun acc k => mn acc (l.getD (i * n + k).toNat 0)) acc) (v.foldl (fun acc k => mn acc (l.getD (x * n + k).toNat 0)) acc)):=by
    intro v
    induction v with
    | nil =>
     intro q acc hq
     refine Ev.step (fun k => ?_) (ih (pre ++ [x]) acc (by simp [hp]))
     simp only [spec_l6Between.l1];rw [if_neg (by rw [hq];simp),w64 (by omega) (by omega),snoc_len]
    | cons y v ihv =>
     intro q acc hq
     have hlq : f.length = q.length + (v.length + 1):=by rw [hq];simp
     have hy : rd f (q.length : Int) = y:=by rw [hq,rd_mid]
     have hc:=hf y (by rw [hq];simp)
     have c:=cellZ hn hb hc
     refine Ev.step (fun k => ?_) (ihv (q ++ [y]) _ (by simp [hq]))
     simp only [spec_l6Between.l1]
     rw [if_pos (by omega),if_pos (by omega),if_pos (by omega),hy,cellW hn hb hc,if_pos (by omega),if_pos (by omega),w64 (x:=(q.length : Int) + 1) (by omega) (by omega),snoc_len]
     rfl
   refine Ev.step (fun k => ?_) (inner f [] acc rfl)
   simp only [spec_l6Between.l0]
   rw [if_pos (by omega),if_pos (by omega),if_pos (by omega),hx];rfl
 exact go s [] 3 rfl
theorem iBetw (n : Int) (hn : 1 ≤ n ∧ n ≤ 4) (s f : List Int) (t : List S92) (l : List Int) (hl : (l.length : Int) = n * n) (hs : ∀ x ∈ s,0 ≤ x ∧ x < n) (hf : ∀ x ∈ f,0 ≤ x ∧ x < n) (hsl : s.length ≤ 1000000000) (hfl : f.length ≤ 1000000000) :
  Ev (fun k => impl_GradeBetween.l0 k 3 s (s.length : Int) 0 n s f t n l) (betw n s f l):=by
 have go : ∀ (u pre : List Int) (acc : Int),s = pre ++ u → Ev (fun k => impl_GradeBetween.l0 k acc s (s.length : Int) (pre.length : Int) n s f t n l) (u.foldl (fun acc i => f.foldl (fun acc k => mn acc (l.getD (i * n + k).toNat 0)) acc) acc):=by
  intro u
  induction u with
  | nil =>
   intro pre acc hp
   refine Ev.step (f:=fun _ => some acc) (fun k => ?_) (Ev.now _)
   simp only [impl_GradeBetween.l0];rw [if_neg (by rw [hp];simp)]
  | cons x u ih =>
   intro pre acc hp
   have hlen : s.length = pre.length + (u.length + 1):=by rw [hp];simp
   have hx : rd s (pre.length : Int) = x:=by rw [hp,rd_mid]
   have hb:=hs x (by rw [hp];simp)
   have inner : ∀ (v q : List Int) (acc : Int),f = q ++ v → Ev (fun k => impl_GradeBetween.l1 k acc x s (s.length : Int) (pre.length : Int) f (f.length : Int) (q.length : Int) n s f t n l) (u.foldl (fun acc i => f.foldl (fun acc k => mn acc (l.getD (i * n + k).toNat 0)) acc) (v.foldl (fun acc k => mn acc (l.getD (x * n + k).toNat 0)) acc)):=by
    intro v
    induction v with
    | nil =>
     intro q acc hq
     refine Ev.step (fun k => ?_) (ih (pre ++ [x]) acc (by simp [hp]))
     simp only [impl_GradeBetween.l1];rw [if_neg (by rw [hq];simp),w64 (by omega) (by omega),snoc_len]
    | cons y v ihv =>
     intro q acc hq
     have hlq : f.length = q.length + (v.length + 1):=by rw [hq];simp
     have hy : rd f (q.length : Int) = y:=by rw [hq,rd_mid]
     have hc:=hf y (by rw [hq];simp)
     have c:=cellZ hn hb hc
     refine Ev.step (fun k => ?_) (ihv (q ++ [y]) _ (by simp [hq]))
     simp only [impl_GradeBetween.l1,impl_Matrix_at.f]
     rw [if_pos (by omega),if_pos (by omega),if_pos (by omega),hy,cellW hn hb hc,if_pos (by omega),if_pos (by omega),Option.bind_some,w64 (x:=(q.length : Int) + 1) (by omega) (by omega),snoc_len]
     rfl
   refine Ev.step (fun k => ?_) (inner f [] acc rfl)
   simp only [impl_GradeBetween.l0]
   rw [if_pos (by omega),if_pos (by omega),if_pos (by omega),hx];rfl
 exact go s [] 3 rfl
def grB (n : Int) (s f : List Int) (t : List S92) (m : Int) (l : List Int) : Int:=if AV n s f t = true ∧ GV m l ∧ m = n then betw n s f l else -1
theorem AV_parts {n : Int} {s f : List Int} {t : List S92} (h : AV n s f t = true) : (1 ≤ n ∧ n ≤ 4) ∧ t.length ≤ 24 ∧ mrk n none s = true ∧ mrk n none f = true ∧ stp n none t = true:=by
 simp only [AV,Bool.and_eq_true,decide_eq_true_eq] at h
 exact ⟨⟨h.1.1.1.1,h.1.1.1.2.1⟩,h.1.1.1.2.2,h.1.1.2,h.1.2,h.2⟩
theorem iGradeB (n : Int) (s f : List Int) (t : List S92) (m : Int) (l : List Int) (hs : s.length ≤ 1000000000) (hf : f.length ≤ 1000000000) (ht : t.length ≤ 1000000000) (hl : l.length ≤ maxLen) : Ev (fun k => impl_GradeBetween.f k n s f t m l) (grB n s f t m l):=by
 have bad : ∀ g : Nat → Option Int,(∀ k,g k = impl_GradeBetween.j0 k true n s f t m l) → ¬ (AV n s f t = true ∧ GV m l ∧ m = n) → Ev g (grB n s f t m l):=fun g hg he => Ev.congr hg ((Ev.step (f:=fun _ => some (-1)) (fun k => by simp only [impl_GradeBetween.j0];rw [if_pos trivial]) (Ev.now _)).is (by unfold grB;rw [if_neg he]))
 refine Ev.congr (f:=?f1) (fun k => ?h1) ?k1
 case h1 => unfold impl_GradeBetween.f;exact rfl
 refine Ev.bind (iAV n s f t hs hf ht) ?_
 by_cases g1 : AV n s f t = true
 case neg => exact bad _ (fun k => by rw [if_neg g1]) (fun h => g1 h.1)
 refine Ev_t g1 ?_
 refine Ev.bind (iGV m l hl) ?_
 by_cases g2 : GV m l
 case neg => exact bad _ (fun k => by rw [if_neg (by simpa using g2)]) (fun h => g2 h.2.1)
 refine Ev_t (decide_eq_true g2) ?_
 by_cases g3 : m = n
 case neg => exact bad _ (fun k => by rw [bne_iff_ne.mpr g3]) (fun h => g3 h.2.2)
 subst g3
 obtain ⟨h1,h2,h3,h4,h5⟩:=AV_parts g1
 refine Ev.step (fun k => by rw [bne_self_eq_false];simp only [impl_GradeBetween.j0];rw [if_neg (by simp)]) ((iBetw m h1 s f t l g2.1.2.2.1 (mrk_mem h3) (mrk_mem h4) hs hf).is ?_)
 unfold grB;rw [if_pos ⟨g1,g2,rfl⟩]
theorem sGradeB (n : Int) (s f : List Int) (t : List S92) (m : Int) (l : List Int) (hs : s.length ≤ 1000000000) (hf : f.length ≤ 1000000000) (ht : t.length ≤ 1000000000) (hl : l.length ≤ maxLen) : Ev (fun k => spec_GradeBetween.f k n s f t m l) (grB n s f t m l):=by
 have bad : ∀ g : Nat → Option Int,(∀ k,g k = some (-1)) → ¬ (AV n s f t = true ∧ GV m l ∧ m = n) → Ev g (grB n s f t m l):=fun g hg he => (ev_some hg).is (by unfold grB;rw [if_neg he])
 refine Ev.congr (f:=?f2) (fun k => ?h2) ?k2
 case h2 => unfold spec_GradeBetween.f;exact rfl
 refine Ev.bind (sAV n s f t hs hf ht) ?_
 by_cases g1 : AV n s f t = true
 case neg => exact bad _ (fun k => by rw [if_neg g1]) (fun h => g1 h.1)
 refine Ev_t g1 ?_
 refine Ev.bind (sGV m l hl) ?_
 by_cases g2 : GV m l
 case neg => exact bad _ (fun k => by rw [if_neg (by simpa using g2)]) (fun h => g2 h.2.1)
 refine Ev_t (decide_eq_true g2) ?_
 by_cases g3 : m = n
 case neg => exact bad _ (fun k => by rw [if_neg g3]) (fun h => g3 h.2.2)
 refine Ev_t g3 ?_
 subst g3
 obtain ⟨h1,h2,h3,h4,h5⟩:=AV_parts g1
 refine Ev.bind (sBetw m h1 s f t l g2.1.2.2.1 (mrk_mem h3) (mrk_mem h4) hs hf) ((Ev.now _).is ?_)
 unfold grB;rw [if_pos ⟨g1,g2,rfl⟩]
end Go.Proofs.Ytfmbpoojpnoafaa.Y
end
