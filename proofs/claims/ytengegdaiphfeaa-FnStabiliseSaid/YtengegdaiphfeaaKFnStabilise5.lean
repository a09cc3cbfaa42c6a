import Derived.Test.YtengegdaiphfeaaKFnStabilise1
import Derived.Test.YtengegdaiphfeaaKFnStabilise2
import Derived.Test.YtengegdaiphfeaaKFnStabilise4
section
namespace Go.Proofs.Ytengegdaiphfeaa.X
open Go.RowKit Go.Proofs.YtengegdaiphfeaaW.PrintWords Go.Proofs.YtengegdaiphfeaaW.PrintLast Go.Proofs.YtengegdaiphfeaaW.PrintMore
attribute [local go_sem] max2_int min2_int max_two min_two max_three min_three max_four min_four
set_option linter.unusedVariables false
set_option linter.unusedSimpArgs false
mutual
def laws_FnStabilise.j0 : Nat → Bool → Bool → Bool → Int → List Int → Int → List Int → Int → List Int → Option (Bool)
 | 0,_,_,_,_,_,_,_,_,_ => none
 | k + 1,x5,x7,x49,x860000,x860001,x866000,x866001,x872000,x872001 => if x49 = true then ((laws_daMatrix.f k x866000 x866001 x872000 x872001).bind fun t874 => (if t874 = true then (if (x5 == x7) = true then ((impl_IsIdempotent.f k x860000 x860001).bind fun t875 => (some (t875 == x5))) else (some false)) else (some false))) else ((impl_Stabilise.f k x866000 x866001).bind fun bt876 => ((impl_MulGrades.f k x860000 x860001 x866000 x866001).bind fun bt882 => ((impl_MulGrades.f k x866000 x866001 x860000 x860001).bind fun bt888 => (laws_FnStabilise.l0 k bt876.2.2 x866001 (x866001.length : Int) 0 x860000 x860001 x866000 x866001 bt876.1 bt876.2.1 bt882.1 bt882.2.1 bt888.1 bt888.2.1))))
def laws_FnStabilise.l0 : Nat → Bool → List Int → Int → Int → Int → List Int → Int → List Int → Int → List Int → Int → List Int → Int → List Int → Option (Bool)
 | 0,_,_,_,_,_,_,_,_,_,_,_,_,_,_ => none
 | k + 1,x9,x82,x83,x84,x860000,x860001,x866000,x866001,x882000,x882001,x888000,x888001,x894000,x894001 => if x84 < x83 then (if 0 ≤ x84 then (if x84 < (x82.length : Int) then (if x84 < (x860001.length : Int) then (if (rd x82 x84) < (rd x860001 x84) then (some false) else (if (rd x82 x84) = 3 then (if (rd x860001 x84) = (rd x82 x84) then (laws_FnStabilise.l0 k x9 x82 x83 (wrap64 (x84 + 1)) x860000 x860001 x866000 x866001 x882000 x882001 x888000 x888001 x894000 x894001) else (some false)) else (laws_FnStabilise.l0 k x9 x82 x83 (wrap64 (x84 + 1)) x860000 x860001 x866000 x866001 x882000 x882001 x888000 x888001 x894000 x894001))) else (none)) else (none)) else (none)) else (if x9 = true then ((laws_daMatrix.f k x882000 x882001 x866000 x866001).bind fun t897 => (if t897 = true then ((impl_IsIdempotent.f k x866000 x866001).bind fun t898 => (if t898 = true then ((laws_daMatrix.f k x888000 x888001 x866000 x866001).bind fun t899 => (if t899 = true then ((laws_daMatrix.f k x894000 x894001 x866000 x866001).bind fun t900 => (some t900)) else (some false))) else (some false))) else (some false))) else (some false))
end
def laws_FnStabilise.f (k : Nat) (l0 : List Int) : Option (Bool):=if (l0.length : Int) > 1048576 then (some true) else ((spec_DrawStabilise.f k l0).bind fun bt855 => ((impl_Stabilise.f k bt855.1 bt855.2).bind fun bt860 => ((spec_Stabilise.f k bt855.1 bt855.2).bind fun bt866 => ((laws_daMatrix.f k bt860.1 bt860.2.1 bt866.1 bt866.2.1).bind fun t872 => (if t872 = true then (if (bt860.2.2 != bt866.2.2) = true then (laws_FnStabilise.j0 k bt860.2.2 bt866.2.2 true bt855.1 bt855.2 bt860.1 bt860.2.1 bt866.1 bt866.2.1) else ((impl_IsIdempotent.f k bt855.1 bt855.2).bind fun t873 => (if (t873 != bt860.2.2) = true then (laws_FnStabilise.j0 k bt860.2.2 bt866.2.2 true bt855.1 bt855.2 bt860.1 bt860.2.1 bt866.1 bt866.2.1) else (laws_FnStabilise.j0 k bt860.2.2 bt866.2.2 (!bt860.2.2) bt855.1 bt855.2 bt860.1 bt860.2.1 bt866.1 bt866.2.1)))) else (laws_FnStabilise.j0 k bt860.2.2 bt866.2.2 true bt855.1 bt855.2 bt860.1 bt860.2.1 bt866.1 bt866.2.1))))))
theorem laws_FnStabilise.mono_l : ∀ k,(∀ y0 y1 y2 y3 y4 y5 y6 y7 y8,LeO (laws_FnStabilise.j0 k y0 y1 y2 y3 y4 y5 y6 y7 y8) (laws_FnStabilise.j0 (k + 1) y0 y1 y2 y3 y4 y5 y6 y7 y8)) ∧ (∀ y0 y1 y2 y3 y4 y5 y6 y7 y8 y9 y10 y11 y12 y13,LeO (laws_FnStabilise.l0 k y0 y1 y2 y3 y4 y5 y6 y7 y8 y9 y10 y11 y12 y13) (laws_FnStabilise.l0 (k + 1) y0 y1 y2 y3 y4 y5 y6 y7 y8 y9 y10 y11 y12 y13))
 | 0 => ⟨fun _ _ _ _ _ _ _ _ _ r h => by simp [laws_FnStabilise.j0] at h,fun _ _ _ _ _ _ _ _ _ _ _ _ _ _ r h => by simp [laws_FnStabilise.l0] at h⟩
 | k + 1 => by
  obtain ⟨ih0,ih1⟩:=laws_FnStabilise.mono_l k
  refine ⟨?_,?_⟩
  ·intro y0 y1 y2 y3 y4 y5 y6 y7 y8
   unfold laws_FnStabilise.j0
   repeat' first
   | (with_reducible exact ih0 _ _ _ _ _ _ _ _ _)
   | (with_reducible exact ih1 _ _ _ _ _ _ _ _ _ _ _ _ _ _)
   | (with_reducible exact impl_IsIdempotent.mono _ _ _)
   | (with_reducible exact impl_MulGrades.mono _ _ _ _ _)
   | (with_reducible exact impl_Stabilise.mono _ _ _)
   | (with_reducible exact laws_daMatrix.mono _ _ _ _ _)
   | (with_reducible exact spec_DrawStabilise.mono _ _)
   | (with_reducible exact spec_Stabilise.mono _ _ _)
   | (with_reducible exact LeO.refl _)
   | (with_reducible exact LeO.none _)
   | (with_reducible refine LeO.ite ?_ ?_)
   | (with_reducible refine LeO.bind ?_ (fun _ => ?_))
   | exact ih0 _ _ _ _ _ _ _ _ _
   | exact ih1 _ _ _ _ _ _ _ _ _ _ _ _ _ _
   | exact impl_IsIdempotent.mono _ _ _
   | exact impl_MulGrades.mono _ _ _ _ _
   | exact impl_Stabilise.mono _ _ _
   | exact laws_daMatrix.mono _ _ _ _ _
   | exact spec_DrawStabilise.mono _ _
   | exact spec_Stabilise.mono _ _ _
   | exact LeO.none _
   | refine LeO.ite ?_ ?_
   | refine LeO.bind ?_ (fun _ => ?_)
  ·intro y0 y1 y2 y3 y4 y5 y6 y7 y8 y9 y10 y11 y12 y13
   unfold laws_FnStabilise.l0
   repeat' first
   | (with_reducible exact ih0 _ _ _ _ _ _ _ _ _)
   | (with_reducible exact ih1 _ _ _ _ _ _ _ _ _ _ _ _ _ _)
   | (with_reducible exact impl_IsIdempotent.mono _ _ _)
   | (with_reducible exact impl_MulGrades.mono _ _ _ _ _)
   | (with_reducible exact impl_Stabilise.mono _ _ _)
   | (with_reducible exact laws_daMatrix.mono _ _ _ _ _)
   | (with_reducible exact spec_DrawStabilise.mono _ _)
   | (with_reducible exact spec_Stabilise.mono _ _ _)
   | (with_reducible exact LeO.refl _)
   | (with_reducible exact LeO.none _)
   | (with_reducible refine LeO.ite ?_ ?_)
   | (with_reducible refine LeO.bind ?_ (fun _ => ?_))
   | exact ih0 _ _ _ _ _ _ _ _ _
   | exact ih1 _ _ _ _ _ _ _ _ _ _ _ _ _ _
   | exact impl_IsIdempotent.mono _ _ _
   | exact impl_MulGrades.mono _ _ _ _ _
   | exact impl_Stabilise.mono _ _ _
   | exact laws_daMatrix.mono _ _ _ _ _
   | exact spec_DrawStabilise.mono _ _
   | exact spec_Stabilise.mono _ _ _
   | exact LeO.none _
   | refine LeO.ite ?_ ?_
   | refine LeO.bind ?_ (fun _ => ?_)
theorem laws_FnStabilise.mono : ∀ a0 k,LeO (laws_FnStabilise.f k a0) (laws_FnStabilise.f (k + 1) a0):=by
 intro a0 k
 obtain ⟨ih0,ih1⟩:=laws_FnStabilise.mono_l k
 unfold laws_FnStabilise.f
 repeat' first
   | (with_reducible exact ih0 _ _ _ _ _ _ _ _ _)
   | (with_reducible exact ih1 _ _ _ _ _ _ _ _ _ _ _ _ _ _)
   | (with_reducible exact impl_IsIdempotent.mono _ _ _)
   | (with_reducible exact impl_MulGrades.mono _ _ _ _ _)
   | (with_reducible exact impl_Stabilise.mono _ _ _)
   | (with_reducible exact laws_daMatrix.mono _ _ _ _ _)
   | (with_reducible exact spec_DrawStabilise.mono _ _)
   | (with_reducible exact spec_Stabilise.mono _ _ _)
   | (with_reducible exact LeO.refl _)
   | (with_reducible exact LeO.none _)
   | (with_reducible refine LeO.ite ?_ ?_)
   | (with_reducible refine LeO.bind ?_ (fun _ => ?_))
   | exact ih0 _ _ _ _ _ _ _ _ _
   | exact ih1 _ _ _ _ _ _ _ _ _ _ _ _ _ _
   | exact impl_IsIdempotent.mono _ _ _
   | exact impl_MulGrades.mono _ _ _ _ _
   | exact impl_Stabilise.mono _ _ _
   | exact laws_daMatrix.mono _ _ _ _ _
   | exact spec_DrawStabilise.mono _ _
   | exact spec_Stabilise.mono _ _ _
   | exact LeO.none _
   | refine LeO.ite ?_ ?_
   | refine LeO.bind ?_ (fun _ => ?_)
set_option maxHeartbeats 8000000 in
set_option maxRecDepth 100000 in
theorem laws_FnStabilise.calls (k : Nat) (A0 : Option Addr) (c0 : Nat) (l0 : List Int) (r : Bool) (w : World) (hr0 : Kd.C (Kd.int .u8) w A0 l0.length l0) (hc0 : l0.length ≤ c0) (h : laws_FnStabilise.f k l0 = some r) :
  Calls Try.prog 12 #[.slice A0 l0.length c0] w fun e w' => e = .returned (.bool r) ∧ Below w.heap.size w w':=by
 have hu28:=Try.underlying28
 have HR0:=Aside0.mk hr0
 have HC0:=Aside0.mk hc0
 clear hr0 hc0
 have HB:=Aside0.mk (Below.refl w.heap.size w)
 have H : (if (l0.length : Int) > 1048576 then (some true) else ((spec_DrawStabilise.f k l0).bind fun bt855 => ((impl_Stabilise.f k bt855.1 bt855.2).bind fun bt860 => ((spec_Stabilise.f k bt855.1 bt855.2).bind fun bt866 => ((laws_daMatrix.f k bt860.1 bt860.2.1 bt866.1 bt866.2.1).bind fun t872 => (if t872 = true then (if (bt860.2.2 != bt866.2.2) = true then (laws_FnStabilise.j0 k bt860.2.2 bt866.2.2 true bt855.1 bt855.2 bt860.1 bt860.2.1 bt866.1 bt866.2.1) else ((impl_IsIdempotent.f k bt855.1 bt855.2).bind fun t873 => (if (t873 != bt860.2.2) = true then (laws_FnStabilise.j0 k bt860.2.2 bt866.2.2 true bt855.1 bt855.2 bt860.1 bt860.2.1 bt866.1 bt866.2.1) else (laws_FnStabilise.j0 k bt860.2.2 bt866.2.2 (!bt860.2.2) bt855.1 bt855.2 bt860.1 bt860.2.1 bt866.1 bt866.2.1)))) else (laws_FnStabilise.j0 k bt860.2.2 bt866.2.2 true bt855.1 bt855.2 bt860.1 bt860.2.1 bt866.1 bt866.2.1))))))) = some r:=h
 clear h
 by_cases c2 : (l0.length : Int) > 1048576
 ·rw [if_pos c2] at H
  have c2b0 : decide (1048576 < (l0.length : Int)) = true:=decide_eq_true c2
  have c2b1 : decide (1048576 < l0.length) = true:=decide_eq_true (by omega)
  clear c2
  obtain rfl:=Option.some.inj H
  go_enter Try.func12,Try.ntmps12
  go_wp2
  go_ret
  exact ⟨by first|rfl|(simp [errW_none,errW_some] <;> rfl)|(simp [*,errW_none,errW_some] <;> rfl),by repeat (first|(with_reducible first|exact HB.out|apply below_alloc|apply pw_below_drewN|apply below_drew1)|exact HB.out)⟩
 ·rw [if_neg c2] at H
  have c2b0 : decide (1048576 < (l0.length : Int)) = false:=decide_eq_false c2
  have c2b1 : decide (1048576 < l0.length) = false:=decide_eq_false (by omega)
  clear c2
  replace H:=Option.bind_eq_some_iff.mp H
  obtain ⟨⟨t855,t856⟩,A30,H⟩:=H
  replace H : ((impl_Stabilise.f k t855 t856).bind fun bt860 => ((spec_Stabilise.f k t855 t856).bind fun bt866 => ((laws_daMatrix.f k bt860.1 bt860.2.1 bt866.1 bt866.2.1).bind fun t872 => (if t872 = true then (if (bt860.2.2 != bt866.2.2) = true then (laws_FnStabilise.j0 k bt860.2.2 bt866.2.2 true t855 t856 bt860.1 bt860.2.1 bt866.1 bt866.2.1) else ((impl_IsIdempotent.f k t855 t856).bind fun t873 => (if (t873 != bt860.2.2) = true then (laws_FnStabilise.j0 k bt860.2.2 bt866.2.2 true t855 t856 bt860.1 bt860.2.1 bt866.1 bt866.2.1) else (laws_FnStabilise.j0 k bt860.2.2 bt866.2.2 (!bt860.2.2) t855 t856 bt860.1 bt860.2.1 bt866.1 bt866.2.1)))) else (laws_FnStabilise.j0 k bt860.2.2 bt866.2.2 true t855 t856 bt860.1 bt860.2.1 bt866.1 bt866.2.1))))) = some r:=H
  have A3:=Aside0.mk A30
  clear A30
  replace H:=Option.bind_eq_some_iff.mp H
  obtain ⟨⟨t860,t861,t864⟩,A40,H⟩:=H
  replace H : ((spec_Stabilise.f k t855 t856).bind fun bt866 => ((laws_daMatrix.f k t860 t861 bt866.1 bt866.2.1).bind fun t872 => (if t872 = true then (if (t864 != bt866.2.2) = true then (laws_FnStabilise.j0 k t864 bt866.2.2 true t855 t856 t860 t861 bt866.1 bt866.2.1) else ((impl_IsIdempotent.f k t855 t856).bind fun t873 => (if (t873 != t864) = true then (laws_FnStabilise.j0 k t864 bt866.2.2 true t855 t856 t860 t861 bt866.1 bt866.2.1) else (laws_FnStabilise.j0 k t864 bt866.2.2 (!t864) t855 t856 t860 t861 bt866.1 bt866.2.1)))) else (laws_FnStabilise.j0 k t864 bt866.2.2 true t855 t856 t860 t861 bt866.1 bt866.2.1)))) = some r:=H
  have A4:=Aside0.mk A40
  clear A40
  replace H:=Option.bind_eq_some_iff.mp H
  obtain ⟨⟨t866,t867,t870⟩,A50,H⟩:=H
  replace H : ((laws_daMatrix.f k t860 t861 t866 t867).bind fun t872 => (if t872 = true then (if (t864 != t870) = true then (laws_FnStabilise.j0 k t864 t870 true t855 t856 t860 t861 t866 t867) else ((impl_IsIdempotent.f k t855 t856).bind fun t873 => (if (t873 != t864) = true then (laws_FnStabilise.j0 k t864 t870 true t855 t856 t860 t861 t866 t867) else (laws_FnStabilise.j0 k t864 t870 (!t864) t855 t856 t860 t861 t866 t867)))) else (laws_FnStabilise.j0 k t864 t870 true t855 t856 t860 t861 t866 t867))) = some r:=H
  have A5:=Aside0.mk A50
  clear A50
  have HC6:=Aside0.mk H
  clear H
  go_enter Try.func12,Try.ntmps12
  go_upto_region 6 with (first|((with_reducible refine gate_callee (f:=40) rfl ?_);refine goesL_ (some 20) rfl rfl Try.func40 (by kernel_rfl) rfl #[.slice A0 l0.length c0] rfl (by (try simp only [List.map_toArray,List.map_cons,List.map_nil]);first|done|rfl|(simp only [List.length_drop,List.length_take];rfl)) ?_;(with_reducible refine (spec_DrawStabilise.calls k _ _ l0 t855 t856 _ ?side1 ?side2 A3.out).mono ?_);(case side1 => repeat (first|exact HR0.out|(with_reducible refine Kd.C_alloc ?_ _)|(with_reducible refine Kd.C_drewN ?_ _)|(with_reducible refine Kd.C_drew ?_)));(case side2 => exact HC0.out);rintro e w7 ⟨v857,rfl,ho0,hb⟩;refine ⟨_,rfl,?_⟩;have n0_:=Aside0.mk (Kd.V_lower (Kd.V_mono (ok':=fun k_ => True) ho0 (fun k_ hk_ => trivial)) (below_size (by repeat (first|(with_reducible first|exact HB.out|apply below_alloc|apply pw_below_drewN|apply below_drew1)|exact HB.out))));have n1_:=Aside0.mk (below_step (by repeat (first|(with_reducible first|exact HB.out|apply below_alloc|apply pw_below_drewN|apply below_drew1)|exact HB.out)) hb);clear HB;have HO858:=n0_;have HB:=n1_;clear n0_ n1_;(try clear hb);(try clear hb2);(try clear hk);(try clear hi);(try clear ho0))|((with_reducible refine gate_dst (N:=3) rfl ?_);refine box_event ?hg (N:=3) ?hd (cs:=#[.int .i64 0,.slice none 0 0]) (t:=28) ?hr ?_;(case hd => rfl);(case hg => rfl);(case hr => first|(go_simp;done)|(go_simp;rfl));intro gb859 hg w8 hbox hb;have n0_:=Aside0.mk (Kd.V_below (Kd.V_elderB (by (with_reducible repeat (first|apply Kd.V_alloc|apply Kd.V_drewN|apply Kd.V_drew));exact HO858.out) gb859 (Nat.le_of_eq hg.symm)) hb);have n1_:=Aside0.mk (below_step (by repeat (first|(with_reducible first|exact HB.out|apply below_alloc|apply pw_below_drewN|apply below_drew1)|exact HB.out)) hb);have n2_:=Aside0.mk (hbox);have n3_:=Aside0.mk ((by rw [hg];exact (below_size (by repeat (first|(with_reducible first|exact HB.out|apply below_alloc|apply pw_below_drewN|apply below_drew1)|exact HB.out))) : w.heap.size ≤ gb859));have n4_:=Aside0.mk ((by rw [hg];exact (below_size (by repeat (first|(with_reducible first|exact HB.out|apply below_alloc|apply pw_below_drewN|apply below_drew1)|exact HB.out))) : w.heap.size ≤ gb859));clear HO858;clear HB;have HO858:=n0_;have HB:=n1_;have BK859:=n2_;have GW859:=n3_;have GE859:=n4_;clear n0_ n1_ n2_ n3_ n4_;clear hb hbox hg;have hcz9_0 : w8.cell? ⟨gb859,0,none⟩ = some (.int .i64 0):=(blk_cell BK859.out 0).trans rfl;have hcz9_1 : w8.cell? ⟨gb859,1,none⟩ = some (.slice none 0 0):=(blk_cell BK859.out 1).trans rfl;have hfz9_0:=blk_frozen BK859.out 0;have hfz9_1:=blk_frozen BK859.out 1;obtain ⟨Ao10,co10,eo10⟩:=Kd.V_slice HO858.out;subst eo10)|((with_reducible refine gate_callee (f:=39) rfl ?_);refine goesL_ (some 23) rfl rfl Try.func39 (by kernel_rfl) rfl #[.agg #[.int .i64 t855,.slice Ao10 t856.length co10]] rfl (by (try simp only [List.map_toArray,List.map_cons,List.map_nil]);first|done|rfl|(simp only [List.length_drop,List.length_take];rfl)) ?_;(with_reducible refine (impl_Stabilise.calls k t855 _ _ t856 t860 t861 t864 _ ?side1 ?side2 A4.out).mono ?_);(case side1 => refine (Kd.V_reads' (e:=3) (base:=w.heap.size) (ok:=fun k_ => (True ∧ k_ ≠ gb859)) (n:=t856.length) (c:=co10) ?_).2.2;exact (by (with_reducible repeat (first|apply Kd.V_alloc|apply Kd.V_drewN|apply Kd.V_drew));exact (Kd.V_mono (Kd.V_far (p:=⟨gb859,1,none⟩) (Kd.V_far (p:=⟨gb859,0,none⟩) (Kd.V_mono HO858.out (fun k_ hk => (⟨hk,hk.2⟩ : _ ∧ k_ ≠ gb859))) (fun _ hk => hk.2) (.int .i64 t855)) (fun _ hk => hk.2) (.slice Ao10 t856.length co10)) (fun _ h_ => h_.1))));(case side2 => exact (Kd.V_reads' HO858.out).2.1);rintro e w11 ⟨v862,rfl,ho0,hb⟩;refine ⟨_,rfl,?_⟩;have n0_:=Aside0.mk (Kd.V_elder' (by (with_reducible repeat (first|apply Kd.V_alloc|apply Kd.V_drewN|apply Kd.V_drew));exact (Kd.V_mono (Kd.V_far (p:=⟨gb859,1,none⟩) (Kd.V_far (p:=⟨gb859,0,none⟩) (Kd.V_mono HO858.out (fun k_ hk => (⟨hk,hk.2⟩ : _ ∧ k_ ≠ gb859))) (fun _ hk => hk.2) (.int .i64 t855)) (fun _ hk => hk.2) (.slice Ao10 t856.length co10)) (fun _ h_ => h_.1))) (Kd.R_base ho0) hb);have n1_:=Aside0.mk (Kd.R_lower ho0 (below_size (by repeat (first|(with_reducible first|exact HB.out|apply below_alloc|apply pw_below_drewN|apply below_drew1|refine below_set ?_ GE859.out)|exact HB.out))));have n2_:=Aside0.mk (blk_below (g:=gb859) (o:=.cells #[.int .i64 t855,.slice Ao10 t856.length co10] 28 (0,0)) (by (with_reducible repeat (first|refine blk_drewN ?_ _|refine blk_drew ?_|refine blk_alloc ?_ _));refine blk_put (cs:=#[.int .i64 t855,.slice none 0 0]) ?_ 1 _ rfl;(with_reducible repeat (first|refine blk_drewN ?_ _|refine blk_drew ?_|refine blk_alloc ?_ _));refine blk_put (cs:=#[.int .i64 0,.slice none 0 0]) ?_ 0 _ rfl;(with_reducible repeat (first|refine blk_drewN ?_ _|refine blk_drew ?_|refine blk_alloc ?_ _));exact BK859.out) hb);have n3_:=Aside0.mk (below_step (by repeat (first|(with_reducible first|exact HB.out|apply below_alloc|apply pw_below_drewN|apply below_drew1|refine below_set ?_ GE859.out)|exact HB.out)) hb);clear HO858;clear BK859;clear HB;have HO858:=n0_;have HO863:=n1_;have BK859:=n2_;have HB:=n3_;clear n0_ n1_ n2_ n3_;(try clear hb);(try clear hb2);(try clear hk);(try clear hi);(try clear ho0))|((with_reducible refine gate_dst (N:=4) rfl ?_);refine box_event ?hg (N:=4) ?hd (cs:=#[.int .i64 0,.slice none 0 0]) (t:=28) ?hr ?_;(case hd => rfl);(case hg => rfl);(case hr => first|(go_simp;done)|(go_simp;rfl));intro gb865 hg w12 hbox hb;have n0_:=Aside0.mk (Kd.V_below (Kd.V_elderB (by (with_reducible repeat (first|apply Kd.V_alloc|apply Kd.V_drewN|apply Kd.V_drew));exact HO858.out) gb865 (Nat.le_of_eq hg.symm)) hb);have n1_:=Aside0.mk (Kd.R_below (by (with_reducible repeat (first|apply Kd.R_alloc|apply Kd.R_drewN|apply Kd.R_drew));exact HO863.out) hb);have n2_:=Aside0.mk (blk_below (g:=gb859) (o:=.cells #[.int .i64 t855,.slice Ao10 t856.length co10] 28 (0,0)) (by (with_reducible repeat (first|refine blk_drewN ?_ _|refine blk_drew ?_|refine blk_alloc ?_ _));exact BK859.out) hb);have n3_:=Aside0.mk (below_step (by repeat (first|(with_reducible first|exact HB.out|apply below_alloc|apply pw_below_drewN|apply below_drew1|refine below_set ?_ GE859.out)|exact HB.out)) hb);have n4_:=Aside0.mk (hbox);have n5_:=Aside0.mk ((by rw [hg];exact (below_size (by repeat (first|(with_reducible first|exact HB.out|apply below_alloc|apply pw_below_drewN|apply below_drew1|refine below_set ?_ GE859.out)|exact HB.out))) : w.heap.size ≤ gb865));have n6_:=Aside0.mk ((by rw [hg];exact (below_size (by repeat (first|(with_reducible first|exact HB.out|apply below_alloc|apply pw_below_drewN|apply below_drew1|refine below_set ?_ GE859.out)|exact HB.out))) : w.heap.size ≤ gb865));have n7_:=Aside0.mk ((by rw [hg];exact Nat.ne_of_lt (blk_lt (g:=gb859) (o:=.cells #[.int .i64 t855,.slice Ao10 t856.length co10] 28 (0,0)) (by (with_reducible repeat (first|refine blk_drewN ?_ _|refine blk_drew ?_|refine blk_alloc ?_ _));exact BK859.out)) : gb859 ≠ gb865));have n8_:=Aside0.mk ((by rw [hg];exact Nat.ne_of_gt (blk_lt (g:=gb859) (o:=.cells #[.int .i64 t855,.slice Ao10 t856.length co10] 28 (0,0)) (by (with_reducible repeat (first|refine blk_drewN ?_ _|refine blk_drew ?_|refine blk_alloc ?_ _));exact BK859.out)) : gb865 ≠ gb859));clear HO858;clear HO863;clear BK859;clear HB;have HO858:=n0_;have HO863:=n1_;have BK859:=n2_;have HB:=n3_;have BK865:=n4_;have GW865:=n5_;have GE865:=n6_;have NB859_865:=n7_;have NB865_859:=n8_;clear n0_ n1_ n2_ n3_ n4_ n5_ n6_ n7_ n8_;clear hb hbox hg;have hnb13:=NB865_859.out;have hnc13:=NB859_865.out;have hcz14_0 : w12.cell? ⟨gb865,0,none⟩ = some (.int .i64 0):=(blk_cell BK865.out 0).trans rfl;have hcz14_1 : w12.cell? ⟨gb865,1,none⟩ = some (.slice none 0 0):=(blk_cell BK865.out 1).trans rfl;have hfz14_0:=blk_frozen BK865.out 0;have hfz14_1:=blk_frozen BK865.out 1;obtain ⟨Ao15,co15,eo15⟩:=Kd.R_slice HO863.out;subst eo15;have hcz16_0 : w12.cell? ⟨gb859,0,none⟩ = some (.int .i64 t855):=(blk_cell BK859.out 0).trans rfl;have hcz16_1 : w12.cell? ⟨gb859,1,none⟩ = some (.slice Ao10 t856.length co10):=(blk_cell BK859.out 1).trans rfl;have hfz16_0:=blk_frozen BK859.out 0;have hfz16_1:=blk_frozen BK859.out 1)|((with_reducible refine gate_callee (f:=38) rfl ?_);refine goesL_ (some 28) rfl rfl Try.func38 (by kernel_rfl) rfl #[.agg #[.int .i64 t855,.slice Ao10 t856.length co10]] rfl (by (try simp only [List.map_toArray,List.map_cons,List.map_nil]);first|done|rfl|(simp only [List.length_drop,List.length_take];rfl)) ?_;(with_reducible refine (spec_Stabilise.calls k t855 _ _ t856 t866 t867 t870 _ ?side1 ?side2 A5.out).mono ?_);(case side1 => refine (Kd.V_reads' (e:=3) (base:=w.heap.size) (ok:=fun k_ => (((True ∧ k_ ≠ gb859) ∧ some k_ ≠ (.slice Ao15 t861.length co15 : Value).ownBlock) ∧ k_ ≠ gb865)) (n:=t856.length) (c:=co10) ?_).2.2;exact (by (with_reducible repeat (first|apply Kd.V_alloc|apply Kd.V_drewN|apply Kd.V_drew));exact (Kd.V_mono (Kd.V_far (p:=⟨gb865,1,none⟩) (Kd.V_far (p:=⟨gb865,0,none⟩) (Kd.V_mono HO858.out (fun k_ hk => (⟨hk,hk.2⟩ : _ ∧ k_ ≠ gb865))) (fun _ hk => hk.2) (.int .i64 t860)) (fun _ hk => hk.2) (.slice Ao15 t861.length co15)) (fun _ h_ => h_.1))));(case side2 => exact (Kd.V_reads' HO858.out).2.1);rintro e w17 ⟨v868,rfl,ho0,hb⟩;refine ⟨_,rfl,?_⟩;have n0_:=Aside0.mk (Kd.V_elder' (by (with_reducible repeat (first|apply Kd.V_alloc|apply Kd.V_drewN|apply Kd.V_drew));exact (Kd.V_mono (Kd.V_far (p:=⟨gb865,1,none⟩) (Kd.V_far (p:=⟨gb865,0,none⟩) (Kd.V_mono HO858.out (fun k_ hk => (⟨hk,hk.2⟩ : _ ∧ k_ ≠ gb865))) (fun _ hk => hk.2) (.int .i64 t860)) (fun _ hk => hk.2) (.slice Ao15 t861.length co15)) (fun _ h_ => h_.1))) (Kd.R_base ho0) hb);have n1_:=Aside0.mk (Kd.R_elder' (by (with_reducible repeat (first|apply Kd.R_alloc|apply Kd.R_drewN|apply Kd.R_drew));exact (Kd.R_mono (Kd.R_far (p:=⟨gb865,1,none⟩) (Kd.R_far (p:=⟨gb865,0,none⟩) (Kd.R_types HO863.out BK865.out (by decide)) (fun _ hk => hk.2) (.int .i64 t860)) (fun _ hk => hk.2) (.slice Ao15 t861.length co15)) (fun _ h_ => h_.1))) (Kd.R_base ho0) hb);have n2_:=Aside0.mk (Kd.R_lower (Kd.R_new' ho0 (Kd.R_lt (by (with_reducible repeat (first|apply Kd.R_alloc|apply Kd.R_drewN|apply Kd.R_drew));exact (Kd.R_mono (Kd.R_far (p:=⟨gb865,1,none⟩) (Kd.R_far (p:=⟨gb865,0,none⟩) (Kd.R_types HO863.out BK865.out (by decide)) (fun _ hk => hk.2) (.int .i64 t860)) (fun _ hk => hk.2) (.slice Ao15 t861.length co15)) (fun _ h_ => h_.1))))) (below_size (by repeat (first|(with_reducible first|exact HB.out|apply below_alloc|apply pw_below_drewN|apply below_drew1|refine below_set ?_ GE859.out|refine below_set ?_ GE865.out)|exact HB.out))));have n3_:=Aside0.mk (blk_below (g:=gb859) (o:=.cells #[.int .i64 t855,.slice Ao10 t856.length co10] 28 (0,0)) (by (with_reducible repeat (first|refine blk_drewN ?_ _|refine blk_drew ?_|refine blk_alloc ?_ _));refine blk_far ?_ NB859_865.out _;(with_reducible repeat (first|refine blk_drewN ?_ _|refine blk_drew ?_|refine blk_alloc ?_ _));refine blk_far ?_ NB859_865.out _;(with_reducible repeat (first|refine blk_drewN ?_ _|refine blk_drew ?_|refine blk_alloc ?_ _));exact BK859.out) hb);have n4_:=Aside0.mk (blk_below (g:=gb865) (o:=.cells #[.int .i64 t860,.slice Ao15 t861.length co15] 28 (0,0)) (by (with_reducible repeat (first|refine blk_drewN ?_ _|refine blk_drew ?_|refine blk_alloc ?_ _));refine blk_put (cs:=#[.int .i64 t860,.slice none 0 0]) ?_ 1 _ rfl;(with_reducible repeat (first|refine blk_drewN ?_ _|refine blk_drew ?_|refine blk_alloc ?_ _));refine blk_put (cs:=#[.int .i64 0,.slice none 0 0]) ?_ 0 _ rfl;(with_reducible repeat (first|refine blk_drewN ?_ _|refine blk_drew ?_|refine blk_alloc ?_ _));exact BK865.out) hb);have n5_:=Aside0.mk (below_step (by repeat (first|(with_reducible first|exact HB.out|apply below_alloc|apply pw_below_drewN|apply below_drew1|refine below_set ?_ GE859.out|refine below_set ?_ GE865.out)|exact HB.out)) hb);clear HO858;clear HO863;clear BK859;clear BK865;clear HB;have HO858:=n0_;have HO863:=n1_;have HO869:=n2_;have BK859:=n3_;have BK865:=n4_;have HB:=n5_;clear n0_ n1_ n2_ n3_ n4_ n5_;(try clear hb);(try clear hb2);(try clear hk);(try clear hi);(try clear ho0))|((with_reducible refine gate_dst (N:=6) rfl ?_);refine box_event ?hg (N:=6) ?hd (cs:=#[.int .i64 0,.slice none 0 0]) (t:=28) ?hr ?_;(case hd => rfl);(case hg => rfl);(case hr => first|(go_simp;done)|(go_simp;rfl));intro gb871 hg w18 hbox hb;have n0_:=Aside0.mk (Kd.V_below (Kd.V_elderB (by (with_reducible repeat (first|apply Kd.V_alloc|apply Kd.V_drewN|apply Kd.V_drew));exact HO858.out) gb871 (Nat.le_of_eq hg.symm)) hb);have n1_:=Aside0.mk (Kd.R_below (by (with_reducible repeat (first|apply Kd.R_alloc|apply Kd.R_drewN|apply Kd.R_drew));exact HO863.out) hb);have n2_:=Aside0.mk (Kd.R_below (by (with_reducible repeat (first|apply Kd.R_alloc|apply Kd.R_drewN|apply Kd.R_drew));exact HO869.out) hb);have n3_:=Aside0.mk (blk_below (g:=gb859) (o:=.cells #[.int .i64 t855,.slice Ao10 t856.length co10] 28 (0,0)) (by (with_reducible repeat (first|refine blk_drewN ?_ _|refine blk_drew ?_|refine blk_alloc ?_ _));exact BK859.out) hb);have n4_:=Aside0.mk (blk_below (g:=gb865) (o:=.cells #[.int .i64 t860,.slice Ao15 t861.length co15] 28 (0,0)) (by (with_reducible repeat (first|refine blk_drewN ?_ _|refine blk_drew ?_|refine blk_alloc ?_ _));exact BK865.out) hb);have n5_:=Aside0.mk (below_step (by repeat (first|(with_reducible first|exact HB.out|apply below_alloc|apply pw_below_drewN|apply below_drew1|refine below_set ?_ GE859.out|refine below_set ?_ GE865.out)|exact HB.out)) hb);have n6_:=Aside0.mk (hbox);have n7_:=Aside0.mk ((by rw [hg];exact (below_size (by repeat (first|(with_reducible first|exact HB.out|apply below_alloc|apply pw_below_drewN|apply below_drew1|refine below_set ?_ GE859.out|refine below_set ?_ GE865.out)|exact HB.out))) : w.heap.size ≤ gb871));have n8_:=Aside0.mk ((by rw [hg];exact (below_size (by repeat (first|(with_reducible first|exact HB.out|apply below_alloc|apply pw_below_drewN|apply below_drew1|refine below_set ?_ GE859.out|refine below_set ?_ GE865.out)|exact HB.out))) : w.heap.size ≤ gb871));have n9_:=Aside0.mk ((by rw [hg];exact Nat.ne_of_lt (blk_lt (g:=gb859) (o:=.cells #[.int .i64 t855,.slice Ao10 t856.length co10] 28 (0,0)) (by (with_reducible repeat (first|refine blk_drewN ?_ _|refine blk_drew ?_|refine blk_alloc ?_ _));exact BK859.out)) : gb859 ≠ gb871));have n10_:=Aside0.mk ((by rw [hg];exact Nat.ne_of_gt (blk_lt (g:=gb859) (o:=.cells #[.int .i64 t855,.slice Ao10 t856.length co10] 28 (0,0)) (by (with_reducible repeat (first|refine blk_drewN ?_ _|refine blk_drew ?_|refine blk_alloc ?_ _));exact BK859.out)) : gb871 ≠ gb859));have n11_:=Aside0.mk ((by rw [hg];exact Nat.ne_of_lt (blk_lt (g:=gb865) (o:=.cells #[.int .i64 t860,.slice Ao15 t861.length co15] 28 (0,0)) (by (with_reducible repeat (first|refine blk_drewN ?_ _|refine blk_drew ?_|refine blk_alloc ?_ _));exact BK865.out)) : gb865 ≠ gb871));have n12_:=Aside0.mk ((by rw [hg];exact Nat.ne_of_gt (blk_lt (g:=gb865) (o:=.cells #[.int .i64 t860,.slice Ao15 t861.length co15] 28 (0,0)) (by (with_reducible repeat (first|refine blk_drewN ?_ _|refine blk_drew ?_|refine blk_alloc ?_ _));exact BK865.out)) : gb871 ≠ gb865));clear HO858;clear HO863;clear HO869;clear BK859;clear BK865;clear HB;have HO858:=n0_;have HO863:=n1_;have HO869:=n2_;have BK859:=n3_;have BK865:=n4_;have HB:=n5_;have BK871:=n6_;have GW871:=n7_;have GE871:=n8_;have NB859_871:=n9_;have NB871_859:=n10_;have NB865_871:=n11_;have NB871_865:=n12_;clear n0_ n1_ n2_ n3_ n4_ n5_ n6_ n7_ n8_ n9_ n10_ n11_ n12_;clear hb hbox hg;have hnb19:=NB871_859.out;have hnc19:=NB859_871.out;have hnb20:=NB871_865.out;have hnc20:=NB865_871.out;have hcz21_0 : w18.cell? ⟨gb871,0,none⟩ = some (.int .i64 0):=(blk_cell BK871.out 0).trans rfl;have hcz21_1 : w18.cell? ⟨gb871,1,none⟩ = some (.slice none 0 0):=(blk_cell BK871.out 1).trans rfl;have hfz21_0:=blk_frozen BK871.out 0;have hfz21_1:=blk_frozen BK871.out 1;obtain ⟨Ao22,co22,eo22⟩:=Kd.R_slice HO869.out;subst eo22))
  (try simp only [Act.put,List.setIfInBounds_toArray,List.set_cons_zero,List.set_cons_succ])
  go_cut [49] (fun v49 wc => ∃ (kq : Nat) (x49_5 : Bool),v49 = .bool x49_5 ∧ Aside0 (laws_FnStabilise.j0 kq t864 t870 x49_5 t855 t856 t860 t861 t866 t867 = some r) ∧ Aside0 (kq ≤ k) ∧ Aside0 (Kd.V (Kd.int .i64) 3 wc w.heap.size (fun k_ => some k_ ≠ ((.slice Ao15 t861.length co15) : Value).ownBlock ∧ some k_ ≠ ((.slice Ao22 t867.length co22) : Value).ownBlock ∧ k_ ≠ gb859 ∧ k_ ≠ gb865 ∧ k_ ≠ gb871) (.slice Ao10 t856.length co10) t856) ∧ Aside0 (Kd.R (Kd.int .i64) 3 wc w.heap.size (fun k_ => some k_ ≠ ((.slice Ao22 t867.length co22) : Value).ownBlock) (.slice Ao15 t861.length co15) t861) ∧ Aside0 (Kd.R (Kd.int .i64) 3 wc w.heap.size (fun k_ => some k_ ≠ ((.slice Ao15 t861.length co15) : Value).ownBlock) (.slice Ao22 t867.length co22) t867) ∧ Aside0 (wc.heap[gb859]? = some (.cells #[.int .i64 t855,(.slice Ao10 t856.length co10)] 28 (0,0))) ∧ Aside0 (wc.heap[gb865]? = some (.cells #[.int .i64 t860,(.slice Ao15 t861.length co15)] 28 (0,0))) ∧ Aside0 (wc.heap[gb871]? = some (.cells #[.int .i64 t866,(.slice Ao22 t867.length co22)] 28 (0,0))) ∧ Aside0 (Below w.heap.size w wc))
  case first =>
   have H:=HC6.out
   clear HC6
   replace H:=Option.bind_eq_some_iff.mp H
   obtain ⟨t872,A230,H⟩:=H
   replace H : (if t872 = true then (if (t864 != t870) = true then (laws_FnStabilise.j0 k t864 t870 true t855 t856 t860 t861 t866 t867) else ((impl_IsIdempotent.f k t855 t856).bind fun t873 => (if (t873 != t864) = true then (laws_FnStabilise.j0 k t864 t870 true t855 t856 t860 t861 t866 t867) else (laws_FnStabilise.j0 k t864 t870 (!t864) t855 t856 t860 t861 t866 t867)))) else (laws_FnStabilise.j0 k t864 t870 true t855 t856 t860 t861 t866 t867)) = some r:=H
   have A23:=Aside0.mk A230
   clear A230
   by_cases c24 : t872 = true
   ·subst c24
    have H1 : (if (t864 != t870) = true then (laws_FnStabilise.j0 k t864 t870 true t855 t856 t860 t861 t866 t867) else ((impl_IsIdempotent.f k t855 t856).bind fun t873 => (if (t873 != t864) = true then (laws_FnStabilise.j0 k t864 t870 true t855 t856 t860 t861 t866 t867) else (laws_FnStabilise.j0 k t864 t870 (!t864) t855 t856 t860 t861 t866 t867)))) = some r:=by rw [if_pos rfl] at H;exact H
    clear H
    have H:=H1
    clear H1
    by_cases c25 : (t864 != t870) = true
    ·rw [if_pos c25] at H
     have c25b0 : (t864 != t870) = true:=c25
     (try (have c25b1 : decide (t864 = t870) = false:=by simpa using c25))
     (try (have c25b2 : (t864 == t870) = false:=by simpa using c25))
     (try (have c25b3 : ¬ (t864 = t870):=by simpa using c25))
     clear c25
     (first|rw [c25b0]|(simp only [i64_w,i32_w];rw [c25b0])|skip)
     have H':=Aside0.mk H
     clear H
     have hnb26:=NB865_859.out
     have hnc26:=NB859_865.out
     have hnb27:=NB865_871.out
     have hnc27:=NB871_865.out
     have hcz28_0 : w18.cell? ⟨gb865,0,none⟩ = some (.int .i64 t860):=(blk_cell BK865.out 0).trans rfl
     have hcz28_1 : w18.cell? ⟨gb865,1,none⟩ = some (.slice Ao15 t861.length co15):=(blk_cell BK865.out 1).trans rfl
     have hfz28_0:=blk_frozen BK865.out 0
     have hfz28_1:=blk_frozen BK865.out 1
     have hnb29:=NB871_859.out
     have hnc29:=NB859_871.out
     have hcz30_0 : w18.cell? ⟨gb871,0,none⟩ = some (.int .i64 0):=(blk_cell BK871.out 0).trans rfl
     have hcz30_1 : w18.cell? ⟨gb871,1,none⟩ = some (.slice none 0 0):=(blk_cell BK871.out 1).trans rfl
     have hfz30_0:=blk_frozen BK871.out 0
     have hfz30_1:=blk_frozen BK871.out 1
     go_wp2_with (first|((with_reducible refine gate_callee (f:=31) rfl ?_);refine goesL_ (some 33) rfl rfl Try.func31 (by kernel_rfl) rfl #[.agg #[.int .i64 t860,.slice Ao15 t861.length co15],.agg #[.int .i64 t866,.slice Ao22 t867.length co22]] rfl (by (try simp only [List.map_toArray,List.map_cons,List.map_nil]);first|done|rfl|(simp only [List.length_drop,List.length_take];rfl)) ?_;(with_reducible refine (laws_daMatrix.calls k t860 _ _ t861 t866 _ _ t867 true _ ?side1 ?side2 ?side3 ?side4 A23.out).mono ?_);(case side1 => refine (Kd.R_reads' (e:=3) (base:=w.heap.size) (ok:=fun k_ => (True ∧ some k_ ≠ (.slice Ao22 t867.length co22 : Value).ownBlock)) (n:=t861.length) (c:=co15) ?_).2.2;exact (by (with_reducible repeat (first|apply Kd.R_alloc|apply Kd.R_drewN|apply Kd.R_drew));exact (Kd.R_mono (Kd.R_far (p:=⟨gb871,1,none⟩) (Kd.R_far (p:=⟨gb871,0,none⟩) (Kd.R_types HO863.out BK871.out (by decide)) (fun _ hk => hk.2) (.int .i64 t866)) (fun _ hk => hk.2) (.slice Ao22 t867.length co22)) (fun _ h_ => h_.1))));(case side2 => exact (Kd.R_reads' HO863.out).2.1);(case side3 => refine (Kd.R_reads' (e:=3) (base:=w.heap.size) (ok:=fun k_ => (True ∧ some k_ ≠ (.slice Ao15 t861.length co15 : Value).ownBlock)) (n:=t867.length) (c:=co22) ?_).2.2;exact (by (with_reducible repeat (first|apply Kd.R_alloc|apply Kd.R_drewN|apply Kd.R_drew));exact (Kd.R_mono (Kd.R_far (p:=⟨gb871,1,none⟩) (Kd.R_far (p:=⟨gb871,0,none⟩) (Kd.R_types HO869.out BK871.out (by decide)) (fun _ hk => hk.2) (.int .i64 t866)) (fun _ hk => hk.2) (.slice Ao22 t867.length co22)) (fun _ h_ => h_.1))));(case side4 => exact (Kd.R_reads' HO869.out).2.1);rintro e w31 ⟨rfl,hb⟩;refine ⟨_,rfl,?_⟩;have n0_:=Aside0.mk (Kd.V_below (by (with_reducible repeat (first|apply Kd.V_alloc|apply Kd.V_drewN|apply Kd.V_drew));exact (Kd.V_mono (Kd.V_far (p:=⟨gb871,1,none⟩) (Kd.V_far (p:=⟨gb871,0,none⟩) (Kd.V_mono HO858.out (fun k_ hk => (⟨hk,hk.2⟩ : _ ∧ k_ ≠ gb871))) (fun _ hk => hk.2) (.int .i64 t866)) (fun _ hk => hk.2) (.slice Ao22 t867.length co22)) (fun _ h_ => h_.1))) hb);have n1_:=Aside0.mk (Kd.R_below (by (with_reducible repeat (first|apply Kd.R_alloc|apply Kd.R_drewN|apply Kd.R_drew));exact (Kd.R_mono (Kd.R_far (p:=⟨gb871,1,none⟩) (Kd.R_far (p:=⟨gb871,0,none⟩) (Kd.R_types HO863.out BK871.out (by decide)) (fun _ hk => hk.2) (.int .i64 t866)) (fun _ hk => hk.2) (.slice Ao22 t867.length co22)) (fun _ h_ => h_.1))) hb);have n2_:=Aside0.mk (Kd.R_below (by (with_reducible repeat (first|apply Kd.R_alloc|apply Kd.R_drewN|apply Kd.R_drew));exact (Kd.R_mono (Kd.R_far (p:=⟨gb871,1,none⟩) (Kd.R_far (p:=⟨gb871,0,none⟩) (Kd.R_types HO869.out BK871.out (by decide)) (fun _ hk => hk.2) (.int .i64 t866)) (fun _ hk => hk.2) (.slice Ao22 t867.length co22)) (fun _ h_ => h_.1))) hb);have n3_:=Aside0.mk (blk_below (g:=gb859) (o:=.cells #[.int .i64 t855,.slice Ao10 t856.length co10] 28 (0,0)) (by (with_reducible repeat (first|refine blk_drewN ?_ _|refine blk_drew ?_|refine blk_alloc ?_ _));refine blk_far ?_ NB859_871.out _;(with_reducible repeat (first|refine blk_drewN ?_ _|refine blk_drew ?_|refine blk_alloc ?_ _));refine blk_far ?_ NB859_871.out _;(with_reducible repeat (first|refine blk_drewN ?_ _|refine blk_drew ?_|refine blk_alloc ?_ _));exact BK859.out) hb);have n4_:=Aside0.mk (blk_below (g:=gb865) (o:=.cells #[.int .i64 t860,.slice Ao15 t861.length co15] 28 (0,0)) (by (with_reducible repeat (first|refine blk_drewN ?_ _|refine blk_drew ?_|refine blk_alloc ?_ _));refine blk_far ?_ NB865_871.out _;(with_reducible repeat (first|refine blk_drewN ?_ _|refine blk_drew ?_|refine blk_alloc ?_ _));refine blk_far ?_ NB865_871.out _;(with_reducible repeat (first|refine blk_drewN ?_ _|refine blk_drew ?_|refine blk_alloc ?_ _));exact BK865.out) hb);have n5_:=Aside0.mk (blk_below (g:=gb871) (o:=.cells #[.int .i64 t866,.slice Ao22 t867.length co22] 28 (0,0)) (by (with_reducible repeat (first|refine blk_drewN ?_ _|refine blk_drew ?_|refine blk_alloc ?_ _));refine blk_put (cs:=#[.int .i64 t866,.slice none 0 0]) ?_ 1 _ rfl;(with_reducible repeat (first|refine blk_drewN ?_ _|refine blk_drew ?_|refine blk_alloc ?_ _));refine blk_put (cs:=#[.int .i64 0,.slice none 0 0]) ?_ 0 _ rfl;(with_reducible repeat (first|refine blk_drewN ?_ _|refine blk_drew ?_|refine blk_alloc ?_ _));exact BK871.out) hb);have n6_:=Aside0.mk (below_step (by repeat (first|(with_reducible first|exact HB.out|apply below_alloc|apply pw_below_drewN|apply below_drew1|refine below_set ?_ GE859.out|refine below_set ?_ GE865.out|refine below_set ?_ GE871.out)|exact HB.out)) hb);clear HO858;clear HO863;clear HO869;clear BK859;clear BK865;clear BK871;clear HB;have HO858:=n0_;have HO863:=n1_;have HO869:=n2_;have BK859:=n3_;have BK865:=n4_;have BK871:=n5_;have HB:=n6_;clear n0_ n1_ n2_ n3_ n4_ n5_ n6_;(try clear hb);(try clear hb2);(try clear hk);(try clear hi)))
     go_meet
     case rel => exact ⟨_,(true),(by first|rfl|(simp;done)|(simp [*];done)),H',⟨by first|omega|exact Nat.le_refl _⟩,⟨by (with_reducible repeat (first|apply Kd.V_alloc|apply Kd.V_drewN|apply Kd.V_drew));exact Kd.V_mono HO858.out (fun _ hk => ⟨hk.1.1.1.2,⟨hk.1.2,⟨hk.1.1.1.1.2,⟨hk.1.1.2,hk.2⟩⟩⟩⟩)⟩,⟨by (with_reducible repeat (first|apply Kd.R_alloc|apply Kd.R_drewN|apply Kd.R_drew));exact Kd.R_mono HO863.out (fun _ hk => (by first|exact hk.2|trivial))⟩,⟨by (with_reducible repeat (first|apply Kd.R_alloc|apply Kd.R_drewN|apply Kd.R_drew));exact Kd.R_mono HO869.out (fun _ hk => (by first|exact hk.2|trivial))⟩,⟨by (with_reducible repeat (first|refine blk_drewN ?_ _|refine blk_drew ?_|refine blk_alloc ?_ _));exact BK859.out⟩,⟨by (with_reducible repeat (first|refine blk_drewN ?_ _|refine blk_drew ?_|refine blk_alloc ?_ _));exact BK865.out⟩,⟨by (with_reducible repeat (first|refine blk_drewN ?_ _|refine blk_drew ?_|refine blk_alloc ?_ _));exact BK871.out⟩,⟨by repeat (first|(with_reducible first|exact HB.out|apply below_alloc|apply pw_below_drewN|apply below_drew1|refine below_set ?_ GE859.out|refine below_set ?_ GE865.out|refine below_set ?_ GE871.out)|exact HB.out)⟩⟩
    ·rw [if_neg c25] at H
     have c25b0 : (t864 != t870) = false:=by simpa using c25
     (try (have c25b1 : decide (t864 = t870) = true:=by simpa using c25))
     (try (have c25b2 : (t864 == t870) = true:=by simpa using c25))
     clear c25
     (first|rw [c25b0]|(simp only [i64_w,i32_w];rw [c25b0])|skip)
     replace H:=Option.bind_eq_some_iff.mp H
     obtain ⟨t873,A320,H⟩:=H
     replace H : (if (t873 != t864) = true then (laws_FnStabilise.j0 k t864 t870 true t855 t856 t860 t861 t866 t867) else (laws_FnStabilise.j0 k t864 t870 (!t864) t855 t856 t860 t861 t866 t867)) = some r:=H
     have A32:=Aside0.mk A320
     clear A320
     by_cases c33 : (t873 != t864) = true
     ·rw [if_pos c33] at H
      have c33b0 : (t873 != t864) = true:=c33
      (try (have c33b1 : decide (t873 = t864) = false:=by simpa using c33))
      (try (have c33b2 : (t873 == t864) = false:=by simpa using c33))
      (try (have c33b3 : ¬ (t873 = t864):=by simpa using c33))
      clear c33
      have H':=Aside0.mk H
      clear H
      have hnb34:=NB865_859.out
      have hnc34:=NB859_865.out
      have hnb35:=NB865_871.out
      have hnc35:=NB871_865.out
      have hcz36_0 : w18.cell? ⟨gb865,0,none⟩ = some (.int .i64 t860):=(blk_cell BK865.out 0).trans rfl
      have hcz36_1 : w18.cell? ⟨gb865,1,none⟩ = some (.slice Ao15 t861.length co15):=(blk_cell BK865.out 1).trans rfl
      have hfz36_0:=blk_frozen BK865.out 0
      have hfz36_1:=blk_frozen BK865.out 1
      have hnb37:=NB871_859.out
      have hnc37:=NB859_871.out
      have hcz38_0 : w18.cell? ⟨gb871,0,none⟩ = some (.int .i64 0):=(blk_cell BK871.out 0).trans rfl
      have hcz38_1 : w18.cell? ⟨gb871,1,none⟩ = some (.slice none 0 0):=(blk_cell BK871.out 1).trans rfl
      have hfz38_0:=blk_frozen BK871.out 0
      have hfz38_1:=blk_frozen BK871.out 1
      go_wp2_with (first|((with_reducible refine gate_callee (f:=31) rfl ?_);refine goesL_ (some 33) rfl rfl Try.func31 (by kernel_rfl) rfl #[.agg #[.int .i64 t860,.slice Ao15 t861.length co15],.agg #[.int .i64 t866,.slice Ao22 t867.length co22]] rfl (by (try simp only [List.map_toArray,List.map_cons,List.map_nil]);first|done|rfl|(simp only [List.length_drop,List.length_take];rfl)) ?_;(with_reducible refine (laws_daMatrix.calls k t860 _ _ t861 t866 _ _ t867 true _ ?side1 ?side2 ?side3 ?side4 A23.out).mono ?_);(case side1 => refine (Kd.R_reads' (e:=3) (base:=w.heap.size) (ok:=fun k_ => (True ∧ some k_ ≠ (.slice Ao22 t867.length co22 : Value).ownBlock)) (n:=t861.length) (c:=co15) ?_).2.2;exact (by (with_reducible repeat (first|apply Kd.R_alloc|apply Kd.R_drewN|apply Kd.R_drew));exact (Kd.R_mono (Kd.R_far (p:=⟨gb871,1,none⟩) (Kd.R_far (p:=⟨gb871,0,none⟩) (Kd.R_types HO863.out BK871.out (by decide)) (fun _ hk => hk.2) (.int .i64 t866)) (fun _ hk => hk.2) (.slice Ao22 t867.length co22)) (fun _ h_ => h_.1))));(case side2 => exact (Kd.R_reads' HO863.out).2.1);(case side3 => refine (Kd.R_reads' (e:=3) (base:=w.heap.size) (ok:=fun k_ => (True ∧ some k_ ≠ (.slice Ao15 t861.length co15 : Value).ownBlock)) (n:=t867.length) (c:=co22) ?_).2.2;exact (by (with_reducible repeat (first|apply Kd.R_alloc|apply Kd.R_drewN|apply Kd.R_drew));exact (Kd.R_mono (Kd.R_far (p:=⟨gb871,1,none⟩) (Kd.R_far (p:=⟨gb871,0,none⟩) (Kd.R_types HO869.out BK871.out (by decide)) (fun _ hk => hk.2) (.int .i64 t866)) (fun _ hk => hk.2) (.slice Ao22 t867.length co22)) (fun _ h_ => h_.1))));(case side4 => exact (Kd.R_reads' HO869.out).2.1);rintro e w39 ⟨rfl,hb⟩;refine ⟨_,rfl,?_⟩;have n0_:=Aside0.mk (Kd.V_below (by (with_reducible repeat (first|apply Kd.V_alloc|apply Kd.V_drewN|apply Kd.V_drew));exact (Kd.V_mono (Kd.V_far (p:=⟨gb871,1,none⟩) (Kd.V_far (p:=⟨gb871,0,none⟩) (Kd.V_mono HO858.out (fun k_ hk => (⟨hk,hk.2⟩ : _ ∧ k_ ≠ gb871))) (fun _ hk => hk.2) (.int .i64 t866)) (fun _ hk => hk.2) (.slice Ao22 t867.length co22)) (fun _ h_ => h_.1))) hb);have n1_:=Aside0.mk (Kd.R_below (by (with_reducible repeat (first|apply Kd.R_alloc|apply Kd.R_drewN|apply Kd.R_drew));exact (Kd.R_mono (Kd.R_far (p:=⟨gb871,1,none⟩) (Kd.R_far (p:=⟨gb871,0,none⟩) (Kd.R_types HO863.out BK871.out (by decide)) (fun _ hk => hk.2) (.int .i64 t866)) (fun _ hk => hk.2) (.slice Ao22 t867.length co22)) (fun _ h_ => h_.1))) hb);have n2_:=Aside0.mk (Kd.R_below (by (with_reducible repeat (first|apply Kd.R_alloc|apply Kd.R_drewN|apply Kd.R_drew));exact (Kd.R_mono (Kd.R_far (p:=⟨gb871,1,none⟩) (Kd.R_far (p:=⟨gb871,0,none⟩) (Kd.R_types HO869.out BK871.out (by decide)) (fun _ hk => hk.2) (.int .i64 t866)) (fun _ hk => hk.2) (.slice Ao22 t867.length co22)) (fun _ h_ => h_.1))) hb);have n3_:=Aside0.mk (blk_below (g:=gb859) (o:=.cells #[.int .i64 t855,.slice Ao10 t856.length co10] 28 (0,0)) (by (with_reducible repeat (first|refine blk_drewN ?_ _|refine blk_drew ?_|refine blk_alloc ?_ _));refine blk_far ?_ NB859_871.out _;(with_reducible repeat (first|refine blk_drewN ?_ _|refine blk_drew ?_|refine blk_alloc ?_ _));refine blk_far ?_ NB859_871.out _;(with_reducible repeat (first|refine blk_drewN ?_ _|refine blk_drew ?_|refine blk_alloc ?_ _));exact BK859.out) hb);have n4_:=Aside0.mk (blk_below (g:=gb865) (o:=.cells #[.int .i64 t860,.slice Ao15 t861.length co15] 28 (0,0)) (by (with_reducible repeat (first|refine blk_drewN ?_ _|refine blk_drew ?_|refine blk_alloc ?_ _));refine blk_far ?_ NB865_871.out _;(with_reducible repeat (first|refine blk_drewN ?_ _|refine blk_drew ?_|refine blk_alloc ?_ _));refine blk_far ?_ NB865_871.out _;(with_reducible repeat (first|refine blk_drewN ?_ _|refine blk_drew ?_|refine blk_alloc ?_ _));exact BK865.out) hb);have n5_:=Aside0.mk (blk_below (g:=gb871) (o:=.cells #[.int .i64 t866,.slice Ao22 t867.length co22] 28 (0,0)) (by (with_reducible repeat (first|refine blk_drewN ?_ _|refine blk_drew ?_|refine blk_alloc ?_ _));refine blk_put (cs:=#[.int .i64 t866,.slice none 0 0]) ?_ 1 _ rfl;(with_reducible repeat (first|refine blk_drewN ?_ _|refine blk_drew ?_|refine blk_alloc ?_ _));refine blk_put (cs:=#[.int .i64 0,.slice none 0 0]) ?_ 0 _ rfl;(with_reducible repeat (first|refine blk_drewN ?_ _|refine blk_drew ?_|refine blk_alloc ?_ _));exact BK871.out) hb);have n6_:=Aside0.mk (below_step (by repeat (first|(with_reducible first|exact HB.out|apply below_alloc|apply pw_below_drewN|apply below_drew1|refine below_set ?_ GE859.out|refine below_set ?_ GE865.out|refine below_set ?_ GE871.out)|exact HB.out)) hb);clear HO858;clear HO863;clear HO869;clear BK859;clear BK865;clear BK871;clear HB;have HO858:=n0_;have HO863:=n1_;have HO869:=n2_;have BK859:=n3_;have BK865:=n4_;have BK871:=n5_;have HB:=n6_;clear n0_ n1_ n2_ n3_ n4_ n5_ n6_;(try clear hb);(try clear hb2);(try clear hk);(try clear hi);have hcz40_0 : w39.cell? ⟨gb859,0,none⟩ = some (.int .i64 t855):=(blk_cell BK859.out 0).trans rfl;have hcz40_1 : w39.cell? ⟨gb859,1,none⟩ = some (.slice Ao10 t856.length co10):=(blk_cell BK859.out 1).trans rfl;have hfz40_0:=blk_frozen BK859.out 0;have hfz40_1:=blk_frozen BK859.out 1)|(go_at_call 25;(with_reducible refine (impl_IsIdempotent.calls k t855 _ _ t856 t873 _ ?side1 ?side2 A32.out).mono ?_);(case side1 => repeat (first|exact (Kd.V_reads' HO858.out).2.2|(with_reducible refine Kd.C_alloc ?_ _)|(with_reducible refine Kd.C_drewN ?_ _)|(with_reducible refine Kd.C_drew ?_)));(case side2 => exact (Kd.V_reads' HO858.out).2.1);rintro e w41 ⟨rfl,hb⟩;have n0_:=Aside0.mk (Kd.V_below (by (with_reducible repeat (first|apply Kd.V_alloc|apply Kd.V_drewN|apply Kd.V_drew));exact HO858.out) hb);have n1_:=Aside0.mk (Kd.R_below (by (with_reducible repeat (first|apply Kd.R_alloc|apply Kd.R_drewN|apply Kd.R_drew));exact HO863.out) hb);have n2_:=Aside0.mk (Kd.R_below (by (with_reducible repeat (first|apply Kd.R_alloc|apply Kd.R_drewN|apply Kd.R_drew));exact HO869.out) hb);have n3_:=Aside0.mk (blk_below (g:=gb859) (o:=.cells #[.int .i64 t855,.slice Ao10 t856.length co10] 28 (0,0)) (by (with_reducible repeat (first|refine blk_drewN ?_ _|refine blk_drew ?_|refine blk_alloc ?_ _));exact BK859.out) hb);have n4_:=Aside0.mk (blk_below (g:=gb865) (o:=.cells #[.int .i64 t860,.slice Ao15 t861.length co15] 28 (0,0)) (by (with_reducible repeat (first|refine blk_drewN ?_ _|refine blk_drew ?_|refine blk_alloc ?_ _));exact BK865.out) hb);have n5_:=Aside0.mk (blk_below (g:=gb871) (o:=.cells #[.int .i64 t866,.slice Ao22 t867.length co22] 28 (0,0)) (by (with_reducible repeat (first|refine blk_drewN ?_ _|refine blk_drew ?_|refine blk_alloc ?_ _));exact BK871.out) hb);have n6_:=Aside0.mk (below_step (by repeat (first|(with_reducible first|exact HB.out|apply below_alloc|apply pw_below_drewN|apply below_drew1|refine below_set ?_ GE859.out|refine below_set ?_ GE865.out|refine below_set ?_ GE871.out)|exact HB.out)) hb);clear HO858;clear HO863;clear HO869;clear BK859;clear BK865;clear BK871;clear HB;have HO858:=n0_;have HO863:=n1_;have HO869:=n2_;have BK859:=n3_;have BK865:=n4_;have BK871:=n5_;have HB:=n6_;clear n0_ n1_ n2_ n3_ n4_ n5_ n6_;(try clear hb);(try clear hb2);(try clear hk);(try clear hi)))
      go_meet
      case rel => exact ⟨_,(true),(by first|rfl|(simp;done)|(simp [*];done)),H',⟨by first|omega|exact Nat.le_refl _⟩,⟨by (with_reducible repeat (first|apply Kd.V_alloc|apply Kd.V_drewN|apply Kd.V_drew));exact Kd.V_mono HO858.out (fun _ hk => ⟨hk.1.1.1.2,⟨hk.1.2,⟨hk.1.1.1.1.2,⟨hk.1.1.2,hk.2⟩⟩⟩⟩)⟩,⟨by (with_reducible repeat (first|apply Kd.R_alloc|apply Kd.R_drewN|apply Kd.R_drew));exact Kd.R_mono HO863.out (fun _ hk => (by first|exact hk.2|trivial))⟩,⟨by (with_reducible repeat (first|apply Kd.R_alloc|apply Kd.R_drewN|apply Kd.R_drew));exact Kd.R_mono HO869.out (fun _ hk => (by first|exact hk.2|trivial))⟩,⟨by (with_reducible repeat (first|refine blk_drewN ?_ _|refine blk_drew ?_|refine blk_alloc ?_ _));exact BK859.out⟩,⟨by (with_reducible repeat (first|refine blk_drewN ?_ _|refine blk_drew ?_|refine blk_alloc ?_ _));exact BK865.out⟩,⟨by (with_reducible repeat (first|refine blk_drewN ?_ _|refine blk_drew ?_|refine blk_alloc ?_ _));exact BK871.out⟩,⟨by repeat (first|(with_reducible first|exact HB.out|apply below_alloc|apply pw_below_drewN|apply below_drew1|refine below_set ?_ GE859.out|refine below_set ?_ GE865.out|refine below_set ?_ GE871.out)|exact HB.out)⟩⟩
     ·rw [if_neg c33] at H
      have c33b0 : (t873 != t864) = false:=by simpa using c33
      (try (have c33b1 : decide (t873 = t864) = true:=by simpa using c33))
      (try (have c33b2 : (t873 == t864) = true:=by simpa using c33))
      clear c33
      have H':=Aside0.mk H
      clear H
      have hnb42:=NB865_859.out
      have hnc42:=NB859_865.out
      have hnb43:=NB865_871.out
      have hnc43:=NB871_865.out
      have hcz44_0 : w18.cell? ⟨gb865,0,none⟩ = some (.int .i64 t860):=(blk_cell BK865.out 0).trans rfl
      have hcz44_1 : w18.cell? ⟨gb865,1,none⟩ = some (.slice Ao15 t861.length co15):=(blk_cell BK865.out 1).trans rfl
      have hfz44_0:=blk_frozen BK865.out 0
      have hfz44_1:=blk_frozen BK865.out 1
      have hnb45:=NB871_859.out
      have hnc45:=NB859_871.out
      have hcz46_0 : w18.cell? ⟨gb871,0,none⟩ = some (.int .i64 0):=(blk_cell BK871.out 0).trans rfl
      have hcz46_1 : w18.cell? ⟨gb871,1,none⟩ = some (.slice none 0 0):=(blk_cell BK871.out 1).trans rfl
      have hfz46_0:=blk_frozen BK871.out 0
      have hfz46_1:=blk_frozen BK871.out 1
      go_wp2_with (first|((with_reducible refine gate_callee (f:=31) rfl ?_);refine goesL_ (some 33) rfl rfl Try.func31 (by kernel_rfl) rfl #[.agg #[.int .i64 t860,.slice Ao15 t861.length co15],.agg #[.int .i64 t866,.slice Ao22 t867.length co22]] rfl (by (try simp only [List.map_toArray,List.map_cons,List.map_nil]);first|done|rfl|(simp only [List.length_drop,List.length_take];rfl)) ?_;(with_reducible refine (laws_daMatrix.calls k t860 _ _ t861 t866 _ _ t867 true _ ?side1 ?side2 ?side3 ?side4 A23.out).mono ?_);(case side1 => refine (Kd.R_reads' (e:=3) (base:=w.heap.size) (ok:=fun k_ => (True ∧ some k_ ≠ (.slice Ao22 t867.length co22 : Value).ownBlock)) (n:=t861.length) (c:=co15) ?_).2.2;exact (by (with_reducible repeat (first|apply Kd.R_alloc|apply Kd.R_drewN|apply Kd.R_drew));exact (Kd.R_mono (Kd.R_far (p:=⟨gb871,1,none⟩) (Kd.R_far (p:=⟨gb871,0,none⟩) (Kd.R_types HO863.out BK871.out (by decide)) (fun _ hk => hk.2) (.int .i64 t866)) (fun _ hk => hk.2) (.slice Ao22 t867.length co22)) (fun _ h_ => h_.1))));(case side2 => exact (Kd.R_reads' HO863.out).2.1);(case side3 => refine (Kd.R_reads' (e:=3) (base:=w.heap.size) (ok:=fun k_ => (True ∧ some k_ ≠ (.slice Ao15 t861.length co15 : Value).ownBlock)) (n:=t867.length) (c:=co22) ?_).2.2;exact (by (with_reducible repeat (first|apply Kd.R_alloc|apply Kd.R_drewN|apply Kd.R_drew));exact (Kd.R_mono (Kd.R_far (p:=⟨gb871,1,none⟩) (Kd.R_far (p:=⟨gb871,0,none⟩) (Kd.R_types HO869.out BK871.out (by decide)) (fun _ hk => hk.2) (.int .i64 t866)) (fun _ hk => hk.2) (.slice Ao22 t867.length co22)) (fun _ h_ => h_.1))));(case side4 => exact (Kd.R_reads' HO869.out).2.1);rintro e w47 ⟨rfl,hb⟩;refine ⟨_,rfl,?_⟩;have n0_:=Aside0.mk (Kd.V_below (by (with_reducible repeat (first|apply Kd.V_alloc|apply Kd.V_drewN|apply Kd.V_drew));exact (Kd.V_mono (Kd.V_far (p:=⟨gb871,1,none⟩) (Kd.V_far (p:=⟨gb871,0,none⟩) (Kd.V_mono HO858.out (fun k_ hk => (⟨hk,hk.2⟩ : _ ∧ k_ ≠ gb871))) (fun _ hk => hk.2) (.int .i64 t866)) (fun _ hk => hk.2) (.slice Ao22 t867.length co22)) (fun _ h_ => h_.1))) hb);have n1_:=Aside0.mk (Kd.R_below (by (with_reducible repeat (first|apply Kd.R_alloc|apply Kd.R_drewN|apply Kd.R_drew));exact (Kd.R_mono (Kd.R_far (p:=⟨gb871,1,none⟩) (Kd.R_far (p:=⟨gb871,0,none⟩) (Kd.R_types HO863.out BK871.out (by decide)) (fun _ hk => hk.2) (.int .i64 t866)) (fun _ hk => hk.2) (.slice Ao22 t867.length co22)) (fun _ h_ => h_.1))) hb);have n2_:=Aside0.mk (Kd.R_below (by (with_reducible repeat (first|apply Kd.R_alloc|apply Kd.R_drewN|apply Kd.R_drew));exact (Kd.R_mono (Kd.R_far (p:=⟨gb871,1,none⟩) (Kd.R_far (p:=⟨gb871,0,none⟩) (Kd.R_types HO869.out BK871.out (by decide)) (fun _ hk => hk.2) (.int .i64 t866)) (fun _ hk => hk.2) (.slice Ao22 t867.length co22)) (fun _ h_ => h_.1))) hb);have n3_:=Aside0.mk (blk_below (g:=gb859) (o:=.cells #[.int .i64 t855,.slice Ao10 t856.length co10] 28 (0,0)) (by (with_reducible repeat (first|refine blk_drewN ?_ _|refine blk_drew ?_|refine blk_alloc ?_ _));refine blk_far ?_ NB859_871.out _;(with_reducible repeat (first|refine blk_drewN ?_ _|refine blk_drew ?_|refine blk_alloc ?_ _));refine blk_far ?_ NB859_871.out _;(with_reducible repeat (first|refine blk_drewN ?_ _|refine blk_drew ?_|refine blk_alloc ?_ _));exact BK859.out) hb);have n4_:=Aside0.mk (blk_below (g:=gb865) (o:=.cells #[.int .i64 t860,.slice Ao15 t861.length co15] 28 (0,0)) (by (with_reducible repeat (first|refine blk_drewN ?_ _|refine blk_drew ?_|refine blk_alloc ?_ _));refine blk_far ?_ NB865_871.out _;(with_reducible repeat (first|refine blk_drewN ?_ _|refine blk_drew ?_|refine blk_alloc ?_ _));refine blk_far ?_ NB865_871.out _;(with_reducible repeat (first|refine blk_drewN ?_ _|refine blk_drew ?_|refine blk_alloc ?_ _));exact BK865.out) hb);have n5_:=Aside0.mk (blk_below (g:=gb871) (o:=.cells #[.int .i64 t866,.slice Ao22 t867.length co22] 28 (0,0)) (by (with_reducible repeat (first|refine blk_drewN ?_ _|refine blk_drew ?_|refine blk_alloc ?_ _));refine blk_put (cs:=#[.int .i64 t866,.slice none 0 0]) ?_ 1 _ rfl;(with_reducible repeat (first|refine blk_drewN ?_ _|refine blk_drew ?_|refine blk_alloc ?_ _));refine blk_put (cs:=#[.int .i64 0,.slice none 0 0]) ?_ 0 _ rfl;(with_reducible repeat (first|refine blk_drewN ?_ _|refine blk_drew ?_|refine blk_alloc ?_ _));exact BK871.out) hb);have n6_:=Aside0.mk (below_step (by repeat (first|(with_reducible first|exact HB.out|apply below_alloc|apply pw_below_drewN|apply below_drew1|refine below_set ?_ GE859.out|refine below_set ?_ GE865.out|refine below_set ?_ GE871.out)|exact HB.out)) hb);clear HO858;clear HO863;clear HO869;clear BK859;clear BK865;clear BK871;clear HB;have HO858:=n0_;have HO863:=n1_;have HO869:=n2_;have BK859:=n3_;have BK865:=n4_;have BK871:=n5_;have HB:=n6_;clear n0_ n1_ n2_ n3_ n4_ n5_ n6_;(try clear hb);(try clear hb2);(try clear hk);(try clear hi);have hcz48_0 : w47.cell? ⟨gb859,0,none⟩ = some (.int .i64 t855):=(blk_cell BK859.out 0).trans rfl;have hcz48_1 : w47.cell? ⟨gb859,1,none⟩ = some (.slice Ao10 t856.length co10):=(blk_cell BK859.out 1).trans rfl;have hfz48_0:=blk_frozen BK859.out 0;have hfz48_1:=blk_frozen BK859.out 1)|(go_at_call 25;(with_reducible refine (impl_IsIdempotent.calls k t855 _ _ t856 t873 _ ?side1 ?side2 A32.out).mono ?_);(case side1 => repeat (first|exact (Kd.V_reads' HO858.out).2.2|(with_reducible refine Kd.C_alloc ?_ _)|(with_reducible refine Kd.C_drewN ?_ _)|(with_reducible refine Kd.C_drew ?_)));(case side2 => exact (Kd.V_reads' HO858.out).2.1);rintro e w49 ⟨rfl,hb⟩;have n0_:=Aside0.mk (Kd.V_below (by (with_reducible repeat (first|apply Kd.V_alloc|apply Kd.V_drewN|apply Kd.V_drew));exact HO858.out) hb);have n1_:=Aside0.mk (Kd.R_below (by (with_reducible repeat (first|apply Kd.R_alloc|apply Kd.R_drewN|apply Kd.R_drew));exact HO863.out) hb);have n2_:=Aside0.mk (Kd.R_below (by (with_reducible repeat (first|apply Kd.R_alloc|apply Kd.R_drewN|apply Kd.R_drew));exact HO869.out) hb);have n3_:=Aside0.mk (blk_below (g:=gb859) (o:=.cells #[.int .i64 t855,.slice Ao10 t856.length co10] 28 (0,0)) (by (with_reducible repeat (first|refine blk_drewN ?_ _|refine blk_drew ?_|refine blk_alloc ?_ _));exact BK859.out) hb);have n4_:=Aside0.mk (blk_below (g:=gb865) (o:=.cells #[.int .i64 t860,.slice Ao15 t861.length co15] 28 (0,0)) (by (with_reducible repeat (first|refine blk_drewN ?_ _|refine blk_drew ?_|refine blk_alloc ?_ _));exact BK865.out) hb);have n5_:=Aside0.mk (blk_below (g:=gb871) (o:=.cells #[.int .i64 t866,.slice Ao22 t867.length co22] 28 (0,0)) (by (with_reducible repeat (first|refine blk_drewN ?_ _|refine blk_drew ?_|refine blk_alloc ?_ _));exact BK871.out) hb);have n6_:=Aside0.mk (below_step (by repeat (first|(with_reducible first|exact HB.out|apply below_alloc|apply pw_below_drewN|apply below_drew1|refine below_set ?_ GE859.out|refine below_set ?_ GE865.out|refine below_set ?_ GE871.out)|exact HB.out)) hb);clear HO858;clear HO863;clear HO869;clear BK859;clear BK865;clear BK871;clear HB;have HO858:=n0_;have HO863:=n1_;have HO869:=n2_;have BK859:=n3_;have BK865:=n4_;have BK871:=n5_;have HB:=n6_;clear n0_ n1_ n2_ n3_ n4_ n5_ n6_;(try clear hb);(try clear hb2);(try clear hk);(try clear hi)))
      go_meet
      case rel => exact ⟨_,(!t864),(by first|rfl|(simp;done)|(simp [*];done)),H',⟨by first|omega|exact Nat.le_refl _⟩,⟨by (with_reducible repeat (first|apply Kd.V_alloc|apply Kd.V_drewN|apply Kd.V_drew));exact Kd.V_mono HO858.out (fun _ hk => ⟨hk.1.1.1.2,⟨hk.1.2,⟨hk.1.1.1.1.2,⟨hk.1.1.2,hk.2⟩⟩⟩⟩)⟩,⟨by (with_reducible repeat (first|apply Kd.R_alloc|apply Kd.R_drewN|apply Kd.R_drew));exact Kd.R_mono HO863.out (fun _ hk => (by first|exact hk.2|trivial))⟩,⟨by (with_reducible repeat (first|apply Kd.R_alloc|apply Kd.R_drewN|apply Kd.R_drew));exact Kd.R_mono HO869.out (fun _ hk => (by first|exact hk.2|trivial))⟩,⟨by (with_reducible repeat (first|refine blk_drewN ?_ _|refine blk_drew ?_|refine blk_alloc ?_ _));exact BK859.out⟩,⟨by (with_reducible repeat (first|refine blk_drewN ?_ _|refine blk_drew ?_|refine blk_alloc ?_ _));exact BK865.out⟩,⟨by (with_reducible repeat (first|refine blk_drewN ?_ _|refine blk_drew ?_|refine blk_alloc ?_ _));exact BK871.out⟩,⟨by repeat (first|(with_reducible first|exact HB.out|apply below_alloc|apply pw_below_drewN|apply below_drew1|refine below_set ?_ GE859.out|refine below_set ?_ GE865.out|refine below_set ?_ GE871.out)|exact HB.out)⟩⟩
   ·replace c24:=Bool.eq_false_iff.mpr c24
    subst c24
    have H1 : (laws_FnStabilise.j0 k t864 t870 true t855 t856 t860 t861 t866 t867) = some r:=by rw [if_neg (show ¬ (false = true) by decide)] at H;exact H
    clear H
    have H:=H1
    clear H1
    have H':=Aside0.mk H
    clear H
    have hnb50:=NB865_859.out
    have hnc50:=NB859_865.out
    have hnb51:=NB865_871.out
    have hnc51:=NB871_865.out
    have hcz52_0 : w18.cell? ⟨gb865,0,none⟩ = some (.int .i64 t860):=(blk_cell BK865.out 0).trans rfl
    have hcz52_1 : w18.cell? ⟨gb865,1,none⟩ = some (.slice Ao15 t861.length co15):=(blk_cell BK865.out 1).trans rfl
    have hfz52_0:=blk_frozen BK865.out 0
    have hfz52_1:=blk_frozen BK865.out 1
    have hnb53:=NB871_859.out
    have hnc53:=NB859_871.out
    have hcz54_0 : w18.cell? ⟨gb871,0,none⟩ = some (.int .i64 0):=(blk_cell BK871.out 0).trans rfl
    have hcz54_1 : w18.cell? ⟨gb871,1,none⟩ = some (.slice none 0 0):=(blk_cell BK871.out 1).trans rfl
    have hfz54_0:=blk_frozen BK871.out 0
    have hfz54_1:=blk_frozen BK871.out 1
    go_wp2_with (first|((with_reducible refine gate_callee (f:=31) rfl ?_);refine goesL_ (some 33) rfl rfl Try.func31 (by kernel_rfl) rfl #[.agg #[.int .i64 t860,.slice Ao15 t861.length co15],.agg #[.int .i64 t866,.slice Ao22 t867.length co22]] rfl (by (try simp only [List.map_toArray,List.map_cons,List.map_nil]);first|done|rfl|(simp only [List.length_drop,List.length_take];rfl)) ?_;(with_reducible refine (laws_daMatrix.calls k t860 _ _ t861 t866 _ _ t867 false _ ?side1 ?side2 ?side3 ?side4 A23.out).mono ?_);(case side1 => refine (Kd.R_reads' (e:=3) (base:=w.heap.size) (ok:=fun k_ => (True ∧ some k_ ≠ (.slice Ao22 t867.length co22 : Value).ownBlock)) (n:=t861.length) (c:=co15) ?_).2.2;exact (by (with_reducible repeat (first|apply Kd.R_alloc|apply Kd.R_drewN|apply Kd.R_drew));exact (Kd.R_mono (Kd.R_far (p:=⟨gb871,1,none⟩) (Kd.R_far (p:=⟨gb871,0,none⟩) (Kd.R_types HO863.out BK871.out (by decide)) (fun _ hk => hk.2) (.int .i64 t866)) (fun _ hk => hk.2) (.slice Ao22 t867.length co22)) (fun _ h_ => h_.1))));(case side2 => exact (Kd.R_reads' HO863.out).2.1);(case side3 => refine (Kd.R_reads' (e:=3) (base:=w.heap.size) (ok:=fun k_ => (True ∧ some k_ ≠ (.slice Ao15 t861.length co15 : Value).ownBlock)) (n:=t867.length) (c:=co22) ?_).2.2;exact (by (with_reducible repeat (first|apply Kd.R_alloc|apply Kd.R_drewN|apply Kd.R_drew));exact (Kd.R_mono (Kd.R_far (p:=⟨gb871,1,none⟩) (Kd.R_far (p:=⟨gb871,0,none⟩) (Kd.R_types HO869.out BK871.out (by decide)) (fun _ hk => hk.2) (.int .i64 t866)) (fun _ hk => hk.2) (.slice Ao22 t867.length co22)) (fun _ h_ => h_.1))));(case side4 => exact (Kd.R_reads' HO869.out).2.1);rintro e w55 ⟨rfl,hb⟩;refine ⟨_,rfl,?_⟩;have n0_:=Aside0.mk (Kd.V_below (by (with_reducible repeat (first|apply Kd.V_alloc|apply Kd.V_drewN|apply Kd.V_drew));exact (Kd.V_mono (Kd.V_far (p:=⟨gb871,1,none⟩) (Kd.V_far (p:=⟨gb871,0,none⟩) (Kd.V_mono HO858.out (fun k_ hk => (⟨hk,hk.2⟩ : _ ∧ k_ ≠ gb871))) (fun _ hk => hk.2) (.int .i64 t866)) (fun _ hk => hk.2) (.slice Ao22 t867.length co22)) (fun _ h_ => h_.1))) hb);have n1_:=Aside0.mk (Kd.R_below (by (with_reducible repeat (first|apply Kd.R_alloc|apply Kd.R_drewN|apply Kd.R_drew));exact (Kd.R_mono (Kd.R_far (p:=⟨gb871,1,none⟩) (Kd.R_far (p:=⟨gb871,0,none⟩) (Kd.R_types HO863.out BK871.out (by decide)) (fun _ hk => hk.2) (.int .i64 t866)) (fun _ hk => hk.2) (.slice Ao22 t867.length co22)) (fun _ h_ => h_.1))) hb);have n2_:=Aside0.mk (Kd.R_below (by (with_reducible repeat (first|apply Kd.R_alloc|apply Kd.R_drewN|apply Kd.R_drew));exact (Kd.R_mono (Kd.R_far (p:=⟨gb871,1,none⟩) (Kd.R_far (p:=⟨gb871,0,none⟩) (Kd.R_types HO869.out BK871.out (by decide)) (fun _ hk => hk.2) (.int .i64 t866)) (fun _ hk => hk.2) (.slice Ao22 t867.length co22)) (fun _ h_ => h_.1))) hb);have n3_:=Aside0.mk (blk_below (g:=gb859) (o:=.cells #[.int .i64 t855,.slice Ao10 t856.length co10] 28 (0,0)) (by (with_reducible repeat (first|refine blk_drewN ?_ _|refine blk_drew ?_|refine blk_alloc ?_ _));refine blk_far ?_ NB859_871.out _;(with_reducible repeat (first|refine blk_drewN ?_ _|refine blk_drew ?_|refine blk_alloc ?_ _));refine blk_far ?_ NB859_871.out _;(with_reducible repeat (first|refine blk_drewN ?_ _|refine blk_drew ?_|refine blk_alloc ?_ _));exact BK859.out) hb);have n4_:=Aside0.mk (blk_below (g:=gb865) (o:=.cells #[.int .i64 t860,.slice Ao15 t861.length co15] 28 (0,0)) (by (with_reducible repeat (first|refine blk_drewN ?_ _|refine blk_drew ?_|refine blk_alloc ?_ _));refine blk_far ?_ NB865_871.out _;(with_reducible repeat (first|refine blk_drewN ?_ _|refine blk_drew ?_|refine blk_alloc ?_ _));refine blk_far ?_ NB865_871.out _;(with_reducible repeat (first|refine blk_drewN ?_ _|refine blk_drew ?_|refine blk_alloc ?_ _));exact BK865.out) hb);have n5_:=Aside0.mk (blk_below (g:=gb871) (o:=.cells #[.int .i64 t866,.slice Ao22 t867.length co22] 28 (0,0)) (by (with_reducible repeat (first|refine blk_drewN ?_ _|refine blk_drew ?_|refine blk_alloc ?_ _));refine blk_put (cs:=#[.int .i64 t866,.slice none 0 0]) ?_ 1 _ rfl;(with_reducible repeat (first|refine blk_drewN ?_ _|refine blk_drew ?_|refine blk_alloc ?_ _));refine blk_put (cs:=#[.int .i64 0,.slice none 0 0]) ?_ 0 _ rfl;(with_reducible repeat (first|refine blk_drewN ?_ _|refine blk_drew ?_|refine blk_alloc ?_ _));exact BK871.out) hb);have n6_:=Aside0.mk (below_step (by repeat (first|(with_reducible first|exact HB.out|apply below_alloc|apply pw_below_drewN|apply below_drew1|refine below_set ?_ GE859.out|refine below_set ?_ GE865.out|refine below_set ?_ GE871.out)|exact HB.out)) hb);clear HO858;clear HO863;clear HO869;clear BK859;clear BK865;clear BK871;clear HB;have HO858:=n0_;have HO863:=n1_;have HO869:=n2_;have BK859:=n3_;have BK865:=n4_;have BK871:=n5_;have HB:=n6_;clear n0_ n1_ n2_ n3_ n4_ n5_ n6_;(try clear hb);(try clear hb2);(try clear hk);(try clear hi)))
    go_meet
    case rel => exact ⟨_,(true),(by first|rfl|(simp;done)|(simp [*];done)),H',⟨by first|omega|exact Nat.le_refl _⟩,⟨by (with_reducible repeat (first|apply Kd.V_alloc|apply Kd.V_drewN|apply Kd.V_drew));exact Kd.V_mono HO858.out (fun _ hk => ⟨hk.1.1.1.2,⟨hk.1.2,⟨hk.1.1.1.1.2,⟨hk.1.1.2,hk.2⟩⟩⟩⟩)⟩,⟨by (with_reducible repeat (first|apply Kd.R_alloc|apply Kd.R_drewN|apply Kd.R_drew));exact Kd.R_mono HO863.out (fun _ hk => (by first|exact hk.2|trivial))⟩,⟨by (with_reducible repeat (first|apply Kd.R_alloc|apply Kd.R_drewN|apply Kd.R_drew));exact Kd.R_mono HO869.out (fun _ hk => (by first|exact hk.2|trivial))⟩,⟨by (with_reducible repeat (first|refine blk_drewN ?_ _|refine blk_drew ?_|refine blk_alloc ?_ _));exact BK859.out⟩,⟨by (with_reducible repeat (first|refine blk_drewN ?_ _|refine blk_drew ?_|refine blk_alloc ?_ _));exact BK865.out⟩,⟨by (with_reducible repeat (first|refine blk_drewN ?_ _|refine blk_drew ?_|refine blk_alloc ?_ _));exact BK871.out⟩,⟨by repeat (first|(with_reducible first|exact HB.out|apply below_alloc|apply pw_below_drewN|apply below_drew1|refine below_set ?_ GE859.out|refine below_set ?_ GE865.out|refine below_set ?_ GE871.out)|exact HB.out)⟩⟩
  case rest =>
   clear HC6
   try clear c1
   try clear c2
   try clear c2b0
   try clear c2b1
   try clear p2
   try clear c3
   try clear c4
   try clear c5
   try clear c12
   try clear c13
   try clear c19
   try clear c20
   try clear c24
   try clear c25
   try clear c25b0
   try clear c25b1
   try clear c25b2
   try clear c26
   try clear c27
   try clear c29
   try clear c31
   try clear c33
   try clear c33b0
   try clear c33b1
   try clear c33b2
   try clear c34
   try clear c35
   try clear c37
   try clear c38
   try clear c39
   try clear c40
   try clear c42
   try clear c43
   try clear c45
   try clear c50
   try clear c51
   try clear c53
   try clear hcz14_0
   try clear hcz14_1
   try clear hcz16_0
   try clear hcz16_1
   try clear hcz21_0
   try clear hcz21_1
   try clear hcz28_0
   try clear hcz28_1
   try clear hcz30_0
   try clear hcz30_1
   try clear hcz36_0
   try clear hcz36_1
   try clear hcz38_0
   try clear hcz38_1
   try clear hcz40_0
   try clear hcz40_1
   try clear hcz44_0
   try clear hcz44_1
   try clear hcz46_0
   try clear hcz46_1
   try clear hcz48_0
   try clear hcz48_1
   try clear hcz52_0
   try clear hcz52_1
   try clear hcz54_0
   try clear hcz54_1
   try clear hcz9_0
   try clear hcz9_1
   try clear hfz14_0
   try clear hfz14_1
   try clear hfz16_0
   try clear hfz16_1
   try clear hfz21_0
   try clear hfz21_1
   try clear hfz28_0
   try clear hfz28_1
   try clear hfz30_0
   try clear hfz30_1
   try clear hfz36_0
   try clear hfz36_1
   try clear hfz38_0
   try clear hfz38_1
   try clear hfz40_0
   try clear hfz40_1
   try clear hfz44_0
   try clear hfz44_1
   try clear hfz46_0
   try clear hfz46_1
   try clear hfz48_0
   try clear hfz48_1
   try clear hfz52_0
   try clear hfz52_1
   try clear hfz54_0
   try clear hfz54_1
   try clear hfz9_0
   try clear hfz9_1
   obtain ⟨kq,x49_5,rfl,HA,HJ5,HO_860001,HO_866001,HO_872001,BK859,BK865,BK871,HB⟩:=hcut
   cases kq with
   | zero => exact absurd HA.out (by simp [laws_FnStabilise.j0])
   | succ kj5 =>
    have H:=HA.out
    clear HA
    simp only [laws_FnStabilise.j0] at H
    by_cases c56 : x49_5 = true
    ·subst c56
     have H1 : ((laws_daMatrix.f kj5 t860 t861 t866 t867).bind fun t874 => (if t874 = true then (if (t864 == t870) = true then ((impl_IsIdempotent.f kj5 t855 t856).bind fun t875 => (some (t875 == t864))) else (some false)) else (some false))) = some r:=by rw [if_pos rfl] at H;exact H
     clear H
     have H:=H1
     clear H1
     replace H:=Option.bind_eq_some_iff.mp H
     obtain ⟨t874,A570,H⟩:=H
     replace H : (if t874 = true then (if (t864 == t870) = true then ((impl_IsIdempotent.f kj5 t855 t856).bind fun t875 => (some (t875 == t864))) else (some false)) else (some false)) = some r:=H
     have A57:=Aside0.mk A570
     clear A570
     by_cases c58 : t874 = true
     ·subst c58
      have H1 : (if (t864 == t870) = true then ((impl_IsIdempotent.f kj5 t855 t856).bind fun t875 => (some (t875 == t864))) else (some false)) = some r:=by rw [if_pos rfl] at H;exact H
      clear H
      have H:=H1
      clear H1
      by_cases c59 : (t864 == t870) = true
      ·rw [if_pos c59] at H
       have c59b0 : (t864 == t870) = true:=c59
       (try (have c59b1 : decide (t864 = t870) = true:=by simpa using c59))
       (try (have c59b2 : (t864 == t870) = true:=by simpa using c59))
       clear c59
       replace H:=Option.bind_eq_some_iff.mp H
       obtain ⟨t875,A600,H⟩:=H
       replace H : (some (t875 == t864)) = some r:=H
       have A60:=Aside0.mk A600
       clear A600
       obtain rfl:=Option.some.inj H
       have hnb61:=NB865_859.out
       have hnc61:=NB859_865.out
       have hnb62:=NB865_871.out
       have hnc62:=NB871_865.out
       have hcz63_0 : wc.cell? ⟨gb865,0,none⟩ = some (.int .i64 t860):=(blk_cell BK865.out 0).trans rfl
       have hcz63_1 : wc.cell? ⟨gb865,1,none⟩ = some (.slice Ao15 t861.length co15):=(blk_cell BK865.out 1).trans rfl
       have hfz63_0:=blk_frozen BK865.out 0
       have hfz63_1:=blk_frozen BK865.out 1
       have hnb64:=NB871_859.out
       have hnc64:=NB859_871.out
       have hcz65_0 : wc.cell? ⟨gb871,0,none⟩ = some (.int .i64 t866):=(blk_cell BK871.out 0).trans rfl
       have hcz65_1 : wc.cell? ⟨gb871,1,none⟩ = some (.slice Ao22 t867.length co22):=(blk_cell BK871.out 1).trans rfl
       have hfz65_0:=blk_frozen BK871.out 0
       have hfz65_1:=blk_frozen BK871.out 1
       go_wp2_with (first|((with_reducible refine gate_callee (f:=31) rfl ?_);refine goesL_ (some 52) rfl rfl Try.func31 (by kernel_rfl) rfl #[.agg #[.int .i64 t860,.slice Ao15 t861.length co15],.agg #[.int .i64 t866,.slice Ao22 t867.length co22]] rfl (by (try simp only [List.map_toArray,List.map_cons,List.map_nil]);first|done|rfl|(simp only [List.length_drop,List.length_take];rfl)) ?_;(with_reducible refine (laws_daMatrix.calls kj5 t860 _ _ t861 t866 _ _ t867 true _ ?side1 ?side2 ?side3 ?side4 A57.out).mono ?_);(case side1 => repeat (first|exact (Kd.R_reads' HO_866001.out).2.2|(with_reducible refine Kd.C_alloc ?_ _)|(with_reducible refine Kd.C_drewN ?_ _)|(with_reducible refine Kd.C_drew ?_)));(case side2 => exact (Kd.R_reads' HO_866001.out).2.1);(case side3 => repeat (first|exact (Kd.R_reads' HO_872001.out).2.2|(with_reducible refine Kd.C_alloc ?_ _)|(with_reducible refine Kd.C_drewN ?_ _)|(with_reducible refine Kd.C_drew ?_)));(case side4 => exact (Kd.R_reads' HO_872001.out).2.1);rintro e w66 ⟨rfl,hb⟩;refine ⟨_,rfl,?_⟩;have n0_:=Aside0.mk (Kd.V_below (by (with_reducible repeat (first|apply Kd.V_alloc|apply Kd.V_drewN|apply Kd.V_drew));exact HO_860001.out) hb);have n1_:=Aside0.mk (Kd.R_below (by (with_reducible repeat (first|apply Kd.R_alloc|apply Kd.R_drewN|apply Kd.R_drew));exact HO_866001.out) hb);have n2_:=Aside0.mk (Kd.R_below (by (with_reducible repeat (first|apply Kd.R_alloc|apply Kd.R_drewN|apply Kd.R_drew));exact HO_872001.out) hb);have n3_:=Aside0.mk (blk_below (g:=gb859) (o:=.cells #[.int .i64 t855,.slice Ao10 t856.length co10] 28 (0,0)) (by (with_reducible repeat (first|refine blk_drewN ?_ _|refine blk_drew ?_|refine blk_alloc ?_ _));exact BK859.out) hb);have n4_:=Aside0.mk (blk_below (g:=gb865) (o:=.cells #[.int .i64 t860,.slice Ao15 t861.length co15] 28 (0,0)) (by (with_reducible repeat (first|refine blk_drewN ?_ _|refine blk_drew ?_|refine blk_alloc ?_ _));exact BK865.out) hb);have n5_:=Aside0.mk (blk_below (g:=gb871) (o:=.cells #[.int .i64 t866,.slice Ao22 t867.length co22] 28 (0,0)) (by (with_reducible repeat (first|refine blk_drewN ?_ _|refine blk_drew ?_|refine blk_alloc ?_ _));exact BK871.out) hb);have n6_:=Aside0.mk (below_step (by repeat (first|(with_reducible first|exact HB.out|apply below_alloc|apply pw_below_drewN|apply below_drew1|refine below_set ?_ GE859.out|refine below_set ?_ GE865.out|refine below_set ?_ GE871.out)|exact HB.out)) hb);clear HO_860001;clear HO_866001;clear HO_872001;clear BK859;clear BK865;clear BK871;clear HB;have HO_860001:=n0_;have HO_866001:=n1_;have HO_872001:=n2_;have BK859:=n3_;have BK865:=n4_;have BK871:=n5_;have HB:=n6_;clear n0_ n1_ n2_ n3_ n4_ n5_ n6_;(try clear hb);(try clear hb2);(try clear hk);(try clear hi);have hcz67_0 : w66.cell? ⟨gb859,0,none⟩ = some (.int .i64 t855):=(blk_cell BK859.out 0).trans rfl;have hcz67_1 : w66.cell? ⟨gb859,1,none⟩ = some (.slice Ao10 t856.length co10):=(blk_cell BK859.out 1).trans rfl;have hfz67_0:=blk_frozen BK859.out 0;have hfz67_1:=blk_frozen BK859.out 1)|(go_at_call 25;(with_reducible refine (impl_IsIdempotent.calls kj5 t855 _ _ t856 t875 _ ?side1 ?side2 A60.out).mono ?_);(case side1 => repeat (first|exact (Kd.V_reads' HO_860001.out).2.2|(with_reducible refine Kd.C_alloc ?_ _)|(with_reducible refine Kd.C_drewN ?_ _)|(with_reducible refine Kd.C_drew ?_)));(case side2 => exact (Kd.V_reads' HO_860001.out).2.1);rintro e w68 ⟨rfl,hb⟩;have n0_:=Aside0.mk (Kd.V_below (by (with_reducible repeat (first|apply Kd.V_alloc|apply Kd.V_drewN|apply Kd.V_drew));exact HO_860001.out) hb);have n1_:=Aside0.mk (Kd.R_below (by (with_reducible repeat (first|apply Kd.R_alloc|apply Kd.R_drewN|apply Kd.R_drew));exact HO_866001.out) hb);have n2_:=Aside0.mk (Kd.R_below (by (with_reducible repeat (first|apply Kd.R_alloc|apply Kd.R_drewN|apply Kd.R_drew));exact HO_872001.out) hb);have n3_:=Aside0.mk (blk_below (g:=gb859) (o:=.cells #[.int .i64 t855,.slice Ao10 t856.length co10] 28 (0,0)) (by (with_reducible repeat (first|refine blk_drewN ?_ _|refine blk_drew ?_|refine blk_alloc ?_ _));exact BK859.out) hb);have n4_:=Aside0.mk (blk_below (g:=gb865) (o:=.cells #[.int .i64 t860,.slice Ao15 t861.length co15] 28 (0,0)) (by (with_reducible repeat (first|refine blk_drewN ?_ _|refine blk_drew ?_|refine blk_alloc ?_ _));exact BK865.out) hb);have n5_:=Aside0.mk (blk_below (g:=gb871) (o:=.cells #[.int .i64 t866,.slice Ao22 t867.length co22] 28 (0,0)) (by (with_reducible repeat (first|refine blk_drewN ?_ _|refine blk_drew ?_|refine blk_alloc ?_ _));exact BK871.out) hb);have n6_:=Aside0.mk (below_step (by repeat (first|(with_reducible first|exact HB.out|apply below_alloc|apply pw_below_drewN|apply below_drew1|refine below_set ?_ GE859.out|refine below_set ?_ GE865.out|refine below_set ?_ GE871.out)|exact HB.out)) hb);clear HO_860001;clear HO_866001;clear HO_872001;clear BK859;clear BK865;clear BK871;clear HB;have HO_860001:=n0_;have HO_866001:=n1_;have HO_872001:=n2_;have BK859:=n3_;have BK865:=n4_;have BK871:=n5_;have HB:=n6_;clear n0_ n1_ n2_ n3_ n4_ n5_ n6_;(try clear hb);(try clear hb2);(try clear hk);(try clear hi)))
       go_ret
       exact ⟨by first|rfl|(simp [errW_none,errW_some] <;> rfl)|(simp [*,errW_none,errW_some] <;> rfl),by repeat (first|(with_reducible first|exact HB.out|apply below_alloc|apply pw_below_drewN|apply below_drew1|refine below_set ?_ GE859.out|refine below_set ?_ GE865.out|refine below_set ?_ GE871.out)|exact HB.out)⟩
      ·rw [if_neg c59] at H
       have c59b0 : (t864 == t870) = false:=by simpa using c59
       (try (have c59b1 : decide (t864 = t870) = false:=by simpa using c59))
       (try (have c59b2 : (t864 == t870) = false:=by simpa using c59))
       (try (have c59b3 : ¬ (t864 = t870):=by simpa using c59))
       clear c59
       obtain rfl:=Option.some.inj H
       have hnb69:=NB865_859.out
       have hnc69:=NB859_865.out
       have hnb70:=NB865_871.out
       have hnc70:=NB871_865.out
       have hcz71_0 : wc.cell? ⟨gb865,0,none⟩ = some (.int .i64 t860):=(blk_cell BK865.out 0).trans rfl
       have hcz71_1 : wc.cell? ⟨gb865,1,none⟩ = some (.slice Ao15 t861.length co15):=(blk_cell BK865.out 1).trans rfl
       have hfz71_0:=blk_frozen BK865.out 0
       have hfz71_1:=blk_frozen BK865.out 1
       have hnb72:=NB871_859.out
       have hnc72:=NB859_871.out
       have hcz73_0 : wc.cell? ⟨gb871,0,none⟩ = some (.int .i64 t866):=(blk_cell BK871.out 0).trans rfl
       have hcz73_1 : wc.cell? ⟨gb871,1,none⟩ = some (.slice Ao22 t867.length co22):=(blk_cell BK871.out 1).trans rfl
       have hfz73_0:=blk_frozen BK871.out 0
       have hfz73_1:=blk_frozen BK871.out 1
       go_wp2_with (first|((with_reducible refine gate_callee (f:=31) rfl ?_);refine goesL_ (some 52) rfl rfl Try.func31 (by kernel_rfl) rfl #[.agg #[.int .i64 t860,.slice Ao15 t861.length co15],.agg #[.int .i64 t866,.slice Ao22 t867.length co22]] rfl (by (try simp only [List.map_toArray,List.map_cons,List.map_nil]);first|done|rfl|(simp only [List.length_drop,List.length_take];rfl)) ?_;(with_reducible refine (laws_daMatrix.calls kj5 t860 _ _ t861 t866 _ _ t867 true _ ?side1 ?side2 ?side3 ?side4 A57.out).mono ?_);(case side1 => repeat (first|exact (Kd.R_reads' HO_866001.out).2.2|(with_reducible refine Kd.C_alloc ?_ _)|(with_reducible refine Kd.C_drewN ?_ _)|(with_reducible refine Kd.C_drew ?_)));(case side2 => exact (Kd.R_reads' HO_866001.out).2.1);(case side3 => repeat (first|exact (Kd.R_reads' HO_872001.out).2.2|(with_reducible refine Kd.C_alloc ?_ _)|(with_reducible refine Kd.C_drewN ?_ _)|(with_reducible refine Kd.C_drew ?_)));(case side4 => exact (Kd.R_reads' HO_872001.out).2.1);rintro e w74 ⟨rfl,hb⟩;refine ⟨_,rfl,?_⟩;have n0_:=Aside0.mk (Kd.V_below (by (with_reducible repeat (first|apply Kd.V_alloc|apply Kd.V_drewN|apply Kd.V_drew));exact HO_860001.out) hb);have n1_:=Aside0.mk (Kd.R_below (by (with_reducible repeat (first|apply Kd.R_alloc|apply Kd.R_drewN|apply Kd.R_drew));exact HO_866001.out) hb);have n2_:=Aside0.mk (Kd.R_below (by (with_reducible repeat (first|apply Kd.R_alloc|apply Kd.R_drewN|apply Kd.R_drew));exact HO_872001.out) hb);have n3_:=Aside0.mk (blk_below (g:=gb859) (o:=.cells #[.int .i64 t855,.slice Ao10 t856.length co10] 28 (0,0)) (by (with_reducible repeat (first|refine blk_drewN ?_ _|refine blk_drew ?_|refine blk_alloc ?_ _));exact BK859.out) hb);have n4_:=Aside0.mk (blk_below (g:=gb865) (o:=.cells #[.int .i64 t860,.slice Ao15 t861.length co15] 28 (0,0)) (by (with_reducible repeat (first|refine blk_drewN ?_ _|refine blk_drew ?_|refine blk_alloc ?_ _));exact BK865.out) hb);have n5_:=Aside0.mk (blk_below (g:=gb871) (o:=.cells #[.int .i64 t866,.slice Ao22 t867.length co22] 28 (0,0)) (by (with_reducible repeat (first|refine blk_drewN ?_ _|refine blk_drew ?_|refine blk_alloc ?_ _));exact BK871.out) hb);have n6_:=Aside0.mk (below_step (by repeat (first|(with_reducible first|exact HB.out|apply below_alloc|apply pw_below_drewN|apply below_drew1|refine below_set ?_ GE859.out|refine below_set ?_ GE865.out|refine below_set ?_ GE871.out)|exact HB.out)) hb);clear HO_860001;clear HO_866001;clear HO_872001;clear BK859;clear BK865;clear BK871;clear HB;have HO_860001:=n0_;have HO_866001:=n1_;have HO_872001:=n2_;have BK859:=n3_;have BK865:=n4_;have BK871:=n5_;have HB:=n6_;clear n0_ n1_ n2_ n3_ n4_ n5_ n6_;(try clear hb);(try clear hb2);(try clear hk);(try clear hi)))
       go_ret
       exact ⟨by first|rfl|(simp [errW_none,errW_some] <;> rfl)|(simp [*,errW_none,errW_some] <;> rfl),by repeat (first|(with_reducible first|exact HB.out|apply below_alloc|apply pw_below_drewN|apply below_drew1|refine below_set ?_ GE859.out|refine below_set ?_ GE865.out|refine below_set ?_ GE871.out)|exact HB.out)⟩
     ·replace c58:=Bool.eq_false_iff.mpr c58
      subst c58
      have H1 : (some false) = some r:=by rw [if_neg (show ¬ (false = true) by decide)] at H;exact H
      clear H
      have H:=H1
      clear H1
      obtain rfl:=Option.some.inj H
      have hnb75:=NB865_859.out
      have hnc75:=NB859_865.out
      have hnb76:=NB865_871.out
      have hnc76:=NB871_865.out
      have hcz77_0 : wc.cell? ⟨gb865,0,none⟩ = some (.int .i64 t860):=(blk_cell BK865.out 0).trans rfl
      have hcz77_1 : wc.cell? ⟨gb865,1,none⟩ = some (.slice Ao15 t861.length co15):=(blk_cell BK865.out 1).trans rfl
      have hfz77_0:=blk_frozen BK865.out 0
      have hfz77_1:=blk_frozen BK865.out 1
      have hnb78:=NB871_859.out
      have hnc78:=NB859_871.out
      have hcz79_0 : wc.cell? ⟨gb871,0,none⟩ = some (.int .i64 t866):=(blk_cell BK871.out 0).trans rfl
      have hcz79_1 : wc.cell? ⟨gb871,1,none⟩ = some (.slice Ao22 t867.length co22):=(blk_cell BK871.out 1).trans rfl
      have hfz79_0:=blk_frozen BK871.out 0
      have hfz79_1:=blk_frozen BK871.out 1
      go_wp2_with (first|((with_reducible refine gate_callee (f:=31) rfl ?_);refine goesL_ (some 52) rfl rfl Try.func31 (by kernel_rfl) rfl #[.agg #[.int .i64 t860,.slice Ao15 t861.length co15],.agg #[.int .i64 t866,.slice Ao22 t867.length co22]] rfl (by (try simp only [List.map_toArray,List.map_cons,List.map_nil]);first|done|rfl|(simp only [List.length_drop,List.length_take];rfl)) ?_;(with_reducible refine (laws_daMatrix.calls kj5 t860 _ _ t861 t866 _ _ t867 false _ ?side1 ?side2 ?side3 ?side4 A57.out).mono ?_);(case side1 => repeat (first|exact (Kd.R_reads' HO_866001.out).2.2|(with_reducible refine Kd.C_alloc ?_ _)|(with_reducible refine Kd.C_drewN ?_ _)|(with_reducible refine Kd.C_drew ?_)));(case side2 => exact (Kd.R_reads' HO_866001.out).2.1);(case side3 => repeat (first|exact (Kd.R_reads' HO_872001.out).2.2|(with_reducible refine Kd.C_alloc ?_ _)|(with_reducible refine Kd.C_drewN ?_ _)|(with_reducible refine Kd.C_drew ?_)));(case side4 => exact (Kd.R_reads' HO_872001.out).2.1);rintro e w80 ⟨rfl,hb⟩;refine ⟨_,rfl,?_⟩;have n0_:=Aside0.mk (Kd.V_below (by (with_reducible repeat (first|apply Kd.V_alloc|apply Kd.V_drewN|apply Kd.V_drew));exact HO_860001.out) hb);have n1_:=Aside0.mk (Kd.R_below (by (with_reducible repeat (first|apply Kd.R_alloc|apply Kd.R_drewN|apply Kd.R_drew));exact HO_866001.out) hb);have n2_:=Aside0.mk (Kd.R_below (by (with_reducible repeat (first|apply Kd.R_alloc|apply Kd.R_drewN|apply Kd.R_drew));exact HO_872001.out) hb);have n3_:=Aside0.mk (blk_below (g:=gb859) (o:=.cells #[.int .i64 t855,.slice Ao10 t856.length co10] 28 (0,0)) (by (with_reducible repeat (first|refine blk_drewN ?_ _|refine blk_drew ?_|refine blk_alloc ?_ _));exact BK859.out) hb);have n4_:=Aside0.mk (blk_below (g:=gb865) (o:=.cells #[.int .i64 t860,.slice Ao15 t861.length co15] 28 (0,0)) (by (with_reducible repeat (first|refine blk_drewN ?_ _|refine blk_drew ?_|refine blk_alloc ?_ _));exact BK865.out) hb);have n5_:=Aside0.mk (blk_below (g:=gb871) (o:=.cells #[.int .i64 t866,.slice Ao22 t867.length co22] 28 (0,0)) (by (with_reducible repeat (first|refine blk_drewN ?_ _|refine blk_drew ?_|refine blk_alloc ?_ _));exact BK871.out) hb);have n6_:=Aside0.mk (below_step (by repeat (first|(with_reducible first|exact HB.out|apply below_alloc|apply pw_below_drewN|apply below_drew1|refine below_set ?_ GE859.out|refine below_set ?_ GE865.out|refine below_set ?_ GE871.out)|exact HB.out)) hb);clear HO_860001;clear HO_866001;clear HO_872001;clear BK859;clear BK865;clear BK871;clear HB;have HO_860001:=n0_;have HO_866001:=n1_;have HO_872001:=n2_;have BK859:=n3_;have BK865:=n4_;have BK871:=n5_;have HB:=n6_;clear n0_ n1_ n2_ n3_ n4_ n5_ n6_;(try clear hb);(try clear hb2);(try clear hk);(try clear hi)))
      go_ret
      exact ⟨by first|rfl|(simp [errW_none,errW_some] <;> rfl)|(simp [*,errW_none,errW_some] <;> rfl),by repeat (first|(with_reducible first|exact HB.out|apply below_alloc|apply pw_below_drewN|apply below_drew1|refine below_set ?_ GE859.out|refine below_set ?_ GE865.out|refine below_set ?_ GE871.out)|exact HB.out)⟩
    ·replace c56:=Bool.eq_false_iff.mpr c56
     subst c56
     have H1 : ((impl_Stabilise.f kj5 t860 t861).bind fun bt876 => ((impl_MulGrades.f kj5 t855 t856 t860 t861).bind fun bt882 => ((impl_MulGrades.f kj5 t860 t861 t855 t856).bind fun bt888 => (laws_FnStabilise.l0 kj5 bt876.2.2 t861 (t861.length : Int) 0 t855 t856 t860 t861 bt876.1 bt876.2.1 bt882.1 bt882.2.1 bt888.1 bt888.2.1)))) = some r:=by rw [if_neg (show ¬ (false = true) by decide)] at H;exact H
     clear H
     have H:=H1
     clear H1
     replace H:=Option.bind_eq_some_iff.mp H
     obtain ⟨⟨t876,t877,t880⟩,A810,H⟩:=H
     replace H : ((impl_MulGrades.f kj5 t855 t856 t860 t861).bind fun bt882 => ((impl_MulGrades.f kj5 t860 t861 t855 t856).bind fun bt888 => (laws_FnStabilise.l0 kj5 t880 t861 (t861.length : Int) 0 t855 t856 t860 t861 t876 t877 bt882.1 bt882.2.1 bt888.1 bt888.2.1))) = some r:=H
     have A81:=Aside0.mk A810
     clear A810
     replace H:=Option.bind_eq_some_iff.mp H
     obtain ⟨⟨t882,t883,t886⟩,A820,H⟩:=H
     replace H : ((impl_MulGrades.f kj5 t860 t861 t855 t856).bind fun bt888 => (laws_FnStabilise.l0 kj5 t880 t861 (t861.length : Int) 0 t855 t856 t860 t861 t876 t877 t882 t883 bt888.1 bt888.2.1)) = some r:=H
     have A82:=Aside0.mk A820
     clear A820
     replace H:=Option.bind_eq_some_iff.mp H
     obtain ⟨⟨t888,t889,t892⟩,A830,H⟩:=H
     replace H : (laws_FnStabilise.l0 kj5 t880 t861 (t861.length : Int) 0 t855 t856 t860 t861 t876 t877 t882 t883 t888 t889) = some r:=H
     have A83:=Aside0.mk A830
     clear A830
     have H':=Aside0.mk H
     clear H
     have hnb84:=NB865_859.out
     have hnc84:=NB859_865.out
     have hnb85:=NB865_871.out
     have hnc85:=NB871_865.out
     have hcz86_0 : wc.cell? ⟨gb865,0,none⟩ = some (.int .i64 t860):=(blk_cell BK865.out 0).trans rfl
     have hcz86_1 : wc.cell? ⟨gb865,1,none⟩ = some (.slice Ao15 t861.length co15):=(blk_cell BK865.out 1).trans rfl
     have hfz86_0:=blk_frozen BK865.out 0
     have hfz86_1:=blk_frozen BK865.out 1
     go_wp2_with (first|((with_reducible refine gate_callee (f:=39) rfl ?_);refine goesL_ (some 66) rfl rfl Try.func39 (by kernel_rfl) rfl #[.agg #[.int .i64 t860,.slice Ao15 t861.length co15]] rfl (by (try simp only [List.map_toArray,List.map_cons,List.map_nil]);first|done|rfl|(simp only [List.length_drop,List.length_take];rfl)) ?_;(with_reducible refine (impl_Stabilise.calls kj5 t860 _ _ t861 t876 t877 t880 _ ?side1 ?side2 A81.out).mono ?_);(case side1 => repeat (first|exact (Kd.R_reads' HO_866001.out).2.2|(with_reducible refine Kd.C_alloc ?_ _)|(with_reducible refine Kd.C_drewN ?_ _)|(with_reducible refine Kd.C_drew ?_)));(case side2 => exact (Kd.R_reads' HO_866001.out).2.1);rintro e w87 ⟨v878,rfl,ho0,hb⟩;refine ⟨_,rfl,?_⟩;have n0_:=Aside0.mk (Kd.V_elder' (by (with_reducible repeat (first|apply Kd.V_alloc|apply Kd.V_drewN|apply Kd.V_drew));exact HO_860001.out) (Kd.R_base ho0) hb);have n1_:=Aside0.mk (Kd.R_elder' (by (with_reducible repeat (first|apply Kd.R_alloc|apply Kd.R_drewN|apply Kd.R_drew));exact HO_866001.out) (Kd.R_base ho0) hb);have n2_:=Aside0.mk (Kd.R_elder' (by (with_reducible repeat (first|apply Kd.R_alloc|apply Kd.R_drewN|apply Kd.R_drew));exact HO_872001.out) (Kd.R_base ho0) hb);have n3_:=Aside0.mk (Kd.R_lower (Kd.R_new' (Kd.R_new' ho0 (Kd.R_lt (by (with_reducible repeat (first|apply Kd.R_alloc|apply Kd.R_drewN|apply Kd.R_drew));exact HO_866001.out))) (Kd.R_lt (by (with_reducible repeat (first|apply Kd.R_alloc|apply Kd.R_drewN|apply Kd.R_drew));exact HO_872001.out))) (below_size (by repeat (first|(with_reducible first|exact HB.out|apply below_alloc|apply pw_below_drewN|apply below_drew1|refine below_set ?_ GE859.out|refine below_set ?_ GE865.out|refine below_set ?_ GE871.out)|exact HB.out))));have n4_:=Aside0.mk (blk_below (g:=gb859) (o:=.cells #[.int .i64 t855,.slice Ao10 t856.length co10] 28 (0,0)) (by (with_reducible repeat (first|refine blk_drewN ?_ _|refine blk_drew ?_|refine blk_alloc ?_ _));exact BK859.out) hb);have n5_:=Aside0.mk (blk_below (g:=gb865) (o:=.cells #[.int .i64 t860,.slice Ao15 t861.length co15] 28 (0,0)) (by (with_reducible repeat (first|refine blk_drewN ?_ _|refine blk_drew ?_|refine blk_alloc ?_ _));exact BK865.out) hb);have n6_:=Aside0.mk (blk_below (g:=gb871) (o:=.cells #[.int .i64 t866,.slice Ao22 t867.length co22] 28 (0,0)) (by (with_reducible repeat (first|refine blk_drewN ?_ _|refine blk_drew ?_|refine blk_alloc ?_ _));exact BK871.out) hb);have n7_:=Aside0.mk (below_step (by repeat (first|(with_reducible first|exact HB.out|apply below_alloc|apply pw_below_drewN|apply below_drew1|refine below_set ?_ GE859.out|refine below_set ?_ GE865.out|refine below_set ?_ GE871.out)|exact HB.out)) hb);clear HO_860001;clear HO_866001;clear HO_872001;clear BK859;clear BK865;clear BK871;clear HB;have HO_860001:=n0_;have HO_866001:=n1_;have HO_872001:=n2_;have HO879:=n3_;have BK859:=n4_;have BK865:=n5_;have BK871:=n6_;have HB:=n7_;clear n0_ n1_ n2_ n3_ n4_ n5_ n6_ n7_;(try clear hb);(try clear hb2);(try clear hk);(try clear hi);(try clear ho0))|((with_reducible refine gate_dst (N:=8) rfl ?_);refine box_event ?hg (N:=8) ?hd (cs:=#[.int .i64 0,.slice none 0 0]) (t:=28) ?hr ?_;(case hd => rfl);(case hg => rfl);(case hr => first|(go_simp;done)|(go_simp;rfl));intro gb881 hg w88 hbox hb;have n0_:=Aside0.mk (Kd.V_below (Kd.V_elderB (by (with_reducible repeat (first|apply Kd.V_alloc|apply Kd.V_drewN|apply Kd.V_drew));exact HO_860001.out) gb881 (Nat.le_of_eq hg.symm)) hb);have n1_:=Aside0.mk (Kd.R_below (by (with_reducible repeat (first|apply Kd.R_alloc|apply Kd.R_drewN|apply Kd.R_drew));exact HO_866001.out) hb);have n2_:=Aside0.mk (Kd.R_below (by (with_reducible repeat (first|apply Kd.R_alloc|apply Kd.R_drewN|apply Kd.R_drew));exact HO_872001.out) hb);have n3_:=Aside0.mk (Kd.R_below (by (with_reducible repeat (first|apply Kd.R_alloc|apply Kd.R_drewN|apply Kd.R_drew));exact HO879.out) hb);have n4_:=Aside0.mk (blk_below (g:=gb859) (o:=.cells #[.int .i64 t855,.slice Ao10 t856.length co10] 28 (0,0)) (by (with_reducible repeat (first|refine blk_drewN ?_ _|refine blk_drew ?_|refine blk_alloc ?_ _));exact BK859.out) hb);have n5_:=Aside0.mk (blk_below (g:=gb865) (o:=.cells #[.int .i64 t860,.slice Ao15 t861.length co15] 28 (0,0)) (by (with_reducible repeat (first|refine blk_drewN ?_ _|refine blk_drew ?_|refine blk_alloc ?_ _));exact BK865.out) hb);have n6_:=Aside0.mk (blk_below (g:=gb871) (o:=.cells #[.int .i64 t866,.slice Ao22 t867.length co22] 28 (0,0)) (by (with_reducible repeat (first|refine blk_drewN ?_ _|refine blk_drew ?_|refine blk_alloc ?_ _));exact BK871.out) hb);have n7_:=Aside0.mk (below_step (by repeat (first|(with_reducible first|exact HB.out|apply below_alloc|apply pw_below_drewN|apply below_drew1|refine below_set ?_ GE859.out|refine below_set ?_ GE865.out|refine below_set ?_ GE871.out)|exact HB.out)) hb);have n8_:=Aside0.mk (hbox);have n9_:=Aside0.mk ((by rw [hg];exact (below_size (by repeat (first|(with_reducible first|exact HB.out|apply below_alloc|apply pw_below_drewN|apply below_drew1|refine below_set ?_ GE859.out|refine below_set ?_ GE865.out|refine below_set ?_ GE871.out)|exact HB.out))) : w.heap.size ≤ gb881));have n10_:=Aside0.mk ((by rw [hg];exact (below_size (by repeat (first|(with_reducible first|exact HB.out|apply below_alloc|apply pw_below_drewN|apply below_drew1|refine below_set ?_ GE859.out|refine below_set ?_ GE865.out|refine below_set ?_ GE871.out)|exact HB.out))) : w.heap.size ≤ gb881));have n11_:=Aside0.mk ((by rw [hg];exact Nat.ne_of_lt (blk_lt (g:=gb859) (o:=.cells #[.int .i64 t855,.slice Ao10 t856.length co10] 28 (0,0)) (by (with_reducible repeat (first|refine blk_drewN ?_ _|refine blk_drew ?_|refine blk_alloc ?_ _));exact BK859.out)) : gb859 ≠ gb881));have n12_:=Aside0.mk ((by rw [hg];exact Nat.ne_of_gt (blk_lt (g:=gb859) (o:=.cells #[.int .i64 t855,.slice Ao10 t856.length co10] 28 (0,0)) (by (with_reducible repeat (first|refine blk_drewN ?_ _|refine blk_drew ?_|refine blk_alloc ?_ _));exact BK859.out)) : gb881 ≠ gb859));have n13_:=Aside0.mk ((by rw [hg];exact Nat.ne_of_lt (blk_lt (g:=gb865) (o:=.cells #[.int .i64 t860,.slice Ao15 t861.length co15] 28 (0,0)) (by (with_reducible repeat (first|refine blk_drewN ?_ _|refine blk_drew ?_|refine blk_alloc ?_ _));exact BK865.out)) : gb865 ≠ gb881));have n14_:=Aside0.mk ((by rw [hg];exact Nat.ne_of_gt (blk_lt (g:=gb865) (o:=.cells #[.int .i64 t860,.slice Ao15 t861.length co15] 28 (0,0)) (by (with_reducible repeat (first|refine blk_drewN ?_ _|refine blk_drew ?_|refine blk_alloc ?_ _));exact BK865.out)) : gb881 ≠ gb865));have n15_:=Aside0.mk ((by rw [hg];exact Nat.ne_of_lt (blk_lt (g:=gb871) (o:=.cells #[.int .i64 t866,.slice Ao22 t867.length co22] 28 (0,0)) (by (with_reducible repeat (first|refine blk_drewN ?_ _|refine blk_drew ?_|refine blk_alloc ?_ _));exact BK871.out)) : gb871 ≠ gb881));have n16_:=Aside0.mk ((by rw [hg];exact Nat.ne_of_gt (blk_lt (g:=gb871) (o:=.cells #[.int .i64 t866,.slice Ao22 t867.length co22] 28 (0,0)) (by (with_reducible repeat (first|refine blk_drewN ?_ _|refine blk_drew ?_|refine blk_alloc ?_ _));exact BK871.out)) : gb881 ≠ gb871));clear HO_860001;clear HO_866001;clear HO_872001;clear HO879;clear BK859;clear BK865;clear BK871;clear HB;have HO_860001:=n0_;have HO_866001:=n1_;have HO_872001:=n2_;have HO879:=n3_;have BK859:=n4_;have BK865:=n5_;have BK871:=n6_;have HB:=n7_;have BK881:=n8_;have GW881:=n9_;have GE881:=n10_;have NB859_881:=n11_;have NB881_859:=n12_;have NB865_881:=n13_;have NB881_865:=n14_;have NB871_881:=n15_;have NB881_871:=n16_;clear n0_ n1_ n2_ n3_ n4_ n5_ n6_ n7_ n8_ n9_ n10_ n11_ n12_ n13_ n14_ n15_ n16_;clear hb hbox hg;have hnb89:=NB881_859.out;have hnc89:=NB859_881.out;have hnb90:=NB881_865.out;have hnc90:=NB865_881.out;have hnb91:=NB881_871.out;have hnc91:=NB871_881.out;have hcz92_0 : w88.cell? ⟨gb881,0,none⟩ = some (.int .i64 0):=(blk_cell BK881.out 0).trans rfl;have hcz92_1 : w88.cell? ⟨gb881,1,none⟩ = some (.slice none 0 0):=(blk_cell BK881.out 1).trans rfl;have hfz92_0:=blk_frozen BK881.out 0;have hfz92_1:=blk_frozen BK881.out 1;obtain ⟨Ao93,co93,eo93⟩:=Kd.R_slice HO879.out;subst eo93;have hnb94:=NB859_871.out;have hnc94:=NB871_859.out;have hcz95_0 : w88.cell? ⟨gb859,0,none⟩ = some (.int .i64 t855):=(blk_cell BK859.out 0).trans rfl;have hcz95_1 : w88.cell? ⟨gb859,1,none⟩ = some (.slice Ao10 t856.length co10):=(blk_cell BK859.out 1).trans rfl;have hfz95_0:=blk_frozen BK859.out 0;have hfz95_1:=blk_frozen BK859.out 1;have hcz96_0 : w88.cell? ⟨gb865,0,none⟩ = some (.int .i64 t860):=(blk_cell BK865.out 0).trans rfl;have hcz96_1 : w88.cell? ⟨gb865,1,none⟩ = some (.slice Ao15 t861.length co15):=(blk_cell BK865.out 1).trans rfl;have hfz96_0:=blk_frozen BK865.out 0;have hfz96_1:=blk_frozen BK865.out 1)|((with_reducible refine gate_callee (f:=27) rfl ?_);refine goesL_ (some 72) rfl rfl Try.func27 (by kernel_rfl) rfl #[.agg #[.int .i64 t855,.slice Ao10 t856.length co10],.agg #[.int .i64 t860,.slice Ao15 t861.length co15]] rfl (by (try simp only [List.map_toArray,List.map_cons,List.map_nil]);first|done|rfl|(simp only [List.length_drop,List.length_take];rfl)) ?_;(with_reducible refine (impl_MulGrades.calls kj5 t855 _ _ t856 t860 _ _ t861 t882 t883 t886 _ ?side1 ?side2 ?side3 ?side4 A82.out).mono ?_);(case side1 => refine (Kd.V_reads' (e:=3) (base:=w.heap.size) (ok:=fun k_ => (((some k_ ≠ (.slice Ao15 t861.length co15 : Value).ownBlock ∧ (some k_ ≠ (.slice Ao22 t867.length co22 : Value).ownBlock ∧ (k_ ≠ gb859 ∧ (k_ ≠ gb865 ∧ k_ ≠ gb871)))) ∧ some k_ ≠ (.slice Ao93 t877.length co93 : Value).ownBlock) ∧ k_ ≠ gb881)) (n:=t856.length) (c:=co10) ?_).2.2;exact (by (with_reducible repeat (first|apply Kd.V_alloc|apply Kd.V_drewN|apply Kd.V_drew));exact (Kd.V_mono (Kd.V_far (p:=⟨gb881,1,none⟩) (Kd.V_far (p:=⟨gb881,0,none⟩) (Kd.V_mono HO_860001.out (fun k_ hk => (⟨hk,hk.2⟩ : _ ∧ k_ ≠ gb881))) (fun _ hk => hk.2) (.int .i64 t876)) (fun _ hk => hk.2) (.slice Ao93 t877.length co93)) (fun _ h_ => h_.1))));(case side2 => exact (Kd.V_reads' HO_860001.out).2.1);(case side3 => refine (Kd.R_reads' (e:=3) (base:=w.heap.size) (ok:=fun k_ => (some k_ ≠ (.slice Ao22 t867.length co22 : Value).ownBlock ∧ some k_ ≠ (.slice Ao93 t877.length co93 : Value).ownBlock)) (n:=t861.length) (c:=co15) ?_).2.2;exact (by (with_reducible repeat (first|apply Kd.R_alloc|apply Kd.R_drewN|apply Kd.R_drew));exact (Kd.R_mono (Kd.R_far (p:=⟨gb881,1,none⟩) (Kd.R_far (p:=⟨gb881,0,none⟩) (Kd.R_types HO_866001.out BK881.out (by decide)) (fun _ hk => hk.2) (.int .i64 t876)) (fun _ hk => hk.2) (.slice Ao93 t877.length co93)) (fun _ h_ => h_.1))));(case side4 => exact (Kd.R_reads' HO_866001.out).2.1);rintro e w97 ⟨v884,rfl,ho0,hb⟩;refine ⟨_,rfl,?_⟩;have n0_:=Aside0.mk (Kd.V_elder' (by (with_reducible repeat (first|apply Kd.V_alloc|apply Kd.V_drewN|apply Kd.V_drew));exact (Kd.V_mono (Kd.V_far (p:=⟨gb881,1,none⟩) (Kd.V_far (p:=⟨gb881,0,none⟩) (Kd.V_mono HO_860001.out (fun k_ hk => (⟨hk,hk.2⟩ : _ ∧ k_ ≠ gb881))) (fun _ hk => hk.2) (.int .i64 t876)) (fun _ hk => hk.2) (.slice Ao93 t877.length co93)) (fun _ h_ => h_.1))) (Kd.R_base ho0) hb);have n1_:=Aside0.mk (Kd.R_elder' (by (with_reducible repeat (first|apply Kd.R_alloc|apply Kd.R_drewN|apply Kd.R_drew));exact (Kd.R_mono (Kd.R_far (p:=⟨gb881,1,none⟩) (Kd.R_far (p:=⟨gb881,0,none⟩) (Kd.R_types HO_866001.out BK881.out (by decide)) (fun _ hk => hk.2) (.int .i64 t876)) (fun _ hk => hk.2) (.slice Ao93 t877.length co93)) (fun _ h_ => h_.1))) (Kd.R_base ho0) hb);have n2_:=Aside0.mk (Kd.R_elder' (by (with_reducible repeat (first|apply Kd.R_alloc|apply Kd.R_drewN|apply Kd.R_drew));exact (Kd.R_mono (Kd.R_far (p:=⟨gb881,1,none⟩) (Kd.R_far (p:=⟨gb881,0,none⟩) (Kd.R_types HO_872001.out BK881.out (by decide)) (fun _ hk => hk.2) (.int .i64 t876)) (fun _ hk => hk.2) (.slice Ao93 t877.length co93)) (fun _ h_ => h_.1))) (Kd.R_base ho0) hb);have n3_:=Aside0.mk (Kd.R_elder' (by (with_reducible repeat (first|apply Kd.R_alloc|apply Kd.R_drewN|apply Kd.R_drew));exact (Kd.R_mono (Kd.R_far (p:=⟨gb881,1,none⟩) (Kd.R_far (p:=⟨gb881,0,none⟩) (Kd.R_types HO879.out BK881.out (by decide)) (fun _ hk => hk.2) (.int .i64 t876)) (fun _ hk => hk.2) (.slice Ao93 t877.length co93)) (fun _ h_ => h_.1))) (Kd.R_base ho0) hb);have n4_:=Aside0.mk (Kd.R_lower (Kd.R_new' (Kd.R_new' (Kd.R_new' ho0 (Kd.R_lt (by (with_reducible repeat (first|apply Kd.R_alloc|apply Kd.R_drewN|apply Kd.R_drew));exact (Kd.R_mono (Kd.R_far (p:=⟨gb881,1,none⟩) (Kd.R_far (p:=⟨gb881,0,none⟩) (Kd.R_types HO_866001.out BK881.out (by decide)) (fun _ hk => hk.2) (.int .i64 t876)) (fun _ hk => hk.2) (.slice Ao93 t877.length co93)) (fun _ h_ => h_.1))))) (Kd.R_lt (by (with_reducible repeat (first|apply Kd.R_alloc|apply Kd.R_drewN|apply Kd.R_drew));exact (Kd.R_mono (Kd.R_far (p:=⟨gb881,1,none⟩) (Kd.R_far (p:=⟨gb881,0,none⟩) (Kd.R_types HO_872001.out BK881.out (by decide)) (fun _ hk => hk.2) (.int .i64 t876)) (fun _ hk => hk.2) (.slice Ao93 t877.length co93)) (fun _ h_ => h_.1))))) (Kd.R_lt (by (with_reducible repeat (first|apply Kd.R_alloc|apply Kd.R_drewN|apply Kd.R_drew));exact (Kd.R_mono (Kd.R_far (p:=⟨gb881,1,none⟩) (Kd.R_far (p:=⟨gb881,0,none⟩) (Kd.R_types HO879.out BK881.out (by decide)) (fun _ hk => hk.2) (.int .i64 t876)) (fun _ hk => hk.2) (.slice Ao93 t877.length co93)) (fun _ h_ => h_.1))))) (below_size (by repeat (first|(with_reducible first|exact HB.out|apply below_alloc|apply pw_below_drewN|apply below_drew1|refine below_set ?_ GE859.out|refine below_set ?_ GE865.out|refine below_set ?_ GE871.out|refine below_set ?_ GE881.out)|exact HB.out))));have n5_:=Aside0.mk (blk_below (g:=gb859) (o:=.cells #[.int .i64 t855,.slice Ao10 t856.length co10] 28 (0,0)) (by (with_reducible repeat (first|refine blk_drewN ?_ _|refine blk_drew ?_|refine blk_alloc ?_ _));refine blk_far ?_ NB859_881.out _;(with_reducible repeat (first|refine blk_drewN ?_ _|refine blk_drew ?_|refine blk_alloc ?_ _));refine blk_far ?_ NB859_881.out _;(with_reducible repeat (first|refine blk_drewN ?_ _|refine blk_drew ?_|refine blk_alloc ?_ _));exact BK859.out) hb);have n6_:=Aside0.mk (blk_below (g:=gb865) (o:=.cells #[.int .i64 t860,.slice Ao15 t861.length co15] 28 (0,0)) (by (with_reducible repeat (first|refine blk_drewN ?_ _|refine blk_drew ?_|refine blk_alloc ?_ _));refine blk_far ?_ NB865_881.out _;(with_reducible repeat (first|refine blk_drewN ?_ _|refine blk_drew ?_|refine blk_alloc ?_ _));refine blk_far ?_ NB865_881.out _;(with_reducible repeat (first|refine blk_drewN ?_ _|refine blk_drew ?_|refine blk_alloc ?_ _));exact BK865.out) hb);have n7_:=Aside0.mk (blk_below (g:=gb871) (o:=.cells #[.int .i64 t866,.slice Ao22 t867.length co22] 28 (0,0)) (by (with_reducible repeat (first|refine blk_drewN ?_ _|refine blk_drew ?_|refine blk_alloc ?_ _));refine blk_far ?_ NB871_881.out _;(with_reducible repeat (first|refine blk_drewN ?_ _|refine blk_drew ?_|refine blk_alloc ?_ _));refine blk_far ?_ NB871_881.out _;(with_reducible repeat (first|refine blk_drewN ?_ _|refine blk_drew ?_|refine blk_alloc ?_ _));exact BK871.out) hb);have n8_:=Aside0.mk (blk_below (g:=gb881) (o:=.cells #[.int .i64 t876,.slice Ao93 t877.length co93] 28 (0,0)) (by (with_reducible repeat (first|refine blk_drewN ?_ _|refine blk_drew ?_|refine blk_alloc ?_ _));refine blk_put (cs:=#[.int .i64 t876,.slice none 0 0]) ?_ 1 _ rfl;(with_reducible repeat (first|refine blk_drewN ?_ _|refine blk_drew ?_|refine blk_alloc ?_ _));refine blk_put (cs:=#[.int .i64 0,.slice none 0 0]) ?_ 0 _ rfl;(with_reducible repeat (first|refine blk_drewN ?_ _|refine blk_drew ?_|refine blk_alloc ?_ _));exact BK881.out) hb);have n9_:=Aside0.mk (below_step (by repeat (first|(with_reducible first|exact HB.out|apply below_alloc|apply pw_below_drewN|apply below_drew1|refine below_set ?_ GE859.out|refine below_set ?_ GE865.out|refine below_set ?_ GE871.out|refine below_set ?_ GE881.out)|exact HB.out)) hb);clear HO_860001;clear HO_866001;clear HO_872001;clear HO879;clear BK859;clear BK865;clear BK871;clear BK881;clear HB;have HO_860001:=n0_;have HO_866001:=n1_;have HO_872001:=n2_;have HO879:=n3_;have HO885:=n4_;have BK859:=n5_;have BK865:=n6_;have BK871:=n7_;have BK881:=n8_;have HB:=n9_;clear n0_ n1_ n2_ n3_ n4_ n5_ n6_ n7_ n8_ n9_;(try clear hb);(try clear hb2);(try clear hk);(try clear hi);(try clear ho0))|((with_reducible refine gate_dst (N:=10) rfl ?_);refine box_event ?hg (N:=10) ?hd (cs:=#[.int .i64 0,.slice none 0 0]) (t:=28) ?hr ?_;(case hd => rfl);(case hg => rfl);(case hr => first|(go_simp;done)|(go_simp;rfl));intro gb887 hg w98 hbox hb;have n0_:=Aside0.mk (Kd.V_below (Kd.V_elderB (by (with_reducible repeat (first|apply Kd.V_alloc|apply Kd.V_drewN|apply Kd.V_drew));exact HO_860001.out) gb887 (Nat.le_of_eq hg.symm)) hb);have n1_:=Aside0.mk (Kd.R_below (by (with_reducible repeat (first|apply Kd.R_alloc|apply Kd.R_drewN|apply Kd.R_drew));exact HO_866001.out) hb);have n2_:=Aside0.mk (Kd.R_below (by (with_reducible repeat (first|apply Kd.R_alloc|apply Kd.R_drewN|apply Kd.R_drew));exact HO_872001.out) hb);have n3_:=Aside0.mk (Kd.R_below (by (with_reducible repeat (first|apply Kd.R_alloc|apply Kd.R_drewN|apply Kd.R_drew));exact HO879.out) hb);have n4_:=Aside0.mk (Kd.R_below (by (with_reducible repeat (first|apply Kd.R_alloc|apply Kd.R_drewN|apply Kd.R_drew));exact HO885.out) hb);have n5_:=Aside0.mk (blk_below (g:=gb859) (o:=.cells #[.int .i64 t855,.slice Ao10 t856.length co10] 28 (0,0)) (by (with_reducible repeat (first|refine blk_drewN ?_ _|refine blk_drew ?_|refine blk_alloc ?_ _));exact BK859.out) hb);have n6_:=Aside0.mk (blk_below (g:=gb865) (o:=.cells #[.int .i64 t860,.slice Ao15 t861.length co15] 28 (0,0)) (by (with_reducible repeat (first|refine blk_drewN ?_ _|refine blk_drew ?_|refine blk_alloc ?_ _));exact BK865.out) hb);have n7_:=Aside0.mk (blk_below (g:=gb871) (o:=.cells #[.int .i64 t866,.slice Ao22 t867.length co22] 28 (0,0)) (by (with_reducible repeat (first|refine blk_drewN ?_ _|refine blk_drew ?_|refine blk_alloc ?_ _));exact BK871.out) hb);have n8_:=Aside0.mk (blk_below (g:=gb881) (o:=.cells #[.int .i64 t876,.slice Ao93 t877.length co93] 28 (0,0)) (by (with_reducible repeat (first|refine blk_drewN ?_ _|refine blk_drew ?_|refine blk_alloc ?_ _));exact BK881.out) hb);have n9_:=Aside0.mk (below_step (by repeat (first|(with_reducible first|exact HB.out|apply below_alloc|apply pw_below_drewN|apply below_drew1|refine below_set ?_ GE859.out|refine below_set ?_ GE865.out|refine below_set ?_ GE871.out|refine below_set ?_ GE881.out)|exact HB.out)) hb);have n10_:=Aside0.mk (hbox);have n11_:=Aside0.mk ((by rw [hg];exact (below_size (by repeat (first|(with_reducible first|exact HB.out|apply below_alloc|apply pw_below_drewN|apply below_drew1|refine below_set ?_ GE859.out|refine below_set ?_ GE865.out|refine below_set ?_ GE871.out|refine below_set ?_ GE881.out)|exact HB.out))) : w.heap.size ≤ gb887));have n12_:=Aside0.mk ((by rw [hg];exact (below_size (by repeat (first|(with_reducible first|exact HB.out|apply below_alloc|apply pw_below_drewN|apply below_drew1|refine below_set ?_ GE859.out|refine below_set ?_ GE865.out|refine below_set ?_ GE871.out|refine below_set ?_ GE881.out)|exact HB.out))) : w.heap.size ≤ gb887));have n13_:=Aside0.mk ((by rw [hg];exact Nat.ne_of_lt (blk_lt (g:=gb859) (o:=.cells #[.int .i64 t855,.slice Ao10 t856.length co10] 28 (0,0)) (by (with_reducible repeat (first|refine blk_drewN ?_ _|refine blk_drew ?_|refine blk_alloc ?_ _));exact BK859.out)) : gb859 ≠ gb887));have n14_:=Aside0.mk ((by rw [hg];exact Nat.ne_of_gt (blk_lt (g:=gb859) (o:=.cells #[.int .i64 t855,.slice Ao10 t856.length co10] 28 (0,0)) (by (with_reducible repeat (first|refine blk_drewN ?_ _|refine blk_drew ?_|refine blk_alloc ?_ _));exact BK859.out)) : gb887 ≠ gb859));have n15_:=Aside0.mk ((by rw [hg];exact Nat.ne_of_lt (blk_lt (g:=gb865) (o:=.cells #[.int .i64 t860,.slice Ao15 t861.length co15] 28 (0,0)) (by (with_reducible repeat (first|refine blk_drewN ?_ _|refine blk_drew ?_|refine blk_alloc ?_ _));exact BK865.out)) : gb865 ≠ gb887));have n16_:=Aside0.mk ((by rw [hg];exact Nat.ne_of_gt (blk_lt (g:=gb865) (o:=.cells #[.int .i64 t860,.slice Ao15 t861.length co15] 28 (0,0)) (by (with_reducible repeat (first|refine blk_drewN ?_ _|refine blk_drew ?_|refine blk_alloc ?_ _));exact BK865.out)) : gb887 ≠ gb865));have n17_:=Aside0.mk ((by rw [hg];exact Nat.ne_of_lt (blk_lt (g:=gb871) (o:=.cells #[.int .i64 t866,.slice Ao22 t867.length co22] 28 (0,0)) (by (with_reducible repeat (first|refine blk_drewN ?_ _|refine blk_drew ?_|refine blk_alloc ?_ _));exact BK871.out)) : gb871 ≠ gb887));have n18_:=Aside0.mk ((by rw [hg];exact Nat.ne_of_gt (blk_lt (g:=gb871) (o:=.cells #[.int .i64 t866,.slice Ao22 t867.length co22] 28 (0,0)) (by (with_reducible repeat (first|refine blk_drewN ?_ _|refine blk_drew ?_|refine blk_alloc ?_ _));exact BK871.out)) : gb887 ≠ gb871));have n19_:=Aside0.mk ((by rw [hg];exact Nat.ne_of_lt (blk_lt (g:=gb881) (o:=.cells #[.int .i64 t876,.slice Ao93 t877.length co93] 28 (0,0)) (by (with_reducible repeat (first|refine blk_drewN ?_ _|refine blk_drew ?_|refine blk_alloc ?_ _));exact BK881.out)) : gb881 ≠ gb887));have n20_:=Aside0.mk ((by rw [hg];exact Nat.ne_of_gt (blk_lt (g:=gb881) (o:=.cells #[.int .i64 t876,.slice Ao93 t877.length co93] 28 (0,0)) (by (with_reducible repeat (first|refine blk_drewN ?_ _|refine blk_drew ?_|refine blk_alloc ?_ _));exact BK881.out)) : gb887 ≠ gb881));clear HO_860001;clear HO_866001;clear HO_872001;clear HO879;clear HO885;clear BK859;clear BK865;clear BK871;clear BK881;clear HB;have HO_860001:=n0_;have HO_866001:=n1_;have HO_872001:=n2_;have HO879:=n3_;have HO885:=n4_;have BK859:=n5_;have BK865:=n6_;have BK871:=n7_;have BK881:=n8_;have HB:=n9_;have BK887:=n10_;have GW887:=n11_;have GE887:=n12_;have NB859_887:=n13_;have NB887_859:=n14_;have NB865_887:=n15_;have NB887_865:=n16_;have NB871_887:=n17_;have NB887_871:=n18_;have NB881_887:=n19_;have NB887_881:=n20_;clear n0_ n1_ n2_ n3_ n4_ n5_ n6_ n7_ n8_ n9_ n10_ n11_ n12_ n13_ n14_ n15_ n16_ n17_ n18_ n19_ n20_;clear hb hbox hg;have hnb99:=NB887_859.out;have hnc99:=NB859_887.out;have hnb100:=NB887_865.out;have hnc100:=NB865_887.out;have hnb101:=NB887_871.out;have hnc101:=NB871_887.out;have hnb102:=NB887_881.out;have hnc102:=NB881_887.out;have hcz103_0 : w98.cell? ⟨gb887,0,none⟩ = some (.int .i64 0):=(blk_cell BK887.out 0).trans rfl;have hcz103_1 : w98.cell? ⟨gb887,1,none⟩ = some (.slice none 0 0):=(blk_cell BK887.out 1).trans rfl;have hfz103_0:=blk_frozen BK887.out 0;have hfz103_1:=blk_frozen BK887.out 1;obtain ⟨Ao104,co104,eo104⟩:=Kd.R_slice HO885.out;subst eo104;have hcz105_0 : w98.cell? ⟨gb865,0,none⟩ = some (.int .i64 t860):=(blk_cell BK865.out 0).trans rfl;have hcz105_1 : w98.cell? ⟨gb865,1,none⟩ = some (.slice Ao15 t861.length co15):=(blk_cell BK865.out 1).trans rfl;have hfz105_0:=blk_frozen BK865.out 0;have hfz105_1:=blk_frozen BK865.out 1;have hcz106_0 : w98.cell? ⟨gb859,0,none⟩ = some (.int .i64 t855):=(blk_cell BK859.out 0).trans rfl;have hcz106_1 : w98.cell? ⟨gb859,1,none⟩ = some (.slice Ao10 t856.length co10):=(blk_cell BK859.out 1).trans rfl;have hfz106_0:=blk_frozen BK859.out 0;have hfz106_1:=blk_frozen BK859.out 1)|((with_reducible refine gate_callee (f:=27) rfl ?_);refine goesL_ (some 78) rfl rfl Try.func27 (by kernel_rfl) rfl #[.agg #[.int .i64 t860,.slice Ao15 t861.length co15],.agg #[.int .i64 t855,.slice Ao10 t856.length co10]] rfl (by (try simp only [List.map_toArray,List.map_cons,List.map_nil]);first|done|rfl|(simp only [List.length_drop,List.length_take];rfl)) ?_;(with_reducible refine (impl_MulGrades.calls kj5 t860 _ _ t861 t855 _ _ t856 t888 t889 t892 _ ?side1 ?side2 ?side3 ?side4 A83.out).mono ?_);(case side1 => refine (Kd.R_reads' (e:=3) (base:=w.heap.size) (ok:=fun k_ => ((some k_ ≠ (.slice Ao22 t867.length co22 : Value).ownBlock ∧ some k_ ≠ (.slice Ao93 t877.length co93 : Value).ownBlock) ∧ some k_ ≠ (.slice Ao104 t883.length co104 : Value).ownBlock)) (n:=t861.length) (c:=co15) ?_).2.2;exact (by (with_reducible repeat (first|apply Kd.R_alloc|apply Kd.R_drewN|apply Kd.R_drew));exact (Kd.R_mono (Kd.R_far (p:=⟨gb887,1,none⟩) (Kd.R_far (p:=⟨gb887,0,none⟩) (Kd.R_types HO_866001.out BK887.out (by decide)) (fun _ hk => hk.2) (.int .i64 t882)) (fun _ hk => hk.2) (.slice Ao104 t883.length co104)) (fun _ h_ => h_.1))));(case side2 => exact (Kd.R_reads' HO_866001.out).2.1);(case side3 => refine (Kd.V_reads' (e:=3) (base:=w.heap.size) (ok:=fun k_ => (((((some k_ ≠ (.slice Ao15 t861.length co15 : Value).ownBlock ∧ (some k_ ≠ (.slice Ao22 t867.length co22 : Value).ownBlock ∧ (k_ ≠ gb859 ∧ (k_ ≠ gb865 ∧ k_ ≠ gb871)))) ∧ some k_ ≠ (.slice Ao93 t877.length co93 : Value).ownBlock) ∧ k_ ≠ gb881) ∧ some k_ ≠ (.slice Ao104 t883.length co104 : Value).ownBlock) ∧ k_ ≠ gb887)) (n:=t856.length) (c:=co10) ?_).2.2;exact (by (with_reducible repeat (first|apply Kd.V_alloc|apply Kd.V_drewN|apply Kd.V_drew));exact (Kd.V_mono (Kd.V_far (p:=⟨gb887,1,none⟩) (Kd.V_far (p:=⟨gb887,0,none⟩) (Kd.V_mono HO_860001.out (fun k_ hk => (⟨hk,hk.2⟩ : _ ∧ k_ ≠ gb887))) (fun _ hk => hk.2) (.int .i64 t882)) (fun _ hk => hk.2) (.slice Ao104 t883.length co104)) (fun _ h_ => h_.1))));(case side4 => exact (Kd.V_reads' HO_860001.out).2.1);rintro e w107 ⟨v890,rfl,ho0,hb⟩;refine ⟨_,rfl,?_⟩;have n0_:=Aside0.mk (Kd.V_elder' (by (with_reducible repeat (first|apply Kd.V_alloc|apply Kd.V_drewN|apply Kd.V_drew));exact (Kd.V_mono (Kd.V_far (p:=⟨gb887,1,none⟩) (Kd.V_far (p:=⟨gb887,0,none⟩) (Kd.V_mono HO_860001.out (fun k_ hk => (⟨hk,hk.2⟩ : _ ∧ k_ ≠ gb887))) (fun _ hk => hk.2) (.int .i64 t882)) (fun _ hk => hk.2) (.slice Ao104 t883.length co104)) (fun _ h_ => h_.1))) (Kd.R_base ho0) hb);have n1_:=Aside0.mk (Kd.R_elder' (by (with_reducible repeat (first|apply Kd.R_alloc|apply Kd.R_drewN|apply Kd.R_drew));exact (Kd.R_mono (Kd.R_far (p:=⟨gb887,1,none⟩) (Kd.R_far (p:=⟨gb887,0,none⟩) (Kd.R_types HO_866001.out BK887.out (by decide)) (fun _ hk => hk.2) (.int .i64 t882)) (fun _ hk => hk.2) (.slice Ao104 t883.length co104)) (fun _ h_ => h_.1))) (Kd.R_base ho0) hb);have n2_:=Aside0.mk (Kd.R_elder' (by (with_reducible repeat (first|apply Kd.R_alloc|apply Kd.R_drewN|apply Kd.R_drew));exact (Kd.R_mono (Kd.R_far (p:=⟨gb887,1,none⟩) (Kd.R_far (p:=⟨gb887,0,none⟩) (Kd.R_types HO_872001.out BK887.out (by decide)) (fun _ hk => hk.2) (.int .i64 t882)) (fun _ hk => hk.2) (.slice Ao104 t883.length co104)) (fun _ h_ => h_.1))) (Kd.R_base ho0) hb);have n3_:=Aside0.mk (Kd.R_elder' (by (with_reducible repeat (first|apply Kd.R_alloc|apply Kd.R_drewN|apply Kd.R_drew));exact (Kd.R_mono (Kd.R_far (p:=⟨gb887,1,none⟩) (Kd.R_far (p:=⟨gb887,0,none⟩) (Kd.R_types HO879.out BK887.out (by decide)) (fun _ hk => hk.2) (.int .i64 t882)) (fun _ hk => hk.2) (.slice Ao104 t883.length co104)) (fun _ h_ => h_.1))) (Kd.R_base ho0) hb);have n4_:=Aside0.mk (Kd.R_elder' (by (with_reducible repeat (first|apply Kd.R_alloc|apply Kd.R_drewN|apply Kd.R_drew));exact (Kd.R_mono (Kd.R_far (p:=⟨gb887,1,none⟩) (Kd.R_far (p:=⟨gb887,0,none⟩) (Kd.R_types HO885.out BK887.out (by decide)) (fun _ hk => hk.2) (.int .i64 t882)) (fun _ hk => hk.2) (.slice Ao104 t883.length co104)) (fun _ h_ => h_.1))) (Kd.R_base ho0) hb);have n5_:=Aside0.mk (Kd.R_lower (Kd.R_new' (Kd.R_new' (Kd.R_new' (Kd.R_new' ho0 (Kd.R_lt (by (with_reducible repeat (first|apply Kd.R_alloc|apply Kd.R_drewN|apply Kd.R_drew));exact (Kd.R_mono (Kd.R_far (p:=⟨gb887,1,none⟩) (Kd.R_far (p:=⟨gb887,0,none⟩) (Kd.R_types HO_866001.out BK887.out (by decide)) (fun _ hk => hk.2) (.int .i64 t882)) (fun _ hk => hk.2) (.slice Ao104 t883.length co104)) (fun _ h_ => h_.1))))) (Kd.R_lt (by (with_reducible repeat (first|apply Kd.R_alloc|apply Kd.R_drewN|apply Kd.R_drew));exact (Kd.R_mono (Kd.R_far (p:=⟨gb887,1,none⟩) (Kd.R_far (p:=⟨gb887,0,none⟩) (Kd.R_types HO_872001.out BK887.out (by decide)) (fun _ hk => hk.2) (.int .i64 t882)) (fun _ hk => hk.2) (.slice Ao104 t883.length co104)) (fun _ h_ => h_.1))))) (Kd.R_lt (by (with_reducible repeat (first|apply Kd.R_alloc|apply Kd.R_drewN|apply Kd.R_drew));exact (Kd.R_mono (Kd.R_far (p:=⟨gb887,1,none⟩) (Kd.R_far (p:=⟨gb887,0,none⟩) (Kd.R_types HO879.out BK887.out (by decide)) (fun _ hk => hk.2) (.int .i64 t882)) (fun _ hk => hk.2) (.slice Ao104 t883.length co104)) (fun _ h_ => h_.1))))) (Kd.R_lt (by (with_reducible repeat (first|apply Kd.R_alloc|apply Kd.R_drewN|apply Kd.R_drew));exact (Kd.R_mono (Kd.R_far (p:=⟨gb887,1,none⟩) (Kd.R_far (p:=⟨gb887,0,none⟩) (Kd.R_types HO885.out BK887.out (by decide)) (fun _ hk => hk.2) (.int .i64 t882)) (fun _ hk => hk.2) (.slice Ao104 t883.length co104)) (fun _ h_ => h_.1))))) (below_size (by repeat (first|(with_reducible first|exact HB.out|apply below_alloc|apply pw_below_drewN|apply below_drew1|refine below_set ?_ GE859.out|refine below_set ?_ GE865.out|refine below_set ?_ GE871.out|refine below_set ?_ GE881.out|refine below_set ?_ GE887.out)|exact HB.out))));have n6_:=Aside0.mk (blk_below (g:=gb859) (o:=.cells #[.int .i64 t855,.slice Ao10 t856.length co10] 28 (0,0)) (by (with_reducible repeat (first|refine blk_drewN ?_ _|refine blk_drew ?_|refine blk_alloc ?_ _));refine blk_far ?_ NB859_887.out _;(with_reducible repeat (first|refine blk_drewN ?_ _|refine blk_drew ?_|refine blk_alloc ?_ _));refine blk_far ?_ NB859_887.out _;(with_reducible repeat (first|refine blk_drewN ?_ _|refine blk_drew ?_|refine blk_alloc ?_ _));exact BK859.out) hb);have n7_:=Aside0.mk (blk_below (g:=gb865) (o:=.cells #[.int .i64 t860,.slice Ao15 t861.length co15] 28 (0,0)) (by (with_reducible repeat (first|refine blk_drewN ?_ _|refine blk_drew ?_|refine blk_alloc ?_ _));refine blk_far ?_ NB865_887.out _;(with_reducible repeat (first|refine blk_drewN ?_ _|refine blk_drew ?_|refine blk_alloc ?_ _));refine blk_far ?_ NB865_887.out _;(with_reducible repeat (first|refine blk_drewN ?_ _|refine blk_drew ?_|refine blk_alloc ?_ _));exact BK865.out) hb);have n8_:=Aside0.mk (blk_below (g:=gb871) (o:=.cells #[.int .i64 t866,.slice Ao22 t867.length co22] 28 (0,0)) (by (with_reducible repeat (first|refine blk_drewN ?_ _|refine blk_drew ?_|refine blk_alloc ?_ _));refine blk_far ?_ NB871_887.out _;(with_reducible repeat (first|refine blk_drewN ?_ _|refine blk_drew ?_|refine blk_alloc ?_ _));refine blk_far ?_ NB871_887.out _;(with_reducible repeat (first|refine blk_drewN ?_ _|refine blk_drew ?_|refine blk_alloc ?_ _));exact BK871.out) hb);have n9_:=Aside0.mk (blk_below (g:=gb881) (o:=.cells #[.int .i64 t876,.slice Ao93 t877.length co93] 28 (0,0)) (by (with_reducible repeat (first|refine blk_drewN ?_ _|refine blk_drew ?_|refine blk_alloc ?_ _));refine blk_far ?_ NB881_887.out _;(with_reducible repeat (first|refine blk_drewN ?_ _|refine blk_drew ?_|refine blk_alloc ?_ _));refine blk_far ?_ NB881_887.out _;(with_reducible repeat (first|refine blk_drewN ?_ _|refine blk_drew ?_|refine blk_alloc ?_ _));exact BK881.out) hb);have n10_:=Aside0.mk (blk_below (g:=gb887) (o:=.cells #[.int .i64 t882,.slice Ao104 t883.length co104] 28 (0,0)) (by (with_reducible repeat (first|refine blk_drewN ?_ _|refine blk_drew ?_|refine blk_alloc ?_ _));refine blk_put (cs:=#[.int .i64 t882,.slice none 0 0]) ?_ 1 _ rfl;(with_reducible repeat (first|refine blk_drewN ?_ _|refine blk_drew ?_|refine blk_alloc ?_ _));refine blk_put (cs:=#[.int .i64 0,.slice none 0 0]) ?_ 0 _ rfl;(with_reducible repeat (first|refine blk_drewN ?_ _|refine blk_drew ?_|refine blk_alloc ?_ _));exact BK887.out) hb);have n11_:=Aside0.mk (below_step (by repeat (first|(with_reducible first|exact HB.out|apply below_alloc|apply pw_below_drewN|apply below_drew1|refine below_set ?_ GE859.out|refine below_set ?_ GE865.out|refine below_set ?_ GE871.out|refine below_set ?_ GE881.out|refine below_set ?_ GE887.out)|exact HB.out)) hb);clear HO_860001;clear HO_866001;clear HO_872001;clear HO879;clear HO885;clear BK859;clear BK865;clear BK871;clear BK881;clear BK887;clear HB;have HO_860001:=n0_;have HO_866001:=n1_;have HO_872001:=n2_;have HO879:=n3_;have HO885:=n4_;have HO891:=n5_;have BK859:=n6_;have BK865:=n7_;have BK871:=n8_;have BK881:=n9_;have BK887:=n10_;have HB:=n11_;clear n0_ n1_ n2_ n3_ n4_ n5_ n6_ n7_ n8_ n9_ n10_ n11_;(try clear hb);(try clear hb2);(try clear hk);(try clear hi);(try clear ho0))|((with_reducible refine gate_dst (N:=12) rfl ?_);refine box_event ?hg (N:=12) ?hd (cs:=#[.int .i64 0,.slice none 0 0]) (t:=28) ?hr ?_;(case hd => rfl);(case hg => rfl);(case hr => first|(go_simp;done)|(go_simp;rfl));intro gb893 hg w108 hbox hb;have n0_:=Aside0.mk (Kd.V_below (Kd.V_elderB (by (with_reducible repeat (first|apply Kd.V_alloc|apply Kd.V_drewN|apply Kd.V_drew));exact HO_860001.out) gb893 (Nat.le_of_eq hg.symm)) hb);have n1_:=Aside0.mk (Kd.R_below (by (with_reducible repeat (first|apply Kd.R_alloc|apply Kd.R_drewN|apply Kd.R_drew));exact HO_866001.out) hb);have n2_:=Aside0.mk (Kd.R_below (by (with_reducible repeat (first|apply Kd.R_alloc|apply Kd.R_drewN|apply Kd.R_drew));exact HO_872001.out) hb);have n3_:=Aside0.mk (Kd.R_below (by (with_reducible repeat (first|apply Kd.R_alloc|apply Kd.R_drewN|apply Kd.R_drew));exact HO879.out) hb);have n4_:=Aside0.mk (Kd.R_below (by (with_reducible repeat (first|apply Kd.R_alloc|apply Kd.R_drewN|apply Kd.R_drew));exact HO885.out) hb);have n5_:=Aside0.mk (Kd.R_below (by (with_reducible repeat (first|apply Kd.R_alloc|apply Kd.R_drewN|apply Kd.R_drew));exact HO891.out) hb);have n6_:=Aside0.mk (blk_below (g:=gb859) (o:=.cells #[.int .i64 t855,.slice Ao10 t856.length co10] 28 (0,0)) (by (with_reducible repeat (first|refine blk_drewN ?_ _|refine blk_drew ?_|refine blk_alloc ?_ _));exact BK859.out) hb);have n7_:=Aside0.mk (blk_below (g:=gb865) (o:=.cells #[.int .i64 t860,.slice Ao15 t861.length co15] 28 (0,0)) (by (with_reducible repeat (first|refine blk_drewN ?_ _|refine blk_drew ?_|refine blk_alloc ?_ _));exact BK865.out) hb);have n8_:=Aside0.mk (blk_below (g:=gb871) (o:=.cells #[.int .i64 t866,.slice Ao22 t867.length co22] 28 (0,0)) (by (with_reducible repeat (first|refine blk_drewN ?_ _|refine blk_drew ?_|refine blk_alloc ?_ _));exact BK871.out) hb);have n9_:=Aside0.mk (blk_below (g:=gb881) (o:=.cells #[.int .i64 t876,.slice Ao93 t877.length co93] 28 (0,0)) (by (with_reducible repeat (first|refine blk_drewN ?_ _|refine blk_drew ?_|refine blk_alloc ?_ _));exact BK881.out) hb);have n10_:=Aside0.mk (blk_below (g:=gb887) (o:=.cells #[.int .i64 t882,.slice Ao104 t883.length co104] 28 (0,0)) (by (with_reducible repeat (first|refine blk_drewN ?_ _|refine blk_drew ?_|refine blk_alloc ?_ _));exact BK887.out) hb);have n11_:=Aside0.mk (below_step (by repeat (first|(with_reducible first|exact HB.out|apply below_alloc|apply pw_below_drewN|apply below_drew1|refine below_set ?_ GE859.out|refine below_set ?_ GE865.out|refine below_set ?_ GE871.out|refine below_set ?_ GE881.out|refine below_set ?_ GE887.out)|exact HB.out)) hb);have n12_:=Aside0.mk (hbox);have n13_:=Aside0.mk ((by rw [hg];exact (below_size (by repeat (first|(with_reducible first|exact HB.out|apply below_alloc|apply pw_below_drewN|apply below_drew1|refine below_set ?_ GE859.out|refine below_set ?_ GE865.out|refine below_set ?_ GE871.out|refine below_set ?_ GE881.out|refine below_set ?_ GE887.out)|exact HB.out))) : w.heap.size ≤ gb893));have n14_:=Aside0.mk ((by rw [hg];exact (below_size (by repeat (first|(with_reducible first|exact HB.out|apply below_alloc|apply pw_below_drewN|apply below_drew1|refine below_set ?_ GE859.out|refine below_set ?_ GE865.out|refine below_set ?_ GE871.out|refine below_set ?_ GE881.out|refine below_set ?_ GE887.out)|exact HB.out))) : w.heap.size ≤ gb893));have n15_:=Aside0.mk ((by rw [hg];exact Nat.ne_of_lt (blk_lt (g:=gb859) (o:=.cells #[.int .i64 t855,.slice Ao10 t856.length co10] 28 (0,0)) (by (with_reducible repeat (first|refine blk_drewN ?_ _|refine blk_drew ?_|refine blk_alloc ?_ _));exact BK859.out)) : gb859 ≠ gb893));have n16_:=Aside0.mk ((by rw [hg];exact Nat.ne_of_gt (blk_lt (g:=gb859) (o:=.cells #[.int .i64 t855,.slice Ao10 t856.length co10] 28 (0,0)) (by (with_reducible repeat (first|refine blk_drewN ?_ _|refine blk_drew ?_|refine blk_alloc ?_ _));exact BK859.out)) : gb893 ≠ gb859));have n17_:=Aside0.mk ((by rw [hg];exact Nat.ne_of_lt (blk_lt (g:=gb865) (o:=.cells #[.int .i64 t860,.slice Ao15 t861.length co15] 28 (0,0)) (by (with_reducible repeat (first|refine blk_drewN ?_ _|refine blk_drew ?_|refine blk_alloc ?_ _));exact BK865.out)) : gb865 ≠ gb893));have n18_:=Aside0.mk ((by rw [hg];exact Nat.ne_of_gt (blk_lt (g:=gb865) (o:=.cells #[.int .i64 t860,.slice Ao15 t861.length co15] 28 (0,0)) (by (with_reducible repeat (first|refine blk_drewN ?_ _|refine blk_drew ?_|refine blk_alloc ?_ _));exact BK865.out)) : gb893 ≠ gb865));have n19_:=Aside0.mk ((by rw [hg];exact Nat.ne_of_lt (blk_lt (g:=gb871) (o:=.cells #[.int .i64 t866,.slice Ao22 t867.length co22] 28 (0,0)) (by (with_reducible repeat (first|refine blk_drewN ?_ _|refine blk_drew ?_|refine blk_alloc ?_ _));exact BK871.out)) : gb871 ≠ gb893));have n20_:=Aside0.mk ((by rw [hg];exact Nat.ne_of_gt (blk_lt (g:=gb871) (o:=.cells #[.int .i64 t866,.slice Ao22 t867.length co22] 28 (0,0)) (by (with_reducible repeat (first|refine blk_drewN ?_ _|refine blk_drew ?_|refine blk_alloc ?_ _));exact BK871.out)) : gb893 ≠ gb871));have n21_:=Aside0.mk ((by rw [hg];exact Nat.ne_of_lt (blk_lt (g:=gb881) (o:=.cells #[.int .i64 t876,.slice Ao93 t877.length co93] 28 (0,0)) (by (with_reducible repeat (first|refine blk_drewN ?_ _|refine blk_drew ?_|refine blk_alloc ?_ _));exact BK881.out)) : gb881 ≠ gb893));have n22_:=Aside0.mk ((by rw [hg];exact Nat.ne_of_gt (blk_lt (g:=gb881) (o:=.cells #[.int .i64 t876,.slice Ao93 t877.length co93] 28 (0,0)) (by (with_reducible repeat (first|refine blk_drewN ?_ _|refine blk_drew ?_|refine blk_alloc ?_ _));exact BK881.out)) : gb893 ≠ gb881));have n23_:=Aside0.mk ((by rw [hg];exact Nat.ne_of_lt (blk_lt (g:=gb887) (o:=.cells #[.int .i64 t882,.slice Ao104 t883.length co104] 28 (0,0)) (by (with_reducible repeat (first|refine blk_drewN ?_ _|refine blk_drew ?_|refine blk_alloc ?_ _));exact BK887.out)) : gb887 ≠ gb893));have n24_:=Aside0.mk ((by rw [hg];exact Nat.ne_of_gt (blk_lt (g:=gb887) (o:=.cells #[.int .i64 t882,.slice Ao104 t883.length co104] 28 (0,0)) (by (with_reducible repeat (first|refine blk_drewN ?_ _|refine blk_drew ?_|refine blk_alloc ?_ _));exact BK887.out)) : gb893 ≠ gb887));clear HO_860001;clear HO_866001;clear HO_872001;clear HO879;clear HO885;clear HO891;clear BK859;clear BK865;clear BK871;clear BK881;clear BK887;clear HB;have HO_860001:=n0_;have HO_866001:=n1_;have HO_872001:=n2_;have HO879:=n3_;have HO885:=n4_;have HO891:=n5_;have BK859:=n6_;have BK865:=n7_;have BK871:=n8_;have BK881:=n9_;have BK887:=n10_;have HB:=n11_;have BK893:=n12_;have GW893:=n13_;have GE893:=n14_;have NB859_893:=n15_;have NB893_859:=n16_;have NB865_893:=n17_;have NB893_865:=n18_;have NB871_893:=n19_;have NB893_871:=n20_;have NB881_893:=n21_;have NB893_881:=n22_;have NB887_893:=n23_;have NB893_887:=n24_;clear n0_ n1_ n2_ n3_ n4_ n5_ n6_ n7_ n8_ n9_ n10_ n11_ n12_ n13_ n14_ n15_ n16_ n17_ n18_ n19_ n20_ n21_ n22_ n23_ n24_;clear hb hbox hg;have hnb109:=NB893_859.out;have hnc109:=NB859_893.out;have hnb110:=NB893_865.out;have hnc110:=NB865_893.out;have hnb111:=NB893_871.out;have hnc111:=NB871_893.out;have hnb112:=NB893_881.out;have hnc112:=NB881_893.out;have hnb113:=NB893_887.out;have hnc113:=NB887_893.out;have hcz114_0 : w108.cell? ⟨gb893,0,none⟩ = some (.int .i64 0):=(blk_cell BK893.out 0).trans rfl;have hcz114_1 : w108.cell? ⟨gb893,1,none⟩ = some (.slice none 0 0):=(blk_cell BK893.out 1).trans rfl;have hfz114_0:=blk_frozen BK893.out 0;have hfz114_1:=blk_frozen BK893.out 1;obtain ⟨Ao115,co115,eo115⟩:=Kd.R_slice HO891.out;subst eo115;have hcz116_0 : w108.cell? ⟨gb865,0,none⟩ = some (.int .i64 t860):=(blk_cell BK865.out 0).trans rfl;have hcz116_1 : w108.cell? ⟨gb865,1,none⟩ = some (.slice Ao15 t861.length co15):=(blk_cell BK865.out 1).trans rfl;have hfz116_0:=blk_frozen BK865.out 0;have hfz116_1:=blk_frozen BK865.out 1))
     go_loopg [84] kj5 (fun kq v84 w' => ∃ (x84_2 : Int),v84 = .int .i64 x84_2 ∧ Aside0 (laws_FnStabilise.l0 kq t880 t861 (t861.length : Int) x84_2 t855 t856 t860 t861 t876 t877 t882 t883 t888 t889 = some r) ∧ Aside0 (kq ≤ kj5) ∧ Aside0 (Kd.R (Kd.int .i64) 3 w' w.heap.size (fun k_ => some k_ ≠ ((.slice Ao22 t867.length co22) : Value).ownBlock ∧ some k_ ≠ ((.slice Ao93 t877.length co93) : Value).ownBlock ∧ some k_ ≠ ((.slice Ao104 t883.length co104) : Value).ownBlock ∧ some k_ ≠ ((.slice Ao115 t889.length co115) : Value).ownBlock) (.slice Ao15 t861.length co15) t861) ∧ Aside0 (Kd.V (Kd.int .i64) 3 w' w.heap.size (fun k_ => some k_ ≠ ((.slice Ao15 t861.length co15) : Value).ownBlock ∧ some k_ ≠ ((.slice Ao15 t861.length co15) : Value).ownBlock ∧ some k_ ≠ ((.slice Ao22 t867.length co22) : Value).ownBlock ∧ some k_ ≠ ((.slice Ao93 t877.length co93) : Value).ownBlock ∧ some k_ ≠ ((.slice Ao104 t883.length co104) : Value).ownBlock ∧ some k_ ≠ ((.slice Ao115 t889.length co115) : Value).ownBlock ∧ k_ ≠ gb859 ∧ k_ ≠ gb865 ∧ k_ ≠ gb871 ∧ k_ ≠ gb881 ∧ k_ ≠ gb887 ∧ k_ ≠ gb893) (.slice Ao10 t856.length co10) t856) ∧ Aside0 (Kd.R (Kd.int .i64) 3 w' w.heap.size (fun k_ => some k_ ≠ ((.slice Ao22 t867.length co22) : Value).ownBlock ∧ some k_ ≠ ((.slice Ao93 t877.length co93) : Value).ownBlock ∧ some k_ ≠ ((.slice Ao104 t883.length co104) : Value).ownBlock ∧ some k_ ≠ ((.slice Ao115 t889.length co115) : Value).ownBlock) (.slice Ao15 t861.length co15) t861) ∧ Aside0 (Kd.R (Kd.int .i64) 3 w' w.heap.size (fun k_ => some k_ ≠ ((.slice Ao15 t861.length co15) : Value).ownBlock ∧ some k_ ≠ ((.slice Ao15 t861.length co15) : Value).ownBlock ∧ some k_ ≠ ((.slice Ao93 t877.length co93) : Value).ownBlock ∧ some k_ ≠ ((.slice Ao104 t883.length co104) : Value).ownBlock ∧ some k_ ≠ ((.slice Ao115 t889.length co115) : Value).ownBlock) (.slice Ao22 t867.length co22) t867) ∧ Aside0 (Kd.R (Kd.int .i64) 3 w' w.heap.size (fun k_ => some k_ ≠ ((.slice Ao15 t861.length co15) : Value).ownBlock ∧ some k_ ≠ ((.slice Ao15 t861.length co15) : Value).ownBlock ∧ some k_ ≠ ((.slice Ao22 t867.length co22) : Value).ownBlock ∧ some k_ ≠ ((.slice Ao104 t883.length co104) : Value).ownBlock ∧ some k_ ≠ ((.slice Ao115 t889.length co115) : Value).ownBlock) (.slice Ao93 t877.length co93) t877) ∧ Aside0 (Kd.R (Kd.int .i64) 3 w' w.heap.size (fun k_ => some k_ ≠ ((.slice Ao15 t861.length co15) : Value).ownBlock ∧ some k_ ≠ ((.slice Ao15 t861.length co15) : Value).ownBlock ∧ some k_ ≠ ((.slice Ao22 t867.length co22) : Value).ownBlock ∧ some k_ ≠ ((.slice Ao93 t877.length co93) : Value).ownBlock ∧ some k_ ≠ ((.slice Ao115 t889.length co115) : Value).ownBlock) (.slice Ao104 t883.length co104) t883) ∧ Aside0 (Kd.R (Kd.int .i64) 3 w' w.heap.size (fun k_ => some k_ ≠ ((.slice Ao15 t861.length co15) : Value).ownBlock ∧ some k_ ≠ ((.slice Ao15 t861.length co15) : Value).ownBlock ∧ some k_ ≠ ((.slice Ao22 t867.length co22) : Value).ownBlock ∧ some k_ ≠ ((.slice Ao93 t877.length co93) : Value).ownBlock ∧ some k_ ≠ ((.slice Ao104 t883.length co104) : Value).ownBlock) (.slice Ao115 t889.length co115) t889) ∧ Aside0 (w'.heap[gb859]? = some (.cells #[.int .i64 t855,(.slice Ao10 t856.length co10)] 28 (0,0))) ∧ Aside0 (w'.heap[gb865]? = some (.cells #[.int .i64 t860,(.slice Ao15 t861.length co15)] 28 (0,0))) ∧ Aside0 (w'.heap[gb871]? = some (.cells #[.int .i64 t866,(.slice Ao22 t867.length co22)] 28 (0,0))) ∧ Aside0 (w'.heap[gb881]? = some (.cells #[.int .i64 t876,(.slice Ao93 t877.length co93)] 28 (0,0))) ∧ Aside0 (w'.heap[gb887]? = some (.cells #[.int .i64 t882,(.slice Ao104 t883.length co104)] 28 (0,0))) ∧ Aside0 (w'.heap[gb893]? = some (.cells #[.int .i64 t888,(.slice Ao115 t889.length co115)] 28 (0,0))) ∧ Aside0 (Below w.heap.size w w'))
     case atStart => exact ⟨(0),(by first|rfl|(simp;done)|(simp [*];done)),H',⟨Nat.le_refl _⟩,⟨by (with_reducible repeat (first|apply Kd.R_alloc|apply Kd.R_drewN|apply Kd.R_drew));exact Kd.R_mono (Kd.R_far (p:=⟨gb893,1,none⟩) (Kd.R_far (p:=⟨gb893,0,none⟩) (Kd.R_types HO_866001.out BK893.out (by decide)) (fun _ hk => hk.2) (.int .i64 t888)) (fun _ hk => hk.2) (.slice Ao115 t889.length co115)) (fun _ hk => ⟨hk.1.1.1.1,⟨hk.1.1.1.2,⟨hk.1.1.2,hk.1.2⟩⟩⟩)⟩,⟨by (with_reducible repeat (first|apply Kd.V_alloc|apply Kd.V_drewN|apply Kd.V_drew));exact Kd.V_mono (Kd.V_far (p:=⟨gb893,1,none⟩) (Kd.V_far (p:=⟨gb893,0,none⟩) (Kd.V_mono HO_860001.out (fun k_ hk => (⟨hk,hk.2⟩ : _ ∧ k_ ≠ gb893))) (fun _ hk => hk.2) (.int .i64 t888)) (fun _ hk => hk.2) (.slice Ao115 t889.length co115)) (fun _ hk => ⟨hk.1.1.1.1.1.1.1.1,⟨hk.1.1.1.1.1.1.1.1,⟨hk.1.1.1.1.1.1.1.2.1,⟨hk.1.1.1.1.1.1.2,⟨hk.1.1.1.1.2,⟨hk.1.1.2,⟨hk.1.1.1.1.1.1.1.2.2.1,⟨hk.1.1.1.1.1.1.1.2.2.2.1,⟨hk.1.1.1.1.1.1.1.2.2.2.2,⟨hk.1.1.1.1.1.2,⟨hk.1.1.1.2,hk.1.2⟩⟩⟩⟩⟩⟩⟩⟩⟩⟩⟩)⟩,⟨by (with_reducible repeat (first|apply Kd.R_alloc|apply Kd.R_drewN|apply Kd.R_drew));exact Kd.R_mono (Kd.R_far (p:=⟨gb893,1,none⟩) (Kd.R_far (p:=⟨gb893,0,none⟩) (Kd.R_types HO_866001.out BK893.out (by decide)) (fun _ hk => hk.2) (.int .i64 t888)) (fun _ hk => hk.2) (.slice Ao115 t889.length co115)) (fun _ hk => ⟨hk.1.1.1.1,⟨hk.1.1.1.2,⟨hk.1.1.2,hk.1.2⟩⟩⟩)⟩,⟨by (with_reducible repeat (first|apply Kd.R_alloc|apply Kd.R_drewN|apply Kd.R_drew));exact Kd.R_mono (Kd.R_far (p:=⟨gb893,1,none⟩) (Kd.R_far (p:=⟨gb893,0,none⟩) (Kd.R_types HO_872001.out BK893.out (by decide)) (fun _ hk => hk.2) (.int .i64 t888)) (fun _ hk => hk.2) (.slice Ao115 t889.length co115)) (fun _ hk => ⟨hk.1.1.1.1,⟨hk.1.1.1.1,⟨hk.1.1.1.2,⟨hk.1.1.2,hk.1.2⟩⟩⟩⟩)⟩,⟨by (with_reducible repeat (first|apply Kd.R_alloc|apply Kd.R_drewN|apply Kd.R_drew));exact Kd.R_mono (Kd.R_far (p:=⟨gb893,1,none⟩) (Kd.R_far (p:=⟨gb893,0,none⟩) (Kd.R_types HO879.out BK893.out (by decide)) (fun _ hk => hk.2) (.int .i64 t888)) (fun _ hk => hk.2) (.slice Ao115 t889.length co115)) (fun _ hk => ⟨hk.1.1.1.1.2,⟨hk.1.1.1.1.2,⟨hk.1.1.1.2,⟨hk.1.1.2,hk.1.2⟩⟩⟩⟩)⟩,⟨by (with_reducible repeat (first|apply Kd.R_alloc|apply Kd.R_drewN|apply Kd.R_drew));exact Kd.R_mono (Kd.R_far (p:=⟨gb893,1,none⟩) (Kd.R_far (p:=⟨gb893,0,none⟩) (Kd.R_types HO885.out BK893.out (by decide)) (fun _ hk => hk.2) (.int .i64 t888)) (fun _ hk => hk.2) (.slice Ao115 t889.length co115)) (fun _ hk => ⟨hk.1.1.1.1.2,⟨hk.1.1.1.1.2,⟨hk.1.1.1.2,⟨hk.1.1.2,hk.1.2⟩⟩⟩⟩)⟩,⟨by (with_reducible repeat (first|apply Kd.R_alloc|apply Kd.R_drewN|apply Kd.R_drew));exact Kd.R_mono (Kd.R_far (p:=⟨gb893,1,none⟩) (Kd.R_far (p:=⟨gb893,0,none⟩) (Kd.R_types HO891.out BK893.out (by decide)) (fun _ hk => hk.2) (.int .i64 t888)) (fun _ hk => hk.2) (.slice Ao115 t889.length co115)) (fun _ hk => ⟨hk.1.1.1.1.2,⟨hk.1.1.1.1.2,⟨hk.1.1.1.2,⟨hk.1.1.2,hk.1.2⟩⟩⟩⟩)⟩,⟨by (with_reducible repeat (first|refine blk_drewN ?_ _|refine blk_drew ?_|refine blk_alloc ?_ _));refine blk_far ?_ NB859_893.out _;(with_reducible repeat (first|refine blk_drewN ?_ _|refine blk_drew ?_|refine blk_alloc ?_ _));refine blk_far ?_ NB859_893.out _;(with_reducible repeat (first|refine blk_drewN ?_ _|refine blk_drew ?_|refine blk_alloc ?_ _));exact BK859.out⟩,⟨by (with_reducible repeat (first|refine blk_drewN ?_ _|refine blk_drew ?_|refine blk_alloc ?_ _));refine blk_far ?_ NB865_893.out _;(with_reducible repeat (first|refine blk_drewN ?_ _|refine blk_drew ?_|refine blk_alloc ?_ _));refine blk_far ?_ NB865_893.out _;(with_reducible repeat (first|refine blk_drewN ?_ _|refine blk_drew ?_|refine blk_alloc ?_ _));exact BK865.out⟩,⟨by (with_reducible repeat (first|refine blk_drewN ?_ _|refine blk_drew ?_|refine blk_alloc ?_ _));refine blk_far ?_ NB871_893.out _;(with_reducible repeat (first|refine blk_drewN ?_ _|refine blk_drew ?_|refine blk_alloc ?_ _));refine blk_far ?_ NB871_893.out _;(with_reducible repeat (first|refine blk_drewN ?_ _|refine blk_drew ?_|refine blk_alloc ?_ _));exact BK871.out⟩,⟨by (with_reducible repeat (first|refine blk_drewN ?_ _|refine blk_drew ?_|refine blk_alloc ?_ _));refine blk_far ?_ NB881_893.out _;(with_reducible repeat (first|refine blk_drewN ?_ _|refine blk_drew ?_|refine blk_alloc ?_ _));refine blk_far ?_ NB881_893.out _;(with_reducible repeat (first|refine blk_drewN ?_ _|refine blk_drew ?_|refine blk_alloc ?_ _));exact BK881.out⟩,⟨by (with_reducible repeat (first|refine blk_drewN ?_ _|refine blk_drew ?_|refine blk_alloc ?_ _));refine blk_far ?_ NB887_893.out _;(with_reducible repeat (first|refine blk_drewN ?_ _|refine blk_drew ?_|refine blk_alloc ?_ _));refine blk_far ?_ NB887_893.out _;(with_reducible repeat (first|refine blk_drewN ?_ _|refine blk_drew ?_|refine blk_alloc ?_ _));exact BK887.out⟩,⟨by (with_reducible repeat (first|refine blk_drewN ?_ _|refine blk_drew ?_|refine blk_alloc ?_ _));refine blk_put (cs:=#[.int .i64 t888,.slice none 0 0]) ?_ 1 _ rfl;(with_reducible repeat (first|refine blk_drewN ?_ _|refine blk_drew ?_|refine blk_alloc ?_ _));refine blk_put (cs:=#[.int .i64 0,.slice none 0 0]) ?_ 0 _ rfl;(with_reducible repeat (first|refine blk_drewN ?_ _|refine blk_drew ?_|refine blk_alloc ?_ _));exact BK893.out⟩,⟨by repeat (first|(with_reducible first|exact HB.out|apply below_alloc|apply pw_below_drewN|apply below_drew1|refine below_set ?_ GE859.out|refine below_set ?_ GE865.out|refine below_set ?_ GE871.out|refine below_set ?_ GE881.out|refine below_set ?_ GE887.out|refine below_set ?_ GE893.out)|exact HB.out)⟩⟩
     case round =>
      clear H'
      try clear c1
      try clear c2
      try clear c2b0
      try clear c2b1
      try clear p2
      try clear c3
      try clear c4
      try clear c5
      try clear c6
      try clear c7
      try clear c8
      try clear c9
      try clear c10
      try clear c11
      try clear c12
      try clear c13
      try clear c19
      try clear c20
      try clear c24
      try clear c25
      try clear c25b0
      try clear c25b1
      try clear c25b2
      try clear c26
      try clear c27
      try clear c29
      try clear c31
      try clear c33
      try clear c33b0
      try clear c33b1
      try clear c33b2
      try clear c34
      try clear c35
      try clear c37
      try clear c38
      try clear c39
      try clear c40
      try clear c42
      try clear c43
      try clear c45
      try clear c50
      try clear c51
      try clear c53
      try clear c56
      try clear c58
      try clear c59
      try clear c59b0
      try clear c59b1
      try clear c59b2
      try clear c61
      try clear c62
      try clear c64
      try clear c69
      try clear c70
      try clear c72
      try clear c75
      try clear c76
      try clear c78
      try clear c84
      try clear c85
      try clear c89
      try clear c90
      try clear c91
      try clear c94
      try clear c99
      try clear c100
      try clear c101
      try clear c102
      try clear c109
      try clear c110
      try clear c111
      try clear c112
      try clear c113
      try clear hcz103_0
      try clear hcz103_1
      try clear hcz105_0
      try clear hcz105_1
      try clear hcz106_0
      try clear hcz106_1
      try clear hcz114_0
      try clear hcz114_1
      try clear hcz116_0
      try clear hcz116_1
      try clear hcz14_0
      try clear hcz14_1
      try clear hcz16_0
      try clear hcz16_1
      try clear hcz21_0
      try clear hcz21_1
      try clear hcz28_0
      try clear hcz28_1
      try clear hcz30_0
      try clear hcz30_1
      try clear hcz36_0
      try clear hcz36_1
      try clear hcz38_0
      try clear hcz38_1
      try clear hcz40_0
      try clear hcz40_1
      try clear hcz44_0
      try clear hcz44_1
      try clear hcz46_0
      try clear hcz46_1
      try clear hcz48_0
      try clear hcz48_1
      try clear hcz52_0
      try clear hcz52_1
      try clear hcz54_0
      try clear hcz54_1
      try clear hcz63_0
      try clear hcz63_1
      try clear hcz65_0
      try clear hcz65_1
      try clear hcz67_0
      try clear hcz67_1
      try clear hcz71_0
      try clear hcz71_1
      try clear hcz73_0
      try clear hcz73_1
      try clear hcz77_0
      try clear hcz77_1
      try clear hcz79_0
      try clear hcz79_1
      try clear hcz86_0
      try clear hcz86_1
      try clear hcz92_0
      try clear hcz92_1
      try clear hcz95_0
      try clear hcz95_1
      try clear hcz96_0
      try clear hcz96_1
      try clear hcz9_0
      try clear hcz9_1
      try clear hfz103_0
      try clear hfz103_1
      try clear hfz105_0
      try clear hfz105_1
      try clear hfz106_0
      try clear hfz106_1
      try clear hfz114_0
      try clear hfz114_1
      try clear hfz116_0
      try clear hfz116_1
      try clear hfz14_0
      try clear hfz14_1
      try clear hfz16_0
      try clear hfz16_1
      try clear hfz21_0
      try clear hfz21_1
      try clear hfz28_0
      try clear hfz28_1
      try clear hfz30_0
      try clear hfz30_1
      try clear hfz36_0
      try clear hfz36_1
      try clear hfz38_0
      try clear hfz38_1
      try clear hfz40_0
      try clear hfz40_1
      try clear hfz44_0
      try clear hfz44_1
      try clear hfz46_0
      try clear hfz46_1
      try clear hfz48_0
      try clear hfz48_1
      try clear hfz52_0
      try clear hfz52_1
      try clear hfz54_0
      try clear hfz54_1
      try clear hfz63_0
      try clear hfz63_1
      try clear hfz65_0
      try clear hfz65_1
      try clear hfz67_0
      try clear hfz67_1
      try clear hfz71_0
      try clear hfz71_1
      try clear hfz73_0
      try clear hfz73_1
      try clear hfz77_0
      try clear hfz77_1
      try clear hfz79_0
      try clear hfz79_1
      try clear hfz86_0
      try clear hfz86_1
      try clear hfz92_0
      try clear hfz92_1
      try clear hfz95_0
      try clear hfz95_1
      try clear hfz96_0
      try clear hfz96_1
      try clear hfz9_0
      try clear hfz9_1
      try clear p2
      obtain ⟨x84_2,rfl,HA,HK2,HO_82,HO_860001,HO_866001,HO_872001,HO_882001,HO_888001,HO_894001,BK859,BK865,BK871,BK881,BK887,BK893,HB⟩:=hrel
      cases gk with
      | zero => exact absurd HA.out (by simp [laws_FnStabilise.l0])
      | succ k2 =>
       have H:=HA.out
       clear HA
       simp only [laws_FnStabilise.l0] at H
       by_cases c117 : x84_2 < (t861.length : Int)
       ·rw [if_pos c117] at H
        have c117b0 : decide (x84_2 < (t861.length : Int)) = true:=decide_eq_true c117
        clear c117
        by_cases c118 : 0 ≤ x84_2
        ·rw [if_pos c118] at H
         have c118b0 : decide (0 ≤ x84_2) = true:=decide_eq_true c118
         clear c118
         by_cases c119 : x84_2 < (t861.length : Int)
         ·rw [if_pos c119] at H
          have c119b0 : decide (x84_2 < (t861.length : Int)) = true:=decide_eq_true c119
          clear c119
          by_cases c120 : x84_2 < (t856.length : Int)
          ·rw [if_pos c120] at H
           have c120b0 : decide (x84_2 < (t856.length : Int)) = true:=decide_eq_true c120
           clear c120
           by_cases c121 : (rd t861 x84_2) < (rd t856 x84_2)
           ·rw [if_pos c121] at H
            have c121b0 : decide ((rd t861 x84_2) < (rd t856 x84_2)) = true:=decide_eq_true c121
            clear c121
            obtain rfl:=Option.some.inj H
            have p894 : 0 ≤ (x84_2 : Int):=of_decide_eq_true (by first|(with_reducible assumption)|assumption)
            have q894 : x84_2 < (t861.length : Int):=of_decide_eq_true (by first|(with_reducible assumption)|assumption)
            obtain ⟨ad894,e894,hx894_0⟩:=Kd.at_int (Kd.R_reads' HO_82.out).2.2 x84_2 p894 q894
            cases e894
            replace p894:=eq_true p894
            replace q894:=eq_true q894
            have hnb122:=NB859_865.out
            have hnc122:=NB865_859.out
            have hnb123:=NB859_871.out
            have hnc123:=NB871_859.out
            have hnb124:=NB859_881.out
            have hnc124:=NB881_859.out
            have hnb125:=NB859_887.out
            have hnc125:=NB887_859.out
            have hnb126:=NB859_893.out
            have hnc126:=NB893_859.out
            have hcz127_0 : wr.cell? ⟨gb859,0,none⟩ = some (.int .i64 t855):=(blk_cell BK859.out 0).trans rfl
            have hcz127_1 : wr.cell? ⟨gb859,1,none⟩ = some (.slice Ao10 t856.length co10):=(blk_cell BK859.out 1).trans rfl
            have hfz127_0:=blk_frozen BK859.out 0
            have hfz127_1:=blk_frozen BK859.out 1
            have p895 : 0 ≤ (x84_2 : Int):=of_decide_eq_true (by first|(with_reducible assumption)|assumption)
            have q895 : x84_2 < (t856.length : Int):=of_decide_eq_true (by first|(with_reducible assumption)|assumption)
            obtain ⟨ad895,e895,hx895_0⟩:=Kd.at_int (Kd.V_reads' HO_860001.out).2.2 x84_2 p895 q895
            cases e895
            replace p895:=eq_true p895
            replace q895:=eq_true q895
            go_wp2
            go_ret
            exact ⟨by first|rfl|(simp [errW_none,errW_some] <;> rfl)|(simp [*,errW_none,errW_some] <;> rfl),by repeat (first|(with_reducible first|exact HB.out|apply below_alloc|apply pw_below_drewN|apply below_drew1|refine below_set ?_ GE859.out|refine below_set ?_ GE865.out|refine below_set ?_ GE871.out|refine below_set ?_ GE881.out|refine below_set ?_ GE887.out|refine below_set ?_ GE893.out)|exact HB.out)⟩
           ·rw [if_neg c121] at H
            have c121b0 : decide ((rd t861 x84_2) < (rd t856 x84_2)) = false:=decide_eq_false c121
            clear c121
            by_cases c128 : (rd t861 x84_2) = 3
            ·rw [if_pos c128] at H
             have c128b0 : ((rd t861 x84_2) == 3) = true:=beq_iff_eq.mpr c128
             have c128b1 : ((rd t861 x84_2) != 3) = false:=bne_eq_false_iff_eq.mpr c128
             clear c128
             by_cases c129 : (rd t856 x84_2) = (rd t861 x84_2)
             ·rw [if_pos c129] at H
              have c129b0 : ((rd t856 x84_2) == (rd t861 x84_2)) = true:=beq_iff_eq.mpr c129
              have c129b1 : ((rd t856 x84_2) != (rd t861 x84_2)) = false:=bne_eq_false_iff_eq.mpr c129
              clear c129
              have H':=Aside0.mk H
              clear H
              have p894 : 0 ≤ (x84_2 : Int):=of_decide_eq_true (by first|(with_reducible assumption)|assumption)
              have q894 : x84_2 < (t861.length : Int):=of_decide_eq_true (by first|(with_reducible assumption)|assumption)
              obtain ⟨ad894,e894,hx894_0⟩:=Kd.at_int (Kd.R_reads' HO_82.out).2.2 x84_2 p894 q894
              cases e894
              replace p894:=eq_true p894
              replace q894:=eq_true q894
              have hnb130:=NB859_865.out
              have hnc130:=NB865_859.out
              have hnb131:=NB859_871.out
              have hnc131:=NB871_859.out
              have hnb132:=NB859_881.out
              have hnc132:=NB881_859.out
              have hnb133:=NB859_887.out
              have hnc133:=NB887_859.out
              have hnb134:=NB859_893.out
              have hnc134:=NB893_859.out
              have hcz135_0 : wr.cell? ⟨gb859,0,none⟩ = some (.int .i64 t855):=(blk_cell BK859.out 0).trans rfl
              have hcz135_1 : wr.cell? ⟨gb859,1,none⟩ = some (.slice Ao10 t856.length co10):=(blk_cell BK859.out 1).trans rfl
              have hfz135_0:=blk_frozen BK859.out 0
              have hfz135_1:=blk_frozen BK859.out 1
              have p895 : 0 ≤ (x84_2 : Int):=of_decide_eq_true (by first|(with_reducible assumption)|assumption)
              have q895 : x84_2 < (t856.length : Int):=of_decide_eq_true (by first|(with_reducible assumption)|assumption)
              obtain ⟨ad895,e895,hx895_0⟩:=Kd.at_int (Kd.V_reads' HO_860001.out).2.2 x84_2 p895 q895
              cases e895
              replace p895:=eq_true p895
              replace q895:=eq_true q895
              have p896 : 0 ≤ (x84_2 : Int):=of_decide_eq_true (by first|(with_reducible assumption)|assumption)
              have q896 : x84_2 < (t856.length : Int):=of_decide_eq_true (by first|(with_reducible assumption)|assumption)
              obtain ⟨ad896,e896,hx896_0⟩:=Kd.at_int (Kd.V_reads' HO_860001.out).2.2 x84_2 p896 q896
              obtain rfl : ad895 = ad896:=(by injection e896)
              replace p896:=eq_true p896
              replace q896:=eq_true q896
              go_wp2
              go_roundg k2
              case measure => have:=HJ5.out;have:=HK2.out;omega
              case rel => exact ⟨(wrap64 (x84_2 + 1)),(by first|rfl|(simp;done)|(simp [*];done)),H',⟨by have:=HJ5.out;have:=HK2.out;omega⟩,⟨by (with_reducible repeat (first|apply Kd.R_alloc|apply Kd.R_drewN|apply Kd.R_drew));exact HO_82.out⟩,⟨by (with_reducible repeat (first|apply Kd.V_alloc|apply Kd.V_drewN|apply Kd.V_drew));exact HO_860001.out⟩,⟨by (with_reducible repeat (first|apply Kd.R_alloc|apply Kd.R_drewN|apply Kd.R_drew));exact HO_866001.out⟩,⟨by (with_reducible repeat (first|apply Kd.R_alloc|apply Kd.R_drewN|apply Kd.R_drew));exact HO_872001.out⟩,⟨by (with_reducible repeat (first|apply Kd.R_alloc|apply Kd.R_drewN|apply Kd.R_drew));exact HO_882001.out⟩,⟨by (with_reducible repeat (first|apply Kd.R_alloc|apply Kd.R_drewN|apply Kd.R_drew));exact HO_888001.out⟩,⟨by (with_reducible repeat (first|apply Kd.R_alloc|apply Kd.R_drewN|apply Kd.R_drew));exact HO_894001.out⟩,⟨by (with_reducible repeat (first|refine blk_drewN ?_ _|refine blk_drew ?_|refine blk_alloc ?_ _));exact BK859.out⟩,⟨by (with_reducible repeat (first|refine blk_drewN ?_ _|refine blk_drew ?_|refine blk_alloc ?_ _));exact BK865.out⟩,⟨by (with_reducible repeat (first|refine blk_drewN ?_ _|refine blk_drew ?_|refine blk_alloc ?_ _));exact BK871.out⟩,⟨by (with_reducible repeat (first|refine blk_drewN ?_ _|refine blk_drew ?_|refine blk_alloc ?_ _));exact BK881.out⟩,⟨by (with_reducible repeat (first|refine blk_drewN ?_ _|refine blk_drew ?_|refine blk_alloc ?_ _));exact BK887.out⟩,⟨by (with_reducible repeat (first|refine blk_drewN ?_ _|refine blk_drew ?_|refine blk_alloc ?_ _));exact BK893.out⟩,⟨by repeat (first|(with_reducible first|exact HB.out|apply below_alloc|apply pw_below_drewN|apply below_drew1|refine below_set ?_ GE859.out|refine below_set ?_ GE865.out|refine below_set ?_ GE871.out|refine below_set ?_ GE881.out|refine below_set ?_ GE887.out|refine below_set ?_ GE893.out)|exact HB.out)⟩⟩
             ·rw [if_neg c129] at H
              have c129b0 : ((rd t856 x84_2) == (rd t861 x84_2)) = false:=beq_eq_false_iff_ne.mpr c129
              have c129b1 : ((rd t856 x84_2) != (rd t861 x84_2)) = true:=bne_iff_ne.mpr c129
              obtain rfl:=Option.some.inj H
              have p894 : 0 ≤ (x84_2 : Int):=of_decide_eq_true (by first|(with_reducible assumption)|assumption)
              have q894 : x84_2 < (t861.length : Int):=of_decide_eq_true (by first|(with_reducible assumption)|assumption)
              obtain ⟨ad894,e894,hx894_0⟩:=Kd.at_int (Kd.R_reads' HO_82.out).2.2 x84_2 p894 q894
              cases e894
              replace p894:=eq_true p894
              replace q894:=eq_true q894
              have hnb136:=NB859_865.out
              have hnc136:=NB865_859.out
              have hnb137:=NB859_871.out
              have hnc137:=NB871_859.out
              have hnb138:=NB859_881.out
              have hnc138:=NB881_859.out
              have hnb139:=NB859_887.out
              have hnc139:=NB887_859.out
              have hnb140:=NB859_893.out
              have hnc140:=NB893_859.out
              have hcz141_0 : wr.cell? ⟨gb859,0,none⟩ = some (.int .i64 t855):=(blk_cell BK859.out 0).trans rfl
              have hcz141_1 : wr.cell? ⟨gb859,1,none⟩ = some (.slice Ao10 t856.length co10):=(blk_cell BK859.out 1).trans rfl
              have hfz141_0:=blk_frozen BK859.out 0
              have hfz141_1:=blk_frozen BK859.out 1
              have p895 : 0 ≤ (x84_2 : Int):=of_decide_eq_true (by first|(with_reducible assumption)|assumption)
              have q895 : x84_2 < (t856.length : Int):=of_decide_eq_true (by first|(with_reducible assumption)|assumption)
              obtain ⟨ad895,e895,hx895_0⟩:=Kd.at_int (Kd.V_reads' HO_860001.out).2.2 x84_2 p895 q895
              cases e895
              replace p895:=eq_true p895
              replace q895:=eq_true q895
              have p896 : 0 ≤ (x84_2 : Int):=of_decide_eq_true (by first|(with_reducible assumption)|assumption)
              have q896 : x84_2 < (t856.length : Int):=of_decide_eq_true (by first|(with_reducible assumption)|assumption)
              obtain ⟨ad896,e896,hx896_0⟩:=Kd.at_int (Kd.V_reads' HO_860001.out).2.2 x84_2 p896 q896
              obtain rfl : ad895 = ad896:=(by injection e896)
              replace p896:=eq_true p896
              replace q896:=eq_true q896
              go_wp2
              go_ret
              exact ⟨by first|rfl|(simp [errW_none,errW_some] <;> rfl)|(simp [*,errW_none,errW_some] <;> rfl),by repeat (first|(with_reducible first|exact HB.out|apply below_alloc|apply pw_below_drewN|apply below_drew1|refine below_set ?_ GE859.out|refine below_set ?_ GE865.out|refine below_set ?_ GE871.out|refine below_set ?_ GE881.out|refine below_set ?_ GE887.out|refine below_set ?_ GE893.out)|exact HB.out)⟩
            ·rw [if_neg c128] at H
             have c128b0 : ((rd t861 x84_2) == 3) = false:=beq_eq_false_iff_ne.mpr c128
             have c128b1 : ((rd t861 x84_2) != 3) = true:=bne_iff_ne.mpr c128
             have H':=Aside0.mk H
             clear H
             have p894 : 0 ≤ (x84_2 : Int):=of_decide_eq_true (by first|(with_reducible assumption)|assumption)
             have q894 : x84_2 < (t861.length : Int):=of_decide_eq_true (by first|(with_reducible assumption)|assumption)
             obtain ⟨ad894,e894,hx894_0⟩:=Kd.at_int (Kd.R_reads' HO_82.out).2.2 x84_2 p894 q894
             cases e894
             replace p894:=eq_true p894
             replace q894:=eq_true q894
             have hnb142:=NB859_865.out
             have hnc142:=NB865_859.out
             have hnb143:=NB859_871.out
             have hnc143:=NB871_859.out
             have hnb144:=NB859_881.out
             have hnc144:=NB881_859.out
             have hnb145:=NB859_887.out
             have hnc145:=NB887_859.out
             have hnb146:=NB859_893.out
             have hnc146:=NB893_859.out
             have hcz147_0 : wr.cell? ⟨gb859,0,none⟩ = some (.int .i64 t855):=(blk_cell BK859.out 0).trans rfl
             have hcz147_1 : wr.cell? ⟨gb859,1,none⟩ = some (.slice Ao10 t856.length co10):=(blk_cell BK859.out 1).trans rfl
             have hfz147_0:=blk_frozen BK859.out 0
             have hfz147_1:=blk_frozen BK859.out 1
             have p895 : 0 ≤ (x84_2 : Int):=of_decide_eq_true (by first|(with_reducible assumption)|assumption)
             have q895 : x84_2 < (t856.length : Int):=of_decide_eq_true (by first|(with_reducible assumption)|assumption)
             obtain ⟨ad895,e895,hx895_0⟩:=Kd.at_int (Kd.V_reads' HO_860001.out).2.2 x84_2 p895 q895
             cases e895
             replace p895:=eq_true p895
             replace q895:=eq_true q895
             go_wp2
             go_roundg k2
             case measure => have:=HJ5.out;have:=HK2.out;omega
             case rel => exact ⟨(wrap64 (x84_2 + 1)),(by first|rfl|(simp;done)|(simp [*];done)),H',⟨by have:=HJ5.out;have:=HK2.out;omega⟩,⟨by (with_reducible repeat (first|apply Kd.R_alloc|apply Kd.R_drewN|apply Kd.R_drew));exact HO_82.out⟩,⟨by (with_reducible repeat (first|apply Kd.V_alloc|apply Kd.V_drewN|apply Kd.V_drew));exact HO_860001.out⟩,⟨by (with_reducible repeat (first|apply Kd.R_alloc|apply Kd.R_drewN|apply Kd.R_drew));exact HO_866001.out⟩,⟨by (with_reducible repeat (first|apply Kd.R_alloc|apply Kd.R_drewN|apply Kd.R_drew));exact HO_872001.out⟩,⟨by (with_reducible repeat (first|apply Kd.R_alloc|apply Kd.R_drewN|apply Kd.R_drew));exact HO_882001.out⟩,⟨by (with_reducible repeat (first|apply Kd.R_alloc|apply Kd.R_drewN|apply Kd.R_drew));exact HO_888001.out⟩,⟨by (with_reducible repeat (first|apply Kd.R_alloc|apply Kd.R_drewN|apply Kd.R_drew));exact HO_894001.out⟩,⟨by (with_reducible repeat (first|refine blk_drewN ?_ _|refine blk_drew ?_|refine blk_alloc ?_ _));exact BK859.out⟩,⟨by (with_reducible repeat (first|refine blk_drewN ?_ _|refine blk_drew ?_|refine blk_alloc ?_ _));exact BK865.out⟩,⟨by (with_reducible repeat (first|refine blk_drewN ?_ _|refine blk_drew ?_|refine blk_alloc ?_ _));exact BK871.out⟩,⟨by (with_reducible repeat (first|refine blk_drewN ?_ _|refine blk_drew ?_|refine blk_alloc ?_ _));exact BK881.out⟩,⟨by (with_reducible repeat (first|refine blk_drewN ?_ _|refine blk_drew ?_|refine blk_alloc ?_ _));exact BK887.out⟩,⟨by (with_reducible repeat (first|refine blk_drewN ?_ _|refine blk_drew ?_|refine blk_alloc ?_ _));exact BK893.out⟩,⟨by repeat (first|(with_reducible first|exact HB.out|apply below_alloc|apply pw_below_drewN|apply below_drew1|refine below_set ?_ GE859.out|refine below_set ?_ GE865.out|refine below_set ?_ GE871.out|refine below_set ?_ GE881.out|refine below_set ?_ GE887.out|refine below_set ?_ GE893.out)|exact HB.out)⟩⟩
          ·rw [if_neg c120] at H
           exact absurd H (by simp)
         ·rw [if_neg c119] at H
          exact absurd H (by simp)
        ·rw [if_neg c118] at H
         exact absurd H (by simp)
       ·rw [if_neg c117] at H
        have c117b0 : decide (x84_2 < (t861.length : Int)) = false:=decide_eq_false c117
        clear c117
        by_cases c148 : t880 = true
        ·subst c148
         have H1 : ((laws_daMatrix.f k2 t876 t877 t860 t861).bind fun t897 => (if t897 = true then ((impl_IsIdempotent.f k2 t860 t861).bind fun t898 => (if t898 = true then ((laws_daMatrix.f k2 t882 t883 t860 t861).bind fun t899 => (if t899 = true then ((laws_daMatrix.f k2 t888 t889 t860 t861).bind fun t900 => (some t900)) else (some false))) else (some false))) else (some false))) = some r:=by rw [if_pos rfl] at H;exact H
         clear H
         have H:=H1
         clear H1
         replace H:=Option.bind_eq_some_iff.mp H
         obtain ⟨t897,A1490,H⟩:=H
         replace H : (if t897 = true then ((impl_IsIdempotent.f k2 t860 t861).bind fun t898 => (if t898 = true then ((laws_daMatrix.f k2 t882 t883 t860 t861).bind fun t899 => (if t899 = true then ((laws_daMatrix.f k2 t888 t889 t860 t861).bind fun t900 => (some t900)) else (some false))) else (some false))) else (some false)) = some r:=H
         have A149:=Aside0.mk A1490
         clear A1490
         by_cases c150 : t897 = true
         ·subst c150
          have H1 : ((impl_IsIdempotent.f k2 t860 t861).bind fun t898 => (if t898 = true then ((laws_daMatrix.f k2 t882 t883 t860 t861).bind fun t899 => (if t899 = true then ((laws_daMatrix.f k2 t888 t889 t860 t861).bind fun t900 => (some t900)) else (some false))) else (some false))) = some r:=by rw [if_pos rfl] at H;exact H
          clear H
          have H:=H1
          clear H1
          replace H:=Option.bind_eq_some_iff.mp H
          obtain ⟨t898,A1510,H⟩:=H
          replace H : (if t898 = true then ((laws_daMatrix.f k2 t882 t883 t860 t861).bind fun t899 => (if t899 = true then ((laws_daMatrix.f k2 t888 t889 t860 t861).bind fun t900 => (some t900)) else (some false))) else (some false)) = some r:=H
          have A151:=Aside0.mk A1510
          clear A1510
          by_cases c152 : t898 = true
          ·subst c152
           have H1 : ((laws_daMatrix.f k2 t882 t883 t860 t861).bind fun t899 => (if t899 = true then ((laws_daMatrix.f k2 t888 t889 t860 t861).bind fun t900 => (some t900)) else (some false))) = some r:=by rw [if_pos rfl] at H;exact H
           clear H
           have H:=H1
           clear H1
           replace H:=Option.bind_eq_some_iff.mp H
           obtain ⟨t899,A1530,H⟩:=H
           replace H : (if t899 = true then ((laws_daMatrix.f k2 t888 t889 t860 t861).bind fun t900 => (some t900)) else (some false)) = some r:=H
           have A153:=Aside0.mk A1530
           clear A1530
           by_cases c154 : t899 = true
           ·subst c154
            have H1 : ((laws_daMatrix.f k2 t888 t889 t860 t861).bind fun t900 => (some t900)) = some r:=by rw [if_pos rfl] at H;exact H
            clear H
            have H:=H1
            clear H1
            replace H:=Option.bind_eq_some_iff.mp H
            obtain ⟨t900,A1550,H⟩:=H
            replace H : (some t900) = some r:=H
            have A155:=Aside0.mk A1550
            clear A1550
            obtain rfl:=Option.some.inj H
            have hnb156:=NB881_859.out
            have hnc156:=NB859_881.out
            have hnb157:=NB881_865.out
            have hnc157:=NB865_881.out
            have hnb158:=NB881_871.out
            have hnc158:=NB871_881.out
            have hnb159:=NB881_887.out
            have hnc159:=NB887_881.out
            have hnb160:=NB881_893.out
            have hnc160:=NB893_881.out
            have hcz161_0 : wr.cell? ⟨gb881,0,none⟩ = some (.int .i64 t876):=(blk_cell BK881.out 0).trans rfl
            have hcz161_1 : wr.cell? ⟨gb881,1,none⟩ = some (.slice Ao93 t877.length co93):=(blk_cell BK881.out 1).trans rfl
            have hfz161_0:=blk_frozen BK881.out 0
            have hfz161_1:=blk_frozen BK881.out 1
            have hnb162:=NB865_859.out
            have hnc162:=NB859_865.out
            have hnb163:=NB865_871.out
            have hnc163:=NB871_865.out
            have hnb164:=NB865_887.out
            have hnc164:=NB887_865.out
            have hnb165:=NB865_893.out
            have hnc165:=NB893_865.out
            have hcz166_0 : wr.cell? ⟨gb865,0,none⟩ = some (.int .i64 t860):=(blk_cell BK865.out 0).trans rfl
            have hcz166_1 : wr.cell? ⟨gb865,1,none⟩ = some (.slice Ao15 t861.length co15):=(blk_cell BK865.out 1).trans rfl
            have hfz166_0:=blk_frozen BK865.out 0
            have hfz166_1:=blk_frozen BK865.out 1
            go_wp2_with (first|(go_at_call 31;(with_reducible refine (laws_daMatrix.calls k2 t876 _ _ t877 t860 _ _ t861 true _ ?side1 ?side2 ?side3 ?side4 A149.out).mono ?_);(case side1 => repeat (first|exact (Kd.R_reads' HO_882001.out).2.2|(with_reducible refine Kd.C_alloc ?_ _)|(with_reducible refine Kd.C_drewN ?_ _)|(with_reducible refine Kd.C_drew ?_)));(case side2 => exact (Kd.R_reads' HO_882001.out).2.1);(case side3 => repeat (first|exact (Kd.R_reads' HO_866001.out).2.2|(with_reducible refine Kd.C_alloc ?_ _)|(with_reducible refine Kd.C_drewN ?_ _)|(with_reducible refine Kd.C_drew ?_)));(case side4 => exact (Kd.R_reads' HO_866001.out).2.1);rintro e w167 ⟨rfl,hb⟩;have n0_:=Aside0.mk (Kd.R_below (by (with_reducible repeat (first|apply Kd.R_alloc|apply Kd.R_drewN|apply Kd.R_drew));exact HO_82.out) hb);have n1_:=Aside0.mk (Kd.V_below (by (with_reducible repeat (first|apply Kd.V_alloc|apply Kd.V_drewN|apply Kd.V_drew));exact HO_860001.out) hb);have n2_:=Aside0.mk (Kd.R_below (by (with_reducible repeat (first|apply Kd.R_alloc|apply Kd.R_drewN|apply Kd.R_drew));exact HO_866001.out) hb);have n3_:=Aside0.mk (Kd.R_below (by (with_reducible repeat (first|apply Kd.R_alloc|apply Kd.R_drewN|apply Kd.R_drew));exact HO_872001.out) hb);have n4_:=Aside0.mk (Kd.R_below (by (with_reducible repeat (first|apply Kd.R_alloc|apply Kd.R_drewN|apply Kd.R_drew));exact HO_882001.out) hb);have n5_:=Aside0.mk (Kd.R_below (by (with_reducible repeat (first|apply Kd.R_alloc|apply Kd.R_drewN|apply Kd.R_drew));exact HO_888001.out) hb);have n6_:=Aside0.mk (Kd.R_below (by (with_reducible repeat (first|apply Kd.R_alloc|apply Kd.R_drewN|apply Kd.R_drew));exact HO_894001.out) hb);have n7_:=Aside0.mk (blk_below (g:=gb859) (o:=.cells #[.int .i64 t855,.slice Ao10 t856.length co10] 28 (0,0)) (by (with_reducible repeat (first|refine blk_drewN ?_ _|refine blk_drew ?_|refine blk_alloc ?_ _));exact BK859.out) hb);have n8_:=Aside0.mk (blk_below (g:=gb865) (o:=.cells #[.int .i64 t860,.slice Ao15 t861.length co15] 28 (0,0)) (by (with_reducible repeat (first|refine blk_drewN ?_ _|refine blk_drew ?_|refine blk_alloc ?_ _));exact BK865.out) hb);have n9_:=Aside0.mk (blk_below (g:=gb871) (o:=.cells #[.int .i64 t866,.slice Ao22 t867.length co22] 28 (0,0)) (by (with_reducible repeat (first|refine blk_drewN ?_ _|refine blk_drew ?_|refine blk_alloc ?_ _));exact BK871.out) hb);have n10_:=Aside0.mk (blk_below (g:=gb881) (o:=.cells #[.int .i64 t876,.slice Ao93 t877.length co93] 28 (0,0)) (by (with_reducible repeat (first|refine blk_drewN ?_ _|refine blk_drew ?_|refine blk_alloc ?_ _));exact BK881.out) hb);have n11_:=Aside0.mk (blk_below (g:=gb887) (o:=.cells #[.int .i64 t882,.slice Ao104 t883.length co104] 28 (0,0)) (by (with_reducible repeat (first|refine blk_drewN ?_ _|refine blk_drew ?_|refine blk_alloc ?_ _));exact BK887.out) hb);have n12_:=Aside0.mk (blk_below (g:=gb893) (o:=.cells #[.int .i64 t888,.slice Ao115 t889.length co115] 28 (0,0)) (by (with_reducible repeat (first|refine blk_drewN ?_ _|refine blk_drew ?_|refine blk_alloc ?_ _));exact BK893.out) hb);have n13_:=Aside0.mk (below_step (by repeat (first|(with_reducible first|exact HB.out|apply below_alloc|apply pw_below_drewN|apply below_drew1|refine below_set ?_ GE859.out|refine below_set ?_ GE865.out|refine below_set ?_ GE871.out|refine below_set ?_ GE881.out|refine below_set ?_ GE887.out|refine below_set ?_ GE893.out)|exact HB.out)) hb);clear HO_82;clear HO_860001;clear HO_866001;clear HO_872001;clear HO_882001;clear HO_888001;clear HO_894001;clear BK859;clear BK865;clear BK871;clear BK881;clear BK887;clear BK893;clear HB;have HO_82:=n0_;have HO_860001:=n1_;have HO_866001:=n2_;have HO_872001:=n3_;have HO_882001:=n4_;have HO_888001:=n5_;have HO_894001:=n6_;have BK859:=n7_;have BK865:=n8_;have BK871:=n9_;have BK881:=n10_;have BK887:=n11_;have BK893:=n12_;have HB:=n13_;clear n0_ n1_ n2_ n3_ n4_ n5_ n6_ n7_ n8_ n9_ n10_ n11_ n12_ n13_;(try clear hb);(try clear hb2);(try clear hk);(try clear hi);have hcz168_0 : w167.cell? ⟨gb865,0,none⟩ = some (.int .i64 t860):=(blk_cell BK865.out 0).trans rfl;have hcz168_1 : w167.cell? ⟨gb865,1,none⟩ = some (.slice Ao15 t861.length co15):=(blk_cell BK865.out 1).trans rfl;have hfz168_0:=blk_frozen BK865.out 0;have hfz168_1:=blk_frozen BK865.out 1)|(go_at_call 25;(with_reducible refine (impl_IsIdempotent.calls k2 t860 _ _ t861 true _ ?side1 ?side2 A151.out).mono ?_);(case side1 => repeat (first|exact (Kd.R_reads' HO_866001.out).2.2|(with_reducible refine Kd.C_alloc ?_ _)|(with_reducible refine Kd.C_drewN ?_ _)|(with_reducible refine Kd.C_drew ?_)));(case side2 => exact (Kd.R_reads' HO_866001.out).2.1);rintro e w169 ⟨rfl,hb⟩;have n0_:=Aside0.mk (Kd.R_below (by (with_reducible repeat (first|apply Kd.R_alloc|apply Kd.R_drewN|apply Kd.R_drew));exact HO_82.out) hb);have n1_:=Aside0.mk (Kd.V_below (by (with_reducible repeat (first|apply Kd.V_alloc|apply Kd.V_drewN|apply Kd.V_drew));exact HO_860001.out) hb);have n2_:=Aside0.mk (Kd.R_below (by (with_reducible repeat (first|apply Kd.R_alloc|apply Kd.R_drewN|apply Kd.R_drew));exact HO_866001.out) hb);have n3_:=Aside0.mk (Kd.R_below (by (with_reducible repeat (first|apply Kd.R_alloc|apply Kd.R_drewN|apply Kd.R_drew));exact HO_872001.out) hb);have n4_:=Aside0.mk (Kd.R_below (by (with_reducible repeat (first|apply Kd.R_alloc|apply Kd.R_drewN|apply Kd.R_drew));exact HO_882001.out) hb);have n5_:=Aside0.mk (Kd.R_below (by (with_reducible repeat (first|apply Kd.R_alloc|apply Kd.R_drewN|apply Kd.R_drew));exact HO_888001.out) hb);have n6_:=Aside0.mk (Kd.R_below (by (with_reducible repeat (first|apply Kd.R_alloc|apply Kd.R_drewN|apply Kd.R_drew));exact HO_894001.out) hb);have n7_:=Aside0.mk (blk_below (g:=gb859) (o:=.cells #[.int .i64 t855,.slice Ao10 t856.length co10] 28 (0,0)) (by (with_reducible repeat (first|refine blk_drewN ?_ _|refine blk_drew ?_|refine blk_alloc ?_ _));exact BK859.out) hb);have n8_:=Aside0.mk (blk_below (g:=gb865) (o:=.cells #[.int .i64 t860,.slice Ao15 t861.length co15] 28 (0,0)) (by (with_reducible repeat (first|refine blk_drewN ?_ _|refine blk_drew ?_|refine blk_alloc ?_ _));exact BK865.out) hb);have n9_:=Aside0.mk (blk_below (g:=gb871) (o:=.cells #[.int .i64 t866,.slice Ao22 t867.length co22] 28 (0,0)) (by (with_reducible repeat (first|refine blk_drewN ?_ _|refine blk_drew ?_|refine blk_alloc ?_ _));exact BK871.out) hb);have n10_:=Aside0.mk (blk_below (g:=gb881) (o:=.cells #[.int .i64 t876,.slice Ao93 t877.length co93] 28 (0,0)) (by (with_reducible repeat (first|refine blk_drewN ?_ _|refine blk_drew ?_|refine blk_alloc ?_ _));exact BK881.out) hb);have n11_:=Aside0.mk (blk_below (g:=gb887) (o:=.cells #[.int .i64 t882,.slice Ao104 t883.length co104] 28 (0,0)) (by (with_reducible repeat (first|refine blk_drewN ?_ _|refine blk_drew ?_|refine blk_alloc ?_ _));exact BK887.out) hb);have n12_:=Aside0.mk (blk_below (g:=gb893) (o:=.cells #[.int .i64 t888,.slice Ao115 t889.length co115] 28 (0,0)) (by (with_reducible repeat (first|refine blk_drewN ?_ _|refine blk_drew ?_|refine blk_alloc ?_ _));exact BK893.out) hb);have n13_:=Aside0.mk (below_step (by repeat (first|(with_reducible first|exact HB.out|apply below_alloc|apply pw_below_drewN|apply below_drew1|refine below_set ?_ GE859.out|refine below_set ?_ GE865.out|refine below_set ?_ GE871.out|refine below_set ?_ GE881.out|refine below_set ?_ GE887.out|refine below_set ?_ GE893.out)|exact HB.out)) hb);clear HO_82;clear HO_860001;clear HO_866001;clear HO_872001;clear HO_882001;clear HO_888001;clear HO_894001;clear BK859;clear BK865;clear BK871;clear BK881;clear BK887;clear BK893;clear HB;have HO_82:=n0_;have HO_860001:=n1_;have HO_866001:=n2_;have HO_872001:=n3_;have HO_882001:=n4_;have HO_888001:=n5_;have HO_894001:=n6_;have BK859:=n7_;have BK865:=n8_;have BK871:=n9_;have BK881:=n10_;have BK887:=n11_;have BK893:=n12_;have HB:=n13_;clear n0_ n1_ n2_ n3_ n4_ n5_ n6_ n7_ n8_ n9_ n10_ n11_ n12_ n13_;(try clear hb);(try clear hb2);(try clear hk);(try clear hi);have hnb170:=NB887_859.out;have hnc170:=NB859_887.out;have hnb171:=NB887_871.out;have hnc171:=NB871_887.out;have hnb172:=NB887_893.out;have hnc172:=NB893_887.out;have hcz173_0 : w169.cell? ⟨gb887,0,none⟩ = some (.int .i64 t882):=(blk_cell BK887.out 0).trans rfl;have hcz173_1 : w169.cell? ⟨gb887,1,none⟩ = some (.slice Ao104 t883.length co104):=(blk_cell BK887.out 1).trans rfl;have hfz173_0:=blk_frozen BK887.out 0;have hfz173_1:=blk_frozen BK887.out 1;have hcz174_0 : w169.cell? ⟨gb865,0,none⟩ = some (.int .i64 t860):=(blk_cell BK865.out 0).trans rfl;have hcz174_1 : w169.cell? ⟨gb865,1,none⟩ = some (.slice Ao15 t861.length co15):=(blk_cell BK865.out 1).trans rfl;have hfz174_0:=blk_frozen BK865.out 0;have hfz174_1:=blk_frozen BK865.out 1)|(go_at_call 31;(with_reducible refine (laws_daMatrix.calls k2 t882 _ _ t883 t860 _ _ t861 true _ ?side1 ?side2 ?side3 ?side4 A153.out).mono ?_);(case side1 => repeat (first|exact (Kd.R_reads' HO_888001.out).2.2|(with_reducible refine Kd.C_alloc ?_ _)|(with_reducible refine Kd.C_drewN ?_ _)|(with_reducible refine Kd.C_drew ?_)));(case side2 => exact (Kd.R_reads' HO_888001.out).2.1);(case side3 => repeat (first|exact (Kd.R_reads' HO_866001.out).2.2|(with_reducible refine Kd.C_alloc ?_ _)|(with_reducible refine Kd.C_drewN ?_ _)|(with_reducible refine Kd.C_drew ?_)));(case side4 => exact (Kd.R_reads' HO_866001.out).2.1);rintro e w175 ⟨rfl,hb⟩;have n0_:=Aside0.mk (Kd.R_below (by (with_reducible repeat (first|apply Kd.R_alloc|apply Kd.R_drewN|apply Kd.R_drew));exact HO_82.out) hb);have n1_:=Aside0.mk (Kd.V_below (by (with_reducible repeat (first|apply Kd.V_alloc|apply Kd.V_drewN|apply Kd.V_drew));exact HO_860001.out) hb);have n2_:=Aside0.mk (Kd.R_below (by (with_reducible repeat (first|apply Kd.R_alloc|apply Kd.R_drewN|apply Kd.R_drew));exact HO_866001.out) hb);have n3_:=Aside0.mk (Kd.R_below (by (with_reducible repeat (first|apply Kd.R_alloc|apply Kd.R_drewN|apply Kd.R_drew));exact HO_872001.out) hb);have n4_:=Aside0.mk (Kd.R_below (by (with_reducible repeat (first|apply Kd.R_alloc|apply Kd.R_drewN|apply Kd.R_drew));exact HO_882001.out) hb);have n5_:=Aside0.mk (Kd.R_below (by (with_reducible repeat (first|apply Kd.R_alloc|apply Kd.R_drewN|apply Kd.R_drew));exact HO_888001.out) hb);have n6_:=Aside0.mk (Kd.R_below (by (with_reducible repeat (first|apply Kd.R_alloc|apply Kd.R_drewN|apply Kd.R_drew));exact HO_894001.out) hb);have n7_:=Aside0.mk (blk_below (g:=gb859) (o:=.cells #[.int .i64 t855,.slice Ao10 t856.length co10] 28 (0,0)) (by (with_reducible repeat (first|refine blk_drewN ?_ _|refine blk_drew ?_|refine blk_alloc ?_ _));exact BK859.out) hb);have n8_:=Aside0.mk (blk_below (g:=gb865) (o:=.cells #[.int .i64 t860,.slice Ao15 t861.length co15] 28 (0,0)) (by (with_reducible repeat (first|refine blk_drewN ?_ _|refine blk_drew ?_|refine blk_alloc ?_ _));exact BK865.out) hb);have n9_:=Aside0.mk (blk_below (g:=gb871) (o:=.cells #[.int .i64 t866,.slice Ao22 t867.length co22] 28 (0,0)) (by (with_reducible repeat (first|refine blk_drewN ?_ _|refine blk_drew ?_|refine blk_alloc ?_ _));exact BK871.out) hb);have n10_:=Aside0.mk (blk_below (g:=gb881) (o:=.cells #[.int .i64 t876,.slice Ao93 t877.length co93] 28 (0,0)) (by (with_reducible repeat (first|refine blk_drewN ?_ _|refine blk_drew ?_|refine blk_alloc ?_ _));exact BK881.out) hb);have n11_:=Aside0.mk (blk_below (g:=gb887) (o:=.cells #[.int .i64 t882,.slice Ao104 t883.length co104] 28 (0,0)) (by (with_reducible repeat (first|refine blk_drewN ?_ _|refine blk_drew ?_|refine blk_alloc ?_ _));exact BK887.out) hb);have n12_:=Aside0.mk (blk_below (g:=gb893) (o:=.cells #[.int .i64 t888,.slice Ao115 t889.length co115] 28 (0,0)) (by (with_reducible repeat (first|refine blk_drewN ?_ _|refine blk_drew ?_|refine blk_alloc ?_ _));exact BK893.out) hb);have n13_:=Aside0.mk (below_step (by repeat (first|(with_reducible first|exact HB.out|apply below_alloc|apply pw_below_drewN|apply below_drew1|refine below_set ?_ GE859.out|refine below_set ?_ GE865.out|refine below_set ?_ GE871.out|refine below_set ?_ GE881.out|refine below_set ?_ GE887.out|refine below_set ?_ GE893.out)|exact HB.out)) hb);clear HO_82;clear HO_860001;clear HO_866001;clear HO_872001;clear HO_882001;clear HO_888001;clear HO_894001;clear BK859;clear BK865;clear BK871;clear BK881;clear BK887;clear BK893;clear HB;have HO_82:=n0_;have HO_860001:=n1_;have HO_866001:=n2_;have HO_872001:=n3_;have HO_882001:=n4_;have HO_888001:=n5_;have HO_894001:=n6_;have BK859:=n7_;have BK865:=n8_;have BK871:=n9_;have BK881:=n10_;have BK887:=n11_;have BK893:=n12_;have HB:=n13_;clear n0_ n1_ n2_ n3_ n4_ n5_ n6_ n7_ n8_ n9_ n10_ n11_ n12_ n13_;(try clear hb);(try clear hb2);(try clear hk);(try clear hi);have hnb176:=NB893_859.out;have hnc176:=NB859_893.out;have hnb177:=NB893_871.out;have hnc177:=NB871_893.out;have hcz178_0 : w175.cell? ⟨gb893,0,none⟩ = some (.int .i64 t888):=(blk_cell BK893.out 0).trans rfl;have hcz178_1 : w175.cell? ⟨gb893,1,none⟩ = some (.slice Ao115 t889.length co115):=(blk_cell BK893.out 1).trans rfl;have hfz178_0:=blk_frozen BK893.out 0;have hfz178_1:=blk_frozen BK893.out 1;have hcz179_0 : w175.cell? ⟨gb865,0,none⟩ = some (.int .i64 t860):=(blk_cell BK865.out 0).trans rfl;have hcz179_1 : w175.cell? ⟨gb865,1,none⟩ = some (.slice Ao15 t861.length co15):=(blk_cell BK865.out 1).trans rfl;have hfz179_0:=blk_frozen BK865.out 0;have hfz179_1:=blk_frozen BK865.out 1)|(go_at_call 31;(with_reducible refine (laws_daMatrix.calls k2 t888 _ _ t889 t860 _ _ t861 t900 _ ?side1 ?side2 ?side3 ?side4 A155.out).mono ?_);(case side1 => repeat (first|exact (Kd.R_reads' HO_894001.out).2.2|(with_reducible refine Kd.C_alloc ?_ _)|(with_reducible refine Kd.C_drewN ?_ _)|(with_reducible refine Kd.C_drew ?_)));(case side2 => exact (Kd.R_reads' HO_894001.out).2.1);(case side3 => repeat (first|exact (Kd.R_reads' HO_866001.out).2.2|(with_reducible refine Kd.C_alloc ?_ _)|(with_reducible refine Kd.C_drewN ?_ _)|(with_reducible refine Kd.C_drew ?_)));(case side4 => exact (Kd.R_reads' HO_866001.out).2.1);rintro e w180 ⟨rfl,hb⟩;have n0_:=Aside0.mk (Kd.R_below (by (with_reducible repeat (first|apply Kd.R_alloc|apply Kd.R_drewN|apply Kd.R_drew));exact HO_82.out) hb);have n1_:=Aside0.mk (Kd.V_below (by (with_reducible repeat (first|apply Kd.V_alloc|apply Kd.V_drewN|apply Kd.V_drew));exact HO_860001.out) hb);have n2_:=Aside0.mk (Kd.R_below (by (with_reducible repeat (first|apply Kd.R_alloc|apply Kd.R_drewN|apply Kd.R_drew));exact HO_866001.out) hb);have n3_:=Aside0.mk (Kd.R_below (by (with_reducible repeat (first|apply Kd.R_alloc|apply Kd.R_drewN|apply Kd.R_drew));exact HO_872001.out) hb);have n4_:=Aside0.mk (Kd.R_below (by (with_reducible repeat (first|apply Kd.R_alloc|apply Kd.R_drewN|apply Kd.R_drew));exact HO_882001.out) hb);have n5_:=Aside0.mk (Kd.R_below (by (with_reducible repeat (first|apply Kd.R_alloc|apply Kd.R_drewN|apply Kd.R_drew));exact HO_888001.out) hb);have n6_:=Aside0.mk (Kd.R_below (by (with_reducible repeat (first|apply Kd.R_alloc|apply Kd.R_drewN|apply Kd.R_drew));exact HO_894001.out) hb);have n7_:=Aside0.mk (blk_below (g:=gb859) (o:=.cells #[.int .i64 t855,.slice Ao10 t856.length co10] 28 (0,0)) (by (with_reducible repeat (first|refine blk_drewN ?_ _|refine blk_drew ?_|refine blk_alloc ?_ _));exact BK859.out) hb);have n8_:=Aside0.mk (blk_below (g:=gb865) (o:=.cells #[.int .i64 t860,.slice Ao15 t861.length co15] 28 (0,0)) (by (with_reducible repeat (first|refine blk_drewN ?_ _|refine blk_drew ?_|refine blk_alloc ?_ _));exact BK865.out) hb);have n9_:=Aside0.mk (blk_below (g:=gb871) (o:=.cells #[.int .i64 t866,.slice Ao22 t867.length co22] 28 (0,0)) (by (with_reducible repeat (first|refine blk_drewN ?_ _|refine blk_drew ?_|refine blk_alloc ?_ _));exact BK871.out) hb);have n10_:=Aside0.mk (blk_below (g:=gb881) (o:=.cells #[.int .i64 t876,.slice Ao93 t877.length co93] 28 (0,0)) (by (with_reducible repeat (first|refine blk_drewN ?_ _|refine blk_drew ?_|refine blk_alloc ?_ _));exact BK881.out) hb);have n11_:=Aside0.mk (blk_below (g:=gb887) (o:=.cells #[.int .i64 t882,.slice Ao104 t883.length co104] 28 (0,0)) (by (with_reducible repeat (first|refine blk_drewN ?_ _|refine blk_drew ?_|refine blk_alloc ?_ _));exact BK887.out) hb);have n12_:=Aside0.mk (blk_below (g:=gb893) (o:=.cells #[.int .i64 t888,.slice Ao115 t889.length co115] 28 (0,0)) (by (with_reducible repeat (first|refine blk_drewN ?_ _|refine blk_drew ?_|refine blk_alloc ?_ _));exact BK893.out) hb);have n13_:=Aside0.mk (below_step (by repeat (first|(with_reducible first|exact HB.out|apply below_alloc|apply pw_below_drewN|apply below_drew1|refine below_set ?_ GE859.out|refine below_set ?_ GE865.out|refine below_set ?_ GE871.out|refine below_set ?_ GE881.out|refine below_set ?_ GE887.out|refine below_set ?_ GE893.out)|exact HB.out)) hb);clear HO_82;clear HO_860001;clear HO_866001;clear HO_872001;clear HO_882001;clear HO_888001;clear HO_894001;clear BK859;clear BK865;clear BK871;clear BK881;clear BK887;clear BK893;clear HB;have HO_82:=n0_;have HO_860001:=n1_;have HO_866001:=n2_;have HO_872001:=n3_;have HO_882001:=n4_;have HO_888001:=n5_;have HO_894001:=n6_;have BK859:=n7_;have BK865:=n8_;have BK871:=n9_;have BK881:=n10_;have BK887:=n11_;have BK893:=n12_;have HB:=n13_;clear n0_ n1_ n2_ n3_ n4_ n5_ n6_ n7_ n8_ n9_ n10_ n11_ n12_ n13_;(try clear hb);(try clear hb2);(try clear hk);(try clear hi)))
            go_ret
            exact ⟨by first|rfl|(simp [errW_none,errW_some] <;> rfl)|(simp [*,errW_none,errW_some] <;> rfl),by repeat (first|(with_reducible first|exact HB.out|apply below_alloc|apply pw_below_drewN|apply below_drew1|refine below_set ?_ GE859.out|refine below_set ?_ GE865.out|refine below_set ?_ GE871.out|refine below_set ?_ GE881.out|refine below_set ?_ GE887.out|refine below_set ?_ GE893.out)|exact HB.out)⟩
           ·replace c154:=Bool.eq_false_iff.mpr c154
            subst c154
            have H1 : (some false) = some r:=by rw [if_neg (show ¬ (false = true) by decide)] at H;exact H
            clear H
            have H:=H1
            clear H1
            obtain rfl:=Option.some.inj H
            have hnb181:=NB881_859.out
            have hnc181:=NB859_881.out
            have hnb182:=NB881_865.out
            have hnc182:=NB865_881.out
            have hnb183:=NB881_871.out
            have hnc183:=NB871_881.out
            have hnb184:=NB881_887.out
            have hnc184:=NB887_881.out
            have hnb185:=NB881_893.out
            have hnc185:=NB893_881.out
            have hcz186_0 : wr.cell? ⟨gb881,0,none⟩ = some (.int .i64 t876):=(blk_cell BK881.out 0).trans rfl
            have hcz186_1 : wr.cell? ⟨gb881,1,none⟩ = some (.slice Ao93 t877.length co93):=(blk_cell BK881.out 1).trans rfl
            have hfz186_0:=blk_frozen BK881.out 0
            have hfz186_1:=blk_frozen BK881.out 1
            have hnb187:=NB865_859.out
            have hnc187:=NB859_865.out
            have hnb188:=NB865_871.out
            have hnc188:=NB871_865.out
            have hnb189:=NB865_887.out
            have hnc189:=NB887_865.out
            have hnb190:=NB865_893.out
            have hnc190:=NB893_865.out
            have hcz191_0 : wr.cell? ⟨gb865,0,none⟩ = some (.int .i64 t860):=(blk_cell BK865.out 0).trans rfl
            have hcz191_1 : wr.cell? ⟨gb865,1,none⟩ = some (.slice Ao15 t861.length co15):=(blk_cell BK865.out 1).trans rfl
            have hfz191_0:=blk_frozen BK865.out 0
            have hfz191_1:=blk_frozen BK865.out 1
            go_wp2_with (first|(go_at_call 31;(with_reducible refine (laws_daMatrix.calls k2 t876 _ _ t877 t860 _ _ t861 true _ ?side1 ?side2 ?side3 ?side4 A149.out).mono ?_);(case side1 => repeat (first|exact (Kd.R_reads' HO_882001.out).2.2|(with_reducible refine Kd.C_alloc ?_ _)|(with_reducible refine Kd.C_drewN ?_ _)|(with_reducible refine Kd.C_drew ?_)));(case side2 => exact (Kd.R_reads' HO_882001.out).2.1);(case side3 => repeat (first|exact (Kd.R_reads' HO_866001.out).2.2|(with_reducible refine Kd.C_alloc ?_ _)|(with_reducible refine Kd.C_drewN ?_ _)|(with_reducible refine Kd.C_drew ?_)));(case side4 => exact (Kd.R_reads' HO_866001.out).2.1);rintro e w192 ⟨rfl,hb⟩;have n0_:=Aside0.mk (Kd.R_below (by (with_reducible repeat (first|apply Kd.R_alloc|apply Kd.R_drewN|apply Kd.R_drew));exact HO_82.out) hb);have n1_:=Aside0.mk (Kd.V_below (by (with_reducible repeat (first|apply Kd.V_alloc|apply Kd.V_drewN|apply Kd.V_drew));exact HO_860001.out) hb);have n2_:=Aside0.mk (Kd.R_below (by (with_reducible repeat (first|apply Kd.R_alloc|apply Kd.R_drewN|apply Kd.R_drew));exact HO_866001.out) hb);have n3_:=Aside0.mk (Kd.R_below (by (with_reducible repeat (first|apply Kd.R_alloc|apply Kd.R_drewN|apply Kd.R_drew));exact HO_872001.out) hb);have n4_:=Aside0.mk (Kd.R_below (by (with_reducible repeat (first|apply Kd.R_alloc|apply Kd.R_drewN|apply Kd.R_drew));exact HO_882001.out) hb);have n5_:=Aside0.mk (Kd.R_below (by (with_reducible repeat (first|apply Kd.R_alloc|apply Kd.R_drewN|apply Kd.R_drew));exact HO_888001.out) hb);have n6_:=Aside0.mk (Kd.R_below (by (with_reducible repeat (first|apply Kd.R_alloc|apply Kd.R_drewN|apply Kd.R_drew));exact HO_894001.out) hb);have n7_:=Aside0.mk (blk_below (g:=gb859) (o:=.cells #[.int .i64 t855,.slice Ao10 t856.length co10] 28 (0,0)) (by (with_reducible repeat (first|refine blk_drewN ?_ _|refine blk_drew ?_|refine blk_alloc ?_ _));exact BK859.out) hb);have n8_:=Aside0.mk (blk_below (g:=gb865) (o:=.cells #[.int .i64 t860,.slice Ao15 t861.length co15] 28 (0,0)) (by (with_reducible repeat (first|refine blk_drewN ?_ _|refine blk_drew ?_|refine blk_alloc ?_ _));exact BK865.out) hb);have n9_:=Aside0.mk (blk_below (g:=gb871) (o:=.cells #[.int .i64 t866,.slice Ao22 t867.length co22] 28 (0,0)) (by (with_reducible repeat (first|refine blk_drewN ?_ _|refine blk_drew ?_|refine blk_alloc ?_ _));exact BK871.out) hb);have n10_:=Aside0.mk (blk_below (g:=gb881) (o:=.cells #[.int .i64 t876,.slice Ao93 t877.length co93] 28 (0,0)) (by (with_reducible repeat (first|refine blk_drewN ?_ _|refine blk_drew ?_|refine blk_alloc ?_ _));exact BK881.out) hb);have n11_:=Aside0.mk (blk_below (g:=gb887) (o:=.cells #[.int .i64 t882,.slice Ao104 t883.length co104] 28 (0,0)) (by (with_reducible repeat (first|refine blk_drewN ?_ _|refine blk_drew ?_|refine blk_alloc ?_ _));exact BK887.out) hb);have n12_:=Aside0.mk (blk_below (g:=gb893) (o:=.cells #[.int .i64 t888,.slice Ao115 t889.length co115] 28 (0,0)) (by (with_reducible repeat (first|refine blk_drewN ?_ _|refine blk_drew ?_|refine blk_alloc ?_ _));exact BK893.out) hb);have n13_:=Aside0.mk (below_step (by repeat (first|(with_reducible first|exact HB.out|apply below_alloc|apply pw_below_drewN|apply below_drew1|refine below_set ?_ GE859.out|refine below_set ?_ GE865.out|refine below_set ?_ GE871.out|refine below_set ?_ GE881.out|refine below_set ?_ GE887.out|refine below_set ?_ GE893.out)|exact HB.out)) hb);clear HO_82;clear HO_860001;clear HO_866001;clear HO_872001;clear HO_882001;clear HO_888001;clear HO_894001;clear BK859;clear BK865;clear BK871;clear BK881;clear BK887;clear BK893;clear HB;have HO_82:=n0_;have HO_860001:=n1_;have HO_866001:=n2_;have HO_872001:=n3_;have HO_882001:=n4_;have HO_888001:=n5_;have HO_894001:=n6_;have BK859:=n7_;have BK865:=n8_;have BK871:=n9_;have BK881:=n10_;have BK887:=n11_;have BK893:=n12_;have HB:=n13_;clear n0_ n1_ n2_ n3_ n4_ n5_ n6_ n7_ n8_ n9_ n10_ n11_ n12_ n13_;(try clear hb);(try clear hb2);(try clear hk);(try clear hi);have hcz193_0 : w192.cell? ⟨gb865,0,none⟩ = some (.int .i64 t860):=(blk_cell BK865.out 0).trans rfl;have hcz193_1 : w192.cell? ⟨gb865,1,none⟩ = some (.slice Ao15 t861.length co15):=(blk_cell BK865.out 1).trans rfl;have hfz193_0:=blk_frozen BK865.out 0;have hfz193_1:=blk_frozen BK865.out 1)|(go_at_call 25;(with_reducible refine (impl_IsIdempotent.calls k2 t860 _ _ t861 true _ ?side1 ?side2 A151.out).mono ?_);(case side1 => repeat (first|exact (Kd.R_reads' HO_866001.out).2.2|(with_reducible refine Kd.C_alloc ?_ _)|(with_reducible refine Kd.C_drewN ?_ _)|(with_reducible refine Kd.C_drew ?_)));(case side2 => exact (Kd.R_reads' HO_866001.out).2.1);rintro e w194 ⟨rfl,hb⟩;have n0_:=Aside0.mk (Kd.R_below (by (with_reducible repeat (first|apply Kd.R_alloc|apply Kd.R_drewN|apply Kd.R_drew));exact HO_82.out) hb);have n1_:=Aside0.mk (Kd.V_below (by (with_reducible repeat (first|apply Kd.V_alloc|apply Kd.V_drewN|apply Kd.V_drew));exact HO_860001.out) hb);have n2_:=Aside0.mk (Kd.R_below (by (with_reducible repeat (first|apply Kd.R_alloc|apply Kd.R_drewN|apply Kd.R_drew));exact HO_866001.out) hb);have n3_:=Aside0.mk (Kd.R_below (by (with_reducible repeat (first|apply Kd.R_alloc|apply Kd.R_drewN|apply Kd.R_drew));exact HO_872001.out) hb);have n4_:=Aside0.mk (Kd.R_below (by (with_reducible repeat (first|apply Kd.R_alloc|apply Kd.R_drewN|apply Kd.R_drew));exact HO_882001.out) hb);have n5_:=Aside0.mk (Kd.R_below (by (with_reducible repeat (first|apply Kd.R_alloc|apply Kd.R_drewN|apply Kd.R_drew));exact HO_888001.out) hb);have n6_:=Aside0.mk (Kd.R_below (by (with_reducible repeat (first|apply Kd.R_alloc|apply Kd.R_drewN|apply Kd.R_drew));exact HO_894001.out) hb);have n7_:=Aside0.mk (blk_below (g:=gb859) (o:=.cells #[.int .i64 t855,.slice Ao10 t856.length co10] 28 (0,0)) (by (with_reducible repeat (first|refine blk_drewN ?_ _|refine blk_drew ?_|refine blk_alloc ?_ _));exact BK859.out) hb);have n8_:=Aside0.mk (blk_below (g:=gb865) (o:=.cells #[.int .i64 t860,.slice Ao15 t861.length co15] 28 (0,0)) (by (with_reducible repeat (first|refine blk_drewN ?_ _|refine blk_drew ?_|refine blk_alloc ?_ _));exact BK865.out) hb);have n9_:=Aside0.mk (blk_below (g:=gb871) (o:=.cells #[.int .i64 t866,.slice Ao22 t867.length co22] 28 (0,0)) (by (with_reducible repeat (first|refine blk_drewN ?_ _|refine blk_drew ?_|refine blk_alloc ?_ _));exact BK871.out) hb);have n10_:=Aside0.mk (blk_below (g:=gb881) (o:=.cells #[.int .i64 t876,.slice Ao93 t877.length co93] 28 (0,0)) (by (with_reducible repeat (first|refine blk_drewN ?_ _|refine blk_drew ?_|refine blk_alloc ?_ _));exact BK881.out) hb);have n11_:=Aside0.mk (blk_below (g:=gb887) (o:=.cells #[.int .i64 t882,.slice Ao104 t883.length co104] 28 (0,0)) (by (with_reducible repeat (first|refine blk_drewN ?_ _|refine blk_drew ?_|refine blk_alloc ?_ _));exact BK887.out) hb);have n12_:=Aside0.mk (blk_below (g:=gb893) (o:=.cells #[.int .i64 t888,.slice Ao115 t889.length co115] 28 (0,0)) (by (with_reducible repeat (first|refine blk_drewN ?_ _|refine blk_drew ?_|refine blk_alloc ?_ _));exact BK893.out) hb);have n13_:=Aside0.mk (below_step (by repeat (first|(with_reducible first|exact HB.out|apply below_alloc|apply pw_below_drewN|apply below_drew1|refine below_set ?_ GE859.out|refine below_set ?_ GE865.out|refine below_set ?_ GE871.out|refine below_set ?_ GE881.out|refine below_set ?_ GE887.out|refine below_set ?_ GE893.out)|exact HB.out)) hb);clear HO_82;clear HO_860001;clear HO_866001;clear HO_872001;clear HO_882001;clear HO_888001;clear HO_894001;clear BK859;clear BK865;clear BK871;clear BK881;clear BK887;clear BK893;clear HB;have HO_82:=n0_;have HO_860001:=n1_;have HO_866001:=n2_;have HO_872001:=n3_;have HO_882001:=n4_;have HO_888001:=n5_;have HO_894001:=n6_;have BK859:=n7_;have BK865:=n8_;have BK871:=n9_;have BK881:=n10_;have BK887:=n11_;have BK893:=n12_;have HB:=n13_;clear n0_ n1_ n2_ n3_ n4_ n5_ n6_ n7_ n8_ n9_ n10_ n11_ n12_ n13_;(try clear hb);(try clear hb2);(try clear hk);(try clear hi);have hnb195:=NB887_859.out;have hnc195:=NB859_887.out;have hnb196:=NB887_871.out;have hnc196:=NB871_887.out;have hnb197:=NB887_893.out;have hnc197:=NB893_887.out;have hcz198_0 : w194.cell? ⟨gb887,0,none⟩ = some (.int .i64 t882):=(blk_cell BK887.out 0).trans rfl;have hcz198_1 : w194.cell? ⟨gb887,1,none⟩ = some (.slice Ao104 t883.length co104):=(blk_cell BK887.out 1).trans rfl;have hfz198_0:=blk_frozen BK887.out 0;have hfz198_1:=blk_frozen BK887.out 1;have hcz199_0 : w194.cell? ⟨gb865,0,none⟩ = some (.int .i64 t860):=(blk_cell BK865.out 0).trans rfl;have hcz199_1 : w194.cell? ⟨gb865,1,none⟩ = some (.slice Ao15 t861.length co15):=(blk_cell BK865.out 1).trans rfl;have hfz199_0:=blk_frozen BK865.out 0;have hfz199_1:=blk_frozen BK865.out 1)|(go_at_call 31;(with_reducible refine (laws_daMatrix.calls k2 t882 _ _ t883 t860 _ _ t861 false _ ?side1 ?side2 ?side3 ?side4 A153.out).mono ?_);(case side1 => repeat (first|exact (Kd.R_reads' HO_888001.out).2.2|(with_reducible refine Kd.C_alloc ?_ _)|(with_reducible refine Kd.C_drewN ?_ _)|(with_reducible refine Kd.C_drew ?_)));(case side2 => exact (Kd.R_reads' HO_888001.out).2.1);(case side3 => repeat (first|exact (Kd.R_reads' HO_866001.out).2.2|(with_reducible refine Kd.C_alloc ?_ _)|(with_reducible refine Kd.C_drewN ?_ _)|(with_reducible refine Kd.C_drew ?_)));(case side4 => exact (Kd.R_reads' HO_866001.out).2.1);rintro e w200 ⟨rfl,hb⟩;have n0_:=Aside0.mk (Kd.R_below (by (with_reducible repeat (first|apply Kd.R_alloc|apply Kd.R_drewN|apply Kd.R_drew));exact HO_82.out) hb);have n1_:=Aside0.mk (Kd.V_below (by (with_reducible repeat (first|apply Kd.V_alloc|apply Kd.V_drewN|apply Kd.V_drew));exact HO_860001.out) hb);have n2_:=Aside0.mk (Kd.R_below (by (with_reducible repeat (first|apply Kd.R_alloc|apply Kd.R_drewN|apply Kd.R_drew));exact HO_866001.out) hb);have n3_:=Aside0.mk (Kd.R_below (by (with_reducible repeat (first|apply Kd.R_alloc|apply Kd.R_drewN|apply Kd.R_drew));exact HO_872001.out) hb);have n4_:=Aside0.mk (Kd.R_below (by (with_reducible repeat (first|apply Kd.R_alloc|apply Kd.R_drewN|apply Kd.R_drew));exact HO_882001.out) hb);have n5_:=Aside0.mk (Kd.R_below (by (with_reducible repeat (first|apply Kd.R_alloc|apply Kd.R_drewN|apply Kd.R_drew));exact HO_888001.out) hb);have n6_:=Aside0.mk (Kd.R_below (by (with_reducible repeat (first|apply Kd.R_alloc|apply Kd.R_drewN|apply Kd.R_drew));exact HO_894001.out) hb);have n7_:=Aside0.mk (blk_below (g:=gb859) (o:=.cells #[.int .i64 t855,.slice Ao10 t856.length co10] 28 (0,0)) (by (with_reducible repeat (first|refine blk_drewN ?_ _|refine blk_drew ?_|refine blk_alloc ?_ _));exact BK859.out) hb);have n8_:=Aside0.mk (blk_below (g:=gb865) (o:=.cells #[.int .i64 t860,.slice Ao15 t861.length co15] 28 (0,0)) (by (with_reducible repeat (first|refine blk_drewN ?_ _|refine blk_drew ?_|refine blk_alloc ?_ _));exact BK865.out) hb);have n9_:=Aside0.mk (blk_below (g:=gb871) (o:=.cells #[.int .i64 t866,.slice Ao22 t867.length co22] 28 (0,0)) (by (with_reducible repeat (first|refine blk_drewN ?_ _|refine blk_drew ?_|refine blk_alloc ?_ _));exact BK871.out) hb);have n10_:=Aside0.mk (blk_below (g:=gb881) (o:=.cells #[.int .i64 t876,.slice Ao93 t877.length co93] 28 (0,0)) (by (with_reducible repeat (first|refine blk_drewN ?_ _|refine blk_drew ?_|refine blk_alloc ?_ _));exact BK881.out) hb);have n11_:=Aside0.mk (blk_below (g:=gb887) (o:=.cells #[.int .i64 t882,.slice Ao104 t883.length co104] 28 (0,0)) (by (with_reducible repeat (first|refine blk_drewN ?_ _|refine blk_drew ?_|refine blk_alloc ?_ _));exact BK887.out) hb);have n12_:=Aside0.mk (blk_below (g:=gb893) (o:=.cells #[.int .i64 t888,.slice Ao115 t889.length co115] 28 (0,0)) (by (with_reducible repeat (first|refine blk_drewN ?_ _|refine blk_drew ?_|refine blk_alloc ?_ _));exact BK893.out) hb);have n13_:=Aside0.mk (below_step (by repeat (first|(with_reducible first|exact HB.out|apply below_alloc|apply pw_below_drewN|apply below_drew1|refine below_set ?_ GE859.out|refine below_set ?_ GE865.out|refine below_set ?_ GE871.out|refine below_set ?_ GE881.out|refine below_set ?_ GE887.out|refine below_set ?_ GE893.out)|exact HB.out)) hb);clear HO_82;clear HO_860001;clear HO_866001;clear HO_872001;clear HO_882001;clear HO_888001;clear HO_894001;clear BK859;clear BK865;clear BK871;clear BK881;clear BK887;clear BK893;clear HB;have HO_82:=n0_;have HO_860001:=n1_;have HO_866001:=n2_;have HO_872001:=n3_;have HO_882001:=n4_;have HO_888001:=n5_;have HO_894001:=n6_;have BK859:=n7_;have BK865:=n8_;have BK871:=n9_;have BK881:=n10_;have BK887:=n11_;have BK893:=n12_;have HB:=n13_;clear n0_ n1_ n2_ n3_ n4_ n5_ n6_ n7_ n8_ n9_ n10_ n11_ n12_ n13_;(try clear hb);(try clear hb2);(try clear hk);(try clear hi)))
            go_ret
            exact ⟨by first|rfl|(simp [errW_none,errW_some] <;> rfl)|(simp [*,errW_none,errW_some] <;> rfl),by repeat (first|(with_reducible first|exact HB.out|apply below_alloc|apply pw_below_drewN|apply below_drew1|refine below_set ?_ GE859.out|refine below_set ?_ GE865.out|refine below_set ?_ GE871.out|refine below_set ?_ GE881.out|refine below_set ?_ GE887.out|refine below_set ?_ GE893.out)|exact HB.out)⟩
          ·replace c152:=Bool.eq_false_iff.mpr c152
           subst c152
           have H1 : (some false) = some r:=by rw [if_neg (show ¬ (false = true) by decide)] at H;exact H
           clear H
           have H:=H1
           clear H1
           obtain rfl:=Option.some.inj H
           have hnb201:=NB881_859.out
           have hnc201:=NB859_881.out
           have hnb202:=NB881_865.out
           have hnc202:=NB865_881.out
           have hnb203:=NB881_871.out
           have hnc203:=NB871_881.out
           have hnb204:=NB881_887.out
           have hnc204:=NB887_881.out
           have hnb205:=NB881_893.out
           have hnc205:=NB893_881.out
           have hcz206_0 : wr.cell? ⟨gb881,0,none⟩ = some (.int .i64 t876):=(blk_cell BK881.out 0).trans rfl
           have hcz206_1 : wr.cell? ⟨gb881,1,none⟩ = some (.slice Ao93 t877.length co93):=(blk_cell BK881.out 1).trans rfl
           have hfz206_0:=blk_frozen BK881.out 0
           have hfz206_1:=blk_frozen BK881.out 1
           have hnb207:=NB865_859.out
           have hnc207:=NB859_865.out
           have hnb208:=NB865_871.out
           have hnc208:=NB871_865.out
           have hnb209:=NB865_887.out
           have hnc209:=NB887_865.out
           have hnb210:=NB865_893.out
           have hnc210:=NB893_865.out
           have hcz211_0 : wr.cell? ⟨gb865,0,none⟩ = some (.int .i64 t860):=(blk_cell BK865.out 0).trans rfl
           have hcz211_1 : wr.cell? ⟨gb865,1,none⟩ = some (.slice Ao15 t861.length co15):=(blk_cell BK865.out 1).trans rfl
           have hfz211_0:=blk_frozen BK865.out 0
           have hfz211_1:=blk_frozen BK865.out 1
           go_wp2_with (first|(go_at_call 31;(with_reducible refine (laws_daMatrix.calls k2 t876 _ _ t877 t860 _ _ t861 true _ ?side1 ?side2 ?side3 ?side4 A149.out).mono ?_);(case side1 => repeat (first|exact (Kd.R_reads' HO_882001.out).2.2|(with_reducible refine Kd.C_alloc ?_ _)|(with_reducible refine Kd.C_drewN ?_ _)|(with_reducible refine Kd.C_drew ?_)));(case side2 => exact (Kd.R_reads' HO_882001.out).2.1);(case side3 => repeat (first|exact (Kd.R_reads' HO_866001.out).2.2|(with_reducible refine Kd.C_alloc ?_ _)|(with_reducible refine Kd.C_drewN ?_ _)|(with_reducible refine Kd.C_drew ?_)));(case side4 => exact (Kd.R_reads' HO_866001.out).2.1);rintro e w212 ⟨rfl,hb⟩;have n0_:=Aside0.mk (Kd.R_below (by (with_reducible repeat (first|apply Kd.R_alloc|apply Kd.R_drewN|apply Kd.R_drew));exact HO_82.out) hb);have n1_:=Aside0.mk (Kd.V_below (by (with_reducible repeat (first|apply Kd.V_alloc|apply Kd.V_drewN|apply Kd.V_drew));exact HO_860001.out) hb);have n2_:=Aside0.mk (Kd.R_below (by (with_reducible repeat (first|apply Kd.R_alloc|apply Kd.R_drewN|apply Kd.R_drew));exact HO_866001.out) hb);have n3_:=Aside0.mk (Kd.R_below (by (with_reducible repeat (first|apply Kd.R_alloc|apply Kd.R_drewN|apply Kd.R_drew));exact HO_872001.out) hb);have n4_:=Aside0.mk (Kd.R_below (by (with_reducible repeat (first|apply Kd.R_alloc|apply Kd.R_drewN|apply Kd.R_drew));exact HO_882001.out) hb);have n5_:=Aside0.mk (Kd.R_below (by (with_reducible repeat (first|apply Kd.R_alloc|apply Kd.R_drewN|apply Kd.R_drew));exact HO_888001.out) hb);have n6_:=Aside0.mk (Kd.R_below (by (with_reducible repeat (first|apply Kd.R_alloc|apply Kd.R_drewN|apply Kd.R_drew));exact HO_894001.out) hb);have n7_:=Aside0.mk (blk_below (g:=gb859) (o:=.cells #[.int .i64 t855,.slice Ao10 t856.length co10] 28 (0,0)) (by (with_reducible repeat (first|refine blk_drewN ?_ _|refine blk_drew ?_|refine blk_alloc ?_ _));exact BK859.out) hb);have n8_:=Aside0.mk (blk_below (g:=gb865) (o:=.cells #[.int .i64 t860,.slice Ao15 t861.length co15] 28 (0,0)) (by (with_reducible repeat (first|refine blk_drewN ?_ _|refine blk_drew ?_|refine blk_alloc ?_ _));exact BK865.out) hb);have n9_:=Aside0.mk (blk_below (g:=gb871) (o:=.cells #[.int .i64 t866,.slice Ao22 t867.length co22] 28 (0,0)) (by (with_reducible repeat (first|refine blk_drewN ?_ _|refine blk_drew ?_|refine blk_alloc ?_ _));exact BK871.out) hb);have n10_:=Aside0.mk (blk_below (g:=gb881) (o:=.cells #[.int .i64 t876,.slice Ao93 t877.length co93] 28 (0,0)) (by (with_reducible repeat (first|refine blk_drewN ?_ _|refine blk_drew ?_|refine blk_alloc ?_ _));exact BK881.out) hb);have n11_:=Aside0.mk (blk_below (g:=gb887) (o:=.cells #[.int .i64 t882,.slice Ao104 t883.length co104] 28 (0,0)) (by (with_reducible repeat (first|refine blk_drewN ?_ _|refine blk_drew ?_|refine blk_alloc ?_ _));exact BK887.out) hb);have n12_:=Aside0.mk (blk_below (g:=gb893) (o:=.cells #[.int .i64 t888,.slice Ao115 t889.length co115] 28 (0,0)) (by (with_reducible repeat (first|refine blk_drewN ?_ _|refine blk_drew ?_|refine blk_alloc ?_ _));exact BK893.out) hb);have n13_:=Aside0.mk (below_step (by repeat (first|(with_reducible first|exact HB.out|apply below_alloc|apply pw_below_drewN|apply below_drew1|refine below_set ?_ GE859.out|refine below_set ?_ GE865.out|refine below_set ?_ GE871.out|refine below_set ?_ GE881.out|refine below_set ?_ GE887.out|refine below_set ?_ GE893.out)|exact HB.out)) hb);clear HO_82;clear HO_860001;clear HO_866001;clear HO_872001;clear HO_882001;clear HO_888001;clear HO_894001;clear BK859;clear BK865;clear BK871;clear BK881;clear BK887;clear BK893;clear HB;have HO_82:=n0_;have HO_860001:=n1_;have HO_866001:=n2_;have HO_872001:=n3_;have HO_882001:=n4_;have HO_888001:=n5_;have HO_894001:=n6_;have BK859:=n7_;have BK865:=n8_;have BK871:=n9_;have BK881:=n10_;have BK887:=n11_;have BK893:=n12_;have HB:=n13_;clear n0_ n1_ n2_ n3_ n4_ n5_ n6_ n7_ n8_ n9_ n10_ n11_ n12_ n13_;(try clear hb);(try clear hb2);(try clear hk);(try clear hi);have hcz213_0 : w212.cell? ⟨gb865,0,none⟩ = some (.int .i64 t860):=(blk_cell BK865.out 0).trans rfl;have hcz213_1 : w212.cell? ⟨gb865,1,none⟩ = some (.slice Ao15 t861.length co15):=(blk_cell BK865.out 1).trans rfl;have hfz213_0:=blk_frozen BK865.out 0;have hfz213_1:=blk_frozen BK865.out 1)|(go_at_call 25;(with_reducible refine (impl_IsIdempotent.calls k2 t860 _ _ t861 false _ ?side1 ?side2 A151.out).mono ?_);(case side1 => repeat (first|exact (Kd.R_reads' HO_866001.out).2.2|(with_reducible refine Kd.C_alloc ?_ _)|(with_reducible refine Kd.C_drewN ?_ _)|(with_reducible refine Kd.C_drew ?_)));(case side2 => exact (Kd.R_reads' HO_866001.out).2.1);rintro e w214 ⟨rfl,hb⟩;have n0_:=Aside0.mk (Kd.R_below (by (with_reducible repeat (first|apply Kd.R_alloc|apply Kd.R_drewN|apply Kd.R_drew));exact HO_82.out) hb);have n1_:=Aside0.mk (Kd.V_below (by (with_reducible repeat (first|apply Kd.V_alloc|apply Kd.V_drewN|apply Kd.V_drew));exact HO_860001.out) hb);have n2_:=Aside0.mk (Kd.R_below (by (with_reducible repeat (first|apply Kd.R_alloc|apply Kd.R_drewN|apply Kd.R_drew));exact HO_866001.out) hb);have n3_:=Aside0.mk (Kd.R_below (by (with_reducible repeat (first|apply Kd.R_alloc|apply Kd.R_drewN|apply Kd.R_drew));exact HO_872001.out) hb);have n4_:=Aside0.mk (Kd.R_below (by (with_reducible repeat (first|apply Kd.R_alloc|apply Kd.R_drewN|apply Kd.R_drew));exact HO_882001.out) hb);have n5_:=Aside0.mk (Kd.R_below (by (with_reducible repeat (first|apply Kd.R_alloc|apply Kd.R_drewN|apply Kd.R_drew));exact HO_888001.out) hb);have n6_:=Aside0.mk (Kd.R_below (by (with_reducible repeat (first|apply Kd.R_alloc|apply Kd.R_drewN|apply Kd.R_drew));exact HO_894001.out) hb);have n7_:=Aside0.mk (blk_below (g:=gb859) (o:=.cells #[.int .i64 t855,.slice Ao10 t856.length co10] 28 (0,0)) (by (with_reducible repeat (first|refine blk_drewN ?_ _|refine blk_drew ?_|refine blk_alloc ?_ _));exact BK859.out) hb);have n8_:=Aside0.mk (blk_below (g:=gb865) (o:=.cells #[.int .i64 t860,.slice Ao15 t861.length co15] 28 (0,0)) (by (with_reducible repeat (first|refine blk_drewN ?_ _|refine blk_drew ?_|refine blk_alloc ?_ _));exact BK865.out) hb);have n9_:=Aside0.mk (blk_below (g:=gb871) (o:=.cells #[.int .i64 t866,.slice Ao22 t867.length co22] 28 (0,0)) (by (with_reducible repeat (first|refine blk_drewN ?_ _|refine blk_drew ?_|refine blk_alloc ?_ _));exact BK871.out) hb);have n10_:=Aside0.mk (blk_below (g:=gb881) (o:=.cells #[.int .i64 t876,.slice Ao93 t877.length co93] 28 (0,0)) (by (with_reducible repeat (first|refine blk_drewN ?_ _|refine blk_drew ?_|refine blk_alloc ?_ _));exact BK881.out) hb);have n11_:=Aside0.mk (blk_below (g:=gb887) (o:=.cells #[.int .i64 t882,.slice Ao104 t883.length co104] 28 (0,0)) (by (with_reducible repeat (first|refine blk_drewN ?_ _|refine blk_drew ?_|refine blk_alloc ?_ _));exact BK887.out) hb);have n12_:=Aside0.mk (blk_below (g:=gb893) (o:=.cells #[.int .i64 t888,.slice Ao115 t889.length co115] 28 (0,0)) (by (with_reducible repeat (first|refine blk_drewN ?_ _|refine blk_drew ?_|refine blk_alloc ?_ _));exact BK893.out) hb);have n13_:=Aside0.mk (below_step (by repeat (first|(with_reducible first|exact HB.out|apply below_alloc|apply pw_below_drewN|apply below_drew1|refine below_set ?_ GE859.out|refine below_set ?_ GE865.out|refine below_set ?_ GE871.out|refine below_set ?_ GE881.out|refine below_set ?_ GE887.out|refine below_set ?_ GE893.out)|exact HB.out)) hb);clear HO_82;clear HO_860001;clear HO_866001;clear HO_872001;clear HO_882001;clear HO_888001;clear HO_894001;clear BK859;clear BK865;clear BK871;clear BK881;clear BK887;clear BK893;clear HB;have HO_82:=n0_;have HO_860001:=n1_;have HO_866001:=n2_;have HO_872001:=n3_;have HO_882001:=n4_;have HO_888001:=n5_;have HO_894001:=n6_;have BK859:=n7_;have BK865:=n8_;have BK871:=n9_;have BK881:=n10_;have BK887:=n11_;have BK893:=n12_;have HB:=n13_;clear n0_ n1_ n2_ n3_ n4_ n5_ n6_ n7_ n8_ n9_ n10_ n11_ n12_ n13_;(try clear hb);(try clear hb2);(try clear hk);(try clear hi)))
           go_ret
           exact ⟨by first|rfl|(simp [errW_none,errW_some] <;> rfl)|(simp [*,errW_none,errW_some] <;> rfl),by repeat (first|(with_reducible first|exact HB.out|apply below_alloc|apply pw_below_drewN|apply below_drew1|refine below_set ?_ GE859.out|refine below_set ?_ GE865.out|refine below_set ?_ GE871.out|refine below_set ?_ GE881.out|refine below_set ?_ GE887.out|refine below_set ?_ GE893.out)|exact HB.out)⟩
         ·replace c150:=Bool.eq_false_iff.mpr c150
          subst c150
          have H1 : (some false) = some r:=by rw [if_neg (show ¬ (false = true) by decide)] at H;exact H
          clear H
          have H:=H1
          clear H1
          obtain rfl:=Option.some.inj H
          have hnb215:=NB881_859.out
          have hnc215:=NB859_881.out
          have hnb216:=NB881_865.out
          have hnc216:=NB865_881.out
          have hnb217:=NB881_871.out
          have hnc217:=NB871_881.out
          have hnb218:=NB881_887.out
          have hnc218:=NB887_881.out
          have hnb219:=NB881_893.out
          have hnc219:=NB893_881.out
          have hcz220_0 : wr.cell? ⟨gb881,0,none⟩ = some (.int .i64 t876):=(blk_cell BK881.out 0).trans rfl
          have hcz220_1 : wr.cell? ⟨gb881,1,none⟩ = some (.slice Ao93 t877.length co93):=(blk_cell BK881.out 1).trans rfl
          have hfz220_0:=blk_frozen BK881.out 0
          have hfz220_1:=blk_frozen BK881.out 1
          have hnb221:=NB865_859.out
          have hnc221:=NB859_865.out
          have hnb222:=NB865_871.out
          have hnc222:=NB871_865.out
          have hnb223:=NB865_887.out
          have hnc223:=NB887_865.out
          have hnb224:=NB865_893.out
          have hnc224:=NB893_865.out
          have hcz225_0 : wr.cell? ⟨gb865,0,none⟩ = some (.int .i64 t860):=(blk_cell BK865.out 0).trans rfl
          have hcz225_1 : wr.cell? ⟨gb865,1,none⟩ = some (.slice Ao15 t861.length co15):=(blk_cell BK865.out 1).trans rfl
          have hfz225_0:=blk_frozen BK865.out 0
          have hfz225_1:=blk_frozen BK865.out 1
          go_wp2_with (first|(go_at_call 31;(with_reducible refine (laws_daMatrix.calls k2 t876 _ _ t877 t860 _ _ t861 false _ ?side1 ?side2 ?side3 ?side4 A149.out).mono ?_);(case side1 => repeat (first|exact (Kd.R_reads' HO_882001.out).2.2|(with_reducible refine Kd.C_alloc ?_ _)|(with_reducible refine Kd.C_drewN ?_ _)|(with_reducible refine Kd.C_drew ?_)));(case side2 => exact (Kd.R_reads' HO_882001.out).2.1);(case side3 => repeat (first|exact (Kd.R_reads' HO_866001.out).2.2|(with_reducible refine Kd.C_alloc ?_ _)|(with_reducible refine Kd.C_drewN ?_ _)|(with_reducible refine Kd.C_drew ?_)));(case side4 => exact (Kd.R_reads' HO_866001.out).2.1);rintro e w226 ⟨rfl,hb⟩;have n0_:=Aside0.mk (Kd.R_below (by (with_reducible repeat (first|apply Kd.R_alloc|apply Kd.R_drewN|apply Kd.R_drew));exact HO_82.out) hb);have n1_:=Aside0.mk (Kd.V_below (by (with_reducible repeat (first|apply Kd.V_alloc|apply Kd.V_drewN|apply Kd.V_drew));exact HO_860001.out) hb);have n2_:=Aside0.mk (Kd.R_below (by (with_reducible repeat (first|apply Kd.R_alloc|apply Kd.R_drewN|apply Kd.R_drew));exact HO_866001.out) hb);have n3_:=Aside0.mk (Kd.R_below (by (with_reducible repeat (first|apply Kd.R_alloc|apply Kd.R_drewN|apply Kd.R_drew));exact HO_872001.out) hb);have n4_:=Aside0.mk (Kd.R_below (by (with_reducible repeat (first|apply Kd.R_alloc|apply Kd.R_drewN|apply Kd.R_drew));exact HO_882001.out) hb);have n5_:=Aside0.mk (Kd.R_below (by (with_reducible repeat (first|apply Kd.R_alloc|apply Kd.R_drewN|apply Kd.R_drew));exact HO_888001.out) hb);have n6_:=Aside0.mk (Kd.R_below (by (with_reducible repeat (first|apply Kd.R_alloc|apply Kd.R_drewN|apply Kd.R_drew));exact HO_894001.out) hb);have n7_:=Aside0.mk (blk_below (g:=gb859) (o:=.cells #[.int .i64 t855,.slice Ao10 t856.length co10] 28 (0,0)) (by (with_reducible repeat (first|refine blk_drewN ?_ _|refine blk_drew ?_|refine blk_alloc ?_ _));exact BK859.out) hb);have n8_:=Aside0.mk (blk_below (g:=gb865) (o:=.cells #[.int .i64 t860,.slice Ao15 t861.length co15] 28 (0,0)) (by (with_reducible repeat (first|refine blk_drewN ?_ _|refine blk_drew ?_|refine blk_alloc ?_ _));exact BK865.out) hb);have n9_:=Aside0.mk (blk_below (g:=gb871) (o:=.cells #[.int .i64 t866,.slice Ao22 t867.length co22] 28 (0,0)) (by (with_reducible repeat (first|refine blk_drewN ?_ _|refine blk_drew ?_|refine blk_alloc ?_ _));exact BK871.out) hb);have n10_:=Aside0.mk (blk_below (g:=gb881) (o:=.cells #[.int .i64 t876,.slice Ao93 t877.length co93] 28 (0,0)) (by (with_reducible repeat (first|refine blk_drewN ?_ _|refine blk_drew ?_|refine blk_alloc ?_ _));exact BK881.out) hb);have n11_:=Aside0.mk (blk_below (g:=gb887) (o:=.cells #[.int .i64 t882,.slice Ao104 t883.length co104] 28 (0,0)) (by (with_reducible repeat (first|refine blk_drewN ?_ _|refine blk_drew ?_|refine blk_alloc ?_ _));exact BK887.out) hb);have n12_:=Aside0.mk (blk_below (g:=gb893) (o:=.cells #[.int .i64 t888,.slice Ao115 t889.length co115] 28 (0,0)) (by (with_reducible repeat (first|refine blk_drewN ?_ _|refine blk_drew ?_|refine blk_alloc ?_ _));exact BK893.out) hb);have n13_:=Aside0.mk (below_step (by repeat (first|(with_reducible first|exact HB.out|apply below_alloc|apply pw_below_drewN|apply below_drew1|refine below_set ?_ GE859.out|refine below_set ?_ GE865.out|refine below_set ?_ GE871.out|refine below_set ?_ GE881.out|refine below_set ?_ GE887.out|refine below_set ?_ GE893.out)|exact HB.out)) hb);clear HO_82;clear HO_860001;clear HO_866001;clear HO_872001;clear HO_882001;clear HO_888001;clear HO_894001;clear BK859;clear BK865;clear BK871;clear BK881;clear BK887;clear BK893;clear HB;have HO_82:=n0_;have HO_860001:=n1_;have HO_866001:=n2_;have HO_872001:=n3_;have HO_882001:=n4_;have HO_888001:=n5_;have HO_894001:=n6_;have BK859:=n7_;have BK865:=n8_;have BK871:=n9_;have BK881:=n10_;have BK887:=n11_;have BK893:=n12_;have HB:=n13_;clear n0_ n1_ n2_ n3_ n4_ n5_ n6_ n7_ n8_ n9_ n10_ n11_ n12_ n13_;(try clear hb);(try clear hb2);(try clear hk);(try clear hi)))
          go_ret
          exact ⟨by first|rfl|(simp [errW_none,errW_some] <;> rfl)|(simp [*,errW_none,errW_some] <;> rfl),by repeat (first|(with_reducible first|exact HB.out|apply below_alloc|apply pw_below_drewN|apply below_drew1|refine below_set ?_ GE859.out|refine below_set ?_ GE865.out|refine below_set ?_ GE871.out|refine below_set ?_ GE881.out|refine below_set ?_ GE887.out|refine below_set ?_ GE893.out)|exact HB.out)⟩
        ·replace c148:=Bool.eq_false_iff.mpr c148
         subst c148
         have H1 : (some false) = some r:=by rw [if_neg (show ¬ (false = true) by decide)] at H;exact H
         clear H
         have H:=H1
         clear H1
         obtain rfl:=Option.some.inj H
         go_wp2
         go_ret
         exact ⟨by first|rfl|(simp [errW_none,errW_some] <;> rfl)|(simp [*,errW_none,errW_some] <;> rfl),by repeat (first|(with_reducible first|exact HB.out|apply below_alloc|apply pw_below_drewN|apply below_drew1|refine below_set ?_ GE859.out|refine below_set ?_ GE865.out|refine below_set ?_ GE871.out|refine below_set ?_ GE881.out|refine below_set ?_ GE887.out|refine below_set ?_ GE893.out)|exact HB.out)⟩
def laws_FnStabilise.Pure : Prop := ∀ (l0 : List Int),l0.length ≤ maxLen → l0.length * 1 ≤ 140737488351232 → (∀ x ∈ l0,(Lit.int .u8 x).wf = true) → ∃ k,laws_FnStabilise.f k l0 = some true
theorem laws_FnStabilise.walk (P : laws_FnStabilise.Pure) (a0 : Option Addr) (len0 cap0 : Nat) (z0 : List Int) (w : World) (w0 : (a0 = none ∧ len0 = 0 ∧ cap0 = 0 ∧ z0 = []) ∨ ∃ x,a0 = some x ∧ len0 ≤ cap0 ∧ cap0 ≤ maxLen ∧ z0.length = cap0 ∧ (∀ i,i < z0.length → w.cell? (x.add i) = some (.int .u8 (z0.getD i 0))) ∧ ∀ n ∈ z0,(Lit.int .u8 n).wf = true) (y0 : len0 * 1 ≤ 140737488351232) :
  Calls Try.prog 12 #[.slice a0 len0 cap0] w fun e w' => e = .returned (.bool true) ∧ Below w.heap.size w w':=by
 obtain ⟨l0,rfl,hr0,hm0,hw0,hc0⟩:=ReadsInt.ofRowC w0
 obtain ⟨k,h⟩:=P l0 hm0 y0 hw0
 refine (laws_FnStabilise.calls k _ _ l0 true w (Kd.C_of_reads (d:=(0 : Int)) (h1:=fun _ => rfl) hr0) hc0 h).mono ?_
 rintro e w' ⟨rfl,hd⟩
 exact ⟨rfl,hd⟩
end Go.Proofs.Ytengegdaiphfeaa.X
end
section
namespace Go.Proofs.Ytengegdaiphfeaa.X
open Go.RowKit Go.Proofs.YtengegdaiphfeaaW.PrintWords Go.Proofs.YtengegdaiphfeaaW.PrintLast Go.Proofs.YtengegdaiphfeaaW.PrintMore
attribute [local go_sem] max2_int min2_int max_two min_two max_three min_three max_four min_four
set_option linter.unusedVariables false
set_option linter.unusedSimpArgs false
def laws_eqIntS.l0 : Nat → List Int → List Int → Int → Option (Bool)
 | 0,_,_,_ => none
 | k + 1,x0,x1,x5 => if x5 < (x0.length : Int) then (if 0 ≤ x5 then (if x5 < (x1.length : Int) then (if (rd x0 x5) = (rd x1 x5) then (laws_eqIntS.l0 k x0 x1 (wrap64 (x5 + 1))) else (some false)) else (none)) else (none)) else (some true)
def laws_eqIntS.f (k : Nat) (l0 : List Int) (l1 : List Int) : Option (Bool):=if (l0.length : Int) = (l1.length : Int) then (laws_eqIntS.l0 k l0 l1 0) else (some false)
theorem laws_eqIntS.mono_l : ∀ k,(∀ y0 y1 y2,LeO (laws_eqIntS.l0 k y0 y1 y2) (laws_eqIntS.l0 (k + 1) y0 y1 y2))
 | 0 => fun _ _ _ r h => by simp [laws_eqIntS.l0] at h
 | k + 1 => by
  have ih0:=laws_eqIntS.mono_l k
  ·intro y0 y1 y2
   unfold laws_eqIntS.l0
   repeat' first
   | (with_reducible exact ih0 _ _ _)
   | (with_reducible exact LeO.refl _)
   | (with_reducible exact LeO.none _)
   | (with_reducible refine LeO.ite ?_ ?_)
   | (with_reducible refine LeO.bind ?_ (fun _ => ?_))
   | exact ih0 _ _ _
   | exact LeO.none _
   | refine LeO.ite ?_ ?_
   | refine LeO.bind ?_ (fun _ => ?_)
theorem laws_eqIntS.mono : ∀ a0 a1 k,LeO (laws_eqIntS.f k a0 a1) (laws_eqIntS.f (k + 1) a0 a1):=by
 intro a0 a1 k
 have ih0:=laws_eqIntS.mono_l k
 unfold laws_eqIntS.f
 repeat' first
   | (with_reducible exact ih0 _ _ _)
   | (with_reducible exact LeO.refl _)
   | (with_reducible exact LeO.none _)
   | (with_reducible refine LeO.ite ?_ ?_)
   | (with_reducible refine LeO.bind ?_ (fun _ => ?_))
   | exact ih0 _ _ _
   | exact LeO.none _
   | refine LeO.ite ?_ ?_
   | refine LeO.bind ?_ (fun _ => ?_)
set_option maxHeartbeats 8000000 in
set_option maxRecDepth 100000 in
theorem laws_eqIntS.calls (k : Nat) (A0 : Option Addr) (c0 : Nat) (l0 : List Int) (A1 : Option Addr) (c1 : Nat) (l1 : List Int) (r : Bool) (w : World) (hr0 : Kd.C (Kd.int .i64) w A0 l0.length l0) (hc0 : l0.length ≤ c0) (hr1 : Kd.C (Kd.int .i64) w A1 l1.length l1) (hc1 : l1.length ≤ c1) (h : laws_eqIntS.f k l0 l1 = some r) :
  Calls Try.prog 62 #[.slice A0 l0.length c0,.slice A1 l1.length c1] w fun e w' => e = .returned (.bool r) ∧ Drawn0 w w':=by
 have HR0:=Aside0.mk hr0
 have HC0:=Aside0.mk hc0
 clear hr0 hc0
 have HR1:=Aside0.mk hr1
 have HC1:=Aside0.mk hc1
 clear hr1 hc1
 have H : (if (l0.length : Int) = (l1.length : Int) then (laws_eqIntS.l0 k l0 l1 0) else (some false)) = some r:=h
 clear h
 by_cases c3 : (l0.length : Int) = (l1.length : Int)
 ·rw [if_pos c3] at H
  have c3b0 : ((l0.length : Int) == (l1.length : Int)) = true:=beq_iff_eq.mpr c3
  have c3b1 : ((l0.length : Int) != (l1.length : Int)) = false:=bne_eq_false_iff_eq.mpr c3
  have c3b2 : (l0.length == l1.length) = true:=by first|simpa using c3|(simp at c3 ⊢;omega)
  clear c3
  have H':=Aside0.mk H
  clear H
  go_enter Try.func62,Try.ntmps62
  go_wp2
  repeat (go_quiet (fail);try go_wp2)
  go_loopg [5] k (fun kq v5 w' => ∃ (x5_1 : Int),v5 = .int .i64 x5_1 ∧ Aside0 (laws_eqIntS.l0 kq l0 l1 x5_1 = some r) ∧ Aside0 (kq ≤ k) ∧ Drawn0 w w')
  case atStart => exact ⟨(0),(by first|rfl|(simp;done)|(simp [*];done)),H',⟨Nat.le_refl _⟩,by repeat (first|exact Drawn0.refl _|apply Drawn0.step)⟩
  case round =>
   clear H'
   try clear c1
   try clear p2
   try clear c3
   try clear c3b0
   try clear c3b1
   try clear c3b2
   obtain ⟨x5_1,rfl,HA,HK1,⟨m1,rfl⟩⟩:=hrel
   cases gk with
   | zero => exact absurd HA.out (by simp [laws_eqIntS.l0])
   | succ k1 =>
    have H:=HA.out
    clear HA
    simp only [laws_eqIntS.l0] at H
    by_cases c4 : x5_1 < (l0.length : Int)
    ·rw [if_pos c4] at H
     have c4b0 : decide (x5_1 < (l0.length : Int)) = true:=decide_eq_true c4
     clear c4
     by_cases c5 : 0 ≤ x5_1
     ·rw [if_pos c5] at H
      have c5b0 : decide (0 ≤ x5_1) = true:=decide_eq_true c5
      clear c5
      by_cases c6 : x5_1 < (l1.length : Int)
      ·rw [if_pos c6] at H
       have c6b0 : decide (x5_1 < (l1.length : Int)) = true:=decide_eq_true c6
       clear c6
       by_cases c7 : (rd l0 x5_1) = (rd l1 x5_1)
       ·rw [if_pos c7] at H
        have c7b0 : ((rd l0 x5_1) == (rd l1 x5_1)) = true:=beq_iff_eq.mpr c7
        have c7b1 : ((rd l0 x5_1) != (rd l1 x5_1)) = false:=bne_eq_false_iff_eq.mpr c7
        clear c7
        have H':=Aside0.mk H
        clear H
        have p210 : 0 ≤ (x5_1 : Int):=of_decide_eq_true (by first|(with_reducible assumption)|assumption)
        have q210 : x5_1 < (l0.length : Int):=of_decide_eq_true (by first|(with_reducible assumption)|assumption)
        obtain ⟨ad210,e210,hx210_0⟩:=Kd.at_int HR0.out x5_1 p210 q210
        cases e210
        replace p210:=eq_true p210
        replace q210:=eq_true q210
        have p211 : 0 ≤ (x5_1 : Int):=of_decide_eq_true (by first|(with_reducible assumption)|assumption)
        have q211 : x5_1 < (l1.length : Int):=of_decide_eq_true (by first|(with_reducible assumption)|assumption)
        obtain ⟨ad211,e211,hx211_0⟩:=Kd.at_int HR1.out x5_1 p211 q211
        cases e211
        replace p211:=eq_true p211
        replace q211:=eq_true q211
        go_wp2
        repeat (go_quiet (fail);try go_wp2)
        go_roundg k1
        case measure => have:=HK1.out;omega
        case rel => exact ⟨(wrap64 (x5_1 + 1)),(by first|rfl|(simp;done)|(simp [*];done)),H',⟨by have:=HK1.out;omega⟩,by repeat (first|exact Drawn0.refl _|apply Drawn0.step)⟩
       ·rw [if_neg c7] at H
        have c7b0 : ((rd l0 x5_1) == (rd l1 x5_1)) = false:=beq_eq_false_iff_ne.mpr c7
        have c7b1 : ((rd l0 x5_1) != (rd l1 x5_1)) = true:=bne_iff_ne.mpr c7
        obtain rfl:=Option.some.inj H
        have p210 : 0 ≤ (x5_1 : Int):=of_decide_eq_true (by first|(with_reducible assumption)|assumption)
        have q210 : x5_1 < (l0.length : Int):=of_decide_eq_true (by first|(with_reducible assumption)|assumption)
        obtain ⟨ad210,e210,hx210_0⟩:=Kd.at_int HR0.out x5_1 p210 q210
        cases e210
        replace p210:=eq_true p210
        replace q210:=eq_true q210
        have p211 : 0 ≤ (x5_1 : Int):=of_decide_eq_true (by first|(with_reducible assumption)|assumption)
        have q211 : x5_1 < (l1.length : Int):=of_decide_eq_true (by first|(with_reducible assumption)|assumption)
        obtain ⟨ad211,e211,hx211_0⟩:=Kd.at_int HR1.out x5_1 p211 q211
        cases e211
        replace p211:=eq_true p211
        replace q211:=eq_true q211
        go_wp2
        repeat (go_quiet (fail);try go_wp2)
        go_ret
        exact ⟨by first|rfl|(simp;done)|(simp [*];done),by repeat (first|exact Drawn0.refl _|apply Drawn0.step)⟩
      ·rw [if_neg c6] at H
       exact absurd H (by simp)
     ·rw [if_neg c5] at H
      exact absurd H (by simp)
    ·rw [if_neg c4] at H
     have c4b0 : decide (x5_1 < (l0.length : Int)) = false:=decide_eq_false c4
     clear c4
     obtain rfl:=Option.some.inj H
     go_wp2
     repeat (go_quiet (fail);try go_wp2)
     go_ret
     exact ⟨by first|rfl|(simp;done)|(simp [*];done),by repeat (first|exact Drawn0.refl _|apply Drawn0.step)⟩
 ·rw [if_neg c3] at H
  have c3b0 : ((l0.length : Int) == (l1.length : Int)) = false:=beq_eq_false_iff_ne.mpr c3
  have c3b1 : ((l0.length : Int) != (l1.length : Int)) = true:=bne_iff_ne.mpr c3
  have c3b2 : (l0.length == l1.length) = false:=by first|simpa using c3|(simp at c3 ⊢;omega)
  obtain rfl:=Option.some.inj H
  go_enter Try.func62,Try.ntmps62
  go_wp2
  repeat (go_quiet (fail);try go_wp2)
  go_ret
  exact ⟨by first|rfl|(simp;done)|(simp [*];done),by repeat (first|exact Drawn0.refl _|apply Drawn0.step)⟩
end Go.Proofs.Ytengegdaiphfeaa.X
end
section
namespace Go.Proofs.Ytengegdaiphfeaa.X
open Go.RowKit Go.Proofs.YtengegdaiphfeaaW.PrintWords Go.Proofs.YtengegdaiphfeaaW.PrintLast Go.Proofs.YtengegdaiphfeaaW.PrintMore
attribute [local go_sem] max2_int min2_int max_two min_two max_three min_three max_four min_four
set_option linter.unusedVariables false
set_option linter.unusedSimpArgs false
def laws_eqMatrix.f (k : Nat) (a0_0 : Int) (l0_1 : List Int) (a1_0 : Int) (l1_1 : List Int) : Option (Bool):=if a0_0 = a1_0 then ((laws_eqIntS.f k l0_1 l1_1).bind fun t214 => (if t214 = true then (some true) else (some false))) else (some false)
theorem laws_eqMatrix.mono : ∀ a0 a1 a2 a3 k,LeO (laws_eqMatrix.f k a0 a1 a2 a3) (laws_eqMatrix.f (k + 1) a0 a1 a2 a3):=by
 intro a0 a1 a2 a3 k
 unfold laws_eqMatrix.f
 repeat' first
   | (with_reducible exact laws_eqIntS.mono _ _ _)
   | (with_reducible exact LeO.refl _)
   | (with_reducible exact LeO.none _)
   | (with_reducible refine LeO.ite ?_ ?_)
   | (with_reducible refine LeO.bind ?_ (fun _ => ?_))
   | exact laws_eqIntS.mono _ _ _
   | exact LeO.none _
   | refine LeO.ite ?_ ?_
   | refine LeO.bind ?_ (fun _ => ?_)
set_option maxHeartbeats 8000000 in
set_option maxRecDepth 100000 in
theorem laws_eqMatrix.calls (k : Nat) (a0_0 : Int) (A0_1 : Option Addr) (c0_1 : Nat) (l0_1 : List Int) (a1_0 : Int) (A1_1 : Option Addr) (c1_1 : Nat) (l1_1 : List Int) (r : Bool) (w : World) (hr0_1 : Kd.C (Kd.int .i64) w A0_1 l0_1.length l0_1) (hc0_1 : l0_1.length ≤ c0_1) (hr1_1 : Kd.C (Kd.int .i64) w A1_1 l1_1.length l1_1) (hc1_1 : l1_1.length ≤ c1_1) (h : laws_eqMatrix.f k a0_0 l0_1 a1_0 l1_1 = some r) :
  Calls Try.prog 21 #[.agg #[.int .i64 a0_0,.slice A0_1 l0_1.length c0_1],.agg #[.int .i64 a1_0,.slice A1_1 l1_1.length c1_1]] w fun e w' => e = .returned (.bool r) ∧ Below w.heap.size w w':=by
 have hu28:=Try.underlying28
 have HR0_1:=Aside0.mk hr0_1
 have HC0_1:=Aside0.mk hc0_1
 clear hr0_1 hc0_1
 have HR1_1:=Aside0.mk hr1_1
 have HC1_1:=Aside0.mk hc1_1
 clear hr1_1 hc1_1
 have HB:=Aside0.mk (Below.refl w.heap.size w)
 have H : (if a0_0 = a1_0 then ((laws_eqIntS.f k l0_1 l1_1).bind fun t214 => (if t214 = true then (some true) else (some false))) else (some false)) = some r:=h
 clear h
 by_cases c3 : a0_0 = a1_0
 ·rw [if_pos c3] at H
  have c3b0 : (a0_0 == a1_0) = true:=beq_iff_eq.mpr c3
  have c3b1 : (a0_0 != a1_0) = false:=bne_eq_false_iff_eq.mpr c3
  clear c3
  replace H:=Option.bind_eq_some_iff.mp H
  obtain ⟨t214,A40,H⟩:=H
  replace H : (if t214 = true then (some true) else (some false)) = some r:=H
  have A4:=Aside0.mk A40
  clear A40
  by_cases c5 : t214 = true
  ·subst c5
   have H1 : (some true) = some r:=by rw [if_pos rfl] at H;exact H
   clear H
   have H:=H1
   clear H1
   obtain rfl:=Option.some.inj H
   go_enter Try.func21,Try.ntmps21
   go_wp2_with (first|((with_reducible refine gate_dst (N:=2) rfl ?_);refine box_event ?hg (N:=2) ?hd (cs:=#[.int .i64 a0_0,.slice A0_1 l0_1.length c0_1]) (t:=28) ?hr ?_;(case hd => rfl);(case hg => rfl);(case hr => first|(go_simp;done)|(go_simp;rfl));intro gb212 hg w6 hbox hb;have n0_:=Aside0.mk (below_step (by repeat (first|(with_reducible first|exact HB.out|apply below_alloc|apply pw_below_drewN|apply below_drew1)|exact HB.out)) hb);have n1_:=Aside0.mk (hbox);have n2_:=Aside0.mk ((by rw [hg];exact (below_size (by repeat (first|(with_reducible first|exact HB.out|apply below_alloc|apply pw_below_drewN|apply below_drew1)|exact HB.out))) : w.heap.size ≤ gb212));have n3_:=Aside0.mk ((by rw [hg];exact (below_size (by repeat (first|(with_reducible first|exact HB.out|apply below_alloc|apply pw_below_drewN|apply below_drew1)|exact HB.out))) : w.heap.size ≤ gb212));clear HB;have HB:=n0_;have BK212:=n1_;have GW212:=n2_;have GE212:=n3_;clear n0_ n1_ n2_ n3_;clear hb hbox hg)|((with_reducible refine gate_dst (N:=3) rfl ?_);refine box_event ?hg (N:=3) ?hd (cs:=#[.int .i64 a1_0,.slice A1_1 l1_1.length c1_1]) (t:=28) ?hr ?_;(case hd => rfl);(case hg => rfl);(case hr => first|(go_simp;done)|(go_simp;rfl));intro gb213 hg w7 hbox hb;have n0_:=Aside0.mk (blk_below (g:=gb212) (o:=.cells #[.int .i64 a0_0,.slice A0_1 l0_1.length c0_1] 28 (0,0)) (by (with_reducible repeat (first|refine blk_drewN ?_ _|refine blk_drew ?_|refine blk_alloc ?_ _));exact BK212.out) hb);have n1_:=Aside0.mk (below_step (by repeat (first|(with_reducible first|exact HB.out|apply below_alloc|apply pw_below_drewN|apply below_drew1|refine below_set ?_ GE212.out)|exact HB.out)) hb);have n2_:=Aside0.mk (hbox);have n3_:=Aside0.mk ((by rw [hg];exact (below_size (by repeat (first|(with_reducible first|exact HB.out|apply below_alloc|apply pw_below_drewN|apply below_drew1|refine below_set ?_ GE212.out)|exact HB.out))) : w.heap.size ≤ gb213));have n4_:=Aside0.mk ((by rw [hg];exact (below_size (by repeat (first|(with_reducible first|exact HB.out|apply below_alloc|apply pw_below_drewN|apply below_drew1|refine below_set ?_ GE212.out)|exact HB.out))) : w.heap.size ≤ gb213));have n5_:=Aside0.mk ((by rw [hg];exact Nat.ne_of_lt (blk_lt (g:=gb212) (o:=.cells #[.int .i64 a0_0,.slice A0_1 l0_1.length c0_1] 28 (0,0)) (by (with_reducible repeat (first|refine blk_drewN ?_ _|refine blk_drew ?_|refine blk_alloc ?_ _));exact BK212.out)) : gb212 ≠ gb213));have n6_:=Aside0.mk ((by rw [hg];exact Nat.ne_of_gt (blk_lt (g:=gb212) (o:=.cells #[.int .i64 a0_0,.slice A0_1 l0_1.length c0_1] 28 (0,0)) (by (with_reducible repeat (first|refine blk_drewN ?_ _|refine blk_drew ?_|refine blk_alloc ?_ _));exact BK212.out)) : gb213 ≠ gb212));clear BK212;clear HB;have BK212:=n0_;have HB:=n1_;have BK213:=n2_;have GW213:=n3_;have GE213:=n4_;have NB212_213:=n5_;have NB213_212:=n6_;clear n0_ n1_ n2_ n3_ n4_ n5_ n6_;clear hb hbox hg;have hnb8:=NB212_213.out;have hnc8:=NB213_212.out;have hcz9_0 : w7.cell? ⟨gb212,0,none⟩ = some (.int .i64 a0_0):=(blk_cell BK212.out 0).trans rfl;have hcz9_1 : w7.cell? ⟨gb212,1,none⟩ = some (.slice A0_1 l0_1.length c0_1):=(blk_cell BK212.out 1).trans rfl;have hfz9_0:=blk_frozen BK212.out 0;have hfz9_1:=blk_frozen BK212.out 1;have hcz10_0 : w7.cell? ⟨gb213,0,none⟩ = some (.int .i64 a1_0):=(blk_cell BK213.out 0).trans rfl;have hcz10_1 : w7.cell? ⟨gb213,1,none⟩ = some (.slice A1_1 l1_1.length c1_1):=(blk_cell BK213.out 1).trans rfl;have hfz10_0:=blk_frozen BK213.out 0;have hfz10_1:=blk_frozen BK213.out 1)|((with_reducible refine gate_callee (f:=62) rfl ?_);refine goesL_ (some 14) rfl rfl Try.func62 (by kernel_rfl) rfl #[.slice A0_1 l0_1.length c0_1,.slice A1_1 l1_1.length c1_1] rfl (by (try simp only [List.map_toArray,List.map_cons,List.map_nil]);first|done|rfl|(simp only [List.length_drop,List.length_take];rfl)) ?_;(with_reducible refine (laws_eqIntS.calls k _ _ l0_1 _ _ l1_1 true _ ?side1 ?side2 ?side3 ?side4 A4.out).mono ?_);(case side1 => repeat (first|exact (Kd.C_below HR0_1.out HB.out)|(with_reducible refine Kd.C_alloc ?_ _)|(with_reducible refine Kd.C_drewN ?_ _)|(with_reducible refine Kd.C_drew ?_)));(case side2 => exact HC0_1.out);(case side3 => repeat (first|exact (Kd.C_below HR1_1.out HB.out)|(with_reducible refine Kd.C_alloc ?_ _)|(with_reducible refine Kd.C_drewN ?_ _)|(with_reducible refine Kd.C_drew ?_)));(case side4 => exact HC1_1.out);rintro e w' ⟨rfl,⟨nd,rfl⟩⟩;refine ⟨_,rfl,?_⟩))
   go_ret
   exact ⟨by first|rfl|(simp [errW_none,errW_some] <;> rfl)|(simp [*,errW_none,errW_some] <;> rfl),by repeat (first|(with_reducible first|exact HB.out|apply below_alloc|apply pw_below_drewN|apply below_drew1|refine below_set ?_ GE212.out|refine below_set ?_ GE213.out)|exact HB.out)⟩
  ·replace c5:=Bool.eq_false_iff.mpr c5
   subst c5
   have H1 : (some false) = some r:=by rw [if_neg (show ¬ (false = true) by decide)] at H;exact H
   clear H
   have H:=H1
   clear H1
   obtain rfl:=Option.some.inj H
   go_enter Try.func21,Try.ntmps21
   go_wp2_with (first|((with_reducible refine gate_dst (N:=2) rfl ?_);refine box_event ?hg (N:=2) ?hd (cs:=#[.int .i64 a0_0,.slice A0_1 l0_1.length c0_1]) (t:=28) ?hr ?_;(case hd => rfl);(case hg => rfl);(case hr => first|(go_simp;done)|(go_simp;rfl));intro gb212 hg w11 hbox hb;have n0_:=Aside0.mk (below_step (by repeat (first|(with_reducible first|exact HB.out|apply below_alloc|apply pw_below_drewN|apply below_drew1)|exact HB.out)) hb);have n1_:=Aside0.mk (hbox);have n2_:=Aside0.mk ((by rw [hg];exact (below_size (by repeat (first|(with_reducible first|exact HB.out|apply below_alloc|apply pw_below_drewN|apply below_drew1)|exact HB.out))) : w.heap.size ≤ gb212));have n3_:=Aside0.mk ((by rw [hg];exact (below_size (by repeat (first|(with_reducible first|exact HB.out|apply below_alloc|apply pw_below_drewN|apply below_drew1)|exact HB.out))) : w.heap.size ≤ gb212));clear HB;have HB:=n0_;have BK212:=n1_;have GW212:=n2_;have GE212:=n3_;clear n0_ n1_ n2_ n3_;clear hb hbox hg)|((with_reducible refine gate_dst (N:=3) rfl ?_);refine box_event ?hg (N:=3) ?hd (cs:=#[.int .i64 a1_0,.slice A1_1 l1_1.length c1_1]) (t:=28) ?hr ?_;(case hd => rfl);(case hg => rfl);(case hr => first|(go_simp;done)|(go_simp;rfl));intro gb213 hg w12 hbox hb;have n0_:=Aside0.mk (blk_below (g:=gb212) (o:=.cells #[.int .i64 a0_0,.slice A0_1 l0_1.length c0_1] 28 (0,0)) (by (with_reducible repeat (first|refine blk_drewN ?_ _|refine blk_drew ?_|refine blk_alloc ?_ _));exact BK212.out) hb);have n1_:=Aside0.mk (below_step (by repeat (first|(with_reducible first|exact HB.out|apply below_alloc|apply pw_below_drewN|apply below_drew1|refine below_set ?_ GE212.out)|exact HB.out)) hb);have n2_:=Aside0.mk (hbox);have n3_:=Aside0.mk ((by rw [hg];exact (below_size (by repeat (first|(with_reducible first|exact HB.out|apply below_alloc|apply pw_below_drewN|apply below_drew1|refine below_set ?_ GE212.out)|exact HB.out))) : w.heap.size ≤ gb213));have n4_:=Aside0.mk ((by rw [hg];exact (below_size (by repeat (first|(with_reducible first|exact HB.out|apply below_alloc|apply pw_below_drewN|apply below_drew1|refine below_set ?_ GE212.out)|exact HB.out))) : w.heap.size ≤ gb213));have n5_:=Aside0.mk ((by rw [hg];exact Nat.ne_of_lt (blk_lt (g:=gb212) (o:=.cells #[.int .i64 a0_0,.slice A0_1 l0_1.length c0_1] 28 (0,0)) (by (with_reducible repeat (first|refine blk_drewN ?_ _|refine blk_drew ?_|refine blk_alloc ?_ _));exact BK212.out)) : gb212 ≠ gb213));have n6_:=Aside0.mk ((by rw [hg];exact Nat.ne_of_gt (blk_lt (g:=gb212) (o:=.cells #[.int .i64 a0_0,.slice A0_1 l0_1.length c0_1] 28 (0,0)) (by (with_reducible repeat (first|refine blk_drewN ?_ _|refine blk_drew ?_|refine blk_alloc ?_ _));exact BK212.out)) : gb213 ≠ gb212));clear BK212;clear HB;have BK212:=n0_;have HB:=n1_;have BK213:=n2_;have GW213:=n3_;have GE213:=n4_;have NB212_213:=n5_;have NB213_212:=n6_;clear n0_ n1_ n2_ n3_ n4_ n5_ n6_;clear hb hbox hg;have hnb13:=NB212_213.out;have hnc13:=NB213_212.out;have hcz14_0 : w12.cell? ⟨gb212,0,none⟩ = some (.int .i64 a0_0):=(blk_cell BK212.out 0).trans rfl;have hcz14_1 : w12.cell? ⟨gb212,1,none⟩ = some (.slice A0_1 l0_1.length c0_1):=(blk_cell BK212.out 1).trans rfl;have hfz14_0:=blk_frozen BK212.out 0;have hfz14_1:=blk_frozen BK212.out 1;have hcz15_0 : w12.cell? ⟨gb213,0,none⟩ = some (.int .i64 a1_0):=(blk_cell BK213.out 0).trans rfl;have hcz15_1 : w12.cell? ⟨gb213,1,none⟩ = some (.slice A1_1 l1_1.length c1_1):=(blk_cell BK213.out 1).trans rfl;have hfz15_0:=blk_frozen BK213.out 0;have hfz15_1:=blk_frozen BK213.out 1)|((with_reducible refine gate_callee (f:=62) rfl ?_);refine goesL_ (some 14) rfl rfl Try.func62 (by kernel_rfl) rfl #[.slice A0_1 l0_1.length c0_1,.slice A1_1 l1_1.length c1_1] rfl (by (try simp only [List.map_toArray,List.map_cons,List.map_nil]);first|done|rfl|(simp only [List.length_drop,List.length_take];rfl)) ?_;(with_reducible refine (laws_eqIntS.calls k _ _ l0_1 _ _ l1_1 false _ ?side1 ?side2 ?side3 ?side4 A4.out).mono ?_);(case side1 => repeat (first|exact (Kd.C_below HR0_1.out HB.out)|(with_reducible refine Kd.C_alloc ?_ _)|(with_reducible refine Kd.C_drewN ?_ _)|(with_reducible refine Kd.C_drew ?_)));(case side2 => exact HC0_1.out);(case side3 => repeat (first|exact (Kd.C_below HR1_1.out HB.out)|(with_reducible refine Kd.C_alloc ?_ _)|(with_reducible refine Kd.C_drewN ?_ _)|(with_reducible refine Kd.C_drew ?_)));(case side4 => exact HC1_1.out);rintro e w' ⟨rfl,⟨nd,rfl⟩⟩;refine ⟨_,rfl,?_⟩))
   go_ret
   exact ⟨by first|rfl|(simp [errW_none,errW_some] <;> rfl)|(simp [*,errW_none,errW_some] <;> rfl),by repeat (first|(with_reducible first|exact HB.out|apply below_alloc|apply pw_below_drewN|apply below_drew1|refine below_set ?_ GE212.out|refine below_set ?_ GE213.out)|exact HB.out)⟩
 ·rw [if_neg c3] at H
  have c3b0 : (a0_0 == a1_0) = false:=beq_eq_false_iff_ne.mpr c3
  have c3b1 : (a0_0 != a1_0) = true:=bne_iff_ne.mpr c3
  obtain rfl:=Option.some.inj H
  go_enter Try.func21,Try.ntmps21
  go_wp2_with (first|((with_reducible refine gate_dst (N:=2) rfl ?_);refine box_event ?hg (N:=2) ?hd (cs:=#[.int .i64 a0_0,.slice A0_1 l0_1.length c0_1]) (t:=28) ?hr ?_;(case hd => rfl);(case hg => rfl);(case hr => first|(go_simp;done)|(go_simp;rfl));intro gb212 hg w16 hbox hb;have n0_:=Aside0.mk (below_step (by repeat (first|(with_reducible first|exact HB.out|apply below_alloc|apply pw_below_drewN|apply below_drew1)|exact HB.out)) hb);have n1_:=Aside0.mk (hbox);have n2_:=Aside0.mk ((by rw [hg];exact (below_size (by repeat (first|(with_reducible first|exact HB.out|apply below_alloc|apply pw_below_drewN|apply below_drew1)|exact HB.out))) : w.heap.size ≤ gb212));have n3_:=Aside0.mk ((by rw [hg];exact (below_size (by repeat (first|(with_reducible first|exact HB.out|apply below_alloc|apply pw_below_drewN|apply below_drew1)|exact HB.out))) : w.heap.size ≤ gb212));clear HB;have HB:=n0_;have BK212:=n1_;have GW212:=n2_;have GE212:=n3_;clear n0_ n1_ n2_ n3_;clear hb hbox hg)|((with_reducible refine gate_dst (N:=3) rfl ?_);refine box_event ?hg (N:=3) ?hd (cs:=#[.int .i64 a1_0,.slice A1_1 l1_1.length c1_1]) (t:=28) ?hr ?_;(case hd => rfl);(case hg => rfl);(case hr => first|(go_simp;done)|(go_simp;rfl));intro gb213 hg w17 hbox hb;have n0_:=Aside0.mk (blk_below (g:=gb212) (o:=.cells #[.int .i64 a0_0,.slice A0_1 l0_1.length c0_1] 28 (0,0)) (by (with_reducible repeat (first|refine blk_drewN ?_ _|refine blk_drew ?_|refine blk_alloc ?_ _));exact BK212.out) hb);have n1_:=Aside0.mk (below_step (by repeat (first|(with_reducible first|exact HB.out|apply below_alloc|apply pw_below_drewN|apply below_drew1|refine below_set ?_ GE212.out)|exact HB.out)) hb);have n2_:=Aside0.mk (hbox);have n3_:=Aside0.mk ((by rw [hg];exact (below_size (by repeat (first|(with_reducible first|exact HB.out|apply below_alloc|apply pw_below_drewN|apply below_drew1|refine below_set ?_ GE212.out)|exact HB.out))) : w.heap.size ≤ gb213));have n4_:=Aside0.mk ((by rw [hg];exact (below_size (by repeat (first|(with_reducible first|exact HB.out|apply below_alloc|apply pw_below_drewN|apply below_drew1|refine below_set ?_ GE212.out)|exact HB.out))) : w.heap.size ≤ gb213));have n5_:=Aside0.mk ((by rw [hg];exact Nat.ne_of_lt (blk_lt (g:=gb212) (o:=.cells #[.int .i64 a0_0,.slice A0_1 l0_1.length c0_1] 28 (0,0)) (by (with_reducible repeat (first|refine blk_drewN ?_ _|refine blk_drew ?_|refine blk_alloc ?_ _));exact BK212.out)) : gb212 ≠ gb213));have n6_:=Aside0.mk ((by rw [hg];exact Nat.ne_of_gt (blk_lt (g:=gb212) (o:=.cells #[.int .i64 a0_0,.slice A0_1 l0_1.length c0_1] 28 (0,0)) (by (with_reducible repeat (first|refine blk_drewN ?_ _|refine blk_drew ?_|refine blk_alloc ?_ _));exact BK212.out)) : gb213 ≠ gb212));clear BK212;clear HB;have BK212:=n0_;have HB:=n1_;have BK213:=n2_;have GW213:=n3_;have GE213:=n4_;have NB212_213:=n5_;have NB213_212:=n6_;clear n0_ n1_ n2_ n3_ n4_ n5_ n6_;clear hb hbox hg;have hnb18:=NB212_213.out;have hnc18:=NB213_212.out;have hcz19_0 : w17.cell? ⟨gb212,0,none⟩ = some (.int .i64 a0_0):=(blk_cell BK212.out 0).trans rfl;have hcz19_1 : w17.cell? ⟨gb212,1,none⟩ = some (.slice A0_1 l0_1.length c0_1):=(blk_cell BK212.out 1).trans rfl;have hfz19_0:=blk_frozen BK212.out 0;have hfz19_1:=blk_frozen BK212.out 1;have hcz20_0 : w17.cell? ⟨gb213,0,none⟩ = some (.int .i64 a1_0):=(blk_cell BK213.out 0).trans rfl;have hcz20_1 : w17.cell? ⟨gb213,1,none⟩ = some (.slice A1_1 l1_1.length c1_1):=(blk_cell BK213.out 1).trans rfl;have hfz20_0:=blk_frozen BK213.out 0;have hfz20_1:=blk_frozen BK213.out 1))
  go_ret
  exact ⟨by first|rfl|(simp [errW_none,errW_some] <;> rfl)|(simp [*,errW_none,errW_some] <;> rfl),by repeat (first|(with_reducible first|exact HB.out|apply below_alloc|apply pw_below_drewN|apply below_drew1|refine below_set ?_ GE212.out|refine below_set ?_ GE213.out)|exact HB.out)⟩
end Go.Proofs.Ytengegdaiphfeaa.X
end
section
namespace Go.Proofs.Ytengegdaiphfeaa.X
open Go.RowKit Go.Proofs.YtengegdaiphfeaaW.PrintWords Go.Proofs.YtengegdaiphfeaaW.PrintLast Go.Proofs.YtengegdaiphfeaaW.PrintMore
attribute [local go_sem] max2_int min2_int max_two min_two max_three min_three max_four min_four
set_option linter.unusedVariables false
set_option linter.unusedSimpArgs false
def laws_szIntS.f (l0 : List Int) (a1 : Int) : Option (Int):=if (wrap64 (a1 - (l0.length : Int))) < 0 then (some (-1)) else (some (wrap64 (a1 - (l0.length : Int))))
set_option maxHeartbeats 8000000 in
set_option maxRecDepth 100000 in
theorem laws_szIntS.calls (A0 : Option Addr) (c0 : Nat) (l0 : List Int) (a1 : Int) (r : Int) (w : World) (hr0 : Kd.C (Kd.int .i64) w A0 l0.length l0) (hc0 : l0.length ≤ c0) (h : laws_szIntS.f l0 a1 = some r) :
  Calls Try.prog 54 #[.slice A0 l0.length c0,.int .i64 a1] w fun e w' => e = .returned (.int .i64 r) ∧ Drawn0 w w':=by
 have HR0:=Aside0.mk hr0
 have HC0:=Aside0.mk hc0
 clear hr0 hc0
 have H : (if (wrap64 (a1 - (l0.length : Int))) < 0 then (some (-1)) else (some (wrap64 (a1 - (l0.length : Int))))) = some r:=h
 clear h
 by_cases c3 : (wrap64 (a1 - (l0.length : Int))) < 0
 ·rw [if_pos c3] at H
  have c3b0 : decide ((wrap64 (a1 - (l0.length : Int))) < 0) = true:=decide_eq_true c3
  clear c3
  obtain rfl:=Option.some.inj H
  go_enter Try.func54,Try.ntmps54
  go_wp2
  go_ret
  exact ⟨by first|rfl|(simp;done)|(simp [*];done),by repeat (first|exact Drawn0.refl _|apply Drawn0.step)⟩
 ·rw [if_neg c3] at H
  have c3b0 : decide ((wrap64 (a1 - (l0.length : Int))) < 0) = false:=decide_eq_false c3
  clear c3
  obtain rfl:=Option.some.inj H
  go_enter Try.func54,Try.ntmps54
  go_wp2
  go_ret
  exact ⟨by first|rfl|(simp;done)|(simp [*];done),by repeat (first|exact Drawn0.refl _|apply Drawn0.step)⟩
end Go.Proofs.Ytengegdaiphfeaa.X
end
