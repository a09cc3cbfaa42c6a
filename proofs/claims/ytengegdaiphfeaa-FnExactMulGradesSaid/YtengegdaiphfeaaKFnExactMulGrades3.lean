import Derived.Test.YtengegdaiphfeaaKFnExactMulGrades2
section
namespace Go.Proofs.Ytengegdaiphfeaa.X
open Go.RowKit Go.Proofs.YtengegdaiphfeaaW.PrintWords Go.Proofs.YtengegdaiphfeaaW.PrintLast Go.Proofs.YtengegdaiphfeaaW.PrintMore
attribute [local go_sem] max2_int min2_int max_two min_two max_three min_three max_four min_four
set_option linter.unusedVariables false
set_option linter.unusedSimpArgs false
set_option maxHeartbeats 8000000 in
set_option maxRecDepth 100000 in
noncomputable def laws_FnExactMulGrades.p0 (k : Nat) (a0_0 : Int) (A0_1 : Option Addr) (c0_1 : Nat) (l0_1 : List Int) (a1_0 : Int) (A1_1 : Option Addr) (c1_1 : Nat) (l1_1 : List Int) (r : Bool) (w : World) : { G_ : Prop // ∀ (hr0_1 : Kd.C (Kd.int .i64) w A0_1 l0_1.length l0_1) (hc0_1 : l0_1.length ≤ c0_1) (hr1_1 : Kd.C (Kd.int .i64) w A1_1 l1_1.length l1_1) (hc1_1 : l1_1.length ≤ c1_1) (h : laws_FnExactMulGrades.f k a0_0 l0_1 a1_0 l1_1 = some r),Aside0 G_ → Calls Try.prog 6 #[.agg #[.int .i64 a0_0,.slice A0_1 l0_1.length c0_1],.agg #[.int .i64 a1_0,.slice A1_1 l1_1.length c1_1]] w fun e w' => e = .returned (.bool r) ∧ Below w.heap.size w w' }:=⟨_,fun hr0_1 hc0_1 hr1_1 hc1_1 h hG_0 => by
 have hu26:=Try.underlying26
 have hu28:=Try.underlying28
 have HR0_1:=Aside0.mk hr0_1
 have HC0_1:=Aside0.mk hc0_1
 clear hr0_1 hc0_1
 have HR1_1:=Aside0.mk hr1_1
 have HC1_1:=Aside0.mk hc1_1
 clear hr1_1 hc1_1
 have HB:=Aside0.mk (Below.refl w.heap.size w)
 have H : ((laws_szMatrix.f a0_0 l0_1 1048576).bind fun t349 => (if t349 < 0 then (some true) else (laws_FnExactMulGrades.j0 k t349 a0_0 l0_1 a1_0 l1_1))) = some r:=h
 clear h
 replace H:=Option.bind_eq_some_iff.mp H
 obtain ⟨t349,A30,H⟩:=H
 replace H : (if t349 < 0 then (some true) else (laws_FnExactMulGrades.j0 k t349 a0_0 l0_1 a1_0 l1_1)) = some r:=H
 have A3:=Aside0.mk A30
 clear A30
 have HC4:=Aside0.mk H
 clear H
 go_enter Try.func6,Try.ntmps6
 go_upto_if 21 with (first|((with_reducible refine gate_dst (N:=2) rfl ?_);refine box_event ?hg (N:=2) ?hd (cs:=#[.int .i64 a0_0,.slice A0_1 l0_1.length c0_1]) (t:=26) ?hr ?_;(case hd => rfl);(case hg => rfl);(case hr => first|(go_simp;done)|(go_simp;rfl));intro gb347 hg w5 hbox hb;have n0_:=Aside0.mk (below_step (by repeat (first|(with_reducible first|exact HB.out|apply below_alloc|apply pw_below_drewN|apply below_drew1)|exact HB.out)) hb);have n1_:=Aside0.mk (hbox);have n2_:=Aside0.mk ((by rw [hg];exact (below_size (by repeat (first|(with_reducible first|exact HB.out|apply below_alloc|apply pw_below_drewN|apply below_drew1)|exact HB.out))) : w.heap.size ≤ gb347));have n3_:=Aside0.mk ((by rw [hg];exact (below_size (by repeat (first|(with_reducible first|exact HB.out|apply below_alloc|apply pw_below_drewN|apply below_drew1)|exact HB.out))) : w.heap.size ≤ gb347));clear HB;have HB:=n0_;have BK347:=n1_;have GW347:=n2_;have GE347:=n3_;clear n0_ n1_ n2_ n3_;clear hb hbox hg)|((with_reducible refine gate_dst (N:=3) rfl ?_);refine box_event ?hg (N:=3) ?hd (cs:=#[.int .i64 a1_0,.slice A1_1 l1_1.length c1_1]) (t:=26) ?hr ?_;(case hd => rfl);(case hg => rfl);(case hr => first|(go_simp;done)|(go_simp;rfl));intro gb348 hg w6 hbox hb;have n0_:=Aside0.mk (blk_below (g:=gb347) (o:=.cells #[.int .i64 a0_0,.slice A0_1 l0_1.length c0_1] 26 (0,0)) (by (with_reducible repeat (first|refine blk_drewN ?_ _|refine blk_drew ?_|refine blk_alloc ?_ _));exact BK347.out) hb);have n1_:=Aside0.mk (below_step (by repeat (first|(with_reducible first|exact HB.out|apply below_alloc|apply pw_below_drewN|apply below_drew1|refine below_set ?_ GE347.out)|exact HB.out)) hb);have n2_:=Aside0.mk (hbox);have n3_:=Aside0.mk ((by rw [hg];exact (below_size (by repeat (first|(with_reducible first|exact HB.out|apply below_alloc|apply pw_below_drewN|apply below_drew1|refine below_set ?_ GE347.out)|exact HB.out))) : w.heap.size ≤ gb348));have n4_:=Aside0.mk ((by rw [hg];exact (below_size (by repeat (first|(with_reducible first|exact HB.out|apply below_alloc|apply pw_below_drewN|apply below_drew1|refine below_set ?_ GE347.out)|exact HB.out))) : w.heap.size ≤ gb348));have n5_:=Aside0.mk ((by rw [hg];exact Nat.ne_of_lt (blk_lt (g:=gb347) (o:=.cells #[.int .i64 a0_0,.slice A0_1 l0_1.length c0_1] 26 (0,0)) (by (with_reducible repeat (first|refine blk_drewN ?_ _|refine blk_drew ?_|refine blk_alloc ?_ _));exact BK347.out)) : gb347 ≠ gb348));have n6_:=Aside0.mk ((by rw [hg];exact Nat.ne_of_gt (blk_lt (g:=gb347) (o:=.cells #[.int .i64 a0_0,.slice A0_1 l0_1.length c0_1] 26 (0,0)) (by (with_reducible repeat (first|refine blk_drewN ?_ _|refine blk_drew ?_|refine blk_alloc ?_ _));exact BK347.out)) : gb348 ≠ gb347));clear BK347;clear HB;have BK347:=n0_;have HB:=n1_;have BK348:=n2_;have GW348:=n3_;have GE348:=n4_;have NB347_348:=n5_;have NB348_347:=n6_;clear n0_ n1_ n2_ n3_ n4_ n5_ n6_;clear hb hbox hg;have hnb7:=NB347_348.out;have hnc7:=NB348_347.out;have hcz8_0 : w6.cell? ⟨gb347,0,none⟩ = some (.int .i64 a0_0):=(blk_cell BK347.out 0).trans rfl;have hcz8_1 : w6.cell? ⟨gb347,1,none⟩ = some (.slice A0_1 l0_1.length c0_1):=(blk_cell BK347.out 1).trans rfl;have hfz8_0:=blk_frozen BK347.out 0;have hfz8_1:=blk_frozen BK347.out 1)|((with_reducible refine gate_callee (f:=17) rfl ?_);refine goesL_ (some 19) rfl rfl Try.func17 (by kernel_rfl) rfl #[.agg #[.int .i64 a0_0,.slice A0_1 l0_1.length c0_1],.int .i64 1048576] rfl (by (try simp only [List.map_toArray,List.map_cons,List.map_nil]);first|done|rfl|(simp only [List.length_drop,List.length_take];rfl)) ?_;(with_reducible refine (laws_szMatrix.calls a0_0 _ _ l0_1 1048576 t349 _ ?side1 ?side2 A3.out).mono ?_);(case side1 => repeat (first|exact (Kd.C_below HR0_1.out HB.out)|(with_reducible refine Kd.C_alloc ?_ _)|(with_reducible refine Kd.C_drewN ?_ _)|(with_reducible refine Kd.C_drew ?_)));(case side2 => exact HC0_1.out);rintro e w9 ⟨rfl,hb⟩;refine ⟨_,rfl,?_⟩;have n0_:=Aside0.mk (blk_below (g:=gb347) (o:=.cells #[.int .i64 a0_0,.slice A0_1 l0_1.length c0_1] 26 (0,0)) (by (with_reducible repeat (first|refine blk_drewN ?_ _|refine blk_drew ?_|refine blk_alloc ?_ _));exact BK347.out) hb);have n1_:=Aside0.mk (blk_below (g:=gb348) (o:=.cells #[.int .i64 a1_0,.slice A1_1 l1_1.length c1_1] 26 (0,0)) (by (with_reducible repeat (first|refine blk_drewN ?_ _|refine blk_drew ?_|refine blk_alloc ?_ _));exact BK348.out) hb);have n2_:=Aside0.mk (below_step (by repeat (first|(with_reducible first|exact HB.out|apply below_alloc|apply pw_below_drewN|apply below_drew1|refine below_set ?_ GE347.out|refine below_set ?_ GE348.out)|exact HB.out)) hb);clear BK347;clear BK348;clear HB;have BK347:=n0_;have BK348:=n1_;have HB:=n2_;clear n0_ n1_ n2_;(try clear hb);(try clear hb2);(try clear hk);(try clear hi)))
 (try simp only [Act.put,List.setIfInBounds_toArray,List.set_cons_zero,List.set_cons_succ])
 go_cut [] (fun wc => ∃ (kq : Nat),Aside0 (laws_FnExactMulGrades.j0 kq t349 a0_0 l0_1 a1_0 l1_1 = some r) ∧ Aside0 (kq ≤ k) ∧ Aside0 (wc.heap[gb347]? = some (.cells #[.int .i64 a0_0,(.slice A0_1 l0_1.length c0_1)] 26 (0,0))) ∧ Aside0 (wc.heap[gb348]? = some (.cells #[.int .i64 a1_0,(.slice A1_1 l1_1.length c1_1)] 26 (0,0))) ∧ Aside0 (Below w.heap.size w wc))
 case first =>
  have H:=HC4.out
  clear HC4
  by_cases c10 : t349 < 0
  ·rw [if_pos c10] at H
   have c10b0 : decide (t349 < 0) = true:=decide_eq_true c10
   clear c10
   (first|rw [c10b0]|(simp only [i64_w,i32_w];rw [c10b0])|skip)
   obtain rfl:=Option.some.inj H
   go_wp2
   go_ret
   exact ⟨by first|rfl|(simp [errW_none,errW_some] <;> rfl)|(simp [*,errW_none,errW_some] <;> rfl),by repeat (first|(with_reducible first|exact HB.out|apply below_alloc|apply pw_below_drewN|apply below_drew1|refine below_set ?_ GE347.out|refine below_set ?_ GE348.out)|exact HB.out)⟩
  ·rw [if_neg c10] at H
   have c10b0 : decide (t349 < 0) = false:=decide_eq_false c10
   clear c10
   (first|rw [c10b0]|(simp only [i64_w,i32_w];rw [c10b0])|skip)
   have H':=Aside0.mk H
   clear H
   go_wp2
   go_meet
   case rel => exact ⟨_,H',⟨by first|omega|exact Nat.le_refl _⟩,⟨by (with_reducible repeat (first|refine blk_drewN ?_ _|refine blk_drew ?_|refine blk_alloc ?_ _));exact BK347.out⟩,⟨by (with_reducible repeat (first|refine blk_drewN ?_ _|refine blk_drew ?_|refine blk_alloc ?_ _));exact BK348.out⟩,⟨by repeat (first|(with_reducible first|exact HB.out|apply below_alloc|apply pw_below_drewN|apply below_drew1|refine below_set ?_ GE347.out|refine below_set ?_ GE348.out)|exact HB.out)⟩⟩
 case rest =>
  clear HC4
  try clear c1
  try clear p2
  try clear c6
  try clear c7
  try clear c10
  try clear c10b0
  try clear hcz8_0
  try clear hcz8_1
  try clear hfz8_0
  try clear hfz8_1
  obtain ⟨kq,HA,HJ3,BK347,BK348,HB⟩:=hcut
  cases kq with
  | zero => exact absurd HA.out (by simp [laws_FnExactMulGrades.j0])
  | succ kj3 =>
   have H:=HA.out
   clear HA
   simp only [laws_FnExactMulGrades.j0] at H
   replace H:=Option.bind_eq_some_iff.mp H
   obtain ⟨t350,A110,H⟩:=H
   replace H : (if t350 < 0 then (some true) else (laws_FnExactMulGrades.j1 kj3 a0_0 l0_1 a1_0 l1_1)) = some r:=H
   have A11:=Aside0.mk A110
   clear A110
   have HC12:=Aside0.mk H
   clear H
   have hnb13:=NB348_347.out
   have hnc13:=NB347_348.out
   have hcz14_0 : wc.cell? ⟨gb348,0,none⟩ = some (.int .i64 a1_0):=(blk_cell BK348.out 0).trans rfl
   have hcz14_1 : wc.cell? ⟨gb348,1,none⟩ = some (.slice A1_1 l1_1.length c1_1):=(blk_cell BK348.out 1).trans rfl
   have hfz14_0:=blk_frozen BK348.out 0
   have hfz14_1:=blk_frozen BK348.out 1
   go_upto_if 26 with (first|((with_reducible refine gate_callee (f:=17) rfl ?_);refine goesL_ (some 24) rfl rfl Try.func17 (by kernel_rfl) rfl #[.agg #[.int .i64 a1_0,.slice A1_1 l1_1.length c1_1],.int .i64 t349] rfl (by (try simp only [List.map_toArray,List.map_cons,List.map_nil]);first|done|rfl|(simp only [List.length_drop,List.length_take];rfl)) ?_;(with_reducible refine (laws_szMatrix.calls a1_0 _ _ l1_1 t349 t350 _ ?side1 ?side2 A11.out).mono ?_);(case side1 => repeat (first|exact (Kd.C_below HR1_1.out HB.out)|(with_reducible refine Kd.C_alloc ?_ _)|(with_reducible refine Kd.C_drewN ?_ _)|(with_reducible refine Kd.C_drew ?_)));(case side2 => exact HC1_1.out);rintro e w15 ⟨rfl,hb⟩;refine ⟨_,rfl,?_⟩;have n0_:=Aside0.mk (blk_below (g:=gb347) (o:=.cells #[.int .i64 a0_0,.slice A0_1 l0_1.length c0_1] 26 (0,0)) (by (with_reducible repeat (first|refine blk_drewN ?_ _|refine blk_drew ?_|refine blk_alloc ?_ _));exact BK347.out) hb);have n1_:=Aside0.mk (blk_below (g:=gb348) (o:=.cells #[.int .i64 a1_0,.slice A1_1 l1_1.length c1_1] 26 (0,0)) (by (with_reducible repeat (first|refine blk_drewN ?_ _|refine blk_drew ?_|refine blk_alloc ?_ _));exact BK348.out) hb);have n2_:=Aside0.mk (below_step (by repeat (first|(with_reducible first|exact HB.out|apply below_alloc|apply pw_below_drewN|apply below_drew1|refine below_set ?_ GE347.out|refine below_set ?_ GE348.out)|exact HB.out)) hb);clear BK347;clear BK348;clear HB;have BK347:=n0_;have BK348:=n1_;have HB:=n2_;clear n0_ n1_ n2_;(try clear hb);(try clear hb2);(try clear hk);(try clear hi)))
   (try simp only [Act.put,List.setIfInBounds_toArray,List.set_cons_zero,List.set_cons_succ])
   go_cut [] (fun wc => ∃ (kq : Nat),Aside0 (laws_FnExactMulGrades.j1 kq a0_0 l0_1 a1_0 l1_1 = some r) ∧ Aside0 (kq ≤ kj3) ∧ Aside0 (wc.heap[gb347]? = some (.cells #[.int .i64 a0_0,(.slice A0_1 l0_1.length c0_1)] 26 (0,0))) ∧ Aside0 (wc.heap[gb348]? = some (.cells #[.int .i64 a1_0,(.slice A1_1 l1_1.length c1_1)] 26 (0,0))) ∧ Aside0 (Below w.heap.size w wc))
   case first =>
    have H:=HC12.out
    clear HC12
    by_cases c16 : t350 < 0
    ·rw [if_pos c16] at H
     have c16b0 : decide (t350 < 0) = true:=decide_eq_true c16
     clear c16
     (first|rw [c16b0]|(simp only [i64_w,i32_w];rw [c16b0])|skip)
     obtain rfl:=Option.some.inj H
     go_wp2
     go_ret
     exact ⟨by first|rfl|(simp [errW_none,errW_some] <;> rfl)|(simp [*,errW_none,errW_some] <;> rfl),by repeat (first|(with_reducible first|exact HB.out|apply below_alloc|apply pw_below_drewN|apply below_drew1|refine below_set ?_ GE347.out|refine below_set ?_ GE348.out)|exact HB.out)⟩
    ·rw [if_neg c16] at H
     have c16b0 : decide (t350 < 0) = false:=decide_eq_false c16
     clear c16
     (first|rw [c16b0]|(simp only [i64_w,i32_w];rw [c16b0])|skip)
     have H':=Aside0.mk H
     clear H
     go_wp2
     go_meet
     case rel => exact ⟨_,H',⟨by have:=HJ3.out;first|omega|exact Nat.le_refl _⟩,⟨by (with_reducible repeat (first|refine blk_drewN ?_ _|refine blk_drew ?_|refine blk_alloc ?_ _));exact BK347.out⟩,⟨by (with_reducible repeat (first|refine blk_drewN ?_ _|refine blk_drew ?_|refine blk_alloc ?_ _));exact BK348.out⟩,⟨by repeat (first|(with_reducible first|exact HB.out|apply below_alloc|apply pw_below_drewN|apply below_drew1|refine below_set ?_ GE347.out|refine below_set ?_ GE348.out)|exact HB.out)⟩⟩
   case rest =>
    clear HC12
    try clear c1
    try clear p2
    try clear c6
    try clear c7
    try clear c10
    try clear c10b0
    try clear c13
    try clear c16
    try clear c16b0
    try clear hcz14_0
    try clear hcz14_1
    try clear hcz8_0
    try clear hcz8_1
    try clear hfz14_0
    try clear hfz14_1
    try clear hfz8_0
    try clear hfz8_1
    try clear p2
    obtain ⟨kq,HA,HJ11,BK347,BK348,HB⟩:=hcut
    cases kq with
    | zero => exact absurd HA.out (by simp [laws_FnExactMulGrades.j1])
    | succ kj11 =>
     have H:=HA.out
     clear HA
     simp only [laws_FnExactMulGrades.j1] at H
     replace H:=Option.bind_eq_some_iff.mp H
     obtain ⟨⟨t351,t352⟩,A170,H⟩:=H
     replace H : ((laws_toMatrix.f kj11 a1_0 l1_1).bind fun bt355 => ((spec_MulGrades.f kj11 t351 t352 bt355.1 bt355.2).bind fun bt359 => ((laws_toMatrix.f kj11 a0_0 l0_1).bind fun bt365 => ((laws_toMatrix.f kj11 a1_0 l1_1).bind fun bt370 => ((impl_MulGrades.f kj11 bt365.1 bt365.2 bt370.1 bt370.2).bind fun bt375 => ((laws_eqMatrix.f kj11 bt375.1 bt375.2.1 bt359.1 bt359.2.1).bind fun t381 => (if t381 = true then (laws_FnExactMulGrades.j2 kj11 bt359.2.2 bt375.2.2 (bt375.2.2 != bt359.2.2) a0_0 l0_1 a1_0 l1_1 bt359.1 bt359.2.1 bt365.1 bt365.2 bt370.1 bt370.2 bt375.1 bt375.2.1) else (laws_FnExactMulGrades.j2 kj11 bt359.2.2 bt375.2.2 true a0_0 l0_1 a1_0 l1_1 bt359.1 bt359.2.1 bt365.1 bt365.2 bt370.1 bt370.2 bt375.1 bt375.2.1)))))))) = some r:=H
     have A17:=Aside0.mk A170
     clear A170
     replace H:=Option.bind_eq_some_iff.mp H
     obtain ⟨⟨t355,t356⟩,A180,H⟩:=H
     replace H : ((spec_MulGrades.f kj11 t351 t352 t355 t356).bind fun bt359 => ((laws_toMatrix.f kj11 a0_0 l0_1).bind fun bt365 => ((laws_toMatrix.f kj11 a1_0 l1_1).bind fun bt370 => ((impl_MulGrades.f kj11 bt365.1 bt365.2 bt370.1 bt370.2).bind fun bt375 => ((laws_eqMatrix.f kj11 bt375.1 bt375.2.1 bt359.1 bt359.2.1).bind fun t381 => (if t381 = true then (laws_FnExactMulGrades.j2 kj11 bt359.2.2 bt375.2.2 (bt375.2.2 != bt359.2.2) a0_0 l0_1 a1_0 l1_1 bt359.1 bt359.2.1 bt365.1 bt365.2 bt370.1 bt370.2 bt375.1 bt375.2.1) else (laws_FnExactMulGrades.j2 kj11 bt359.2.2 bt375.2.2 true a0_0 l0_1 a1_0 l1_1 bt359.1 bt359.2.1 bt365.1 bt365.2 bt370.1 bt370.2 bt375.1 bt375.2.1))))))) = some r:=H
     have A18:=Aside0.mk A180
     clear A180
     replace H:=Option.bind_eq_some_iff.mp H
     obtain ⟨⟨t359,t360,t363⟩,A190,H⟩:=H
     replace H : ((laws_toMatrix.f kj11 a0_0 l0_1).bind fun bt365 => ((laws_toMatrix.f kj11 a1_0 l1_1).bind fun bt370 => ((impl_MulGrades.f kj11 bt365.1 bt365.2 bt370.1 bt370.2).bind fun bt375 => ((laws_eqMatrix.f kj11 bt375.1 bt375.2.1 t359 t360).bind fun t381 => (if t381 = true then (laws_FnExactMulGrades.j2 kj11 t363 bt375.2.2 (bt375.2.2 != t363) a0_0 l0_1 a1_0 l1_1 t359 t360 bt365.1 bt365.2 bt370.1 bt370.2 bt375.1 bt375.2.1) else (laws_FnExactMulGrades.j2 kj11 t363 bt375.2.2 true a0_0 l0_1 a1_0 l1_1 t359 t360 bt365.1 bt365.2 bt370.1 bt370.2 bt375.1 bt375.2.1)))))) = some r:=H
     have A19:=Aside0.mk A190
     clear A190
     replace H:=Option.bind_eq_some_iff.mp H
     obtain ⟨⟨t365,t366⟩,A200,H⟩:=H
     replace H : ((laws_toMatrix.f kj11 a1_0 l1_1).bind fun bt370 => ((impl_MulGrades.f kj11 t365 t366 bt370.1 bt370.2).bind fun bt375 => ((laws_eqMatrix.f kj11 bt375.1 bt375.2.1 t359 t360).bind fun t381 => (if t381 = true then (laws_FnExactMulGrades.j2 kj11 t363 bt375.2.2 (bt375.2.2 != t363) a0_0 l0_1 a1_0 l1_1 t359 t360 t365 t366 bt370.1 bt370.2 bt375.1 bt375.2.1) else (laws_FnExactMulGrades.j2 kj11 t363 bt375.2.2 true a0_0 l0_1 a1_0 l1_1 t359 t360 t365 t366 bt370.1 bt370.2 bt375.1 bt375.2.1))))) = some r:=H
     have A20:=Aside0.mk A200
     clear A200
     replace H:=Option.bind_eq_some_iff.mp H
     obtain ⟨⟨t370,t371⟩,A210,H⟩:=H
     replace H : ((impl_MulGrades.f kj11 t365 t366 t370 t371).bind fun bt375 => ((laws_eqMatrix.f kj11 bt375.1 bt375.2.1 t359 t360).bind fun t381 => (if t381 = true then (laws_FnExactMulGrades.j2 kj11 t363 bt375.2.2 (bt375.2.2 != t363) a0_0 l0_1 a1_0 l1_1 t359 t360 t365 t366 t370 t371 bt375.1 bt375.2.1) else (laws_FnExactMulGrades.j2 kj11 t363 bt375.2.2 true a0_0 l0_1 a1_0 l1_1 t359 t360 t365 t366 t370 t371 bt375.1 bt375.2.1)))) = some r:=H
     have A21:=Aside0.mk A210
     clear A210
     replace H:=Option.bind_eq_some_iff.mp H
     obtain ⟨⟨t375,t376,t379⟩,A220,H⟩:=H
     replace H : ((laws_eqMatrix.f kj11 t375 t376 t359 t360).bind fun t381 => (if t381 = true then (laws_FnExactMulGrades.j2 kj11 t363 t379 (t379 != t363) a0_0 l0_1 a1_0 l1_1 t359 t360 t365 t366 t370 t371 t375 t376) else (laws_FnExactMulGrades.j2 kj11 t363 t379 true a0_0 l0_1 a1_0 l1_1 t359 t360 t365 t366 t370 t371 t375 t376))) = some r:=H
     have A22:=Aside0.mk A220
     clear A220
     have HC23:=Aside0.mk H
     clear H
     try go_wp2
     have n0_:=Aside0.mk (blk_drew BK347.out)
     have n1_:=Aside0.mk (blk_drew BK348.out)
     have n2_:=Aside0.mk (below_drew1 HB.out)
     clear BK347
     clear BK348
     clear HB
     have BK347:=n0_
     have BK348:=n1_
     have HB:=n2_
     clear n0_ n1_ n2_
     refine start_ (n:=11) (S:=fun w' => w'.cell? ⟨gb347,0,none⟩ = some (.int .i64 a0_0) ∧ w'.cell? ⟨gb347,1,none⟩ = some (.slice A0_1 l0_1.length c0_1) ∧ w'.cell? ⟨gb348,0,none⟩ = some (.int .i64 a1_0) ∧ w'.cell? ⟨gb348,1,none⟩ = some (.slice A1_1 l1_1.length c1_1)) (ds:=[]) #[false,false,false,false,false,false,false,false,false,false,false] (by kernel_rfl) rfl rfl ⟨(blk_cell BK347.out 0).trans rfl,(blk_cell BK347.out 1).trans rfl,(blk_cell BK348.out 0).trans rfl,(blk_cell BK348.out 1).trans rfl⟩ (fun hHeld => ?_);refine with_tabW laws_FnExactMulGrades.tab8 laws_FnExactMulGrades.bits8 (fun HT_ HW_ => ?_)
     generalize wc.drew = w24 at BK347 BK348 HB hHeld ⊢
     refine take_ (i:=0) (N:=some 28) (v:=?_) (a':=?_) #[true,false,false,false,false,false,false,false,false,false,false] rfl rfl (take_ofW HT_.out HW_.out (by kernel_rfl)) (fun _ _ _ h => h) (Or.inl ⟨by rfl,?_⟩) hHeld ?_ ?_
     rotate_left
     ·rintro w' ⟨s0,s1,s2,s3⟩
      go_simp
      with_reducible rfl
     rotate_left
     ·simp only [Act.put,List.setIfInBounds_toArray,List.set_cons_zero,List.set_cons_succ,i64_w,i32_w]
      rfl
     refine take_ (i:=2) (N:=some 30) (v:=?_) (a':=?_) #[true,false,true,false,false,false,false,false,false,false,false] rfl rfl (take_ofW HT_.out HW_.out (by kernel_rfl)) (fun _ _ _ h => h) (Or.inl ⟨by rfl,?_⟩) hHeld ?_ ?_
     rotate_left
     ·rintro w' ⟨s0,s1,s2,s3⟩
      go_simp
      with_reducible rfl
     rotate_left
     ·simp only [Act.put,List.setIfInBounds_toArray,List.set_cons_zero,List.set_cons_succ,i64_w,i32_w]
      rfl
     refine join_ (σ:=Value × Value × Value × Nat) 2 #[true,true,true,true,true,true,true,true,true,false,false] (fun s_ => [(29,.agg #[.int .i64 t351,s_.1]),(31,.agg #[.int .i64 t355,s_.2.1]),(32,.tuple #[.agg #[.int .i64 t359,s_.2.2.1],.bool t363]),(6,.pointer (some ⟨s_.2.2.2,0,none⟩)),(27,.tuple #[.agg #[.int .i64 t359,s_.2.2.1],.bool t363]),(33,.agg #[.int .i64 t359,s_.2.2.1]),(34,.bool t363)]) (fun s_ w' => (w'.cell? ⟨gb347,0,none⟩ = some (.int .i64 a0_0) ∧ w'.cell? ⟨gb347,1,none⟩ = some (.slice A0_1 l0_1.length c0_1) ∧ w'.cell? ⟨gb348,0,none⟩ = some (.int .i64 a1_0) ∧ w'.cell? ⟨gb348,1,none⟩ = some (.slice A1_1 l1_1.length c1_1)) ∧ (Kd.R (Kd.int .i64) 3 w' w.heap.size (fun k_ => some k_ ≠ (s_.2.1 : Value).ownBlock ∧ some k_ ≠ (s_.2.2.1 : Value).ownBlock) s_.1 t352) ∧ (Kd.R (Kd.int .i64) 3 w' w.heap.size (fun k_ => some k_ ≠ (s_.1 : Value).ownBlock ∧ some k_ ≠ (s_.2.2.1 : Value).ownBlock) s_.2.1 t356) ∧ (Kd.R (Kd.int .i64) 3 w' w.heap.size (fun k_ => some k_ ≠ (s_.1 : Value).ownBlock ∧ some k_ ≠ (s_.2.1 : Value).ownBlock) s_.2.2.1 t360) ∧ (w'.heap[gb347]? = some (.cells #[.int .i64 a0_0,.slice A0_1 l0_1.length c0_1] 26 (0,0))) ∧ (w'.heap[gb348]? = some (.cells #[.int .i64 a1_0,.slice A1_1 l1_1.length c1_1] 26 (0,0))) ∧ (w'.heap[s_.2.2.2]? = some (.cells #[.int .i64 0,.slice none 0 0] 28 (0,0))) ∧ (w.heap.size ≤ s_.2.2.2) ∧ (w.heap.size ≤ s_.2.2.2) ∧ (gb347 ≠ s_.2.2.2) ∧ (s_.2.2.2 ≠ gb347) ∧ (gb348 ≠ s_.2.2.2) ∧ (s_.2.2.2 ≠ gb348) ∧ (Below w.heap.size w w')) ?_ ?_
     rotate_left
     ·intro hCont
      refine two_ (i:=1) (j:=8) (Ni:=some 29) (Nj:=some 6) #[true,true,true,false,false,false,false,false,false,false,false] #[true,false,true,false,false,false,false,false,true,false,false] rfl rfl rfl rfl (two_of HT_.out (by kernel_rfl)) (by decide) (by decide) (fun K hK => ?_) (fun K hK => ?_)
      ·skip
       refine goes_ Try.func19 (by kernel_rfl) rfl #[.agg #[.int .i64 a0_0,.slice A0_1 l0_1.length c0_1]] (by rfl) rfl rfl (by (try simp only [List.map_toArray,List.map_cons,List.map_nil]);first|done|rfl|(simp only [List.length_drop,List.length_take];rfl)) ?_
       with_reducible refine (laws_toMatrix.calls kj11 a0_0 _ _ l0_1 t351 t352 _ ?side1 ?side2 A17.out).mono ?_
       (case side1 => repeat (first|exact (Kd.C_below HR0_1.out HB.out)|(with_reducible refine Kd.C_alloc ?_ _)|(with_reducible refine Kd.C_drewN ?_ _)|(with_reducible refine Kd.C_drew ?_)))
       (case side2 => exact HC0_1.out)
       rintro e w25 ⟨v353,rfl,ho0,hb⟩
       refine ⟨_,rfl,?_⟩
       have n0_:=Aside0.mk (Kd.R_lower ho0 (below_size (by repeat (first|(with_reducible first|exact HB.out|apply below_alloc|apply pw_below_drewN|apply below_drew1|refine below_set ?_ GE347.out|refine below_set ?_ GE348.out)|exact HB.out))))
       have n1_:=Aside0.mk (blk_below (g:=gb347) (o:=.cells #[.int .i64 a0_0,.slice A0_1 l0_1.length c0_1] 26 (0,0)) (by (with_reducible repeat (first|refine blk_drewN ?_ _|refine blk_drew ?_|refine blk_alloc ?_ _));exact BK347.out) hb)
       have n2_:=Aside0.mk (blk_below (g:=gb348) (o:=.cells #[.int .i64 a1_0,.slice A1_1 l1_1.length c1_1] 26 (0,0)) (by (with_reducible repeat (first|refine blk_drewN ?_ _|refine blk_drew ?_|refine blk_alloc ?_ _));exact BK348.out) hb)
       have n3_:=Aside0.mk (below_step (by repeat (first|(with_reducible first|exact HB.out|apply below_alloc|apply pw_below_drewN|apply below_drew1|refine below_set ?_ GE347.out|refine below_set ?_ GE348.out)|exact HB.out)) hb)
       clear BK347
       clear BK348
       clear HB
       have HO354:=n0_
       have BK347:=n1_
       have BK348:=n2_
       have HB:=n3_
       clear n0_ n1_ n2_ n3_
       (try clear hb)
       (try clear hb2)
       (try clear hk)
       (try clear hi)
       (try clear ho0)
       refine hK.out _ _ ⟨(blk_cell BK347.out 0).trans rfl,(blk_cell BK347.out 1).trans rfl,(blk_cell BK348.out 0).trans rfl,(blk_cell BK348.out 1).trans rfl⟩ (fun hHeld => ?_)
       clear hK K
       refine norm_ (a':=?_) ?_ ?_
       rotate_left
       ·show Act.put _ (some 29) _ = _
        simp only [Act.put,List.setIfInBounds_toArray,List.set_cons_zero,List.set_cons_succ,i64_w,i32_w]
        rfl
       refine two_ (i:=3) (j:=8) (Ni:=some 31) (Nj:=some 6) #[true,true,true,true,false,false,false,false,false,false,false] #[true,true,true,false,false,false,false,false,true,false,false] rfl rfl rfl rfl (two_of HT_.out (by kernel_rfl)) (by decide) (by decide) (fun K hK => ?_) (fun K hK => ?_)
       ·skip
        refine goes_ Try.func19 (by kernel_rfl) rfl #[.agg #[.int .i64 a1_0,.slice A1_1 l1_1.length c1_1]] (by rfl) rfl rfl (by (try simp only [List.map_toArray,List.map_cons,List.map_nil]);first|done|rfl|(simp only [List.length_drop,List.length_take];rfl)) ?_
        with_reducible refine (laws_toMatrix.calls kj11 a1_0 _ _ l1_1 t355 t356 _ ?side1 ?side2 A18.out).mono ?_
        (case side1 => repeat (first|exact (Kd.C_below HR1_1.out HB.out)|(with_reducible refine Kd.C_alloc ?_ _)|(with_reducible refine Kd.C_drewN ?_ _)|(with_reducible refine Kd.C_drew ?_)))
        (case side2 => exact HC1_1.out)
        rintro e w26 ⟨v357,rfl,ho0,hb⟩
        refine ⟨_,rfl,?_⟩
        have n0_:=Aside0.mk (Kd.R_elder' (by (with_reducible repeat (first|apply Kd.R_alloc|apply Kd.R_drewN|apply Kd.R_drew));exact HO354.out) (Kd.R_base ho0) hb)
        have n1_:=Aside0.mk (Kd.R_lower (Kd.R_new' ho0 (Kd.R_lt (by (with_reducible repeat (first|apply Kd.R_alloc|apply Kd.R_drewN|apply Kd.R_drew));exact HO354.out))) (below_size (by repeat (first|(with_reducible first|exact HB.out|apply below_alloc|apply pw_below_drewN|apply below_drew1|refine below_set ?_ GE347.out|refine below_set ?_ GE348.out)|exact HB.out))))
        have n2_:=Aside0.mk (blk_below (g:=gb347) (o:=.cells #[.int .i64 a0_0,.slice A0_1 l0_1.length c0_1] 26 (0,0)) (by (with_reducible repeat (first|refine blk_drewN ?_ _|refine blk_drew ?_|refine blk_alloc ?_ _));exact BK347.out) hb)
        have n3_:=Aside0.mk (blk_below (g:=gb348) (o:=.cells #[.int .i64 a1_0,.slice A1_1 l1_1.length c1_1] 26 (0,0)) (by (with_reducible repeat (first|refine blk_drewN ?_ _|refine blk_drew ?_|refine blk_alloc ?_ _));exact BK348.out) hb)
        have n4_:=Aside0.mk (below_step (by repeat (first|(with_reducible first|exact HB.out|apply below_alloc|apply pw_below_drewN|apply below_drew1|refine below_set ?_ GE347.out|refine below_set ?_ GE348.out)|exact HB.out)) hb)
        clear HO354
        clear BK347
        clear BK348
        clear HB
        have HO354:=n0_
        have HO358:=n1_
        have BK347:=n2_
        have BK348:=n3_
        have HB:=n4_
        clear n0_ n1_ n2_ n3_ n4_
        (try clear hb)
        (try clear hb2)
        (try clear hk)
        (try clear hi)
        (try clear ho0)
        obtain ⟨Ao27,co27,eo27⟩:=Kd.R_slice HO354.out
        (first|subst eo27|(injection eo27 with f1_ f2_ f3_;have f4_:=f1_.symm;have f5_:=f3_.symm;clear f1_ f2_ f3_;subst f4_;subst f5_))
        obtain ⟨Ao28,co28,eo28⟩:=Kd.R_slice HO358.out
        (first|subst eo28|(injection eo28 with f1_ f2_ f3_;have f4_:=f1_.symm;have f5_:=f3_.symm;clear f1_ f2_ f3_;subst f4_;subst f5_))
        refine hK.out _ _ ⟨(blk_cell BK347.out 0).trans rfl,(blk_cell BK347.out 1).trans rfl,(blk_cell BK348.out 0).trans rfl,(blk_cell BK348.out 1).trans rfl⟩ (fun hHeld => ?_)
        clear hK K
        refine norm_ (a':=?_) ?_ ?_
        rotate_left
        ·show Act.put _ (some 31) _ = _
         simp only [Act.put,List.setIfInBounds_toArray,List.set_cons_zero,List.set_cons_succ,i64_w,i32_w]
         rfl
        refine two_ (i:=4) (j:=8) (Ni:=some 32) (Nj:=some 6) #[true,true,true,true,true,false,false,false,false,false,false] #[true,true,true,true,false,false,false,false,true,false,false] rfl rfl rfl rfl (two_of HT_.out (by kernel_rfl)) (by decide) (by decide) (fun K hK => ?_) (fun K hK => ?_)
        ·skip
         refine goes_ Try.func26 (by kernel_rfl) rfl #[.agg #[.int .i64 t351,.slice Ao27 t352.length co27],.agg #[.int .i64 t355,.slice Ao28 t356.length co28]] (by rfl) rfl rfl (by (try simp only [List.map_toArray,List.map_cons,List.map_nil]);first|done|rfl|(simp only [List.length_drop,List.length_take];rfl)) ?_
         with_reducible refine (spec_MulGrades.calls kj11 t351 _ _ t352 t355 _ _ t356 t359 t360 t363 _ ?side1 ?side2 ?side3 ?side4 A19.out).mono ?_
         (case side1 => repeat (first|exact (Kd.R_reads' HO354.out).2.2|(with_reducible refine Kd.C_alloc ?_ _)|(with_reducible refine Kd.C_drewN ?_ _)|(with_reducible refine Kd.C_drew ?_)))
         (case side2 => exact (Kd.R_reads' HO354.out).2.1)
         (case side3 => repeat (first|exact (Kd.R_reads' HO358.out).2.2|(with_reducible refine Kd.C_alloc ?_ _)|(with_reducible refine Kd.C_drewN ?_ _)|(with_reducible refine Kd.C_drew ?_)))
         (case side4 => exact (Kd.R_reads' HO358.out).2.1)
         rintro e w29 ⟨v361,rfl,ho0,hb⟩
         refine ⟨_,rfl,?_⟩
         have n0_:=Aside0.mk (Kd.R_elder' (by (with_reducible repeat (first|apply Kd.R_alloc|apply Kd.R_drewN|apply Kd.R_drew));exact HO354.out) (Kd.R_base ho0) hb)
         have n1_:=Aside0.mk (Kd.R_elder' (by (with_reducible repeat (first|apply Kd.R_alloc|apply Kd.R_drewN|apply Kd.R_drew));exact HO358.out) (Kd.R_base ho0) hb)
         have n2_:=Aside0.mk (Kd.R_lower (Kd.R_new' (Kd.R_new' ho0 (Kd.R_lt (by (with_reducible repeat (first|apply Kd.R_alloc|apply Kd.R_drewN|apply Kd.R_drew));exact HO354.out))) (Kd.R_lt (by (with_reducible repeat (first|apply Kd.R_alloc|apply Kd.R_drewN|apply Kd.R_drew));exact HO358.out))) (below_size (by repeat (first|(with_reducible first|exact HB.out|apply below_alloc|apply pw_below_drewN|apply below_drew1|refine below_set ?_ GE347.out|refine below_set ?_ GE348.out)|exact HB.out))))
         have n3_:=Aside0.mk (blk_below (g:=gb347) (o:=.cells #[.int .i64 a0_0,.slice A0_1 l0_1.length c0_1] 26 (0,0)) (by (with_reducible repeat (first|refine blk_drewN ?_ _|refine blk_drew ?_|refine blk_alloc ?_ _));exact BK347.out) hb)
         have n4_:=Aside0.mk (blk_below (g:=gb348) (o:=.cells #[.int .i64 a1_0,.slice A1_1 l1_1.length c1_1] 26 (0,0)) (by (with_reducible repeat (first|refine blk_drewN ?_ _|refine blk_drew ?_|refine blk_alloc ?_ _));exact BK348.out) hb)
         have n5_:=Aside0.mk (below_step (by repeat (first|(with_reducible first|exact HB.out|apply below_alloc|apply pw_below_drewN|apply below_drew1|refine below_set ?_ GE347.out|refine below_set ?_ GE348.out)|exact HB.out)) hb)
         clear HO354
         clear HO358
         clear BK347
         clear BK348
         clear HB
         have HO354:=n0_
         have HO358:=n1_
         have HO362:=n2_
         have BK347:=n3_
         have BK348:=n4_
         have HB:=n5_
         clear n0_ n1_ n2_ n3_ n4_ n5_
         (try clear hb)
         (try clear hb2)
         (try clear hk)
         (try clear hi)
         (try clear ho0)
         refine hK.out _ _ ⟨(blk_cell BK347.out 0).trans rfl,(blk_cell BK347.out 1).trans rfl,(blk_cell BK348.out 0).trans rfl,(blk_cell BK348.out 1).trans rfl⟩ (fun hHeld => ?_)
         clear hK K
         refine norm_ (a':=?_) ?_ ?_
         rotate_left
         ·show Act.put _ (some 32) _ = _
          simp only [Act.put,List.setIfInBounds_toArray,List.set_cons_zero,List.set_cons_succ,i64_w,i32_w]
          rfl
         refine pure_ (i:=5) (N:=some 27) (v:=?_) (a':=?_) #[true,true,true,true,true,true,false,false,false,false,false] rfl rfl (any_of HT_.out (by kernel_rfl)) (fun _ _ _ h => h) (Or.inl ⟨by rfl,?_⟩) ?_ ?_
         rotate_left
         ·intro w'
          go_simp
          with_reducible rfl
         rotate_left
         ·simp only [Act.put,List.setIfInBounds_toArray,List.set_cons_zero,List.set_cons_succ,i64_w,i32_w]
          rfl
         refine pure_ (i:=6) (N:=some 33) (v:=?_) (a':=?_) #[true,true,true,true,true,true,true,false,false,false,false] rfl rfl (any_of HT_.out (by kernel_rfl)) (fun _ _ _ h => h) (Or.inl ⟨by rfl,?_⟩) ?_ ?_
         rotate_left
         ·intro w'
          go_simp
          with_reducible rfl
         rotate_left
         ·simp only [Act.put,List.setIfInBounds_toArray,List.set_cons_zero,List.set_cons_succ,i64_w,i32_w]
          rfl
         refine pure_ (i:=7) (N:=some 34) (v:=?_) (a':=?_) #[true,true,true,true,true,true,true,true,false,false,false] rfl rfl (any_of HT_.out (by kernel_rfl)) (fun _ _ _ h => h) (Or.inl ⟨by rfl,?_⟩) ?_ ?_
         rotate_left
         ·intro w'
          go_simp
          with_reducible rfl
         rotate_left
         ·simp only [Act.put,List.setIfInBounds_toArray,List.set_cons_zero,List.set_cons_succ,i64_w,i32_w]
          rfl
         refine one_ (i:=8) (N:=some 6) #[true,true,true,true,true,true,true,true,true,false,false] rfl rfl (one_of HT_.out (by kernel_rfl)) (by decide) (fun K hK => ?_)
         refine box_step ?hg (N:=6) ?hd (cs:=#[.int .i64 0,.slice none 0 0]) (t:=28) ?hr ?_;(case hd => rfl);(case hg => rfl);(case hr => first|(go_simp;done)|(go_simp;rfl))
         intro gb364 hg w30 hbox hb
         have n0_:=Aside0.mk (Kd.R_below (by (with_reducible repeat (first|apply Kd.R_alloc|apply Kd.R_drewN|apply Kd.R_drew));exact HO354.out) hb)
         have n1_:=Aside0.mk (Kd.R_below (by (with_reducible repeat (first|apply Kd.R_alloc|apply Kd.R_drewN|apply Kd.R_drew));exact HO358.out) hb)
         have n2_:=Aside0.mk (Kd.R_below (by (with_reducible repeat (first|apply Kd.R_alloc|apply Kd.R_drewN|apply Kd.R_drew));exact HO362.out) hb)
         have n3_:=Aside0.mk (blk_below (g:=gb347) (o:=.cells #[.int .i64 a0_0,.slice A0_1 l0_1.length c0_1] 26 (0,0)) (by (with_reducible repeat (first|refine blk_drewN ?_ _|refine blk_drew ?_|refine blk_alloc ?_ _));exact BK347.out) hb)
         have n4_:=Aside0.mk (blk_below (g:=gb348) (o:=.cells #[.int .i64 a1_0,.slice A1_1 l1_1.length c1_1] 26 (0,0)) (by (with_reducible repeat (first|refine blk_drewN ?_ _|refine blk_drew ?_|refine blk_alloc ?_ _));exact BK348.out) hb)
         have n5_:=Aside0.mk (below_step (by repeat (first|(with_reducible first|exact HB.out|apply below_alloc|apply pw_below_drewN|apply below_drew1|refine below_set ?_ GE347.out|refine below_set ?_ GE348.out)|exact HB.out)) hb)
         have n6_:=Aside0.mk (hbox)
         have n7_:=Aside0.mk ((by rw [hg];exact (below_size (by repeat (first|(with_reducible first|exact HB.out|apply below_alloc|apply pw_below_drewN|apply below_drew1|refine below_set ?_ GE347.out|refine below_set ?_ GE348.out)|exact HB.out))) : w.heap.size ≤ gb364))
         have n8_:=Aside0.mk ((by rw [hg];exact (below_size (by repeat (first|(with_reducible first|exact HB.out|apply below_alloc|apply pw_below_drewN|apply below_drew1|refine below_set ?_ GE347.out|refine below_set ?_ GE348.out)|exact HB.out))) : w.heap.size ≤ gb364))
         have n9_:=Aside0.mk ((by rw [hg];exact Nat.ne_of_lt (blk_lt (g:=gb347) (o:=.cells #[.int .i64 a0_0,.slice A0_1 l0_1.length c0_1] 26 (0,0)) (by (with_reducible repeat (first|refine blk_drewN ?_ _|refine blk_drew ?_|refine blk_alloc ?_ _));exact BK347.out)) : gb347 ≠ gb364))
         have n10_:=Aside0.mk ((by rw [hg];exact Nat.ne_of_gt (blk_lt (g:=gb347) (o:=.cells #[.int .i64 a0_0,.slice A0_1 l0_1.length c0_1] 26 (0,0)) (by (with_reducible repeat (first|refine blk_drewN ?_ _|refine blk_drew ?_|refine blk_alloc ?_ _));exact BK347.out)) : gb364 ≠ gb347))
         have n11_:=Aside0.mk ((by rw [hg];exact Nat.ne_of_lt (blk_lt (g:=gb348) (o:=.cells #[.int .i64 a1_0,.slice A1_1 l1_1.length c1_1] 26 (0,0)) (by (with_reducible repeat (first|refine blk_drewN ?_ _|refine blk_drew ?_|refine blk_alloc ?_ _));exact BK348.out)) : gb348 ≠ gb364))
         have n12_:=Aside0.mk ((by rw [hg];exact Nat.ne_of_gt (blk_lt (g:=gb348) (o:=.cells #[.int .i64 a1_0,.slice A1_1 l1_1.length c1_1] 26 (0,0)) (by (with_reducible repeat (first|refine blk_drewN ?_ _|refine blk_drew ?_|refine blk_alloc ?_ _));exact BK348.out)) : gb364 ≠ gb348))
         clear HO354
         clear HO358
         clear HO362
         clear BK347
         clear BK348
         clear HB
         have HO354:=n0_
         have HO358:=n1_
         have HO362:=n2_
         have BK347:=n3_
         have BK348:=n4_
         have HB:=n5_
         have BK364:=n6_
         have GW364:=n7_
         have GE364:=n8_
         have NB347_364:=n9_
         have NB364_347:=n10_
         have NB348_364:=n11_
         have NB364_348:=n12_
         clear n0_ n1_ n2_ n3_ n4_ n5_ n6_ n7_ n8_ n9_ n10_ n11_ n12_
         clear hb hbox hg
         refine hK.out _ _ ⟨(blk_cell BK347.out 0).trans rfl,(blk_cell BK347.out 1).trans rfl,(blk_cell BK348.out 0).trans rfl,(blk_cell BK348.out 1).trans rfl⟩ (fun hHeld => ?_)
         clear hK K
         refine norm_ (a':=?_) ?_ ?_
         rotate_left
         ·show Act.put _ (some 6) _ = _
          simp only [Act.put,List.setIfInBounds_toArray,List.set_cons_zero,List.set_cons_succ,i64_w,i32_w]
          rfl
         exact norm_ (by simp only [putAll,Act.put,List.setIfInBounds_toArray,List.set_cons_zero,List.set_cons_succ]) (hCont (.slice Ao27 t352.length co27,.slice Ao28 t356.length co28,v361,gb364) _ ⟨hHeld,(by (with_reducible repeat (first|apply Kd.R_alloc|apply Kd.R_drewN|apply Kd.R_drew));exact Kd.R_mono HO354.out (fun _ hk => ⟨hk.1.2,hk.2⟩)),(by (with_reducible repeat (first|apply Kd.R_alloc|apply Kd.R_drewN|apply Kd.R_drew));exact Kd.R_mono HO358.out (fun _ hk => ⟨hk.1.2,hk.2⟩)),(by (with_reducible repeat (first|apply Kd.R_alloc|apply Kd.R_drewN|apply Kd.R_drew));exact Kd.R_mono HO362.out (fun _ hk => ⟨hk.1.2,hk.2⟩)),(by (with_reducible repeat (first|refine blk_drewN ?_ _|refine blk_drew ?_|refine blk_alloc ?_ _));exact BK347.out),(by (with_reducible repeat (first|refine blk_drewN ?_ _|refine blk_drew ?_|refine blk_alloc ?_ _));exact BK348.out),(by (with_reducible repeat (first|refine blk_drewN ?_ _|refine blk_drew ?_|refine blk_alloc ?_ _));exact BK364.out),GW364.out,GE364.out,NB347_364.out,NB364_347.out,NB348_364.out,NB364_348.out,(by repeat (first|(with_reducible first|exact HB.out|apply below_alloc|apply pw_below_drewN|apply below_drew1|refine below_set ?_ GE347.out|refine below_set ?_ GE348.out|refine below_set ?_ GE364.out)|exact HB.out))⟩)
        ·skip
         refine box_step ?hg (N:=6) ?hd (cs:=#[.int .i64 0,.slice none 0 0]) (t:=28) ?hr ?_;(case hd => rfl);(case hg => rfl);(case hr => first|(go_simp;done)|(go_simp;rfl))
         intro gb364 hg w27 hbox hb
         have n0_:=Aside0.mk (Kd.R_below (by (with_reducible repeat (first|apply Kd.R_alloc|apply Kd.R_drewN|apply Kd.R_drew));exact HO354.out) hb)
         have n1_:=Aside0.mk (Kd.R_below (by (with_reducible repeat (first|apply Kd.R_alloc|apply Kd.R_drewN|apply Kd.R_drew));exact HO358.out) hb)
         have n2_:=Aside0.mk (blk_below (g:=gb347) (o:=.cells #[.int .i64 a0_0,.slice A0_1 l0_1.length c0_1] 26 (0,0)) (by (with_reducible repeat (first|refine blk_drewN ?_ _|refine blk_drew ?_|refine blk_alloc ?_ _));exact BK347.out) hb)
         have n3_:=Aside0.mk (blk_below (g:=gb348) (o:=.cells #[.int .i64 a1_0,.slice A1_1 l1_1.length c1_1] 26 (0,0)) (by (with_reducible repeat (first|refine blk_drewN ?_ _|refine blk_drew ?_|refine blk_alloc ?_ _));exact BK348.out) hb)
         have n4_:=Aside0.mk (below_step (by repeat (first|(with_reducible first|exact HB.out|apply below_alloc|apply pw_below_drewN|apply below_drew1|refine below_set ?_ GE347.out|refine below_set ?_ GE348.out)|exact HB.out)) hb)
         have n5_:=Aside0.mk (hbox)
         have n6_:=Aside0.mk ((by rw [hg];exact (below_size (by repeat (first|(with_reducible first|exact HB.out|apply below_alloc|apply pw_below_drewN|apply below_drew1|refine below_set ?_ GE347.out|refine below_set ?_ GE348.out)|exact HB.out))) : w.heap.size ≤ gb364))
         have n7_:=Aside0.mk ((by rw [hg];exact (below_size (by repeat (first|(with_reducible first|exact HB.out|apply below_alloc|apply pw_below_drewN|apply below_drew1|refine below_set ?_ GE347.out|refine below_set ?_ GE348.out)|exact HB.out))) : w.heap.size ≤ gb364))
         have n8_:=Aside0.mk ((by rw [hg];exact Nat.ne_of_lt (blk_lt (g:=gb347) (o:=.cells #[.int .i64 a0_0,.slice A0_1 l0_1.length c0_1] 26 (0,0)) (by (with_reducible repeat (first|refine blk_drewN ?_ _|refine blk_drew ?_|refine blk_alloc ?_ _));exact BK347.out)) : gb347 ≠ gb364))
         have n9_:=Aside0.mk ((by rw [hg];exact Nat.ne_of_gt (blk_lt (g:=gb347) (o:=.cells #[.int .i64 a0_0,.slice A0_1 l0_1.length c0_1] 26 (0,0)) (by (with_reducible repeat (first|refine blk_drewN ?_ _|refine blk_drew ?_|refine blk_alloc ?_ _));exact BK347.out)) : gb364 ≠ gb347))
         have n10_:=Aside0.mk ((by rw [hg];exact Nat.ne_of_lt (blk_lt (g:=gb348) (o:=.cells #[.int .i64 a1_0,.slice A1_1 l1_1.length c1_1] 26 (0,0)) (by (with_reducible repeat (first|refine blk_drewN ?_ _|refine blk_drew ?_|refine blk_alloc ?_ _));exact BK348.out)) : gb348 ≠ gb364))
         have n11_:=Aside0.mk ((by rw [hg];exact Nat.ne_of_gt (blk_lt (g:=gb348) (o:=.cells #[.int .i64 a1_0,.slice A1_1 l1_1.length c1_1] 26 (0,0)) (by (with_reducible repeat (first|refine blk_drewN ?_ _|refine blk_drew ?_|refine blk_alloc ?_ _));exact BK348.out)) : gb364 ≠ gb348))
         clear HO354
         clear HO358
         clear BK347
         clear BK348
         clear HB
         have HO354:=n0_
         have HO358:=n1_
         have BK347:=n2_
         have BK348:=n3_
         have HB:=n4_
         have BK364:=n5_
         have GW364:=n6_
         have GE364:=n7_
         have NB347_364:=n8_
         have NB364_347:=n9_
         have NB348_364:=n10_
         have NB364_348:=n11_
         clear n0_ n1_ n2_ n3_ n4_ n5_ n6_ n7_ n8_ n9_ n10_ n11_
         clear hb hbox hg
         obtain ⟨Ao28,co28,eo28⟩:=Kd.R_slice HO354.out
         (first|subst eo28|(injection eo28 with f1_ f2_ f3_;have f4_:=f1_.symm;have f5_:=f3_.symm;clear f1_ f2_ f3_;subst f4_;subst f5_))
         obtain ⟨Ao29,co29,eo29⟩:=Kd.R_slice HO358.out
         (first|subst eo29|(injection eo29 with f1_ f2_ f3_;have f4_:=f1_.symm;have f5_:=f3_.symm;clear f1_ f2_ f3_;subst f4_;subst f5_))
         refine hK.out _ _ ⟨(blk_cell BK347.out 0).trans rfl,(blk_cell BK347.out 1).trans rfl,(blk_cell BK348.out 0).trans rfl,(blk_cell BK348.out 1).trans rfl⟩ (fun hHeld => ?_)
         clear hK K
         refine norm_ (a':=?_) ?_ ?_
         rotate_left
         ·show Act.put _ (some 6) _ = _
          simp only [Act.put,List.setIfInBounds_toArray,List.set_cons_zero,List.set_cons_succ,i64_w,i32_w]
          rfl
         refine one_ (i:=4) (N:=some 32) #[true,true,true,true,true,false,false,false,true,false,false] rfl rfl (one_of HT_.out (by kernel_rfl)) (by decide) (fun K hK => ?_)
         refine goes_ Try.func26 (by kernel_rfl) rfl #[.agg #[.int .i64 t351,.slice Ao28 t352.length co28],.agg #[.int .i64 t355,.slice Ao29 t356.length co29]] (by rfl) rfl rfl (by (try simp only [List.map_toArray,List.map_cons,List.map_nil]);first|done|rfl|(simp only [List.length_drop,List.length_take];rfl)) ?_
         with_reducible refine (spec_MulGrades.calls kj11 t351 _ _ t352 t355 _ _ t356 t359 t360 t363 _ ?side1 ?side2 ?side3 ?side4 A19.out).mono ?_
         (case side1 => repeat (first|exact (Kd.R_reads' HO354.out).2.2|(with_reducible refine Kd.C_alloc ?_ _)|(with_reducible refine Kd.C_drewN ?_ _)|(with_reducible refine Kd.C_drew ?_)))
         (case side2 => exact (Kd.R_reads' HO354.out).2.1)
         (case side3 => repeat (first|exact (Kd.R_reads' HO358.out).2.2|(with_reducible refine Kd.C_alloc ?_ _)|(with_reducible refine Kd.C_drewN ?_ _)|(with_reducible refine Kd.C_drew ?_)))
         (case side4 => exact (Kd.R_reads' HO358.out).2.1)
         rintro e w30 ⟨v361,rfl,ho0,hb⟩
         refine ⟨_,rfl,?_⟩
         have n0_:=Aside0.mk (Kd.R_elder' (by (with_reducible repeat (first|apply Kd.R_alloc|apply Kd.R_drewN|apply Kd.R_drew));exact HO354.out) (Kd.R_base ho0) hb)
         have n1_:=Aside0.mk (Kd.R_elder' (by (with_reducible repeat (first|apply Kd.R_alloc|apply Kd.R_drewN|apply Kd.R_drew));exact HO358.out) (Kd.R_base ho0) hb)
         have n2_:=Aside0.mk (Kd.R_lower (Kd.R_new' (Kd.R_new' ho0 (Kd.R_lt (by (with_reducible repeat (first|apply Kd.R_alloc|apply Kd.R_drewN|apply Kd.R_drew));exact HO354.out))) (Kd.R_lt (by (with_reducible repeat (first|apply Kd.R_alloc|apply Kd.R_drewN|apply Kd.R_drew));exact HO358.out))) (below_size (by repeat (first|(with_reducible first|exact HB.out|apply below_alloc|apply pw_below_drewN|apply below_drew1|refine below_set ?_ GE347.out|refine below_set ?_ GE348.out|refine below_set ?_ GE364.out)|exact HB.out))))
         have n3_:=Aside0.mk (blk_below (g:=gb347) (o:=.cells #[.int .i64 a0_0,.slice A0_1 l0_1.length c0_1] 26 (0,0)) (by (with_reducible repeat (first|refine blk_drewN ?_ _|refine blk_drew ?_|refine blk_alloc ?_ _));exact BK347.out) hb)
         have n4_:=Aside0.mk (blk_below (g:=gb348) (o:=.cells #[.int .i64 a1_0,.slice A1_1 l1_1.length c1_1] 26 (0,0)) (by (with_reducible repeat (first|refine blk_drewN ?_ _|refine blk_drew ?_|refine blk_alloc ?_ _));exact BK348.out) hb)
         have n5_:=Aside0.mk (blk_below (g:=gb364) (o:=.cells #[.int .i64 0,.slice none 0 0] 28 (0,0)) (by (with_reducible repeat (first|refine blk_drewN ?_ _|refine blk_drew ?_|refine blk_alloc ?_ _));exact BK364.out) hb)
         have n6_:=Aside0.mk (below_step (by repeat (first|(with_reducible first|exact HB.out|apply below_alloc|apply pw_below_drewN|apply below_drew1|refine below_set ?_ GE347.out|refine below_set ?_ GE348.out|refine below_set ?_ GE364.out)|exact HB.out)) hb)
         clear HO354
         clear HO358
         clear BK347
         clear BK348
         clear BK364
         clear HB
         have HO354:=n0_
         have HO358:=n1_
         have HO362:=n2_
         have BK347:=n3_
         have BK348:=n4_
         have BK364:=n5_
         have HB:=n6_
         clear n0_ n1_ n2_ n3_ n4_ n5_ n6_
         (try clear hb)
         (try clear hb2)
         (try clear hk)
         (try clear hi)
         (try clear ho0)
         refine hK.out _ _ ⟨(blk_cell BK347.out 0).trans rfl,(blk_cell BK347.out 1).trans rfl,(blk_cell BK348.out 0).trans rfl,(blk_cell BK348.out 1).trans rfl⟩ (fun hHeld => ?_)
         clear hK K
         refine norm_ (a':=?_) ?_ ?_
         rotate_left
         ·show Act.put _ (some 32) _ = _
          simp only [Act.put,List.setIfInBounds_toArray,List.set_cons_zero,List.set_cons_succ,i64_w,i32_w]
          rfl
         refine pure_ (i:=5) (N:=some 27) (v:=?_) (a':=?_) #[true,true,true,true,true,true,false,false,true,false,false] rfl rfl (any_of HT_.out (by kernel_rfl)) (fun _ _ _ h => h) (Or.inl ⟨by rfl,?_⟩) ?_ ?_
         rotate_left
         ·intro w'
          go_simp
          with_reducible rfl
         rotate_left
         ·simp only [Act.put,List.setIfInBounds_toArray,List.set_cons_zero,List.set_cons_succ,i64_w,i32_w]
          rfl
         refine pure_ (i:=6) (N:=some 33) (v:=?_) (a':=?_) #[true,true,true,true,true,true,true,false,true,false,false] rfl rfl (any_of HT_.out (by kernel_rfl)) (fun _ _ _ h => h) (Or.inl ⟨by rfl,?_⟩) ?_ ?_
         rotate_left
         ·intro w'
          go_simp
          with_reducible rfl
         rotate_left
         ·simp only [Act.put,List.setIfInBounds_toArray,List.set_cons_zero,List.set_cons_succ,i64_w,i32_w]
          rfl
         refine pure_ (i:=7) (N:=some 34) (v:=?_) (a':=?_) #[true,true,true,true,true,true,true,true,true,false,false] rfl rfl (any_of HT_.out (by kernel_rfl)) (fun _ _ _ h => h) (Or.inl ⟨by rfl,?_⟩) ?_ ?_
         rotate_left
         ·intro w'
          go_simp
          with_reducible rfl
         rotate_left
         ·simp only [Act.put,List.setIfInBounds_toArray,List.set_cons_zero,List.set_cons_succ,i64_w,i32_w]
          rfl
         exact norm_ (by simp only [putAll,Act.put,List.setIfInBounds_toArray,List.set_cons_zero,List.set_cons_succ]) (hCont (.slice Ao28 t352.length co28,.slice Ao29 t356.length co29,v361,gb364) _ ⟨hHeld,(by (with_reducible repeat (first|apply Kd.R_alloc|apply Kd.R_drewN|apply Kd.R_drew));exact Kd.R_mono HO354.out (fun _ hk => ⟨hk.1.2,hk.2⟩)),(by (with_reducible repeat (first|apply Kd.R_alloc|apply Kd.R_drewN|apply Kd.R_drew));exact Kd.R_mono HO358.out (fun _ hk => ⟨hk.1.2,hk.2⟩)),(by (with_reducible repeat (first|apply Kd.R_alloc|apply Kd.R_drewN|apply Kd.R_drew));exact Kd.R_mono HO362.out (fun _ hk => ⟨hk.1.2,hk.2⟩)),(by (with_reducible repeat (first|refine blk_drewN ?_ _|refine blk_drew ?_|refine blk_alloc ?_ _));exact BK347.out),(by (with_reducible repeat (first|refine blk_drewN ?_ _|refine blk_drew ?_|refine blk_alloc ?_ _));exact BK348.out),(by (with_reducible repeat (first|refine blk_drewN ?_ _|refine blk_drew ?_|refine blk_alloc ?_ _));exact BK364.out),GW364.out,GE364.out,NB347_364.out,NB364_347.out,NB348_364.out,NB364_348.out,(by repeat (first|(with_reducible first|exact HB.out|apply below_alloc|apply pw_below_drewN|apply below_drew1|refine below_set ?_ GE347.out|refine below_set ?_ GE348.out|refine below_set ?_ GE364.out)|exact HB.out))⟩)
       ·skip
        refine box_step ?hg (N:=6) ?hd (cs:=#[.int .i64 0,.slice none 0 0]) (t:=28) ?hr ?_;(case hd => rfl);(case hg => rfl);(case hr => first|(go_simp;done)|(go_simp;rfl))
        intro gb364 hg w26 hbox hb
        have n0_:=Aside0.mk (Kd.R_below (by (with_reducible repeat (first|apply Kd.R_alloc|apply Kd.R_drewN|apply Kd.R_drew));exact HO354.out) hb)
        have n1_:=Aside0.mk (blk_below (g:=gb347) (o:=.cells #[.int .i64 a0_0,.slice A0_1 l0_1.length c0_1] 26 (0,0)) (by (with_reducible repeat (first|refine blk_drewN ?_ _|refine blk_drew ?_|refine blk_alloc ?_ _));exact BK347.out) hb)
        have n2_:=Aside0.mk (blk_below (g:=gb348) (o:=.cells #[.int .i64 a1_0,.slice A1_1 l1_1.length c1_1] 26 (0,0)) (by (with_reducible repeat (first|refine blk_drewN ?_ _|refine blk_drew ?_|refine blk_alloc ?_ _));exact BK348.out) hb)
        have n3_:=Aside0.mk (below_step (by repeat (first|(with_reducible first|exact HB.out|apply below_alloc|apply pw_below_drewN|apply below_drew1|refine below_set ?_ GE347.out|refine below_set ?_ GE348.out)|exact HB.out)) hb)
        have n4_:=Aside0.mk (hbox)
        have n5_:=Aside0.mk ((by rw [hg];exact (below_size (by repeat (first|(with_reducible first|exact HB.out|apply below_alloc|apply pw_below_drewN|apply below_drew1|refine below_set ?_ GE347.out|refine below_set ?_ GE348.out)|exact HB.out))) : w.heap.size ≤ gb364))
        have n6_:=Aside0.mk ((by rw [hg];exact (below_size (by repeat (first|(with_reducible first|exact HB.out|apply below_alloc|apply pw_below_drewN|apply below_drew1|refine below_set ?_ GE347.out|refine below_set ?_ GE348.out)|exact HB.out))) : w.heap.size ≤ gb364))
        have n7_:=Aside0.mk ((by rw [hg];exact Nat.ne_of_lt (blk_lt (g:=gb347) (o:=.cells #[.int .i64 a0_0,.slice A0_1 l0_1.length c0_1] 26 (0,0)) (by (with_reducible repeat (first|refine blk_drewN ?_ _|refine blk_drew ?_|refine blk_alloc ?_ _));exact BK347.out)) : gb347 ≠ gb364))
        have n8_:=Aside0.mk ((by rw [hg];exact Nat.ne_of_gt (blk_lt (g:=gb347) (o:=.cells #[.int .i64 a0_0,.slice A0_1 l0_1.length c0_1] 26 (0,0)) (by (with_reducible repeat (first|refine blk_drewN ?_ _|refine blk_drew ?_|refine blk_alloc ?_ _));exact BK347.out)) : gb364 ≠ gb347))
        have n9_:=Aside0.mk ((by rw [hg];exact Nat.ne_of_lt (blk_lt (g:=gb348) (o:=.cells #[.int .i64 a1_0,.slice A1_1 l1_1.length c1_1] 26 (0,0)) (by (with_reducible repeat (first|refine blk_drewN ?_ _|refine blk_drew ?_|refine blk_alloc ?_ _));exact BK348.out)) : gb348 ≠ gb364))
        have n10_:=Aside0.mk ((by rw [hg];exact Nat.ne_of_gt (blk_lt (g:=gb348) (o:=.cells #[.int .i64 a1_0,.slice A1_1 l1_1.length c1_1] 26 (0,0)) (by (with_reducible repeat (first|refine blk_drewN ?_ _|refine blk_drew ?_|refine blk_alloc ?_ _));exact BK348.out)) : gb364 ≠ gb348))
        clear HO354
        clear BK347
        clear BK348
        clear HB
        have HO354:=n0_
        have BK347:=n1_
        have BK348:=n2_
        have HB:=n3_
        have BK364:=n4_
        have GW364:=n5_
        have GE364:=n6_
        have NB347_364:=n7_
        have NB364_347:=n8_
        have NB348_364:=n9_
        have NB364_348:=n10_
        clear n0_ n1_ n2_ n3_ n4_ n5_ n6_ n7_ n8_ n9_ n10_
        clear hb hbox hg
        refine hK.out _ _ ⟨(blk_cell BK347.out 0).trans rfl,(blk_cell BK347.out 1).trans rfl,(blk_cell BK348.out 0).trans rfl,(blk_cell BK348.out 1).trans rfl⟩ (fun hHeld => ?_)
        clear hK K
        refine norm_ (a':=?_) ?_ ?_
        rotate_left
        ·show Act.put _ (some 6) _ = _
         simp only [Act.put,List.setIfInBounds_toArray,List.set_cons_zero,List.set_cons_succ,i64_w,i32_w]
         rfl
        refine one_ (i:=3) (N:=some 31) #[true,true,true,true,false,false,false,false,true,false,false] rfl rfl (one_of HT_.out (by kernel_rfl)) (by decide) (fun K hK => ?_)
        refine goes_ Try.func19 (by kernel_rfl) rfl #[.agg #[.int .i64 a1_0,.slice A1_1 l1_1.length c1_1]] (by rfl) rfl rfl (by (try simp only [List.map_toArray,List.map_cons,List.map_nil]);first|done|rfl|(simp only [List.length_drop,List.length_take];rfl)) ?_
        with_reducible refine (laws_toMatrix.calls kj11 a1_0 _ _ l1_1 t355 t356 _ ?side1 ?side2 A18.out).mono ?_
        (case side1 => repeat (first|exact (Kd.C_below HR1_1.out HB.out)|(with_reducible refine Kd.C_alloc ?_ _)|(with_reducible refine Kd.C_drewN ?_ _)|(with_reducible refine Kd.C_drew ?_)))
        (case side2 => exact HC1_1.out)
        rintro e w27 ⟨v357,rfl,ho0,hb⟩
        refine ⟨_,rfl,?_⟩
        have n0_:=Aside0.mk (Kd.R_elder' (by (with_reducible repeat (first|apply Kd.R_alloc|apply Kd.R_drewN|apply Kd.R_drew));exact HO354.out) (Kd.R_base ho0) hb)
        have n1_:=Aside0.mk (Kd.R_lower (Kd.R_new' ho0 (Kd.R_lt (by (with_reducible repeat (first|apply Kd.R_alloc|apply Kd.R_drewN|apply Kd.R_drew));exact HO354.out))) (below_size (by repeat (first|(with_reducible first|exact HB.out|apply below_alloc|apply pw_below_drewN|apply below_drew1|refine below_set ?_ GE347.out|refine below_set ?_ GE348.out|refine below_set ?_ GE364.out)|exact HB.out))))
        have n2_:=Aside0.mk (blk_below (g:=gb347) (o:=.cells #[.int .i64 a0_0,.slice A0_1 l0_1.length c0_1] 26 (0,0)) (by (with_reducible repeat (first|refine blk_drewN ?_ _|refine blk_drew ?_|refine blk_alloc ?_ _));exact BK347.out) hb)
        have n3_:=Aside0.mk (blk_below (g:=gb348) (o:=.cells #[.int .i64 a1_0,.slice A1_1 l1_1.length c1_1] 26 (0,0)) (by (with_reducible repeat (first|refine blk_drewN ?_ _|refine blk_drew ?_|refine blk_alloc ?_ _));exact BK348.out) hb)
        have n4_:=Aside0.mk (blk_below (g:=gb364) (o:=.cells #[.int .i64 0,.slice none 0 0] 28 (0,0)) (by (with_reducible repeat (first|refine blk_drewN ?_ _|refine blk_drew ?_|refine blk_alloc ?_ _));exact BK364.out) hb)
        have n5_:=Aside0.mk (below_step (by repeat (first|(with_reducible first|exact HB.out|apply below_alloc|apply pw_below_drewN|apply below_drew1|refine below_set ?_ GE347.out|refine below_set ?_ GE348.out|refine below_set ?_ GE364.out)|exact HB.out)) hb)
        clear HO354
        clear BK347
        clear BK348
        clear BK364
        clear HB
        have HO354:=n0_
        have HO358:=n1_
        have BK347:=n2_
        have BK348:=n3_
        have BK364:=n4_
        have HB:=n5_
        clear n0_ n1_ n2_ n3_ n4_ n5_
        (try clear hb)
        (try clear hb2)
        (try clear hk)
        (try clear hi)
        (try clear ho0)
        obtain ⟨Ao28,co28,eo28⟩:=Kd.R_slice HO354.out
        (first|subst eo28|(injection eo28 with f1_ f2_ f3_;have f4_:=f1_.symm;have f5_:=f3_.symm;clear f1_ f2_ f3_;subst f4_;subst f5_))
        obtain ⟨Ao29,co29,eo29⟩:=Kd.R_slice HO358.out
        (first|subst eo29|(injection eo29 with f1_ f2_ f3_;have f4_:=f1_.symm;have f5_:=f3_.symm;clear f1_ f2_ f3_;subst f4_;subst f5_))
        refine hK.out _ _ ⟨(blk_cell BK347.out 0).trans rfl,(blk_cell BK347.out 1).trans rfl,(blk_cell BK348.out 0).trans rfl,(blk_cell BK348.out 1).trans rfl⟩ (fun hHeld => ?_)
        clear hK K
        refine norm_ (a':=?_) ?_ ?_
        rotate_left
        ·show Act.put _ (some 31) _ = _
         simp only [Act.put,List.setIfInBounds_toArray,List.set_cons_zero,List.set_cons_succ,i64_w,i32_w]
         rfl
        refine one_ (i:=4) (N:=some 32) #[true,true,true,true,true,false,false,false,true,false,false] rfl rfl (one_of HT_.out (by kernel_rfl)) (by decide) (fun K hK => ?_)
        refine goes_ Try.func26 (by kernel_rfl) rfl #[.agg #[.int .i64 t351,.slice Ao28 t352.length co28],.agg #[.int .i64 t355,.slice Ao29 t356.length co29]] (by rfl) rfl rfl (by (try simp only [List.map_toArray,List.map_cons,List.map_nil]);first|done|rfl|(simp only [List.length_drop,List.length_take];rfl)) ?_
        with_reducible refine (spec_MulGrades.calls kj11 t351 _ _ t352 t355 _ _ t356 t359 t360 t363 _ ?side1 ?side2 ?side3 ?side4 A19.out).mono ?_
        (case side1 => repeat (first|exact (Kd.R_reads' HO354.out).2.2|(with_reducible refine Kd.C_alloc ?_ _)|(with_reducible refine Kd.C_drewN ?_ _)|(with_reducible refine Kd.C_drew ?_)))
        (case side2 => exact (Kd.R_reads' HO354.out).2.1)
        (case side3 => repeat (first|exact (Kd.R_reads' HO358.out).2.2|(with_reducible refine Kd.C_alloc ?_ _)|(with_reducible refine Kd.C_drewN ?_ _)|(with_reducible refine Kd.C_drew ?_)))
        (case side4 => exact (Kd.R_reads' HO358.out).2.1)
        rintro e w30 ⟨v361,rfl,ho0,hb⟩
        refine ⟨_,rfl,?_⟩
        have n0_:=Aside0.mk (Kd.R_elder' (by (with_reducible repeat (first|apply Kd.R_alloc|apply Kd.R_drewN|apply Kd.R_drew));exact HO354.out) (Kd.R_base ho0) hb)
        have n1_:=Aside0.mk (Kd.R_elder' (by (with_reducible repeat (first|apply Kd.R_alloc|apply Kd.R_drewN|apply Kd.R_drew));exact HO358.out) (Kd.R_base ho0) hb)
        have n2_:=Aside0.mk (Kd.R_lower (Kd.R_new' (Kd.R_new' ho0 (Kd.R_lt (by (with_reducible repeat (first|apply Kd.R_alloc|apply Kd.R_drewN|apply Kd.R_drew));exact HO354.out))) (Kd.R_lt (by (with_reducible repeat (first|apply Kd.R_alloc|apply Kd.R_drewN|apply Kd.R_drew));exact HO358.out))) (below_size (by repeat (first|(with_reducible first|exact HB.out|apply below_alloc|apply pw_below_drewN|apply below_drew1|refine below_set ?_ GE347.out|refine below_set ?_ GE348.out|refine below_set ?_ GE364.out)|exact HB.out))))
        have n3_:=Aside0.mk (blk_below (g:=gb347) (o:=.cells #[.int .i64 a0_0,.slice A0_1 l0_1.length c0_1] 26 (0,0)) (by (with_reducible repeat (first|refine blk_drewN ?_ _|refine blk_drew ?_|refine blk_alloc ?_ _));exact BK347.out) hb)
        have n4_:=Aside0.mk (blk_below (g:=gb348) (o:=.cells #[.int .i64 a1_0,.slice A1_1 l1_1.length c1_1] 26 (0,0)) (by (with_reducible repeat (first|refine blk_drewN ?_ _|refine blk_drew ?_|refine blk_alloc ?_ _));exact BK348.out) hb)
        have n5_:=Aside0.mk (blk_below (g:=gb364) (o:=.cells #[.int .i64 0,.slice none 0 0] 28 (0,0)) (by (with_reducible repeat (first|refine blk_drewN ?_ _|refine blk_drew ?_|refine blk_alloc ?_ _));exact BK364.out) hb)
        have n6_:=Aside0.mk (below_step (by repeat (first|(with_reducible first|exact HB.out|apply below_alloc|apply pw_below_drewN|apply below_drew1|refine below_set ?_ GE347.out|refine below_set ?_ GE348.out|refine below_set ?_ GE364.out)|exact HB.out)) hb)
        clear HO354
        clear HO358
        clear BK347
        clear BK348
        clear BK364
        clear HB
        have HO354:=n0_
        have HO358:=n1_
        have HO362:=n2_
        have BK347:=n3_
        have BK348:=n4_
        have BK364:=n5_
        have HB:=n6_
        clear n0_ n1_ n2_ n3_ n4_ n5_ n6_
        (try clear hb)
        (try clear hb2)
        (try clear hk)
        (try clear hi)
        (try clear ho0)
        refine hK.out _ _ ⟨(blk_cell BK347.out 0).trans rfl,(blk_cell BK347.out 1).trans rfl,(blk_cell BK348.out 0).trans rfl,(blk_cell BK348.out 1).trans rfl⟩ (fun hHeld => ?_)
        clear hK K
        refine norm_ (a':=?_) ?_ ?_
        rotate_left
        ·show Act.put _ (some 32) _ = _
         simp only [Act.put,List.setIfInBounds_toArray,List.set_cons_zero,List.set_cons_succ,i64_w,i32_w]
         rfl
        refine pure_ (i:=5) (N:=some 27) (v:=?_) (a':=?_) #[true,true,true,true,true,true,false,false,true,false,false] rfl rfl (any_of HT_.out (by kernel_rfl)) (fun _ _ _ h => h) (Or.inl ⟨by rfl,?_⟩) ?_ ?_
        rotate_left
        ·intro w'
         go_simp
         with_reducible rfl
        rotate_left
        ·simp only [Act.put,List.setIfInBounds_toArray,List.set_cons_zero,List.set_cons_succ,i64_w,i32_w]
         rfl
        refine pure_ (i:=6) (N:=some 33) (v:=?_) (a':=?_) #[true,true,true,true,true,true,true,false,true,false,false] rfl rfl (any_of HT_.out (by kernel_rfl)) (fun _ _ _ h => h) (Or.inl ⟨by rfl,?_⟩) ?_ ?_
        rotate_left
        ·intro w'
         go_simp
         with_reducible rfl
        rotate_left
        ·simp only [Act.put,List.setIfInBounds_toArray,List.set_cons_zero,List.set_cons_succ,i64_w,i32_w]
         rfl
        refine pure_ (i:=7) (N:=some 34) (v:=?_) (a':=?_) #[true,true,true,true,true,true,true,true,true,false,false] rfl rfl (any_of HT_.out (by kernel_rfl)) (fun _ _ _ h => h) (Or.inl ⟨by rfl,?_⟩) ?_ ?_
        rotate_left
        ·intro w'
         go_simp
         with_reducible rfl
        rotate_left
        ·simp only [Act.put,List.setIfInBounds_toArray,List.set_cons_zero,List.set_cons_succ,i64_w,i32_w]
         rfl
        exact norm_ (by simp only [putAll,Act.put,List.setIfInBounds_toArray,List.set_cons_zero,List.set_cons_succ]) (hCont (.slice Ao28 t352.length co28,.slice Ao29 t356.length co29,v361,gb364) _ ⟨hHeld,(by (with_reducible repeat (first|apply Kd.R_alloc|apply Kd.R_drewN|apply Kd.R_drew));exact Kd.R_mono HO354.out (fun _ hk => ⟨hk.1.2,hk.2⟩)),(by (with_reducible repeat (first|apply Kd.R_alloc|apply Kd.R_drewN|apply Kd.R_drew));exact Kd.R_mono HO358.out (fun _ hk => ⟨hk.1.2,hk.2⟩)),(by (with_reducible repeat (first|apply Kd.R_alloc|apply Kd.R_drewN|apply Kd.R_drew));exact Kd.R_mono HO362.out (fun _ hk => ⟨hk.1.2,hk.2⟩)),(by (with_reducible repeat (first|refine blk_drewN ?_ _|refine blk_drew ?_|refine blk_alloc ?_ _));exact BK347.out),(by (with_reducible repeat (first|refine blk_drewN ?_ _|refine blk_drew ?_|refine blk_alloc ?_ _));exact BK348.out),(by (with_reducible repeat (first|refine blk_drewN ?_ _|refine blk_drew ?_|refine blk_alloc ?_ _));exact BK364.out),GW364.out,GE364.out,NB347_364.out,NB364_347.out,NB348_364.out,NB364_348.out,(by repeat (first|(with_reducible first|exact HB.out|apply below_alloc|apply pw_below_drewN|apply below_drew1|refine below_set ?_ GE347.out|refine below_set ?_ GE348.out|refine below_set ?_ GE364.out)|exact HB.out))⟩)
      ·skip
       refine box_step ?hg (N:=6) ?hd (cs:=#[.int .i64 0,.slice none 0 0]) (t:=28) ?hr ?_;(case hd => rfl);(case hg => rfl);(case hr => first|(go_simp;done)|(go_simp;rfl))
       intro gb364 hg w25 hbox hb
       have n0_:=Aside0.mk (blk_below (g:=gb347) (o:=.cells #[.int .i64 a0_0,.slice A0_1 l0_1.length c0_1] 26 (0,0)) (by (with_reducible repeat (first|refine blk_drewN ?_ _|refine blk_drew ?_|refine blk_alloc ?_ _));exact BK347.out) hb)
       have n1_:=Aside0.mk (blk_below (g:=gb348) (o:=.cells #[.int .i64 a1_0,.slice A1_1 l1_1.length c1_1] 26 (0,0)) (by (with_reducible repeat (first|refine blk_drewN ?_ _|refine blk_drew ?_|refine blk_alloc ?_ _));exact BK348.out) hb)
       have n2_:=Aside0.mk (below_step (by repeat (first|(with_reducible first|exact HB.out|apply below_alloc|apply pw_below_drewN|apply below_drew1|refine below_set ?_ GE347.out|refine below_set ?_ GE348.out)|exact HB.out)) hb)
       have n3_:=Aside0.mk (hbox)
       have n4_:=Aside0.mk ((by rw [hg];exact (below_size (by repeat (first|(with_reducible first|exact HB.out|apply below_alloc|apply pw_below_drewN|apply below_drew1|refine below_set ?_ GE347.out|refine below_set ?_ GE348.out)|exact HB.out))) : w.heap.size ≤ gb364))
       have n5_:=Aside0.mk ((by rw [hg];exact (below_size (by repeat (first|(with_reducible first|exact HB.out|apply below_alloc|apply pw_below_drewN|apply below_drew1|refine below_set ?_ GE347.out|refine below_set ?_ GE348.out)|exact HB.out))) : w.heap.size ≤ gb364))
       have n6_:=Aside0.mk ((by rw [hg];exact Nat.ne_of_lt (blk_lt (g:=gb347) (o:=.cells #[.int .i64 a0_0,.slice A0_1 l0_1.length c0_1] 26 (0,0)) (by (with_reducible repeat (first|refine blk_drewN ?_ _|refine blk_drew ?_|refine blk_alloc ?_ _));exact BK347.out)) : gb347 ≠ gb364))
       have n7_:=Aside0.mk ((by rw [hg];exact Nat.ne_of_gt (blk_lt (g:=gb347) (o:=.cells #[.int .i64 a0_0,.slice A0_1 l0_1.length c0_1] 26 (0,0)) (by (with_reducible repeat (first|refine blk_drewN ?_ _|refine blk_drew ?_|refine blk_alloc ?_ _));exact BK347.out)) : gb364 ≠ gb347))
       have n8_:=Aside0.mk ((by rw [hg];exact Nat.ne_of_lt (blk_lt (g:=gb348) (o:=.cells #[.int .i64 a1_0,.slice A1_1 l1_1.length c1_1] 26 (0,0)) (by (with_reducible repeat (first|refine blk_drewN ?_ _|refine blk_drew ?_|refine blk_alloc ?_ _));exact BK348.out)) : gb348 ≠ gb364))
       have n9_:=Aside0.mk ((by rw [hg];exact Nat.ne_of_gt (blk_lt (g:=gb348) (o:=.cells #[.int .i64 a1_0,.slice A1_1 l1_1.length c1_1] 26 (0,0)) (by (with_reducible repeat (first|refine blk_drewN ?_ _|refine blk_drew ?_|refine blk_alloc ?_ _));exact BK348.out)) : gb364 ≠ gb348))
       clear BK347
       clear BK348
       clear HB
       have BK347:=n0_
       have BK348:=n1_
       have HB:=n2_
       have BK364:=n3_
       have GW364:=n4_
       have GE364:=n5_
       have NB347_364:=n6_
       have NB364_347:=n7_
       have NB348_364:=n8_
       have NB364_348:=n9_
       clear n0_ n1_ n2_ n3_ n4_ n5_ n6_ n7_ n8_ n9_
       clear hb hbox hg
       refine hK.out _ _ ⟨(blk_cell BK347.out 0).trans rfl,(blk_cell BK347.out 1).trans rfl,(blk_cell BK348.out 0).trans rfl,(blk_cell BK348.out 1).trans rfl⟩ (fun hHeld => ?_)
       clear hK K
       refine norm_ (a':=?_) ?_ ?_
       rotate_left
       ·show Act.put _ (some 6) _ = _
        simp only [Act.put,List.setIfInBounds_toArray,List.set_cons_zero,List.set_cons_succ,i64_w,i32_w]
        rfl
       refine one_ (i:=1) (N:=some 29) #[true,true,true,false,false,false,false,false,true,false,false] rfl rfl (one_of HT_.out (by kernel_rfl)) (by decide) (fun K hK => ?_)
       refine goes_ Try.func19 (by kernel_rfl) rfl #[.agg #[.int .i64 a0_0,.slice A0_1 l0_1.length c0_1]] (by rfl) rfl rfl (by (try simp only [List.map_toArray,List.map_cons,List.map_nil]);first|done|rfl|(simp only [List.length_drop,List.length_take];rfl)) ?_
       with_reducible refine (laws_toMatrix.calls kj11 a0_0 _ _ l0_1 t351 t352 _ ?side1 ?side2 A17.out).mono ?_
       (case side1 => repeat (first|exact (Kd.C_below HR0_1.out HB.out)|(with_reducible refine Kd.C_alloc ?_ _)|(with_reducible refine Kd.C_drewN ?_ _)|(with_reducible refine Kd.C_drew ?_)))
       (case side2 => exact HC0_1.out)
       rintro e w26 ⟨v353,rfl,ho0,hb⟩
       refine ⟨_,rfl,?_⟩
       have n0_:=Aside0.mk (Kd.R_lower ho0 (below_size (by repeat (first|(with_reducible first|exact HB.out|apply below_alloc|apply pw_below_drewN|apply below_drew1|refine below_set ?_ GE347.out|refine below_set ?_ GE348.out|refine below_set ?_ GE364.out)|exact HB.out))))
       have n1_:=Aside0.mk (blk_below (g:=gb347) (o:=.cells #[.int .i64 a0_0,.slice A0_1 l0_1.length c0_1] 26 (0,0)) (by (with_reducible repeat (first|refine blk_drewN ?_ _|refine blk_drew ?_|refine blk_alloc ?_ _));exact BK347.out) hb)
       have n2_:=Aside0.mk (blk_below (g:=gb348) (o:=.cells #[.int .i64 a1_0,.slice A1_1 l1_1.length c1_1] 26 (0,0)) (by (with_reducible repeat (first|refine blk_drewN ?_ _|refine blk_drew ?_|refine blk_alloc ?_ _));exact BK348.out) hb)
       have n3_:=Aside0.mk (blk_below (g:=gb364) (o:=.cells #[.int .i64 0,.slice none 0 0] 28 (0,0)) (by (with_reducible repeat (first|refine blk_drewN ?_ _|refine blk_drew ?_|refine blk_alloc ?_ _));exact BK364.out) hb)
       have n4_:=Aside0.mk (below_step (by repeat (first|(with_reducible first|exact HB.out|apply below_alloc|apply pw_below_drewN|apply below_drew1|refine below_set ?_ GE347.out|refine below_set ?_ GE348.out|refine below_set ?_ GE364.out)|exact HB.out)) hb)
       clear BK347
       clear BK348
       clear BK364
       clear HB
       have HO354:=n0_
       have BK347:=n1_
       have BK348:=n2_
       have BK364:=n3_
       have HB:=n4_
       clear n0_ n1_ n2_ n3_ n4_
       (try clear hb)
       (try clear hb2)
       (try clear hk)
       (try clear hi)
       (try clear ho0)
       refine hK.out _ _ ⟨(blk_cell BK347.out 0).trans rfl,(blk_cell BK347.out 1).trans rfl,(blk_cell BK348.out 0).trans rfl,(blk_cell BK348.out 1).trans rfl⟩ (fun hHeld => ?_)
       clear hK K
       refine norm_ (a':=?_) ?_ ?_
       rotate_left
       ·show Act.put _ (some 29) _ = _
        simp only [Act.put,List.setIfInBounds_toArray,List.set_cons_zero,List.set_cons_succ,i64_w,i32_w]
        rfl
       refine one_ (i:=3) (N:=some 31) #[true,true,true,true,false,false,false,false,true,false,false] rfl rfl (one_of HT_.out (by kernel_rfl)) (by decide) (fun K hK => ?_)
       refine goes_ Try.func19 (by kernel_rfl) rfl #[.agg #[.int .i64 a1_0,.slice A1_1 l1_1.length c1_1]] (by rfl) rfl rfl (by (try simp only [List.map_toArray,List.map_cons,List.map_nil]);first|done|rfl|(simp only [List.length_drop,List.length_take];rfl)) ?_
       with_reducible refine (laws_toMatrix.calls kj11 a1_0 _ _ l1_1 t355 t356 _ ?side1 ?side2 A18.out).mono ?_
       (case side1 => repeat (first|exact (Kd.C_below HR1_1.out HB.out)|(with_reducible refine Kd.C_alloc ?_ _)|(with_reducible refine Kd.C_drewN ?_ _)|(with_reducible refine Kd.C_drew ?_)))
       (case side2 => exact HC1_1.out)
       rintro e w27 ⟨v357,rfl,ho0,hb⟩
       refine ⟨_,rfl,?_⟩
       have n0_:=Aside0.mk (Kd.R_elder' (by (with_reducible repeat (first|apply Kd.R_alloc|apply Kd.R_drewN|apply Kd.R_drew));exact HO354.out) (Kd.R_base ho0) hb)
       have n1_:=Aside0.mk (Kd.R_lower (Kd.R_new' ho0 (Kd.R_lt (by (with_reducible repeat (first|apply Kd.R_alloc|apply Kd.R_drewN|apply Kd.R_drew));exact HO354.out))) (below_size (by repeat (first|(with_reducible first|exact HB.out|apply below_alloc|apply pw_below_drewN|apply below_drew1|refine below_set ?_ GE347.out|refine below_set ?_ GE348.out|refine below_set ?_ GE364.out)|exact HB.out))))
       have n2_:=Aside0.mk (blk_below (g:=gb347) (o:=.cells #[.int .i64 a0_0,.slice A0_1 l0_1.length c0_1] 26 (0,0)) (by (with_reducible repeat (first|refine blk_drewN ?_ _|refine blk_drew ?_|refine blk_alloc ?_ _));exact BK347.out) hb)
       have n3_:=Aside0.mk (blk_below (g:=gb348) (o:=.cells #[.int .i64 a1_0,.slice A1_1 l1_1.length c1_1] 26 (0,0)) (by (with_reducible repeat (first|refine blk_drewN ?_ _|refine blk_drew ?_|refine blk_alloc ?_ _));exact BK348.out) hb)
       have n4_:=Aside0.mk (blk_below (g:=gb364) (o:=.cells #[.int .i64 0,.slice none 0 0] 28 (0,0)) (by (with_reducible repeat (first|refine blk_drewN ?_ _|refine blk_drew ?_|refine blk_alloc ?_ _));exact BK364.out) hb)
       have n5_:=Aside0.mk (below_step (by repeat (first|(with_reducible first|exact HB.out|apply below_alloc|apply pw_below_drewN|apply below_drew1|refine below_set ?_ GE347.out|refine below_set ?_ GE348.out|refine below_set ?_ GE364.out)|exact HB.out)) hb)
       clear HO354
       clear BK347
       clear BK348
       clear BK364
       clear HB
       have HO354:=n0_
       have HO358:=n1_
       have BK347:=n2_
       have BK348:=n3_
       have BK364:=n4_
       have HB:=n5_
       clear n0_ n1_ n2_ n3_ n4_ n5_
       (try clear hb)
       (try clear hb2)
       (try clear hk)
       (try clear hi)
       (try clear ho0)
       obtain ⟨Ao28,co28,eo28⟩:=Kd.R_slice HO354.out
       (first|subst eo28|(injection eo28 with f1_ f2_ f3_;have f4_:=f1_.symm;have f5_:=f3_.symm;clear f1_ f2_ f3_;subst f4_;subst f5_))
       obtain ⟨Ao29,co29,eo29⟩:=Kd.R_slice HO358.out
       (first|subst eo29|(injection eo29 with f1_ f2_ f3_;have f4_:=f1_.symm;have f5_:=f3_.symm;clear f1_ f2_ f3_;subst f4_;subst f5_))
       refine hK.out _ _ ⟨(blk_cell BK347.out 0).trans rfl,(blk_cell BK347.out 1).trans rfl,(blk_cell BK348.out 0).trans rfl,(blk_cell BK348.out 1).trans rfl⟩ (fun hHeld => ?_)
       clear hK K
       refine norm_ (a':=?_) ?_ ?_
       rotate_left
       ·show Act.put _ (some 31) _ = _
        simp only [Act.put,List.setIfInBounds_toArray,List.set_cons_zero,List.set_cons_succ,i64_w,i32_w]
        rfl
       refine one_ (i:=4) (N:=some 32) #[true,true,true,true,true,false,false,false,true,false,false] rfl rfl (one_of HT_.out (by kernel_rfl)) (by decide) (fun K hK => ?_)
       refine goes_ Try.func26 (by kernel_rfl) rfl #[.agg #[.int .i64 t351,.slice Ao28 t352.length co28],.agg #[.int .i64 t355,.slice Ao29 t356.length co29]] (by rfl) rfl rfl (by (try simp only [List.map_toArray,List.map_cons,List.map_nil]);first|done|rfl|(simp only [List.length_drop,List.length_take];rfl)) ?_
       with_reducible refine (spec_MulGrades.calls kj11 t351 _ _ t352 t355 _ _ t356 t359 t360 t363 _ ?side1 ?side2 ?side3 ?side4 A19.out).mono ?_
       (case side1 => repeat (first|exact (Kd.R_reads' HO354.out).2.2|(with_reducible refine Kd.C_alloc ?_ _)|(with_reducible refine Kd.C_drewN ?_ _)|(with_reducible refine Kd.C_drew ?_)))
       (case side2 => exact (Kd.R_reads' HO354.out).2.1)
       (case side3 => repeat (first|exact (Kd.R_reads' HO358.out).2.2|(with_reducible refine Kd.C_alloc ?_ _)|(with_reducible refine Kd.C_drewN ?_ _)|(with_reducible refine Kd.C_drew ?_)))
       (case side4 => exact (Kd.R_reads' HO358.out).2.1)
       rintro e w30 ⟨v361,rfl,ho0,hb⟩
       refine ⟨_,rfl,?_⟩
       have n0_:=Aside0.mk (Kd.R_elder' (by (with_reducible repeat (first|apply Kd.R_alloc|apply Kd.R_drewN|apply Kd.R_drew));exact HO354.out) (Kd.R_base ho0) hb)
       have n1_:=Aside0.mk (Kd.R_elder' (by (with_reducible repeat (first|apply Kd.R_alloc|apply Kd.R_drewN|apply Kd.R_drew));exact HO358.out) (Kd.R_base ho0) hb)
       have n2_:=Aside0.mk (Kd.R_lower (Kd.R_new' (Kd.R_new' ho0 (Kd.R_lt (by (with_reducible repeat (first|apply Kd.R_alloc|apply Kd.R_drewN|apply Kd.R_drew));exact HO354.out))) (Kd.R_lt (by (with_reducible repeat (first|apply Kd.R_alloc|apply Kd.R_drewN|apply Kd.R_drew));exact HO358.out))) (below_size (by repeat (first|(with_reducible first|exact HB.out|apply below_alloc|apply pw_below_drewN|apply below_drew1|refine below_set ?_ GE347.out|refine below_set ?_ GE348.out|refine below_set ?_ GE364.out)|exact HB.out))))
       have n3_:=Aside0.mk (blk_below (g:=gb347) (o:=.cells #[.int .i64 a0_0,.slice A0_1 l0_1.length c0_1] 26 (0,0)) (by (with_reducible repeat (first|refine blk_drewN ?_ _|refine blk_drew ?_|refine blk_alloc ?_ _));exact BK347.out) hb)
       have n4_:=Aside0.mk (blk_below (g:=gb348) (o:=.cells #[.int .i64 a1_0,.slice A1_1 l1_1.length c1_1] 26 (0,0)) (by (with_reducible repeat (first|refine blk_drewN ?_ _|refine blk_drew ?_|refine blk_alloc ?_ _));exact BK348.out) hb)
       have n5_:=Aside0.mk (blk_below (g:=gb364) (o:=.cells #[.int .i64 0,.slice none 0 0] 28 (0,0)) (by (with_reducible repeat (first|refine blk_drewN ?_ _|refine blk_drew ?_|refine blk_alloc ?_ _));exact BK364.out) hb)
       have n6_:=Aside0.mk (below_step (by repeat (first|(with_reducible first|exact HB.out|apply below_alloc|apply pw_below_drewN|apply below_drew1|refine below_set ?_ GE347.out|refine below_set ?_ GE348.out|refine below_set ?_ GE364.out)|exact HB.out)) hb)
       clear HO354
       clear HO358
       clear BK347
       clear BK348
       clear BK364
       clear HB
       have HO354:=n0_
       have HO358:=n1_
       have HO362:=n2_
       have BK347:=n3_
       have BK348:=n4_
       have BK364:=n5_
       have HB:=n6_
       clear n0_ n1_ n2_ n3_ n4_ n5_ n6_
       (try clear hb)
       (try clear hb2)
       (try clear hk)
       (try clear hi)
       (try clear ho0)
       refine hK.out _ _ ⟨(blk_cell BK347.out 0).trans rfl,(blk_cell BK347.out 1).trans rfl,(blk_cell BK348.out 0).trans rfl,(blk_cell BK348.out 1).trans rfl⟩ (fun hHeld => ?_)
       clear hK K
       refine norm_ (a':=?_) ?_ ?_
       rotate_left
       ·show Act.put _ (some 32) _ = _
        simp only [Act.put,List.setIfInBounds_toArray,List.set_cons_zero,List.set_cons_succ,i64_w,i32_w]
        rfl
       refine pure_ (i:=5) (N:=some 27) (v:=?_) (a':=?_) #[true,true,true,true,true,true,false,false,true,false,false] rfl rfl (any_of HT_.out (by kernel_rfl)) (fun _ _ _ h => h) (Or.inl ⟨by rfl,?_⟩) ?_ ?_
       rotate_left
       ·intro w'
        go_simp
        with_reducible rfl
       rotate_left
       ·simp only [Act.put,List.setIfInBounds_toArray,List.set_cons_zero,List.set_cons_succ,i64_w,i32_w]
        rfl
       refine pure_ (i:=6) (N:=some 33) (v:=?_) (a':=?_) #[true,true,true,true,true,true,true,false,true,false,false] rfl rfl (any_of HT_.out (by kernel_rfl)) (fun _ _ _ h => h) (Or.inl ⟨by rfl,?_⟩) ?_ ?_
       rotate_left
       ·intro w'
        go_simp
        with_reducible rfl
       rotate_left
       ·simp only [Act.put,List.setIfInBounds_toArray,List.set_cons_zero,List.set_cons_succ,i64_w,i32_w]
        rfl
       refine pure_ (i:=7) (N:=some 34) (v:=?_) (a':=?_) #[true,true,true,true,true,true,true,true,true,false,false] rfl rfl (any_of HT_.out (by kernel_rfl)) (fun _ _ _ h => h) (Or.inl ⟨by rfl,?_⟩) ?_ ?_
       rotate_left
       ·intro w'
        go_simp
        with_reducible rfl
       rotate_left
       ·simp only [Act.put,List.setIfInBounds_toArray,List.set_cons_zero,List.set_cons_succ,i64_w,i32_w]
        rfl
       exact norm_ (by simp only [putAll,Act.put,List.setIfInBounds_toArray,List.set_cons_zero,List.set_cons_succ]) (hCont (.slice Ao28 t352.length co28,.slice Ao29 t356.length co29,v361,gb364) _ ⟨hHeld,(by (with_reducible repeat (first|apply Kd.R_alloc|apply Kd.R_drewN|apply Kd.R_drew));exact Kd.R_mono HO354.out (fun _ hk => ⟨hk.1.2,hk.2⟩)),(by (with_reducible repeat (first|apply Kd.R_alloc|apply Kd.R_drewN|apply Kd.R_drew));exact Kd.R_mono HO358.out (fun _ hk => ⟨hk.1.2,hk.2⟩)),(by (with_reducible repeat (first|apply Kd.R_alloc|apply Kd.R_drewN|apply Kd.R_drew));exact Kd.R_mono HO362.out (fun _ hk => ⟨hk.1.2,hk.2⟩)),(by (with_reducible repeat (first|refine blk_drewN ?_ _|refine blk_drew ?_|refine blk_alloc ?_ _));exact BK347.out),(by (with_reducible repeat (first|refine blk_drewN ?_ _|refine blk_drew ?_|refine blk_alloc ?_ _));exact BK348.out),(by (with_reducible repeat (first|refine blk_drewN ?_ _|refine blk_drew ?_|refine blk_alloc ?_ _));exact BK364.out),GW364.out,GE364.out,NB347_364.out,NB364_347.out,NB348_364.out,NB364_348.out,(by repeat (first|(with_reducible first|exact HB.out|apply below_alloc|apply pw_below_drewN|apply below_drew1|refine below_set ?_ GE347.out|refine below_set ?_ GE348.out|refine below_set ?_ GE364.out)|exact HB.out))⟩)
     rintro ⟨v353,v357,v361,gb364⟩ w31 ⟨hS_,h0_,h1_,h2_,h3_,h4_,h5_,h6_,h7_,h8_,h9_,h10_,h11_,h12_⟩
     have n0_ : Aside0 (Kd.R (Kd.int .i64) 3 w31 w.heap.size (fun k_ => some k_ ≠ (v357 : Value).ownBlock ∧ some k_ ≠ (v361 : Value).ownBlock) v353 t352):=⟨h0_⟩
     have n1_ : Aside0 (Kd.R (Kd.int .i64) 3 w31 w.heap.size (fun k_ => some k_ ≠ (v353 : Value).ownBlock ∧ some k_ ≠ (v361 : Value).ownBlock) v357 t356):=⟨h1_⟩
     have n2_ : Aside0 (Kd.R (Kd.int .i64) 3 w31 w.heap.size (fun k_ => some k_ ≠ (v353 : Value).ownBlock ∧ some k_ ≠ (v357 : Value).ownBlock) v361 t360):=⟨h2_⟩
     have n3_ : Aside0 (w31.heap[gb347]? = some (.cells #[.int .i64 a0_0,.slice A0_1 l0_1.length c0_1] 26 (0,0))):=⟨h3_⟩
     have n4_ : Aside0 (w31.heap[gb348]? = some (.cells #[.int .i64 a1_0,.slice A1_1 l1_1.length c1_1] 26 (0,0))):=⟨h4_⟩
     have n5_ : Aside0 (w31.heap[gb364]? = some (.cells #[.int .i64 0,.slice none 0 0] 28 (0,0))):=⟨h5_⟩
     have n6_ : Aside0 (w.heap.size ≤ gb364):=⟨h6_⟩
     have n7_ : Aside0 (w.heap.size ≤ gb364):=⟨h7_⟩
     have n8_ : Aside0 (gb347 ≠ gb364):=⟨h8_⟩
     have n9_ : Aside0 (gb364 ≠ gb347):=⟨h9_⟩
     have n10_ : Aside0 (gb348 ≠ gb364):=⟨h10_⟩
     have n11_ : Aside0 (gb364 ≠ gb348):=⟨h11_⟩
     have n12_ : Aside0 (Below w.heap.size w w31):=⟨h12_⟩
     clear BK347
     clear BK348
     clear HB
     clear h0_ h1_ h2_ h3_ h4_ h5_ h6_ h7_ h8_ h9_ h10_ h11_ h12_
     have HO354:=n0_
     have HO358:=n1_
     have HO362:=n2_
     have BK347:=n3_
     have BK348:=n4_
     have BK364:=n5_
     have GW364:=n6_
     have GE364:=n7_
     have NB347_364:=n8_
     have NB364_347:=n9_
     have NB348_364:=n10_
     have NB364_348:=n11_
     have HB:=n12_
     clear n0_ n1_ n2_ n3_ n4_ n5_ n6_ n7_ n8_ n9_ n10_ n11_ n12_
     have hHeld : w31.cell? ⟨gb347,0,none⟩ = some (.int .i64 a0_0) ∧ w31.cell? ⟨gb347,1,none⟩ = some (.slice A0_1 l0_1.length c0_1) ∧ w31.cell? ⟨gb348,0,none⟩ = some (.int .i64 a1_0) ∧ w31.cell? ⟨gb348,1,none⟩ = some (.slice A1_1 l1_1.length c1_1):=hS_
     obtain ⟨Ao33,co33,eo33⟩:=Kd.R_slice HO362.out
     (first|subst eo33|(injection eo33 with f1_ f2_ f3_;have f4_:=f1_.symm;have f5_:=f3_.symm;clear f1_ f2_ f3_;subst f4_;subst f5_))
     refine norm_ (a':=?_) ?_ ?_
     rotate_left
     ·simp only [putAll,Act.put,List.setIfInBounds_toArray,List.set_cons_zero,List.set_cons_succ]
      rfl
     refine one_ (i:=9) (N:=none) #[true,true,true,true,true,true,true,true,true,true,false] rfl rfl (one_of HT_.out (by kernel_rfl)) (by decide) (fun K hK => ?_)
     have hs32 : w31.cell? ⟨gb364,0,none⟩ = some (.int .i64 0):=(blk_cell BK364.out 0).trans rfl
     have hfs32:=blk_frozen BK364.out 0
     have hns32_0:=NB347_364.out
     have hns32_1:=NB348_364.out
     have hms32_0:=NB364_347.out
     have hms32_1:=NB364_348.out
     have hs34 : w31.cell? ⟨gb364,1,none⟩ = some (.slice none 0 0):=(blk_cell BK364.out 1).trans rfl
     have hfs34:=blk_frozen BK364.out 1
     have hns34_0:=NB347_364.out
     have hns34_1:=NB348_364.out
     have hms34_0:=NB364_347.out
     have hms34_1:=NB364_348.out
     refine skip_ (w1:=?_) (by rfl) rfl ?_ ?_
     rotate_left
     ·go_simp
      rfl
     refine hK.out _ _ ⟨((cell_far (p:=⟨gb364,_,none⟩) NB347_364.out _).trans (((cell_far (p:=⟨gb364,_,none⟩) NB347_364.out _).trans (hHeld.1)))),((cell_far (p:=⟨gb364,_,none⟩) NB347_364.out _).trans (((cell_far (p:=⟨gb364,_,none⟩) NB347_364.out _).trans (hHeld.2.1)))),((cell_far (p:=⟨gb364,_,none⟩) NB348_364.out _).trans (((cell_far (p:=⟨gb364,_,none⟩) NB348_364.out _).trans (hHeld.2.2.1)))),((cell_far (p:=⟨gb364,_,none⟩) NB348_364.out _).trans (((cell_far (p:=⟨gb364,_,none⟩) NB348_364.out _).trans (hHeld.2.2.2))))⟩ (fun hHeld => ?_)
     clear hK K
     refine pure_ (i:=10) (N:=some 7) (v:=?_) (a':=?_) #[true,true,true,true,true,true,true,true,true,true,true] rfl rfl (any_of HT_.out (by kernel_rfl)) (fun _ _ _ h => h) (Or.inl ⟨by rfl,?_⟩) ?_ ?_
     rotate_left
     ·intro w'
      go_simp
      with_reducible rfl
     rotate_left
     ·simp only [Act.put,List.setIfInBounds_toArray,List.set_cons_zero,List.set_cons_succ,i64_w,i32_w]
      rfl
     refine done_ (done_of HT_.out (by kernel_rfl)) ?_
     have hnb35:=NB347_348.out
     have hnc35:=NB348_347.out
     have hnb36:=NB347_364.out
     have hnc36:=NB364_347.out
     have hcz37_0 : w31.cell? ⟨gb347,0,none⟩ = some (.int .i64 a0_0):=(blk_cell BK347.out 0).trans rfl
     have hcz37_1 : w31.cell? ⟨gb347,1,none⟩ = some (.slice A0_1 l0_1.length c0_1):=(blk_cell BK347.out 1).trans rfl
     have hfz37_0:=blk_frozen BK347.out 0
     have hfz37_1:=blk_frozen BK347.out 1
     go_upto_region 12 with (first|((with_reducible refine gate_callee (f:=19) rfl ?_);refine goesL_ (some 36) rfl rfl Try.func19 (by kernel_rfl) rfl #[.agg #[.int .i64 a0_0,.slice A0_1 l0_1.length c0_1]] rfl (by (try simp only [List.map_toArray,List.map_cons,List.map_nil]);first|done|rfl|(simp only [List.length_drop,List.length_take];rfl)) ?_;(with_reducible refine (laws_toMatrix.calls kj11 a0_0 _ _ l0_1 t365 t366 _ ?side1 ?side2 A20.out).mono ?_);(case side1 => exact Kd.C_below HR0_1.out (by repeat (first|(with_reducible first|exact HB.out|apply below_alloc|apply pw_below_drewN|apply below_drew1|refine below_set ?_ GE347.out|refine below_set ?_ GE348.out|refine below_set ?_ GE364.out)|exact HB.out)));(case side2 => exact HC0_1.out);rintro e w38 ⟨v367,rfl,ho0,hb⟩;refine ⟨_,rfl,?_⟩;have n0_:=Aside0.mk (Kd.R_elder' (by (with_reducible repeat (first|apply Kd.R_alloc|apply Kd.R_drewN|apply Kd.R_drew));exact (Kd.R_mono (Kd.R_far (p:=⟨gb364,1,none⟩) (Kd.R_far (p:=⟨gb364,0,none⟩) (Kd.R_types HO354.out BK364.out (by decide)) (fun _ hk => hk.2) (.int .i64 t359)) (fun _ hk => hk.2) (.slice Ao33 t360.length co33)) (fun _ h_ => h_.1))) (Kd.R_base ho0) hb);have n1_:=Aside0.mk (Kd.R_elder' (by (with_reducible repeat (first|apply Kd.R_alloc|apply Kd.R_drewN|apply Kd.R_drew));exact (Kd.R_mono (Kd.R_far (p:=⟨gb364,1,none⟩) (Kd.R_far (p:=⟨gb364,0,none⟩) (Kd.R_types HO358.out BK364.out (by decide)) (fun _ hk => hk.2) (.int .i64 t359)) (fun _ hk => hk.2) (.slice Ao33 t360.length co33)) (fun _ h_ => h_.1))) (Kd.R_base ho0) hb);have n2_:=Aside0.mk (Kd.R_elder' (by (with_reducible repeat (first|apply Kd.R_alloc|apply Kd.R_drewN|apply Kd.R_drew));exact (Kd.R_mono (Kd.R_far (p:=⟨gb364,1,none⟩) (Kd.R_far (p:=⟨gb364,0,none⟩) (Kd.R_types HO362.out BK364.out (by decide)) (fun _ hk => hk.2) (.int .i64 t359)) (fun _ hk => hk.2) (.slice Ao33 t360.length co33)) (fun _ h_ => h_.1))) (Kd.R_base ho0) hb);have n3_:=Aside0.mk (Kd.R_lower (Kd.R_new' (Kd.R_new' (Kd.R_new' ho0 (Kd.R_lt (by (with_reducible repeat (first|apply Kd.R_alloc|apply Kd.R_drewN|apply Kd.R_drew));exact (Kd.R_mono (Kd.R_far (p:=⟨gb364,1,none⟩) (Kd.R_far (p:=⟨gb364,0,none⟩) (Kd.R_types HO354.out BK364.out (by decide)) (fun _ hk => hk.2) (.int .i64 t359)) (fun _ hk => hk.2) (.slice Ao33 t360.length co33)) (fun _ h_ => h_.1))))) (Kd.R_lt (by (with_reducible repeat (first|apply Kd.R_alloc|apply Kd.R_drewN|apply Kd.R_drew));exact (Kd.R_mono (Kd.R_far (p:=⟨gb364,1,none⟩) (Kd.R_far (p:=⟨gb364,0,none⟩) (Kd.R_types HO358.out BK364.out (by decide)) (fun _ hk => hk.2) (.int .i64 t359)) (fun _ hk => hk.2) (.slice Ao33 t360.length co33)) (fun _ h_ => h_.1))))) (Kd.R_lt (by (with_reducible repeat (first|apply Kd.R_alloc|apply Kd.R_drewN|apply Kd.R_drew));exact (Kd.R_mono (Kd.R_far (p:=⟨gb364,1,none⟩) (Kd.R_far (p:=⟨gb364,0,none⟩) (Kd.R_types HO362.out BK364.out (by decide)) (fun _ hk => hk.2) (.int .i64 t359)) (fun _ hk => hk.2) (.slice Ao33 t360.length co33)) (fun _ h_ => h_.1))))) (below_size (by repeat (first|(with_reducible first|exact HB.out|apply below_alloc|apply pw_below_drewN|apply below_drew1|refine below_set ?_ GE347.out|refine below_set ?_ GE348.out|refine below_set ?_ GE364.out)|exact HB.out))));have n4_:=Aside0.mk (blk_below (g:=gb347) (o:=.cells #[.int .i64 a0_0,.slice A0_1 l0_1.length c0_1] 26 (0,0)) (by (with_reducible repeat (first|refine blk_drewN ?_ _|refine blk_drew ?_|refine blk_alloc ?_ _));refine blk_far ?_ NB347_364.out _;(with_reducible repeat (first|refine blk_drewN ?_ _|refine blk_drew ?_|refine blk_alloc ?_ _));refine blk_far ?_ NB347_364.out _;(with_reducible repeat (first|refine blk_drewN ?_ _|refine blk_drew ?_|refine blk_alloc ?_ _));exact BK347.out) hb);have n5_:=Aside0.mk (blk_below (g:=gb348) (o:=.cells #[.int .i64 a1_0,.slice A1_1 l1_1.length c1_1] 26 (0,0)) (by (with_reducible repeat (first|refine blk_drewN ?_ _|refine blk_drew ?_|refine blk_alloc ?_ _));refine blk_far ?_ NB348_364.out _;(with_reducible repeat (first|refine blk_drewN ?_ _|refine blk_drew ?_|refine blk_alloc ?_ _));refine blk_far ?_ NB348_364.out _;(with_reducible repeat (first|refine blk_drewN ?_ _|refine blk_drew ?_|refine blk_alloc ?_ _));exact BK348.out) hb);have n6_:=Aside0.mk (blk_below (g:=gb364) (o:=.cells #[.int .i64 t359,.slice Ao33 t360.length co33] 28 (0,0)) (by (with_reducible repeat (first|refine blk_drewN ?_ _|refine blk_drew ?_|refine blk_alloc ?_ _));refine blk_put (cs:=#[.int .i64 t359,.slice none 0 0]) ?_ 1 _ rfl;(with_reducible repeat (first|refine blk_drewN ?_ _|refine blk_drew ?_|refine blk_alloc ?_ _));refine blk_put (cs:=#[.int .i64 0,.slice none 0 0]) ?_ 0 _ rfl;(with_reducible repeat (first|refine blk_drewN ?_ _|refine blk_drew ?_|refine blk_alloc ?_ _));exact BK364.out) hb);have n7_:=Aside0.mk (below_step (by repeat (first|(with_reducible first|exact HB.out|apply below_alloc|apply pw_below_drewN|apply below_drew1|refine below_set ?_ GE347.out|refine below_set ?_ GE348.out|refine below_set ?_ GE364.out)|exact HB.out)) hb);clear HO354;clear HO358;clear HO362;clear BK347;clear BK348;clear BK364;clear HB;have HO354:=n0_;have HO358:=n1_;have HO362:=n2_;have HO368:=n3_;have BK347:=n4_;have BK348:=n5_;have BK364:=n6_;have HB:=n7_;clear n0_ n1_ n2_ n3_ n4_ n5_ n6_ n7_;(try clear hb);(try clear hb2);(try clear hk);(try clear hi);(try clear ho0))|((with_reducible refine gate_dst (N:=8) rfl ?_);refine box_event ?hg (N:=8) ?hd (cs:=#[.int .i64 0,.slice none 0 0]) (t:=28) ?hr ?_;(case hd => rfl);(case hg => rfl);(case hr => first|(go_simp;done)|(go_simp;rfl));intro gb369 hg w39 hbox hb;have n0_:=Aside0.mk (Kd.R_below (by (with_reducible repeat (first|apply Kd.R_alloc|apply Kd.R_drewN|apply Kd.R_drew));exact HO354.out) hb);have n1_:=Aside0.mk (Kd.R_below (by (with_reducible repeat (first|apply Kd.R_alloc|apply Kd.R_drewN|apply Kd.R_drew));exact HO358.out) hb);have n2_:=Aside0.mk (Kd.R_below (by (with_reducible repeat (first|apply Kd.R_alloc|apply Kd.R_drewN|apply Kd.R_drew));exact HO362.out) hb);have n3_:=Aside0.mk (Kd.R_below (by (with_reducible repeat (first|apply Kd.R_alloc|apply Kd.R_drewN|apply Kd.R_drew));exact HO368.out) hb);have n4_:=Aside0.mk (blk_below (g:=gb347) (o:=.cells #[.int .i64 a0_0,.slice A0_1 l0_1.length c0_1] 26 (0,0)) (by (with_reducible repeat (first|refine blk_drewN ?_ _|refine blk_drew ?_|refine blk_alloc ?_ _));exact BK347.out) hb);have n5_:=Aside0.mk (blk_below (g:=gb348) (o:=.cells #[.int .i64 a1_0,.slice A1_1 l1_1.length c1_1] 26 (0,0)) (by (with_reducible repeat (first|refine blk_drewN ?_ _|refine blk_drew ?_|refine blk_alloc ?_ _));exact BK348.out) hb);have n6_:=Aside0.mk (blk_below (g:=gb364) (o:=.cells #[.int .i64 t359,.slice Ao33 t360.length co33] 28 (0,0)) (by (with_reducible repeat (first|refine blk_drewN ?_ _|refine blk_drew ?_|refine blk_alloc ?_ _));exact BK364.out) hb);have n7_:=Aside0.mk (below_step (by repeat (first|(with_reducible first|exact HB.out|apply below_alloc|apply pw_below_drewN|apply below_drew1|refine below_set ?_ GE347.out|refine below_set ?_ GE348.out|refine below_set ?_ GE364.out)|exact HB.out)) hb);have n8_:=Aside0.mk (hbox);have n9_:=Aside0.mk ((by rw [hg];exact (below_size (by repeat (first|(with_reducible first|exact HB.out|apply below_alloc|apply pw_below_drewN|apply below_drew1|refine below_set ?_ GE347.out|refine below_set ?_ GE348.out|refine below_set ?_ GE364.out)|exact HB.out))) : w.heap.size ≤ gb369));have n10_:=Aside0.mk ((by rw [hg];exact (below_size (by repeat (first|(with_reducible first|exact HB.out|apply below_alloc|apply pw_below_drewN|apply below_drew1|refine below_set ?_ GE347.out|refine below_set ?_ GE348.out|refine below_set ?_ GE364.out)|exact HB.out))) : w.heap.size ≤ gb369));have n11_:=Aside0.mk ((by rw [hg];exact Nat.ne_of_lt (blk_lt (g:=gb347) (o:=.cells #[.int .i64 a0_0,.slice A0_1 l0_1.length c0_1] 26 (0,0)) (by (with_reducible repeat (first|refine blk_drewN ?_ _|refine blk_drew ?_|refine blk_alloc ?_ _));exact BK347.out)) : gb347 ≠ gb369));have n12_:=Aside0.mk ((by rw [hg];exact Nat.ne_of_gt (blk_lt (g:=gb347) (o:=.cells #[.int .i64 a0_0,.slice A0_1 l0_1.length c0_1] 26 (0,0)) (by (with_reducible repeat (first|refine blk_drewN ?_ _|refine blk_drew ?_|refine blk_alloc ?_ _));exact BK347.out)) : gb369 ≠ gb347));have n13_:=Aside0.mk ((by rw [hg];exact Nat.ne_of_lt (blk_lt (g:=gb348) (o:=.cells #[.int .i64 a1_0,.slice A1_1 l1_1.length c1_1] 26 (0,0)) (by (with_reducible repeat (first|refine blk_drewN ?_ _|refine blk_drew ?_|refine blk_alloc ?_ _));exact BK348.out)) : gb348 ≠ gb369));have n14_:=Aside0.mk ((by rw [hg];exact Nat.ne_of_gt (blk_lt (g:=gb348) (o:=.cells #[.int .i64 a1_0,.slice A1_1 l1_1.length c1_1] 26 (0,0)) (by (with_reducible repeat (first|refine blk_drewN ?_ _|refine blk_drew ?_|refine blk_alloc ?_ _));exact BK348.out)) : gb369 ≠ gb348));have n15_:=Aside0.mk ((by rw [hg];exact Nat.ne_of_lt (blk_lt (g:=gb364) (o:=.cells #[.int .i64 t359,.slice Ao33 t360.length co33] 28 (0,0)) (by (with_reducible repeat (first|refine blk_drewN ?_ _|refine blk_drew ?_|refine blk_alloc ?_ _));exact BK364.out)) : gb364 ≠ gb369));have n16_:=Aside0.mk ((by rw [hg];exact Nat.ne_of_gt (blk_lt (g:=gb364) (o:=.cells #[.int .i64 t359,.slice Ao33 t360.length co33] 28 (0,0)) (by (with_reducible repeat (first|refine blk_drewN ?_ _|refine blk_drew ?_|refine blk_alloc ?_ _));exact BK364.out)) : gb369 ≠ gb364));clear HO354;clear HO358;clear HO362;clear HO368;clear BK347;clear BK348;clear BK364;clear HB;have HO354:=n0_;have HO358:=n1_;have HO362:=n2_;have HO368:=n3_;have BK347:=n4_;have BK348:=n5_;have BK364:=n6_;have HB:=n7_;have BK369:=n8_;have GW369:=n9_;have GE369:=n10_;have NB347_369:=n11_;have NB369_347:=n12_;have NB348_369:=n13_;have NB369_348:=n14_;have NB364_369:=n15_;have NB369_364:=n16_;clear n0_ n1_ n2_ n3_ n4_ n5_ n6_ n7_ n8_ n9_ n10_ n11_ n12_ n13_ n14_ n15_ n16_;clear hb hbox hg;have hnb40:=NB369_347.out;have hnc40:=NB347_369.out;have hnb41:=NB369_348.out;have hnc41:=NB348_369.out;have hnb42:=NB369_364.out;have hnc42:=NB364_369.out;have hcz43_0 : w39.cell? ⟨gb369,0,none⟩ = some (.int .i64 0):=(blk_cell BK369.out 0).trans rfl;have hcz43_1 : w39.cell? ⟨gb369,1,none⟩ = some (.slice none 0 0):=(blk_cell BK369.out 1).trans rfl;have hfz43_0:=blk_frozen BK369.out 0;have hfz43_1:=blk_frozen BK369.out 1;obtain ⟨Ao44,co44,eo44⟩:=Kd.R_slice HO368.out;subst eo44;have hnb45:=NB348_364.out;have hnc45:=NB364_348.out;have hcz46_0 : w39.cell? ⟨gb348,0,none⟩ = some (.int .i64 a1_0):=(blk_cell BK348.out 0).trans rfl;have hcz46_1 : w39.cell? ⟨gb348,1,none⟩ = some (.slice A1_1 l1_1.length c1_1):=(blk_cell BK348.out 1).trans rfl;have hfz46_0:=blk_frozen BK348.out 0;have hfz46_1:=blk_frozen BK348.out 1)|((with_reducible refine gate_callee (f:=19) rfl ?_);refine goesL_ (some 38) rfl rfl Try.func19 (by kernel_rfl) rfl #[.agg #[.int .i64 a1_0,.slice A1_1 l1_1.length c1_1]] rfl (by (try simp only [List.map_toArray,List.map_cons,List.map_nil]);first|done|rfl|(simp only [List.length_drop,List.length_take];rfl)) ?_;(with_reducible refine (laws_toMatrix.calls kj11 a1_0 _ _ l1_1 t370 t371 _ ?side1 ?side2 A21.out).mono ?_);(case side1 => exact Kd.C_below HR1_1.out (by repeat (first|(with_reducible first|exact HB.out|apply below_alloc|apply pw_below_drewN|apply below_drew1|refine below_set ?_ GE347.out|refine below_set ?_ GE348.out|refine below_set ?_ GE364.out|refine below_set ?_ GE369.out)|exact HB.out)));(case side2 => exact HC1_1.out);rintro e w47 ⟨v372,rfl,ho0,hb⟩;refine ⟨_,rfl,?_⟩;have n0_:=Aside0.mk (Kd.R_elder' (by (with_reducible repeat (first|apply Kd.R_alloc|apply Kd.R_drewN|apply Kd.R_drew));exact (Kd.R_mono (Kd.R_far (p:=⟨gb369,1,none⟩) (Kd.R_far (p:=⟨gb369,0,none⟩) (Kd.R_types HO354.out BK369.out (by decide)) (fun _ hk => hk.2) (.int .i64 t365)) (fun _ hk => hk.2) (.slice Ao44 t366.length co44)) (fun _ h_ => h_.1))) (Kd.R_base ho0) hb);have n1_:=Aside0.mk (Kd.R_elder' (by (with_reducible repeat (first|apply Kd.R_alloc|apply Kd.R_drewN|apply Kd.R_drew));exact (Kd.R_mono (Kd.R_far (p:=⟨gb369,1,none⟩) (Kd.R_far (p:=⟨gb369,0,none⟩) (Kd.R_types HO358.out BK369.out (by decide)) (fun _ hk => hk.2) (.int .i64 t365)) (fun _ hk => hk.2) (.slice Ao44 t366.length co44)) (fun _ h_ => h_.1))) (Kd.R_base ho0) hb);have n2_:=Aside0.mk (Kd.R_elder' (by (with_reducible repeat (first|apply Kd.R_alloc|apply Kd.R_drewN|apply Kd.R_drew));exact (Kd.R_mono (Kd.R_far (p:=⟨gb369,1,none⟩) (Kd.R_far (p:=⟨gb369,0,none⟩) (Kd.R_types HO362.out BK369.out (by decide)) (fun _ hk => hk.2) (.int .i64 t365)) (fun _ hk => hk.2) (.slice Ao44 t366.length co44)) (fun _ h_ => h_.1))) (Kd.R_base ho0) hb);have n3_:=Aside0.mk (Kd.R_elder' (by (with_reducible repeat (first|apply Kd.R_alloc|apply Kd.R_drewN|apply Kd.R_drew));exact (Kd.R_mono (Kd.R_far (p:=⟨gb369,1,none⟩) (Kd.R_far (p:=⟨gb369,0,none⟩) (Kd.R_types HO368.out BK369.out (by decide)) (fun _ hk => hk.2) (.int .i64 t365)) (fun _ hk => hk.2) (.slice Ao44 t366.length co44)) (fun _ h_ => h_.1))) (Kd.R_base ho0) hb);have n4_:=Aside0.mk (Kd.R_lower (Kd.R_new' (Kd.R_new' (Kd.R_new' (Kd.R_new' ho0 (Kd.R_lt (by (with_reducible repeat (first|apply Kd.R_alloc|apply Kd.R_drewN|apply Kd.R_drew));exact (Kd.R_mono (Kd.R_far (p:=⟨gb369,1,none⟩) (Kd.R_far (p:=⟨gb369,0,none⟩) (Kd.R_types HO354.out BK369.out (by decide)) (fun _ hk => hk.2) (.int .i64 t365)) (fun _ hk => hk.2) (.slice Ao44 t366.length co44)) (fun _ h_ => h_.1))))) (Kd.R_lt (by (with_reducible repeat (first|apply Kd.R_alloc|apply Kd.R_drewN|apply Kd.R_drew));exact (Kd.R_mono (Kd.R_far (p:=⟨gb369,1,none⟩) (Kd.R_far (p:=⟨gb369,0,none⟩) (Kd.R_types HO358.out BK369.out (by decide)) (fun _ hk => hk.2) (.int .i64 t365)) (fun _ hk => hk.2) (.slice Ao44 t366.length co44)) (fun _ h_ => h_.1))))) (Kd.R_lt (by (with_reducible repeat (first|apply Kd.R_alloc|apply Kd.R_drewN|apply Kd.R_drew));exact (Kd.R_mono (Kd.R_far (p:=⟨gb369,1,none⟩) (Kd.R_far (p:=⟨gb369,0,none⟩) (Kd.R_types HO362.out BK369.out (by decide)) (fun _ hk => hk.2) (.int .i64 t365)) (fun _ hk => hk.2) (.slice Ao44 t366.length co44)) (fun _ h_ => h_.1))))) (Kd.R_lt (by (with_reducible repeat (first|apply Kd.R_alloc|apply Kd.R_drewN|apply Kd.R_drew));exact (Kd.R_mono (Kd.R_far (p:=⟨gb369,1,none⟩) (Kd.R_far (p:=⟨gb369,0,none⟩) (Kd.R_types HO368.out BK369.out (by decide)) (fun _ hk => hk.2) (.int .i64 t365)) (fun _ hk => hk.2) (.slice Ao44 t366.length co44)) (fun _ h_ => h_.1))))) (below_size (by repeat (first|(with_reducible first|exact HB.out|apply below_alloc|apply pw_below_drewN|apply below_drew1|refine below_set ?_ GE347.out|refine below_set ?_ GE348.out|refine below_set ?_ GE364.out|refine below_set ?_ GE369.out)|exact HB.out))));have n5_:=Aside0.mk (blk_below (g:=gb347) (o:=.cells #[.int .i64 a0_0,.slice A0_1 l0_1.length c0_1] 26 (0,0)) (by (with_reducible repeat (first|refine blk_drewN ?_ _|refine blk_drew ?_|refine blk_alloc ?_ _));refine blk_far ?_ NB347_369.out _;(with_reducible repeat (first|refine blk_drewN ?_ _|refine blk_drew ?_|refine blk_alloc ?_ _));refine blk_far ?_ NB347_369.out _;(with_reducible repeat (first|refine blk_drewN ?_ _|refine blk_drew ?_|refine blk_alloc ?_ _));exact BK347.out) hb);have n6_:=Aside0.mk (blk_below (g:=gb348) (o:=.cells #[.int .i64 a1_0,.slice A1_1 l1_1.length c1_1] 26 (0,0)) (by (with_reducible repeat (first|refine blk_drewN ?_ _|refine blk_drew ?_|refine blk_alloc ?_ _));refine blk_far ?_ NB348_369.out _;(with_reducible repeat (first|refine blk_drewN ?_ _|refine blk_drew ?_|refine blk_alloc ?_ _));refine blk_far ?_ NB348_369.out _;(with_reducible repeat (first|refine blk_drewN ?_ _|refine blk_drew ?_|refine blk_alloc ?_ _));exact BK348.out) hb);have n7_:=Aside0.mk (blk_below (g:=gb364) (o:=.cells #[.int .i64 t359,.slice Ao33 t360.length co33] 28 (0,0)) (by (with_reducible repeat (first|refine blk_drewN ?_ _|refine blk_drew ?_|refine blk_alloc ?_ _));refine blk_far ?_ NB364_369.out _;(with_reducible repeat (first|refine blk_drewN ?_ _|refine blk_drew ?_|refine blk_alloc ?_ _));refine blk_far ?_ NB364_369.out _;(with_reducible repeat (first|refine blk_drewN ?_ _|refine blk_drew ?_|refine blk_alloc ?_ _));exact BK364.out) hb);have n8_:=Aside0.mk (blk_below (g:=gb369) (o:=.cells #[.int .i64 t365,.slice Ao44 t366.length co44] 28 (0,0)) (by (with_reducible repeat (first|refine blk_drewN ?_ _|refine blk_drew ?_|refine blk_alloc ?_ _));refine blk_put (cs:=#[.int .i64 t365,.slice none 0 0]) ?_ 1 _ rfl;(with_reducible repeat (first|refine blk_drewN ?_ _|refine blk_drew ?_|refine blk_alloc ?_ _));refine blk_put (cs:=#[.int .i64 0,.slice none 0 0]) ?_ 0 _ rfl;(with_reducible repeat (first|refine blk_drewN ?_ _|refine blk_drew ?_|refine blk_alloc ?_ _));exact BK369.out) hb);have n9_:=Aside0.mk (below_step (by repeat (first|(with_reducible first|exact HB.out|apply below_alloc|apply pw_below_drewN|apply below_drew1|refine below_set ?_ GE347.out|refine below_set ?_ GE348.out|refine below_set ?_ GE364.out|refine below_set ?_ GE369.out)|exact HB.out)) hb);clear HO354;clear HO358;clear HO362;clear HO368;clear BK347;clear BK348;clear BK364;clear BK369;clear HB;have HO354:=n0_;have HO358:=n1_;have HO362:=n2_;have HO368:=n3_;have HO373:=n4_;have BK347:=n5_;have BK348:=n6_;have BK364:=n7_;have BK369:=n8_;have HB:=n9_;clear n0_ n1_ n2_ n3_ n4_ n5_ n6_ n7_ n8_ n9_;(try clear hb);(try clear hb2);(try clear hk);(try clear hi);(try clear ho0))|((with_reducible refine gate_dst (N:=9) rfl ?_);refine box_event ?hg (N:=9) ?hd (cs:=#[.int .i64 0,.slice none 0 0]) (t:=28) ?hr ?_;(case hd => rfl);(case hg => rfl);(case hr => first|(go_simp;done)|(go_simp;rfl));intro gb374 hg w48 hbox hb;have n0_:=Aside0.mk (Kd.R_below (by (with_reducible repeat (first|apply Kd.R_alloc|apply Kd.R_drewN|apply Kd.R_drew));exact HO354.out) hb);have n1_:=Aside0.mk (Kd.R_below (by (with_reducible repeat (first|apply Kd.R_alloc|apply Kd.R_drewN|apply Kd.R_drew));exact HO358.out) hb);have n2_:=Aside0.mk (Kd.R_below (by (with_reducible repeat (first|apply Kd.R_alloc|apply Kd.R_drewN|apply Kd.R_drew));exact HO362.out) hb);have n3_:=Aside0.mk (Kd.R_below (by (with_reducible repeat (first|apply Kd.R_alloc|apply Kd.R_drewN|apply Kd.R_drew));exact HO368.out) hb);have n4_:=Aside0.mk (Kd.R_below (by (with_reducible repeat (first|apply Kd.R_alloc|apply Kd.R_drewN|apply Kd.R_drew));exact HO373.out) hb);have n5_:=Aside0.mk (blk_below (g:=gb347) (o:=.cells #[.int .i64 a0_0,.slice A0_1 l0_1.length c0_1] 26 (0,0)) (by (with_reducible repeat (first|refine blk_drewN ?_ _|refine blk_drew ?_|refine blk_alloc ?_ _));exact BK347.out) hb);have n6_:=Aside0.mk (blk_below (g:=gb348) (o:=.cells #[.int .i64 a1_0,.slice A1_1 l1_1.length c1_1] 26 (0,0)) (by (with_reducible repeat (first|refine blk_drewN ?_ _|refine blk_drew ?_|refine blk_alloc ?_ _));exact BK348.out) hb);have n7_:=Aside0.mk (blk_below (g:=gb364) (o:=.cells #[.int .i64 t359,.slice Ao33 t360.length co33] 28 (0,0)) (by (with_reducible repeat (first|refine blk_drewN ?_ _|refine blk_drew ?_|refine blk_alloc ?_ _));exact BK364.out) hb);have n8_:=Aside0.mk (blk_below (g:=gb369) (o:=.cells #[.int .i64 t365,.slice Ao44 t366.length co44] 28 (0,0)) (by (with_reducible repeat (first|refine blk_drewN ?_ _|refine blk_drew ?_|refine blk_alloc ?_ _));exact BK369.out) hb);have n9_:=Aside0.mk (below_step (by repeat (first|(with_reducible first|exact HB.out|apply below_alloc|apply pw_below_drewN|apply below_drew1|refine below_set ?_ GE347.out|refine below_set ?_ GE348.out|refine below_set ?_ GE364.out|refine below_set ?_ GE369.out)|exact HB.out)) hb);have n10_:=Aside0.mk (hbox);have n11_:=Aside0.mk ((by rw [hg];exact (below_size (by repeat (first|(with_reducible first|exact HB.out|apply below_alloc|apply pw_below_drewN|apply below_drew1|refine below_set ?_ GE347.out|refine below_set ?_ GE348.out|refine below_set ?_ GE364.out|refine below_set ?_ GE369.out)|exact HB.out))) : w.heap.size ≤ gb374));have n12_:=Aside0.mk ((by rw [hg];exact (below_size (by repeat (first|(with_reducible first|exact HB.out|apply below_alloc|apply pw_below_drewN|apply below_drew1|refine below_set ?_ GE347.out|refine below_set ?_ GE348.out|refine below_set ?_ GE364.out|refine below_set ?_ GE369.out)|exact HB.out))) : w.heap.size ≤ gb374));have n13_:=Aside0.mk ((by rw [hg];exact Nat.ne_of_lt (blk_lt (g:=gb347) (o:=.cells #[.int .i64 a0_0,.slice A0_1 l0_1.length c0_1] 26 (0,0)) (by (with_reducible repeat (first|refine blk_drewN ?_ _|refine blk_drew ?_|refine blk_alloc ?_ _));exact BK347.out)) : gb347 ≠ gb374));have n14_:=Aside0.mk ((by rw [hg];exact Nat.ne_of_gt (blk_lt (g:=gb347) (o:=.cells #[.int .i64 a0_0,.slice A0_1 l0_1.length c0_1] 26 (0,0)) (by (with_reducible repeat (first|refine blk_drewN ?_ _|refine blk_drew ?_|refine blk_alloc ?_ _));exact BK347.out)) : gb374 ≠ gb347));have n15_:=Aside0.mk ((by rw [hg];exact Nat.ne_of_lt (blk_lt (g:=gb348) (o:=.cells #[.int .i64 a1_0,.slice A1_1 l1_1.length c1_1] 26 (0,0)) (by (with_reducible repeat (first|refine blk_drewN ?_ _|refine blk_drew ?_|refine blk_alloc ?_ _));exact BK348.out)) : gb348 ≠ gb374));have n16_:=Aside0.mk ((by rw [hg];exact Nat.ne_of_gt (blk_lt (g:=gb348) (o:=.cells #[.int .i64 a1_0,.slice A1_1 l1_1.length c1_1] 26 (0,0)) (by (with_reducible repeat (first|refine blk_drewN ?_ _|refine blk_drew ?_|refine blk_alloc ?_ _));exact BK348.out)) : gb374 ≠ gb348));have n17_:=Aside0.mk ((by rw [hg];exact Nat.ne_of_lt (blk_lt (g:=gb364) (o:=.cells #[.int .i64 t359,.slice Ao33 t360.length co33] 28 (0,0)) (by (with_reducible repeat (first|refine blk_drewN ?_ _|refine blk_drew ?_|refine blk_alloc ?_ _));exact BK364.out)) : gb364 ≠ gb374));have n18_:=Aside0.mk ((by rw [hg];exact Nat.ne_of_gt (blk_lt (g:=gb364) (o:=.cells #[.int .i64 t359,.slice Ao33 t360.length co33] 28 (0,0)) (by (with_reducible repeat (first|refine blk_drewN ?_ _|refine blk_drew ?_|refine blk_alloc ?_ _));exact BK364.out)) : gb374 ≠ gb364));have n19_:=Aside0.mk ((by rw [hg];exact Nat.ne_of_lt (blk_lt (g:=gb369) (o:=.cells #[.int .i64 t365,.slice Ao44 t366.length co44] 28 (0,0)) (by (with_reducible repeat (first|refine blk_drewN ?_ _|refine blk_drew ?_|refine blk_alloc ?_ _));exact BK369.out)) : gb369 ≠ gb374));have n20_:=Aside0.mk ((by rw [hg];exact Nat.ne_of_gt (blk_lt (g:=gb369) (o:=.cells #[.int .i64 t365,.slice Ao44 t366.length co44] 28 (0,0)) (by (with_reducible repeat (first|refine blk_drewN ?_ _|refine blk_drew ?_|refine blk_alloc ?_ _));exact BK369.out)) : gb374 ≠ gb369));clear HO354;clear HO358;clear HO362;clear HO368;clear HO373;clear BK347;clear BK348;clear BK364;clear BK369;clear HB;have HO354:=n0_;have HO358:=n1_;have HO362:=n2_;have HO368:=n3_;have HO373:=n4_;have BK347:=n5_;have BK348:=n6_;have BK364:=n7_;have BK369:=n8_;have HB:=n9_;have BK374:=n10_;have GW374:=n11_;have GE374:=n12_;have NB347_374:=n13_;have NB374_347:=n14_;have NB348_374:=n15_;have NB374_348:=n16_;have NB364_374:=n17_;have NB374_364:=n18_;have NB369_374:=n19_;have NB374_369:=n20_;clear n0_ n1_ n2_ n3_ n4_ n5_ n6_ n7_ n8_ n9_ n10_ n11_ n12_ n13_ n14_ n15_ n16_ n17_ n18_ n19_ n20_;clear hb hbox hg;have hnb49:=NB374_347.out;have hnc49:=NB347_374.out;have hnb50:=NB374_348.out;have hnc50:=NB348_374.out;have hnb51:=NB374_364.out;have hnc51:=NB364_374.out;have hnb52:=NB374_369.out;have hnc52:=NB369_374.out;have hcz53_0 : w48.cell? ⟨gb374,0,none⟩ = some (.int .i64 0):=(blk_cell BK374.out 0).trans rfl;have hcz53_1 : w48.cell? ⟨gb374,1,none⟩ = some (.slice none 0 0):=(blk_cell BK374.out 1).trans rfl;have hfz53_0:=blk_frozen BK374.out 0;have hfz53_1:=blk_frozen BK374.out 1;obtain ⟨Ao54,co54,eo54⟩:=Kd.R_slice HO373.out;subst eo54;have hcz55_0 : w48.cell? ⟨gb369,0,none⟩ = some (.int .i64 t365):=(blk_cell BK369.out 0).trans rfl;have hcz55_1 : w48.cell? ⟨gb369,1,none⟩ = some (.slice Ao44 t366.length co44):=(blk_cell BK369.out 1).trans rfl;have hfz55_0:=blk_frozen BK369.out 0;have hfz55_1:=blk_frozen BK369.out 1)|((with_reducible refine gate_callee (f:=27) rfl ?_);refine goesL_ (some 42) rfl rfl Try.func27 (by kernel_rfl) rfl #[.agg #[.int .i64 t365,.slice Ao44 t366.length co44],.agg #[.int .i64 t370,.slice Ao54 t371.length co54]] rfl (by (try simp only [List.map_toArray,List.map_cons,List.map_nil]);first|done|rfl|(simp only [List.length_drop,List.length_take];rfl)) ?_;(with_reducible refine (impl_MulGrades.calls kj11 t365 _ _ t366 t370 _ _ t371 t375 t376 t379 _ ?side1 ?side2 ?side3 ?side4 A22.out).mono ?_);(case side1 => refine (Kd.R_reads' (e:=3) (base:=w.heap.size) (ok:=fun k_ => ((((True ∧ some k_ ≠ (v353 : Value).ownBlock) ∧ some k_ ≠ (v357 : Value).ownBlock) ∧ some k_ ≠ (.slice Ao33 t360.length co33 : Value).ownBlock) ∧ some k_ ≠ (.slice Ao54 t371.length co54 : Value).ownBlock)) (n:=t366.length) (c:=co44) ?_).2.2;exact (by (with_reducible repeat (first|apply Kd.R_alloc|apply Kd.R_drewN|apply Kd.R_drew));exact (Kd.R_mono (Kd.R_far (p:=⟨gb374,1,none⟩) (Kd.R_far (p:=⟨gb374,0,none⟩) (Kd.R_types HO368.out BK374.out (by decide)) (fun _ hk => hk.2) (.int .i64 t370)) (fun _ hk => hk.2) (.slice Ao54 t371.length co54)) (fun _ h_ => h_.1))));(case side2 => exact (Kd.R_reads' HO368.out).2.1);(case side3 => refine (Kd.R_reads' (e:=3) (base:=w.heap.size) (ok:=fun k_ => ((((True ∧ some k_ ≠ (v353 : Value).ownBlock) ∧ some k_ ≠ (v357 : Value).ownBlock) ∧ some k_ ≠ (.slice Ao33 t360.length co33 : Value).ownBlock) ∧ some k_ ≠ (.slice Ao44 t366.length co44 : Value).ownBlock)) (n:=t371.length) (c:=co54) ?_).2.2;exact (by (with_reducible repeat (first|apply Kd.R_alloc|apply Kd.R_drewN|apply Kd.R_drew));exact (Kd.R_mono (Kd.R_far (p:=⟨gb374,1,none⟩) (Kd.R_far (p:=⟨gb374,0,none⟩) (Kd.R_types HO373.out BK374.out (by decide)) (fun _ hk => hk.2) (.int .i64 t370)) (fun _ hk => hk.2) (.slice Ao54 t371.length co54)) (fun _ h_ => h_.1))));(case side4 => exact (Kd.R_reads' HO373.out).2.1);rintro e w56 ⟨v377,rfl,ho0,hb⟩;refine ⟨_,rfl,?_⟩;have n0_:=Aside0.mk (Kd.R_elder' (by (with_reducible repeat (first|apply Kd.R_alloc|apply Kd.R_drewN|apply Kd.R_drew));exact (Kd.R_mono (Kd.R_far (p:=⟨gb374,1,none⟩) (Kd.R_far (p:=⟨gb374,0,none⟩) (Kd.R_types HO354.out BK374.out (by decide)) (fun _ hk => hk.2) (.int .i64 t370)) (fun _ hk => hk.2) (.slice Ao54 t371.length co54)) (fun _ h_ => h_.1))) (Kd.R_base ho0) hb);have n1_:=Aside0.mk (Kd.R_elder' (by (with_reducible repeat (first|apply Kd.R_alloc|apply Kd.R_drewN|apply Kd.R_drew));exact (Kd.R_mono (Kd.R_far (p:=⟨gb374,1,none⟩) (Kd.R_far (p:=⟨gb374,0,none⟩) (Kd.R_types HO358.out BK374.out (by decide)) (fun _ hk => hk.2) (.int .i64 t370)) (fun _ hk => hk.2) (.slice Ao54 t371.length co54)) (fun _ h_ => h_.1))) (Kd.R_base ho0) hb);have n2_:=Aside0.mk (Kd.R_elder' (by (with_reducible repeat (first|apply Kd.R_alloc|apply Kd.R_drewN|apply Kd.R_drew));exact (Kd.R_mono (Kd.R_far (p:=⟨gb374,1,none⟩) (Kd.R_far (p:=⟨gb374,0,none⟩) (Kd.R_types HO362.out BK374.out (by decide)) (fun _ hk => hk.2) (.int .i64 t370)) (fun _ hk => hk.2) (.slice Ao54 t371.length co54)) (fun _ h_ => h_.1))) (Kd.R_base ho0) hb);have n3_:=Aside0.mk (Kd.R_elder' (by (with_reducible repeat (first|apply Kd.R_alloc|apply Kd.R_drewN|apply Kd.R_drew));exact (Kd.R_mono (Kd.R_far (p:=⟨gb374,1,none⟩) (Kd.R_far (p:=⟨gb374,0,none⟩) (Kd.R_types HO368.out BK374.out (by decide)) (fun _ hk => hk.2) (.int .i64 t370)) (fun _ hk => hk.2) (.slice Ao54 t371.length co54)) (fun _ h_ => h_.1))) (Kd.R_base ho0) hb);have n4_:=Aside0.mk (Kd.R_elder' (by (with_reducible repeat (first|apply Kd.R_alloc|apply Kd.R_drewN|apply Kd.R_drew));exact (Kd.R_mono (Kd.R_far (p:=⟨gb374,1,none⟩) (Kd.R_far (p:=⟨gb374,0,none⟩) (Kd.R_types HO373.out BK374.out (by decide)) (fun _ hk => hk.2) (.int .i64 t370)) (fun _ hk => hk.2) (.slice Ao54 t371.length co54)) (fun _ h_ => h_.1))) (Kd.R_base ho0) hb);have n5_:=Aside0.mk (Kd.R_lower (Kd.R_new' (Kd.R_new' (Kd.R_new' (Kd.R_new' (Kd.R_new' ho0 (Kd.R_lt (by (with_reducible repeat (first|apply Kd.R_alloc|apply Kd.R_drewN|apply Kd.R_drew));exact (Kd.R_mono (Kd.R_far (p:=⟨gb374,1,none⟩) (Kd.R_far (p:=⟨gb374,0,none⟩) (Kd.R_types HO354.out BK374.out (by decide)) (fun _ hk => hk.2) (.int .i64 t370)) (fun _ hk => hk.2) (.slice Ao54 t371.length co54)) (fun _ h_ => h_.1))))) (Kd.R_lt (by (with_reducible repeat (first|apply Kd.R_alloc|apply Kd.R_drewN|apply Kd.R_drew));exact (Kd.R_mono (Kd.R_far (p:=⟨gb374,1,none⟩) (Kd.R_far (p:=⟨gb374,0,none⟩) (Kd.R_types HO358.out BK374.out (by decide)) (fun _ hk => hk.2) (.int .i64 t370)) (fun _ hk => hk.2) (.slice Ao54 t371.length co54)) (fun _ h_ => h_.1))))) (Kd.R_lt (by (with_reducible repeat (first|apply Kd.R_alloc|apply Kd.R_drewN|apply Kd.R_drew));exact (Kd.R_mono (Kd.R_far (p:=⟨gb374,1,none⟩) (Kd.R_far (p:=⟨gb374,0,none⟩) (Kd.R_types HO362.out BK374.out (by decide)) (fun _ hk => hk.2) (.int .i64 t370)) (fun _ hk => hk.2) (.slice Ao54 t371.length co54)) (fun _ h_ => h_.1))))) (Kd.R_lt (by (with_reducible repeat (first|apply Kd.R_alloc|apply Kd.R_drewN|apply Kd.R_drew));exact (Kd.R_mono (Kd.R_far (p:=⟨gb374,1,none⟩) (Kd.R_far (p:=⟨gb374,0,none⟩) (Kd.R_types HO368.out BK374.out (by decide)) (fun _ hk => hk.2) (.int .i64 t370)) (fun _ hk => hk.2) (.slice Ao54 t371.length co54)) (fun _ h_ => h_.1))))) (Kd.R_lt (by (with_reducible repeat (first|apply Kd.R_alloc|apply Kd.R_drewN|apply Kd.R_drew));exact (Kd.R_mono (Kd.R_far (p:=⟨gb374,1,none⟩) (Kd.R_far (p:=⟨gb374,0,none⟩) (Kd.R_types HO373.out BK374.out (by decide)) (fun _ hk => hk.2) (.int .i64 t370)) (fun _ hk => hk.2) (.slice Ao54 t371.length co54)) (fun _ h_ => h_.1))))) (below_size (by repeat (first|(with_reducible first|exact HB.out|apply below_alloc|apply pw_below_drewN|apply below_drew1|refine below_set ?_ GE347.out|refine below_set ?_ GE348.out|refine below_set ?_ GE364.out|refine below_set ?_ GE369.out|refine below_set ?_ GE374.out)|exact HB.out))));have n6_:=Aside0.mk (blk_below (g:=gb347) (o:=.cells #[.int .i64 a0_0,.slice A0_1 l0_1.length c0_1] 26 (0,0)) (by (with_reducible repeat (first|refine blk_drewN ?_ _|refine blk_drew ?_|refine blk_alloc ?_ _));refine blk_far ?_ NB347_374.out _;(with_reducible repeat (first|refine blk_drewN ?_ _|refine blk_drew ?_|refine blk_alloc ?_ _));refine blk_far ?_ NB347_374.out _;(with_reducible repeat (first|refine blk_drewN ?_ _|refine blk_drew ?_|refine blk_alloc ?_ _));exact BK347.out) hb);have n7_:=Aside0.mk (blk_below (g:=gb348) (o:=.cells #[.int .i64 a1_0,.slice A1_1 l1_1.length c1_1] 26 (0,0)) (by (with_reducible repeat (first|refine blk_drewN ?_ _|refine blk_drew ?_|refine blk_alloc ?_ _));refine blk_far ?_ NB348_374.out _;(with_reducible repeat (first|refine blk_drewN ?_ _|refine blk_drew ?_|refine blk_alloc ?_ _));refine blk_far ?_ NB348_374.out _;(with_reducible repeat (first|refine blk_drewN ?_ _|refine blk_drew ?_|refine blk_alloc ?_ _));exact BK348.out) hb);have n8_:=Aside0.mk (blk_below (g:=gb364) (o:=.cells #[.int .i64 t359,.slice Ao33 t360.length co33] 28 (0,0)) (by (with_reducible repeat (first|refine blk_drewN ?_ _|refine blk_drew ?_|refine blk_alloc ?_ _));refine blk_far ?_ NB364_374.out _;(with_reducible repeat (first|refine blk_drewN ?_ _|refine blk_drew ?_|refine blk_alloc ?_ _));refine blk_far ?_ NB364_374.out _;(with_reducible repeat (first|refine blk_drewN ?_ _|refine blk_drew ?_|refine blk_alloc ?_ _));exact BK364.out) hb);have n9_:=Aside0.mk (blk_below (g:=gb369) (o:=.cells #[.int .i64 t365,.slice Ao44 t366.length co44] 28 (0,0)) (by (with_reducible repeat (first|refine blk_drewN ?_ _|refine blk_drew ?_|refine blk_alloc ?_ _));refine blk_far ?_ NB369_374.out _;(with_reducible repeat (first|refine blk_drewN ?_ _|refine blk_drew ?_|refine blk_alloc ?_ _));refine blk_far ?_ NB369_374.out _;(with_reducible repeat (first|refine blk_drewN ?_ _|refine blk_drew ?_|refine blk_alloc ?_ _));exact BK369.out) hb);have n10_:=Aside0.mk (blk_below (g:=gb374) (o:=.cells #[.int .i64 t370,.slice Ao54 t371.length co54] 28 (0,0)) (by (with_reducible repeat (first|refine blk_drewN ?_ _|refine blk_drew ?_|refine blk_alloc ?_ _));refine blk_put (cs:=#[.int .i64 t370,.slice none 0 0]) ?_ 1 _ rfl;(with_reducible repeat (first|refine blk_drewN ?_ _|refine blk_drew ?_|refine blk_alloc ?_ _));refine blk_put (cs:=#[.int .i64 0,.slice none 0 0]) ?_ 0 _ rfl;(with_reducible repeat (first|refine blk_drewN ?_ _|refine blk_drew ?_|refine blk_alloc ?_ _));exact BK374.out) hb);have n11_:=Aside0.mk (below_step (by repeat (first|(with_reducible first|exact HB.out|apply below_alloc|apply pw_below_drewN|apply below_drew1|refine below_set ?_ GE347.out|refine below_set ?_ GE348.out|refine below_set ?_ GE364.out|refine below_set ?_ GE369.out|refine below_set ?_ GE374.out)|exact HB.out)) hb);clear HO354;clear HO358;clear HO362;clear HO368;clear HO373;clear BK347;clear BK348;clear BK364;clear BK369;clear BK374;clear HB;have HO354:=n0_;have HO358:=n1_;have HO362:=n2_;have HO368:=n3_;have HO373:=n4_;have HO378:=n5_;have BK347:=n6_;have BK348:=n7_;have BK364:=n8_;have BK369:=n9_;have BK374:=n10_;have HB:=n11_;clear n0_ n1_ n2_ n3_ n4_ n5_ n6_ n7_ n8_ n9_ n10_ n11_;(try clear hb);(try clear hb2);(try clear hk);(try clear hi);(try clear ho0))|((with_reducible refine gate_dst (N:=10) rfl ?_);refine box_event ?hg (N:=10) ?hd (cs:=#[.int .i64 0,.slice none 0 0]) (t:=28) ?hr ?_;(case hd => rfl);(case hg => rfl);(case hr => first|(go_simp;done)|(go_simp;rfl));intro gb380 hg w57 hbox hb;have n0_:=Aside0.mk (Kd.R_below (by (with_reducible repeat (first|apply Kd.R_alloc|apply Kd.R_drewN|apply Kd.R_drew));exact HO354.out) hb);have n1_:=Aside0.mk (Kd.R_below (by (with_reducible repeat (first|apply Kd.R_alloc|apply Kd.R_drewN|apply Kd.R_drew));exact HO358.out) hb);have n2_:=Aside0.mk (Kd.R_below (by (with_reducible repeat (first|apply Kd.R_alloc|apply Kd.R_drewN|apply Kd.R_drew));exact HO362.out) hb);have n3_:=Aside0.mk (Kd.R_below (by (with_reducible repeat (first|apply Kd.R_alloc|apply Kd.R_drewN|apply Kd.R_drew));exact HO368.out) hb);have n4_:=Aside0.mk (Kd.R_below (by (with_reducible repeat (first|apply Kd.R_alloc|apply Kd.R_drewN|apply Kd.R_drew));exact HO373.out) hb);have n5_:=Aside0.mk (Kd.R_below (by (with_reducible repeat (first|apply Kd.R_alloc|apply Kd.R_drewN|apply Kd.R_drew));exact HO378.out) hb);have n6_:=Aside0.mk (blk_below (g:=gb347) (o:=.cells #[.int .i64 a0_0,.slice A0_1 l0_1.length c0_1] 26 (0,0)) (by (with_reducible repeat (first|refine blk_drewN ?_ _|refine blk_drew ?_|refine blk_alloc ?_ _));exact BK347.out) hb);have n7_:=Aside0.mk (blk_below (g:=gb348) (o:=.cells #[.int .i64 a1_0,.slice A1_1 l1_1.length c1_1] 26 (0,0)) (by (with_reducible repeat (first|refine blk_drewN ?_ _|refine blk_drew ?_|refine blk_alloc ?_ _));exact BK348.out) hb);have n8_:=Aside0.mk (blk_below (g:=gb364) (o:=.cells #[.int .i64 t359,.slice Ao33 t360.length co33] 28 (0,0)) (by (with_reducible repeat (first|refine blk_drewN ?_ _|refine blk_drew ?_|refine blk_alloc ?_ _));exact BK364.out) hb);have n9_:=Aside0.mk (blk_below (g:=gb369) (o:=.cells #[.int .i64 t365,.slice Ao44 t366.length co44] 28 (0,0)) (by (with_reducible repeat (first|refine blk_drewN ?_ _|refine blk_drew ?_|refine blk_alloc ?_ _));exact BK369.out) hb);have n10_:=Aside0.mk (blk_below (g:=gb374) (o:=.cells #[.int .i64 t370,.slice Ao54 t371.length co54] 28 (0,0)) (by (with_reducible repeat (first|refine blk_drewN ?_ _|refine blk_drew ?_|refine blk_alloc ?_ _));exact BK374.out) hb);have n11_:=Aside0.mk (below_step (by repeat (first|(with_reducible first|exact HB.out|apply below_alloc|apply pw_below_drewN|apply below_drew1|refine below_set ?_ GE347.out|refine below_set ?_ GE348.out|refine below_set ?_ GE364.out|refine below_set ?_ GE369.out|refine below_set ?_ GE374.out)|exact HB.out)) hb);have n12_:=Aside0.mk (hbox);have n13_:=Aside0.mk ((by rw [hg];exact (below_size (by repeat (first|(with_reducible first|exact HB.out|apply below_alloc|apply pw_below_drewN|apply below_drew1|refine below_set ?_ GE347.out|refine below_set ?_ GE348.out|refine below_set ?_ GE364.out|refine below_set ?_ GE369.out|refine below_set ?_ GE374.out)|exact HB.out))) : w.heap.size ≤ gb380));have n14_:=Aside0.mk ((by rw [hg];exact (below_size (by repeat (first|(with_reducible first|exact HB.out|apply below_alloc|apply pw_below_drewN|apply below_drew1|refine below_set ?_ GE347.out|refine below_set ?_ GE348.out|refine below_set ?_ GE364.out|refine below_set ?_ GE369.out|refine below_set ?_ GE374.out)|exact HB.out))) : w.heap.size ≤ gb380));have n15_:=Aside0.mk ((by rw [hg];exact Nat.ne_of_lt (blk_lt (g:=gb347) (o:=.cells #[.int .i64 a0_0,.slice A0_1 l0_1.length c0_1] 26 (0,0)) (by (with_reducible repeat (first|refine blk_drewN ?_ _|refine blk_drew ?_|refine blk_alloc ?_ _));exact BK347.out)) : gb347 ≠ gb380));have n16_:=Aside0.mk ((by rw [hg];exact Nat.ne_of_gt (blk_lt (g:=gb347) (o:=.cells #[.int .i64 a0_0,.slice A0_1 l0_1.length c0_1] 26 (0,0)) (by (with_reducible repeat (first|refine blk_drewN ?_ _|refine blk_drew ?_|refine blk_alloc ?_ _));exact BK347.out)) : gb380 ≠ gb347));have n17_:=Aside0.mk ((by rw [hg];exact Nat.ne_of_lt (blk_lt (g:=gb348) (o:=.cells #[.int .i64 a1_0,.slice A1_1 l1_1.length c1_1] 26 (0,0)) (by (with_reducible repeat (first|refine blk_drewN ?_ _|refine blk_drew ?_|refine blk_alloc ?_ _));exact BK348.out)) : gb348 ≠ gb380));have n18_:=Aside0.mk ((by rw [hg];exact Nat.ne_of_gt (blk_lt (g:=gb348) (o:=.cells #[.int .i64 a1_0,.slice A1_1 l1_1.length c1_1] 26 (0,0)) (by (with_reducible repeat (first|refine blk_drewN ?_ _|refine blk_drew ?_|refine blk_alloc ?_ _));exact BK348.out)) : gb380 ≠ gb348));have n19_:=Aside0.mk ((by rw [hg];exact Nat.ne_of_lt (blk_lt (g:=gb364) (o:=.cells #[.int .i64 t359,.slice Ao33 t360.length co33] 28 (0,0)) (by (with_reducible repeat (first|refine blk_drewN ?_ _|refine blk_drew ?_|refine blk_alloc ?_ _));exact BK364.out)) : gb364 ≠ gb380));have n20_:=Aside0.mk ((by rw [hg];exact Nat.ne_of_gt (blk_lt (g:=gb364) (o:=.cells #[.int .i64 t359,.slice Ao33 t360.length co33] 28 (0,0)) (by (with_reducible repeat (first|refine blk_drewN ?_ _|refine blk_drew ?_|refine blk_alloc ?_ _));exact BK364.out)) : gb380 ≠ gb364));have n21_:=Aside0.mk ((by rw [hg];exact Nat.ne_of_lt (blk_lt (g:=gb369) (o:=.cells #[.int .i64 t365,.slice Ao44 t366.length co44] 28 (0,0)) (by (with_reducible repeat (first|refine blk_drewN ?_ _|refine blk_drew ?_|refine blk_alloc ?_ _));exact BK369.out)) : gb369 ≠ gb380));have n22_:=Aside0.mk ((by rw [hg];exact Nat.ne_of_gt (blk_lt (g:=gb369) (o:=.cells #[.int .i64 t365,.slice Ao44 t366.length co44] 28 (0,0)) (by (with_reducible repeat (first|refine blk_drewN ?_ _|refine blk_drew ?_|refine blk_alloc ?_ _));exact BK369.out)) : gb380 ≠ gb369));have n23_:=Aside0.mk ((by rw [hg];exact Nat.ne_of_lt (blk_lt (g:=gb374) (o:=.cells #[.int .i64 t370,.slice Ao54 t371.length co54] 28 (0,0)) (by (with_reducible repeat (first|refine blk_drewN ?_ _|refine blk_drew ?_|refine blk_alloc ?_ _));exact BK374.out)) : gb374 ≠ gb380));have n24_:=Aside0.mk ((by rw [hg];exact Nat.ne_of_gt (blk_lt (g:=gb374) (o:=.cells #[.int .i64 t370,.slice Ao54 t371.length co54] 28 (0,0)) (by (with_reducible repeat (first|refine blk_drewN ?_ _|refine blk_drew ?_|refine blk_alloc ?_ _));exact BK374.out)) : gb380 ≠ gb374));clear HO354;clear HO358;clear HO362;clear HO368;clear HO373;clear HO378;clear BK347;clear BK348;clear BK364;clear BK369;clear BK374;clear HB;have HO354:=n0_;have HO358:=n1_;have HO362:=n2_;have HO368:=n3_;have HO373:=n4_;have HO378:=n5_;have BK347:=n6_;have BK348:=n7_;have BK364:=n8_;have BK369:=n9_;have BK374:=n10_;have HB:=n11_;have BK380:=n12_;have GW380:=n13_;have GE380:=n14_;have NB347_380:=n15_;have NB380_347:=n16_;have NB348_380:=n17_;have NB380_348:=n18_;have NB364_380:=n19_;have NB380_364:=n20_;have NB369_380:=n21_;have NB380_369:=n22_;have NB374_380:=n23_;have NB380_374:=n24_;clear n0_ n1_ n2_ n3_ n4_ n5_ n6_ n7_ n8_ n9_ n10_ n11_ n12_ n13_ n14_ n15_ n16_ n17_ n18_ n19_ n20_ n21_ n22_ n23_ n24_;clear hb hbox hg;have hnb58:=NB380_347.out;have hnc58:=NB347_380.out;have hnb59:=NB380_348.out;have hnc59:=NB348_380.out;have hnb60:=NB380_364.out;have hnc60:=NB364_380.out;have hnb61:=NB380_369.out;have hnc61:=NB369_380.out;have hnb62:=NB380_374.out;have hnc62:=NB374_380.out;have hcz63_0 : w57.cell? ⟨gb380,0,none⟩ = some (.int .i64 0):=(blk_cell BK380.out 0).trans rfl;have hcz63_1 : w57.cell? ⟨gb380,1,none⟩ = some (.slice none 0 0):=(blk_cell BK380.out 1).trans rfl;have hfz63_0:=blk_frozen BK380.out 0;have hfz63_1:=blk_frozen BK380.out 1;obtain ⟨Ao64,co64,eo64⟩:=Kd.R_slice HO378.out;subst eo64))
     (try simp only [Act.put,List.setIfInBounds_toArray,List.set_cons_zero,List.set_cons_succ])
     go_cut [53] (fun v53 wc => ∃ (kq : Nat) (x53_22 : Bool),v53 = .bool x53_22 ∧ Aside0 (laws_FnExactMulGrades.j2 kq t363 t379 x53_22 a0_0 l0_1 a1_0 l1_1 t359 t360 t365 t366 t370 t371 t375 t376 = some r) ∧ Aside0 (kq ≤ kj11) ∧ Aside0 (Kd.R (Kd.int .i64) 3 wc w.heap.size (fun k_ => some k_ ≠ ((.slice Ao44 t366.length co44) : Value).ownBlock ∧ some k_ ≠ ((.slice Ao54 t371.length co54) : Value).ownBlock ∧ some k_ ≠ ((.slice Ao64 t376.length co64) : Value).ownBlock) (.slice Ao33 t360.length co33) t360) ∧ Aside0 (Kd.R (Kd.int .i64) 3 wc w.heap.size (fun k_ => some k_ ≠ ((.slice Ao33 t360.length co33) : Value).ownBlock ∧ some k_ ≠ ((.slice Ao54 t371.length co54) : Value).ownBlock ∧ some k_ ≠ ((.slice Ao64 t376.length co64) : Value).ownBlock) (.slice Ao44 t366.length co44) t366) ∧ Aside0 (Kd.R (Kd.int .i64) 3 wc w.heap.size (fun k_ => some k_ ≠ ((.slice Ao33 t360.length co33) : Value).ownBlock ∧ some k_ ≠ ((.slice Ao44 t366.length co44) : Value).ownBlock ∧ some k_ ≠ ((.slice Ao64 t376.length co64) : Value).ownBlock) (.slice Ao54 t371.length co54) t371) ∧ Aside0 (Kd.R (Kd.int .i64) 3 wc w.heap.size (fun k_ => some k_ ≠ ((.slice Ao33 t360.length co33) : Value).ownBlock ∧ some k_ ≠ ((.slice Ao44 t366.length co44) : Value).ownBlock ∧ some k_ ≠ ((.slice Ao54 t371.length co54) : Value).ownBlock) (.slice Ao64 t376.length co64) t376) ∧ Aside0 (wc.heap[gb347]? = some (.cells #[.int .i64 a0_0,(.slice A0_1 l0_1.length c0_1)] 26 (0,0))) ∧ Aside0 (wc.heap[gb348]? = some (.cells #[.int .i64 a1_0,(.slice A1_1 l1_1.length c1_1)] 26 (0,0))) ∧ Aside0 (wc.heap[gb364]? = some (.cells #[.int .i64 t359,(.slice Ao33 t360.length co33)] 28 (0,0))) ∧ Aside0 (wc.heap[gb369]? = some (.cells #[.int .i64 t365,(.slice Ao44 t366.length co44)] 28 (0,0))) ∧ Aside0 (wc.heap[gb374]? = some (.cells #[.int .i64 t370,(.slice Ao54 t371.length co54)] 28 (0,0))) ∧ Aside0 (wc.heap[gb380]? = some (.cells #[.int .i64 t375,(.slice Ao64 t376.length co64)] 28 (0,0))) ∧ Aside0 (Below w.heap.size w wc))
     case first =>
      have H:=HC23.out
      clear HC23
      replace H:=Option.bind_eq_some_iff.mp H
      obtain ⟨t381,A650,H⟩:=H
      replace H : (if t381 = true then (laws_FnExactMulGrades.j2 kj11 t363 t379 (t379 != t363) a0_0 l0_1 a1_0 l1_1 t359 t360 t365 t366 t370 t371 t375 t376) else (laws_FnExactMulGrades.j2 kj11 t363 t379 true a0_0 l0_1 a1_0 l1_1 t359 t360 t365 t366 t370 t371 t375 t376)) = some r:=H
      have A65:=Aside0.mk A650
      clear A650
      by_cases c66 : t381 = true
      ·subst c66
       have H1 : (laws_FnExactMulGrades.j2 kj11 t363 t379 (t379 != t363) a0_0 l0_1 a1_0 l1_1 t359 t360 t365 t366 t370 t371 t375 t376) = some r:=by rw [if_pos rfl] at H;exact H
       clear H
       have H:=H1
       clear H1
       have H':=Aside0.mk H
       clear H
       have hnb67:=NB380_347.out
       have hnc67:=NB347_380.out
       have hnb68:=NB380_348.out
       have hnc68:=NB348_380.out
       have hnb69:=NB380_364.out
       have hnc69:=NB364_380.out
       have hnb70:=NB380_369.out
       have hnc70:=NB369_380.out
       have hnb71:=NB380_374.out
       have hnc71:=NB374_380.out
       have hcz72_0 : w57.cell? ⟨gb380,0,none⟩ = some (.int .i64 0):=(blk_cell BK380.out 0).trans rfl
       have hcz72_1 : w57.cell? ⟨gb380,1,none⟩ = some (.slice none 0 0):=(blk_cell BK380.out 1).trans rfl
       have hfz72_0:=blk_frozen BK380.out 0
       have hfz72_1:=blk_frozen BK380.out 1
       have hnb73:=NB364_347.out
       have hnc73:=NB347_364.out
       have hnb74:=NB364_348.out
       have hnc74:=NB348_364.out
       have hnb75:=NB364_369.out
       have hnc75:=NB369_364.out
       have hnb76:=NB364_374.out
       have hnc76:=NB374_364.out
       have hcz77_0 : w57.cell? ⟨gb364,0,none⟩ = some (.int .i64 t359):=(blk_cell BK364.out 0).trans rfl
       have hcz77_1 : w57.cell? ⟨gb364,1,none⟩ = some (.slice Ao33 t360.length co33):=(blk_cell BK364.out 1).trans rfl
       have hfz77_0:=blk_frozen BK364.out 0
       have hfz77_1:=blk_frozen BK364.out 1
       go_wp2_with (first|((with_reducible refine gate_callee (f:=21) rfl ?_);refine goesL_ (some 47) rfl rfl Try.func21 (by kernel_rfl) rfl #[.agg #[.int .i64 t375,.slice Ao64 t376.length co64],.agg #[.int .i64 t359,.slice Ao33 t360.length co33]] rfl (by (try simp only [List.map_toArray,List.map_cons,List.map_nil]);first|done|rfl|(simp only [List.length_drop,List.length_take];rfl)) ?_;(with_reducible refine (laws_eqMatrix.calls kj11 t375 _ _ t376 t359 _ _ t360 true _ ?side1 ?side2 ?side3 ?side4 A65.out).mono ?_);(case side1 => refine (Kd.R_reads' (e:=3) (base:=w.heap.size) (ok:=fun k_ => (((((True ∧ some k_ ≠ (v353 : Value).ownBlock) ∧ some k_ ≠ (v357 : Value).ownBlock) ∧ some k_ ≠ (.slice Ao33 t360.length co33 : Value).ownBlock) ∧ some k_ ≠ (.slice Ao44 t366.length co44 : Value).ownBlock) ∧ some k_ ≠ (.slice Ao54 t371.length co54 : Value).ownBlock)) (n:=t376.length) (c:=co64) ?_).2.2;exact (by (with_reducible repeat (first|apply Kd.R_alloc|apply Kd.R_drewN|apply Kd.R_drew));exact (Kd.R_mono (Kd.R_far (p:=⟨gb380,1,none⟩) (Kd.R_far (p:=⟨gb380,0,none⟩) (Kd.R_types HO378.out BK380.out (by decide)) (fun _ hk => hk.2) (.int .i64 t375)) (fun _ hk => hk.2) (.slice Ao64 t376.length co64)) (fun _ h_ => h_.1))));(case side2 => exact (Kd.R_reads' HO378.out).2.1);(case side3 => refine (Kd.R_reads' (e:=3) (base:=w.heap.size) (ok:=fun k_ => ((((some k_ ≠ (v353 : Value).ownBlock ∧ some k_ ≠ (v357 : Value).ownBlock) ∧ some k_ ≠ (.slice Ao44 t366.length co44 : Value).ownBlock) ∧ some k_ ≠ (.slice Ao54 t371.length co54 : Value).ownBlock) ∧ some k_ ≠ (.slice Ao64 t376.length co64 : Value).ownBlock)) (n:=t360.length) (c:=co33) ?_).2.2;exact (by (with_reducible repeat (first|apply Kd.R_alloc|apply Kd.R_drewN|apply Kd.R_drew));exact (Kd.R_mono (Kd.R_far (p:=⟨gb380,1,none⟩) (Kd.R_far (p:=⟨gb380,0,none⟩) (Kd.R_types HO362.out BK380.out (by decide)) (fun _ hk => hk.2) (.int .i64 t375)) (fun _ hk => hk.2) (.slice Ao64 t376.length co64)) (fun _ h_ => h_.1))));(case side4 => exact (Kd.R_reads' HO362.out).2.1);rintro e w78 ⟨rfl,hb⟩;refine ⟨_,rfl,?_⟩;have n0_:=Aside0.mk (Kd.R_below (by (with_reducible repeat (first|apply Kd.R_alloc|apply Kd.R_drewN|apply Kd.R_drew));exact (Kd.R_mono (Kd.R_far (p:=⟨gb380,1,none⟩) (Kd.R_far (p:=⟨gb380,0,none⟩) (Kd.R_types HO354.out BK380.out (by decide)) (fun _ hk => hk.2) (.int .i64 t375)) (fun _ hk => hk.2) (.slice Ao64 t376.length co64)) (fun _ h_ => h_.1))) hb);have n1_:=Aside0.mk (Kd.R_below (by (with_reducible repeat (first|apply Kd.R_alloc|apply Kd.R_drewN|apply Kd.R_drew));exact (Kd.R_mono (Kd.R_far (p:=⟨gb380,1,none⟩) (Kd.R_far (p:=⟨gb380,0,none⟩) (Kd.R_types HO358.out BK380.out (by decide)) (fun _ hk => hk.2) (.int .i64 t375)) (fun _ hk => hk.2) (.slice Ao64 t376.length co64)) (fun _ h_ => h_.1))) hb);have n2_:=Aside0.mk (Kd.R_below (by (with_reducible repeat (first|apply Kd.R_alloc|apply Kd.R_drewN|apply Kd.R_drew));exact (Kd.R_mono (Kd.R_far (p:=⟨gb380,1,none⟩) (Kd.R_far (p:=⟨gb380,0,none⟩) (Kd.R_types HO362.out BK380.out (by decide)) (fun _ hk => hk.2) (.int .i64 t375)) (fun _ hk => hk.2) (.slice Ao64 t376.length co64)) (fun _ h_ => h_.1))) hb);have n3_:=Aside0.mk (Kd.R_below (by (with_reducible repeat (first|apply Kd.R_alloc|apply Kd.R_drewN|apply Kd.R_drew));exact (Kd.R_mono (Kd.R_far (p:=⟨gb380,1,none⟩) (Kd.R_far (p:=⟨gb380,0,none⟩) (Kd.R_types HO368.out BK380.out (by decide)) (fun _ hk => hk.2) (.int .i64 t375)) (fun _ hk => hk.2) (.slice Ao64 t376.length co64)) (fun _ h_ => h_.1))) hb);have n4_:=Aside0.mk (Kd.R_below (by (with_reducible repeat (first|apply Kd.R_alloc|apply Kd.R_drewN|apply Kd.R_drew));exact (Kd.R_mono (Kd.R_far (p:=⟨gb380,1,none⟩) (Kd.R_far (p:=⟨gb380,0,none⟩) (Kd.R_types HO373.out BK380.out (by decide)) (fun _ hk => hk.2) (.int .i64 t375)) (fun _ hk => hk.2) (.slice Ao64 t376.length co64)) (fun _ h_ => h_.1))) hb);have n5_:=Aside0.mk (Kd.R_below (by (with_reducible repeat (first|apply Kd.R_alloc|apply Kd.R_drewN|apply Kd.R_drew));exact (Kd.R_mono (Kd.R_far (p:=⟨gb380,1,none⟩) (Kd.R_far (p:=⟨gb380,0,none⟩) (Kd.R_types HO378.out BK380.out (by decide)) (fun _ hk => hk.2) (.int .i64 t375)) (fun _ hk => hk.2) (.slice Ao64 t376.length co64)) (fun _ h_ => h_.1))) hb);have n6_:=Aside0.mk (blk_below (g:=gb347) (o:=.cells #[.int .i64 a0_0,.slice A0_1 l0_1.length c0_1] 26 (0,0)) (by (with_reducible repeat (first|refine blk_drewN ?_ _|refine blk_drew ?_|refine blk_alloc ?_ _));refine blk_far ?_ NB347_380.out _;(with_reducible repeat (first|refine blk_drewN ?_ _|refine blk_drew ?_|refine blk_alloc ?_ _));refine blk_far ?_ NB347_380.out _;(with_reducible repeat (first|refine blk_drewN ?_ _|refine blk_drew ?_|refine blk_alloc ?_ _));exact BK347.out) hb);have n7_:=Aside0.mk (blk_below (g:=gb348) (o:=.cells #[.int .i64 a1_0,.slice A1_1 l1_1.length c1_1] 26 (0,0)) (by (with_reducible repeat (first|refine blk_drewN ?_ _|refine blk_drew ?_|refine blk_alloc ?_ _));refine blk_far ?_ NB348_380.out _;(with_reducible repeat (first|refine blk_drewN ?_ _|refine blk_drew ?_|refine blk_alloc ?_ _));refine blk_far ?_ NB348_380.out _;(with_reducible repeat (first|refine blk_drewN ?_ _|refine blk_drew ?_|refine blk_alloc ?_ _));exact BK348.out) hb);have n8_:=Aside0.mk (blk_below (g:=gb364) (o:=.cells #[.int .i64 t359,.slice Ao33 t360.length co33] 28 (0,0)) (by (with_reducible repeat (first|refine blk_drewN ?_ _|refine blk_drew ?_|refine blk_alloc ?_ _));refine blk_far ?_ NB364_380.out _;(with_reducible repeat (first|refine blk_drewN ?_ _|refine blk_drew ?_|refine blk_alloc ?_ _));refine blk_far ?_ NB364_380.out _;(with_reducible repeat (first|refine blk_drewN ?_ _|refine blk_drew ?_|refine blk_alloc ?_ _));exact BK364.out) hb);have n9_:=Aside0.mk (blk_below (g:=gb369) (o:=.cells #[.int .i64 t365,.slice Ao44 t366.length co44] 28 (0,0)) (by (with_reducible repeat (first|refine blk_drewN ?_ _|refine blk_drew ?_|refine blk_alloc ?_ _));refine blk_far ?_ NB369_380.out _;(with_reducible repeat (first|refine blk_drewN ?_ _|refine blk_drew ?_|refine blk_alloc ?_ _));refine blk_far ?_ NB369_380.out _;(with_reducible repeat (first|refine blk_drewN ?_ _|refine blk_drew ?_|refine blk_alloc ?_ _));exact BK369.out) hb);have n10_:=Aside0.mk (blk_below (g:=gb374) (o:=.cells #[.int .i64 t370,.slice Ao54 t371.length co54] 28 (0,0)) (by (with_reducible repeat (first|refine blk_drewN ?_ _|refine blk_drew ?_|refine blk_alloc ?_ _));refine blk_far ?_ NB374_380.out _;(with_reducible repeat (first|refine blk_drewN ?_ _|refine blk_drew ?_|refine blk_alloc ?_ _));refine blk_far ?_ NB374_380.out _;(with_reducible repeat (first|refine blk_drewN ?_ _|refine blk_drew ?_|refine blk_alloc ?_ _));exact BK374.out) hb);have n11_:=Aside0.mk (blk_below (g:=gb380) (o:=.cells #[.int .i64 t375,.slice Ao64 t376.length co64] 28 (0,0)) (by (with_reducible repeat (first|refine blk_drewN ?_ _|refine blk_drew ?_|refine blk_alloc ?_ _));refine blk_put (cs:=#[.int .i64 t375,.slice none 0 0]) ?_ 1 _ rfl;(with_reducible repeat (first|refine blk_drewN ?_ _|refine blk_drew ?_|refine blk_alloc ?_ _));refine blk_put (cs:=#[.int .i64 0,.slice none 0 0]) ?_ 0 _ rfl;(with_reducible repeat (first|refine blk_drewN ?_ _|refine blk_drew ?_|refine blk_alloc ?_ _));exact BK380.out) hb);have n12_:=Aside0.mk (below_step (by repeat (first|(with_reducible first|exact HB.out|apply below_alloc|apply pw_below_drewN|apply below_drew1|refine below_set ?_ GE347.out|refine below_set ?_ GE348.out|refine below_set ?_ GE364.out|refine below_set ?_ GE369.out|refine below_set ?_ GE374.out|refine below_set ?_ GE380.out)|exact HB.out)) hb);clear HO354;clear HO358;clear HO362;clear HO368;clear HO373;clear HO378;clear BK347;clear BK348;clear BK364;clear BK369;clear BK374;clear BK380;clear HB;have HO354:=n0_;have HO358:=n1_;have HO362:=n2_;have HO368:=n3_;have HO373:=n4_;have HO378:=n5_;have BK347:=n6_;have BK348:=n7_;have BK364:=n8_;have BK369:=n9_;have BK374:=n10_;have BK380:=n11_;have HB:=n12_;clear n0_ n1_ n2_ n3_ n4_ n5_ n6_ n7_ n8_ n9_ n10_ n11_ n12_;(try clear hb);(try clear hb2);(try clear hk);(try clear hi)))
       go_meet
       case rel => exact ⟨_,((t379 != t363)),(by first|rfl|(simp;done)|(simp [*];done)),H',⟨by have:=HJ3.out;have:=HJ11.out;first|omega|exact Nat.le_refl _⟩,⟨by (with_reducible repeat (first|apply Kd.R_alloc|apply Kd.R_drewN|apply Kd.R_drew));exact Kd.R_mono HO362.out (fun _ hk => ⟨hk.1.1.2,⟨hk.1.2,hk.2⟩⟩)⟩,⟨by (with_reducible repeat (first|apply Kd.R_alloc|apply Kd.R_drewN|apply Kd.R_drew));exact Kd.R_mono HO368.out (fun _ hk => ⟨hk.1.1.2,⟨hk.1.2,hk.2⟩⟩)⟩,⟨by (with_reducible repeat (first|apply Kd.R_alloc|apply Kd.R_drewN|apply Kd.R_drew));exact Kd.R_mono HO373.out (fun _ hk => ⟨hk.1.1.2,⟨hk.1.2,hk.2⟩⟩)⟩,⟨by (with_reducible repeat (first|apply Kd.R_alloc|apply Kd.R_drewN|apply Kd.R_drew));exact Kd.R_mono HO378.out (fun _ hk => ⟨hk.1.1.2,⟨hk.1.2,hk.2⟩⟩)⟩,⟨by (with_reducible repeat (first|refine blk_drewN ?_ _|refine blk_drew ?_|refine blk_alloc ?_ _));exact BK347.out⟩,⟨by (with_reducible repeat (first|refine blk_drewN ?_ _|refine blk_drew ?_|refine blk_alloc ?_ _));exact BK348.out⟩,⟨by (with_reducible repeat (first|refine blk_drewN ?_ _|refine blk_drew ?_|refine blk_alloc ?_ _));exact BK364.out⟩,⟨by (with_reducible repeat (first|refine blk_drewN ?_ _|refine blk_drew ?_|refine blk_alloc ?_ _));exact BK369.out⟩,⟨by (with_reducible repeat (first|refine blk_drewN ?_ _|refine blk_drew ?_|refine blk_alloc ?_ _));exact BK374.out⟩,⟨by (with_reducible repeat (first|refine blk_drewN ?_ _|refine blk_drew ?_|refine blk_alloc ?_ _));exact BK380.out⟩,⟨by repeat (first|(with_reducible first|exact HB.out|apply below_alloc|apply pw_below_drewN|apply below_drew1|refine below_set ?_ GE347.out|refine below_set ?_ GE348.out|refine below_set ?_ GE364.out|refine below_set ?_ GE369.out|refine below_set ?_ GE374.out|refine below_set ?_ GE380.out)|exact HB.out)⟩⟩
      ·replace c66:=Bool.eq_false_iff.mpr c66
       subst c66
       have H1 : (laws_FnExactMulGrades.j2 kj11 t363 t379 true a0_0 l0_1 a1_0 l1_1 t359 t360 t365 t366 t370 t371 t375 t376) = some r:=by rw [if_neg (show ¬ (false = true) by decide)] at H;exact H
       clear H
       have H:=H1
       clear H1
       have H':=Aside0.mk H
       clear H
       have hnb79:=NB380_347.out
       have hnc79:=NB347_380.out
       have hnb80:=NB380_348.out
       have hnc80:=NB348_380.out
       have hnb81:=NB380_364.out
       have hnc81:=NB364_380.out
       have hnb82:=NB380_369.out
       have hnc82:=NB369_380.out
       have hnb83:=NB380_374.out
       have hnc83:=NB374_380.out
       have hcz84_0 : w57.cell? ⟨gb380,0,none⟩ = some (.int .i64 0):=(blk_cell BK380.out 0).trans rfl
       have hcz84_1 : w57.cell? ⟨gb380,1,none⟩ = some (.slice none 0 0):=(blk_cell BK380.out 1).trans rfl
       have hfz84_0:=blk_frozen BK380.out 0
       have hfz84_1:=blk_frozen BK380.out 1
       have hnb85:=NB364_347.out
       have hnc85:=NB347_364.out
       have hnb86:=NB364_348.out
       have hnc86:=NB348_364.out
       have hnb87:=NB364_369.out
       have hnc87:=NB369_364.out
       have hnb88:=NB364_374.out
       have hnc88:=NB374_364.out
       have hcz89_0 : w57.cell? ⟨gb364,0,none⟩ = some (.int .i64 t359):=(blk_cell BK364.out 0).trans rfl
       have hcz89_1 : w57.cell? ⟨gb364,1,none⟩ = some (.slice Ao33 t360.length co33):=(blk_cell BK364.out 1).trans rfl
       have hfz89_0:=blk_frozen BK364.out 0
       have hfz89_1:=blk_frozen BK364.out 1
       go_wp2_with (first|((with_reducible refine gate_callee (f:=21) rfl ?_);refine goesL_ (some 47) rfl rfl Try.func21 (by kernel_rfl) rfl #[.agg #[.int .i64 t375,.slice Ao64 t376.length co64],.agg #[.int .i64 t359,.slice Ao33 t360.length co33]] rfl (by (try simp only [List.map_toArray,List.map_cons,List.map_nil]);first|done|rfl|(simp only [List.length_drop,List.length_take];rfl)) ?_;(with_reducible refine (laws_eqMatrix.calls kj11 t375 _ _ t376 t359 _ _ t360 false _ ?side1 ?side2 ?side3 ?side4 A65.out).mono ?_);(case side1 => refine (Kd.R_reads' (e:=3) (base:=w.heap.size) (ok:=fun k_ => (((((True ∧ some k_ ≠ (v353 : Value).ownBlock) ∧ some k_ ≠ (v357 : Value).ownBlock) ∧ some k_ ≠ (.slice Ao33 t360.length co33 : Value).ownBlock) ∧ some k_ ≠ (.slice Ao44 t366.length co44 : Value).ownBlock) ∧ some k_ ≠ (.slice Ao54 t371.length co54 : Value).ownBlock)) (n:=t376.length) (c:=co64) ?_).2.2;exact (by (with_reducible repeat (first|apply Kd.R_alloc|apply Kd.R_drewN|apply Kd.R_drew));exact (Kd.R_mono (Kd.R_far (p:=⟨gb380,1,none⟩) (Kd.R_far (p:=⟨gb380,0,none⟩) (Kd.R_types HO378.out BK380.out (by decide)) (fun _ hk => hk.2) (.int .i64 t375)) (fun _ hk => hk.2) (.slice Ao64 t376.length co64)) (fun _ h_ => h_.1))));(case side2 => exact (Kd.R_reads' HO378.out).2.1);(case side3 => refine (Kd.R_reads' (e:=3) (base:=w.heap.size) (ok:=fun k_ => ((((some k_ ≠ (v353 : Value).ownBlock ∧ some k_ ≠ (v357 : Value).ownBlock) ∧ some k_ ≠ (.slice Ao44 t366.length co44 : Value).ownBlock) ∧ some k_ ≠ (.slice Ao54 t371.length co54 : Value).ownBlock) ∧ some k_ ≠ (.slice Ao64 t376.length co64 : Value).ownBlock)) (n:=t360.length) (c:=co33) ?_).2.2;exact (by (with_reducible repeat (first|apply Kd.R_alloc|apply Kd.R_drewN|apply Kd.R_drew));exact (Kd.R_mono (Kd.R_far (p:=⟨gb380,1,none⟩) (Kd.R_far (p:=⟨gb380,0,none⟩) (Kd.R_types HO362.out BK380.out (by decide)) (fun _ hk => hk.2) (.int .i64 t375)) (fun _ hk => hk.2) (.slice Ao64 t376.length co64)) (fun _ h_ => h_.1))));(case side4 => exact (Kd.R_reads' HO362.out).2.1);rintro e w90 ⟨rfl,hb⟩;refine ⟨_,rfl,?_⟩;have n0_:=Aside0.mk (Kd.R_below (by (with_reducible repeat (first|apply Kd.R_alloc|apply Kd.R_drewN|apply Kd.R_drew));exact (Kd.R_mono (Kd.R_far (p:=⟨gb380,1,none⟩) (Kd.R_far (p:=⟨gb380,0,none⟩) (Kd.R_types HO354.out BK380.out (by decide)) (fun _ hk => hk.2) (.int .i64 t375)) (fun _ hk => hk.2) (.slice Ao64 t376.length co64)) (fun _ h_ => h_.1))) hb);have n1_:=Aside0.mk (Kd.R_below (by (with_reducible repeat (first|apply Kd.R_alloc|apply Kd.R_drewN|apply Kd.R_drew));exact (Kd.R_mono (Kd.R_far (p:=⟨gb380,1,none⟩) (Kd.R_far (p:=⟨gb380,0,none⟩) (Kd.R_types HO358.out BK380.out (by decide)) (fun _ hk => hk.2) (.int .i64 t375)) (fun _ hk => hk.2) (.slice Ao64 t376.length co64)) (fun _ h_ => h_.1))) hb);have n2_:=Aside0.mk (Kd.R_below (by (with_reducible repeat (first|apply Kd.R_alloc|apply Kd.R_drewN|apply Kd.R_drew));exact (Kd.R_mono (Kd.R_far (p:=⟨gb380,1,none⟩) (Kd.R_far (p:=⟨gb380,0,none⟩) (Kd.R_types HO362.out BK380.out (by decide)) (fun _ hk => hk.2) (.int .i64 t375)) (fun _ hk => hk.2) (.slice Ao64 t376.length co64)) (fun _ h_ => h_.1))) hb);have n3_:=Aside0.mk (Kd.R_below (by (with_reducible repeat (first|apply Kd.R_alloc|apply Kd.R_drewN|apply Kd.R_drew));exact (Kd.R_mono (Kd.R_far (p:=⟨gb380,1,none⟩) (Kd.R_far (p:=⟨gb380,0,none⟩) (Kd.R_types HO368.out BK380.out (by decide)) (fun _ hk => hk.2) (.int .i64 t375)) (fun _ hk => hk.2) (.slice Ao64 t376.length co64)) (fun _ h_ => h_.1))) hb);have n4_:=Aside0.mk (Kd.R_below (by (with_reducible repeat (first|apply Kd.R_alloc|apply Kd.R_drewN|apply Kd.R_drew));exact (Kd.R_mono (Kd.R_far (p:=⟨gb380,1,none⟩) (Kd.R_far (p:=⟨gb380,0,none⟩) (Kd.R_types HO373.out BK380.out (by decide)) (fun _ hk => hk.2) (.int .i64 t375)) (fun _ hk => hk.2) (.slice Ao64 t376.length co64)) (fun _ h_ => h_.1))) hb);have n5_:=Aside0.mk (Kd.R_below (by (with_reducible repeat (first|apply Kd.R_alloc|apply Kd.R_drewN|apply Kd.R_drew));exact (Kd.R_mono (Kd.R_far (p:=⟨gb380,1,none⟩) (Kd.R_far (p:=⟨gb380,0,none⟩) (Kd.R_types HO378.out BK380.out (by decide)) (fun _ hk => hk.2) (.int .i64 t375)) (fun _ hk => hk.2) (.slice Ao64 t376.length co64)) (fun _ h_ => h_.1))) hb);have n6_:=Aside0.mk (blk_below (g:=gb347) (o:=.cells #[.int .i64 a0_0,.slice A0_1 l0_1.length c0_1] 26 (0,0)) (by (with_reducible repeat (first|refine blk_drewN ?_ _|refine blk_drew ?_|refine blk_alloc ?_ _));refine blk_far ?_ NB347_380.out _;(with_reducible repeat (first|refine blk_drewN ?_ _|refine blk_drew ?_|refine blk_alloc ?_ _));refine blk_far ?_ NB347_380.out _;(with_reducible repeat (first|refine blk_drewN ?_ _|refine blk_drew ?_|refine blk_alloc ?_ _));exact BK347.out) hb);have n7_:=Aside0.mk (blk_below (g:=gb348) (o:=.cells #[.int .i64 a1_0,.slice A1_1 l1_1.length c1_1] 26 (0,0)) (by (with_reducible repeat (first|refine blk_drewN ?_ _|refine blk_drew ?_|refine blk_alloc ?_ _));refine blk_far ?_ NB348_380.out _;(with_reducible repeat (first|refine blk_drewN ?_ _|refine blk_drew ?_|refine blk_alloc ?_ _));refine blk_far ?_ NB348_380.out _;(with_reducible repeat (first|refine blk_drewN ?_ _|refine blk_drew ?_|refine blk_alloc ?_ _));exact BK348.out) hb);have n8_:=Aside0.mk (blk_below (g:=gb364) (o:=.cells #[.int .i64 t359,.slice Ao33 t360.length co33] 28 (0,0)) (by (with_reducible repeat (first|refine blk_drewN ?_ _|refine blk_drew ?_|refine blk_alloc ?_ _));refine blk_far ?_ NB364_380.out _;(with_reducible repeat (first|refine blk_drewN ?_ _|refine blk_drew ?_|refine blk_alloc ?_ _));refine blk_far ?_ NB364_380.out _;(with_reducible repeat (first|refine blk_drewN ?_ _|refine blk_drew ?_|refine blk_alloc ?_ _));exact BK364.out) hb);have n9_:=Aside0.mk (blk_below (g:=gb369) (o:=.cells #[.int .i64 t365,.slice Ao44 t366.length co44] 28 (0,0)) (by (with_reducible repeat (first|refine blk_drewN ?_ _|refine blk_drew ?_|refine blk_alloc ?_ _));refine blk_far ?_ NB369_380.out _;(with_reducible repeat (first|refine blk_drewN ?_ _|refine blk_drew ?_|refine blk_alloc ?_ _));refine blk_far ?_ NB369_380.out _;(with_reducible repeat (first|refine blk_drewN ?_ _|refine blk_drew ?_|refine blk_alloc ?_ _));exact BK369.out) hb);have n10_:=Aside0.mk (blk_below (g:=gb374) (o:=.cells #[.int .i64 t370,.slice Ao54 t371.length co54] 28 (0,0)) (by (with_reducible repeat (first|refine blk_drewN ?_ _|refine blk_drew ?_|refine blk_alloc ?_ _));refine blk_far ?_ NB374_380.out _;(with_reducible repeat (first|refine blk_drewN ?_ _|refine blk_drew ?_|refine blk_alloc ?_ _));refine blk_far ?_ NB374_380.out _;(with_reducible repeat (first|refine blk_drewN ?_ _|refine blk_drew ?_|refine blk_alloc ?_ _));exact BK374.out) hb);have n11_:=Aside0.mk (blk_below (g:=gb380) (o:=.cells #[.int .i64 t375,.slice Ao64 t376.length co64] 28 (0,0)) (by (with_reducible repeat (first|refine blk_drewN ?_ _|refine blk_drew ?_|refine blk_alloc ?_ _));refine blk_put (cs:=#[.int .i64 t375,.slice none 0 0]) ?_ 1 _ rfl;(with_reducible repeat (first|refine blk_drewN ?_ _|refine blk_drew ?_|refine blk_alloc ?_ _));refine blk_put (cs:=#[.int .i64 0,.slice none 0 0]) ?_ 0 _ rfl;(with_reducible repeat (first|refine blk_drewN ?_ _|refine blk_drew ?_|refine blk_alloc ?_ _));exact BK380.out) hb);have n12_:=Aside0.mk (below_step (by repeat (first|(with_reducible first|exact HB.out|apply below_alloc|apply pw_below_drewN|apply below_drew1|refine below_set ?_ GE347.out|refine below_set ?_ GE348.out|refine below_set ?_ GE364.out|refine below_set ?_ GE369.out|refine below_set ?_ GE374.out|refine below_set ?_ GE380.out)|exact HB.out)) hb);clear HO354;clear HO358;clear HO362;clear HO368;clear HO373;clear HO378;clear BK347;clear BK348;clear BK364;clear BK369;clear BK374;clear BK380;clear HB;have HO354:=n0_;have HO358:=n1_;have HO362:=n2_;have HO368:=n3_;have HO373:=n4_;have HO378:=n5_;have BK347:=n6_;have BK348:=n7_;have BK364:=n8_;have BK369:=n9_;have BK374:=n10_;have BK380:=n11_;have HB:=n12_;clear n0_ n1_ n2_ n3_ n4_ n5_ n6_ n7_ n8_ n9_ n10_ n11_ n12_;(try clear hb);(try clear hb2);(try clear hk);(try clear hi)))
       go_meet
       case rel => exact ⟨_,(true),(by first|rfl|(simp;done)|(simp [*];done)),H',⟨by have:=HJ3.out;have:=HJ11.out;first|omega|exact Nat.le_refl _⟩,⟨by (with_reducible repeat (first|apply Kd.R_alloc|apply Kd.R_drewN|apply Kd.R_drew));exact Kd.R_mono HO362.out (fun _ hk => ⟨hk.1.1.2,⟨hk.1.2,hk.2⟩⟩)⟩,⟨by (with_reducible repeat (first|apply Kd.R_alloc|apply Kd.R_drewN|apply Kd.R_drew));exact Kd.R_mono HO368.out (fun _ hk => ⟨hk.1.1.2,⟨hk.1.2,hk.2⟩⟩)⟩,⟨by (with_reducible repeat (first|apply Kd.R_alloc|apply Kd.R_drewN|apply Kd.R_drew));exact Kd.R_mono HO373.out (fun _ hk => ⟨hk.1.1.2,⟨hk.1.2,hk.2⟩⟩)⟩,⟨by (with_reducible repeat (first|apply Kd.R_alloc|apply Kd.R_drewN|apply Kd.R_drew));exact Kd.R_mono HO378.out (fun _ hk => ⟨hk.1.1.2,⟨hk.1.2,hk.2⟩⟩)⟩,⟨by (with_reducible repeat (first|refine blk_drewN ?_ _|refine blk_drew ?_|refine blk_alloc ?_ _));exact BK347.out⟩,⟨by (with_reducible repeat (first|refine blk_drewN ?_ _|refine blk_drew ?_|refine blk_alloc ?_ _));exact BK348.out⟩,⟨by (with_reducible repeat (first|refine blk_drewN ?_ _|refine blk_drew ?_|refine blk_alloc ?_ _));exact BK364.out⟩,⟨by (with_reducible repeat (first|refine blk_drewN ?_ _|refine blk_drew ?_|refine blk_alloc ?_ _));exact BK369.out⟩,⟨by (with_reducible repeat (first|refine blk_drewN ?_ _|refine blk_drew ?_|refine blk_alloc ?_ _));exact BK374.out⟩,⟨by (with_reducible repeat (first|refine blk_drewN ?_ _|refine blk_drew ?_|refine blk_alloc ?_ _));exact BK380.out⟩,⟨by repeat (first|(with_reducible first|exact HB.out|apply below_alloc|apply pw_below_drewN|apply below_drew1|refine below_set ?_ GE347.out|refine below_set ?_ GE348.out|refine below_set ?_ GE364.out|refine below_set ?_ GE369.out|refine below_set ?_ GE374.out|refine below_set ?_ GE380.out)|exact HB.out)⟩⟩
     case rest =>
      clear HC23
      try clear c1
      try clear c2
      try clear p2
      try clear c3
      try clear c4
      try clear c5
      try clear c6
      try clear c7
      try clear c8
      try clear c19
      try clear c21
      try clear c26
      try clear c27
      try clear c35
      try clear c36
      try clear c40
      try clear c41
      try clear c42
      try clear c45
      try clear c49
      try clear c50
      try clear c51
      try clear c52
      try clear c58
      try clear c59
      try clear c60
      try clear c61
      try clear c62
      try clear c66
      try clear c67
      try clear c68
      try clear c69
      try clear c70
      try clear c71
      try clear c73
      try clear c74
      try clear c75
      try clear c76
      try clear c79
      try clear c80
      try clear c81
      try clear c82
      try clear c83
      try clear c85
      try clear c86
      try clear c87
      try clear c88
      try clear hcz37_0
      try clear hcz37_1
      try clear hcz43_0
      try clear hcz43_1
      try clear hcz46_0
      try clear hcz46_1
      try clear hcz53_0
      try clear hcz53_1
      try clear hcz55_0
      try clear hcz55_1
      try clear hcz63_0
      try clear hcz63_1
      try clear hcz72_0
      try clear hcz72_1
      try clear hcz77_0
      try clear hcz77_1
      try clear hcz84_0
      try clear hcz84_1
      try clear hcz89_0
      try clear hcz89_1
      try clear hfz37_0
      try clear hfz37_1
      try clear hfz43_0
      try clear hfz43_1
      try clear hfz46_0
      try clear hfz46_1
      try clear hfz53_0
      try clear hfz53_1
      try clear hfz55_0
      try clear hfz55_1
      try clear hfz63_0
      try clear hfz63_1
      try clear hfz72_0
      try clear hfz72_1
      try clear hfz77_0
      try clear hfz77_1
      try clear hfz84_0
      try clear hfz84_1
      try clear hfz89_0
      try clear hfz89_1
      obtain ⟨kq,x53_22,rfl,HA,HJ22,HO_365001,HO_370001,HO_375001,HO_381001,BK347,BK348,BK364,BK369,BK374,BK380,HB⟩:=hcut
      cases kq with
      | zero => exact absurd HA.out (by simp [laws_FnExactMulGrades.j2])
      | succ kj22 =>
       have H:=HA.out
       clear HA
       simp only [laws_FnExactMulGrades.j2] at H
       have HC91:=Aside0.mk H
       clear H
       go_upto_if 53 with (fail)
       go_cut [] (fun wc => ∃ (kq : Nat),Aside0 (laws_FnExactMulGrades.j3 kq t363 t379 a0_0 l0_1 a1_0 l1_1 t359 t360 t365 t366 t370 t371 t375 t376 = some r) ∧ Aside0 (kq ≤ kj22) ∧ Aside0 (Kd.R (Kd.int .i64) 3 wc w.heap.size (fun k_ => some k_ ≠ ((.slice Ao44 t366.length co44) : Value).ownBlock ∧ some k_ ≠ ((.slice Ao54 t371.length co54) : Value).ownBlock ∧ some k_ ≠ ((.slice Ao64 t376.length co64) : Value).ownBlock) (.slice Ao33 t360.length co33) t360) ∧ Aside0 (Kd.R (Kd.int .i64) 3 wc w.heap.size (fun k_ => some k_ ≠ ((.slice Ao33 t360.length co33) : Value).ownBlock ∧ some k_ ≠ ((.slice Ao54 t371.length co54) : Value).ownBlock ∧ some k_ ≠ ((.slice Ao64 t376.length co64) : Value).ownBlock) (.slice Ao44 t366.length co44) t366) ∧ Aside0 (Kd.R (Kd.int .i64) 3 wc w.heap.size (fun k_ => some k_ ≠ ((.slice Ao33 t360.length co33) : Value).ownBlock ∧ some k_ ≠ ((.slice Ao44 t366.length co44) : Value).ownBlock ∧ some k_ ≠ ((.slice Ao64 t376.length co64) : Value).ownBlock) (.slice Ao54 t371.length co54) t371) ∧ Aside0 (Kd.R (Kd.int .i64) 3 wc w.heap.size (fun k_ => some k_ ≠ ((.slice Ao33 t360.length co33) : Value).ownBlock ∧ some k_ ≠ ((.slice Ao44 t366.length co44) : Value).ownBlock ∧ some k_ ≠ ((.slice Ao54 t371.length co54) : Value).ownBlock) (.slice Ao64 t376.length co64) t376) ∧ Aside0 (wc.heap[gb347]? = some (.cells #[.int .i64 a0_0,(.slice A0_1 l0_1.length c0_1)] 26 (0,0))) ∧ Aside0 (wc.heap[gb348]? = some (.cells #[.int .i64 a1_0,(.slice A1_1 l1_1.length c1_1)] 26 (0,0))) ∧ Aside0 (wc.heap[gb364]? = some (.cells #[.int .i64 t359,(.slice Ao33 t360.length co33)] 28 (0,0))) ∧ Aside0 (wc.heap[gb369]? = some (.cells #[.int .i64 t365,(.slice Ao44 t366.length co44)] 28 (0,0))) ∧ Aside0 (wc.heap[gb374]? = some (.cells #[.int .i64 t370,(.slice Ao54 t371.length co54)] 28 (0,0))) ∧ Aside0 (wc.heap[gb380]? = some (.cells #[.int .i64 t375,(.slice Ao64 t376.length co64)] 28 (0,0))) ∧ Aside0 (Below w.heap.size w wc))
       case first =>
        have H:=HC91.out
        clear HC91
        by_cases c92 : x53_22 = true
        ·subst c92
         have H1 : (some false) = some r:=by rw [if_pos rfl] at H;exact H
         clear H
         have H:=H1
         clear H1
         obtain rfl:=Option.some.inj H
         go_wp2
         go_ret
         exact ⟨by first|rfl|(simp [errW_none,errW_some] <;> rfl)|(simp [*,errW_none,errW_some] <;> rfl),by repeat (first|(with_reducible first|exact HB.out|apply below_alloc|apply pw_below_drewN|apply below_drew1|refine below_set ?_ GE347.out|refine below_set ?_ GE348.out|refine below_set ?_ GE364.out|refine below_set ?_ GE369.out|refine below_set ?_ GE374.out|refine below_set ?_ GE380.out)|exact HB.out)⟩
        ·replace c92:=Bool.eq_false_iff.mpr c92
         subst c92
         have H1 : (laws_FnExactMulGrades.j3 kj22 t363 t379 a0_0 l0_1 a1_0 l1_1 t359 t360 t365 t366 t370 t371 t375 t376) = some r:=by rw [if_neg (show ¬ (false = true) by decide)] at H;exact H
         clear H
         have H:=H1
         clear H1
         have H':=Aside0.mk H
         clear H
         go_wp2
         go_meet
         case rel => exact ⟨_,H',⟨by have:=HJ3.out;have:=HJ11.out;have:=HJ22.out;first|omega|exact Nat.le_refl _⟩,⟨by (with_reducible repeat (first|apply Kd.R_alloc|apply Kd.R_drewN|apply Kd.R_drew));exact HO_365001.out⟩,⟨by (with_reducible repeat (first|apply Kd.R_alloc|apply Kd.R_drewN|apply Kd.R_drew));exact HO_370001.out⟩,⟨by (with_reducible repeat (first|apply Kd.R_alloc|apply Kd.R_drewN|apply Kd.R_drew));exact HO_375001.out⟩,⟨by (with_reducible repeat (first|apply Kd.R_alloc|apply Kd.R_drewN|apply Kd.R_drew));exact HO_381001.out⟩,⟨by (with_reducible repeat (first|refine blk_drewN ?_ _|refine blk_drew ?_|refine blk_alloc ?_ _));exact BK347.out⟩,⟨by (with_reducible repeat (first|refine blk_drewN ?_ _|refine blk_drew ?_|refine blk_alloc ?_ _));exact BK348.out⟩,⟨by (with_reducible repeat (first|refine blk_drewN ?_ _|refine blk_drew ?_|refine blk_alloc ?_ _));exact BK364.out⟩,⟨by (with_reducible repeat (first|refine blk_drewN ?_ _|refine blk_drew ?_|refine blk_alloc ?_ _));exact BK369.out⟩,⟨by (with_reducible repeat (first|refine blk_drewN ?_ _|refine blk_drew ?_|refine blk_alloc ?_ _));exact BK374.out⟩,⟨by (with_reducible repeat (first|refine blk_drewN ?_ _|refine blk_drew ?_|refine blk_alloc ?_ _));exact BK380.out⟩,⟨by repeat (first|(with_reducible first|exact HB.out|apply below_alloc|apply pw_below_drewN|apply below_drew1|refine below_set ?_ GE347.out|refine below_set ?_ GE348.out|refine below_set ?_ GE364.out|refine below_set ?_ GE369.out|refine below_set ?_ GE374.out|refine below_set ?_ GE380.out)|exact HB.out)⟩⟩
       case rest =>
        clear HC91
        try clear c1
        try clear c2
        try clear p2
        try clear c3
        try clear c4
        try clear c5
        try clear c6
        try clear c7
        try clear c8
        try clear c9
        try clear c19
        try clear c21
        try clear c26
        try clear c27
        try clear c35
        try clear c36
        try clear c40
        try clear c41
        try clear c42
        try clear c45
        try clear c49
        try clear c50
        try clear c51
        try clear c52
        try clear c58
        try clear c59
        try clear c60
        try clear c61
        try clear c62
        try clear c66
        try clear c67
        try clear c68
        try clear c69
        try clear c70
        try clear c71
        try clear c73
        try clear c74
        try clear c75
        try clear c76
        try clear c79
        try clear c80
        try clear c81
        try clear c82
        try clear c83
        try clear c85
        try clear c86
        try clear c87
        try clear c88
        try clear c92
        try clear hcz37_0
        try clear hcz37_1
        try clear hcz43_0
        try clear hcz43_1
        try clear hcz46_0
        try clear hcz46_1
        try clear hcz53_0
        try clear hcz53_1
        try clear hcz55_0
        try clear hcz55_1
        try clear hcz63_0
        try clear hcz63_1
        try clear hcz72_0
        try clear hcz72_1
        try clear hcz77_0
        try clear hcz77_1
        try clear hcz84_0
        try clear hcz84_1
        try clear hcz89_0
        try clear hcz89_1
        try clear hfz37_0
        try clear hfz37_1
        try clear hfz43_0
        try clear hfz43_1
        try clear hfz46_0
        try clear hfz46_1
        try clear hfz53_0
        try clear hfz53_1
        try clear hfz55_0
        try clear hfz55_1
        try clear hfz63_0
        try clear hfz63_1
        try clear hfz72_0
        try clear hfz72_1
        try clear hfz77_0
        try clear hfz77_1
        try clear hfz84_0
        try clear hfz84_1
        try clear hfz89_0
        try clear hfz89_1
        try clear p2
        obtain ⟨kq,HA,HJ90,HO_365001,HO_370001,HO_375001,HO_381001,BK347,BK348,BK364,BK369,BK374,BK380,HB⟩:=hcut
        cases kq with
        | zero => exact absurd HA.out (by simp [laws_FnExactMulGrades.j3])
        | succ kj90 =>
         have H:=HA.out
         clear HA
         simp only [laws_FnExactMulGrades.j3] at H
         replace H:=Option.bind_eq_some_iff.mp H
         obtain ⟨⟨t382,t383⟩,A930,H⟩:=H
         replace H : ((laws_eqMatrix.f kj90 t365 t366 t382 t383).bind fun t386 => (if t386 = true then (laws_FnExactMulGrades.j4 kj90 t363 t379 a0_0 l0_1 a1_0 l1_1 t359 t360 t365 t366 t370 t371 t375 t376) else (some false))) = some r:=H
         have A93:=Aside0.mk A930
         clear A930
         replace H:=Option.bind_eq_some_iff.mp H
         obtain ⟨t386,A940,H⟩:=H
         replace H : (if t386 = true then (laws_FnExactMulGrades.j4 kj90 t363 t379 a0_0 l0_1 a1_0 l1_1 t359 t360 t365 t366 t370 t371 t375 t376) else (some false)) = some r:=H
         have A94:=Aside0.mk A940
         clear A940
         have HC95:=Aside0.mk H
         clear H
         try go_wp2
         have n0_:=Aside0.mk (Kd.R_drew HO_365001.out)
         have n1_:=Aside0.mk (Kd.R_drew HO_370001.out)
         have n2_:=Aside0.mk (Kd.R_drew HO_375001.out)
         have n3_:=Aside0.mk (Kd.R_drew HO_381001.out)
         have n4_:=Aside0.mk (blk_drew BK347.out)
         have n5_:=Aside0.mk (blk_drew BK348.out)
         have n6_:=Aside0.mk (blk_drew BK364.out)
         have n7_:=Aside0.mk (blk_drew BK369.out)
         have n8_:=Aside0.mk (blk_drew BK374.out)
         have n9_:=Aside0.mk (blk_drew BK380.out)
         have n10_:=Aside0.mk (below_drew1 HB.out)
         clear HO_365001
         clear HO_370001
         clear HO_375001
         clear HO_381001
         clear BK347
         clear BK348
         clear BK364
         clear BK369
         clear BK374
         clear BK380
         clear HB
         have HO_365001:=n0_
         have HO_370001:=n1_
         have HO_375001:=n2_
         have HO_381001:=n3_
         have BK347:=n4_
         have BK348:=n5_
         have BK364:=n6_
         have BK369:=n7_
         have BK374:=n8_
         have BK380:=n9_
         have HB:=n10_
         clear n0_ n1_ n2_ n3_ n4_ n5_ n6_ n7_ n8_ n9_ n10_
         refine start_ (n:=5) (S:=fun w' => w'.cell? ⟨gb369,0,none⟩ = some (.int .i64 t365) ∧ w'.cell? ⟨gb369,1,none⟩ = some (.slice Ao44 t366.length co44) ∧ w'.cell? ⟨gb347,0,none⟩ = some (.int .i64 a0_0) ∧ w'.cell? ⟨gb347,1,none⟩ = some (.slice A0_1 l0_1.length c0_1)) (ds:=[]) #[false,false,false,false,false] (by kernel_rfl) rfl rfl ⟨(blk_cell BK369.out 0).trans rfl,(blk_cell BK369.out 1).trans rfl,(blk_cell BK347.out 0).trans rfl,(blk_cell BK347.out 1).trans rfl⟩ (fun hHeld => ?_)
         generalize wc.drew = w96 at HO_365001 HO_370001 HO_375001 HO_381001 BK347 BK348 BK364 BK369 BK374 BK380 HB hHeld ⊢
         refine take_ (i:=0) (N:=some 54) (v:=?_) (a':=?_) #[true,false,false,false,false] rfl rfl (by kernel_rfl) (fun _ _ _ h => h) (Or.inl ⟨by rfl,?_⟩) hHeld ?_ ?_
         rotate_left
         ·rintro w' ⟨s0,s1,s2,s3⟩
          go_simp
          with_reducible rfl
         rotate_left
         ·simp only [Act.put,List.setIfInBounds_toArray,List.set_cons_zero,List.set_cons_succ,i64_w,i32_w]
          rfl
         refine take_ (i:=1) (N:=some 55) (v:=?_) (a':=?_) #[true,true,false,false,false] rfl rfl (by kernel_rfl) (fun _ _ _ h => h) (Or.inl ⟨by rfl,?_⟩) hHeld ?_ ?_
         rotate_left
         ·rintro w' ⟨s0,s1,s2,s3⟩
          go_simp
          with_reducible rfl
         rotate_left
         ·simp only [Act.put,List.setIfInBounds_toArray,List.set_cons_zero,List.set_cons_succ,i64_w,i32_w]
          rfl
         refine one_ (i:=2) (N:=some 56) #[true,true,true,false,false] rfl rfl (by kernel_rfl) (by decide) (fun K hK => ?_)
         refine goes_ Try.func19 (by kernel_rfl) rfl #[.agg #[.int .i64 a0_0,.slice A0_1 l0_1.length c0_1]] (by rfl) rfl rfl (by (try simp only [List.map_toArray,List.map_cons,List.map_nil]);first|done|rfl|(simp only [List.length_drop,List.length_take];rfl)) ?_
         with_reducible refine (laws_toMatrix.calls kj90 a0_0 _ _ l0_1 t382 t383 _ ?side1 ?side2 A93.out).mono ?_
         (case side1 => repeat (first|exact (Kd.C_below HR0_1.out HB.out)|(with_reducible refine Kd.C_alloc ?_ _)|(with_reducible refine Kd.C_drewN ?_ _)|(with_reducible refine Kd.C_drew ?_)))
         (case side2 => exact HC0_1.out)
         rintro e w97 ⟨v384,rfl,ho0,hb⟩
         refine ⟨_,rfl,?_⟩
         have n0_:=Aside0.mk (Kd.R_elder' (by (with_reducible repeat (first|apply Kd.R_alloc|apply Kd.R_drewN|apply Kd.R_drew));exact HO_365001.out) (Kd.R_base ho0) hb)
         have n1_:=Aside0.mk (Kd.R_elder' (by (with_reducible repeat (first|apply Kd.R_alloc|apply Kd.R_drewN|apply Kd.R_drew));exact HO_370001.out) (Kd.R_base ho0) hb)
         have n2_:=Aside0.mk (Kd.R_elder' (by (with_reducible repeat (first|apply Kd.R_alloc|apply Kd.R_drewN|apply Kd.R_drew));exact HO_375001.out) (Kd.R_base ho0) hb)
         have n3_:=Aside0.mk (Kd.R_elder' (by (with_reducible repeat (first|apply Kd.R_alloc|apply Kd.R_drewN|apply Kd.R_drew));exact HO_381001.out) (Kd.R_base ho0) hb)
         have n4_:=Aside0.mk (Kd.R_lower (Kd.R_new' (Kd.R_new' (Kd.R_new' (Kd.R_new' ho0 (Kd.R_lt (by (with_reducible repeat (first|apply Kd.R_alloc|apply Kd.R_drewN|apply Kd.R_drew));exact HO_365001.out))) (Kd.R_lt (by (with_reducible repeat (first|apply Kd.R_alloc|apply Kd.R_drewN|apply Kd.R_drew));exact HO_370001.out))) (Kd.R_lt (by (with_reducible repeat (first|apply Kd.R_alloc|apply Kd.R_drewN|apply Kd.R_drew));exact HO_375001.out))) (Kd.R_lt (by (with_reducible repeat (first|apply Kd.R_alloc|apply Kd.R_drewN|apply Kd.R_drew));exact HO_381001.out))) (below_size (by repeat (first|(with_reducible first|exact HB.out|apply below_alloc|apply pw_below_drewN|apply below_drew1|refine below_set ?_ GE347.out|refine below_set ?_ GE348.out|refine below_set ?_ GE364.out|refine below_set ?_ GE369.out|refine below_set ?_ GE374.out|refine below_set ?_ GE380.out)|exact HB.out))))
         have n5_:=Aside0.mk (blk_below (g:=gb347) (o:=.cells #[.int .i64 a0_0,.slice A0_1 l0_1.length c0_1] 26 (0,0)) (by (with_reducible repeat (first|refine blk_drewN ?_ _|refine blk_drew ?_|refine blk_alloc ?_ _));exact BK347.out) hb)
         have n6_:=Aside0.mk (blk_below (g:=gb348) (o:=.cells #[.int .i64 a1_0,.slice A1_1 l1_1.length c1_1] 26 (0,0)) (by (with_reducible repeat (first|refine blk_drewN ?_ _|refine blk_drew ?_|refine blk_alloc ?_ _));exact BK348.out) hb)
         have n7_:=Aside0.mk (blk_below (g:=gb364) (o:=.cells #[.int .i64 t359,.slice Ao33 t360.length co33] 28 (0,0)) (by (with_reducible repeat (first|refine blk_drewN ?_ _|refine blk_drew ?_|refine blk_alloc ?_ _));exact BK364.out) hb)
         have n8_:=Aside0.mk (blk_below (g:=gb369) (o:=.cells #[.int .i64 t365,.slice Ao44 t366.length co44] 28 (0,0)) (by (with_reducible repeat (first|refine blk_drewN ?_ _|refine blk_drew ?_|refine blk_alloc ?_ _));exact BK369.out) hb)
         have n9_:=Aside0.mk (blk_below (g:=gb374) (o:=.cells #[.int .i64 t370,.slice Ao54 t371.length co54] 28 (0,0)) (by (with_reducible repeat (first|refine blk_drewN ?_ _|refine blk_drew ?_|refine blk_alloc ?_ _));exact BK374.out) hb)
         have n10_:=Aside0.mk (blk_below (g:=gb380) (o:=.cells #[.int .i64 t375,.slice Ao64 t376.length co64] 28 (0,0)) (by (with_reducible repeat (first|refine blk_drewN ?_ _|refine blk_drew ?_|refine blk_alloc ?_ _));exact BK380.out) hb)
         have n11_:=Aside0.mk (below_step (by repeat (first|(with_reducible first|exact HB.out|apply below_alloc|apply pw_below_drewN|apply below_drew1|refine below_set ?_ GE347.out|refine below_set ?_ GE348.out|refine below_set ?_ GE364.out|refine below_set ?_ GE369.out|refine below_set ?_ GE374.out|refine below_set ?_ GE380.out)|exact HB.out)) hb)
         clear HO_365001
         clear HO_370001
         clear HO_375001
         clear HO_381001
         clear BK347
         clear BK348
         clear BK364
         clear BK369
         clear BK374
         clear BK380
         clear HB
         have HO_365001:=n0_
         have HO_370001:=n1_
         have HO_375001:=n2_
         have HO_381001:=n3_
         have HO385:=n4_
         have BK347:=n5_
         have BK348:=n6_
         have BK364:=n7_
         have BK369:=n8_
         have BK374:=n9_
         have BK380:=n10_
         have HB:=n11_
         clear n0_ n1_ n2_ n3_ n4_ n5_ n6_ n7_ n8_ n9_ n10_ n11_
         (try clear hb)
         (try clear hb2)
         (try clear hk)
         (try clear hi)
         (try clear ho0)
         obtain ⟨Ao98,co98,eo98⟩:=Kd.R_slice HO385.out
         (first|subst eo98|(injection eo98 with f1_ f2_ f3_;have f4_:=f1_.symm;have f5_:=f3_.symm;clear f1_ f2_ f3_;subst f4_;subst f5_))
         refine hK.out _ _ ⟨(blk_cell BK369.out 0).trans rfl,(blk_cell BK369.out 1).trans rfl,(blk_cell BK347.out 0).trans rfl,(blk_cell BK347.out 1).trans rfl⟩ (fun hHeld => ?_)
         clear hK K
         refine norm_ (a':=?_) ?_ ?_
         rotate_left
         ·show Act.put _ (some 56) _ = _
          simp only [Act.put,List.setIfInBounds_toArray,List.set_cons_zero,List.set_cons_succ,i64_w,i32_w]
          rfl
         refine one_ (i:=3) (N:=some 57) #[true,true,true,true,false] rfl rfl (by kernel_rfl) (by decide) (fun K hK => ?_)
         refine goes_ Try.func21 (by kernel_rfl) rfl #[.agg #[.int .i64 t365,.slice Ao44 t366.length co44],.agg #[.int .i64 t382,.slice Ao98 t383.length co98]] (by rfl) rfl rfl (by (try simp only [List.map_toArray,List.map_cons,List.map_nil]);first|done|rfl|(simp only [List.length_drop,List.length_take];rfl)) ?_
         with_reducible refine (laws_eqMatrix.calls kj90 t365 _ _ t366 t382 _ _ t383 t386 _ ?side1 ?side2 ?side3 ?side4 A94.out).mono ?_
         (case side1 => repeat (first|exact (Kd.R_reads' HO_370001.out).2.2|(with_reducible refine Kd.C_alloc ?_ _)|(with_reducible refine Kd.C_drewN ?_ _)|(with_reducible refine Kd.C_drew ?_)))
         (case side2 => exact (Kd.R_reads' HO_370001.out).2.1)
         (case side3 => repeat (first|exact (Kd.R_reads' HO385.out).2.2|(with_reducible refine Kd.C_alloc ?_ _)|(with_reducible refine Kd.C_drewN ?_ _)|(with_reducible refine Kd.C_drew ?_)))
         (case side4 => exact (Kd.R_reads' HO385.out).2.1)
         rintro e w99 ⟨rfl,hb⟩
         refine ⟨_,rfl,?_⟩
         have n0_:=Aside0.mk (Kd.R_below (by (with_reducible repeat (first|apply Kd.R_alloc|apply Kd.R_drewN|apply Kd.R_drew));exact HO_365001.out) hb)
         have n1_:=Aside0.mk (Kd.R_below (by (with_reducible repeat (first|apply Kd.R_alloc|apply Kd.R_drewN|apply Kd.R_drew));exact HO_370001.out) hb)
         have n2_:=Aside0.mk (Kd.R_below (by (with_reducible repeat (first|apply Kd.R_alloc|apply Kd.R_drewN|apply Kd.R_drew));exact HO_375001.out) hb)
         have n3_:=Aside0.mk (Kd.R_below (by (with_reducible repeat (first|apply Kd.R_alloc|apply Kd.R_drewN|apply Kd.R_drew));exact HO_381001.out) hb)
         have n4_:=Aside0.mk (Kd.R_below (by (with_reducible repeat (first|apply Kd.R_alloc|apply Kd.R_drewN|apply Kd.R_drew));exact HO385.out) hb)
         have n5_:=Aside0.mk (blk_below (g:=gb347) (o:=.cells #[.int .i64 a0_0,.slice A0_1 l0_1.length c0_1] 26 (0,0)) (by (with_reducible repeat (first|refine blk_drewN ?_ _|refine blk_drew ?_|refine blk_alloc ?_ _));exact BK347.out) hb)
         have n6_:=Aside0.mk (blk_below (g:=gb348) (o:=.cells #[.int .i64 a1_0,.slice A1_1 l1_1.length c1_1] 26 (0,0)) (by (with_reducible repeat (first|refine blk_drewN ?_ _|refine blk_drew ?_|refine blk_alloc ?_ _));exact BK348.out) hb)
         have n7_:=Aside0.mk (blk_below (g:=gb364) (o:=.cells #[.int .i64 t359,.slice Ao33 t360.length co33] 28 (0,0)) (by (with_reducible repeat (first|refine blk_drewN ?_ _|refine blk_drew ?_|refine blk_alloc ?_ _));exact BK364.out) hb)
         have n8_:=Aside0.mk (blk_below (g:=gb369) (o:=.cells #[.int .i64 t365,.slice Ao44 t366.length co44] 28 (0,0)) (by (with_reducible repeat (first|refine blk_drewN ?_ _|refine blk_drew ?_|refine blk_alloc ?_ _));exact BK369.out) hb)
         have n9_:=Aside0.mk (blk_below (g:=gb374) (o:=.cells #[.int .i64 t370,.slice Ao54 t371.length co54] 28 (0,0)) (by (with_reducible repeat (first|refine blk_drewN ?_ _|refine blk_drew ?_|refine blk_alloc ?_ _));exact BK374.out) hb)
         have n10_:=Aside0.mk (blk_below (g:=gb380) (o:=.cells #[.int .i64 t375,.slice Ao64 t376.length co64] 28 (0,0)) (by (with_reducible repeat (first|refine blk_drewN ?_ _|refine blk_drew ?_|refine blk_alloc ?_ _));exact BK380.out) hb)
         have n11_:=Aside0.mk (below_step (by repeat (first|(with_reducible first|exact HB.out|apply below_alloc|apply pw_below_drewN|apply below_drew1|refine below_set ?_ GE347.out|refine below_set ?_ GE348.out|refine below_set ?_ GE364.out|refine below_set ?_ GE369.out|refine below_set ?_ GE374.out|refine below_set ?_ GE380.out)|exact HB.out)) hb)
         clear HO_365001
         clear HO_370001
         clear HO_375001
         clear HO_381001
         clear HO385
         clear BK347
         clear BK348
         clear BK364
         clear BK369
         clear BK374
         clear BK380
         clear HB
         have HO_365001:=n0_
         have HO_370001:=n1_
         have HO_375001:=n2_
         have HO_381001:=n3_
         have HO385:=n4_
         have BK347:=n5_
         have BK348:=n6_
         have BK364:=n7_
         have BK369:=n8_
         have BK374:=n9_
         have BK380:=n10_
         have HB:=n11_
         clear n0_ n1_ n2_ n3_ n4_ n5_ n6_ n7_ n8_ n9_ n10_ n11_
         (try clear hb)
         (try clear hb2)
         (try clear hk)
         (try clear hi)
         refine hK.out _ _ ⟨(blk_cell BK369.out 0).trans rfl,(blk_cell BK369.out 1).trans rfl,(blk_cell BK347.out 0).trans rfl,(blk_cell BK347.out 1).trans rfl⟩ (fun hHeld => ?_)
         clear hK K
         refine norm_ (a':=?_) ?_ ?_
         rotate_left
         ·show Act.put _ (some 57) _ = _
          simp only [Act.put,List.setIfInBounds_toArray,List.set_cons_zero,List.set_cons_succ,i64_w,i32_w]
          rfl
         refine pure_ (i:=4) (N:=some 58) (v:=?_) (a':=?_) #[true,true,true,true,true] rfl rfl (by kernel_rfl) (fun _ _ _ h => h) (Or.inl ⟨by rfl,?_⟩) ?_ ?_
         rotate_left
         ·intro w'
          go_simp
          with_reducible rfl
         rotate_left
         ·simp only [Act.put,List.setIfInBounds_toArray,List.set_cons_zero,List.set_cons_succ,i64_w,i32_w]
          rfl
         refine done_ (by kernel_rfl) ?_
         go_upto_if 58 with (fail)
         go_cut [] (fun wc => ∃ (kq : Nat),Aside0 (laws_FnExactMulGrades.j4 kq t363 t379 a0_0 l0_1 a1_0 l1_1 t359 t360 t365 t366 t370 t371 t375 t376 = some r) ∧ Aside0 (kq ≤ kj90) ∧ Aside0 (Kd.R (Kd.int .i64) 3 wc w.heap.size (fun k_ => some k_ ≠ ((.slice Ao44 t366.length co44) : Value).ownBlock ∧ some k_ ≠ ((.slice Ao54 t371.length co54) : Value).ownBlock ∧ some k_ ≠ ((.slice Ao64 t376.length co64) : Value).ownBlock) (.slice Ao33 t360.length co33) t360) ∧ Aside0 (Kd.R (Kd.int .i64) 3 wc w.heap.size (fun k_ => some k_ ≠ ((.slice Ao33 t360.length co33) : Value).ownBlock ∧ some k_ ≠ ((.slice Ao54 t371.length co54) : Value).ownBlock ∧ some k_ ≠ ((.slice Ao64 t376.length co64) : Value).ownBlock) (.slice Ao44 t366.length co44) t366) ∧ Aside0 (Kd.R (Kd.int .i64) 3 wc w.heap.size (fun k_ => some k_ ≠ ((.slice Ao33 t360.length co33) : Value).ownBlock ∧ some k_ ≠ ((.slice Ao44 t366.length co44) : Value).ownBlock ∧ some k_ ≠ ((.slice Ao64 t376.length co64) : Value).ownBlock) (.slice Ao54 t371.length co54) t371) ∧ Aside0 (Kd.R (Kd.int .i64) 3 wc w.heap.size (fun k_ => some k_ ≠ ((.slice Ao33 t360.length co33) : Value).ownBlock ∧ some k_ ≠ ((.slice Ao44 t366.length co44) : Value).ownBlock ∧ some k_ ≠ ((.slice Ao54 t371.length co54) : Value).ownBlock) (.slice Ao64 t376.length co64) t376) ∧ Aside0 (wc.heap[gb347]? = some (.cells #[.int .i64 a0_0,(.slice A0_1 l0_1.length c0_1)] 26 (0,0))) ∧ Aside0 (wc.heap[gb348]? = some (.cells #[.int .i64 a1_0,(.slice A1_1 l1_1.length c1_1)] 26 (0,0))) ∧ Aside0 (wc.heap[gb364]? = some (.cells #[.int .i64 t359,(.slice Ao33 t360.length co33)] 28 (0,0))) ∧ Aside0 (wc.heap[gb369]? = some (.cells #[.int .i64 t365,(.slice Ao44 t366.length co44)] 28 (0,0))) ∧ Aside0 (wc.heap[gb374]? = some (.cells #[.int .i64 t370,(.slice Ao54 t371.length co54)] 28 (0,0))) ∧ Aside0 (wc.heap[gb380]? = some (.cells #[.int .i64 t375,(.slice Ao64 t376.length co64)] 28 (0,0))) ∧ Aside0 (Below w.heap.size w wc))
         case first =>
          have H:=HC95.out
          clear HC95
          by_cases c100 : t386 = true
          ·subst c100
           have H1 : (laws_FnExactMulGrades.j4 kj90 t363 t379 a0_0 l0_1 a1_0 l1_1 t359 t360 t365 t366 t370 t371 t375 t376) = some r:=by rw [if_pos rfl] at H;exact H
           clear H
           have H:=H1
           clear H1
           have H':=Aside0.mk H
           clear H
           go_wp2
           go_meet
           case rel => exact ⟨_,H',⟨by have:=HJ3.out;have:=HJ11.out;have:=HJ22.out;have:=HJ90.out;first|omega|exact Nat.le_refl _⟩,⟨by (with_reducible repeat (first|apply Kd.R_alloc|apply Kd.R_drewN|apply Kd.R_drew));exact Kd.R_mono HO_365001.out (fun _ hk => ⟨hk.1.1,⟨hk.1.2.1,hk.1.2.2⟩⟩)⟩,⟨by (with_reducible repeat (first|apply Kd.R_alloc|apply Kd.R_drewN|apply Kd.R_drew));exact Kd.R_mono HO_370001.out (fun _ hk => ⟨hk.1.1,⟨hk.1.2.1,hk.1.2.2⟩⟩)⟩,⟨by (with_reducible repeat (first|apply Kd.R_alloc|apply Kd.R_drewN|apply Kd.R_drew));exact Kd.R_mono HO_375001.out (fun _ hk => ⟨hk.1.1,⟨hk.1.2.1,hk.1.2.2⟩⟩)⟩,⟨by (with_reducible repeat (first|apply Kd.R_alloc|apply Kd.R_drewN|apply Kd.R_drew));exact Kd.R_mono HO_381001.out (fun _ hk => ⟨hk.1.1,⟨hk.1.2.1,hk.1.2.2⟩⟩)⟩,⟨by (with_reducible repeat (first|refine blk_drewN ?_ _|refine blk_drew ?_|refine blk_alloc ?_ _));exact BK347.out⟩,⟨by (with_reducible repeat (first|refine blk_drewN ?_ _|refine blk_drew ?_|refine blk_alloc ?_ _));exact BK348.out⟩,⟨by (with_reducible repeat (first|refine blk_drewN ?_ _|refine blk_drew ?_|refine blk_alloc ?_ _));exact BK364.out⟩,⟨by (with_reducible repeat (first|refine blk_drewN ?_ _|refine blk_drew ?_|refine blk_alloc ?_ _));exact BK369.out⟩,⟨by (with_reducible repeat (first|refine blk_drewN ?_ _|refine blk_drew ?_|refine blk_alloc ?_ _));exact BK374.out⟩,⟨by (with_reducible repeat (first|refine blk_drewN ?_ _|refine blk_drew ?_|refine blk_alloc ?_ _));exact BK380.out⟩,⟨by repeat (first|(with_reducible first|exact HB.out|apply below_alloc|apply pw_below_drewN|apply below_drew1|refine below_set ?_ GE347.out|refine below_set ?_ GE348.out|refine below_set ?_ GE364.out|refine below_set ?_ GE369.out|refine below_set ?_ GE374.out|refine below_set ?_ GE380.out)|exact HB.out)⟩⟩
          ·replace c100:=Bool.eq_false_iff.mpr c100
           subst c100
           have H1 : (some false) = some r:=by rw [if_neg (show ¬ (false = true) by decide)] at H;exact H
           clear H
           have H:=H1
           clear H1
           obtain rfl:=Option.some.inj H
           go_wp2
           go_ret
           exact ⟨by first|rfl|(simp [errW_none,errW_some] <;> rfl)|(simp [*,errW_none,errW_some] <;> rfl),by repeat (first|(with_reducible first|exact HB.out|apply below_alloc|apply pw_below_drewN|apply below_drew1|refine below_set ?_ GE347.out|refine below_set ?_ GE348.out|refine below_set ?_ GE364.out|refine below_set ?_ GE369.out|refine below_set ?_ GE374.out|refine below_set ?_ GE380.out)|exact HB.out)⟩
         case rest =>
          clear HC95
          try clear c1
          try clear c2
          try clear p2
          try clear c3
          try clear c4
          try clear c5
          try clear c6
          try clear c7
          try clear c8
          try clear c9
          try clear c10
          try clear c19
          try clear c21
          try clear c26
          try clear c27
          try clear c35
          try clear c36
          try clear c40
          try clear c41
          try clear c42
          try clear c45
          try clear c49
          try clear c50
          try clear c51
          try clear c52
          try clear c58
          try clear c59
          try clear c60
          try clear c61
          try clear c62
          try clear c66
          try clear c67
          try clear c68
          try clear c69
          try clear c70
          try clear c71
          try clear c73
          try clear c74
          try clear c75
          try clear c76
          try clear c79
          try clear c80
          try clear c81
          try clear c82
          try clear c83
          try clear c85
          try clear c86
          try clear c87
          try clear c88
          try clear c92
          try clear c100
          try clear hcz37_0
          try clear hcz37_1
          try clear hcz43_0
          try clear hcz43_1
          try clear hcz46_0
          try clear hcz46_1
          try clear hcz53_0
          try clear hcz53_1
          try clear hcz55_0
          try clear hcz55_1
          try clear hcz63_0
          try clear hcz63_1
          try clear hcz72_0
          try clear hcz72_1
          try clear hcz77_0
          try clear hcz77_1
          try clear hcz84_0
          try clear hcz84_1
          try clear hcz89_0
          try clear hcz89_1
          try clear hfz37_0
          try clear hfz37_1
          try clear hfz43_0
          try clear hfz43_1
          try clear hfz46_0
          try clear hfz46_1
          try clear hfz53_0
          try clear hfz53_1
          try clear hfz55_0
          try clear hfz55_1
          try clear hfz63_0
          try clear hfz63_1
          try clear hfz72_0
          try clear hfz72_1
          try clear hfz77_0
          try clear hfz77_1
          try clear hfz84_0
          try clear hfz84_1
          try clear hfz89_0
          try clear hfz89_1
          try clear p2
          obtain ⟨kq,HA,HJ94,HO_365001,HO_370001,HO_375001,HO_381001,BK347,BK348,BK364,BK369,BK374,BK380,HB⟩:=hcut
          cases kq with
          | zero => exact absurd HA.out (by simp [laws_FnExactMulGrades.j4])
          | succ kj94 =>
           have H:=HA.out
           clear HA
           simp only [laws_FnExactMulGrades.j4] at H
           replace H:=Option.bind_eq_some_iff.mp H
           obtain ⟨⟨t387,t388⟩,A1010,H⟩:=H
           replace H : ((laws_eqMatrix.f kj94 t370 t371 t387 t388).bind fun t391 => (if t391 = true then (laws_FnExactMulGrades.j5 kj94 t363 t379 a0_0 l0_1 a1_0 l1_1 t359 t360 t365 t366 t370 t371 t375 t376) else (some false))) = some r:=H
           have A101:=Aside0.mk A1010
           clear A1010
           replace H:=Option.bind_eq_some_iff.mp H
           obtain ⟨t391,A1020,H⟩:=H
           replace H : (if t391 = true then (laws_FnExactMulGrades.j5 kj94 t363 t379 a0_0 l0_1 a1_0 l1_1 t359 t360 t365 t366 t370 t371 t375 t376) else (some false)) = some r:=H
           have A102:=Aside0.mk A1020
           clear A1020
           have HC103:=Aside0.mk H
           clear H
           try go_wp2
           have n0_:=Aside0.mk (Kd.R_drew HO_365001.out)
           have n1_:=Aside0.mk (Kd.R_drew HO_370001.out)
           have n2_:=Aside0.mk (Kd.R_drew HO_375001.out)
           have n3_:=Aside0.mk (Kd.R_drew HO_381001.out)
           have n4_:=Aside0.mk (blk_drew BK347.out)
           have n5_:=Aside0.mk (blk_drew BK348.out)
           have n6_:=Aside0.mk (blk_drew BK364.out)
           have n7_:=Aside0.mk (blk_drew BK369.out)
           have n8_:=Aside0.mk (blk_drew BK374.out)
           have n9_:=Aside0.mk (blk_drew BK380.out)
           have n10_:=Aside0.mk (below_drew1 HB.out)
           clear HO_365001
           clear HO_370001
           clear HO_375001
           clear HO_381001
           clear BK347
           clear BK348
           clear BK364
           clear BK369
           clear BK374
           clear BK380
           clear HB
           have HO_365001:=n0_
           have HO_370001:=n1_
           have HO_375001:=n2_
           have HO_381001:=n3_
           have BK347:=n4_
           have BK348:=n5_
           have BK364:=n6_
           have BK369:=n7_
           have BK374:=n8_
           have BK380:=n9_
           have HB:=n10_
           clear n0_ n1_ n2_ n3_ n4_ n5_ n6_ n7_ n8_ n9_ n10_
           refine start_ (n:=5) (S:=fun w' => w'.cell? ⟨gb374,0,none⟩ = some (.int .i64 t370) ∧ w'.cell? ⟨gb374,1,none⟩ = some (.slice Ao54 t371.length co54) ∧ w'.cell? ⟨gb348,0,none⟩ = some (.int .i64 a1_0) ∧ w'.cell? ⟨gb348,1,none⟩ = some (.slice A1_1 l1_1.length c1_1)) (ds:=[]) #[false,false,false,false,false] (by kernel_rfl) rfl rfl ⟨(blk_cell BK374.out 0).trans rfl,(blk_cell BK374.out 1).trans rfl,(blk_cell BK348.out 0).trans rfl,(blk_cell BK348.out 1).trans rfl⟩ (fun hHeld => ?_)
           generalize wc.drew = w104 at HO_365001 HO_370001 HO_375001 HO_381001 BK347 BK348 BK364 BK369 BK374 BK380 HB hHeld ⊢
           refine take_ (i:=0) (N:=some 59) (v:=?_) (a':=?_) #[true,false,false,false,false] rfl rfl (by kernel_rfl) (fun _ _ _ h => h) (Or.inl ⟨by rfl,?_⟩) hHeld ?_ ?_
           rotate_left
           ·rintro w' ⟨s0,s1,s2,s3⟩
            go_simp
            with_reducible rfl
           rotate_left
           ·simp only [Act.put,List.setIfInBounds_toArray,List.set_cons_zero,List.set_cons_succ,i64_w,i32_w]
            rfl
           refine take_ (i:=1) (N:=some 60) (v:=?_) (a':=?_) #[true,true,false,false,false] rfl rfl (by kernel_rfl) (fun _ _ _ h => h) (Or.inl ⟨by rfl,?_⟩) hHeld ?_ ?_
           rotate_left
           ·rintro w' ⟨s0,s1,s2,s3⟩
            go_simp
            with_reducible rfl
           rotate_left
           ·simp only [Act.put,List.setIfInBounds_toArray,List.set_cons_zero,List.set_cons_succ,i64_w,i32_w]
            rfl
           refine one_ (i:=2) (N:=some 61) #[true,true,true,false,false] rfl rfl (by kernel_rfl) (by decide) (fun K hK => ?_)
           refine goes_ Try.func19 (by kernel_rfl) rfl #[.agg #[.int .i64 a1_0,.slice A1_1 l1_1.length c1_1]] (by rfl) rfl rfl (by (try simp only [List.map_toArray,List.map_cons,List.map_nil]);first|done|rfl|(simp only [List.length_drop,List.length_take];rfl)) ?_
           with_reducible refine (laws_toMatrix.calls kj94 a1_0 _ _ l1_1 t387 t388 _ ?side1 ?side2 A101.out).mono ?_
           (case side1 => repeat (first|exact (Kd.C_below HR1_1.out HB.out)|(with_reducible refine Kd.C_alloc ?_ _)|(with_reducible refine Kd.C_drewN ?_ _)|(with_reducible refine Kd.C_drew ?_)))
           (case side2 => exact HC1_1.out)
           rintro e w105 ⟨v389,rfl,ho0,hb⟩
           refine ⟨_,rfl,?_⟩
           have n0_:=Aside0.mk (Kd.R_elder' (by (with_reducible repeat (first|apply Kd.R_alloc|apply Kd.R_drewN|apply Kd.R_drew));exact HO_365001.out) (Kd.R_base ho0) hb)
           have n1_:=Aside0.mk (Kd.R_elder' (by (with_reducible repeat (first|apply Kd.R_alloc|apply Kd.R_drewN|apply Kd.R_drew));exact HO_370001.out) (Kd.R_base ho0) hb)
           have n2_:=Aside0.mk (Kd.R_elder' (by (with_reducible repeat (first|apply Kd.R_alloc|apply Kd.R_drewN|apply Kd.R_drew));exact HO_375001.out) (Kd.R_base ho0) hb)
           have n3_:=Aside0.mk (Kd.R_elder' (by (with_reducible repeat (first|apply Kd.R_alloc|apply Kd.R_drewN|apply Kd.R_drew));exact HO_381001.out) (Kd.R_base ho0) hb)
           have n4_:=Aside0.mk (Kd.R_lower (Kd.R_new' (Kd.R_new' (Kd.R_new' (Kd.R_new' ho0 (Kd.R_lt (by (with_reducible repeat (first|apply Kd.R_alloc|apply Kd.R_drewN|apply Kd.R_drew));exact HO_365001.out))) (Kd.R_lt (by (with_reducible repeat (first|apply Kd.R_alloc|apply Kd.R_drewN|apply Kd.R_drew));exact HO_370001.out))) (Kd.R_lt (by (with_reducible repeat (first|apply Kd.R_alloc|apply Kd.R_drewN|apply Kd.R_drew));exact HO_375001.out))) (Kd.R_lt (by (with_reducible repeat (first|apply Kd.R_alloc|apply Kd.R_drewN|apply Kd.R_drew));exact HO_381001.out))) (below_size (by repeat (first|(with_reducible first|exact HB.out|apply below_alloc|apply pw_below_drewN|apply below_drew1|refine below_set ?_ GE347.out|refine below_set ?_ GE348.out|refine below_set ?_ GE364.out|refine below_set ?_ GE369.out|refine below_set ?_ GE374.out|refine below_set ?_ GE380.out)|exact HB.out))))
           have n5_:=Aside0.mk (blk_below (g:=gb347) (o:=.cells #[.int .i64 a0_0,.slice A0_1 l0_1.length c0_1] 26 (0,0)) (by (with_reducible repeat (first|refine blk_drewN ?_ _|refine blk_drew ?_|refine blk_alloc ?_ _));exact BK347.out) hb)
           have n6_:=Aside0.mk (blk_below (g:=gb348) (o:=.cells #[.int .i64 a1_0,.slice A1_1 l1_1.length c1_1] 26 (0,0)) (by (with_reducible repeat (first|refine blk_drewN ?_ _|refine blk_drew ?_|refine blk_alloc ?_ _));exact BK348.out) hb)
           have n7_:=Aside0.mk (blk_below (g:=gb364) (o:=.cells #[.int .i64 t359,.slice Ao33 t360.length co33] 28 (0,0)) (by (with_reducible repeat (first|refine blk_drewN ?_ _|refine blk_drew ?_|refine blk_alloc ?_ _));exact BK364.out) hb)
           have n8_:=Aside0.mk (blk_below (g:=gb369) (o:=.cells #[.int .i64 t365,.slice Ao44 t366.length co44] 28 (0,0)) (by (with_reducible repeat (first|refine blk_drewN ?_ _|refine blk_drew ?_|refine blk_alloc ?_ _));exact BK369.out) hb)
           have n9_:=Aside0.mk (blk_below (g:=gb374) (o:=.cells #[.int .i64 t370,.slice Ao54 t371.length co54] 28 (0,0)) (by (with_reducible repeat (first|refine blk_drewN ?_ _|refine blk_drew ?_|refine blk_alloc ?_ _));exact BK374.out) hb)
           have n10_:=Aside0.mk (blk_below (g:=gb380) (o:=.cells #[.int .i64 t375,.slice Ao64 t376.length co64] 28 (0,0)) (by (with_reducible repeat (first|refine blk_drewN ?_ _|refine blk_drew ?_|refine blk_alloc ?_ _));exact BK380.out) hb)
           have n11_:=Aside0.mk (below_step (by repeat (first|(with_reducible first|exact HB.out|apply below_alloc|apply pw_below_drewN|apply below_drew1|refine below_set ?_ GE347.out|refine below_set ?_ GE348.out|refine below_set ?_ GE364.out|refine below_set ?_ GE369.out|refine below_set ?_ GE374.out|refine below_set ?_ GE380.out)|exact HB.out)) hb)
           clear HO_365001
           clear HO_370001
           clear HO_375001
           clear HO_381001
           clear BK347
           clear BK348
           clear BK364
           clear BK369
           clear BK374
           clear BK380
           clear HB
           have HO_365001:=n0_
           have HO_370001:=n1_
           have HO_375001:=n2_
           have HO_381001:=n3_
           have HO390:=n4_
           have BK347:=n5_
           have BK348:=n6_
           have BK364:=n7_
           have BK369:=n8_
           have BK374:=n9_
           have BK380:=n10_
           have HB:=n11_
           clear n0_ n1_ n2_ n3_ n4_ n5_ n6_ n7_ n8_ n9_ n10_ n11_
           (try clear hb)
           (try clear hb2)
           (try clear hk)
           (try clear hi)
           (try clear ho0)
           obtain ⟨Ao106,co106,eo106⟩:=Kd.R_slice HO390.out
           (first|subst eo106|(injection eo106 with f1_ f2_ f3_;have f4_:=f1_.symm;have f5_:=f3_.symm;clear f1_ f2_ f3_;subst f4_;subst f5_))
           refine hK.out _ _ ⟨(blk_cell BK374.out 0).trans rfl,(blk_cell BK374.out 1).trans rfl,(blk_cell BK348.out 0).trans rfl,(blk_cell BK348.out 1).trans rfl⟩ (fun hHeld => ?_)
           clear hK K
           refine norm_ (a':=?_) ?_ ?_
           rotate_left
           ·show Act.put _ (some 61) _ = _
            simp only [Act.put,List.setIfInBounds_toArray,List.set_cons_zero,List.set_cons_succ,i64_w,i32_w]
            rfl
           refine one_ (i:=3) (N:=some 62) #[true,true,true,true,false] rfl rfl (by kernel_rfl) (by decide) (fun K hK => ?_)
           refine goes_ Try.func21 (by kernel_rfl) rfl #[.agg #[.int .i64 t370,.slice Ao54 t371.length co54],.agg #[.int .i64 t387,.slice Ao106 t388.length co106]] (by rfl) rfl rfl (by (try simp only [List.map_toArray,List.map_cons,List.map_nil]);first|done|rfl|(simp only [List.length_drop,List.length_take];rfl)) ?_
           with_reducible refine (laws_eqMatrix.calls kj94 t370 _ _ t371 t387 _ _ t388 t391 _ ?side1 ?side2 ?side3 ?side4 A102.out).mono ?_
           (case side1 => repeat (first|exact (Kd.R_reads' HO_375001.out).2.2|(with_reducible refine Kd.C_alloc ?_ _)|(with_reducible refine Kd.C_drewN ?_ _)|(with_reducible refine Kd.C_drew ?_)))
           (case side2 => exact (Kd.R_reads' HO_375001.out).2.1)
           (case side3 => repeat (first|exact (Kd.R_reads' HO390.out).2.2|(with_reducible refine Kd.C_alloc ?_ _)|(with_reducible refine Kd.C_drewN ?_ _)|(with_reducible refine Kd.C_drew ?_)))
           (case side4 => exact (Kd.R_reads' HO390.out).2.1)
           rintro e w107 ⟨rfl,hb⟩
           refine ⟨_,rfl,?_⟩
           have n0_:=Aside0.mk (Kd.R_below (by (with_reducible repeat (first|apply Kd.R_alloc|apply Kd.R_drewN|apply Kd.R_drew));exact HO_365001.out) hb)
           have n1_:=Aside0.mk (Kd.R_below (by (with_reducible repeat (first|apply Kd.R_alloc|apply Kd.R_drewN|apply Kd.R_drew));exact HO_370001.out) hb)
           have n2_:=Aside0.mk (Kd.R_below (by (with_reducible repeat (first|apply Kd.R_alloc|apply Kd.R_drewN|apply Kd.R_drew));exact HO_375001.out) hb)
           have n3_:=Aside0.mk (Kd.R_below (by (with_reducible repeat (first|apply Kd.R_alloc|apply Kd.R_drewN|apply Kd.R_drew));exact HO_381001.out) hb)
           have n4_:=Aside0.mk (Kd.R_below (by (with_reducible repeat (first|apply Kd.R_alloc|apply Kd.R_drewN|apply Kd.R_drew));exact HO390.out) hb)
           have n5_:=Aside0.mk (blk_below (g:=gb347) (o:=.cells #[.int .i64 a0_0,.slice A0_1 l0_1.length c0_1] 26 (0,0)) (by (with_reducible repeat (first|refine blk_drewN ?_ _|refine blk_drew ?_|refine blk_alloc ?_ _));exact BK347.out) hb)
           have n6_:=Aside0.mk (blk_below (g:=gb348) (o:=.cells #[.int .i64 a1_0,.slice A1_1 l1_1.length c1_1] 26 (0,0)) (by (with_reducible repeat (first|refine blk_drewN ?_ _|refine blk_drew ?_|refine blk_alloc ?_ _));exact BK348.out) hb)
           have n7_:=Aside0.mk (blk_below (g:=gb364) (o:=.cells #[.int .i64 t359,.slice Ao33 t360.length co33] 28 (0,0)) (by (with_reducible repeat (first|refine blk_drewN ?_ _|refine blk_drew ?_|refine blk_alloc ?_ _));exact BK364.out) hb)
           have n8_:=Aside0.mk (blk_below (g:=gb369) (o:=.cells #[.int .i64 t365,.slice Ao44 t366.length co44] 28 (0,0)) (by (with_reducible repeat (first|refine blk_drewN ?_ _|refine blk_drew ?_|refine blk_alloc ?_ _));exact BK369.out) hb)
           have n9_:=Aside0.mk (blk_below (g:=gb374) (o:=.cells #[.int .i64 t370,.slice Ao54 t371.length co54] 28 (0,0)) (by (with_reducible repeat (first|refine blk_drewN ?_ _|refine blk_drew ?_|refine blk_alloc ?_ _));exact BK374.out) hb)
           have n10_:=Aside0.mk (blk_below (g:=gb380) (o:=.cells #[.int .i64 t375,.slice Ao64 t376.length co64] 28 (0,0)) (by (with_reducible repeat (first|refine blk_drewN ?_ _|refine blk_drew ?_|refine blk_alloc ?_ _));exact BK380.out) hb)
           have n11_:=Aside0.mk (below_step (by repeat (first|(with_reducible first|exact HB.out|apply below_alloc|apply pw_below_drewN|apply below_drew1|refine below_set ?_ GE347.out|refine below_set ?_ GE348.out|refine below_set ?_ GE364.out|refine below_set ?_ GE369.out|refine below_set ?_ GE374.out|refine below_set ?_ GE380.out)|exact HB.out)) hb)
           clear HO_365001
           clear HO_370001
           clear HO_375001
           clear HO_381001
           clear HO390
           clear BK347
           clear BK348
           clear BK364
           clear BK369
           clear BK374
           clear BK380
           clear HB
           have HO_365001:=n0_
           have HO_370001:=n1_
           have HO_375001:=n2_
           have HO_381001:=n3_
           have HO390:=n4_
           have BK347:=n5_
           have BK348:=n6_
           have BK364:=n7_
           have BK369:=n8_
           have BK374:=n9_
           have BK380:=n10_
           have HB:=n11_
           clear n0_ n1_ n2_ n3_ n4_ n5_ n6_ n7_ n8_ n9_ n10_ n11_
           (try clear hb)
           (try clear hb2)
           (try clear hk)
           (try clear hi)
           refine hK.out _ _ ⟨(blk_cell BK374.out 0).trans rfl,(blk_cell BK374.out 1).trans rfl,(blk_cell BK348.out 0).trans rfl,(blk_cell BK348.out 1).trans rfl⟩ (fun hHeld => ?_)
           clear hK K
           refine norm_ (a':=?_) ?_ ?_
           rotate_left
           ·show Act.put _ (some 62) _ = _
            simp only [Act.put,List.setIfInBounds_toArray,List.set_cons_zero,List.set_cons_succ,i64_w,i32_w]
            rfl
           refine pure_ (i:=4) (N:=some 63) (v:=?_) (a':=?_) #[true,true,true,true,true] rfl rfl (by kernel_rfl) (fun _ _ _ h => h) (Or.inl ⟨by rfl,?_⟩) ?_ ?_
           rotate_left
           ·intro w'
            go_simp
            with_reducible rfl
           rotate_left
           ·simp only [Act.put,List.setIfInBounds_toArray,List.set_cons_zero,List.set_cons_succ,i64_w,i32_w]
            rfl
           refine done_ (by kernel_rfl) ?_
           go_upto_if 63 with (fail)
           go_cut [] (fun wc => ∃ (kq : Nat),Aside0 (laws_FnExactMulGrades.j5 kq t363 t379 a0_0 l0_1 a1_0 l1_1 t359 t360 t365 t366 t370 t371 t375 t376 = some r) ∧ Aside0 (kq ≤ kj94) ∧ Aside0 (Kd.R (Kd.int .i64) 3 wc w.heap.size (fun k_ => some k_ ≠ ((.slice Ao44 t366.length co44) : Value).ownBlock ∧ some k_ ≠ ((.slice Ao54 t371.length co54) : Value).ownBlock ∧ some k_ ≠ ((.slice Ao64 t376.length co64) : Value).ownBlock) (.slice Ao33 t360.length co33) t360) ∧ Aside0 (Kd.R (Kd.int .i64) 3 wc w.heap.size (fun k_ => some k_ ≠ ((.slice Ao33 t360.length co33) : Value).ownBlock ∧ some k_ ≠ ((.slice Ao54 t371.length co54) : Value).ownBlock ∧ some k_ ≠ ((.slice Ao64 t376.length co64) : Value).ownBlock) (.slice Ao44 t366.length co44) t366) ∧ Aside0 (Kd.R (Kd.int .i64) 3 wc w.heap.size (fun k_ => some k_ ≠ ((.slice Ao33 t360.length co33) : Value).ownBlock ∧ some k_ ≠ ((.slice Ao44 t366.length co44) : Value).ownBlock ∧ some k_ ≠ ((.slice Ao64 t376.length co64) : Value).ownBlock) (.slice Ao54 t371.length co54) t371) ∧ Aside0 (Kd.R (Kd.int .i64) 3 wc w.heap.size (fun k_ => some k_ ≠ ((.slice Ao33 t360.length co33) : Value).ownBlock ∧ some k_ ≠ ((.slice Ao44 t366.length co44) : Value).ownBlock ∧ some k_ ≠ ((.slice Ao54 t371.length co54) : Value).ownBlock) (.slice Ao64 t376.length co64) t376) ∧ Aside0 (wc.heap[gb347]? = some (.cells #[.int .i64 a0_0,(.slice A0_1 l0_1.length c0_1)] 26 (0,0))) ∧ Aside0 (wc.heap[gb348]? = some (.cells #[.int .i64 a1_0,(.slice A1_1 l1_1.length c1_1)] 26 (0,0))) ∧ Aside0 (wc.heap[gb364]? = some (.cells #[.int .i64 t359,(.slice Ao33 t360.length co33)] 28 (0,0))) ∧ Aside0 (wc.heap[gb369]? = some (.cells #[.int .i64 t365,(.slice Ao44 t366.length co44)] 28 (0,0))) ∧ Aside0 (wc.heap[gb374]? = some (.cells #[.int .i64 t370,(.slice Ao54 t371.length co54)] 28 (0,0))) ∧ Aside0 (wc.heap[gb380]? = some (.cells #[.int .i64 t375,(.slice Ao64 t376.length co64)] 28 (0,0))) ∧ Aside0 (Below w.heap.size w wc))
           case first =>
            have H:=HC103.out
            clear HC103
            by_cases c108 : t391 = true
            ·subst c108
             have H1 : (laws_FnExactMulGrades.j5 kj94 t363 t379 a0_0 l0_1 a1_0 l1_1 t359 t360 t365 t366 t370 t371 t375 t376) = some r:=by rw [if_pos rfl] at H;exact H
             clear H
             have H:=H1
             clear H1
             have H':=Aside0.mk H
             clear H
             go_wp2
             go_meet
             case rel => exact ⟨_,H',⟨by have:=HJ3.out;have:=HJ11.out;have:=HJ22.out;have:=HJ90.out;have:=HJ94.out;first|omega|exact Nat.le_refl _⟩,⟨by (with_reducible repeat (first|apply Kd.R_alloc|apply Kd.R_drewN|apply Kd.R_drew));exact Kd.R_mono HO_365001.out (fun _ hk => ⟨hk.1.1,⟨hk.1.2.1,hk.1.2.2⟩⟩)⟩,⟨by (with_reducible repeat (first|apply Kd.R_alloc|apply Kd.R_drewN|apply Kd.R_drew));exact Kd.R_mono HO_370001.out (fun _ hk => ⟨hk.1.1,⟨hk.1.2.1,hk.1.2.2⟩⟩)⟩,⟨by (with_reducible repeat (first|apply Kd.R_alloc|apply Kd.R_drewN|apply Kd.R_drew));exact Kd.R_mono HO_375001.out (fun _ hk => ⟨hk.1.1,⟨hk.1.2.1,hk.1.2.2⟩⟩)⟩,⟨by (with_reducible repeat (first|apply Kd.R_alloc|apply Kd.R_drewN|apply Kd.R_drew));exact Kd.R_mono HO_381001.out (fun _ hk => ⟨hk.1.1,⟨hk.1.2.1,hk.1.2.2⟩⟩)⟩,⟨by (with_reducible repeat (first|refine blk_drewN ?_ _|refine blk_drew ?_|refine blk_alloc ?_ _));exact BK347.out⟩,⟨by (with_reducible repeat (first|refine blk_drewN ?_ _|refine blk_drew ?_|refine blk_alloc ?_ _));exact BK348.out⟩,⟨by (with_reducible repeat (first|refine blk_drewN ?_ _|refine blk_drew ?_|refine blk_alloc ?_ _));exact BK364.out⟩,⟨by (with_reducible repeat (first|refine blk_drewN ?_ _|refine blk_drew ?_|refine blk_alloc ?_ _));exact BK369.out⟩,⟨by (with_reducible repeat (first|refine blk_drewN ?_ _|refine blk_drew ?_|refine blk_alloc ?_ _));exact BK374.out⟩,⟨by (with_reducible repeat (first|refine blk_drewN ?_ _|refine blk_drew ?_|refine blk_alloc ?_ _));exact BK380.out⟩,⟨by repeat (first|(with_reducible first|exact HB.out|apply below_alloc|apply pw_below_drewN|apply below_drew1|refine below_set ?_ GE347.out|refine below_set ?_ GE348.out|refine below_set ?_ GE364.out|refine below_set ?_ GE369.out|refine below_set ?_ GE374.out|refine below_set ?_ GE380.out)|exact HB.out)⟩⟩
            ·replace c108:=Bool.eq_false_iff.mpr c108
             subst c108
             have H1 : (some false) = some r:=by rw [if_neg (show ¬ (false = true) by decide)] at H;exact H
             clear H
             have H:=H1
             clear H1
             obtain rfl:=Option.some.inj H
             go_wp2
             go_ret
             exact ⟨by first|rfl|(simp [errW_none,errW_some] <;> rfl)|(simp [*,errW_none,errW_some] <;> rfl),by repeat (first|(with_reducible first|exact HB.out|apply below_alloc|apply pw_below_drewN|apply below_drew1|refine below_set ?_ GE347.out|refine below_set ?_ GE348.out|refine below_set ?_ GE364.out|refine below_set ?_ GE369.out|refine below_set ?_ GE374.out|refine below_set ?_ GE380.out)|exact HB.out)⟩
           case rest =>
            clear HC103
            try clear c1
            try clear c2
            try clear p2
            try clear c3
            try clear c4
            try clear c5
            try clear c6
            try clear c7
            try clear c8
            try clear c9
            try clear c10
            try clear c19
            try clear c21
            try clear c26
            try clear c27
            try clear c35
            try clear c36
            try clear c40
            try clear c41
            try clear c42
            try clear c45
            try clear c49
            try clear c50
            try clear c51
            try clear c52
            try clear c58
            try clear c59
            try clear c60
            try clear c61
            try clear c62
            try clear c66
            try clear c67
            try clear c68
            try clear c69
            try clear c70
            try clear c71
            try clear c73
            try clear c74
            try clear c75
            try clear c76
            try clear c79
            try clear c80
            try clear c81
            try clear c82
            try clear c83
            try clear c85
            try clear c86
            try clear c87
            try clear c88
            try clear c92
            try clear c100
            try clear c108
            try clear hcz37_0
            try clear hcz37_1
            try clear hcz43_0
            try clear hcz43_1
            try clear hcz46_0
            try clear hcz46_1
            try clear hcz53_0
            try clear hcz53_1
            try clear hcz55_0
            try clear hcz55_1
            try clear hcz63_0
            try clear hcz63_1
            try clear hcz72_0
            try clear hcz72_1
            try clear hcz77_0
            try clear hcz77_1
            try clear hcz84_0
            try clear hcz84_1
            try clear hcz89_0
            try clear hcz89_1
            try clear hfz37_0
            try clear hfz37_1
            try clear hfz43_0
            try clear hfz43_1
            try clear hfz46_0
            try clear hfz46_1
            try clear hfz53_0
            try clear hfz53_1
            try clear hfz55_0
            try clear hfz55_1
            try clear hfz63_0
            try clear hfz63_1
            try clear hfz72_0
            try clear hfz72_1
            try clear hfz77_0
            try clear hfz77_1
            try clear hfz84_0
            try clear hfz84_1
            try clear hfz89_0
            try clear hfz89_1
            try clear p2
            obtain ⟨kq,HA,HJ102,HO_365001,HO_370001,HO_375001,HO_381001,BK347,BK348,BK364,BK369,BK374,BK380,HB⟩:=hcut
            cases kq with
            | zero => exact absurd HA.out (by simp [laws_FnExactMulGrades.j5])
            | succ kj102 =>
             have H:=HA.out
             clear HA
             simp only [laws_FnExactMulGrades.j5] at H
             replace H:=Option.bind_eq_some_iff.mp H
             obtain ⟨⟨t392,t393⟩,A1090,H⟩:=H
             replace H : ((laws_markMatrix.f kj102 t370 t371 t392).bind fun bt394 => (if bt394.1 < 0 then (laws_FnExactMulGrades.j6 kj102 t363 true a0_0 l0_1 a1_0 l1_1 t359 t360 t375 t376) else ((laws_eqMatrix.f kj102 t375 t376 t359 t360).bind fun t396 => (if t396 = true then (laws_FnExactMulGrades.j6 kj102 t363 (t379 != t363) a0_0 l0_1 a1_0 l1_1 t359 t360 t375 t376) else (laws_FnExactMulGrades.j6 kj102 t363 true a0_0 l0_1 a1_0 l1_1 t359 t360 t375 t376))))) = some r:=H
             have A109:=Aside0.mk A1090
             clear A1090
             replace H:=Option.bind_eq_some_iff.mp H
             obtain ⟨⟨t394,t395⟩,A1100,H⟩:=H
             replace H : (if t394 < 0 then (laws_FnExactMulGrades.j6 kj102 t363 true a0_0 l0_1 a1_0 l1_1 t359 t360 t375 t376) else ((laws_eqMatrix.f kj102 t375 t376 t359 t360).bind fun t396 => (if t396 = true then (laws_FnExactMulGrades.j6 kj102 t363 (t379 != t363) a0_0 l0_1 a1_0 l1_1 t359 t360 t375 t376) else (laws_FnExactMulGrades.j6 kj102 t363 true a0_0 l0_1 a1_0 l1_1 t359 t360 t375 t376)))) = some r:=H
             have A110:=Aside0.mk A1100
             clear A1100
             have HC111:=Aside0.mk H
             clear H
             have hnb112:=NB369_347.out
             have hnc112:=NB347_369.out
             have hnb113:=NB369_348.out
             have hnc113:=NB348_369.out
             have hnb114:=NB369_364.out
             have hnc114:=NB364_369.out
             have hnb115:=NB369_374.out
             have hnc115:=NB374_369.out
             have hnb116:=NB369_380.out
             have hnc116:=NB380_369.out
             have hcz117_0 : wc.cell? ⟨gb369,0,none⟩ = some (.int .i64 t365):=(blk_cell BK369.out 0).trans rfl
             have hcz117_1 : wc.cell? ⟨gb369,1,none⟩ = some (.slice Ao44 t366.length co44):=(blk_cell BK369.out 1).trans rfl
             have hfz117_0:=blk_frozen BK369.out 0
             have hfz117_1:=blk_frozen BK369.out 1
             go_upto_region 21 with (first|((with_reducible refine gate_callee (f:=22) rfl ?_);refine goesL_ (some 66) rfl rfl Try.func22 (by kernel_rfl) rfl #[.agg #[.int .i64 t365,.slice Ao44 t366.length co44],.int .i64 1] rfl (by (try simp only [List.map_toArray,List.map_cons,List.map_nil]);first|done|rfl|(simp only [List.length_drop,List.length_take];rfl)) ?_;(with_reducible refine (laws_markMatrix.calls kj102 t365 (fun k_ => some k_ = (.slice Ao44 t366.length co44 : Value).ownBlock) (.slice Ao44 t366.length co44) t366 1 t392 t393 w _ ?side1 ?side2 A109.out).mono ?_);(case side1 => repeat (first|(with_reducible first|exact HB.out|apply below_alloc|apply pw_below_drewN|apply below_drew1|refine below_set ?_ GE347.out|refine below_set ?_ GE348.out|refine below_set ?_ GE364.out|refine below_set ?_ GE369.out|refine below_set ?_ GE374.out|refine below_set ?_ GE380.out)|exact HB.out));(case side2 => exact Kd.R_tight rfl HO_370001.out);rintro e w118 ⟨rfl,hy0,hb,hkp⟩;refine ⟨_,rfl,?_⟩;have n0_:=Aside0.mk (Kd.R_mono (ok':=fun k_ => some k_ ≠ (.slice Ao44 t366.length co44 : Value).ownBlock ∧ some k_ ≠ (.slice Ao54 t371.length co54 : Value).ownBlock ∧ some k_ ≠ (.slice Ao64 t376.length co64 : Value).ownBlock) (Kd.R_keptB (HO_365001.out) hkp (fun k_ hk_ hs_ => (hk_.1) hs_)) (fun k_ hk_ => ⟨hk_.1.1,hk_.1.2.1,hk_.1.2.2⟩));have n1_:=Aside0.mk (Kd.R_reok rfl hy0 (fun k_ e_ => HO_370001.out.1 k_ e_));have n2_:=Aside0.mk (Kd.R_mono (ok':=fun k_ => some k_ ≠ (.slice Ao33 t360.length co33 : Value).ownBlock ∧ some k_ ≠ (.slice Ao44 t366.length co44 : Value).ownBlock ∧ some k_ ≠ (.slice Ao64 t376.length co64 : Value).ownBlock) (Kd.R_keptB (HO_375001.out) hkp (fun k_ hk_ hs_ => (hk_.2.1) hs_)) (fun k_ hk_ => ⟨hk_.1.1,hk_.1.2.1,hk_.1.2.2⟩));have n3_:=Aside0.mk (Kd.R_mono (ok':=fun k_ => some k_ ≠ (.slice Ao33 t360.length co33 : Value).ownBlock ∧ some k_ ≠ (.slice Ao44 t366.length co44 : Value).ownBlock ∧ some k_ ≠ (.slice Ao54 t371.length co54 : Value).ownBlock) (Kd.R_keptB (HO_381001.out) hkp (fun k_ hk_ hs_ => (hk_.2.1) hs_)) (fun k_ hk_ => ⟨hk_.1.1,hk_.1.2.1,hk_.1.2.2⟩));have n4_:=Aside0.mk (blk_kept (by (with_reducible repeat (first|refine blk_drewN ?_ _|refine blk_drew ?_|refine blk_alloc ?_ _));exact BK347.out) hkp (fun hs_ => (fun e_ => (Kd.R_ne HO_370001.out BK347.out (by decide)) e_) hs_));have n5_:=Aside0.mk (blk_kept (by (with_reducible repeat (first|refine blk_drewN ?_ _|refine blk_drew ?_|refine blk_alloc ?_ _));exact BK348.out) hkp (fun hs_ => (fun e_ => (Kd.R_ne HO_370001.out BK348.out (by decide)) e_) hs_));have n6_:=Aside0.mk (blk_kept (by (with_reducible repeat (first|refine blk_drewN ?_ _|refine blk_drew ?_|refine blk_alloc ?_ _));exact BK364.out) hkp (fun hs_ => (fun e_ => (Kd.R_ne HO_370001.out BK364.out (by decide)) e_) hs_));have n7_:=Aside0.mk (blk_kept (by (with_reducible repeat (first|refine blk_drewN ?_ _|refine blk_drew ?_|refine blk_alloc ?_ _));exact BK369.out) hkp (fun hs_ => (fun e_ => (Kd.R_ne HO_370001.out BK369.out (by decide)) e_) hs_));have n8_:=Aside0.mk (blk_kept (by (with_reducible repeat (first|refine blk_drewN ?_ _|refine blk_drew ?_|refine blk_alloc ?_ _));exact BK374.out) hkp (fun hs_ => (fun e_ => (Kd.R_ne HO_370001.out BK374.out (by decide)) e_) hs_));have n9_:=Aside0.mk (blk_kept (by (with_reducible repeat (first|refine blk_drewN ?_ _|refine blk_drew ?_|refine blk_alloc ?_ _));exact BK380.out) hkp (fun hs_ => (fun e_ => (Kd.R_ne HO_370001.out BK380.out (by decide)) e_) hs_));have n10_:=Aside0.mk (hb);clear HO_365001;clear HO_370001;clear HO_375001;clear HO_381001;clear BK347;clear BK348;clear BK364;clear BK369;clear BK374;clear BK380;clear HB;have HO_365001:=n0_;have HO_370001:=n1_;have HO_375001:=n2_;have HO_381001:=n3_;have BK347:=n4_;have BK348:=n5_;have BK364:=n6_;have BK369:=n7_;have BK374:=n8_;have BK380:=n9_;have HB:=n10_;clear n0_ n1_ n2_ n3_ n4_ n5_ n6_ n7_ n8_ n9_ n10_;(try clear hb);(try clear hkp);(try clear hy0);have hnb119:=NB374_347.out;have hnc119:=NB347_374.out;have hnb120:=NB374_348.out;have hnc120:=NB348_374.out;have hnb121:=NB374_364.out;have hnc121:=NB364_374.out;have hnb122:=NB374_380.out;have hnc122:=NB380_374.out;have hcz123_0 : w118.cell? ⟨gb374,0,none⟩ = some (.int .i64 t370):=(blk_cell BK374.out 0).trans rfl;have hcz123_1 : w118.cell? ⟨gb374,1,none⟩ = some (.slice Ao54 t371.length co54):=(blk_cell BK374.out 1).trans rfl;have hfz123_0:=blk_frozen BK374.out 0;have hfz123_1:=blk_frozen BK374.out 1)|((with_reducible refine gate_callee (f:=22) rfl ?_);refine goesL_ (some 69) rfl rfl Try.func22 (by kernel_rfl) rfl #[.agg #[.int .i64 t370,.slice Ao54 t371.length co54],.int .i64 t392] rfl (by (try simp only [List.map_toArray,List.map_cons,List.map_nil]);first|done|rfl|(simp only [List.length_drop,List.length_take];rfl)) ?_;(with_reducible refine (laws_markMatrix.calls kj102 t370 (fun k_ => some k_ = (.slice Ao54 t371.length co54 : Value).ownBlock) (.slice Ao54 t371.length co54) t371 t392 t394 t395 w _ ?side1 ?side2 A110.out).mono ?_);(case side1 => repeat (first|(with_reducible first|exact HB.out|apply below_alloc|apply pw_below_drewN|apply below_drew1|refine below_set ?_ GE347.out|refine below_set ?_ GE348.out|refine below_set ?_ GE364.out|refine below_set ?_ GE369.out|refine below_set ?_ GE374.out|refine below_set ?_ GE380.out)|exact HB.out));(case side2 => exact Kd.R_tight rfl HO_375001.out);rintro e w124 ⟨rfl,hy0,hb,hkp⟩;refine ⟨_,rfl,?_⟩;have n0_:=Aside0.mk (Kd.R_mono (ok':=fun k_ => some k_ ≠ (.slice Ao44 t366.length co44 : Value).ownBlock ∧ some k_ ≠ (.slice Ao54 t371.length co54 : Value).ownBlock ∧ some k_ ≠ (.slice Ao64 t376.length co64 : Value).ownBlock) (Kd.R_keptB (HO_365001.out) hkp (fun k_ hk_ hs_ => (hk_.2.1) hs_)) (fun k_ hk_ => ⟨hk_.1.1,hk_.1.2.1,hk_.1.2.2⟩));have n1_:=Aside0.mk (Kd.R_mono (ok':=fun k_ => some k_ ≠ (.slice Ao33 t360.length co33 : Value).ownBlock ∧ some k_ ≠ (.slice Ao54 t371.length co54 : Value).ownBlock ∧ some k_ ≠ (.slice Ao64 t376.length co64 : Value).ownBlock) (Kd.R_keptB (HO_370001.out) hkp (fun k_ hk_ hs_ => (hk_.2.1) hs_)) (fun k_ hk_ => ⟨hk_.1.1,hk_.1.2.1,hk_.1.2.2⟩));have n2_:=Aside0.mk (Kd.R_reok rfl hy0 (fun k_ e_ => HO_375001.out.1 k_ e_));have n3_:=Aside0.mk (Kd.R_mono (ok':=fun k_ => some k_ ≠ (.slice Ao33 t360.length co33 : Value).ownBlock ∧ some k_ ≠ (.slice Ao44 t366.length co44 : Value).ownBlock ∧ some k_ ≠ (.slice Ao54 t371.length co54 : Value).ownBlock) (Kd.R_keptB (HO_381001.out) hkp (fun k_ hk_ hs_ => (hk_.2.2) hs_)) (fun k_ hk_ => ⟨hk_.1.1,hk_.1.2.1,hk_.1.2.2⟩));have n4_:=Aside0.mk (blk_kept (by (with_reducible repeat (first|refine blk_drewN ?_ _|refine blk_drew ?_|refine blk_alloc ?_ _));exact BK347.out) hkp (fun hs_ => (fun e_ => (Kd.R_ne HO_375001.out BK347.out (by decide)) e_) hs_));have n5_:=Aside0.mk (blk_kept (by (with_reducible repeat (first|refine blk_drewN ?_ _|refine blk_drew ?_|refine blk_alloc ?_ _));exact BK348.out) hkp (fun hs_ => (fun e_ => (Kd.R_ne HO_375001.out BK348.out (by decide)) e_) hs_));have n6_:=Aside0.mk (blk_kept (by (with_reducible repeat (first|refine blk_drewN ?_ _|refine blk_drew ?_|refine blk_alloc ?_ _));exact BK364.out) hkp (fun hs_ => (fun e_ => (Kd.R_ne HO_375001.out BK364.out (by decide)) e_) hs_));have n7_:=Aside0.mk (blk_kept (by (with_reducible repeat (first|refine blk_drewN ?_ _|refine blk_drew ?_|refine blk_alloc ?_ _));exact BK369.out) hkp (fun hs_ => (fun e_ => (Kd.R_ne HO_375001.out BK369.out (by decide)) e_) hs_));have n8_:=Aside0.mk (blk_kept (by (with_reducible repeat (first|refine blk_drewN ?_ _|refine blk_drew ?_|refine blk_alloc ?_ _));exact BK374.out) hkp (fun hs_ => (fun e_ => (Kd.R_ne HO_375001.out BK374.out (by decide)) e_) hs_));have n9_:=Aside0.mk (blk_kept (by (with_reducible repeat (first|refine blk_drewN ?_ _|refine blk_drew ?_|refine blk_alloc ?_ _));exact BK380.out) hkp (fun hs_ => (fun e_ => (Kd.R_ne HO_375001.out BK380.out (by decide)) e_) hs_));have n10_:=Aside0.mk (hb);clear HO_365001;clear HO_370001;clear HO_375001;clear HO_381001;clear BK347;clear BK348;clear BK364;clear BK369;clear BK374;clear BK380;clear HB;have HO_365001:=n0_;have HO_370001:=n1_;have HO_375001:=n2_;have HO_381001:=n3_;have BK347:=n4_;have BK348:=n5_;have BK364:=n6_;have BK369:=n7_;have BK374:=n8_;have BK380:=n9_;have HB:=n10_;clear n0_ n1_ n2_ n3_ n4_ n5_ n6_ n7_ n8_ n9_ n10_;(try clear hb);(try clear hkp);(try clear hy0)))
             (try simp only [Act.put,List.setIfInBounds_toArray,List.set_cons_zero,List.set_cons_succ])
             go_cut [82] (fun v82 wc => ∃ (kq : Nat) (x82_110 : Bool),v82 = .bool x82_110 ∧ Aside0 (laws_FnExactMulGrades.j6 kq t363 x82_110 a0_0 l0_1 a1_0 l1_1 t359 t360 t375 t376 = some r) ∧ Aside0 (kq ≤ kj102) ∧ Aside0 (Kd.R (Kd.int .i64) 3 wc w.heap.size (fun k_ => some k_ ≠ ((.slice Ao44 t366.length co44) : Value).ownBlock ∧ some k_ ≠ ((.slice Ao54 t371.length co54) : Value).ownBlock ∧ some k_ ≠ ((.slice Ao64 t376.length co64) : Value).ownBlock) (.slice Ao33 t360.length co33) t360) ∧ Aside0 (Kd.R (Kd.int .i64) 3 wc w.heap.size (fun k_ => some k_ ≠ ((.slice Ao33 t360.length co33) : Value).ownBlock ∧ some k_ ≠ ((.slice Ao54 t371.length co54) : Value).ownBlock ∧ some k_ ≠ ((.slice Ao64 t376.length co64) : Value).ownBlock) (.slice Ao44 t366.length co44) t393) ∧ Aside0 (Kd.R (Kd.int .i64) 3 wc w.heap.size (fun k_ => some k_ ≠ ((.slice Ao33 t360.length co33) : Value).ownBlock ∧ some k_ ≠ ((.slice Ao44 t366.length co44) : Value).ownBlock ∧ some k_ ≠ ((.slice Ao64 t376.length co64) : Value).ownBlock) (.slice Ao54 t371.length co54) t395) ∧ Aside0 (Kd.R (Kd.int .i64) 3 wc w.heap.size (fun k_ => some k_ ≠ ((.slice Ao33 t360.length co33) : Value).ownBlock ∧ some k_ ≠ ((.slice Ao44 t366.length co44) : Value).ownBlock ∧ some k_ ≠ ((.slice Ao54 t371.length co54) : Value).ownBlock) (.slice Ao64 t376.length co64) t376) ∧ Aside0 (wc.heap[gb347]? = some (.cells #[.int .i64 a0_0,(.slice A0_1 l0_1.length c0_1)] 26 (0,0))) ∧ Aside0 (wc.heap[gb348]? = some (.cells #[.int .i64 a1_0,(.slice A1_1 l1_1.length c1_1)] 26 (0,0))) ∧ Aside0 (wc.heap[gb364]? = some (.cells #[.int .i64 t359,(.slice Ao33 t360.length co33)] 28 (0,0))) ∧ Aside0 (wc.heap[gb369]? = some (.cells #[.int .i64 t365,(.slice Ao44 t366.length co44)] 28 (0,0))) ∧ Aside0 (wc.heap[gb374]? = some (.cells #[.int .i64 t370,(.slice Ao54 t371.length co54)] 28 (0,0))) ∧ Aside0 (wc.heap[gb380]? = some (.cells #[.int .i64 t375,(.slice Ao64 t376.length co64)] 28 (0,0))) ∧ Aside0 (Below w.heap.size w wc))
             case first =>
              have H:=HC111.out
              clear HC111
              by_cases c125 : t394 < 0
              ·rw [if_pos c125] at H
               have c125b0 : decide (t394 < 0) = true:=decide_eq_true c125
               clear c125
               (first|rw [c125b0]|(simp only [i64_w,i32_w];rw [c125b0])|skip)
               have H':=Aside0.mk H
               clear H
               go_wp2
               go_meet
               case rel => exact ⟨_,(true),(by first|rfl|(simp;done)|(simp [*];done)),H',⟨by have:=HJ3.out;have:=HJ11.out;have:=HJ22.out;have:=HJ90.out;have:=HJ94.out;have:=HJ102.out;first|omega|exact Nat.le_refl _⟩,⟨by (with_reducible repeat (first|apply Kd.R_alloc|apply Kd.R_drewN|apply Kd.R_drew));exact HO_365001.out⟩,⟨by (with_reducible repeat (first|apply Kd.R_alloc|apply Kd.R_drewN|apply Kd.R_drew));exact HO_370001.out⟩,⟨by (with_reducible repeat (first|apply Kd.R_alloc|apply Kd.R_drewN|apply Kd.R_drew));exact HO_375001.out⟩,⟨by (with_reducible repeat (first|apply Kd.R_alloc|apply Kd.R_drewN|apply Kd.R_drew));exact HO_381001.out⟩,⟨by (with_reducible repeat (first|refine blk_drewN ?_ _|refine blk_drew ?_|refine blk_alloc ?_ _));exact BK347.out⟩,⟨by (with_reducible repeat (first|refine blk_drewN ?_ _|refine blk_drew ?_|refine blk_alloc ?_ _));exact BK348.out⟩,⟨by (with_reducible repeat (first|refine blk_drewN ?_ _|refine blk_drew ?_|refine blk_alloc ?_ _));exact BK364.out⟩,⟨by (with_reducible repeat (first|refine blk_drewN ?_ _|refine blk_drew ?_|refine blk_alloc ?_ _));exact BK369.out⟩,⟨by (with_reducible repeat (first|refine blk_drewN ?_ _|refine blk_drew ?_|refine blk_alloc ?_ _));exact BK374.out⟩,⟨by (with_reducible repeat (first|refine blk_drewN ?_ _|refine blk_drew ?_|refine blk_alloc ?_ _));exact BK380.out⟩,⟨by repeat (first|(with_reducible first|exact HB.out|apply below_alloc|apply pw_below_drewN|apply below_drew1|refine below_set ?_ GE347.out|refine below_set ?_ GE348.out|refine below_set ?_ GE364.out|refine below_set ?_ GE369.out|refine below_set ?_ GE374.out|refine below_set ?_ GE380.out)|exact HB.out)⟩⟩
              ·rw [if_neg c125] at H
               have c125b0 : decide (t394 < 0) = false:=decide_eq_false c125
               clear c125
               (first|rw [c125b0]|(simp only [i64_w,i32_w];rw [c125b0])|skip)
               replace H:=Option.bind_eq_some_iff.mp H
               obtain ⟨t396,A1260,H⟩:=H
               replace H : (if t396 = true then (laws_FnExactMulGrades.j6 kj102 t363 (t379 != t363) a0_0 l0_1 a1_0 l1_1 t359 t360 t375 t376) else (laws_FnExactMulGrades.j6 kj102 t363 true a0_0 l0_1 a1_0 l1_1 t359 t360 t375 t376)) = some r:=H
               have A126:=Aside0.mk A1260
               clear A1260
               by_cases c127 : t396 = true
               ·subst c127
                have H1 : (laws_FnExactMulGrades.j6 kj102 t363 (t379 != t363) a0_0 l0_1 a1_0 l1_1 t359 t360 t375 t376) = some r:=by rw [if_pos rfl] at H;exact H
                clear H
                have H:=H1
                clear H1
                have H':=Aside0.mk H
                clear H
                have hnb128:=NB380_347.out
                have hnc128:=NB347_380.out
                have hnb129:=NB380_348.out
                have hnc129:=NB348_380.out
                have hnb130:=NB380_364.out
                have hnc130:=NB364_380.out
                have hnb131:=NB380_369.out
                have hnc131:=NB369_380.out
                have hnb132:=NB380_374.out
                have hnc132:=NB374_380.out
                have hcz133_0 : w124.cell? ⟨gb380,0,none⟩ = some (.int .i64 t375):=(blk_cell BK380.out 0).trans rfl
                have hcz133_1 : w124.cell? ⟨gb380,1,none⟩ = some (.slice Ao64 t376.length co64):=(blk_cell BK380.out 1).trans rfl
                have hfz133_0:=blk_frozen BK380.out 0
                have hfz133_1:=blk_frozen BK380.out 1
                have hnb134:=NB364_347.out
                have hnc134:=NB347_364.out
                have hnb135:=NB364_348.out
                have hnc135:=NB348_364.out
                have hnb136:=NB364_369.out
                have hnc136:=NB369_364.out
                have hnb137:=NB364_374.out
                have hnc137:=NB374_364.out
                have hcz138_0 : w124.cell? ⟨gb364,0,none⟩ = some (.int .i64 t359):=(blk_cell BK364.out 0).trans rfl
                have hcz138_1 : w124.cell? ⟨gb364,1,none⟩ = some (.slice Ao33 t360.length co33):=(blk_cell BK364.out 1).trans rfl
                have hfz138_0:=blk_frozen BK364.out 0
                have hfz138_1:=blk_frozen BK364.out 1
                go_wp2_with (first|(go_at_call 21;(with_reducible refine (laws_eqMatrix.calls kj102 t375 _ _ t376 t359 _ _ t360 true _ ?side1 ?side2 ?side3 ?side4 A126.out).mono ?_);(case side1 => repeat (first|exact (Kd.R_reads' HO_381001.out).2.2|(with_reducible refine Kd.C_alloc ?_ _)|(with_reducible refine Kd.C_drewN ?_ _)|(with_reducible refine Kd.C_drew ?_)));(case side2 => exact (Kd.R_reads' HO_381001.out).2.1);(case side3 => repeat (first|exact (Kd.R_reads' HO_365001.out).2.2|(with_reducible refine Kd.C_alloc ?_ _)|(with_reducible refine Kd.C_drewN ?_ _)|(with_reducible refine Kd.C_drew ?_)));(case side4 => exact (Kd.R_reads' HO_365001.out).2.1);rintro e w139 ⟨rfl,hb⟩;have n0_:=Aside0.mk (Kd.R_below (by (with_reducible repeat (first|apply Kd.R_alloc|apply Kd.R_drewN|apply Kd.R_drew));exact HO_365001.out) hb);have n1_:=Aside0.mk (Kd.R_below (by (with_reducible repeat (first|apply Kd.R_alloc|apply Kd.R_drewN|apply Kd.R_drew));exact HO_370001.out) hb);have n2_:=Aside0.mk (Kd.R_below (by (with_reducible repeat (first|apply Kd.R_alloc|apply Kd.R_drewN|apply Kd.R_drew));exact HO_375001.out) hb);have n3_:=Aside0.mk (Kd.R_below (by (with_reducible repeat (first|apply Kd.R_alloc|apply Kd.R_drewN|apply Kd.R_drew));exact HO_381001.out) hb);have n4_:=Aside0.mk (blk_below (g:=gb347) (o:=.cells #[.int .i64 a0_0,.slice A0_1 l0_1.length c0_1] 26 (0,0)) (by (with_reducible repeat (first|refine blk_drewN ?_ _|refine blk_drew ?_|refine blk_alloc ?_ _));exact BK347.out) hb);have n5_:=Aside0.mk (blk_below (g:=gb348) (o:=.cells #[.int .i64 a1_0,.slice A1_1 l1_1.length c1_1] 26 (0,0)) (by (with_reducible repeat (first|refine blk_drewN ?_ _|refine blk_drew ?_|refine blk_alloc ?_ _));exact BK348.out) hb);have n6_:=Aside0.mk (blk_below (g:=gb364) (o:=.cells #[.int .i64 t359,.slice Ao33 t360.length co33] 28 (0,0)) (by (with_reducible repeat (first|refine blk_drewN ?_ _|refine blk_drew ?_|refine blk_alloc ?_ _));exact BK364.out) hb);have n7_:=Aside0.mk (blk_below (g:=gb369) (o:=.cells #[.int .i64 t365,.slice Ao44 t366.length co44] 28 (0,0)) (by (with_reducible repeat (first|refine blk_drewN ?_ _|refine blk_drew ?_|refine blk_alloc ?_ _));exact BK369.out) hb);have n8_:=Aside0.mk (blk_below (g:=gb374) (o:=.cells #[.int .i64 t370,.slice Ao54 t371.length co54] 28 (0,0)) (by (with_reducible repeat (first|refine blk_drewN ?_ _|refine blk_drew ?_|refine blk_alloc ?_ _));exact BK374.out) hb);have n9_:=Aside0.mk (blk_below (g:=gb380) (o:=.cells #[.int .i64 t375,.slice Ao64 t376.length co64] 28 (0,0)) (by (with_reducible repeat (first|refine blk_drewN ?_ _|refine blk_drew ?_|refine blk_alloc ?_ _));exact BK380.out) hb);have n10_:=Aside0.mk (below_step (by repeat (first|(with_reducible first|exact HB.out|apply below_alloc|apply pw_below_drewN|apply below_drew1|refine below_set ?_ GE347.out|refine below_set ?_ GE348.out|refine below_set ?_ GE364.out|refine below_set ?_ GE369.out|refine below_set ?_ GE374.out|refine below_set ?_ GE380.out)|exact HB.out)) hb);clear HO_365001;clear HO_370001;clear HO_375001;clear HO_381001;clear BK347;clear BK348;clear BK364;clear BK369;clear BK374;clear BK380;clear HB;have HO_365001:=n0_;have HO_370001:=n1_;have HO_375001:=n2_;have HO_381001:=n3_;have BK347:=n4_;have BK348:=n5_;have BK364:=n6_;have BK369:=n7_;have BK374:=n8_;have BK380:=n9_;have HB:=n10_;clear n0_ n1_ n2_ n3_ n4_ n5_ n6_ n7_ n8_ n9_ n10_;(try clear hb);(try clear hb2);(try clear hk);(try clear hi)))
                go_meet
                case rel => exact ⟨_,((t379 != t363)),(by first|rfl|(simp;done)|(simp [*];done)),H',⟨by have:=HJ3.out;have:=HJ11.out;have:=HJ22.out;have:=HJ90.out;have:=HJ94.out;have:=HJ102.out;first|omega|exact Nat.le_refl _⟩,⟨by (with_reducible repeat (first|apply Kd.R_alloc|apply Kd.R_drewN|apply Kd.R_drew));exact HO_365001.out⟩,⟨by (with_reducible repeat (first|apply Kd.R_alloc|apply Kd.R_drewN|apply Kd.R_drew));exact HO_370001.out⟩,⟨by (with_reducible repeat (first|apply Kd.R_alloc|apply Kd.R_drewN|apply Kd.R_drew));exact HO_375001.out⟩,⟨by (with_reducible repeat (first|apply Kd.R_alloc|apply Kd.R_drewN|apply Kd.R_drew));exact HO_381001.out⟩,⟨by (with_reducible repeat (first|refine blk_drewN ?_ _|refine blk_drew ?_|refine blk_alloc ?_ _));exact BK347.out⟩,⟨by (with_reducible repeat (first|refine blk_drewN ?_ _|refine blk_drew ?_|refine blk_alloc ?_ _));exact BK348.out⟩,⟨by (with_reducible repeat (first|refine blk_drewN ?_ _|refine blk_drew ?_|refine blk_alloc ?_ _));exact BK364.out⟩,⟨by (with_reducible repeat (first|refine blk_drewN ?_ _|refine blk_drew ?_|refine blk_alloc ?_ _));exact BK369.out⟩,⟨by (with_reducible repeat (first|refine blk_drewN ?_ _|refine blk_drew ?_|refine blk_alloc ?_ _));exact BK374.out⟩,⟨by (with_reducible repeat (first|refine blk_drewN ?_ _|refine blk_drew ?_|refine blk_alloc ?_ _));exact BK380.out⟩,⟨by repeat (first|(with_reducible first|exact HB.out|apply below_alloc|apply pw_below_drewN|apply below_drew1|refine below_set ?_ GE347.out|refine below_set ?_ GE348.out|refine below_set ?_ GE364.out|refine below_set ?_ GE369.out|refine below_set ?_ GE374.out|refine below_set ?_ GE380.out)|exact HB.out)⟩⟩
               ·replace c127:=Bool.eq_false_iff.mpr c127
                subst c127
                have H1 : (laws_FnExactMulGrades.j6 kj102 t363 true a0_0 l0_1 a1_0 l1_1 t359 t360 t375 t376) = some r:=by rw [if_neg (show ¬ (false = true) by decide)] at H;exact H
                clear H
                have H:=H1
                clear H1
                have H':=Aside0.mk H
                clear H
                have hnb140:=NB380_347.out
                have hnc140:=NB347_380.out
                have hnb141:=NB380_348.out
                have hnc141:=NB348_380.out
                have hnb142:=NB380_364.out
                have hnc142:=NB364_380.out
                have hnb143:=NB380_369.out
                have hnc143:=NB369_380.out
                have hnb144:=NB380_374.out
                have hnc144:=NB374_380.out
                have hcz145_0 : w124.cell? ⟨gb380,0,none⟩ = some (.int .i64 t375):=(blk_cell BK380.out 0).trans rfl
                have hcz145_1 : w124.cell? ⟨gb380,1,none⟩ = some (.slice Ao64 t376.length co64):=(blk_cell BK380.out 1).trans rfl
                have hfz145_0:=blk_frozen BK380.out 0
                have hfz145_1:=blk_frozen BK380.out 1
                have hnb146:=NB364_347.out
                have hnc146:=NB347_364.out
                have hnb147:=NB364_348.out
                have hnc147:=NB348_364.out
                have hnb148:=NB364_369.out
                have hnc148:=NB369_364.out
                have hnb149:=NB364_374.out
                have hnc149:=NB374_364.out
                have hcz150_0 : w124.cell? ⟨gb364,0,none⟩ = some (.int .i64 t359):=(blk_cell BK364.out 0).trans rfl
                have hcz150_1 : w124.cell? ⟨gb364,1,none⟩ = some (.slice Ao33 t360.length co33):=(blk_cell BK364.out 1).trans rfl
                have hfz150_0:=blk_frozen BK364.out 0
                have hfz150_1:=blk_frozen BK364.out 1
                go_wp2_with (first|(go_at_call 21;(with_reducible refine (laws_eqMatrix.calls kj102 t375 _ _ t376 t359 _ _ t360 false _ ?side1 ?side2 ?side3 ?side4 A126.out).mono ?_);(case side1 => repeat (first|exact (Kd.R_reads' HO_381001.out).2.2|(with_reducible refine Kd.C_alloc ?_ _)|(with_reducible refine Kd.C_drewN ?_ _)|(with_reducible refine Kd.C_drew ?_)));(case side2 => exact (Kd.R_reads' HO_381001.out).2.1);(case side3 => repeat (first|exact (Kd.R_reads' HO_365001.out).2.2|(with_reducible refine Kd.C_alloc ?_ _)|(with_reducible refine Kd.C_drewN ?_ _)|(with_reducible refine Kd.C_drew ?_)));(case side4 => exact (Kd.R_reads' HO_365001.out).2.1);rintro e w151 ⟨rfl,hb⟩;have n0_:=Aside0.mk (Kd.R_below (by (with_reducible repeat (first|apply Kd.R_alloc|apply Kd.R_drewN|apply Kd.R_drew));exact HO_365001.out) hb);have n1_:=Aside0.mk (Kd.R_below (by (with_reducible repeat (first|apply Kd.R_alloc|apply Kd.R_drewN|apply Kd.R_drew));exact HO_370001.out) hb);have n2_:=Aside0.mk (Kd.R_below (by (with_reducible repeat (first|apply Kd.R_alloc|apply Kd.R_drewN|apply Kd.R_drew));exact HO_375001.out) hb);have n3_:=Aside0.mk (Kd.R_below (by (with_reducible repeat (first|apply Kd.R_alloc|apply Kd.R_drewN|apply Kd.R_drew));exact HO_381001.out) hb);have n4_:=Aside0.mk (blk_below (g:=gb347) (o:=.cells #[.int .i64 a0_0,.slice A0_1 l0_1.length c0_1] 26 (0,0)) (by (with_reducible repeat (first|refine blk_drewN ?_ _|refine blk_drew ?_|refine blk_alloc ?_ _));exact BK347.out) hb);have n5_:=Aside0.mk (blk_below (g:=gb348) (o:=.cells #[.int .i64 a1_0,.slice A1_1 l1_1.length c1_1] 26 (0,0)) (by (with_reducible repeat (first|refine blk_drewN ?_ _|refine blk_drew ?_|refine blk_alloc ?_ _));exact BK348.out) hb);have n6_:=Aside0.mk (blk_below (g:=gb364) (o:=.cells #[.int .i64 t359,.slice Ao33 t360.length co33] 28 (0,0)) (by (with_reducible repeat (first|refine blk_drewN ?_ _|refine blk_drew ?_|refine blk_alloc ?_ _));exact BK364.out) hb);have n7_:=Aside0.mk (blk_below (g:=gb369) (o:=.cells #[.int .i64 t365,.slice Ao44 t366.length co44] 28 (0,0)) (by (with_reducible repeat (first|refine blk_drewN ?_ _|refine blk_drew ?_|refine blk_alloc ?_ _));exact BK369.out) hb);have n8_:=Aside0.mk (blk_below (g:=gb374) (o:=.cells #[.int .i64 t370,.slice Ao54 t371.length co54] 28 (0,0)) (by (with_reducible repeat (first|refine blk_drewN ?_ _|refine blk_drew ?_|refine blk_alloc ?_ _));exact BK374.out) hb);have n9_:=Aside0.mk (blk_below (g:=gb380) (o:=.cells #[.int .i64 t375,.slice Ao64 t376.length co64] 28 (0,0)) (by (with_reducible repeat (first|refine blk_drewN ?_ _|refine blk_drew ?_|refine blk_alloc ?_ _));exact BK380.out) hb);have n10_:=Aside0.mk (below_step (by repeat (first|(with_reducible first|exact HB.out|apply below_alloc|apply pw_below_drewN|apply below_drew1|refine below_set ?_ GE347.out|refine below_set ?_ GE348.out|refine below_set ?_ GE364.out|refine below_set ?_ GE369.out|refine below_set ?_ GE374.out|refine below_set ?_ GE380.out)|exact HB.out)) hb);clear HO_365001;clear HO_370001;clear HO_375001;clear HO_381001;clear BK347;clear BK348;clear BK364;clear BK369;clear BK374;clear BK380;clear HB;have HO_365001:=n0_;have HO_370001:=n1_;have HO_375001:=n2_;have HO_381001:=n3_;have BK347:=n4_;have BK348:=n5_;have BK364:=n6_;have BK369:=n7_;have BK374:=n8_;have BK380:=n9_;have HB:=n10_;clear n0_ n1_ n2_ n3_ n4_ n5_ n6_ n7_ n8_ n9_ n10_;(try clear hb);(try clear hb2);(try clear hk);(try clear hi)))
                go_meet
                case rel => exact ⟨_,(true),(by first|rfl|(simp;done)|(simp [*];done)),H',⟨by have:=HJ3.out;have:=HJ11.out;have:=HJ22.out;have:=HJ90.out;have:=HJ94.out;have:=HJ102.out;first|omega|exact Nat.le_refl _⟩,⟨by (with_reducible repeat (first|apply Kd.R_alloc|apply Kd.R_drewN|apply Kd.R_drew));exact HO_365001.out⟩,⟨by (with_reducible repeat (first|apply Kd.R_alloc|apply Kd.R_drewN|apply Kd.R_drew));exact HO_370001.out⟩,⟨by (with_reducible repeat (first|apply Kd.R_alloc|apply Kd.R_drewN|apply Kd.R_drew));exact HO_375001.out⟩,⟨by (with_reducible repeat (first|apply Kd.R_alloc|apply Kd.R_drewN|apply Kd.R_drew));exact HO_381001.out⟩,⟨by (with_reducible repeat (first|refine blk_drewN ?_ _|refine blk_drew ?_|refine blk_alloc ?_ _));exact BK347.out⟩,⟨by (with_reducible repeat (first|refine blk_drewN ?_ _|refine blk_drew ?_|refine blk_alloc ?_ _));exact BK348.out⟩,⟨by (with_reducible repeat (first|refine blk_drewN ?_ _|refine blk_drew ?_|refine blk_alloc ?_ _));exact BK364.out⟩,⟨by (with_reducible repeat (first|refine blk_drewN ?_ _|refine blk_drew ?_|refine blk_alloc ?_ _));exact BK369.out⟩,⟨by (with_reducible repeat (first|refine blk_drewN ?_ _|refine blk_drew ?_|refine blk_alloc ?_ _));exact BK374.out⟩,⟨by (with_reducible repeat (first|refine blk_drewN ?_ _|refine blk_drew ?_|refine blk_alloc ?_ _));exact BK380.out⟩,⟨by repeat (first|(with_reducible first|exact HB.out|apply below_alloc|apply pw_below_drewN|apply below_drew1|refine below_set ?_ GE347.out|refine below_set ?_ GE348.out|refine below_set ?_ GE364.out|refine below_set ?_ GE369.out|refine below_set ?_ GE374.out|refine below_set ?_ GE380.out)|exact HB.out)⟩⟩
             case rest =>
              rename_i zz0_0 zz0_1 zz0_2 zz0_3 zz0_4 zz0_5 zz0_6 zz0_7 zz0_8 zz0_9 zz0_10 zz0_11 zz0_12 zz0_13 zz0_14 zz0_15 zz0_16 zz0_17 zz0_18 zz0_19 zz0_20 zz0_21 zz0_22 zz0_23 zz0_24 zz0_25 zz0_26 zz0_27 zz0_28 zz0_29 zz0_30 zz0_31 zz0_32 zz0_33 zz0_34 zz0_35 zz0_36 zz0_37 zz0_38 zz0_39 zz0_40 zz0_41 zz0_42 zz0_43 zz0_44 zz0_45 zz0_46 zz0_47 zz0_48 zz0_49 zz0_50 zz0_51 zz0_52 zz0_53 zz0_54 zz0_55 zz0_56 zz0_57 zz0_58 zz0_59 zz0_60 zz0_61 zz0_62 zz0_63 zz0_64 zz0_65 zz0_66 zz0_67 zz0_68 zz0_69 zz0_70 zz0_71 zz0_72 zz0_73 zz0_74 zz0_75 zz0_76 zz0_77 zz0_78 zz0_79 zz0_80 zz0_81 zz0_82 zz0_83 zz0_84 zz0_85 zz0_86 zz0_87 zz0_88 zz0_89 zz0_90 zz0_91 zz0_92 zz0_93 zz0_94 zz0_95 zz0_96 zz0_97 zz0_98 zz0_99 zz0_100 zz0_101 zz0_102 zz0_103 zz0_104 zz0_105 zz0_106 zz0_107 zz0_108 zz0_109 zz0_110 zz0_111 zz0_112 zz0_113 zz0_114 zz0_115 zz0_116 zz0_117 zz0_118 zz0_119 zz0_120 zz0_121 zz0_122 zz0_123 zz0_124 zz0_125 zz0_126 zz0_127 zz0_128 zz0_129 zz0_130 zz0_131 zz0_132 zz0_133 zz0_134 zz0_135 zz0_136 zz0_137 zz0_138 zz0_139 zz0_140 zz0_141 zz0_142 zz0_143 zz0_144 zz0_145 zz0_146 zz0_147 zz0_148 zz0_149 zz0_150 zz0_151 zz0_152 zz0_153 zz0_154 zz0_155 zz0_156 zz0_157 zz0_158 zz0_159 zz0_160 zz0_161 zz0_162 zz0_163 zz0_164 zz0_165 zz0_166 zz0_167 zz0_168 zz0_169 zz0_170 zz0_171 zz0_172 zz0_173 zz0_174 zz0_175 zz0_176 zz0_177 zz0_178 zz0_179 zz0_180 zz0_181 zz0_182 zz0_183 zz0_184 zz0_185 zz0_186 zz0_187 zz0_188 zz0_189 zz0_190 zz0_191 zz0_192 zz0_193 zz0_194 zz0_195 zz0_196 zz0_197 zz0_198 zz0_199 zz0_200 zz0_201 zz0_202 zz0_203 zz0_204 zz0_205 zz0_206 zz0_207 zz0_208 zz0_209 zz0_210 zz0_211 zz0_212 zz0_213 zz0_214 zz0_215 zz0_216 zz0_217 zz0_218 zz0_219 zz0_220 zz0_221 zz0_222 zz0_223 zz0_224 zz0_225 zz0_226 zz0_227 zz0_228 zz0_229 zz0_230 zz0_231 zz0_232 zz0_233 zz0_234 zz0_235 zz0_236 zz0_237 zz0_238 zz0_239 zz0_240 zz0_241 zz0_242 zz0_243 zz0_244 zz0_245 zz0_246 zz0_247 zz0_248 zz0_249 zz0_250 zz0_251 zz0_252 zz0_253 zz0_254 zz0_255 zz0_256 zz0_257 zz0_258 zz0_259 zz0_260 zz0_261 zz0_262 zz0_263 zz0_264 zz0_265 zz0_266 zz0_267 zz0_268 zz0_269 zz0_270 zz0_271 zz0_272 zz0_273 zz0_274 zz0_275 zz0_276 zz0_277 zz0_278 zz0_279 zz0_280 zz0_281 zz0_282 zz0_283 zz0_284 zz0_285 zz0_286 zz0_287 zz0_288 zz0_289 zz0_290 zz0_291 zz0_292 zz0_293 zz0_294 zz0_295 zz0_296 zz0_297 zz0_298 zz0_299 zz0_300 zz0_301 zz0_302 zz0_303 zz0_304 zz0_305 zz0_306 zz0_307 zz0_308 zz0_309 zz0_310 zz0_311 zz0_312 zz0_313 zz0_314 zz0_315 zz0_316 zz0_317 zz0_318 zz0_319 zz0_320 zz0_321 zz0_322 zz0_323 zz0_324 zz0_325 zz0_326 zz0_327 zz0_328 zz0_329 zz0_330 zz0_331 zz0_332 zz0_333 zz0_334 zz0_335 zz0_336 zz0_337 zz0_338 zz0_339 zz0_340 zz0_341 zz0_342 zz0_343 zz0_344 zz0_345 zz0_346 zz0_347 zz0_348 zz0_349 zz0_350 zz0_351 zz0_352 zz0_353 zz0_354 zz0_355 zz0_356 zz0_357 zz0_358 zz0_359 zz0_360 zz0_361 zz0_362 zz0_363 zz0_364 zz0_365 zz0_366 zz0_367 zz0_368 zz0_369 zz0_370 zz0_371 zz0_372 zz0_373 zz0_374 zz0_375 zz0_376 zz0_377 zz0_378 zz0_379 zz0_380 zz0_381 zz0_382 zz0_383 zz0_384 zz0_385 zz0_386 zz0_387 zz0_388 zz0_389 zz0_390 zz0_391 zz0_392 zz0_393 zz0_394 zz0_395 zz0_396 zz0_397 zz0_398 zz0_399 zz0_400 zz0_401 zz0_402 zz0_403 zz0_404 zz0_405 zz0_406 zz0_407 zz0_408 zz0_409 zz0_410 zz0_411 zz0_412 zz0_413 zz0_414 zz0_415 zz0_416 zz0_417 zz0_418 zz0_419 zz0_420 zz0_421 zz0_422 zz0_423 zz0_424 zz0_425 zz0_426 zz0_427 zz0_428 zz0_429 zz0_430 zz0_431 zz0_432 zz0_433 zz0_434 zz0_435 zz0_436 zz0_437 zz0_438 zz0_439 zz0_440 zz0_441 zz0_442 zz0_443 zz0_444 zz0_445 zz0_446 zz0_447 zz0_448 zz0_449 zz0_450 zz0_451 zz0_452 zz0_453 zz0_454 zz0_455 zz0_456 zz0_457 zz0_458 zz0_459 zz0_460 zz0_461 zz0_462 zz0_463 zz0_464 zz0_465 zz0_466 zz0_467 zz0_468 zz0_469 zz0_470 zz0_471 zz0_472 zz0_473 zz0_474 zz0_475 zz0_476 zz0_477 zz0_478 zz0_479 zz0_480 zz0_481 zz0_482 zz0_483 zz0_484 zz0_485 zz0_486 zz0_487 zz0_488 zz0_489 zz0_490 zz0_491 zz0_492 zz0_493 zz0_494 zz0_495 zz0_496 zz0_497 zz0_498 zz0_499 zz0_500 zz0_501 zz0_502 zz0_503 zz0_504 zz0_505 zz0_506 zz0_507 zz0_508 zz0_509 zz0_510 zz0_511 zz0_512 zz0_513 zz0_514 zz0_515 zz0_516 zz0_517 zz0_518 zz0_519 zz0_520 zz0_521 zz0_522 zz0_523 zz0_524 zz0_525 zz0_526 zz0_527 zz0_528 zz0_529 zz0_530 zz0_531 zz0_532 zz0_533 zz0_534 zz0_535 zz0_536 zz0_537 zz0_538 zz0_539 zz0_540 zz0_541 zz0_542 zz0_543 zz0_544 zz0_545 zz0_546 zz0_547 zz0_548 zz0_549 zz0_550 zz0_551 zz0_552 zz0_553 zz0_554 zz0_555 zz0_556 zz0_557 zz0_558 zz0_559 zz0_560 zz0_561 zz0_562 zz0_563 zz0_564 zz0_565 zz0_566 zz0_567 zz0_568 zz0_569 zz0_570 zz0_571 zz0_572 zz0_573 zz0_574 zz0_575 zz0_576 zz0_577 zz0_578 zz0_579 zz0_580 zz0_581 zz0_582 zz0_583 zz0_584 zz0_585 zz0_586 zz0_587 zz0_588 zz0_589 zz0_590 zz0_591 zz0_592 zz0_593 zz0_594 zz0_595 zz0_596 zz0_597 zz0_598 zz0_599 zz0_600 zz0_601 zz0_602 zz0_603 zz0_604 zz0_605 zz0_606 zz0_607 zz0_608 zz0_609 zz0_610 zz0_611 zz0_612 zz0_613 zz0_614 zz0_615 zz0_616 zz0_617 zz0_618 zz0_619 zz0_620 zz0_621 zz0_622 zz0_623 zz0_624 zz0_625 zz0_626 zz0_627 zz0_628 zz0_629 zz0_630 zz0_631 zz0_632 zz0_633 zz0_634 zz0_635 zz0_636 zz0_637 zz0_638 zz0_639 zz0_640 zz0_641 zz0_642 zz0_643 zz0_644 zz0_645 zz0_646 zz0_647 zz0_648 zz0_649 zz0_650 zz0_651 zz0_652 zz0_653 zz0_654 zz0_655 zz0_656 zz0_657 zz0_658 zz0_659 zz0_660 zz0_661 zz0_662 zz0_663 zz0_664 zz0_665 zz0_666 zz0_667 zz0_668 zz0_669 zz0_670 zz0_671 zz0_672 zz0_673 zz0_674 zz0_675 zz0_676 zz0_677 zz0_678 zz0_679
              revert hu26 hu28 HR0_1 HC0_1 HR1_1 HC1_1 t349 A3 zz0_0 gb347 w5 GW347 GE347 gb348 w6 GW348 GE348 NB347_348 NB348_347 hnb7 hnc7 w9 zz0_1 zz0_2 zz0_3 zz0_4 kj3 HJ3 t350 A11 hnb13 hnc13 w15 zz0_108 zz0_109 zz0_110 zz0_111 kj11 HJ11 t351 t352 A17 t355 t356 A18 t359 t360 t363 A19 t365 t366 A20 t370 t371 A21 t375 t376 t379 A22 HT_ HW_ w24 zz0_215 v353 v357 gb364 w31 hS_ GW364 GE364 NB347_364 NB364_347 NB348_364 NB364_348 zz0_216 Ao33 co33 hs32 hfs32 hns32_0 hns32_1 hms32_0 hms32_1 hs34 hfs34 hns34_0 hns34_1 hms34_0 hms34_1 zz0_217 hnb35 hnc35 hnb36 hnc36 w38 gb369 w39 GW369 GE369 NB347_369 NB369_347 NB348_369 NB369_348 NB364_369 NB369_364 hnb40 hnc40 hnb41 hnc41 hnb42 hnc42 Ao44 co44 hnb45 hnc45 w47 gb374 w48 GW374 GE374 NB347_374 NB374_347 NB348_374 NB374_348 NB364_374 NB374_364 NB369_374 NB374_369 hnb49 hnc49 hnb50 hnc50 hnb51 hnc51 hnb52 hnc52 Ao54 co54 w56 gb380 w57 zz0_218 zz0_219 zz0_220 zz0_221 zz0_222 zz0_223 zz0_224 GW380 GE380 NB347_380 NB380_347 NB348_380 NB380_348 NB364_380 NB380_364 NB369_380 NB380_369 NB374_380 NB380_374 hnb58 hnc58 hnb59 hnc59 hnb60 hnc60 hnb61 hnc61 hnb62 hnc62 Ao64 co64 HO354 HO358 HO362 HO368 HO373 HO378 zz0_225 x53_22 zz0_327 zz0_328 zz0_329 zz0_330 zz0_331 zz0_332 zz0_333 zz0_334 zz0_335 zz0_336 zz0_337 kj22 HJ22 zz0_338 kj90 HJ90 t382 t383 A93 t386 A94 w96 zz0_442 w97 Ao98 co98 zz0_443 w99 zz0_444 zz0_445 zz0_446 zz0_447 HO385 zz0_448 zz0_449 zz0_450 zz0_451 zz0_452 zz0_453 zz0_454 zz0_455 zz0_456 zz0_457 kj94 HJ94 t387 t388 A101 t391 A102 w104 zz0_560 w105 Ao106 co106 zz0_561 w107 zz0_562 zz0_563 zz0_564 zz0_565 HO390 zz0_566 zz0_567 zz0_568 zz0_569 zz0_570 zz0_571 zz0_572 hHeld zz0_573 u4 zz0_574 zz0_575 zz0_576 zz0_577 zz0_578 zz0_579 zz0_580 zz0_581 zz0_582 zz0_583 zz0_584 zz0_585 zz0_586 zz0_587 zz0_588 zz0_589 zz0_590 zz0_591 zz0_592 zz0_593 zz0_594 zz0_595 zz0_596 zz0_597 zz0_598 zz0_599 zz0_600 zz0_601 zz0_602 zz0_603 zz0_604 zz0_605 zz0_606 zz0_607 zz0_608 zz0_609 zz0_610 zz0_611 zz0_612 zz0_613 zz0_614 zz0_615 zz0_616 zz0_617 zz0_618 zz0_619 zz0_620 zz0_621 zz0_622 zz0_623 zz0_624 zz0_625 zz0_626 zz0_627 zz0_628 zz0_629 zz0_630 zz0_631 zz0_632 zz0_633 zz0_634 zz0_635 zz0_636 zz0_637 zz0_638 zz0_639 zz0_640 zz0_641 zz0_642 zz0_643 zz0_644 zz0_645 zz0_646 zz0_647 zz0_648 zz0_649 zz0_650 zz0_651 zz0_652 zz0_653 zz0_654 zz0_655 zz0_656 zz0_657 zz0_658 zz0_659 zz0_660 zz0_661 zz0_662 zz0_663 zz0_664 zz0_665 zz0_666 zz0_667 zz0_668 zz0_669 zz0_670 zz0_671 zz0_672 zz0_673 zz0_674 zz0_675 kj102 HJ102 t392 t393 A109 t394 t395 A110 HC111 hnb112 hnc112 hnb113 hnc113 hnb114 hnc114 hnb115 hnc115 hnb116 hnc116 hcz117_0 hcz117_1 hfz117_0 hfz117_1 w118 hnb119 hnc119 hnb120 hnc120 hnb121 hnc121 hnb122 hnc122 hcz123_0 hcz123_1 hfz123_0 hfz123_1 w124 HO_365001 HO_370001 HO_375001 HO_381001 BK347 BK348 BK364 BK369 BK374 BK380 HB zz0_676 zz0_677 zz0_678 zz0_679 wc u17 u18 u19 u20 u21 u22 u23 u24 u25 u26 u27 u28 u29 u30 u31 u32 u33 u34 u35 u36 u37 u38 u39 u40 u41 u42 u43 u44 u45 u46 u47 u48 u49 u50 u51 u52 u53 u54 u55 u56 u57 u58 u59 u60 u61 u62 u63 u64 u65 u66 u67 u68 u69 u70 u71 u72 u73 u74 u75 u76 u77 u78 u79 u80 u81 u82 u83 u84 u85 u86 u87 u88 u89 u90 u91 u92 u93 u94 u95 u96 u97 u98 u99 u100 u101 u102 u103 u104 u105 u106 u107 u108 u109 u110 u111 u112 u113 u114 u115 u116 u117 u118 hcut
              exact hG_0.out⟩
end Go.Proofs.Ytengegdaiphfeaa.X
end
