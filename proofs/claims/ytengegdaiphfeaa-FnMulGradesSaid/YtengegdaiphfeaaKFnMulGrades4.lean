import Derived.Test.YtengegdaiphfeaaKFnMulGrades3
section
namespace Go.Proofs.Ytengegdaiphfeaa.X
open Go.RowKit Go.Proofs.YtengegdaiphfeaaW.PrintWords Go.Proofs.YtengegdaiphfeaaW.PrintLast Go.Proofs.YtengegdaiphfeaaW.PrintMore
attribute [local go_sem] max2_int min2_int max_two min_two max_three min_three max_four min_four
set_option linter.unusedVariables false
set_option linter.unusedSimpArgs false
set_option maxHeartbeats 8000000 in
set_option maxRecDepth 100000 in
noncomputable def laws_FnMulGrades.p0 (k : Nat) (A0 : Option Addr) (c0 : Nat) (l0 : List Int) (A1 : Option Addr) (c1 : Nat) (l1 : List Int) (r : Bool) (w : World) : { G_ : Prop // ∀ (hr0 : Kd.C (Kd.int .u8) w A0 l0.length l0) (hc0 : l0.length ≤ c0) (hr1 : Kd.C (Kd.int .u8) w A1 l1.length l1) (hc1 : l1.length ≤ c1) (h : laws_FnMulGrades.f k l0 l1 = some r),Aside0 G_ → Calls Try.prog 9 #[.slice A0 l0.length c0,.slice A1 l1.length c1] w fun e w' => e = .returned (.bool r) ∧ Below w.heap.size w w' }:=⟨_,fun hr0 hc0 hr1 hc1 h hG_0 => by
 have hu28:=Try.underlying28
 have HR0:=Aside0.mk hr0
 have HC0:=Aside0.mk hc0
 clear hr0 hc0
 have HR1:=Aside0.mk hr1
 have HC1:=Aside0.mk hc1
 clear hr1 hc1
 have HB:=Aside0.mk (Below.refl w.heap.size w)
 have H : (if (l0.length : Int) > 1048576 then (laws_FnMulGrades.j0 k l0 l1 true) else (laws_FnMulGrades.j0 k l0 l1 (decide ((l1.length : Int) > 1048576)))) = some r:=h
 clear h
 have HC3:=Aside0.mk H
 clear H
 go_enter Try.func9,Try.ntmps9
 go_upto_region 1 with (fail)
 go_cut [31] (fun v31 wc => ∃ (kq : Nat) (x31_2 : Bool),v31 = .bool x31_2 ∧ Aside0 (laws_FnMulGrades.j0 kq l0 l1 x31_2 = some r) ∧ Aside0 (kq ≤ k) ∧ Aside0 (Below w.heap.size w wc))
 case first =>
  have H:=HC3.out
  clear HC3
  by_cases c4 : (l0.length : Int) > 1048576
  ·rw [if_pos c4] at H
   have c4b0 : decide (1048576 < (l0.length : Int)) = true:=decide_eq_true c4
   have c4b1 : decide (1048576 < l0.length) = true:=decide_eq_true (by omega)
   clear c4
   (first|rw [c4b0]|(simp only [i64_w,i32_w];rw [c4b0])|skip)
   have H':=Aside0.mk H
   clear H
   go_wp2
   go_meet
   case rel => exact ⟨_,(true),(by first|rfl|(simp;done)|(simp [*];done)),H',⟨by first|omega|exact Nat.le_refl _⟩,⟨be0_ HB.out⟩⟩
  ·rw [if_neg c4] at H
   have c4b0 : decide (1048576 < (l0.length : Int)) = false:=decide_eq_false c4
   have c4b1 : decide (1048576 < l0.length) = false:=decide_eq_false (by omega)
   clear c4
   (first|rw [c4b0]|(simp only [i64_w,i32_w];rw [c4b0])|skip)
   have H':=Aside0.mk H
   clear H
   go_wp2
   go_meet
   case rel => exact ⟨_,(decide ((l1.length : Int) > 1048576)),(by first|rfl|(simp;done)|(simp [*];done)),H',⟨by first|omega|exact Nat.le_refl _⟩,⟨be0_ HB.out⟩⟩
 case rest =>
  clear HC3
  try clear c1
  try clear p2
  try clear c4
  try clear c4b0
  try clear c4b1
  obtain ⟨kq,x31_2,rfl,HA,HJ2,HB⟩:=hcut
  cases kq with
  | zero => exact absurd HA.out (by simp [laws_FnMulGrades.j0])
  | succ kj2 =>
   have H:=HA.out
   clear HA
   simp only [laws_FnMulGrades.j0] at H
   have HC5:=Aside0.mk H
   clear H
   go_upto_if 31 with (fail)
   go_cut [] (fun wc => ∃ (kq : Nat),Aside0 (laws_FnMulGrades.j1 kq l0 l1 = some r) ∧ Aside0 (kq ≤ kj2) ∧ Aside0 (Below w.heap.size w wc))
   case first =>
    have H:=HC5.out
    clear HC5
    by_cases c6 : x31_2 = true
    ·subst c6
     have H1 : (some true) = some r:=by rw [if_pos rfl] at H;exact H
     clear H
     have H:=H1
     clear H1
     obtain rfl:=Option.some.inj H
     go_wp2
     go_ret
     exact ⟨by first|rfl|(simp [errW_none,errW_some] <;> rfl)|(simp [*,errW_none,errW_some] <;> rfl),be0_ HB.out⟩
    ·replace c6:=Bool.eq_false_iff.mpr c6
     subst c6
     have H1 : (laws_FnMulGrades.j1 kj2 l0 l1) = some r:=by rw [if_neg (show ¬ (false = true) by decide)] at H;exact H
     clear H
     have H:=H1
     clear H1
     have H':=Aside0.mk H
     clear H
     go_wp2
     go_meet
     case rel => exact ⟨_,H',⟨by have:=HJ2.out;first|omega|exact Nat.le_refl _⟩,⟨be0_ HB.out⟩⟩
   case rest =>
    clear HC5
    try clear c1
    try clear p2
    try clear c4
    try clear c4b0
    try clear c4b1
    try clear c6
    try clear p2
    obtain ⟨kq,HA,HJ4,HB⟩:=hcut
    cases kq with
    | zero => exact absurd HA.out (by simp [laws_FnMulGrades.j1])
    | succ kj4 =>
     have H:=HA.out
     clear HA
     simp only [laws_FnMulGrades.j1] at H
     replace H:=Option.bind_eq_some_iff.mp H
     obtain ⟨⟨t658,t659,t662,t663⟩,A70,H⟩:=H
     replace H : ((impl_MulGrades.f kj4 t658 t659 t662 t663).bind fun bt668 => ((spec_MulGrades.f kj4 t658 t659 t662 t663).bind fun bt674 => ((laws_daMatrix.f kj4 bt668.1 bt668.2.1 bt674.1 bt674.2.1).bind fun t680 => (if t680 = true then (if (bt668.2.2 != bt674.2.2) = true then (laws_FnMulGrades.j2 kj4 l1 bt668.2.2 bt674.2.2 true t658 t659 t662 t663 bt668.1 bt668.2.1 bt674.1 bt674.2.1) else (laws_FnMulGrades.j2 kj4 l1 bt668.2.2 bt674.2.2 (!bt668.2.2) t658 t659 t662 t663 bt668.1 bt668.2.1 bt674.1 bt674.2.1)) else (laws_FnMulGrades.j2 kj4 l1 bt668.2.2 bt674.2.2 true t658 t659 t662 t663 bt668.1 bt668.2.1 bt674.1 bt674.2.1))))) = some r:=H
     have A7:=Aside0.mk A70
     clear A70
     replace H:=Option.bind_eq_some_iff.mp H
     obtain ⟨⟨t668,t669,t672⟩,A80,H⟩:=H
     replace H : ((spec_MulGrades.f kj4 t658 t659 t662 t663).bind fun bt674 => ((laws_daMatrix.f kj4 t668 t669 bt674.1 bt674.2.1).bind fun t680 => (if t680 = true then (if (t672 != bt674.2.2) = true then (laws_FnMulGrades.j2 kj4 l1 t672 bt674.2.2 true t658 t659 t662 t663 t668 t669 bt674.1 bt674.2.1) else (laws_FnMulGrades.j2 kj4 l1 t672 bt674.2.2 (!t672) t658 t659 t662 t663 t668 t669 bt674.1 bt674.2.1)) else (laws_FnMulGrades.j2 kj4 l1 t672 bt674.2.2 true t658 t659 t662 t663 t668 t669 bt674.1 bt674.2.1)))) = some r:=H
     have A8:=Aside0.mk A80
     clear A80
     replace H:=Option.bind_eq_some_iff.mp H
     obtain ⟨⟨t674,t675,t678⟩,A90,H⟩:=H
     replace H : ((laws_daMatrix.f kj4 t668 t669 t674 t675).bind fun t680 => (if t680 = true then (if (t672 != t678) = true then (laws_FnMulGrades.j2 kj4 l1 t672 t678 true t658 t659 t662 t663 t668 t669 t674 t675) else (laws_FnMulGrades.j2 kj4 l1 t672 t678 (!t672) t658 t659 t662 t663 t668 t669 t674 t675)) else (laws_FnMulGrades.j2 kj4 l1 t672 t678 true t658 t659 t662 t663 t668 t669 t674 t675))) = some r:=H
     have A9:=Aside0.mk A90
     clear A90
     have HC10:=Aside0.mk H
     clear H
     go_upto_region 6 with (first|((with_reducible refine gate_callee (f:=34) rfl ?_);refine goesL_ (some 34) rfl rfl Try.func34 (by kernel_rfl) rfl #[.slice A0 l0.length c0] rfl lp_ ?_;(with_reducible refine (spec_DrawMulGrades.calls kj4 _ _ l0 t658 t659 t662 t663 _ ?side1 ?side2 A7.out).mono ?_);(case side1 => repeat (first|exact (Kd.C_below HR0.out HB.out)|(with_reducible refine Kd.C_alloc ?_ _)|(with_reducible refine Kd.C_drewN ?_ _)|(with_reducible refine Kd.C_drew ?_)));(case side2 => exact HC0.out);rintro e w11 ⟨v660,v664,rfl,ho0,ho1,hb⟩;refine ⟨_,rfl,?_⟩;have n0_:=Aside0.mk (Kd.V_lower (Kd.V_mono (ok':=fun k_ => some k_ ≠ (v664 : Value).ownBlock) ho0 (fun k_ hk_ => hk_.2)) (below_size (be0_ HB.out)));have n1_:=Aside0.mk (Kd.R_lower (Kd.R_mono (ok':=fun k_ => True) ho1 (fun _ hk_ => trivial)) (below_size (be0_ HB.out)));have n2_:=Aside0.mk (below_step (be0_ HB.out) hb);clear HB;have HO661:=n0_;have HO665:=n1_;have HB:=n2_;clear n0_ n1_ n2_;(try clear hb);(try clear hb2);(try clear hk);(try clear hi);(try clear ho0);(try clear ho1))|((with_reducible refine gate_dst (N:=5) rfl ?_);(try (refine gate_guard (by rfl) ?_;dsimp only));refine box_event ?hg (N:=5) ?hd (cs:=#[.int .i64 0,.slice none 0 0]) (t:=28) ?hr ?_;(case hd => rfl);(case hg => rfl);(case hr => first|(go_simp;done)|(go_simp;rfl));intro gb666 hg w12 hbox hb;have n0_:=Aside0.mk (Kd.V_below (Kd.V_elderB (pv_ HO661.out) gb666 (Nat.le_of_eq hg.symm)) hb);have n1_:=Aside0.mk (Kd.R_below (pr_ HO665.out) hb);have n2_:=Aside0.mk (below_step (be0_ HB.out) hb);have n3_:=Aside0.mk (hbox);have n4_:=Aside0.mk ((by rw [hg];exact (below_size (be0_ HB.out)) : w.heap.size ≤ gb666));have n5_:=Aside0.mk ((by rw [hg];exact (below_size (be0_ HB.out)) : w.heap.size ≤ gb666));clear HO661;clear HO665;clear HB;have HO661:=n0_;have HO665:=n1_;have HB:=n2_;have BK666:=n3_;have GW666:=n4_;have GE666:=n5_;clear n0_ n1_ n2_ n3_ n4_ n5_;clear hb hbox hg)|((with_reducible refine gate_dst (N:=6) rfl ?_);(try (refine gate_guard (by rfl) ?_;dsimp only));refine box_event ?hg (N:=6) ?hd (cs:=#[.int .i64 0,.slice none 0 0]) (t:=28) ?hr ?_;(case hd => rfl);(case hg => rfl);(case hr => first|(go_simp;done)|(go_simp;rfl));intro gb667 hg w13 hbox hb;have n0_:=Aside0.mk (Kd.V_below (Kd.V_elderB (pv_ HO661.out) gb667 (Nat.le_of_eq hg.symm)) hb);have n1_:=Aside0.mk (Kd.R_below (pr_ HO665.out) hb);have n2_:=Aside0.mk (blk_below (g:=gb666) (o:=.cells #[.int .i64 0,.slice none 0 0] 28 (0,0)) (pe_ BK666.out) hb);have n3_:=Aside0.mk (below_step (be1_ HB.out GE666.out) hb);have n4_:=Aside0.mk (hbox);have n5_:=Aside0.mk ((by rw [hg];exact (below_size (be1_ HB.out GE666.out)) : w.heap.size ≤ gb667));have n6_:=Aside0.mk ((by rw [hg];exact (below_size (be1_ HB.out GE666.out)) : w.heap.size ≤ gb667));have n7_:=Aside0.mk ((by rw [hg];exact Nat.ne_of_lt (blk_lt (g:=gb666) (o:=.cells #[.int .i64 0,.slice none 0 0] 28 (0,0)) (pe_ BK666.out)) : gb666 ≠ gb667));have n8_:=Aside0.mk ((by rw [hg];exact Nat.ne_of_gt (blk_lt (g:=gb666) (o:=.cells #[.int .i64 0,.slice none 0 0] 28 (0,0)) (pe_ BK666.out)) : gb667 ≠ gb666));clear HO661;clear HO665;clear BK666;clear HB;have HO661:=n0_;have HO665:=n1_;have BK666:=n2_;have HB:=n3_;have BK667:=n4_;have GW667:=n5_;have GE667:=n6_;have NB666_667:=n7_;have NB667_666:=n8_;clear n0_ n1_ n2_ n3_ n4_ n5_ n6_ n7_ n8_;clear hb hbox hg;have hnb14:=NB666_667.out;have hnc14:=NB667_666.out;have hcz15_0 : w13.cell? ⟨gb666,0,none⟩ = some (.int .i64 0):=(blk_cell BK666.out 0).trans rfl;have hcz15_1 : w13.cell? ⟨gb666,1,none⟩ = some (.slice none 0 0):=(blk_cell BK666.out 1).trans rfl;have hfz15_0:=blk_frozen BK666.out 0;have hfz15_1:=blk_frozen BK666.out 1;obtain ⟨Ao16,co16,eo16⟩:=Kd.V_slice HO661.out;subst eo16;have hcz17_0 : w13.cell? ⟨gb667,0,none⟩ = some (.int .i64 0):=(blk_cell BK667.out 0).trans rfl;have hcz17_1 : w13.cell? ⟨gb667,1,none⟩ = some (.slice none 0 0):=(blk_cell BK667.out 1).trans rfl;have hfz17_0:=blk_frozen BK667.out 0;have hfz17_1:=blk_frozen BK667.out 1;obtain ⟨Ao18,co18,eo18⟩:=Kd.R_slice HO665.out;subst eo18)|((with_reducible refine gate_callee (f:=27) rfl ?_);refine goesL_ (some 40) rfl rfl Try.func27 (by kernel_rfl) rfl #[.agg #[.int .i64 t658,.slice Ao16 t659.length co16],.agg #[.int .i64 t662,.slice Ao18 t663.length co18]] rfl lp_ ?_;(with_reducible refine (impl_MulGrades.calls kj4 t658 _ _ t659 t662 _ _ t663 t668 t669 t672 _ ?side1 ?side2 ?side3 ?side4 A8.out).mono ?_);(case side1 => refine (Kd.V_reads' (e:=3) (base:=w.heap.size) (ok:=fun k_ => ((some k_ ≠ (.slice Ao18 t663.length co18 : Value).ownBlock ∧ k_ ≠ gb666) ∧ k_ ≠ gb667)) (n:=t659.length) (c:=co16) ?_).2.2;exact (by refine pv_ ?_;exact (Kd.V_mono (Kd.V_mono (Kd.V_far (p:=⟨gb667,1,none⟩) (Kd.V_far (p:=⟨gb667,0,none⟩) (Kd.V_far (p:=⟨gb666,1,none⟩) (Kd.V_far (p:=⟨gb666,0,none⟩) (Kd.V_mono (Kd.V_mono HO661.out (fun k_ hk => (⟨hk,hk.1.2⟩ : _ ∧ k_ ≠ gb666))) (fun k_ hk => (⟨hk,hk.1.2⟩ : _ ∧ k_ ≠ gb667))) (fun _ hk => hk.1.2) (.int .i64 t658)) (fun _ hk => hk.1.2) (.slice Ao16 t659.length co16)) (fun _ hk => hk.2) (.int .i64 t662)) (fun _ hk => hk.2) (.slice Ao18 t663.length co18)) (fun _ h_ => h_.1)) (fun _ h_ => h_.1))));(case side2 => exact (Kd.V_reads' HO661.out).2.1);(case side3 => refine (Kd.R_reads' (e:=3) (base:=w.heap.size) (ok:=fun k_ => True) (n:=t663.length) (c:=co18) ?_).2.2;exact (by refine pr_ ?_;exact (Kd.R_mono (Kd.R_mono (Kd.R_far (p:=⟨gb667,1,none⟩) (Kd.R_far (p:=⟨gb667,0,none⟩) (Kd.R_far (p:=⟨gb666,1,none⟩) (Kd.R_far (p:=⟨gb666,0,none⟩) (Kd.R_types (Kd.R_types HO665.out BK666.out (by decide)) BK667.out (by decide)) (fun _ hk => hk.1.2) (.int .i64 t658)) (fun _ hk => hk.1.2) (.slice Ao16 t659.length co16)) (fun _ hk => hk.2) (.int .i64 t662)) (fun _ hk => hk.2) (.slice Ao18 t663.length co18)) (fun _ h_ => h_.1)) (fun _ h_ => h_.1))));(case side4 => exact (Kd.R_reads' HO665.out).2.1);rintro e w19 ⟨v670,rfl,ho0,hb⟩;refine ⟨_,rfl,?_⟩;have n0_:=Aside0.mk (Kd.V_elder' (by refine pv_ ?_;exact (Kd.V_mono (Kd.V_mono (Kd.V_far (p:=⟨gb667,1,none⟩) (Kd.V_far (p:=⟨gb667,0,none⟩) (Kd.V_far (p:=⟨gb666,1,none⟩) (Kd.V_far (p:=⟨gb666,0,none⟩) (Kd.V_mono (Kd.V_mono HO661.out (fun k_ hk => (⟨hk,hk.1.2⟩ : _ ∧ k_ ≠ gb666))) (fun k_ hk => (⟨hk,hk.1.2⟩ : _ ∧ k_ ≠ gb667))) (fun _ hk => hk.1.2) (.int .i64 t658)) (fun _ hk => hk.1.2) (.slice Ao16 t659.length co16)) (fun _ hk => hk.2) (.int .i64 t662)) (fun _ hk => hk.2) (.slice Ao18 t663.length co18)) (fun _ h_ => h_.1)) (fun _ h_ => h_.1))) (Kd.R_base ho0) hb);have n1_:=Aside0.mk (Kd.R_elder' (by refine pr_ ?_;exact (Kd.R_mono (Kd.R_mono (Kd.R_far (p:=⟨gb667,1,none⟩) (Kd.R_far (p:=⟨gb667,0,none⟩) (Kd.R_far (p:=⟨gb666,1,none⟩) (Kd.R_far (p:=⟨gb666,0,none⟩) (Kd.R_types (Kd.R_types HO665.out BK666.out (by decide)) BK667.out (by decide)) (fun _ hk => hk.1.2) (.int .i64 t658)) (fun _ hk => hk.1.2) (.slice Ao16 t659.length co16)) (fun _ hk => hk.2) (.int .i64 t662)) (fun _ hk => hk.2) (.slice Ao18 t663.length co18)) (fun _ h_ => h_.1)) (fun _ h_ => h_.1))) (Kd.R_base ho0) hb);have n2_:=Aside0.mk (Kd.R_lower (Kd.R_new' ho0 (Kd.R_lt (by refine pr_ ?_;exact (Kd.R_mono (Kd.R_mono (Kd.R_far (p:=⟨gb667,1,none⟩) (Kd.R_far (p:=⟨gb667,0,none⟩) (Kd.R_far (p:=⟨gb666,1,none⟩) (Kd.R_far (p:=⟨gb666,0,none⟩) (Kd.R_types (Kd.R_types HO665.out BK666.out (by decide)) BK667.out (by decide)) (fun _ hk => hk.1.2) (.int .i64 t658)) (fun _ hk => hk.1.2) (.slice Ao16 t659.length co16)) (fun _ hk => hk.2) (.int .i64 t662)) (fun _ hk => hk.2) (.slice Ao18 t663.length co18)) (fun _ h_ => h_.1)) (fun _ h_ => h_.1))))) (below_size (be2_ HB.out GE666.out GE667.out)));have n3_:=Aside0.mk (blk_below (g:=gb666) (o:=.cells #[.int .i64 t658,.slice Ao16 t659.length co16] 28 (0,0)) (by refine pe_ ?_;refine blk_far ?_ NB666_667.out _;refine pe_ ?_;refine blk_far ?_ NB666_667.out _;refine pe_ ?_;refine blk_put (cs:=#[.int .i64 t658,.slice none 0 0]) ?_ 1 _ rfl;refine pe_ ?_;refine blk_put (cs:=#[.int .i64 0,.slice none 0 0]) ?_ 0 _ rfl;refine pe_ ?_;exact BK666.out) hb);have n4_:=Aside0.mk (blk_below (g:=gb667) (o:=.cells #[.int .i64 t662,.slice Ao18 t663.length co18] 28 (0,0)) (by refine pe_ ?_;refine blk_put (cs:=#[.int .i64 t662,.slice none 0 0]) ?_ 1 _ rfl;refine pe_ ?_;refine blk_put (cs:=#[.int .i64 0,.slice none 0 0]) ?_ 0 _ rfl;refine pe_ ?_;refine blk_far ?_ NB667_666.out _;refine pe_ ?_;refine blk_far ?_ NB667_666.out _;refine pe_ ?_;exact BK667.out) hb);have n5_:=Aside0.mk (below_step (be2_ HB.out GE666.out GE667.out) hb);clear HO661;clear HO665;clear BK666;clear BK667;clear HB;have HO661:=n0_;have HO665:=n1_;have HO671:=n2_;have BK666:=n3_;have BK667:=n4_;have HB:=n5_;clear n0_ n1_ n2_ n3_ n4_ n5_;(try clear hb);(try clear hb2);(try clear hk);(try clear hi);(try clear ho0))|((with_reducible refine gate_dst (N:=7) rfl ?_);(try (refine gate_guard (by rfl) ?_;dsimp only));refine box_event ?hg (N:=7) ?hd (cs:=#[.int .i64 0,.slice none 0 0]) (t:=28) ?hr ?_;(case hd => rfl);(case hg => rfl);(case hr => first|(go_simp;done)|(go_simp;rfl));intro gb673 hg w20 hbox hb;have n0_:=Aside0.mk (Kd.V_below (Kd.V_elderB (pv_ HO661.out) gb673 (Nat.le_of_eq hg.symm)) hb);have n1_:=Aside0.mk (Kd.R_below (pr_ HO665.out) hb);have n2_:=Aside0.mk (Kd.R_below (pr_ HO671.out) hb);have n3_:=Aside0.mk (blk_below (g:=gb666) (o:=.cells #[.int .i64 t658,.slice Ao16 t659.length co16] 28 (0,0)) (pe_ BK666.out) hb);have n4_:=Aside0.mk (blk_below (g:=gb667) (o:=.cells #[.int .i64 t662,.slice Ao18 t663.length co18] 28 (0,0)) (pe_ BK667.out) hb);have n5_:=Aside0.mk (below_step (be2_ HB.out GE666.out GE667.out) hb);have n6_:=Aside0.mk (hbox);have n7_:=Aside0.mk ((by rw [hg];exact (below_size (be2_ HB.out GE666.out GE667.out)) : w.heap.size ≤ gb673));have n8_:=Aside0.mk ((by rw [hg];exact (below_size (be2_ HB.out GE666.out GE667.out)) : w.heap.size ≤ gb673));have n9_:=Aside0.mk ((by rw [hg];exact Nat.ne_of_lt (blk_lt (g:=gb666) (o:=.cells #[.int .i64 t658,.slice Ao16 t659.length co16] 28 (0,0)) (pe_ BK666.out)) : gb666 ≠ gb673));have n10_:=Aside0.mk ((by rw [hg];exact Nat.ne_of_gt (blk_lt (g:=gb666) (o:=.cells #[.int .i64 t658,.slice Ao16 t659.length co16] 28 (0,0)) (pe_ BK666.out)) : gb673 ≠ gb666));have n11_:=Aside0.mk ((by rw [hg];exact Nat.ne_of_lt (blk_lt (g:=gb667) (o:=.cells #[.int .i64 t662,.slice Ao18 t663.length co18] 28 (0,0)) (pe_ BK667.out)) : gb667 ≠ gb673));have n12_:=Aside0.mk ((by rw [hg];exact Nat.ne_of_gt (blk_lt (g:=gb667) (o:=.cells #[.int .i64 t662,.slice Ao18 t663.length co18] 28 (0,0)) (pe_ BK667.out)) : gb673 ≠ gb667));clear HO661;clear HO665;clear HO671;clear BK666;clear BK667;clear HB;have HO661:=n0_;have HO665:=n1_;have HO671:=n2_;have BK666:=n3_;have BK667:=n4_;have HB:=n5_;have BK673:=n6_;have GW673:=n7_;have GE673:=n8_;have NB666_673:=n9_;have NB673_666:=n10_;have NB667_673:=n11_;have NB673_667:=n12_;clear n0_ n1_ n2_ n3_ n4_ n5_ n6_ n7_ n8_ n9_ n10_ n11_ n12_;clear hb hbox hg;have hnb21:=NB673_666.out;have hnc21:=NB666_673.out;have hnb22:=NB673_667.out;have hnc22:=NB667_673.out;have hcz23_0 : w20.cell? ⟨gb673,0,none⟩ = some (.int .i64 0):=(blk_cell BK673.out 0).trans rfl;have hcz23_1 : w20.cell? ⟨gb673,1,none⟩ = some (.slice none 0 0):=(blk_cell BK673.out 1).trans rfl;have hfz23_0:=blk_frozen BK673.out 0;have hfz23_1:=blk_frozen BK673.out 1;obtain ⟨Ao24,co24,eo24⟩:=Kd.R_slice HO671.out;subst eo24;have hcz25_0 : w20.cell? ⟨gb666,0,none⟩ = some (.int .i64 t658):=(blk_cell BK666.out 0).trans rfl;have hcz25_1 : w20.cell? ⟨gb666,1,none⟩ = some (.slice Ao16 t659.length co16):=(blk_cell BK666.out 1).trans rfl;have hfz25_0:=blk_frozen BK666.out 0;have hfz25_1:=blk_frozen BK666.out 1;have hcz26_0 : w20.cell? ⟨gb667,0,none⟩ = some (.int .i64 t662):=(blk_cell BK667.out 0).trans rfl;have hcz26_1 : w20.cell? ⟨gb667,1,none⟩ = some (.slice Ao18 t663.length co18):=(blk_cell BK667.out 1).trans rfl;have hfz26_0:=blk_frozen BK667.out 0;have hfz26_1:=blk_frozen BK667.out 1)|((with_reducible refine gate_callee (f:=26) rfl ?_);refine goesL_ (some 46) rfl rfl Try.func26 (by kernel_rfl) rfl #[.agg #[.int .i64 t658,.slice Ao16 t659.length co16],.agg #[.int .i64 t662,.slice Ao18 t663.length co18]] rfl lp_ ?_;(with_reducible refine (spec_MulGrades.calls kj4 t658 _ _ t659 t662 _ _ t663 t674 t675 t678 _ ?side1 ?side2 ?side3 ?side4 A9.out).mono ?_);(case side1 => refine (Kd.V_reads' (e:=3) (base:=w.heap.size) (ok:=fun k_ => ((((some k_ ≠ (.slice Ao18 t663.length co18 : Value).ownBlock ∧ k_ ≠ gb666) ∧ k_ ≠ gb667) ∧ some k_ ≠ (.slice Ao24 t669.length co24 : Value).ownBlock) ∧ k_ ≠ gb673)) (n:=t659.length) (c:=co16) ?_).2.2;exact (by refine pv_ ?_;exact (Kd.V_mono (Kd.V_far (p:=⟨gb673,1,none⟩) (Kd.V_far (p:=⟨gb673,0,none⟩) (Kd.V_mono HO661.out (fun k_ hk => (⟨hk,hk.2⟩ : _ ∧ k_ ≠ gb673))) (fun _ hk => hk.2) (.int .i64 t668)) (fun _ hk => hk.2) (.slice Ao24 t669.length co24)) (fun _ h_ => h_.1))));(case side2 => exact (Kd.V_reads' HO661.out).2.1);(case side3 => refine (Kd.R_reads' (e:=3) (base:=w.heap.size) (ok:=fun k_ => (True ∧ some k_ ≠ (.slice Ao24 t669.length co24 : Value).ownBlock)) (n:=t663.length) (c:=co18) ?_).2.2;exact (by refine pr_ ?_;exact (Kd.R_mono (Kd.R_far (p:=⟨gb673,1,none⟩) (Kd.R_far (p:=⟨gb673,0,none⟩) (Kd.R_types HO665.out BK673.out (by decide)) (fun _ hk => hk.2) (.int .i64 t668)) (fun _ hk => hk.2) (.slice Ao24 t669.length co24)) (fun _ h_ => h_.1))));(case side4 => exact (Kd.R_reads' HO665.out).2.1);rintro e w27 ⟨v676,rfl,ho0,hb⟩;refine ⟨_,rfl,?_⟩;have n0_:=Aside0.mk (Kd.V_elder' (by refine pv_ ?_;exact (Kd.V_mono (Kd.V_far (p:=⟨gb673,1,none⟩) (Kd.V_far (p:=⟨gb673,0,none⟩) (Kd.V_mono HO661.out (fun k_ hk => (⟨hk,hk.2⟩ : _ ∧ k_ ≠ gb673))) (fun _ hk => hk.2) (.int .i64 t668)) (fun _ hk => hk.2) (.slice Ao24 t669.length co24)) (fun _ h_ => h_.1))) (Kd.R_base ho0) hb);have n1_:=Aside0.mk (Kd.R_elder' (by refine pr_ ?_;exact (Kd.R_mono (Kd.R_far (p:=⟨gb673,1,none⟩) (Kd.R_far (p:=⟨gb673,0,none⟩) (Kd.R_types HO665.out BK673.out (by decide)) (fun _ hk => hk.2) (.int .i64 t668)) (fun _ hk => hk.2) (.slice Ao24 t669.length co24)) (fun _ h_ => h_.1))) (Kd.R_base ho0) hb);have n2_:=Aside0.mk (Kd.R_elder' (by refine pr_ ?_;exact (Kd.R_mono (Kd.R_far (p:=⟨gb673,1,none⟩) (Kd.R_far (p:=⟨gb673,0,none⟩) (Kd.R_types HO671.out BK673.out (by decide)) (fun _ hk => hk.2) (.int .i64 t668)) (fun _ hk => hk.2) (.slice Ao24 t669.length co24)) (fun _ h_ => h_.1))) (Kd.R_base ho0) hb);have n3_:=Aside0.mk (Kd.R_lower (Kd.R_new' (Kd.R_new' ho0 (Kd.R_lt (by refine pr_ ?_;exact (Kd.R_mono (Kd.R_far (p:=⟨gb673,1,none⟩) (Kd.R_far (p:=⟨gb673,0,none⟩) (Kd.R_types HO665.out BK673.out (by decide)) (fun _ hk => hk.2) (.int .i64 t668)) (fun _ hk => hk.2) (.slice Ao24 t669.length co24)) (fun _ h_ => h_.1))))) (Kd.R_lt (by refine pr_ ?_;exact (Kd.R_mono (Kd.R_far (p:=⟨gb673,1,none⟩) (Kd.R_far (p:=⟨gb673,0,none⟩) (Kd.R_types HO671.out BK673.out (by decide)) (fun _ hk => hk.2) (.int .i64 t668)) (fun _ hk => hk.2) (.slice Ao24 t669.length co24)) (fun _ h_ => h_.1))))) (below_size (be3_ HB.out GE666.out GE667.out GE673.out)));have n4_:=Aside0.mk (blk_below (g:=gb666) (o:=.cells #[.int .i64 t658,.slice Ao16 t659.length co16] 28 (0,0)) (by refine pe_ ?_;refine blk_far ?_ NB666_673.out _;refine pe_ ?_;refine blk_far ?_ NB666_673.out _;refine pe_ ?_;exact BK666.out) hb);have n5_:=Aside0.mk (blk_below (g:=gb667) (o:=.cells #[.int .i64 t662,.slice Ao18 t663.length co18] 28 (0,0)) (by refine pe_ ?_;refine blk_far ?_ NB667_673.out _;refine pe_ ?_;refine blk_far ?_ NB667_673.out _;refine pe_ ?_;exact BK667.out) hb);have n6_:=Aside0.mk (blk_below (g:=gb673) (o:=.cells #[.int .i64 t668,.slice Ao24 t669.length co24] 28 (0,0)) (by refine pe_ ?_;refine blk_put (cs:=#[.int .i64 t668,.slice none 0 0]) ?_ 1 _ rfl;refine pe_ ?_;refine blk_put (cs:=#[.int .i64 0,.slice none 0 0]) ?_ 0 _ rfl;refine pe_ ?_;exact BK673.out) hb);have n7_:=Aside0.mk (below_step (be3_ HB.out GE666.out GE667.out GE673.out) hb);clear HO661;clear HO665;clear HO671;clear BK666;clear BK667;clear BK673;clear HB;have HO661:=n0_;have HO665:=n1_;have HO671:=n2_;have HO677:=n3_;have BK666:=n4_;have BK667:=n5_;have BK673:=n6_;have HB:=n7_;clear n0_ n1_ n2_ n3_ n4_ n5_ n6_ n7_;(try clear hb);(try clear hb2);(try clear hk);(try clear hi);(try clear ho0))|((with_reducible refine gate_dst (N:=9) rfl ?_);(try (refine gate_guard (by rfl) ?_;dsimp only));refine box_event ?hg (N:=9) ?hd (cs:=#[.int .i64 0,.slice none 0 0]) (t:=28) ?hr ?_;(case hd => rfl);(case hg => rfl);(case hr => first|(go_simp;done)|(go_simp;rfl));intro gb679 hg w28 hbox hb;have n0_:=Aside0.mk (Kd.V_below (Kd.V_elderB (pv_ HO661.out) gb679 (Nat.le_of_eq hg.symm)) hb);have n1_:=Aside0.mk (Kd.R_below (pr_ HO665.out) hb);have n2_:=Aside0.mk (Kd.R_below (pr_ HO671.out) hb);have n3_:=Aside0.mk (Kd.R_below (pr_ HO677.out) hb);have n4_:=Aside0.mk (blk_below (g:=gb666) (o:=.cells #[.int .i64 t658,.slice Ao16 t659.length co16] 28 (0,0)) (pe_ BK666.out) hb);have n5_:=Aside0.mk (blk_below (g:=gb667) (o:=.cells #[.int .i64 t662,.slice Ao18 t663.length co18] 28 (0,0)) (pe_ BK667.out) hb);have n6_:=Aside0.mk (blk_below (g:=gb673) (o:=.cells #[.int .i64 t668,.slice Ao24 t669.length co24] 28 (0,0)) (pe_ BK673.out) hb);have n7_:=Aside0.mk (below_step (be3_ HB.out GE666.out GE667.out GE673.out) hb);have n8_:=Aside0.mk (hbox);have n9_:=Aside0.mk ((by rw [hg];exact (below_size (be3_ HB.out GE666.out GE667.out GE673.out)) : w.heap.size ≤ gb679));have n10_:=Aside0.mk ((by rw [hg];exact (below_size (be3_ HB.out GE666.out GE667.out GE673.out)) : w.heap.size ≤ gb679));have n11_:=Aside0.mk ((by rw [hg];exact Nat.ne_of_lt (blk_lt (g:=gb666) (o:=.cells #[.int .i64 t658,.slice Ao16 t659.length co16] 28 (0,0)) (pe_ BK666.out)) : gb666 ≠ gb679));have n12_:=Aside0.mk ((by rw [hg];exact Nat.ne_of_gt (blk_lt (g:=gb666) (o:=.cells #[.int .i64 t658,.slice Ao16 t659.length co16] 28 (0,0)) (pe_ BK666.out)) : gb679 ≠ gb666));have n13_:=Aside0.mk ((by rw [hg];exact Nat.ne_of_lt (blk_lt (g:=gb667) (o:=.cells #[.int .i64 t662,.slice Ao18 t663.length co18] 28 (0,0)) (pe_ BK667.out)) : gb667 ≠ gb679));have n14_:=Aside0.mk ((by rw [hg];exact Nat.ne_of_gt (blk_lt (g:=gb667) (o:=.cells #[.int .i64 t662,.slice Ao18 t663.length co18] 28 (0,0)) (pe_ BK667.out)) : gb679 ≠ gb667));have n15_:=Aside0.mk ((by rw [hg];exact Nat.ne_of_lt (blk_lt (g:=gb673) (o:=.cells #[.int .i64 t668,.slice Ao24 t669.length co24] 28 (0,0)) (pe_ BK673.out)) : gb673 ≠ gb679));have n16_:=Aside0.mk ((by rw [hg];exact Nat.ne_of_gt (blk_lt (g:=gb673) (o:=.cells #[.int .i64 t668,.slice Ao24 t669.length co24] 28 (0,0)) (pe_ BK673.out)) : gb679 ≠ gb673));clear HO661;clear HO665;clear HO671;clear HO677;clear BK666;clear BK667;clear BK673;clear HB;have HO661:=n0_;have HO665:=n1_;have HO671:=n2_;have HO677:=n3_;have BK666:=n4_;have BK667:=n5_;have BK673:=n6_;have HB:=n7_;have BK679:=n8_;have GW679:=n9_;have GE679:=n10_;have NB666_679:=n11_;have NB679_666:=n12_;have NB667_679:=n13_;have NB679_667:=n14_;have NB673_679:=n15_;have NB679_673:=n16_;clear n0_ n1_ n2_ n3_ n4_ n5_ n6_ n7_ n8_ n9_ n10_ n11_ n12_ n13_ n14_ n15_ n16_;clear hb hbox hg;have hnb29:=NB679_666.out;have hnc29:=NB666_679.out;have hnb30:=NB679_667.out;have hnc30:=NB667_679.out;have hnb31:=NB679_673.out;have hnc31:=NB673_679.out;have hcz32_0 : w28.cell? ⟨gb679,0,none⟩ = some (.int .i64 0):=(blk_cell BK679.out 0).trans rfl;have hcz32_1 : w28.cell? ⟨gb679,1,none⟩ = some (.slice none 0 0):=(blk_cell BK679.out 1).trans rfl;have hfz32_0:=blk_frozen BK679.out 0;have hfz32_1:=blk_frozen BK679.out 1;obtain ⟨Ao33,co33,eo33⟩:=Kd.R_slice HO677.out;subst eo33))
     (try simp only [Act.put,List.setIfInBounds_toArray,List.set_cons_zero,List.set_cons_succ])
     go_cut [61] (fun v61 wc => ∃ (kq : Nat) (x61_9 : Bool),v61 = .bool x61_9 ∧ Aside0 (laws_FnMulGrades.j2 kq l1 t672 t678 x61_9 t658 t659 t662 t663 t668 t669 t674 t675 = some r) ∧ Aside0 (kq ≤ kj4) ∧ Aside0 (Kd.V (Kd.int .i64) 3 wc w.heap.size (fun k_ => some k_ ≠ ((.slice Ao18 t663.length co18) : Value).ownBlock ∧ some k_ ≠ ((.slice Ao24 t669.length co24) : Value).ownBlock ∧ some k_ ≠ ((.slice Ao33 t675.length co33) : Value).ownBlock ∧ k_ ≠ gb666 ∧ k_ ≠ gb667 ∧ k_ ≠ gb673 ∧ k_ ≠ gb679) (.slice Ao16 t659.length co16) t659) ∧ Aside0 (Kd.R (Kd.int .i64) 3 wc w.heap.size (fun k_ => some k_ ≠ ((.slice Ao24 t669.length co24) : Value).ownBlock ∧ some k_ ≠ ((.slice Ao33 t675.length co33) : Value).ownBlock) (.slice Ao18 t663.length co18) t663) ∧ Aside0 (Kd.R (Kd.int .i64) 3 wc w.heap.size (fun k_ => some k_ ≠ ((.slice Ao18 t663.length co18) : Value).ownBlock ∧ some k_ ≠ ((.slice Ao33 t675.length co33) : Value).ownBlock) (.slice Ao24 t669.length co24) t669) ∧ Aside0 (Kd.R (Kd.int .i64) 3 wc w.heap.size (fun k_ => some k_ ≠ ((.slice Ao18 t663.length co18) : Value).ownBlock ∧ some k_ ≠ ((.slice Ao24 t669.length co24) : Value).ownBlock) (.slice Ao33 t675.length co33) t675) ∧ Aside0 (wc.heap[gb666]? = some (.cells #[.int .i64 t658,(.slice Ao16 t659.length co16)] 28 (0,0))) ∧ Aside0 (wc.heap[gb667]? = some (.cells #[.int .i64 t662,(.slice Ao18 t663.length co18)] 28 (0,0))) ∧ Aside0 (wc.heap[gb673]? = some (.cells #[.int .i64 t668,(.slice Ao24 t669.length co24)] 28 (0,0))) ∧ Aside0 (wc.heap[gb679]? = some (.cells #[.int .i64 t674,(.slice Ao33 t675.length co33)] 28 (0,0))) ∧ Aside0 (Below w.heap.size w wc))
     case first =>
      have H:=HC10.out
      clear HC10
      replace H:=Option.bind_eq_some_iff.mp H
      obtain ⟨t680,A340,H⟩:=H
      replace H : (if t680 = true then (if (t672 != t678) = true then (laws_FnMulGrades.j2 kj4 l1 t672 t678 true t658 t659 t662 t663 t668 t669 t674 t675) else (laws_FnMulGrades.j2 kj4 l1 t672 t678 (!t672) t658 t659 t662 t663 t668 t669 t674 t675)) else (laws_FnMulGrades.j2 kj4 l1 t672 t678 true t658 t659 t662 t663 t668 t669 t674 t675)) = some r:=H
      have A34:=Aside0.mk A340
      clear A340
      by_cases c35 : t680 = true
      ·subst c35
       have H1 : (if (t672 != t678) = true then (laws_FnMulGrades.j2 kj4 l1 t672 t678 true t658 t659 t662 t663 t668 t669 t674 t675) else (laws_FnMulGrades.j2 kj4 l1 t672 t678 (!t672) t658 t659 t662 t663 t668 t669 t674 t675)) = some r:=by rw [if_pos rfl] at H;exact H
       clear H
       have H:=H1
       clear H1
       by_cases c36 : (t672 != t678) = true
       ·rw [if_pos c36] at H
        have c36b0 : (t672 != t678) = true:=c36
        (try (have c36b1 : decide (t672 = t678) = false:=by simpa using c36))
        (try (have c36b2 : (t672 == t678) = false:=by simpa using c36))
        (try (have c36b3 : ¬ (t672 = t678):=by simpa using c36))
        clear c36
        (first|rw [c36b0]|(simp only [i64_w,i32_w];rw [c36b0])|skip)
        have H':=Aside0.mk H
        clear H
        have hnb37:=NB673_666.out
        have hnc37:=NB666_673.out
        have hnb38:=NB673_667.out
        have hnc38:=NB667_673.out
        have hnb39:=NB673_679.out
        have hnc39:=NB679_673.out
        have hcz40_0 : w28.cell? ⟨gb673,0,none⟩ = some (.int .i64 t668):=(blk_cell BK673.out 0).trans rfl
        have hcz40_1 : w28.cell? ⟨gb673,1,none⟩ = some (.slice Ao24 t669.length co24):=(blk_cell BK673.out 1).trans rfl
        have hfz40_0:=blk_frozen BK673.out 0
        have hfz40_1:=blk_frozen BK673.out 1
        have hnb41:=NB679_666.out
        have hnc41:=NB666_679.out
        have hnb42:=NB679_667.out
        have hnc42:=NB667_679.out
        have hcz43_0 : w28.cell? ⟨gb679,0,none⟩ = some (.int .i64 0):=(blk_cell BK679.out 0).trans rfl
        have hcz43_1 : w28.cell? ⟨gb679,1,none⟩ = some (.slice none 0 0):=(blk_cell BK679.out 1).trans rfl
        have hfz43_0:=blk_frozen BK679.out 0
        have hfz43_1:=blk_frozen BK679.out 1
        go_wp2_with (first|((with_reducible refine gate_callee (f:=31) rfl ?_);refine goesL_ (some 51) rfl rfl Try.func31 (by kernel_rfl) rfl #[.agg #[.int .i64 t668,.slice Ao24 t669.length co24],.agg #[.int .i64 t674,.slice Ao33 t675.length co33]] rfl lp_ ?_;(with_reducible refine (laws_daMatrix.calls kj4 t668 _ _ t669 t674 _ _ t675 true _ ?side1 ?side2 ?side3 ?side4 A34.out).mono ?_);(case side1 => refine (Kd.R_reads' (e:=3) (base:=w.heap.size) (ok:=fun k_ => ((True ∧ some k_ ≠ (.slice Ao18 t663.length co18 : Value).ownBlock) ∧ some k_ ≠ (.slice Ao33 t675.length co33 : Value).ownBlock)) (n:=t669.length) (c:=co24) ?_).2.2;exact (by refine pr_ ?_;exact (Kd.R_mono (Kd.R_far (p:=⟨gb679,1,none⟩) (Kd.R_far (p:=⟨gb679,0,none⟩) (Kd.R_types HO671.out BK679.out (by decide)) (fun _ hk => hk.2) (.int .i64 t674)) (fun _ hk => hk.2) (.slice Ao33 t675.length co33)) (fun _ h_ => h_.1))));(case side2 => exact (Kd.R_reads' HO671.out).2.1);(case side3 => refine (Kd.R_reads' (e:=3) (base:=w.heap.size) (ok:=fun k_ => ((True ∧ some k_ ≠ (.slice Ao18 t663.length co18 : Value).ownBlock) ∧ some k_ ≠ (.slice Ao24 t669.length co24 : Value).ownBlock)) (n:=t675.length) (c:=co33) ?_).2.2;exact (by refine pr_ ?_;exact (Kd.R_mono (Kd.R_far (p:=⟨gb679,1,none⟩) (Kd.R_far (p:=⟨gb679,0,none⟩) (Kd.R_types HO677.out BK679.out (by decide)) (fun _ hk => hk.2) (.int .i64 t674)) (fun _ hk => hk.2) (.slice Ao33 t675.length co33)) (fun _ h_ => h_.1))));(case side4 => exact (Kd.R_reads' HO677.out).2.1);rintro e w44 ⟨rfl,hb⟩;refine ⟨_,rfl,?_⟩;have n0_:=Aside0.mk (Kd.V_below (by refine pv_ ?_;exact (Kd.V_mono (Kd.V_far (p:=⟨gb679,1,none⟩) (Kd.V_far (p:=⟨gb679,0,none⟩) (Kd.V_mono HO661.out (fun k_ hk => (⟨hk,hk.2⟩ : _ ∧ k_ ≠ gb679))) (fun _ hk => hk.2) (.int .i64 t674)) (fun _ hk => hk.2) (.slice Ao33 t675.length co33)) (fun _ h_ => h_.1))) hb);have n1_:=Aside0.mk (Kd.R_below (by refine pr_ ?_;exact (Kd.R_mono (Kd.R_far (p:=⟨gb679,1,none⟩) (Kd.R_far (p:=⟨gb679,0,none⟩) (Kd.R_types HO665.out BK679.out (by decide)) (fun _ hk => hk.2) (.int .i64 t674)) (fun _ hk => hk.2) (.slice Ao33 t675.length co33)) (fun _ h_ => h_.1))) hb);have n2_:=Aside0.mk (Kd.R_below (by refine pr_ ?_;exact (Kd.R_mono (Kd.R_far (p:=⟨gb679,1,none⟩) (Kd.R_far (p:=⟨gb679,0,none⟩) (Kd.R_types HO671.out BK679.out (by decide)) (fun _ hk => hk.2) (.int .i64 t674)) (fun _ hk => hk.2) (.slice Ao33 t675.length co33)) (fun _ h_ => h_.1))) hb);have n3_:=Aside0.mk (Kd.R_below (by refine pr_ ?_;exact (Kd.R_mono (Kd.R_far (p:=⟨gb679,1,none⟩) (Kd.R_far (p:=⟨gb679,0,none⟩) (Kd.R_types HO677.out BK679.out (by decide)) (fun _ hk => hk.2) (.int .i64 t674)) (fun _ hk => hk.2) (.slice Ao33 t675.length co33)) (fun _ h_ => h_.1))) hb);have n4_:=Aside0.mk (blk_below (g:=gb666) (o:=.cells #[.int .i64 t658,.slice Ao16 t659.length co16] 28 (0,0)) (by refine pe_ ?_;refine blk_far ?_ NB666_679.out _;refine pe_ ?_;refine blk_far ?_ NB666_679.out _;refine pe_ ?_;exact BK666.out) hb);have n5_:=Aside0.mk (blk_below (g:=gb667) (o:=.cells #[.int .i64 t662,.slice Ao18 t663.length co18] 28 (0,0)) (by refine pe_ ?_;refine blk_far ?_ NB667_679.out _;refine pe_ ?_;refine blk_far ?_ NB667_679.out _;refine pe_ ?_;exact BK667.out) hb);have n6_:=Aside0.mk (blk_below (g:=gb673) (o:=.cells #[.int .i64 t668,.slice Ao24 t669.length co24] 28 (0,0)) (by refine pe_ ?_;refine blk_far ?_ NB673_679.out _;refine pe_ ?_;refine blk_far ?_ NB673_679.out _;refine pe_ ?_;exact BK673.out) hb);have n7_:=Aside0.mk (blk_below (g:=gb679) (o:=.cells #[.int .i64 t674,.slice Ao33 t675.length co33] 28 (0,0)) (by refine pe_ ?_;refine blk_put (cs:=#[.int .i64 t674,.slice none 0 0]) ?_ 1 _ rfl;refine pe_ ?_;refine blk_put (cs:=#[.int .i64 0,.slice none 0 0]) ?_ 0 _ rfl;refine pe_ ?_;exact BK679.out) hb);have n8_:=Aside0.mk (below_step (be4_ HB.out GE666.out GE667.out GE673.out GE679.out) hb);clear HO661;clear HO665;clear HO671;clear HO677;clear BK666;clear BK667;clear BK673;clear BK679;clear HB;have HO661:=n0_;have HO665:=n1_;have HO671:=n2_;have HO677:=n3_;have BK666:=n4_;have BK667:=n5_;have BK673:=n6_;have BK679:=n7_;have HB:=n8_;clear n0_ n1_ n2_ n3_ n4_ n5_ n6_ n7_ n8_;(try clear hb);(try clear hb2);(try clear hk);(try clear hi)))
        go_meet
        case rel => exact ⟨_,(true),(by first|rfl|(simp;done)|(simp [*];done)),H',⟨by have:=HJ2.out;have:=HJ4.out;first|omega|exact Nat.le_refl _⟩,⟨by refine pv_ ?_;exact Kd.V_mono HO661.out (fun _ hk => ⟨hk.1.1.1.1.1.1,⟨hk.1.1.1.2,⟨hk.1.2,⟨hk.1.1.1.1.1.2,⟨hk.1.1.1.1.2,⟨hk.1.1.2,hk.2⟩⟩⟩⟩⟩⟩)⟩,⟨by refine pr_ ?_;exact Kd.R_mono HO665.out (fun _ hk => ⟨hk.1.2,hk.2⟩)⟩,⟨by refine pr_ ?_;exact Kd.R_mono HO671.out (fun _ hk => ⟨hk.1.2,hk.2⟩)⟩,⟨by refine pr_ ?_;exact Kd.R_mono HO677.out (fun _ hk => ⟨hk.1.2,hk.2⟩)⟩,⟨pe_ BK666.out⟩,⟨pe_ BK667.out⟩,⟨pe_ BK673.out⟩,⟨pe_ BK679.out⟩,⟨be4_ HB.out GE666.out GE667.out GE673.out GE679.out⟩⟩
       ·rw [if_neg c36] at H
        have c36b0 : (t672 != t678) = false:=by simpa using c36
        (try (have c36b1 : decide (t672 = t678) = true:=by simpa using c36))
        (try (have c36b2 : (t672 == t678) = true:=by simpa using c36))
        clear c36
        (first|rw [c36b0]|(simp only [i64_w,i32_w];rw [c36b0])|skip)
        have H':=Aside0.mk H
        clear H
        have hnb45:=NB673_666.out
        have hnc45:=NB666_673.out
        have hnb46:=NB673_667.out
        have hnc46:=NB667_673.out
        have hnb47:=NB673_679.out
        have hnc47:=NB679_673.out
        have hcz48_0 : w28.cell? ⟨gb673,0,none⟩ = some (.int .i64 t668):=(blk_cell BK673.out 0).trans rfl
        have hcz48_1 : w28.cell? ⟨gb673,1,none⟩ = some (.slice Ao24 t669.length co24):=(blk_cell BK673.out 1).trans rfl
        have hfz48_0:=blk_frozen BK673.out 0
        have hfz48_1:=blk_frozen BK673.out 1
        have hnb49:=NB679_666.out
        have hnc49:=NB666_679.out
        have hnb50:=NB679_667.out
        have hnc50:=NB667_679.out
        have hcz51_0 : w28.cell? ⟨gb679,0,none⟩ = some (.int .i64 0):=(blk_cell BK679.out 0).trans rfl
        have hcz51_1 : w28.cell? ⟨gb679,1,none⟩ = some (.slice none 0 0):=(blk_cell BK679.out 1).trans rfl
        have hfz51_0:=blk_frozen BK679.out 0
        have hfz51_1:=blk_frozen BK679.out 1
        go_wp2_with (first|((with_reducible refine gate_callee (f:=31) rfl ?_);refine goesL_ (some 51) rfl rfl Try.func31 (by kernel_rfl) rfl #[.agg #[.int .i64 t668,.slice Ao24 t669.length co24],.agg #[.int .i64 t674,.slice Ao33 t675.length co33]] rfl lp_ ?_;(with_reducible refine (laws_daMatrix.calls kj4 t668 _ _ t669 t674 _ _ t675 true _ ?side1 ?side2 ?side3 ?side4 A34.out).mono ?_);(case side1 => refine (Kd.R_reads' (e:=3) (base:=w.heap.size) (ok:=fun k_ => ((True ∧ some k_ ≠ (.slice Ao18 t663.length co18 : Value).ownBlock) ∧ some k_ ≠ (.slice Ao33 t675.length co33 : Value).ownBlock)) (n:=t669.length) (c:=co24) ?_).2.2;exact (by refine pr_ ?_;exact (Kd.R_mono (Kd.R_far (p:=⟨gb679,1,none⟩) (Kd.R_far (p:=⟨gb679,0,none⟩) (Kd.R_types HO671.out BK679.out (by decide)) (fun _ hk => hk.2) (.int .i64 t674)) (fun _ hk => hk.2) (.slice Ao33 t675.length co33)) (fun _ h_ => h_.1))));(case side2 => exact (Kd.R_reads' HO671.out).2.1);(case side3 => refine (Kd.R_reads' (e:=3) (base:=w.heap.size) (ok:=fun k_ => ((True ∧ some k_ ≠ (.slice Ao18 t663.length co18 : Value).ownBlock) ∧ some k_ ≠ (.slice Ao24 t669.length co24 : Value).ownBlock)) (n:=t675.length) (c:=co33) ?_).2.2;exact (by refine pr_ ?_;exact (Kd.R_mono (Kd.R_far (p:=⟨gb679,1,none⟩) (Kd.R_far (p:=⟨gb679,0,none⟩) (Kd.R_types HO677.out BK679.out (by decide)) (fun _ hk => hk.2) (.int .i64 t674)) (fun _ hk => hk.2) (.slice Ao33 t675.length co33)) (fun _ h_ => h_.1))));(case side4 => exact (Kd.R_reads' HO677.out).2.1);rintro e w52 ⟨rfl,hb⟩;refine ⟨_,rfl,?_⟩;have n0_:=Aside0.mk (Kd.V_below (by refine pv_ ?_;exact (Kd.V_mono (Kd.V_far (p:=⟨gb679,1,none⟩) (Kd.V_far (p:=⟨gb679,0,none⟩) (Kd.V_mono HO661.out (fun k_ hk => (⟨hk,hk.2⟩ : _ ∧ k_ ≠ gb679))) (fun _ hk => hk.2) (.int .i64 t674)) (fun _ hk => hk.2) (.slice Ao33 t675.length co33)) (fun _ h_ => h_.1))) hb);have n1_:=Aside0.mk (Kd.R_below (by refine pr_ ?_;exact (Kd.R_mono (Kd.R_far (p:=⟨gb679,1,none⟩) (Kd.R_far (p:=⟨gb679,0,none⟩) (Kd.R_types HO665.out BK679.out (by decide)) (fun _ hk => hk.2) (.int .i64 t674)) (fun _ hk => hk.2) (.slice Ao33 t675.length co33)) (fun _ h_ => h_.1))) hb);have n2_:=Aside0.mk (Kd.R_below (by refine pr_ ?_;exact (Kd.R_mono (Kd.R_far (p:=⟨gb679,1,none⟩) (Kd.R_far (p:=⟨gb679,0,none⟩) (Kd.R_types HO671.out BK679.out (by decide)) (fun _ hk => hk.2) (.int .i64 t674)) (fun _ hk => hk.2) (.slice Ao33 t675.length co33)) (fun _ h_ => h_.1))) hb);have n3_:=Aside0.mk (Kd.R_below (by refine pr_ ?_;exact (Kd.R_mono (Kd.R_far (p:=⟨gb679,1,none⟩) (Kd.R_far (p:=⟨gb679,0,none⟩) (Kd.R_types HO677.out BK679.out (by decide)) (fun _ hk => hk.2) (.int .i64 t674)) (fun _ hk => hk.2) (.slice Ao33 t675.length co33)) (fun _ h_ => h_.1))) hb);have n4_:=Aside0.mk (blk_below (g:=gb666) (o:=.cells #[.int .i64 t658,.slice Ao16 t659.length co16] 28 (0,0)) (by refine pe_ ?_;refine blk_far ?_ NB666_679.out _;refine pe_ ?_;refine blk_far ?_ NB666_679.out _;refine pe_ ?_;exact BK666.out) hb);have n5_:=Aside0.mk (blk_below (g:=gb667) (o:=.cells #[.int .i64 t662,.slice Ao18 t663.length co18] 28 (0,0)) (by refine pe_ ?_;refine blk_far ?_ NB667_679.out _;refine pe_ ?_;refine blk_far ?_ NB667_679.out _;refine pe_ ?_;exact BK667.out) hb);have n6_:=Aside0.mk (blk_below (g:=gb673) (o:=.cells #[.int .i64 t668,.slice Ao24 t669.length co24] 28 (0,0)) (by refine pe_ ?_;refine blk_far ?_ NB673_679.out _;refine pe_ ?_;refine blk_far ?_ NB673_679.out _;refine pe_ ?_;exact BK673.out) hb);have n7_:=Aside0.mk (blk_below (g:=gb679) (o:=.cells #[.int .i64 t674,.slice Ao33 t675.length co33] 28 (0,0)) (by refine pe_ ?_;refine blk_put (cs:=#[.int .i64 t674,.slice none 0 0]) ?_ 1 _ rfl;refine pe_ ?_;refine blk_put (cs:=#[.int .i64 0,.slice none 0 0]) ?_ 0 _ rfl;refine pe_ ?_;exact BK679.out) hb);have n8_:=Aside0.mk (below_step (be4_ HB.out GE666.out GE667.out GE673.out GE679.out) hb);clear HO661;clear HO665;clear HO671;clear HO677;clear BK666;clear BK667;clear BK673;clear BK679;clear HB;have HO661:=n0_;have HO665:=n1_;have HO671:=n2_;have HO677:=n3_;have BK666:=n4_;have BK667:=n5_;have BK673:=n6_;have BK679:=n7_;have HB:=n8_;clear n0_ n1_ n2_ n3_ n4_ n5_ n6_ n7_ n8_;(try clear hb);(try clear hb2);(try clear hk);(try clear hi)))
        go_meet
        case rel => exact ⟨_,(!t672),(by first|rfl|(simp;done)|(simp [*];done)),H',⟨by have:=HJ2.out;have:=HJ4.out;first|omega|exact Nat.le_refl _⟩,⟨by refine pv_ ?_;exact Kd.V_mono HO661.out (fun _ hk => ⟨hk.1.1.1.1.1.1,⟨hk.1.1.1.2,⟨hk.1.2,⟨hk.1.1.1.1.1.2,⟨hk.1.1.1.1.2,⟨hk.1.1.2,hk.2⟩⟩⟩⟩⟩⟩)⟩,⟨by refine pr_ ?_;exact Kd.R_mono HO665.out (fun _ hk => ⟨hk.1.2,hk.2⟩)⟩,⟨by refine pr_ ?_;exact Kd.R_mono HO671.out (fun _ hk => ⟨hk.1.2,hk.2⟩)⟩,⟨by refine pr_ ?_;exact Kd.R_mono HO677.out (fun _ hk => ⟨hk.1.2,hk.2⟩)⟩,⟨pe_ BK666.out⟩,⟨pe_ BK667.out⟩,⟨pe_ BK673.out⟩,⟨pe_ BK679.out⟩,⟨be4_ HB.out GE666.out GE667.out GE673.out GE679.out⟩⟩
      ·replace c35:=Bool.eq_false_iff.mpr c35
       subst c35
       have H1 : (laws_FnMulGrades.j2 kj4 l1 t672 t678 true t658 t659 t662 t663 t668 t669 t674 t675) = some r:=by rw [if_neg (show ¬ (false = true) by decide)] at H;exact H
       clear H
       have H:=H1
       clear H1
       have H':=Aside0.mk H
       clear H
       have hnb53:=NB673_666.out
       have hnc53:=NB666_673.out
       have hnb54:=NB673_667.out
       have hnc54:=NB667_673.out
       have hnb55:=NB673_679.out
       have hnc55:=NB679_673.out
       have hcz56_0 : w28.cell? ⟨gb673,0,none⟩ = some (.int .i64 t668):=(blk_cell BK673.out 0).trans rfl
       have hcz56_1 : w28.cell? ⟨gb673,1,none⟩ = some (.slice Ao24 t669.length co24):=(blk_cell BK673.out 1).trans rfl
       have hfz56_0:=blk_frozen BK673.out 0
       have hfz56_1:=blk_frozen BK673.out 1
       have hnb57:=NB679_666.out
       have hnc57:=NB666_679.out
       have hnb58:=NB679_667.out
       have hnc58:=NB667_679.out
       have hcz59_0 : w28.cell? ⟨gb679,0,none⟩ = some (.int .i64 0):=(blk_cell BK679.out 0).trans rfl
       have hcz59_1 : w28.cell? ⟨gb679,1,none⟩ = some (.slice none 0 0):=(blk_cell BK679.out 1).trans rfl
       have hfz59_0:=blk_frozen BK679.out 0
       have hfz59_1:=blk_frozen BK679.out 1
       go_wp2_with (first|((with_reducible refine gate_callee (f:=31) rfl ?_);refine goesL_ (some 51) rfl rfl Try.func31 (by kernel_rfl) rfl #[.agg #[.int .i64 t668,.slice Ao24 t669.length co24],.agg #[.int .i64 t674,.slice Ao33 t675.length co33]] rfl lp_ ?_;(with_reducible refine (laws_daMatrix.calls kj4 t668 _ _ t669 t674 _ _ t675 false _ ?side1 ?side2 ?side3 ?side4 A34.out).mono ?_);(case side1 => refine (Kd.R_reads' (e:=3) (base:=w.heap.size) (ok:=fun k_ => ((True ∧ some k_ ≠ (.slice Ao18 t663.length co18 : Value).ownBlock) ∧ some k_ ≠ (.slice Ao33 t675.length co33 : Value).ownBlock)) (n:=t669.length) (c:=co24) ?_).2.2;exact (by refine pr_ ?_;exact (Kd.R_mono (Kd.R_far (p:=⟨gb679,1,none⟩) (Kd.R_far (p:=⟨gb679,0,none⟩) (Kd.R_types HO671.out BK679.out (by decide)) (fun _ hk => hk.2) (.int .i64 t674)) (fun _ hk => hk.2) (.slice Ao33 t675.length co33)) (fun _ h_ => h_.1))));(case side2 => exact (Kd.R_reads' HO671.out).2.1);(case side3 => refine (Kd.R_reads' (e:=3) (base:=w.heap.size) (ok:=fun k_ => ((True ∧ some k_ ≠ (.slice Ao18 t663.length co18 : Value).ownBlock) ∧ some k_ ≠ (.slice Ao24 t669.length co24 : Value).ownBlock)) (n:=t675.length) (c:=co33) ?_).2.2;exact (by refine pr_ ?_;exact (Kd.R_mono (Kd.R_far (p:=⟨gb679,1,none⟩) (Kd.R_far (p:=⟨gb679,0,none⟩) (Kd.R_types HO677.out BK679.out (by decide)) (fun _ hk => hk.2) (.int .i64 t674)) (fun _ hk => hk.2) (.slice Ao33 t675.length co33)) (fun _ h_ => h_.1))));(case side4 => exact (Kd.R_reads' HO677.out).2.1);rintro e w60 ⟨rfl,hb⟩;refine ⟨_,rfl,?_⟩;have n0_:=Aside0.mk (Kd.V_below (by refine pv_ ?_;exact (Kd.V_mono (Kd.V_far (p:=⟨gb679,1,none⟩) (Kd.V_far (p:=⟨gb679,0,none⟩) (Kd.V_mono HO661.out (fun k_ hk => (⟨hk,hk.2⟩ : _ ∧ k_ ≠ gb679))) (fun _ hk => hk.2) (.int .i64 t674)) (fun _ hk => hk.2) (.slice Ao33 t675.length co33)) (fun _ h_ => h_.1))) hb);have n1_:=Aside0.mk (Kd.R_below (by refine pr_ ?_;exact (Kd.R_mono (Kd.R_far (p:=⟨gb679,1,none⟩) (Kd.R_far (p:=⟨gb679,0,none⟩) (Kd.R_types HO665.out BK679.out (by decide)) (fun _ hk => hk.2) (.int .i64 t674)) (fun _ hk => hk.2) (.slice Ao33 t675.length co33)) (fun _ h_ => h_.1))) hb);have n2_:=Aside0.mk (Kd.R_below (by refine pr_ ?_;exact (Kd.R_mono (Kd.R_far (p:=⟨gb679,1,none⟩) (Kd.R_far (p:=⟨gb679,0,none⟩) (Kd.R_types HO671.out BK679.out (by decide)) (fun _ hk => hk.2) (.int .i64 t674)) (fun _ hk => hk.2) (.slice Ao33 t675.length co33)) (fun _ h_ => h_.1))) hb);have n3_:=Aside0.mk (Kd.R_below (by refine pr_ ?_;exact (Kd.R_mono (Kd.R_far (p:=⟨gb679,1,none⟩) (Kd.R_far (p:=⟨gb679,0,none⟩) (Kd.R_types HO677.out BK679.out (by decide)) (fun _ hk => hk.2) (.int .i64 t674)) (fun _ hk => hk.2) (.slice Ao33 t675.length co33)) (fun _ h_ => h_.1))) hb);have n4_:=Aside0.mk (blk_below (g:=gb666) (o:=.cells #[.int .i64 t658,.slice Ao16 t659.length co16] 28 (0,0)) (by refine pe_ ?_;refine blk_far ?_ NB666_679.out _;refine pe_ ?_;refine blk_far ?_ NB666_679.out _;refine pe_ ?_;exact BK666.out) hb);have n5_:=Aside0.mk (blk_below (g:=gb667) (o:=.cells #[.int .i64 t662,.slice Ao18 t663.length co18] 28 (0,0)) (by refine pe_ ?_;refine blk_far ?_ NB667_679.out _;refine pe_ ?_;refine blk_far ?_ NB667_679.out _;refine pe_ ?_;exact BK667.out) hb);have n6_:=Aside0.mk (blk_below (g:=gb673) (o:=.cells #[.int .i64 t668,.slice Ao24 t669.length co24] 28 (0,0)) (by refine pe_ ?_;refine blk_far ?_ NB673_679.out _;refine pe_ ?_;refine blk_far ?_ NB673_679.out _;refine pe_ ?_;exact BK673.out) hb);have n7_:=Aside0.mk (blk_below (g:=gb679) (o:=.cells #[.int .i64 t674,.slice Ao33 t675.length co33] 28 (0,0)) (by refine pe_ ?_;refine blk_put (cs:=#[.int .i64 t674,.slice none 0 0]) ?_ 1 _ rfl;refine pe_ ?_;refine blk_put (cs:=#[.int .i64 0,.slice none 0 0]) ?_ 0 _ rfl;refine pe_ ?_;exact BK679.out) hb);have n8_:=Aside0.mk (below_step (be4_ HB.out GE666.out GE667.out GE673.out GE679.out) hb);clear HO661;clear HO665;clear HO671;clear HO677;clear BK666;clear BK667;clear BK673;clear BK679;clear HB;have HO661:=n0_;have HO665:=n1_;have HO671:=n2_;have HO677:=n3_;have BK666:=n4_;have BK667:=n5_;have BK673:=n6_;have BK679:=n7_;have HB:=n8_;clear n0_ n1_ n2_ n3_ n4_ n5_ n6_ n7_ n8_;(try clear hb);(try clear hb2);(try clear hk);(try clear hi)))
       go_meet
       case rel => exact ⟨_,(true),(by first|rfl|(simp;done)|(simp [*];done)),H',⟨by have:=HJ2.out;have:=HJ4.out;first|omega|exact Nat.le_refl _⟩,⟨by refine pv_ ?_;exact Kd.V_mono HO661.out (fun _ hk => ⟨hk.1.1.1.1.1.1,⟨hk.1.1.1.2,⟨hk.1.2,⟨hk.1.1.1.1.1.2,⟨hk.1.1.1.1.2,⟨hk.1.1.2,hk.2⟩⟩⟩⟩⟩⟩)⟩,⟨by refine pr_ ?_;exact Kd.R_mono HO665.out (fun _ hk => ⟨hk.1.2,hk.2⟩)⟩,⟨by refine pr_ ?_;exact Kd.R_mono HO671.out (fun _ hk => ⟨hk.1.2,hk.2⟩)⟩,⟨by refine pr_ ?_;exact Kd.R_mono HO677.out (fun _ hk => ⟨hk.1.2,hk.2⟩)⟩,⟨pe_ BK666.out⟩,⟨pe_ BK667.out⟩,⟨pe_ BK673.out⟩,⟨pe_ BK679.out⟩,⟨be4_ HB.out GE666.out GE667.out GE673.out GE679.out⟩⟩
     case rest =>
      clear HC10
      try clear c1
      try clear c2
      try clear p2
      try clear c3
      try clear c4
      try clear c4b0
      try clear c4b1
      try clear c5
      try clear c6
      try clear c9
      try clear c14
      try clear c21
      try clear c22
      try clear c26
      try clear c27
      try clear c29
      try clear c30
      try clear c31
      try clear c34
      try clear c35
      try clear c36
      try clear c36b0
      try clear c36b1
      try clear c36b2
      try clear c37
      try clear c38
      try clear c39
      try clear c41
      try clear c42
      try clear c45
      try clear c46
      try clear c47
      try clear c49
      try clear c50
      try clear c53
      try clear c54
      try clear c55
      try clear c57
      try clear c58
      try clear hcz15_0
      try clear hcz15_1
      try clear hcz17_0
      try clear hcz17_1
      try clear hcz23_0
      try clear hcz23_1
      try clear hcz25_0
      try clear hcz25_1
      try clear hcz26_0
      try clear hcz26_1
      try clear hcz32_0
      try clear hcz32_1
      try clear hcz40_0
      try clear hcz40_1
      try clear hcz43_0
      try clear hcz43_1
      try clear hcz48_0
      try clear hcz48_1
      try clear hcz51_0
      try clear hcz51_1
      try clear hcz56_0
      try clear hcz56_1
      try clear hcz59_0
      try clear hcz59_1
      try clear hfz15_0
      try clear hfz15_1
      try clear hfz17_0
      try clear hfz17_1
      try clear hfz23_0
      try clear hfz23_1
      try clear hfz25_0
      try clear hfz25_1
      try clear hfz26_0
      try clear hfz26_1
      try clear hfz32_0
      try clear hfz32_1
      try clear hfz40_0
      try clear hfz40_1
      try clear hfz43_0
      try clear hfz43_1
      try clear hfz48_0
      try clear hfz48_1
      try clear hfz51_0
      try clear hfz51_1
      try clear hfz56_0
      try clear hfz56_1
      try clear hfz59_0
      try clear hfz59_1
      try clear p2
      obtain ⟨kq,x61_9,rfl,HA,HJ9,HO_667001,HO_668001,HO_674001,HO_680001,BK666,BK667,BK673,BK679,HB⟩:=hcut
      cases kq with
      | zero => exact absurd HA.out (by simp [laws_FnMulGrades.j2])
      | succ kj9 =>
       have H:=HA.out
       clear HA
       simp only [laws_FnMulGrades.j2] at H
       have HC61:=Aside0.mk H
       clear H
       go_upto_if 61 with (fail)
       go_cut [] (fun wc => ∃ (kq : Nat),Aside0 (laws_FnMulGrades.j3 kq l1 t658 t659 t662 t663 t668 t669 = some r) ∧ Aside0 (kq ≤ kj9) ∧ Aside0 (Kd.V (Kd.int .i64) 3 wc w.heap.size (fun k_ => some k_ ≠ ((.slice Ao18 t663.length co18) : Value).ownBlock ∧ some k_ ≠ ((.slice Ao24 t669.length co24) : Value).ownBlock ∧ some k_ ≠ ((.slice Ao33 t675.length co33) : Value).ownBlock ∧ k_ ≠ gb666 ∧ k_ ≠ gb667 ∧ k_ ≠ gb673 ∧ k_ ≠ gb679) (.slice Ao16 t659.length co16) t659) ∧ Aside0 (Kd.R (Kd.int .i64) 3 wc w.heap.size (fun k_ => some k_ ≠ ((.slice Ao24 t669.length co24) : Value).ownBlock ∧ some k_ ≠ ((.slice Ao33 t675.length co33) : Value).ownBlock) (.slice Ao18 t663.length co18) t663) ∧ Aside0 (Kd.R (Kd.int .i64) 3 wc w.heap.size (fun k_ => some k_ ≠ ((.slice Ao18 t663.length co18) : Value).ownBlock ∧ some k_ ≠ ((.slice Ao33 t675.length co33) : Value).ownBlock) (.slice Ao24 t669.length co24) t669) ∧ Aside0 (Kd.R (Kd.int .i64) 3 wc w.heap.size (fun k_ => some k_ ≠ ((.slice Ao18 t663.length co18) : Value).ownBlock ∧ some k_ ≠ ((.slice Ao24 t669.length co24) : Value).ownBlock) (.slice Ao33 t675.length co33) t675) ∧ Aside0 (wc.heap[gb666]? = some (.cells #[.int .i64 t658,(.slice Ao16 t659.length co16)] 28 (0,0))) ∧ Aside0 (wc.heap[gb667]? = some (.cells #[.int .i64 t662,(.slice Ao18 t663.length co18)] 28 (0,0))) ∧ Aside0 (wc.heap[gb673]? = some (.cells #[.int .i64 t668,(.slice Ao24 t669.length co24)] 28 (0,0))) ∧ Aside0 (wc.heap[gb679]? = some (.cells #[.int .i64 t674,(.slice Ao33 t675.length co33)] 28 (0,0))) ∧ Aside0 (Below w.heap.size w wc))
       case first =>
        have H:=HC61.out
        clear HC61
        by_cases c62 : x61_9 = true
        ·subst c62
         have H1 : ((laws_daMatrix.f kj9 t668 t669 t674 t675).bind fun t681 => (if t681 = true then (some (t672 == t678)) else (some false))) = some r:=by rw [if_pos rfl] at H;exact H
         clear H
         have H:=H1
         clear H1
         replace H:=Option.bind_eq_some_iff.mp H
         obtain ⟨t681,A630,H⟩:=H
         replace H : (if t681 = true then (some (t672 == t678)) else (some false)) = some r:=H
         have A63:=Aside0.mk A630
         clear A630
         by_cases c64 : t681 = true
         ·subst c64
          have H1 : (some (t672 == t678)) = some r:=by rw [if_pos rfl] at H;exact H
          clear H
          have H:=H1
          clear H1
          obtain rfl:=Option.some.inj H
          have hnb65:=NB673_666.out
          have hnc65:=NB666_673.out
          have hnb66:=NB673_667.out
          have hnc66:=NB667_673.out
          have hnb67:=NB673_679.out
          have hnc67:=NB679_673.out
          have hcz68_0 : wc.cell? ⟨gb673,0,none⟩ = some (.int .i64 t668):=(blk_cell BK673.out 0).trans rfl
          have hcz68_1 : wc.cell? ⟨gb673,1,none⟩ = some (.slice Ao24 t669.length co24):=(blk_cell BK673.out 1).trans rfl
          have hfz68_0:=blk_frozen BK673.out 0
          have hfz68_1:=blk_frozen BK673.out 1
          have hnb69:=NB679_666.out
          have hnc69:=NB666_679.out
          have hnb70:=NB679_667.out
          have hnc70:=NB667_679.out
          have hcz71_0 : wc.cell? ⟨gb679,0,none⟩ = some (.int .i64 t674):=(blk_cell BK679.out 0).trans rfl
          have hcz71_1 : wc.cell? ⟨gb679,1,none⟩ = some (.slice Ao33 t675.length co33):=(blk_cell BK679.out 1).trans rfl
          have hfz71_0:=blk_frozen BK679.out 0
          have hfz71_1:=blk_frozen BK679.out 1
          go_wp2_with (first|((with_reducible refine gate_callee (f:=31) rfl ?_);refine goesL_ (some 64) rfl rfl Try.func31 (by kernel_rfl) rfl #[.agg #[.int .i64 t668,.slice Ao24 t669.length co24],.agg #[.int .i64 t674,.slice Ao33 t675.length co33]] rfl lp_ ?_;(with_reducible refine (laws_daMatrix.calls kj9 t668 _ _ t669 t674 _ _ t675 true _ ?side1 ?side2 ?side3 ?side4 A63.out).mono ?_);(case side1 => repeat (first|exact (Kd.R_reads' HO_674001.out).2.2|(with_reducible refine Kd.C_alloc ?_ _)|(with_reducible refine Kd.C_drewN ?_ _)|(with_reducible refine Kd.C_drew ?_)));(case side2 => exact (Kd.R_reads' HO_674001.out).2.1);(case side3 => repeat (first|exact (Kd.R_reads' HO_680001.out).2.2|(with_reducible refine Kd.C_alloc ?_ _)|(with_reducible refine Kd.C_drewN ?_ _)|(with_reducible refine Kd.C_drew ?_)));(case side4 => exact (Kd.R_reads' HO_680001.out).2.1);rintro e w72 ⟨rfl,hb⟩;refine ⟨_,rfl,?_⟩;have n0_:=Aside0.mk (Kd.V_below (pv_ HO_667001.out) hb);have n1_:=Aside0.mk (Kd.R_below (pr_ HO_668001.out) hb);have n2_:=Aside0.mk (Kd.R_below (pr_ HO_674001.out) hb);have n3_:=Aside0.mk (Kd.R_below (pr_ HO_680001.out) hb);have n4_:=Aside0.mk (blk_below (g:=gb666) (o:=.cells #[.int .i64 t658,.slice Ao16 t659.length co16] 28 (0,0)) (pe_ BK666.out) hb);have n5_:=Aside0.mk (blk_below (g:=gb667) (o:=.cells #[.int .i64 t662,.slice Ao18 t663.length co18] 28 (0,0)) (pe_ BK667.out) hb);have n6_:=Aside0.mk (blk_below (g:=gb673) (o:=.cells #[.int .i64 t668,.slice Ao24 t669.length co24] 28 (0,0)) (pe_ BK673.out) hb);have n7_:=Aside0.mk (blk_below (g:=gb679) (o:=.cells #[.int .i64 t674,.slice Ao33 t675.length co33] 28 (0,0)) (pe_ BK679.out) hb);have n8_:=Aside0.mk (below_step (be4_ HB.out GE666.out GE667.out GE673.out GE679.out) hb);clear HO_667001;clear HO_668001;clear HO_674001;clear HO_680001;clear BK666;clear BK667;clear BK673;clear BK679;clear HB;have HO_667001:=n0_;have HO_668001:=n1_;have HO_674001:=n2_;have HO_680001:=n3_;have BK666:=n4_;have BK667:=n5_;have BK673:=n6_;have BK679:=n7_;have HB:=n8_;clear n0_ n1_ n2_ n3_ n4_ n5_ n6_ n7_ n8_;(try clear hb);(try clear hb2);(try clear hk);(try clear hi)))
          go_ret
          exact ⟨by first|rfl|(simp [errW_none,errW_some] <;> rfl)|(simp [*,errW_none,errW_some] <;> rfl),be4_ HB.out GE666.out GE667.out GE673.out GE679.out⟩
         ·replace c64:=Bool.eq_false_iff.mpr c64
          subst c64
          have H1 : (some false) = some r:=by rw [if_neg (show ¬ (false = true) by decide)] at H;exact H
          clear H
          have H:=H1
          clear H1
          obtain rfl:=Option.some.inj H
          have hnb73:=NB673_666.out
          have hnc73:=NB666_673.out
          have hnb74:=NB673_667.out
          have hnc74:=NB667_673.out
          have hnb75:=NB673_679.out
          have hnc75:=NB679_673.out
          have hcz76_0 : wc.cell? ⟨gb673,0,none⟩ = some (.int .i64 t668):=(blk_cell BK673.out 0).trans rfl
          have hcz76_1 : wc.cell? ⟨gb673,1,none⟩ = some (.slice Ao24 t669.length co24):=(blk_cell BK673.out 1).trans rfl
          have hfz76_0:=blk_frozen BK673.out 0
          have hfz76_1:=blk_frozen BK673.out 1
          have hnb77:=NB679_666.out
          have hnc77:=NB666_679.out
          have hnb78:=NB679_667.out
          have hnc78:=NB667_679.out
          have hcz79_0 : wc.cell? ⟨gb679,0,none⟩ = some (.int .i64 t674):=(blk_cell BK679.out 0).trans rfl
          have hcz79_1 : wc.cell? ⟨gb679,1,none⟩ = some (.slice Ao33 t675.length co33):=(blk_cell BK679.out 1).trans rfl
          have hfz79_0:=blk_frozen BK679.out 0
          have hfz79_1:=blk_frozen BK679.out 1
          go_wp2_with (first|((with_reducible refine gate_callee (f:=31) rfl ?_);refine goesL_ (some 64) rfl rfl Try.func31 (by kernel_rfl) rfl #[.agg #[.int .i64 t668,.slice Ao24 t669.length co24],.agg #[.int .i64 t674,.slice Ao33 t675.length co33]] rfl lp_ ?_;(with_reducible refine (laws_daMatrix.calls kj9 t668 _ _ t669 t674 _ _ t675 false _ ?side1 ?side2 ?side3 ?side4 A63.out).mono ?_);(case side1 => repeat (first|exact (Kd.R_reads' HO_674001.out).2.2|(with_reducible refine Kd.C_alloc ?_ _)|(with_reducible refine Kd.C_drewN ?_ _)|(with_reducible refine Kd.C_drew ?_)));(case side2 => exact (Kd.R_reads' HO_674001.out).2.1);(case side3 => repeat (first|exact (Kd.R_reads' HO_680001.out).2.2|(with_reducible refine Kd.C_alloc ?_ _)|(with_reducible refine Kd.C_drewN ?_ _)|(with_reducible refine Kd.C_drew ?_)));(case side4 => exact (Kd.R_reads' HO_680001.out).2.1);rintro e w80 ⟨rfl,hb⟩;refine ⟨_,rfl,?_⟩;have n0_:=Aside0.mk (Kd.V_below (pv_ HO_667001.out) hb);have n1_:=Aside0.mk (Kd.R_below (pr_ HO_668001.out) hb);have n2_:=Aside0.mk (Kd.R_below (pr_ HO_674001.out) hb);have n3_:=Aside0.mk (Kd.R_below (pr_ HO_680001.out) hb);have n4_:=Aside0.mk (blk_below (g:=gb666) (o:=.cells #[.int .i64 t658,.slice Ao16 t659.length co16] 28 (0,0)) (pe_ BK666.out) hb);have n5_:=Aside0.mk (blk_below (g:=gb667) (o:=.cells #[.int .i64 t662,.slice Ao18 t663.length co18] 28 (0,0)) (pe_ BK667.out) hb);have n6_:=Aside0.mk (blk_below (g:=gb673) (o:=.cells #[.int .i64 t668,.slice Ao24 t669.length co24] 28 (0,0)) (pe_ BK673.out) hb);have n7_:=Aside0.mk (blk_below (g:=gb679) (o:=.cells #[.int .i64 t674,.slice Ao33 t675.length co33] 28 (0,0)) (pe_ BK679.out) hb);have n8_:=Aside0.mk (below_step (be4_ HB.out GE666.out GE667.out GE673.out GE679.out) hb);clear HO_667001;clear HO_668001;clear HO_674001;clear HO_680001;clear BK666;clear BK667;clear BK673;clear BK679;clear HB;have HO_667001:=n0_;have HO_668001:=n1_;have HO_674001:=n2_;have HO_680001:=n3_;have BK666:=n4_;have BK667:=n5_;have BK673:=n6_;have BK679:=n7_;have HB:=n8_;clear n0_ n1_ n2_ n3_ n4_ n5_ n6_ n7_ n8_;(try clear hb);(try clear hb2);(try clear hk);(try clear hi)))
          go_ret
          exact ⟨by first|rfl|(simp [errW_none,errW_some] <;> rfl)|(simp [*,errW_none,errW_some] <;> rfl),be4_ HB.out GE666.out GE667.out GE673.out GE679.out⟩
        ·replace c62:=Bool.eq_false_iff.mpr c62
         subst c62
         have H1 : (laws_FnMulGrades.j3 kj9 l1 t658 t659 t662 t663 t668 t669) = some r:=by rw [if_neg (show ¬ (false = true) by decide)] at H;exact H
         clear H
         have H:=H1
         clear H1
         have H':=Aside0.mk H
         clear H
         go_wp2
         go_meet
         case rel => exact ⟨_,H',⟨by have:=HJ2.out;have:=HJ4.out;have:=HJ9.out;first|omega|exact Nat.le_refl _⟩,⟨pv_ HO_667001.out⟩,⟨pr_ HO_668001.out⟩,⟨pr_ HO_674001.out⟩,⟨pr_ HO_680001.out⟩,⟨pe_ BK666.out⟩,⟨pe_ BK667.out⟩,⟨pe_ BK673.out⟩,⟨pe_ BK679.out⟩,⟨be4_ HB.out GE666.out GE667.out GE673.out GE679.out⟩⟩
       case rest =>
        clear HC61
        try clear c1
        try clear c2
        try clear p2
        try clear c3
        try clear c4
        try clear c4b0
        try clear c4b1
        try clear c5
        try clear c6
        try clear c7
        try clear c9
        try clear c14
        try clear c21
        try clear c22
        try clear c26
        try clear c27
        try clear c29
        try clear c30
        try clear c31
        try clear c34
        try clear c35
        try clear c36
        try clear c36b0
        try clear c36b1
        try clear c36b2
        try clear c37
        try clear c38
        try clear c39
        try clear c41
        try clear c42
        try clear c45
        try clear c46
        try clear c47
        try clear c49
        try clear c50
        try clear c53
        try clear c54
        try clear c55
        try clear c57
        try clear c58
        try clear c62
        try clear c64
        try clear c65
        try clear c66
        try clear c67
        try clear c69
        try clear c70
        try clear c73
        try clear c74
        try clear c75
        try clear c77
        try clear c78
        try clear hcz15_0
        try clear hcz15_1
        try clear hcz17_0
        try clear hcz17_1
        try clear hcz23_0
        try clear hcz23_1
        try clear hcz25_0
        try clear hcz25_1
        try clear hcz26_0
        try clear hcz26_1
        try clear hcz32_0
        try clear hcz32_1
        try clear hcz40_0
        try clear hcz40_1
        try clear hcz43_0
        try clear hcz43_1
        try clear hcz48_0
        try clear hcz48_1
        try clear hcz51_0
        try clear hcz51_1
        try clear hcz56_0
        try clear hcz56_1
        try clear hcz59_0
        try clear hcz59_1
        try clear hcz68_0
        try clear hcz68_1
        try clear hcz71_0
        try clear hcz71_1
        try clear hcz76_0
        try clear hcz76_1
        try clear hcz79_0
        try clear hcz79_1
        try clear hfz15_0
        try clear hfz15_1
        try clear hfz17_0
        try clear hfz17_1
        try clear hfz23_0
        try clear hfz23_1
        try clear hfz25_0
        try clear hfz25_1
        try clear hfz26_0
        try clear hfz26_1
        try clear hfz32_0
        try clear hfz32_1
        try clear hfz40_0
        try clear hfz40_1
        try clear hfz43_0
        try clear hfz43_1
        try clear hfz48_0
        try clear hfz48_1
        try clear hfz51_0
        try clear hfz51_1
        try clear hfz56_0
        try clear hfz56_1
        try clear hfz59_0
        try clear hfz59_1
        try clear hfz68_0
        try clear hfz68_1
        try clear hfz71_0
        try clear hfz71_1
        try clear hfz76_0
        try clear hfz76_1
        try clear hfz79_0
        try clear hfz79_1
        try clear p2
        obtain ⟨kq,HA,HJ60,HO_667001,HO_668001,HO_674001,HO_680001,BK666,BK667,BK673,BK679,HB⟩:=hcut
        cases kq with
        | zero => exact absurd HA.out (by simp [laws_FnMulGrades.j3])
        | succ kj60 =>
         have H:=HA.out
         clear HA
         simp only [laws_FnMulGrades.j3] at H
         replace H:=Option.bind_eq_some_iff.mp H
         obtain ⟨⟨t682,t683⟩,A810,H⟩:=H
         replace H : ((impl_GradesValid.f kj60 t682 t683).bind fun t687 => (if t687 = true then (laws_FnMulGrades.j4 kj60 (t682 != t658) t658 t659 t662 t663 t668 t669 t682 t683) else (laws_FnMulGrades.j4 kj60 true t658 t659 t662 t663 t668 t669 t682 t683))) = some r:=H
         have A81:=Aside0.mk A810
         clear A810
         have HC82:=Aside0.mk H
         clear H
         go_upto_region 9 with (first|((with_reducible refine gate_callee (f:=35) rfl ?_);refine goesL_ (some 71) rfl rfl Try.func35 (by kernel_rfl) rfl #[.slice A1 l1.length c1] rfl lp_ ?_;(with_reducible refine (spec_DrawIsIdempotent.calls kj60 _ _ l1 t682 t683 _ ?side1 ?side2 A81.out).mono ?_);(case side1 => repeat (first|exact (Kd.C_below HR1.out HB.out)|(with_reducible refine Kd.C_alloc ?_ _)|(with_reducible refine Kd.C_drewN ?_ _)|(with_reducible refine Kd.C_drew ?_)));(case side2 => exact HC1.out);rintro e w83 ⟨v684,rfl,ho0,hb⟩;refine ⟨_,rfl,?_⟩;have n0_:=Aside0.mk (Kd.V_below (pv_ HO_667001.out) hb);have n1_:=Aside0.mk (Kd.R_below (pr_ HO_668001.out) hb);have n2_:=Aside0.mk (Kd.R_below (pr_ HO_674001.out) hb);have n3_:=Aside0.mk (Kd.R_below (pr_ HO_680001.out) hb);have n4_:=Aside0.mk (Kd.V_lower (Kd.V_mono (ok':=fun k_ => some k_ ≠ (.slice Ao18 t663.length co18 : Value).ownBlock ∧ some k_ ≠ (.slice Ao24 t669.length co24 : Value).ownBlock ∧ some k_ ≠ (.slice Ao33 t675.length co33 : Value).ownBlock ∧ k_ ≠ gb666 ∧ k_ ≠ gb667 ∧ k_ ≠ gb673 ∧ k_ ≠ gb679) ho0 (fun k_ hk_ => ⟨(Kd.fresh' (Kd.R_lt (pr_ HO_668001.out)) k_ hk_),(Kd.fresh' (Kd.R_lt (pr_ HO_674001.out)) k_ hk_),(Kd.fresh' (Kd.R_lt (pr_ HO_680001.out)) k_ hk_),(Kd.freshB (g:=gb666) (o:=.cells #[.int .i64 t658,.slice Ao16 t659.length co16] 28 (0,0)) (pe_ BK666.out) k_ hk_),(Kd.freshB (g:=gb667) (o:=.cells #[.int .i64 t662,.slice Ao18 t663.length co18] 28 (0,0)) (pe_ BK667.out) k_ hk_),(Kd.freshB (g:=gb673) (o:=.cells #[.int .i64 t668,.slice Ao24 t669.length co24] 28 (0,0)) (pe_ BK673.out) k_ hk_),(Kd.freshB (g:=gb679) (o:=.cells #[.int .i64 t674,.slice Ao33 t675.length co33] 28 (0,0)) (pe_ BK679.out) k_ hk_)⟩)) (below_size (be4_ HB.out GE666.out GE667.out GE673.out GE679.out)));have n5_:=Aside0.mk (blk_below (g:=gb666) (o:=.cells #[.int .i64 t658,.slice Ao16 t659.length co16] 28 (0,0)) (pe_ BK666.out) hb);have n6_:=Aside0.mk (blk_below (g:=gb667) (o:=.cells #[.int .i64 t662,.slice Ao18 t663.length co18] 28 (0,0)) (pe_ BK667.out) hb);have n7_:=Aside0.mk (blk_below (g:=gb673) (o:=.cells #[.int .i64 t668,.slice Ao24 t669.length co24] 28 (0,0)) (pe_ BK673.out) hb);have n8_:=Aside0.mk (blk_below (g:=gb679) (o:=.cells #[.int .i64 t674,.slice Ao33 t675.length co33] 28 (0,0)) (pe_ BK679.out) hb);have n9_:=Aside0.mk (below_step (be4_ HB.out GE666.out GE667.out GE673.out GE679.out) hb);clear HO_667001;clear HO_668001;clear HO_674001;clear HO_680001;clear BK666;clear BK667;clear BK673;clear BK679;clear HB;have HO_667001:=n0_;have HO_668001:=n1_;have HO_674001:=n2_;have HO_680001:=n3_;have HO685:=n4_;have BK666:=n5_;have BK667:=n6_;have BK673:=n7_;have BK679:=n8_;have HB:=n9_;clear n0_ n1_ n2_ n3_ n4_ n5_ n6_ n7_ n8_ n9_;(try clear hb);(try clear hb2);(try clear hk);(try clear hi);(try clear ho0))|((with_reducible refine gate_dst (N:=11) rfl ?_);(try (refine gate_guard (by rfl) ?_;dsimp only));refine box_event ?hg (N:=11) ?hd (cs:=#[.int .i64 0,.slice none 0 0]) (t:=28) ?hr ?_;(case hd => rfl);(case hg => rfl);(case hr => first|(go_simp;done)|(go_simp;rfl));intro gb686 hg w84 hbox hb;have n0_:=Aside0.mk (Kd.V_below (Kd.V_elderB (pv_ HO_667001.out) gb686 (Nat.le_of_eq hg.symm)) hb);have n1_:=Aside0.mk (Kd.R_below (pr_ HO_668001.out) hb);have n2_:=Aside0.mk (Kd.R_below (pr_ HO_674001.out) hb);have n3_:=Aside0.mk (Kd.R_below (pr_ HO_680001.out) hb);have n4_:=Aside0.mk (Kd.V_below (Kd.V_elderB (pv_ HO685.out) gb686 (Nat.le_of_eq hg.symm)) hb);have n5_:=Aside0.mk (blk_below (g:=gb666) (o:=.cells #[.int .i64 t658,.slice Ao16 t659.length co16] 28 (0,0)) (pe_ BK666.out) hb);have n6_:=Aside0.mk (blk_below (g:=gb667) (o:=.cells #[.int .i64 t662,.slice Ao18 t663.length co18] 28 (0,0)) (pe_ BK667.out) hb);have n7_:=Aside0.mk (blk_below (g:=gb673) (o:=.cells #[.int .i64 t668,.slice Ao24 t669.length co24] 28 (0,0)) (pe_ BK673.out) hb);have n8_:=Aside0.mk (blk_below (g:=gb679) (o:=.cells #[.int .i64 t674,.slice Ao33 t675.length co33] 28 (0,0)) (pe_ BK679.out) hb);have n9_:=Aside0.mk (below_step (be4_ HB.out GE666.out GE667.out GE673.out GE679.out) hb);have n10_:=Aside0.mk (hbox);have n11_:=Aside0.mk ((by rw [hg];exact (below_size (be4_ HB.out GE666.out GE667.out GE673.out GE679.out)) : w.heap.size ≤ gb686));have n12_:=Aside0.mk ((by rw [hg];exact (below_size (be4_ HB.out GE666.out GE667.out GE673.out GE679.out)) : w.heap.size ≤ gb686));have n13_:=Aside0.mk ((by rw [hg];exact Nat.ne_of_lt (blk_lt (g:=gb666) (o:=.cells #[.int .i64 t658,.slice Ao16 t659.length co16] 28 (0,0)) (pe_ BK666.out)) : gb666 ≠ gb686));have n14_:=Aside0.mk ((by rw [hg];exact Nat.ne_of_gt (blk_lt (g:=gb666) (o:=.cells #[.int .i64 t658,.slice Ao16 t659.length co16] 28 (0,0)) (pe_ BK666.out)) : gb686 ≠ gb666));have n15_:=Aside0.mk ((by rw [hg];exact Nat.ne_of_lt (blk_lt (g:=gb667) (o:=.cells #[.int .i64 t662,.slice Ao18 t663.length co18] 28 (0,0)) (pe_ BK667.out)) : gb667 ≠ gb686));have n16_:=Aside0.mk ((by rw [hg];exact Nat.ne_of_gt (blk_lt (g:=gb667) (o:=.cells #[.int .i64 t662,.slice Ao18 t663.length co18] 28 (0,0)) (pe_ BK667.out)) : gb686 ≠ gb667));have n17_:=Aside0.mk ((by rw [hg];exact Nat.ne_of_lt (blk_lt (g:=gb673) (o:=.cells #[.int .i64 t668,.slice Ao24 t669.length co24] 28 (0,0)) (pe_ BK673.out)) : gb673 ≠ gb686));have n18_:=Aside0.mk ((by rw [hg];exact Nat.ne_of_gt (blk_lt (g:=gb673) (o:=.cells #[.int .i64 t668,.slice Ao24 t669.length co24] 28 (0,0)) (pe_ BK673.out)) : gb686 ≠ gb673));have n19_:=Aside0.mk ((by rw [hg];exact Nat.ne_of_lt (blk_lt (g:=gb679) (o:=.cells #[.int .i64 t674,.slice Ao33 t675.length co33] 28 (0,0)) (pe_ BK679.out)) : gb679 ≠ gb686));have n20_:=Aside0.mk ((by rw [hg];exact Nat.ne_of_gt (blk_lt (g:=gb679) (o:=.cells #[.int .i64 t674,.slice Ao33 t675.length co33] 28 (0,0)) (pe_ BK679.out)) : gb686 ≠ gb679));clear HO_667001;clear HO_668001;clear HO_674001;clear HO_680001;clear HO685;clear BK666;clear BK667;clear BK673;clear BK679;clear HB;have HO_667001:=n0_;have HO_668001:=n1_;have HO_674001:=n2_;have HO_680001:=n3_;have HO685:=n4_;have BK666:=n5_;have BK667:=n6_;have BK673:=n7_;have BK679:=n8_;have HB:=n9_;have BK686:=n10_;have GW686:=n11_;have GE686:=n12_;have NB666_686:=n13_;have NB686_666:=n14_;have NB667_686:=n15_;have NB686_667:=n16_;have NB673_686:=n17_;have NB686_673:=n18_;have NB679_686:=n19_;have NB686_679:=n20_;clear n0_ n1_ n2_ n3_ n4_ n5_ n6_ n7_ n8_ n9_ n10_ n11_ n12_ n13_ n14_ n15_ n16_ n17_ n18_ n19_ n20_;clear hb hbox hg;have hnb85:=NB686_666.out;have hnc85:=NB666_686.out;have hnb86:=NB686_667.out;have hnc86:=NB667_686.out;have hnb87:=NB686_673.out;have hnc87:=NB673_686.out;have hnb88:=NB686_679.out;have hnc88:=NB679_686.out;have hcz89_0 : w84.cell? ⟨gb686,0,none⟩ = some (.int .i64 0):=(blk_cell BK686.out 0).trans rfl;have hcz89_1 : w84.cell? ⟨gb686,1,none⟩ = some (.slice none 0 0):=(blk_cell BK686.out 1).trans rfl;have hfz89_0:=blk_frozen BK686.out 0;have hfz89_1:=blk_frozen BK686.out 1;obtain ⟨Ao90,co90,eo90⟩:=Kd.V_slice HO685.out;subst eo90))
         (try simp only [Act.put,List.setIfInBounds_toArray,List.set_cons_zero,List.set_cons_succ])
         go_cut [81] (fun v81 wc => ∃ (kq : Nat) (x81_81 : Bool),v81 = .bool x81_81 ∧ Aside0 (laws_FnMulGrades.j4 kq x81_81 t658 t659 t662 t663 t668 t669 t682 t683 = some r) ∧ Aside0 (kq ≤ kj60) ∧ Aside0 (Kd.V (Kd.int .i64) 3 wc w.heap.size (fun k_ => some k_ ≠ ((.slice Ao18 t663.length co18) : Value).ownBlock ∧ some k_ ≠ ((.slice Ao24 t669.length co24) : Value).ownBlock ∧ some k_ ≠ ((.slice Ao33 t675.length co33) : Value).ownBlock ∧ k_ ≠ gb666 ∧ k_ ≠ gb667 ∧ k_ ≠ gb673 ∧ k_ ≠ gb679 ∧ k_ ≠ gb686) (.slice Ao16 t659.length co16) t659) ∧ Aside0 (Kd.R (Kd.int .i64) 3 wc w.heap.size (fun k_ => some k_ ≠ ((.slice Ao24 t669.length co24) : Value).ownBlock ∧ some k_ ≠ ((.slice Ao33 t675.length co33) : Value).ownBlock) (.slice Ao18 t663.length co18) t663) ∧ Aside0 (Kd.R (Kd.int .i64) 3 wc w.heap.size (fun k_ => some k_ ≠ ((.slice Ao18 t663.length co18) : Value).ownBlock ∧ some k_ ≠ ((.slice Ao33 t675.length co33) : Value).ownBlock) (.slice Ao24 t669.length co24) t669) ∧ Aside0 (Kd.R (Kd.int .i64) 3 wc w.heap.size (fun k_ => some k_ ≠ ((.slice Ao18 t663.length co18) : Value).ownBlock ∧ some k_ ≠ ((.slice Ao24 t669.length co24) : Value).ownBlock) (.slice Ao33 t675.length co33) t675) ∧ Aside0 (Kd.V (Kd.int .i64) 3 wc w.heap.size (fun k_ => some k_ ≠ ((.slice Ao24 t669.length co24) : Value).ownBlock ∧ some k_ ≠ ((.slice Ao33 t675.length co33) : Value).ownBlock ∧ k_ ≠ gb666 ∧ k_ ≠ gb667 ∧ k_ ≠ gb673 ∧ k_ ≠ gb679 ∧ k_ ≠ gb686) (.slice Ao90 t683.length co90) t683) ∧ Aside0 (wc.heap[gb666]? = some (.cells #[.int .i64 t658,(.slice Ao16 t659.length co16)] 28 (0,0))) ∧ Aside0 (wc.heap[gb667]? = some (.cells #[.int .i64 t662,(.slice Ao18 t663.length co18)] 28 (0,0))) ∧ Aside0 (wc.heap[gb673]? = some (.cells #[.int .i64 t668,(.slice Ao24 t669.length co24)] 28 (0,0))) ∧ Aside0 (wc.heap[gb679]? = some (.cells #[.int .i64 t674,(.slice Ao33 t675.length co33)] 28 (0,0))) ∧ Aside0 (wc.heap[gb686]? = some (.cells #[.int .i64 t682,(.slice Ao90 t683.length co90)] 28 (0,0))) ∧ Aside0 (Below w.heap.size w wc))
         case first =>
          have H:=HC82.out
          clear HC82
          replace H:=Option.bind_eq_some_iff.mp H
          obtain ⟨t687,A910,H⟩:=H
          replace H : (if t687 = true then (laws_FnMulGrades.j4 kj60 (t682 != t658) t658 t659 t662 t663 t668 t669 t682 t683) else (laws_FnMulGrades.j4 kj60 true t658 t659 t662 t663 t668 t669 t682 t683)) = some r:=H
          have A91:=Aside0.mk A910
          clear A910
          by_cases c92 : t687 = true
          ·subst c92
           have H1 : (laws_FnMulGrades.j4 kj60 (t682 != t658) t658 t659 t662 t663 t668 t669 t682 t683) = some r:=by rw [if_pos rfl] at H;exact H
           clear H
           have H:=H1
           clear H1
           have H':=Aside0.mk H
           clear H
           have hnb93:=NB686_666.out
           have hnc93:=NB666_686.out
           have hnb94:=NB686_667.out
           have hnc94:=NB667_686.out
           have hnb95:=NB686_673.out
           have hnc95:=NB673_686.out
           have hnb96:=NB686_679.out
           have hnc96:=NB679_686.out
           have hcz97_0 : w84.cell? ⟨gb686,0,none⟩ = some (.int .i64 0):=(blk_cell BK686.out 0).trans rfl
           have hcz97_1 : w84.cell? ⟨gb686,1,none⟩ = some (.slice none 0 0):=(blk_cell BK686.out 1).trans rfl
           have hfz97_0:=blk_frozen BK686.out 0
           have hfz97_1:=blk_frozen BK686.out 1
           go_wp2_with (first|((with_reducible refine gate_callee (f:=36) rfl ?_);refine goesL_ (some 73) rfl rfl Try.func36 (by kernel_rfl) rfl #[.agg #[.int .i64 t682,.slice Ao90 t683.length co90]] rfl lp_ ?_;(with_reducible refine (impl_GradesValid.calls kj60 t682 _ _ t683 true _ ?side1 ?side2 A91.out).mono ?_);(case side1 => refine (Kd.V_reads' (e:=3) (base:=w.heap.size) (ok:=fun k_ => ((some k_ ≠ (.slice Ao18 t663.length co18 : Value).ownBlock ∧ (some k_ ≠ (.slice Ao24 t669.length co24 : Value).ownBlock ∧ (some k_ ≠ (.slice Ao33 t675.length co33 : Value).ownBlock ∧ (k_ ≠ gb666 ∧ (k_ ≠ gb667 ∧ (k_ ≠ gb673 ∧ k_ ≠ gb679)))))) ∧ k_ ≠ gb686)) (n:=t683.length) (c:=co90) ?_).2.2;exact (by refine pv_ ?_;exact (Kd.V_mono (Kd.V_far (p:=⟨gb686,1,none⟩) (Kd.V_far (p:=⟨gb686,0,none⟩) (Kd.V_mono HO685.out (fun k_ hk => (⟨hk,hk.2⟩ : _ ∧ k_ ≠ gb686))) (fun _ hk => hk.2) (.int .i64 t682)) (fun _ hk => hk.2) (.slice Ao90 t683.length co90)) (fun _ h_ => h_.1))));(case side2 => exact (Kd.V_reads' HO685.out).2.1);rintro e w98 ⟨rfl,hb⟩;refine ⟨_,rfl,?_⟩;have n0_:=Aside0.mk (Kd.V_below (by refine pv_ ?_;exact (Kd.V_mono (Kd.V_far (p:=⟨gb686,1,none⟩) (Kd.V_far (p:=⟨gb686,0,none⟩) (Kd.V_mono HO_667001.out (fun k_ hk => (⟨hk,hk.2⟩ : _ ∧ k_ ≠ gb686))) (fun _ hk => hk.2) (.int .i64 t682)) (fun _ hk => hk.2) (.slice Ao90 t683.length co90)) (fun _ h_ => h_.1))) hb);have n1_:=Aside0.mk (Kd.R_below (by refine pr_ ?_;exact (Kd.R_mono (Kd.R_far (p:=⟨gb686,1,none⟩) (Kd.R_far (p:=⟨gb686,0,none⟩) (Kd.R_types HO_668001.out BK686.out (by decide)) (fun _ hk => hk.2) (.int .i64 t682)) (fun _ hk => hk.2) (.slice Ao90 t683.length co90)) (fun _ h_ => h_.1))) hb);have n2_:=Aside0.mk (Kd.R_below (by refine pr_ ?_;exact (Kd.R_mono (Kd.R_far (p:=⟨gb686,1,none⟩) (Kd.R_far (p:=⟨gb686,0,none⟩) (Kd.R_types HO_674001.out BK686.out (by decide)) (fun _ hk => hk.2) (.int .i64 t682)) (fun _ hk => hk.2) (.slice Ao90 t683.length co90)) (fun _ h_ => h_.1))) hb);have n3_:=Aside0.mk (Kd.R_below (by refine pr_ ?_;exact (Kd.R_mono (Kd.R_far (p:=⟨gb686,1,none⟩) (Kd.R_far (p:=⟨gb686,0,none⟩) (Kd.R_types HO_680001.out BK686.out (by decide)) (fun _ hk => hk.2) (.int .i64 t682)) (fun _ hk => hk.2) (.slice Ao90 t683.length co90)) (fun _ h_ => h_.1))) hb);have n4_:=Aside0.mk (Kd.V_below (by refine pv_ ?_;exact (Kd.V_mono (Kd.V_far (p:=⟨gb686,1,none⟩) (Kd.V_far (p:=⟨gb686,0,none⟩) (Kd.V_mono HO685.out (fun k_ hk => (⟨hk,hk.2⟩ : _ ∧ k_ ≠ gb686))) (fun _ hk => hk.2) (.int .i64 t682)) (fun _ hk => hk.2) (.slice Ao90 t683.length co90)) (fun _ h_ => h_.1))) hb);have n5_:=Aside0.mk (blk_below (g:=gb666) (o:=.cells #[.int .i64 t658,.slice Ao16 t659.length co16] 28 (0,0)) (by refine pe_ ?_;refine blk_far ?_ NB666_686.out _;refine pe_ ?_;refine blk_far ?_ NB666_686.out _;refine pe_ ?_;exact BK666.out) hb);have n6_:=Aside0.mk (blk_below (g:=gb667) (o:=.cells #[.int .i64 t662,.slice Ao18 t663.length co18] 28 (0,0)) (by refine pe_ ?_;refine blk_far ?_ NB667_686.out _;refine pe_ ?_;refine blk_far ?_ NB667_686.out _;refine pe_ ?_;exact BK667.out) hb);have n7_:=Aside0.mk (blk_below (g:=gb673) (o:=.cells #[.int .i64 t668,.slice Ao24 t669.length co24] 28 (0,0)) (by refine pe_ ?_;refine blk_far ?_ NB673_686.out _;refine pe_ ?_;refine blk_far ?_ NB673_686.out _;refine pe_ ?_;exact BK673.out) hb);have n8_:=Aside0.mk (blk_below (g:=gb679) (o:=.cells #[.int .i64 t674,.slice Ao33 t675.length co33] 28 (0,0)) (by refine pe_ ?_;refine blk_far ?_ NB679_686.out _;refine pe_ ?_;refine blk_far ?_ NB679_686.out _;refine pe_ ?_;exact BK679.out) hb);have n9_:=Aside0.mk (blk_below (g:=gb686) (o:=.cells #[.int .i64 t682,.slice Ao90 t683.length co90] 28 (0,0)) (by refine pe_ ?_;refine blk_put (cs:=#[.int .i64 t682,.slice none 0 0]) ?_ 1 _ rfl;refine pe_ ?_;refine blk_put (cs:=#[.int .i64 0,.slice none 0 0]) ?_ 0 _ rfl;refine pe_ ?_;exact BK686.out) hb);have n10_:=Aside0.mk (below_step (be5_ HB.out GE666.out GE667.out GE673.out GE679.out GE686.out) hb);clear HO_667001;clear HO_668001;clear HO_674001;clear HO_680001;clear HO685;clear BK666;clear BK667;clear BK673;clear BK679;clear BK686;clear HB;have HO_667001:=n0_;have HO_668001:=n1_;have HO_674001:=n2_;have HO_680001:=n3_;have HO685:=n4_;have BK666:=n5_;have BK667:=n6_;have BK673:=n7_;have BK679:=n8_;have BK686:=n9_;have HB:=n10_;clear n0_ n1_ n2_ n3_ n4_ n5_ n6_ n7_ n8_ n9_ n10_;(try clear hb);(try clear hb2);(try clear hk);(try clear hi);have hcz99_0 : w98.cell? ⟨gb686,0,none⟩ = some (.int .i64 t682):=(blk_cell BK686.out 0).trans rfl;have hcz99_1 : w98.cell? ⟨gb686,1,none⟩ = some (.slice Ao90 t683.length co90):=(blk_cell BK686.out 1).trans rfl;have hfz99_0:=blk_frozen BK686.out 0;have hfz99_1:=blk_frozen BK686.out 1;have hnb100:=NB666_667.out;have hnc100:=NB667_666.out;have hnb101:=NB666_673.out;have hnc101:=NB673_666.out;have hnb102:=NB666_679.out;have hnc102:=NB679_666.out;have hcz103_0 : w98.cell? ⟨gb666,0,none⟩ = some (.int .i64 t658):=(blk_cell BK666.out 0).trans rfl;have hcz103_1 : w98.cell? ⟨gb666,1,none⟩ = some (.slice Ao16 t659.length co16):=(blk_cell BK666.out 1).trans rfl;have hfz103_0:=blk_frozen BK666.out 0;have hfz103_1:=blk_frozen BK666.out 1))
           go_meet
           case rel => exact ⟨_,((t682 != t658)),(by first|rfl|(simp;done)|(simp [*];done)),H',⟨by have:=HJ2.out;have:=HJ4.out;have:=HJ9.out;have:=HJ60.out;first|omega|exact Nat.le_refl _⟩,⟨by refine pv_ ?_;exact Kd.V_mono HO_667001.out (fun _ hk => ⟨hk.1.1,⟨hk.1.2.1,⟨hk.1.2.2.1,⟨hk.1.2.2.2.1,⟨hk.1.2.2.2.2.1,⟨hk.1.2.2.2.2.2.1,⟨hk.1.2.2.2.2.2.2,hk.2⟩⟩⟩⟩⟩⟩⟩)⟩,⟨pr_ HO_668001.out⟩,⟨pr_ HO_674001.out⟩,⟨pr_ HO_680001.out⟩,⟨by refine pv_ ?_;exact Kd.V_mono HO685.out (fun _ hk => ⟨hk.1.2.1,⟨hk.1.2.2.1,⟨hk.1.2.2.2.1,⟨hk.1.2.2.2.2.1,⟨hk.1.2.2.2.2.2.1,⟨hk.1.2.2.2.2.2.2,hk.2⟩⟩⟩⟩⟩⟩)⟩,⟨pe_ BK666.out⟩,⟨pe_ BK667.out⟩,⟨pe_ BK673.out⟩,⟨pe_ BK679.out⟩,⟨pe_ BK686.out⟩,⟨be5_ HB.out GE666.out GE667.out GE673.out GE679.out GE686.out⟩⟩
          ·replace c92:=Bool.eq_false_iff.mpr c92
           subst c92
           have H1 : (laws_FnMulGrades.j4 kj60 true t658 t659 t662 t663 t668 t669 t682 t683) = some r:=by rw [if_neg (show ¬ (false = true) by decide)] at H;exact H
           clear H
           have H:=H1
           clear H1
           have H':=Aside0.mk H
           clear H
           have hnb104:=NB686_666.out
           have hnc104:=NB666_686.out
           have hnb105:=NB686_667.out
           have hnc105:=NB667_686.out
           have hnb106:=NB686_673.out
           have hnc106:=NB673_686.out
           have hnb107:=NB686_679.out
           have hnc107:=NB679_686.out
           have hcz108_0 : w84.cell? ⟨gb686,0,none⟩ = some (.int .i64 0):=(blk_cell BK686.out 0).trans rfl
           have hcz108_1 : w84.cell? ⟨gb686,1,none⟩ = some (.slice none 0 0):=(blk_cell BK686.out 1).trans rfl
           have hfz108_0:=blk_frozen BK686.out 0
           have hfz108_1:=blk_frozen BK686.out 1
           go_wp2_with (first|((with_reducible refine gate_callee (f:=36) rfl ?_);refine goesL_ (some 73) rfl rfl Try.func36 (by kernel_rfl) rfl #[.agg #[.int .i64 t682,.slice Ao90 t683.length co90]] rfl lp_ ?_;(with_reducible refine (impl_GradesValid.calls kj60 t682 _ _ t683 false _ ?side1 ?side2 A91.out).mono ?_);(case side1 => refine (Kd.V_reads' (e:=3) (base:=w.heap.size) (ok:=fun k_ => ((some k_ ≠ (.slice Ao18 t663.length co18 : Value).ownBlock ∧ (some k_ ≠ (.slice Ao24 t669.length co24 : Value).ownBlock ∧ (some k_ ≠ (.slice Ao33 t675.length co33 : Value).ownBlock ∧ (k_ ≠ gb666 ∧ (k_ ≠ gb667 ∧ (k_ ≠ gb673 ∧ k_ ≠ gb679)))))) ∧ k_ ≠ gb686)) (n:=t683.length) (c:=co90) ?_).2.2;exact (by refine pv_ ?_;exact (Kd.V_mono (Kd.V_far (p:=⟨gb686,1,none⟩) (Kd.V_far (p:=⟨gb686,0,none⟩) (Kd.V_mono HO685.out (fun k_ hk => (⟨hk,hk.2⟩ : _ ∧ k_ ≠ gb686))) (fun _ hk => hk.2) (.int .i64 t682)) (fun _ hk => hk.2) (.slice Ao90 t683.length co90)) (fun _ h_ => h_.1))));(case side2 => exact (Kd.V_reads' HO685.out).2.1);rintro e w109 ⟨rfl,hb⟩;refine ⟨_,rfl,?_⟩;have n0_:=Aside0.mk (Kd.V_below (by refine pv_ ?_;exact (Kd.V_mono (Kd.V_far (p:=⟨gb686,1,none⟩) (Kd.V_far (p:=⟨gb686,0,none⟩) (Kd.V_mono HO_667001.out (fun k_ hk => (⟨hk,hk.2⟩ : _ ∧ k_ ≠ gb686))) (fun _ hk => hk.2) (.int .i64 t682)) (fun _ hk => hk.2) (.slice Ao90 t683.length co90)) (fun _ h_ => h_.1))) hb);have n1_:=Aside0.mk (Kd.R_below (by refine pr_ ?_;exact (Kd.R_mono (Kd.R_far (p:=⟨gb686,1,none⟩) (Kd.R_far (p:=⟨gb686,0,none⟩) (Kd.R_types HO_668001.out BK686.out (by decide)) (fun _ hk => hk.2) (.int .i64 t682)) (fun _ hk => hk.2) (.slice Ao90 t683.length co90)) (fun _ h_ => h_.1))) hb);have n2_:=Aside0.mk (Kd.R_below (by refine pr_ ?_;exact (Kd.R_mono (Kd.R_far (p:=⟨gb686,1,none⟩) (Kd.R_far (p:=⟨gb686,0,none⟩) (Kd.R_types HO_674001.out BK686.out (by decide)) (fun _ hk => hk.2) (.int .i64 t682)) (fun _ hk => hk.2) (.slice Ao90 t683.length co90)) (fun _ h_ => h_.1))) hb);have n3_:=Aside0.mk (Kd.R_below (by refine pr_ ?_;exact (Kd.R_mono (Kd.R_far (p:=⟨gb686,1,none⟩) (Kd.R_far (p:=⟨gb686,0,none⟩) (Kd.R_types HO_680001.out BK686.out (by decide)) (fun _ hk => hk.2) (.int .i64 t682)) (fun _ hk => hk.2) (.slice Ao90 t683.length co90)) (fun _ h_ => h_.1))) hb);have n4_:=Aside0.mk (Kd.V_below (by refine pv_ ?_;exact (Kd.V_mono (Kd.V_far (p:=⟨gb686,1,none⟩) (Kd.V_far (p:=⟨gb686,0,none⟩) (Kd.V_mono HO685.out (fun k_ hk => (⟨hk,hk.2⟩ : _ ∧ k_ ≠ gb686))) (fun _ hk => hk.2) (.int .i64 t682)) (fun _ hk => hk.2) (.slice Ao90 t683.length co90)) (fun _ h_ => h_.1))) hb);have n5_:=Aside0.mk (blk_below (g:=gb666) (o:=.cells #[.int .i64 t658,.slice Ao16 t659.length co16] 28 (0,0)) (by refine pe_ ?_;refine blk_far ?_ NB666_686.out _;refine pe_ ?_;refine blk_far ?_ NB666_686.out _;refine pe_ ?_;exact BK666.out) hb);have n6_:=Aside0.mk (blk_below (g:=gb667) (o:=.cells #[.int .i64 t662,.slice Ao18 t663.length co18] 28 (0,0)) (by refine pe_ ?_;refine blk_far ?_ NB667_686.out _;refine pe_ ?_;refine blk_far ?_ NB667_686.out _;refine pe_ ?_;exact BK667.out) hb);have n7_:=Aside0.mk (blk_below (g:=gb673) (o:=.cells #[.int .i64 t668,.slice Ao24 t669.length co24] 28 (0,0)) (by refine pe_ ?_;refine blk_far ?_ NB673_686.out _;refine pe_ ?_;refine blk_far ?_ NB673_686.out _;refine pe_ ?_;exact BK673.out) hb);have n8_:=Aside0.mk (blk_below (g:=gb679) (o:=.cells #[.int .i64 t674,.slice Ao33 t675.length co33] 28 (0,0)) (by refine pe_ ?_;refine blk_far ?_ NB679_686.out _;refine pe_ ?_;refine blk_far ?_ NB679_686.out _;refine pe_ ?_;exact BK679.out) hb);have n9_:=Aside0.mk (blk_below (g:=gb686) (o:=.cells #[.int .i64 t682,.slice Ao90 t683.length co90] 28 (0,0)) (by refine pe_ ?_;refine blk_put (cs:=#[.int .i64 t682,.slice none 0 0]) ?_ 1 _ rfl;refine pe_ ?_;refine blk_put (cs:=#[.int .i64 0,.slice none 0 0]) ?_ 0 _ rfl;refine pe_ ?_;exact BK686.out) hb);have n10_:=Aside0.mk (below_step (be5_ HB.out GE666.out GE667.out GE673.out GE679.out GE686.out) hb);clear HO_667001;clear HO_668001;clear HO_674001;clear HO_680001;clear HO685;clear BK666;clear BK667;clear BK673;clear BK679;clear BK686;clear HB;have HO_667001:=n0_;have HO_668001:=n1_;have HO_674001:=n2_;have HO_680001:=n3_;have HO685:=n4_;have BK666:=n5_;have BK667:=n6_;have BK673:=n7_;have BK679:=n8_;have BK686:=n9_;have HB:=n10_;clear n0_ n1_ n2_ n3_ n4_ n5_ n6_ n7_ n8_ n9_ n10_;(try clear hb);(try clear hb2);(try clear hk);(try clear hi)))
           go_meet
           case rel => exact ⟨_,(true),(by first|rfl|(simp;done)|(simp [*];done)),H',⟨by have:=HJ2.out;have:=HJ4.out;have:=HJ9.out;have:=HJ60.out;first|omega|exact Nat.le_refl _⟩,⟨by refine pv_ ?_;exact Kd.V_mono HO_667001.out (fun _ hk => ⟨hk.1.1,⟨hk.1.2.1,⟨hk.1.2.2.1,⟨hk.1.2.2.2.1,⟨hk.1.2.2.2.2.1,⟨hk.1.2.2.2.2.2.1,⟨hk.1.2.2.2.2.2.2,hk.2⟩⟩⟩⟩⟩⟩⟩)⟩,⟨pr_ HO_668001.out⟩,⟨pr_ HO_674001.out⟩,⟨pr_ HO_680001.out⟩,⟨by refine pv_ ?_;exact Kd.V_mono HO685.out (fun _ hk => ⟨hk.1.2.1,⟨hk.1.2.2.1,⟨hk.1.2.2.2.1,⟨hk.1.2.2.2.2.1,⟨hk.1.2.2.2.2.2.1,⟨hk.1.2.2.2.2.2.2,hk.2⟩⟩⟩⟩⟩⟩)⟩,⟨pe_ BK666.out⟩,⟨pe_ BK667.out⟩,⟨pe_ BK673.out⟩,⟨pe_ BK679.out⟩,⟨pe_ BK686.out⟩,⟨be5_ HB.out GE666.out GE667.out GE673.out GE679.out GE686.out⟩⟩
         case rest =>
          clear HC82
          try clear c1
          try clear c2
          try clear p2
          try clear c3
          try clear c4
          try clear c4b0
          try clear c4b1
          try clear c5
          try clear c6
          try clear c7
          try clear c8
          try clear c9
          try clear c10
          try clear c14
          try clear c21
          try clear c22
          try clear c26
          try clear c27
          try clear c29
          try clear c30
          try clear c31
          try clear c34
          try clear c35
          try clear c36
          try clear c36b0
          try clear c36b1
          try clear c36b2
          try clear c37
          try clear c38
          try clear c39
          try clear c41
          try clear c42
          try clear c45
          try clear c46
          try clear c47
          try clear c49
          try clear c50
          try clear c53
          try clear c54
          try clear c55
          try clear c57
          try clear c58
          try clear c62
          try clear c64
          try clear c65
          try clear c66
          try clear c67
          try clear c69
          try clear c70
          try clear c73
          try clear c74
          try clear c75
          try clear c77
          try clear c78
          try clear c85
          try clear c86
          try clear c87
          try clear c88
          try clear c92
          try clear c93
          try clear c94
          try clear c95
          try clear c96
          try clear c100
          try clear c101
          try clear c102
          try clear c104
          try clear c105
          try clear c106
          try clear c107
          try clear hcz103_0
          try clear hcz103_1
          try clear hcz108_0
          try clear hcz108_1
          try clear hcz15_0
          try clear hcz15_1
          try clear hcz17_0
          try clear hcz17_1
          try clear hcz23_0
          try clear hcz23_1
          try clear hcz25_0
          try clear hcz25_1
          try clear hcz26_0
          try clear hcz26_1
          try clear hcz32_0
          try clear hcz32_1
          try clear hcz40_0
          try clear hcz40_1
          try clear hcz43_0
          try clear hcz43_1
          try clear hcz48_0
          try clear hcz48_1
          try clear hcz51_0
          try clear hcz51_1
          try clear hcz56_0
          try clear hcz56_1
          try clear hcz59_0
          try clear hcz59_1
          try clear hcz68_0
          try clear hcz68_1
          try clear hcz71_0
          try clear hcz71_1
          try clear hcz76_0
          try clear hcz76_1
          try clear hcz79_0
          try clear hcz79_1
          try clear hcz89_0
          try clear hcz89_1
          try clear hcz97_0
          try clear hcz97_1
          try clear hcz99_0
          try clear hcz99_1
          try clear hfz103_0
          try clear hfz103_1
          try clear hfz108_0
          try clear hfz108_1
          try clear hfz15_0
          try clear hfz15_1
          try clear hfz17_0
          try clear hfz17_1
          try clear hfz23_0
          try clear hfz23_1
          try clear hfz25_0
          try clear hfz25_1
          try clear hfz26_0
          try clear hfz26_1
          try clear hfz32_0
          try clear hfz32_1
          try clear hfz40_0
          try clear hfz40_1
          try clear hfz43_0
          try clear hfz43_1
          try clear hfz48_0
          try clear hfz48_1
          try clear hfz51_0
          try clear hfz51_1
          try clear hfz56_0
          try clear hfz56_1
          try clear hfz59_0
          try clear hfz59_1
          try clear hfz68_0
          try clear hfz68_1
          try clear hfz71_0
          try clear hfz71_1
          try clear hfz76_0
          try clear hfz76_1
          try clear hfz79_0
          try clear hfz79_1
          try clear hfz89_0
          try clear hfz89_1
          try clear hfz97_0
          try clear hfz97_1
          try clear hfz99_0
          try clear hfz99_1
          try clear p2
          obtain ⟨kq,x81_81,rfl,HA,HJ81,HO_667001,HO_668001,HO_674001,HO_680001,HO_687001,BK666,BK667,BK673,BK679,BK686,HB⟩:=hcut
          cases kq with
          | zero => exact absurd HA.out (by simp [laws_FnMulGrades.j4])
          | succ kj81 =>
           have H:=HA.out
           clear HA
           simp only [laws_FnMulGrades.j4] at H
           have HC110:=Aside0.mk H
           clear H
           go_upto_if 81 with (fail)
           go_cut [] (fun wc => ∃ (kq : Nat) (x687000_109 : Int) (x687001_109 : List Int) (u687001 : Value),Aside0 (laws_FnMulGrades.j5 kq t658 t659 t662 t663 t668 t669 x687000_109 x687001_109 = some r) ∧ Aside0 (kq ≤ kj81) ∧ Aside0 (Kd.V (Kd.int .i64) 3 wc w.heap.size (fun k_ => some k_ ≠ ((.slice Ao18 t663.length co18) : Value).ownBlock ∧ some k_ ≠ ((.slice Ao24 t669.length co24) : Value).ownBlock ∧ some k_ ≠ ((.slice Ao33 t675.length co33) : Value).ownBlock ∧ k_ ≠ gb666 ∧ k_ ≠ gb667 ∧ k_ ≠ gb673 ∧ k_ ≠ gb679 ∧ k_ ≠ gb686) (.slice Ao16 t659.length co16) t659) ∧ Aside0 (Kd.R (Kd.int .i64) 3 wc w.heap.size (fun k_ => some k_ ≠ ((.slice Ao24 t669.length co24) : Value).ownBlock ∧ some k_ ≠ ((.slice Ao33 t675.length co33) : Value).ownBlock) (.slice Ao18 t663.length co18) t663) ∧ Aside0 (Kd.R (Kd.int .i64) 3 wc w.heap.size (fun k_ => some k_ ≠ ((.slice Ao18 t663.length co18) : Value).ownBlock ∧ some k_ ≠ ((.slice Ao33 t675.length co33) : Value).ownBlock) (.slice Ao24 t669.length co24) t669) ∧ Aside0 (Kd.R (Kd.int .i64) 3 wc w.heap.size (fun k_ => some k_ ≠ ((.slice Ao18 t663.length co18) : Value).ownBlock ∧ some k_ ≠ ((.slice Ao24 t669.length co24) : Value).ownBlock) (.slice Ao33 t675.length co33) t675) ∧ Aside0 (Kd.V (Kd.int .i64) 3 wc w.heap.size (fun k_ => some k_ ≠ ((.slice Ao24 t669.length co24) : Value).ownBlock ∧ some k_ ≠ ((.slice Ao33 t675.length co33) : Value).ownBlock ∧ k_ ≠ gb666 ∧ k_ ≠ gb667 ∧ k_ ≠ gb673 ∧ k_ ≠ gb679 ∧ k_ ≠ gb686) u687001 x687001_109) ∧ Aside0 (wc.heap[gb666]? = some (.cells #[.int .i64 t658,(.slice Ao16 t659.length co16)] 28 (0,0))) ∧ Aside0 (wc.heap[gb667]? = some (.cells #[.int .i64 t662,(.slice Ao18 t663.length co18)] 28 (0,0))) ∧ Aside0 (wc.heap[gb673]? = some (.cells #[.int .i64 t668,(.slice Ao24 t669.length co24)] 28 (0,0))) ∧ Aside0 (wc.heap[gb679]? = some (.cells #[.int .i64 t674,(.slice Ao33 t675.length co33)] 28 (0,0))) ∧ Aside0 (wc.heap[gb686]? = some (.cells #[.int .i64 x687000_109,u687001] 28 (0,0))) ∧ Aside0 (Below w.heap.size w wc))
           case first =>
            have H:=HC110.out
            clear HC110
            by_cases c111 : x81_81 = true
            ·subst c111
             have H1 : (laws_FnMulGrades.j5 kj81 t658 t659 t662 t663 t668 t669 t662 t663) = some r:=by rw [if_pos rfl] at H;exact H
             clear H
             have H:=H1
             clear H1
             have H':=Aside0.mk H
             clear H
             have hnb112:=NB667_666.out
             have hnc112:=NB666_667.out
             have hnb113:=NB667_673.out
             have hnc113:=NB673_667.out
             have hnb114:=NB667_679.out
             have hnc114:=NB679_667.out
             have hnb115:=NB667_686.out
             have hnc115:=NB686_667.out
             have hcz116_0 : wc.cell? ⟨gb667,0,none⟩ = some (.int .i64 t662):=(blk_cell BK667.out 0).trans rfl
             have hcz116_1 : wc.cell? ⟨gb667,1,none⟩ = some (.slice Ao18 t663.length co18):=(blk_cell BK667.out 1).trans rfl
             have hfz116_0:=blk_frozen BK667.out 0
             have hfz116_1:=blk_frozen BK667.out 1
             have hnb117:=NB686_666.out
             have hnc117:=NB666_686.out
             have hnb118:=NB686_673.out
             have hnc118:=NB673_686.out
             have hnb119:=NB686_679.out
             have hnc119:=NB679_686.out
             have hcz120_0 : wc.cell? ⟨gb686,0,none⟩ = some (.int .i64 t682):=(blk_cell BK686.out 0).trans rfl
             have hcz120_1 : wc.cell? ⟨gb686,1,none⟩ = some (.slice Ao90 t683.length co90):=(blk_cell BK686.out 1).trans rfl
             have hfz120_0:=blk_frozen BK686.out 0
             have hfz120_1:=blk_frozen BK686.out 1
             go_wp2
             go_meet
             case rel => exact ⟨_,(t662),(t663),(.slice Ao18 t663.length co18),H',⟨by have:=HJ2.out;have:=HJ4.out;have:=HJ9.out;have:=HJ60.out;have:=HJ81.out;first|omega|exact Nat.le_refl _⟩,⟨by refine pv_ ?_;exact Kd.V_mono (Kd.V_far (p:=⟨gb686,1,none⟩) (Kd.V_far (p:=⟨gb686,0,none⟩) (Kd.V_mono HO_667001.out (fun k_ hk => (⟨hk,hk.2.2.2.2.2.2.2⟩ : _ ∧ k_ ≠ gb686))) (fun _ hk => hk.2) (.int .i64 t662)) (fun _ hk => hk.2) (.slice Ao18 t663.length co18)) (fun _ hk => ⟨hk.1.1,⟨hk.1.2.1,⟨hk.1.2.2.1,⟨hk.1.2.2.2.1,⟨hk.1.2.2.2.2.1,⟨hk.1.2.2.2.2.2.1,⟨hk.1.2.2.2.2.2.2.1,hk.1.2.2.2.2.2.2.2⟩⟩⟩⟩⟩⟩⟩)⟩,⟨by refine pr_ ?_;exact Kd.R_mono (Kd.R_far (p:=⟨gb686,1,none⟩) (Kd.R_far (p:=⟨gb686,0,none⟩) (Kd.R_types HO_668001.out BK686.out (by decide)) (fun _ hk => hk.2) (.int .i64 t662)) (fun _ hk => hk.2) (.slice Ao18 t663.length co18)) (fun _ hk => ⟨hk.1.1,hk.1.2⟩)⟩,⟨by refine pr_ ?_;exact Kd.R_mono (Kd.R_far (p:=⟨gb686,1,none⟩) (Kd.R_far (p:=⟨gb686,0,none⟩) (Kd.R_types HO_674001.out BK686.out (by decide)) (fun _ hk => hk.2) (.int .i64 t662)) (fun _ hk => hk.2) (.slice Ao18 t663.length co18)) (fun _ hk => ⟨hk.1.1,hk.1.2⟩)⟩,⟨by refine pr_ ?_;exact Kd.R_mono (Kd.R_far (p:=⟨gb686,1,none⟩) (Kd.R_far (p:=⟨gb686,0,none⟩) (Kd.R_types HO_680001.out BK686.out (by decide)) (fun _ hk => hk.2) (.int .i64 t662)) (fun _ hk => hk.2) (.slice Ao18 t663.length co18)) (fun _ hk => ⟨hk.1.1,hk.1.2⟩)⟩,⟨Kd.R_V (by refine pr_ ?_;exact Kd.R_mono (Kd.R_far (p:=⟨gb686,1,none⟩) (Kd.R_far (p:=⟨gb686,0,none⟩) (Kd.R_types (Kd.R_types (Kd.R_types (Kd.R_types (Kd.R_types (Kd.R_types HO_668001.out BK666.out (by decide)) BK667.out (by decide)) BK673.out (by decide)) BK679.out (by decide)) BK686.out (by decide)) BK686.out (by decide)) (fun _ hk => hk.2) (.int .i64 t662)) (fun _ hk => hk.2) (.slice Ao18 t663.length co18)) (fun _ hk => ⟨hk.1.1.1.1.1.1.1,⟨hk.1.1.1.1.1.1.2,⟨hk.1.1.1.1.1.2,⟨hk.1.1.1.1.2,⟨hk.1.1.1.2,⟨hk.1.1.2,hk.1.2⟩⟩⟩⟩⟩⟩))⟩,⟨by refine pe_ ?_;refine blk_far ?_ NB666_686.out _;refine pe_ ?_;refine blk_far ?_ NB666_686.out _;refine pe_ ?_;exact BK666.out⟩,⟨by refine pe_ ?_;refine blk_far ?_ NB667_686.out _;refine pe_ ?_;refine blk_far ?_ NB667_686.out _;refine pe_ ?_;exact BK667.out⟩,⟨by refine pe_ ?_;refine blk_far ?_ NB673_686.out _;refine pe_ ?_;refine blk_far ?_ NB673_686.out _;refine pe_ ?_;exact BK673.out⟩,⟨by refine pe_ ?_;refine blk_far ?_ NB679_686.out _;refine pe_ ?_;refine blk_far ?_ NB679_686.out _;refine pe_ ?_;exact BK679.out⟩,⟨by refine pe_ ?_;refine blk_put (cs:=#[.int .i64 t662,.slice Ao90 t683.length co90]) ?_ 1 _ rfl;refine pe_ ?_;refine blk_put (cs:=#[.int .i64 t682,.slice Ao90 t683.length co90]) ?_ 0 _ rfl;refine pe_ ?_;exact BK686.out⟩,⟨be5_ HB.out GE666.out GE667.out GE673.out GE679.out GE686.out⟩⟩
            ·replace c111:=Bool.eq_false_iff.mpr c111
             subst c111
             have H1 : (laws_FnMulGrades.j5 kj81 t658 t659 t662 t663 t668 t669 t682 t683) = some r:=by rw [if_neg (show ¬ (false = true) by decide)] at H;exact H
             clear H
             have H:=H1
             clear H1
             have H':=Aside0.mk H
             clear H
             go_wp2
             go_meet
             case rel => exact ⟨_,(t682),(t683),(.slice Ao90 t683.length co90),H',⟨by have:=HJ2.out;have:=HJ4.out;have:=HJ9.out;have:=HJ60.out;have:=HJ81.out;first|omega|exact Nat.le_refl _⟩,⟨pv_ HO_667001.out⟩,⟨pr_ HO_668001.out⟩,⟨pr_ HO_674001.out⟩,⟨pr_ HO_680001.out⟩,⟨pv_ HO_687001.out⟩,⟨pe_ BK666.out⟩,⟨pe_ BK667.out⟩,⟨pe_ BK673.out⟩,⟨pe_ BK679.out⟩,⟨pe_ BK686.out⟩,⟨be5_ HB.out GE666.out GE667.out GE673.out GE679.out GE686.out⟩⟩
           case rest =>
            rename_i zz0_0 zz0_1 zz0_2 zz0_3 zz0_4 zz0_5 zz0_6 zz0_7 zz0_8 zz0_9 zz0_10 zz0_11 zz0_12 zz0_13 zz0_14 zz0_15 zz0_16 zz0_17 zz0_18 zz0_19 zz0_20 zz0_21 zz0_22 zz0_23 zz0_24 zz0_25 zz0_26 zz0_27 zz0_28 zz0_29 zz0_30 zz0_31 zz0_32 zz0_33 zz0_34 zz0_35 zz0_36 zz0_37 zz0_38 zz0_39 zz0_40 zz0_41 zz0_42 zz0_43 zz0_44 zz0_45 zz0_46 zz0_47 zz0_48 zz0_49 zz0_50 zz0_51 zz0_52 zz0_53 zz0_54 zz0_55 zz0_56 zz0_57 zz0_58 zz0_59 zz0_60 zz0_61 zz0_62 zz0_63 zz0_64 zz0_65 zz0_66 zz0_67 zz0_68 zz0_69 zz0_70 zz0_71 zz0_72 zz0_73 zz0_74 zz0_75 zz0_76 zz0_77 zz0_78 zz0_79 zz0_80 zz0_81 zz0_82 zz0_83 zz0_84 zz0_85 zz0_86 zz0_87 zz0_88 zz0_89 zz0_90 zz0_91 zz0_92 zz0_93 zz0_94 zz0_95 zz0_96 zz0_97 zz0_98 zz0_99 zz0_100 zz0_101 zz0_102 zz0_103 zz0_104 zz0_105 zz0_106 zz0_107 zz0_108 zz0_109 zz0_110 zz0_111 zz0_112 zz0_113 zz0_114 zz0_115 zz0_116 zz0_117 zz0_118 zz0_119 zz0_120 zz0_121 zz0_122 zz0_123 zz0_124 zz0_125 zz0_126 zz0_127 zz0_128 zz0_129 zz0_130 zz0_131 zz0_132 zz0_133 zz0_134 zz0_135 zz0_136 zz0_137 zz0_138 zz0_139 zz0_140 zz0_141 zz0_142 zz0_143 zz0_144 zz0_145 zz0_146 zz0_147 zz0_148 zz0_149 zz0_150 zz0_151 zz0_152 zz0_153 zz0_154 zz0_155 zz0_156 zz0_157 zz0_158 zz0_159 zz0_160 zz0_161 zz0_162 zz0_163 zz0_164 zz0_165 zz0_166 zz0_167 zz0_168 zz0_169 zz0_170 zz0_171 zz0_172 zz0_173 zz0_174 zz0_175 zz0_176 zz0_177 zz0_178 zz0_179 zz0_180 zz0_181 zz0_182 zz0_183 zz0_184 zz0_185 zz0_186 zz0_187 zz0_188 zz0_189 zz0_190 zz0_191 zz0_192 zz0_193 zz0_194 zz0_195 zz0_196 zz0_197 zz0_198 zz0_199 zz0_200 zz0_201 zz0_202 zz0_203 zz0_204 zz0_205 zz0_206 zz0_207 zz0_208 zz0_209 zz0_210 zz0_211 zz0_212 zz0_213 zz0_214 zz0_215 zz0_216 zz0_217 zz0_218 zz0_219 zz0_220 zz0_221 zz0_222 zz0_223 zz0_224 zz0_225 zz0_226 zz0_227 zz0_228 zz0_229 zz0_230 zz0_231 zz0_232 zz0_233 zz0_234 zz0_235 zz0_236 zz0_237 zz0_238 zz0_239 zz0_240 zz0_241 zz0_242 zz0_243 zz0_244 zz0_245 zz0_246 zz0_247 zz0_248 zz0_249 zz0_250 zz0_251 zz0_252 zz0_253 zz0_254 zz0_255 zz0_256 zz0_257 zz0_258 zz0_259 zz0_260 zz0_261 zz0_262 zz0_263 zz0_264 zz0_265 zz0_266 zz0_267 zz0_268 zz0_269 zz0_270 zz0_271 zz0_272 zz0_273 zz0_274 zz0_275 zz0_276 zz0_277 zz0_278 zz0_279 zz0_280 zz0_281 zz0_282 zz0_283 zz0_284 zz0_285 zz0_286 zz0_287 zz0_288 zz0_289 zz0_290 zz0_291 zz0_292 zz0_293 zz0_294 zz0_295 zz0_296 zz0_297 zz0_298 zz0_299 zz0_300 zz0_301 zz0_302 zz0_303 zz0_304 zz0_305 zz0_306 zz0_307 zz0_308 zz0_309 zz0_310 zz0_311 zz0_312 zz0_313 zz0_314 zz0_315 zz0_316 zz0_317 zz0_318 zz0_319 zz0_320 zz0_321 zz0_322 zz0_323 zz0_324 zz0_325 zz0_326 zz0_327 zz0_328 zz0_329 zz0_330 zz0_331 zz0_332 zz0_333 zz0_334 zz0_335 zz0_336 zz0_337 zz0_338 zz0_339 zz0_340 zz0_341 zz0_342 zz0_343 zz0_344 zz0_345 zz0_346 zz0_347 zz0_348 zz0_349 zz0_350 zz0_351 zz0_352 zz0_353 zz0_354 zz0_355 zz0_356 zz0_357 zz0_358 zz0_359 zz0_360 zz0_361 zz0_362 zz0_363 zz0_364 zz0_365 zz0_366 zz0_367 zz0_368 zz0_369 zz0_370 zz0_371 zz0_372 zz0_373 zz0_374 zz0_375 zz0_376 zz0_377 zz0_378 zz0_379 zz0_380 zz0_381 zz0_382 zz0_383 zz0_384 zz0_385 zz0_386 zz0_387 zz0_388 zz0_389 zz0_390 zz0_391 zz0_392 zz0_393 zz0_394 zz0_395 zz0_396 zz0_397 zz0_398 zz0_399 zz0_400 zz0_401 zz0_402 zz0_403 zz0_404 zz0_405 zz0_406 zz0_407 zz0_408 zz0_409 zz0_410 zz0_411 zz0_412 zz0_413 zz0_414 zz0_415 zz0_416 zz0_417 zz0_418 zz0_419 zz0_420 zz0_421 zz0_422 zz0_423 zz0_424 zz0_425 zz0_426 zz0_427 zz0_428 zz0_429 zz0_430 zz0_431 zz0_432 zz0_433 zz0_434 zz0_435 zz0_436 zz0_437 zz0_438 zz0_439 zz0_440 zz0_441 zz0_442 zz0_443 zz0_444 zz0_445 zz0_446 zz0_447 zz0_448 zz0_449 zz0_450 zz0_451 zz0_452 zz0_453 zz0_454 zz0_455 zz0_456 zz0_457 zz0_458 zz0_459 zz0_460 zz0_461 zz0_462 zz0_463 zz0_464 zz0_465 zz0_466 zz0_467 zz0_468 zz0_469 zz0_470 zz0_471 zz0_472 zz0_473 zz0_474 zz0_475 zz0_476 zz0_477 zz0_478 zz0_479 zz0_480 zz0_481 zz0_482 zz0_483 zz0_484 zz0_485 zz0_486 zz0_487 zz0_488 zz0_489 zz0_490 zz0_491 zz0_492 zz0_493 zz0_494 zz0_495 zz0_496 zz0_497 zz0_498 zz0_499 zz0_500 zz0_501 zz0_502 zz0_503 zz0_504 zz0_505 zz0_506 zz0_507 zz0_508 zz0_509 zz0_510 zz0_511 zz0_512 zz0_513 zz0_514 zz0_515 zz0_516 zz0_517 zz0_518 zz0_519 zz0_520 zz0_521 zz0_522 zz0_523 zz0_524 zz0_525 zz0_526 zz0_527 zz0_528 zz0_529 zz0_530 zz0_531 zz0_532 zz0_533 zz0_534 zz0_535 zz0_536 zz0_537 zz0_538 zz0_539 zz0_540 zz0_541 zz0_542 zz0_543 zz0_544 zz0_545 zz0_546 zz0_547 zz0_548 zz0_549 zz0_550 zz0_551 zz0_552 zz0_553 zz0_554 zz0_555 zz0_556 zz0_557 zz0_558 zz0_559 zz0_560 zz0_561
            revert hu28 HR0 HC0 HR1 HC1 zz0_0 zz0_1 zz0_2 x31_2 zz0_108 kj2 HJ2 zz0_109 zz0_110 kj4 HJ4 t658 t659 t662 t663 A7 t668 t669 t672 A8 t674 t675 t678 A9 w11 gb666 w12 GW666 GE666 gb667 w13 GW667 GE667 NB666_667 NB667_666 hnb14 hnc14 Ao16 co16 Ao18 co18 w19 gb673 w20 GW673 GE673 NB666_673 NB673_666 NB667_673 NB673_667 hnb21 hnc21 hnb22 hnc22 Ao24 co24 w27 gb679 w28 zz0_217 zz0_218 zz0_219 zz0_220 zz0_221 GW679 GE679 NB666_679 NB679_666 NB667_679 NB679_667 NB673_679 NB679_673 hnb29 hnc29 hnb30 hnc30 hnb31 hnc31 Ao33 co33 HO661 HO665 HO671 HO677 zz0_222 x61_9 zz0_328 zz0_329 zz0_330 zz0_331 zz0_332 zz0_333 zz0_334 zz0_335 zz0_336 kj9 HJ9 zz0_337 u4 zz0_395 kj60 HJ60 t682 t683 A81 w83 gb686 w84 zz0_444 zz0_445 zz0_446 zz0_447 zz0_448 zz0_449 zz0_450 zz0_451 zz0_452 zz0_453 GW686 GE686 NB666_686 NB686_666 NB667_686 NB686_667 NB673_686 NB686_673 NB679_686 NB686_679 hnb85 hnc85 hnb86 hnc86 hnb87 hnc87 hnb88 hnc88 Ao90 co90 HO685 zz0_454 zz0_455 zz0_456 zz0_457 zz0_458 zz0_459 zz0_460 zz0_461 zz0_462 zz0_463 zz0_464 zz0_465 zz0_466 zz0_467 zz0_468 zz0_469 zz0_470 zz0_471 zz0_472 zz0_473 zz0_474 zz0_475 zz0_476 zz0_477 zz0_478 zz0_479 zz0_480 zz0_481 zz0_482 zz0_483 zz0_484 zz0_485 zz0_486 zz0_487 zz0_488 zz0_489 zz0_490 zz0_491 zz0_492 zz0_493 zz0_494 zz0_495 zz0_496 zz0_497 zz0_498 zz0_499 zz0_500 zz0_501 zz0_502 zz0_503 zz0_504 zz0_505 zz0_506 zz0_507 zz0_508 zz0_509 zz0_510 zz0_511 zz0_512 zz0_513 zz0_514 zz0_515 zz0_516 zz0_517 zz0_518 zz0_519 zz0_520 zz0_521 zz0_522 zz0_523 zz0_524 zz0_525 zz0_526 zz0_527 zz0_528 zz0_529 zz0_530 zz0_531 zz0_532 zz0_533 zz0_534 zz0_535 zz0_536 zz0_537 zz0_538 zz0_539 zz0_540 zz0_541 zz0_542 zz0_543 zz0_544 zz0_545 zz0_546 zz0_547 zz0_548 zz0_549 zz0_550 zz0_551 zz0_552 zz0_553 zz0_554 zz0_555 zz0_556 zz0_557 zz0_558 zz0_559 zz0_560 zz0_561 x81_81 HO_667001 HO_668001 HO_674001 HO_680001 HO_687001 BK666 BK667 BK673 BK679 BK686 HB kj81 HJ81 HC110 wc u24 u25 u26 u27 u28 u29 u30 u31 u32 u33 u34 u35 u36 u37 u38 u39 u40 u41 u42 u43 u44 u45 u46 u47 u48 u49 u50 u51 u52 u53 u54 u55 u56 u57 u58 u59 u60 u61 u62 u63 u64 u65 u66 u67 u68 u69 u70 u71 u72 u73 u74 u75 u76 u77 u78 u79 u80 u81 u82 u83 u84 u85 u86 u87 u88 u89 u90 u91 u92 u93 u94 u95 u96 u97 u98 u99 u100 u101 u102 u103 u104 u105 u106 u107 u108 u109 u110 u111 u112 u113 u114 u115 u116 u117 u118 u119 u120 u121 u122 u123 u124 u125 u126 u127 u128 u129 hcut
            exact hG_0.out⟩
end Go.Proofs.Ytengegdaiphfeaa.X
end
