import Derived.Test.YtengegdaiphfeaaKFnMulGrades4
import Derived.Test.YtengegdaiphfeaaKFnMulGrades1
import Derived.Test.YtengegdaiphfeaaKFnMulGrades2
import Derived.Test.YtengegdaiphfeaaKFnMulGrades3
section
namespace Go.Proofs.Ytengegdaiphfeaa.X
open Go.RowKit Go.Proofs.YtengegdaiphfeaaW.PrintWords Go.Proofs.YtengegdaiphfeaaW.PrintLast Go.Proofs.YtengegdaiphfeaaW.PrintMore
attribute [local go_sem] max2_int min2_int max_two min_two max_three min_three max_four min_four
set_option linter.unusedVariables false
set_option linter.unusedSimpArgs false
set_option maxHeartbeats 8000000 in
set_option maxRecDepth 100000 in
theorem laws_FnMulGrades.p1 (k : Nat) (A0 : Option Addr) (c0 : Nat) (l0 : List Int) (A1 : Option Addr) (c1 : Nat) (l1 : List Int) (r : Bool) (w : World) : (laws_FnMulGrades.p0 k A0 c0 l0 A1 c1 l1 r w).1:=by
 intros hu28 HR0 HC0 HR1 HC1 zz0_0 zz0_1 zz0_2 x31_2 zz0_108 kj2 HJ2 zz0_109 zz0_110 kj4 HJ4 t658 t659 t662 t663 A7 t668 t669 t672 A8 t674 t675 t678 A9 w11 gb666 w12 GW666 GE666 gb667 w13 GW667 GE667 NB666_667 NB667_666 hnb14 hnc14 Ao16 co16 Ao18 co18 w19 gb673 w20 GW673 GE673 NB666_673 NB673_666 NB667_673 NB673_667 hnb21 hnc21 hnb22 hnc22 Ao24 co24 w27 gb679 w28 zz0_217 zz0_218 zz0_219 zz0_220 zz0_221 GW679 GE679 NB666_679 NB679_666 NB667_679 NB679_667 NB673_679 NB679_673 hnb29 hnc29 hnb30 hnc30 hnb31 hnc31 Ao33 co33 HO661 HO665 HO671 HO677 zz0_222 x61_9 zz0_328 zz0_329 zz0_330 zz0_331 zz0_332 zz0_333 zz0_334 zz0_335 zz0_336 kj9 HJ9 zz0_337 u4 zz0_395 kj60 HJ60 t682 t683 A81 w83 gb686 w84 zz0_444 zz0_445 zz0_446 zz0_447 zz0_448 zz0_449 zz0_450 zz0_451 zz0_452 zz0_453 GW686 GE686 NB666_686 NB686_666 NB667_686 NB686_667 NB673_686 NB686_673 NB679_686 NB686_679 hnb85 hnc85 hnb86 hnc86 hnb87 hnc87 hnb88 hnc88 Ao90 co90 HO685 zz0_454 zz0_455 zz0_456 zz0_457 zz0_458 zz0_459 zz0_460 zz0_461 zz0_462 zz0_463 zz0_464 zz0_465 zz0_466 zz0_467 zz0_468 zz0_469 zz0_470 zz0_471 zz0_472 zz0_473 zz0_474 zz0_475 zz0_476 zz0_477 zz0_478 zz0_479 zz0_480 zz0_481 zz0_482 zz0_483 zz0_484 zz0_485 zz0_486 zz0_487 zz0_488 zz0_489 zz0_490 zz0_491 zz0_492 zz0_493 zz0_494 zz0_495 zz0_496 zz0_497 zz0_498 zz0_499 zz0_500 zz0_501 zz0_502 zz0_503 zz0_504 zz0_505 zz0_506 zz0_507 zz0_508 zz0_509 zz0_510 zz0_511 zz0_512 zz0_513 zz0_514 zz0_515 zz0_516 zz0_517 zz0_518 zz0_519 zz0_520 zz0_521 zz0_522 zz0_523 zz0_524 zz0_525 zz0_526 zz0_527 zz0_528 zz0_529 zz0_530 zz0_531 zz0_532 zz0_533 zz0_534 zz0_535 zz0_536 zz0_537 zz0_538 zz0_539 zz0_540 zz0_541 zz0_542 zz0_543 zz0_544 zz0_545 zz0_546 zz0_547 zz0_548 zz0_549 zz0_550 zz0_551 zz0_552 zz0_553 zz0_554 zz0_555 zz0_556 zz0_557 zz0_558 zz0_559 zz0_560 zz0_561 x81_81 HO_667001 HO_668001 HO_674001 HO_680001 HO_687001 BK666 BK667 BK673 BK679 BK686 HB kj81 HJ81 HC110 wc u24 u25 u26 u27 u28 u29 u30 u31 u32 u33 u34 u35 u36 u37 u38 u39 u40 u41 u42 u43 u44 u45 u46 u47 u48 u49 u50 u51 u52 u53 u54 u55 u56 u57 u58 u59 u60 u61 u62 u63 u64 u65 u66 u67 u68 u69 u70 u71 u72 u73 u74 u75 u76 u77 u78 u79 u80 u81 u82 u83 u84 u85 u86 u87 u88 u89 u90 u91 u92 u93 u94 u95 u96 u97 u98 u99 u100 u101 u102 u103 u104 u105 u106 u107 u108 u109 u110 u111 u112 u113 u114 u115 u116 u117 u118 u119 u120 u121 u122 u123 u124 u125 u126 u127 u128 u129 hcut
 clear HC110
 try clear c1
 try clear c2
 try clear p2
 try clear c3
 try clear c4
 try clear c4b0
 try clear c4b1
 try clear c5
 try clear c6
 try clear c7
 try clear c8
 try clear c9
 try clear c10
 try clear c11
 try clear c14
 try clear c21
 try clear c22
 try clear c26
 try clear c27
 try clear c29
 try clear c30
 try clear c31
 try clear c34
 try clear c35
 try clear c36
 try clear c36b0
 try clear c36b1
 try clear c36b2
 try clear c37
 try clear c38
 try clear c39
 try clear c41
 try clear c42
 try clear c45
 try clear c46
 try clear c47
 try clear c49
 try clear c50
 try clear c53
 try clear c54
 try clear c55
 try clear c57
 try clear c58
 try clear c62
 try clear c64
 try clear c65
 try clear c66
 try clear c67
 try clear c69
 try clear c70
 try clear c73
 try clear c74
 try clear c75
 try clear c77
 try clear c78
 try clear c85
 try clear c86
 try clear c87
 try clear c88
 try clear c92
 try clear c93
 try clear c94
 try clear c95
 try clear c96
 try clear c100
 try clear c101
 try clear c102
 try clear c104
 try clear c105
 try clear c106
 try clear c107
 try clear c111
 try clear c112
 try clear c113
 try clear c114
 try clear c115
 try clear c117
 try clear c118
 try clear c119
 try clear hcz103_0
 try clear hcz103_1
 try clear hcz108_0
 try clear hcz108_1
 try clear hcz116_0
 try clear hcz116_1
 try clear hcz120_0
 try clear hcz120_1
 try clear hcz15_0
 try clear hcz15_1
 try clear hcz17_0
 try clear hcz17_1
 try clear hcz23_0
 try clear hcz23_1
 try clear hcz25_0
 try clear hcz25_1
 try clear hcz26_0
 try clear hcz26_1
 try clear hcz32_0
 try clear hcz32_1
 try clear hcz40_0
 try clear hcz40_1
 try clear hcz43_0
 try clear hcz43_1
 try clear hcz48_0
 try clear hcz48_1
 try clear hcz51_0
 try clear hcz51_1
 try clear hcz56_0
 try clear hcz56_1
 try clear hcz59_0
 try clear hcz59_1
 try clear hcz68_0
 try clear hcz68_1
 try clear hcz71_0
 try clear hcz71_1
 try clear hcz76_0
 try clear hcz76_1
 try clear hcz79_0
 try clear hcz79_1
 try clear hcz89_0
 try clear hcz89_1
 try clear hcz97_0
 try clear hcz97_1
 try clear hcz99_0
 try clear hcz99_1
 try clear hfz103_0
 try clear hfz103_1
 try clear hfz108_0
 try clear hfz108_1
 try clear hfz116_0
 try clear hfz116_1
 try clear hfz120_0
 try clear hfz120_1
 try clear hfz15_0
 try clear hfz15_1
 try clear hfz17_0
 try clear hfz17_1
 try clear hfz23_0
 try clear hfz23_1
 try clear hfz25_0
 try clear hfz25_1
 try clear hfz26_0
 try clear hfz26_1
 try clear hfz32_0
 try clear hfz32_1
 try clear hfz40_0
 try clear hfz40_1
 try clear hfz43_0
 try clear hfz43_1
 try clear hfz48_0
 try clear hfz48_1
 try clear hfz51_0
 try clear hfz51_1
 try clear hfz56_0
 try clear hfz56_1
 try clear hfz59_0
 try clear hfz59_1
 try clear hfz68_0
 try clear hfz68_1
 try clear hfz71_0
 try clear hfz71_1
 try clear hfz76_0
 try clear hfz76_1
 try clear hfz79_0
 try clear hfz79_1
 try clear hfz89_0
 try clear hfz89_1
 try clear hfz97_0
 try clear hfz97_1
 try clear hfz99_0
 try clear hfz99_1
 try clear p2
 obtain ⟨kq,x687000_109,x687001_109,u687001,HA,HJ109,HO_667001,HO_668001,HO_674001,HO_680001,HO_687001,BK666,BK667,BK673,BK679,BK686,HB⟩:=hcut
 cases kq with
 | zero => exact absurd HA.out (by simp [laws_FnMulGrades.j5])
 | succ kj109 =>
  have H:=HA.out
  clear HA
  simp only [laws_FnMulGrades.j5] at H
  replace H:=Option.bind_eq_some_iff.mp H
  obtain ⟨⟨t688,t689,t692⟩,A1210,H⟩:=H
  replace H : ((impl_MulGrades.f kj109 t662 t663 x687000_109 x687001_109).bind fun bt694 => ((impl_MulGrades.f kj109 t658 t659 bt694.1 bt694.2.1).bind fun bt700 => ((impl_UnitMatrix.f kj109 t658).bind fun bt706 => ((impl_GradesOf.f kj109 bt706.1 bt706.2.1).bind fun bt712 => ((impl_MulGrades.f kj109 t658 t659 bt712.1 bt712.2.1).bind fun bt718 => ((impl_GradesValid.f kj109 t668 t669).bind fun t724 => (if t724 = true then ((laws_daMatrix.f kj109 t688 t689 bt700.1 bt700.2.1).bind fun t725 => (if t725 = true then ((laws_daMatrix.f kj109 bt718.1 bt718.2.1 t658 t659).bind fun t726 => (some t726)) else (some false))) else (some false)))))))) = some r:=H
  have A121:=Aside0.mk A1210
  clear A1210
  replace H:=Option.bind_eq_some_iff.mp H
  obtain ⟨⟨t694,t695,t698⟩,A1220,H⟩:=H
  replace H : ((impl_MulGrades.f kj109 t658 t659 t694 t695).bind fun bt700 => ((impl_UnitMatrix.f kj109 t658).bind fun bt706 => ((impl_GradesOf.f kj109 bt706.1 bt706.2.1).bind fun bt712 => ((impl_MulGrades.f kj109 t658 t659 bt712.1 bt712.2.1).bind fun bt718 => ((impl_GradesValid.f kj109 t668 t669).bind fun t724 => (if t724 = true then ((laws_daMatrix.f kj109 t688 t689 bt700.1 bt700.2.1).bind fun t725 => (if t725 = true then ((laws_daMatrix.f kj109 bt718.1 bt718.2.1 t658 t659).bind fun t726 => (some t726)) else (some false))) else (some false))))))) = some r:=H
  have A122:=Aside0.mk A1220
  clear A1220
  replace H:=Option.bind_eq_some_iff.mp H
  obtain ⟨⟨t700,t701,t704⟩,A1230,H⟩:=H
  replace H : ((impl_UnitMatrix.f kj109 t658).bind fun bt706 => ((impl_GradesOf.f kj109 bt706.1 bt706.2.1).bind fun bt712 => ((impl_MulGrades.f kj109 t658 t659 bt712.1 bt712.2.1).bind fun bt718 => ((impl_GradesValid.f kj109 t668 t669).bind fun t724 => (if t724 = true then ((laws_daMatrix.f kj109 t688 t689 t700 t701).bind fun t725 => (if t725 = true then ((laws_daMatrix.f kj109 bt718.1 bt718.2.1 t658 t659).bind fun t726 => (some t726)) else (some false))) else (some false)))))) = some r:=H
  have A123:=Aside0.mk A1230
  clear A1230
  replace H:=Option.bind_eq_some_iff.mp H
  obtain ⟨⟨t706,t707,t710⟩,A1240,H⟩:=H
  replace H : ((impl_GradesOf.f kj109 t706 t707).bind fun bt712 => ((impl_MulGrades.f kj109 t658 t659 bt712.1 bt712.2.1).bind fun bt718 => ((impl_GradesValid.f kj109 t668 t669).bind fun t724 => (if t724 = true then ((laws_daMatrix.f kj109 t688 t689 t700 t701).bind fun t725 => (if t725 = true then ((laws_daMatrix.f kj109 bt718.1 bt718.2.1 t658 t659).bind fun t726 => (some t726)) else (some false))) else (some false))))) = some r:=H
  have A124:=Aside0.mk A1240
  clear A1240
  replace H:=Option.bind_eq_some_iff.mp H
  obtain ⟨⟨t712,t713,t716⟩,A1250,H⟩:=H
  replace H : ((impl_MulGrades.f kj109 t658 t659 t712 t713).bind fun bt718 => ((impl_GradesValid.f kj109 t668 t669).bind fun t724 => (if t724 = true then ((laws_daMatrix.f kj109 t688 t689 t700 t701).bind fun t725 => (if t725 = true then ((laws_daMatrix.f kj109 bt718.1 bt718.2.1 t658 t659).bind fun t726 => (some t726)) else (some false))) else (some false)))) = some r:=H
  have A125:=Aside0.mk A1250
  clear A1250
  replace H:=Option.bind_eq_some_iff.mp H
  obtain ⟨⟨t718,t719,t722⟩,A1260,H⟩:=H
  replace H : ((impl_GradesValid.f kj109 t668 t669).bind fun t724 => (if t724 = true then ((laws_daMatrix.f kj109 t688 t689 t700 t701).bind fun t725 => (if t725 = true then ((laws_daMatrix.f kj109 t718 t719 t658 t659).bind fun t726 => (some t726)) else (some false))) else (some false))) = some r:=H
  have A126:=Aside0.mk A1260
  clear A1260
  replace H:=Option.bind_eq_some_iff.mp H
  obtain ⟨t724,A1270,H⟩:=H
  replace H : (if t724 = true then ((laws_daMatrix.f kj109 t688 t689 t700 t701).bind fun t725 => (if t725 = true then ((laws_daMatrix.f kj109 t718 t719 t658 t659).bind fun t726 => (some t726)) else (some false))) else (some false)) = some r:=H
  have A127:=Aside0.mk A1270
  clear A1270
  have HH_:=Aside0.mk H
  clear H
  have hnb319:=NB673_666.out
  have hnc319:=NB666_673.out
  have hnb320:=NB673_667.out
  have hnc320:=NB667_673.out
  have hnb321:=NB673_679.out
  have hnc321:=NB679_673.out
  have hnb322:=NB673_686.out
  have hnc322:=NB686_673.out
  have hcz323_0 : wc.cell? ⟨gb673,0,none⟩ = some (.int .i64 t668):=(blk_cell BK673.out 0).trans rfl
  have hcz323_1 : wc.cell? ⟨gb673,1,none⟩ = some (.slice Ao24 t669.length co24):=(blk_cell BK673.out 1).trans rfl
  have hfz323_0:=blk_frozen BK673.out 0
  have hfz323_1:=blk_frozen BK673.out 1
  have hnb324:=NB686_666.out
  have hnc324:=NB666_686.out
  have hnb325:=NB686_667.out
  have hnc325:=NB667_686.out
  have hnb326:=NB686_679.out
  have hnc326:=NB679_686.out
  have hcz327_0 : wc.cell? ⟨gb686,0,none⟩ = some (.int .i64 x687000_109):=(blk_cell BK686.out 0).trans rfl
  have hcz327_1 : wc.cell? ⟨gb686,1,none⟩ = some (u687001):=(blk_cell BK686.out 1).trans rfl
  have hfz327_0:=blk_frozen BK686.out 0
  have hfz327_1:=blk_frozen BK686.out 1
  obtain ⟨Ao328,co328,eo328⟩:=Kd.V_slice HO_687001.out
  subst eo328
  go_upto_region 17 with (first|((with_reducible refine gate_callee (f:=27) rfl ?_);refine goesL_ (some 86) rfl rfl Try.func27 (by kernel_rfl) rfl #[.agg #[.int .i64 t668,.slice Ao24 t669.length co24],.agg #[.int .i64 x687000_109,.slice Ao328 x687001_109.length co328]] rfl lp_ ?_;(with_reducible refine (impl_MulGrades.calls kj109 t668 _ _ t669 x687000_109 _ _ x687001_109 t688 t689 t692 _ ?side1 ?side2 ?side3 ?side4 A121.out).mono ?_);(case side1 => repeat (first|exact (Kd.R_reads' HO_674001.out).2.2|(with_reducible refine Kd.C_alloc ?_ _)|(with_reducible refine Kd.C_drewN ?_ _)|(with_reducible refine Kd.C_drew ?_)));(case side2 => exact (Kd.R_reads' HO_674001.out).2.1);(case side3 => repeat (first|exact (Kd.V_reads' HO_687001.out).2.2|(with_reducible refine Kd.C_alloc ?_ _)|(with_reducible refine Kd.C_drewN ?_ _)|(with_reducible refine Kd.C_drew ?_)));(case side4 => exact (Kd.V_reads' HO_687001.out).2.1);rintro e w329 ⟨v690,rfl,ho0,hb⟩;refine ⟨_,rfl,?_⟩;have n0_:=Aside0.mk (Kd.V_elder' (pv_ HO_667001.out) (Kd.R_base ho0) hb);have n1_:=Aside0.mk (Kd.R_elder' (pr_ HO_668001.out) (Kd.R_base ho0) hb);have n2_:=Aside0.mk (Kd.R_elder' (pr_ HO_674001.out) (Kd.R_base ho0) hb);have n3_:=Aside0.mk (Kd.R_elder' (pr_ HO_680001.out) (Kd.R_base ho0) hb);have n4_:=Aside0.mk (Kd.V_elder' (pv_ HO_687001.out) (Kd.R_base ho0) hb);have n5_:=Aside0.mk (Kd.R_lower (Kd.R_new' (Kd.R_new' (Kd.R_new' ho0 (Kd.R_lt (pr_ HO_668001.out))) (Kd.R_lt (pr_ HO_674001.out))) (Kd.R_lt (pr_ HO_680001.out))) (below_size (be5_ HB.out GE666.out GE667.out GE673.out GE679.out GE686.out)));have n6_:=Aside0.mk (blk_below (g:=gb666) (o:=.cells #[.int .i64 t658,.slice Ao16 t659.length co16] 28 (0,0)) (pe_ BK666.out) hb);have n7_:=Aside0.mk (blk_below (g:=gb667) (o:=.cells #[.int .i64 t662,.slice Ao18 t663.length co18] 28 (0,0)) (pe_ BK667.out) hb);have n8_:=Aside0.mk (blk_below (g:=gb673) (o:=.cells #[.int .i64 t668,.slice Ao24 t669.length co24] 28 (0,0)) (pe_ BK673.out) hb);have n9_:=Aside0.mk (blk_below (g:=gb679) (o:=.cells #[.int .i64 t674,.slice Ao33 t675.length co33] 28 (0,0)) (pe_ BK679.out) hb);have n10_:=Aside0.mk (blk_below (g:=gb686) (o:=.cells #[.int .i64 x687000_109,.slice Ao328 x687001_109.length co328] 28 (0,0)) (pe_ BK686.out) hb);have n11_:=Aside0.mk (below_step (be5_ HB.out GE666.out GE667.out GE673.out GE679.out GE686.out) hb);clear HO_667001;clear HO_668001;clear HO_674001;clear HO_680001;clear HO_687001;clear BK666;clear BK667;clear BK673;clear BK679;clear BK686;clear HB;have HO_667001:=n0_;have HO_668001:=n1_;have HO_674001:=n2_;have HO_680001:=n3_;have HO_687001:=n4_;have HO691:=n5_;have BK666:=n6_;have BK667:=n7_;have BK673:=n8_;have BK679:=n9_;have BK686:=n10_;have HB:=n11_;clear n0_ n1_ n2_ n3_ n4_ n5_ n6_ n7_ n8_ n9_ n10_ n11_;(try clear hb);(try clear hb2);(try clear hk);(try clear hi);(try clear ho0))|((with_reducible refine gate_dst (N:=12) rfl ?_);(try (refine gate_guard (by rfl) ?_;dsimp only));refine box_event ?hg (N:=12) ?hd (cs:=#[.int .i64 0,.slice none 0 0]) (t:=28) ?hr ?_;(case hd => rfl);(case hg => rfl);(case hr => first|(go_simp;done)|(go_simp;rfl));intro gb693 hg w330 hbox hb;have n0_:=Aside0.mk (Kd.V_below (Kd.V_elderB (pv_ HO_667001.out) gb693 (Nat.le_of_eq hg.symm)) hb);have n1_:=Aside0.mk (Kd.R_below (pr_ HO_668001.out) hb);have n2_:=Aside0.mk (Kd.R_below (pr_ HO_674001.out) hb);have n3_:=Aside0.mk (Kd.R_below (pr_ HO_680001.out) hb);have n4_:=Aside0.mk (Kd.V_below (Kd.V_elderB (pv_ HO_687001.out) gb693 (Nat.le_of_eq hg.symm)) hb);have n5_:=Aside0.mk (Kd.R_below (pr_ HO691.out) hb);have n6_:=Aside0.mk (blk_below (g:=gb666) (o:=.cells #[.int .i64 t658,.slice Ao16 t659.length co16] 28 (0,0)) (pe_ BK666.out) hb);have n7_:=Aside0.mk (blk_below (g:=gb667) (o:=.cells #[.int .i64 t662,.slice Ao18 t663.length co18] 28 (0,0)) (pe_ BK667.out) hb);have n8_:=Aside0.mk (blk_below (g:=gb673) (o:=.cells #[.int .i64 t668,.slice Ao24 t669.length co24] 28 (0,0)) (pe_ BK673.out) hb);have n9_:=Aside0.mk (blk_below (g:=gb679) (o:=.cells #[.int .i64 t674,.slice Ao33 t675.length co33] 28 (0,0)) (pe_ BK679.out) hb);have n10_:=Aside0.mk (blk_below (g:=gb686) (o:=.cells #[.int .i64 x687000_109,.slice Ao328 x687001_109.length co328] 28 (0,0)) (pe_ BK686.out) hb);have n11_:=Aside0.mk (below_step (be5_ HB.out GE666.out GE667.out GE673.out GE679.out GE686.out) hb);have n12_:=Aside0.mk (hbox);have n13_:=Aside0.mk ((by rw [hg];exact (below_size (be5_ HB.out GE666.out GE667.out GE673.out GE679.out GE686.out)) : w.heap.size ≤ gb693));have n14_:=Aside0.mk ((by rw [hg];exact (below_size (be5_ HB.out GE666.out GE667.out GE673.out GE679.out GE686.out)) : w.heap.size ≤ gb693));have n15_:=Aside0.mk ((by rw [hg];exact Nat.ne_of_lt (blk_lt (g:=gb666) (o:=.cells #[.int .i64 t658,.slice Ao16 t659.length co16] 28 (0,0)) (pe_ BK666.out)) : gb666 ≠ gb693));have n16_:=Aside0.mk ((by rw [hg];exact Nat.ne_of_gt (blk_lt (g:=gb666) (o:=.cells #[.int .i64 t658,.slice Ao16 t659.length co16] 28 (0,0)) (pe_ BK666.out)) : gb693 ≠ gb666));have n17_:=Aside0.mk ((by rw [hg];exact Nat.ne_of_lt (blk_lt (g:=gb667) (o:=.cells #[.int .i64 t662,.slice Ao18 t663.length co18] 28 (0,0)) (pe_ BK667.out)) : gb667 ≠ gb693));have n18_:=Aside0.mk ((by rw [hg];exact Nat.ne_of_gt (blk_lt (g:=gb667) (o:=.cells #[.int .i64 t662,.slice Ao18 t663.length co18] 28 (0,0)) (pe_ BK667.out)) : gb693 ≠ gb667));have n19_:=Aside0.mk ((by rw [hg];exact Nat.ne_of_lt (blk_lt (g:=gb673) (o:=.cells #[.int .i64 t668,.slice Ao24 t669.length co24] 28 (0,0)) (pe_ BK673.out)) : gb673 ≠ gb693));have n20_:=Aside0.mk ((by rw [hg];exact Nat.ne_of_gt (blk_lt (g:=gb673) (o:=.cells #[.int .i64 t668,.slice Ao24 t669.length co24] 28 (0,0)) (pe_ BK673.out)) : gb693 ≠ gb673));have n21_:=Aside0.mk ((by rw [hg];exact Nat.ne_of_lt (blk_lt (g:=gb679) (o:=.cells #[.int .i64 t674,.slice Ao33 t675.length co33] 28 (0,0)) (pe_ BK679.out)) : gb679 ≠ gb693));have n22_:=Aside0.mk ((by rw [hg];exact Nat.ne_of_gt (blk_lt (g:=gb679) (o:=.cells #[.int .i64 t674,.slice Ao33 t675.length co33] 28 (0,0)) (pe_ BK679.out)) : gb693 ≠ gb679));have n23_:=Aside0.mk ((by rw [hg];exact Nat.ne_of_lt (blk_lt (g:=gb686) (o:=.cells #[.int .i64 x687000_109,.slice Ao328 x687001_109.length co328] 28 (0,0)) (pe_ BK686.out)) : gb686 ≠ gb693));have n24_:=Aside0.mk ((by rw [hg];exact Nat.ne_of_gt (blk_lt (g:=gb686) (o:=.cells #[.int .i64 x687000_109,.slice Ao328 x687001_109.length co328] 28 (0,0)) (pe_ BK686.out)) : gb693 ≠ gb686));clear HO_667001;clear HO_668001;clear HO_674001;clear HO_680001;clear HO_687001;clear HO691;clear BK666;clear BK667;clear BK673;clear BK679;clear BK686;clear HB;have HO_667001:=n0_;have HO_668001:=n1_;have HO_674001:=n2_;have HO_680001:=n3_;have HO_687001:=n4_;have HO691:=n5_;have BK666:=n6_;have BK667:=n7_;have BK673:=n8_;have BK679:=n9_;have BK686:=n10_;have HB:=n11_;have BK693:=n12_;have GW693:=n13_;have GE693:=n14_;have NB666_693:=n15_;have NB693_666:=n16_;have NB667_693:=n17_;have NB693_667:=n18_;have NB673_693:=n19_;have NB693_673:=n20_;have NB679_693:=n21_;have NB693_679:=n22_;have NB686_693:=n23_;have NB693_686:=n24_;clear n0_ n1_ n2_ n3_ n4_ n5_ n6_ n7_ n8_ n9_ n10_ n11_ n12_ n13_ n14_ n15_ n16_ n17_ n18_ n19_ n20_ n21_ n22_ n23_ n24_;clear hb hbox hg;have hnb331:=NB693_666.out;have hnc331:=NB666_693.out;have hnb332:=NB693_667.out;have hnc332:=NB667_693.out;have hnb333:=NB693_673.out;have hnc333:=NB673_693.out;have hnb334:=NB693_679.out;have hnc334:=NB679_693.out;have hnb335:=NB693_686.out;have hnc335:=NB686_693.out;have hcz336_0 : w330.cell? ⟨gb693,0,none⟩ = some (.int .i64 0):=(blk_cell BK693.out 0).trans rfl;have hcz336_1 : w330.cell? ⟨gb693,1,none⟩ = some (.slice none 0 0):=(blk_cell BK693.out 1).trans rfl;have hfz336_0:=blk_frozen BK693.out 0;have hfz336_1:=blk_frozen BK693.out 1;obtain ⟨Ao337,co337,eo337⟩:=Kd.R_slice HO691.out;subst eo337;have hnb338:=NB667_666.out;have hnc338:=NB666_667.out;have hnb339:=NB667_679.out;have hnc339:=NB679_667.out;have hcz340_0 : w330.cell? ⟨gb667,0,none⟩ = some (.int .i64 t662):=(blk_cell BK667.out 0).trans rfl;have hcz340_1 : w330.cell? ⟨gb667,1,none⟩ = some (.slice Ao18 t663.length co18):=(blk_cell BK667.out 1).trans rfl;have hfz340_0:=blk_frozen BK667.out 0;have hfz340_1:=blk_frozen BK667.out 1;have hcz341_0 : w330.cell? ⟨gb686,0,none⟩ = some (.int .i64 x687000_109):=(blk_cell BK686.out 0).trans rfl;have hcz341_1 : w330.cell? ⟨gb686,1,none⟩ = some (.slice Ao328 x687001_109.length co328):=(blk_cell BK686.out 1).trans rfl;have hfz341_0:=blk_frozen BK686.out 0;have hfz341_1:=blk_frozen BK686.out 1)|((with_reducible refine gate_callee (f:=27) rfl ?_);refine goesL_ (some 92) rfl rfl Try.func27 (by kernel_rfl) rfl #[.agg #[.int .i64 t662,.slice Ao18 t663.length co18],.agg #[.int .i64 x687000_109,.slice Ao328 x687001_109.length co328]] rfl lp_ ?_;(with_reducible refine (impl_MulGrades.calls kj109 t662 _ _ t663 x687000_109 _ _ x687001_109 t694 t695 t698 _ ?side1 ?side2 ?side3 ?side4 A122.out).mono ?_);(case side1 => refine (Kd.R_reads' (e:=3) (base:=w.heap.size) (ok:=fun k_ => ((some k_ ≠ (.slice Ao24 t669.length co24 : Value).ownBlock ∧ some k_ ≠ (.slice Ao33 t675.length co33 : Value).ownBlock) ∧ some k_ ≠ (.slice Ao337 t689.length co337 : Value).ownBlock)) (n:=t663.length) (c:=co18) ?_).2.2;exact (by refine pr_ ?_;exact (Kd.R_mono (Kd.R_far (p:=⟨gb693,1,none⟩) (Kd.R_far (p:=⟨gb693,0,none⟩) (Kd.R_types HO_668001.out BK693.out (by decide)) (fun _ hk => hk.2) (.int .i64 t688)) (fun _ hk => hk.2) (.slice Ao337 t689.length co337)) (fun _ h_ => h_.1))));(case side2 => exact (Kd.R_reads' HO_668001.out).2.1);(case side3 => refine (Kd.V_reads' (e:=3) (base:=w.heap.size) (ok:=fun k_ => (((some k_ ≠ (.slice Ao24 t669.length co24 : Value).ownBlock ∧ (some k_ ≠ (.slice Ao33 t675.length co33 : Value).ownBlock ∧ (k_ ≠ gb666 ∧ (k_ ≠ gb667 ∧ (k_ ≠ gb673 ∧ (k_ ≠ gb679 ∧ k_ ≠ gb686)))))) ∧ some k_ ≠ (.slice Ao337 t689.length co337 : Value).ownBlock) ∧ k_ ≠ gb693)) (n:=x687001_109.length) (c:=co328) ?_).2.2;exact (by refine pv_ ?_;exact (Kd.V_mono (Kd.V_far (p:=⟨gb693,1,none⟩) (Kd.V_far (p:=⟨gb693,0,none⟩) (Kd.V_mono HO_687001.out (fun k_ hk => (⟨hk,hk.2⟩ : _ ∧ k_ ≠ gb693))) (fun _ hk => hk.2) (.int .i64 t688)) (fun _ hk => hk.2) (.slice Ao337 t689.length co337)) (fun _ h_ => h_.1))));(case side4 => exact (Kd.V_reads' HO_687001.out).2.1);rintro e w342 ⟨v696,rfl,ho0,hb⟩;refine ⟨_,rfl,?_⟩;have n0_:=Aside0.mk (Kd.V_elder' (by refine pv_ ?_;exact (Kd.V_mono (Kd.V_far (p:=⟨gb693,1,none⟩) (Kd.V_far (p:=⟨gb693,0,none⟩) (Kd.V_mono HO_667001.out (fun k_ hk => (⟨hk,hk.2⟩ : _ ∧ k_ ≠ gb693))) (fun _ hk => hk.2) (.int .i64 t688)) (fun _ hk => hk.2) (.slice Ao337 t689.length co337)) (fun _ h_ => h_.1))) (Kd.R_base ho0) hb);have n1_:=Aside0.mk (Kd.R_elder' (by refine pr_ ?_;exact (Kd.R_mono (Kd.R_far (p:=⟨gb693,1,none⟩) (Kd.R_far (p:=⟨gb693,0,none⟩) (Kd.R_types HO_668001.out BK693.out (by decide)) (fun _ hk => hk.2) (.int .i64 t688)) (fun _ hk => hk.2) (.slice Ao337 t689.length co337)) (fun _ h_ => h_.1))) (Kd.R_base ho0) hb);have n2_:=Aside0.mk (Kd.R_elder' (by refine pr_ ?_;exact (Kd.R_mono (Kd.R_far (p:=⟨gb693,1,none⟩) (Kd.R_far (p:=⟨gb693,0,none⟩) (Kd.R_types HO_674001.out BK693.out (by decide)) (fun _ hk => hk.2) (.int .i64 t688)) (fun _ hk => hk.2) (.slice Ao337 t689.length co337)) (fun _ h_ => h_.1))) (Kd.R_base ho0) hb);have n3_:=Aside0.mk (Kd.R_elder' (by refine pr_ ?_;exact (Kd.R_mono (Kd.R_far (p:=⟨gb693,1,none⟩) (Kd.R_far (p:=⟨gb693,0,none⟩) (Kd.R_types HO_680001.out BK693.out (by decide)) (fun _ hk => hk.2) (.int .i64 t688)) (fun _ hk => hk.2) (.slice Ao337 t689.length co337)) (fun _ h_ => h_.1))) (Kd.R_base ho0) hb);have n4_:=Aside0.mk (Kd.V_elder' (by refine pv_ ?_;exact (Kd.V_mono (Kd.V_far (p:=⟨gb693,1,none⟩) (Kd.V_far (p:=⟨gb693,0,none⟩) (Kd.V_mono HO_687001.out (fun k_ hk => (⟨hk,hk.2⟩ : _ ∧ k_ ≠ gb693))) (fun _ hk => hk.2) (.int .i64 t688)) (fun _ hk => hk.2) (.slice Ao337 t689.length co337)) (fun _ h_ => h_.1))) (Kd.R_base ho0) hb);have n5_:=Aside0.mk (Kd.R_elder' (by refine pr_ ?_;exact (Kd.R_mono (Kd.R_far (p:=⟨gb693,1,none⟩) (Kd.R_far (p:=⟨gb693,0,none⟩) (Kd.R_types HO691.out BK693.out (by decide)) (fun _ hk => hk.2) (.int .i64 t688)) (fun _ hk => hk.2) (.slice Ao337 t689.length co337)) (fun _ h_ => h_.1))) (Kd.R_base ho0) hb);have n6_:=Aside0.mk (Kd.R_lower (Kd.R_new' (Kd.R_new' (Kd.R_new' (Kd.R_new' ho0 (Kd.R_lt (by refine pr_ ?_;exact (Kd.R_mono (Kd.R_far (p:=⟨gb693,1,none⟩) (Kd.R_far (p:=⟨gb693,0,none⟩) (Kd.R_types HO_668001.out BK693.out (by decide)) (fun _ hk => hk.2) (.int .i64 t688)) (fun _ hk => hk.2) (.slice Ao337 t689.length co337)) (fun _ h_ => h_.1))))) (Kd.R_lt (by refine pr_ ?_;exact (Kd.R_mono (Kd.R_far (p:=⟨gb693,1,none⟩) (Kd.R_far (p:=⟨gb693,0,none⟩) (Kd.R_types HO_674001.out BK693.out (by decide)) (fun _ hk => hk.2) (.int .i64 t688)) (fun _ hk => hk.2) (.slice Ao337 t689.length co337)) (fun _ h_ => h_.1))))) (Kd.R_lt (by refine pr_ ?_;exact (Kd.R_mono (Kd.R_far (p:=⟨gb693,1,none⟩) (Kd.R_far (p:=⟨gb693,0,none⟩) (Kd.R_types HO_680001.out BK693.out (by decide)) (fun _ hk => hk.2) (.int .i64 t688)) (fun _ hk => hk.2) (.slice Ao337 t689.length co337)) (fun _ h_ => h_.1))))) (Kd.R_lt (by refine pr_ ?_;exact (Kd.R_mono (Kd.R_far (p:=⟨gb693,1,none⟩) (Kd.R_far (p:=⟨gb693,0,none⟩) (Kd.R_types HO691.out BK693.out (by decide)) (fun _ hk => hk.2) (.int .i64 t688)) (fun _ hk => hk.2) (.slice Ao337 t689.length co337)) (fun _ h_ => h_.1))))) (below_size (be6_ HB.out GE666.out GE667.out GE673.out GE679.out GE686.out GE693.out)));have n7_:=Aside0.mk (blk_below (g:=gb666) (o:=.cells #[.int .i64 t658,.slice Ao16 t659.length co16] 28 (0,0)) (by refine pe_ ?_;refine blk_far ?_ NB666_693.out _;refine pe_ ?_;refine blk_far ?_ NB666_693.out _;refine pe_ ?_;exact BK666.out) hb);have n8_:=Aside0.mk (blk_below (g:=gb667) (o:=.cells #[.int .i64 t662,.slice Ao18 t663.length co18] 28 (0,0)) (by refine pe_ ?_;refine blk_far ?_ NB667_693.out _;refine pe_ ?_;refine blk_far ?_ NB667_693.out _;refine pe_ ?_;exact BK667.out) hb);have n9_:=Aside0.mk (blk_below (g:=gb673) (o:=.cells #[.int .i64 t668,.slice Ao24 t669.length co24] 28 (0,0)) (by refine pe_ ?_;refine blk_far ?_ NB673_693.out _;refine pe_ ?_;refine blk_far ?_ NB673_693.out _;refine pe_ ?_;exact BK673.out) hb);have n10_:=Aside0.mk (blk_below (g:=gb679) (o:=.cells #[.int .i64 t674,.slice Ao33 t675.length co33] 28 (0,0)) (by refine pe_ ?_;refine blk_far ?_ NB679_693.out _;refine pe_ ?_;refine blk_far ?_ NB679_693.out _;refine pe_ ?_;exact BK679.out) hb);have n11_:=Aside0.mk (blk_below (g:=gb686) (o:=.cells #[.int .i64 x687000_109,.slice Ao328 x687001_109.length co328] 28 (0,0)) (by refine pe_ ?_;refine blk_far ?_ NB686_693.out _;refine pe_ ?_;refine blk_far ?_ NB686_693.out _;refine pe_ ?_;exact BK686.out) hb);have n12_:=Aside0.mk (blk_below (g:=gb693) (o:=.cells #[.int .i64 t688,.slice Ao337 t689.length co337] 28 (0,0)) (by refine pe_ ?_;refine blk_put (cs:=#[.int .i64 t688,.slice none 0 0]) ?_ 1 _ rfl;refine pe_ ?_;refine blk_put (cs:=#[.int .i64 0,.slice none 0 0]) ?_ 0 _ rfl;refine pe_ ?_;exact BK693.out) hb);have n13_:=Aside0.mk (below_step (be6_ HB.out GE666.out GE667.out GE673.out GE679.out GE686.out GE693.out) hb);clear HO_667001;clear HO_668001;clear HO_674001;clear HO_680001;clear HO_687001;clear HO691;clear BK666;clear BK667;clear BK673;clear BK679;clear BK686;clear BK693;clear HB;have HO_667001:=n0_;have HO_668001:=n1_;have HO_674001:=n2_;have HO_680001:=n3_;have HO_687001:=n4_;have HO691:=n5_;have HO697:=n6_;have BK666:=n7_;have BK667:=n8_;have BK673:=n9_;have BK679:=n10_;have BK686:=n11_;have BK693:=n12_;have HB:=n13_;clear n0_ n1_ n2_ n3_ n4_ n5_ n6_ n7_ n8_ n9_ n10_ n11_ n12_ n13_;(try clear hb);(try clear hb2);(try clear hk);(try clear hi);(try clear ho0))|((with_reducible refine gate_dst (N:=14) rfl ?_);(try (refine gate_guard (by rfl) ?_;dsimp only));refine box_event ?hg (N:=14) ?hd (cs:=#[.int .i64 0,.slice none 0 0]) (t:=28) ?hr ?_;(case hd => rfl);(case hg => rfl);(case hr => first|(go_simp;done)|(go_simp;rfl));intro gb699 hg w343 hbox hb;have n0_:=Aside0.mk (Kd.V_below (Kd.V_elderB (pv_ HO_667001.out) gb699 (Nat.le_of_eq hg.symm)) hb);have n1_:=Aside0.mk (Kd.R_below (pr_ HO_668001.out) hb);have n2_:=Aside0.mk (Kd.R_below (pr_ HO_674001.out) hb);have n3_:=Aside0.mk (Kd.R_below (pr_ HO_680001.out) hb);have n4_:=Aside0.mk (Kd.V_below (Kd.V_elderB (pv_ HO_687001.out) gb699 (Nat.le_of_eq hg.symm)) hb);have n5_:=Aside0.mk (Kd.R_below (pr_ HO691.out) hb);have n6_:=Aside0.mk (Kd.R_below (pr_ HO697.out) hb);have n7_:=Aside0.mk (blk_below (g:=gb666) (o:=.cells #[.int .i64 t658,.slice Ao16 t659.length co16] 28 (0,0)) (pe_ BK666.out) hb);have n8_:=Aside0.mk (blk_below (g:=gb667) (o:=.cells #[.int .i64 t662,.slice Ao18 t663.length co18] 28 (0,0)) (pe_ BK667.out) hb);have n9_:=Aside0.mk (blk_below (g:=gb673) (o:=.cells #[.int .i64 t668,.slice Ao24 t669.length co24] 28 (0,0)) (pe_ BK673.out) hb);have n10_:=Aside0.mk (blk_below (g:=gb679) (o:=.cells #[.int .i64 t674,.slice Ao33 t675.length co33] 28 (0,0)) (pe_ BK679.out) hb);have n11_:=Aside0.mk (blk_below (g:=gb686) (o:=.cells #[.int .i64 x687000_109,.slice Ao328 x687001_109.length co328] 28 (0,0)) (pe_ BK686.out) hb);have n12_:=Aside0.mk (blk_below (g:=gb693) (o:=.cells #[.int .i64 t688,.slice Ao337 t689.length co337] 28 (0,0)) (pe_ BK693.out) hb);have n13_:=Aside0.mk (below_step (be6_ HB.out GE666.out GE667.out GE673.out GE679.out GE686.out GE693.out) hb);have n14_:=Aside0.mk (hbox);have n15_:=Aside0.mk ((by rw [hg];exact (below_size (be6_ HB.out GE666.out GE667.out GE673.out GE679.out GE686.out GE693.out)) : w.heap.size ≤ gb699));have n16_:=Aside0.mk ((by rw [hg];exact (below_size (be6_ HB.out GE666.out GE667.out GE673.out GE679.out GE686.out GE693.out)) : w.heap.size ≤ gb699));have n17_:=Aside0.mk ((by rw [hg];exact Nat.ne_of_lt (blk_lt (g:=gb666) (o:=.cells #[.int .i64 t658,.slice Ao16 t659.length co16] 28 (0,0)) (pe_ BK666.out)) : gb666 ≠ gb699));have n18_:=Aside0.mk ((by rw [hg];exact Nat.ne_of_gt (blk_lt (g:=gb666) (o:=.cells #[.int .i64 t658,.slice Ao16 t659.length co16] 28 (0,0)) (pe_ BK666.out)) : gb699 ≠ gb666));have n19_:=Aside0.mk ((by rw [hg];exact Nat.ne_of_lt (blk_lt (g:=gb667) (o:=.cells #[.int .i64 t662,.slice Ao18 t663.length co18] 28 (0,0)) (pe_ BK667.out)) : gb667 ≠ gb699));have n20_:=Aside0.mk ((by rw [hg];exact Nat.ne_of_gt (blk_lt (g:=gb667) (o:=.cells #[.int .i64 t662,.slice Ao18 t663.length co18] 28 (0,0)) (pe_ BK667.out)) : gb699 ≠ gb667));have n21_:=Aside0.mk ((by rw [hg];exact Nat.ne_of_lt (blk_lt (g:=gb673) (o:=.cells #[.int .i64 t668,.slice Ao24 t669.length co24] 28 (0,0)) (pe_ BK673.out)) : gb673 ≠ gb699));have n22_:=Aside0.mk ((by rw [hg];exact Nat.ne_of_gt (blk_lt (g:=gb673) (o:=.cells #[.int .i64 t668,.slice Ao24 t669.length co24] 28 (0,0)) (pe_ BK673.out)) : gb699 ≠ gb673));have n23_:=Aside0.mk ((by rw [hg];exact Nat.ne_of_lt (blk_lt (g:=gb679) (o:=.cells #[.int .i64 t674,.slice Ao33 t675.length co33] 28 (0,0)) (pe_ BK679.out)) : gb679 ≠ gb699));have n24_:=Aside0.mk ((by rw [hg];exact Nat.ne_of_gt (blk_lt (g:=gb679) (o:=.cells #[.int .i64 t674,.slice Ao33 t675.length co33] 28 (0,0)) (pe_ BK679.out)) : gb699 ≠ gb679));have n25_:=Aside0.mk ((by rw [hg];exact Nat.ne_of_lt (blk_lt (g:=gb686) (o:=.cells #[.int .i64 x687000_109,.slice Ao328 x687001_109.length co328] 28 (0,0)) (pe_ BK686.out)) : gb686 ≠ gb699));have n26_:=Aside0.mk ((by rw [hg];exact Nat.ne_of_gt (blk_lt (g:=gb686) (o:=.cells #[.int .i64 x687000_109,.slice Ao328 x687001_109.length co328] 28 (0,0)) (pe_ BK686.out)) : gb699 ≠ gb686));have n27_:=Aside0.mk ((by rw [hg];exact Nat.ne_of_lt (blk_lt (g:=gb693) (o:=.cells #[.int .i64 t688,.slice Ao337 t689.length co337] 28 (0,0)) (pe_ BK693.out)) : gb693 ≠ gb699));have n28_:=Aside0.mk ((by rw [hg];exact Nat.ne_of_gt (blk_lt (g:=gb693) (o:=.cells #[.int .i64 t688,.slice Ao337 t689.length co337] 28 (0,0)) (pe_ BK693.out)) : gb699 ≠ gb693));clear HO_667001;clear HO_668001;clear HO_674001;clear HO_680001;clear HO_687001;clear HO691;clear HO697;clear BK666;clear BK667;clear BK673;clear BK679;clear BK686;clear BK693;clear HB;have HO_667001:=n0_;have HO_668001:=n1_;have HO_674001:=n2_;have HO_680001:=n3_;have HO_687001:=n4_;have HO691:=n5_;have HO697:=n6_;have BK666:=n7_;have BK667:=n8_;have BK673:=n9_;have BK679:=n10_;have BK686:=n11_;have BK693:=n12_;have HB:=n13_;have BK699:=n14_;have GW699:=n15_;have GE699:=n16_;have NB666_699:=n17_;have NB699_666:=n18_;have NB667_699:=n19_;have NB699_667:=n20_;have NB673_699:=n21_;have NB699_673:=n22_;have NB679_699:=n23_;have NB699_679:=n24_;have NB686_699:=n25_;have NB699_686:=n26_;have NB693_699:=n27_;have NB699_693:=n28_;clear n0_ n1_ n2_ n3_ n4_ n5_ n6_ n7_ n8_ n9_ n10_ n11_ n12_ n13_ n14_ n15_ n16_ n17_ n18_ n19_ n20_ n21_ n22_ n23_ n24_ n25_ n26_ n27_ n28_;clear hb hbox hg;have hnb344:=NB699_666.out;have hnc344:=NB666_699.out;have hnb345:=NB699_667.out;have hnc345:=NB667_699.out;have hnb346:=NB699_673.out;have hnc346:=NB673_699.out;have hnb347:=NB699_679.out;have hnc347:=NB679_699.out;have hnb348:=NB699_686.out;have hnc348:=NB686_699.out;have hnb349:=NB699_693.out;have hnc349:=NB693_699.out;have hcz350_0 : w343.cell? ⟨gb699,0,none⟩ = some (.int .i64 0):=(blk_cell BK699.out 0).trans rfl;have hcz350_1 : w343.cell? ⟨gb699,1,none⟩ = some (.slice none 0 0):=(blk_cell BK699.out 1).trans rfl;have hfz350_0:=blk_frozen BK699.out 0;have hfz350_1:=blk_frozen BK699.out 1;obtain ⟨Ao351,co351,eo351⟩:=Kd.R_slice HO697.out;subst eo351;have hnb352:=NB666_679.out;have hnc352:=NB679_666.out;have hcz353_0 : w343.cell? ⟨gb666,0,none⟩ = some (.int .i64 t658):=(blk_cell BK666.out 0).trans rfl;have hcz353_1 : w343.cell? ⟨gb666,1,none⟩ = some (.slice Ao16 t659.length co16):=(blk_cell BK666.out 1).trans rfl;have hfz353_0:=blk_frozen BK666.out 0;have hfz353_1:=blk_frozen BK666.out 1)|((with_reducible refine gate_callee (f:=27) rfl ?_);refine goesL_ (some 98) rfl rfl Try.func27 (by kernel_rfl) rfl #[.agg #[.int .i64 t658,.slice Ao16 t659.length co16],.agg #[.int .i64 t694,.slice Ao351 t695.length co351]] rfl lp_ ?_;(with_reducible refine (impl_MulGrades.calls kj109 t658 _ _ t659 t694 _ _ t695 t700 t701 t704 _ ?side1 ?side2 ?side3 ?side4 A123.out).mono ?_);(case side1 => refine (Kd.V_reads' (e:=3) (base:=w.heap.size) (ok:=fun k_ => (((((some k_ ≠ (.slice Ao18 t663.length co18 : Value).ownBlock ∧ (some k_ ≠ (.slice Ao24 t669.length co24 : Value).ownBlock ∧ (some k_ ≠ (.slice Ao33 t675.length co33 : Value).ownBlock ∧ (k_ ≠ gb666 ∧ (k_ ≠ gb667 ∧ (k_ ≠ gb673 ∧ (k_ ≠ gb679 ∧ k_ ≠ gb686))))))) ∧ some k_ ≠ (.slice Ao337 t689.length co337 : Value).ownBlock) ∧ k_ ≠ gb693) ∧ some k_ ≠ (.slice Ao351 t695.length co351 : Value).ownBlock) ∧ k_ ≠ gb699)) (n:=t659.length) (c:=co16) ?_).2.2;exact (by refine pv_ ?_;exact (Kd.V_mono (Kd.V_far (p:=⟨gb699,1,none⟩) (Kd.V_far (p:=⟨gb699,0,none⟩) (Kd.V_mono HO_667001.out (fun k_ hk => (⟨hk,hk.2⟩ : _ ∧ k_ ≠ gb699))) (fun _ hk => hk.2) (.int .i64 t694)) (fun _ hk => hk.2) (.slice Ao351 t695.length co351)) (fun _ h_ => h_.1))));(case side2 => exact (Kd.V_reads' HO_667001.out).2.1);(case side3 => refine (Kd.R_reads' (e:=3) (base:=w.heap.size) (ok:=fun k_ => ((((True ∧ some k_ ≠ (.slice Ao18 t663.length co18 : Value).ownBlock) ∧ some k_ ≠ (.slice Ao24 t669.length co24 : Value).ownBlock) ∧ some k_ ≠ (.slice Ao33 t675.length co33 : Value).ownBlock) ∧ some k_ ≠ (.slice Ao337 t689.length co337 : Value).ownBlock)) (n:=t695.length) (c:=co351) ?_).2.2;exact (by refine pr_ ?_;exact (Kd.R_mono (Kd.R_far (p:=⟨gb699,1,none⟩) (Kd.R_far (p:=⟨gb699,0,none⟩) (Kd.R_types HO697.out BK699.out (by decide)) (fun _ hk => hk.2) (.int .i64 t694)) (fun _ hk => hk.2) (.slice Ao351 t695.length co351)) (fun _ h_ => h_.1))));(case side4 => exact (Kd.R_reads' HO697.out).2.1);rintro e w354 ⟨v702,rfl,ho0,hb⟩;refine ⟨_,rfl,?_⟩;have n0_:=Aside0.mk (Kd.V_elder' (by refine pv_ ?_;exact (Kd.V_mono (Kd.V_far (p:=⟨gb699,1,none⟩) (Kd.V_far (p:=⟨gb699,0,none⟩) (Kd.V_mono HO_667001.out (fun k_ hk => (⟨hk,hk.2⟩ : _ ∧ k_ ≠ gb699))) (fun _ hk => hk.2) (.int .i64 t694)) (fun _ hk => hk.2) (.slice Ao351 t695.length co351)) (fun _ h_ => h_.1))) (Kd.R_base ho0) hb);have n1_:=Aside0.mk (Kd.R_elder' (by refine pr_ ?_;exact (Kd.R_mono (Kd.R_far (p:=⟨gb699,1,none⟩) (Kd.R_far (p:=⟨gb699,0,none⟩) (Kd.R_types HO_668001.out BK699.out (by decide)) (fun _ hk => hk.2) (.int .i64 t694)) (fun _ hk => hk.2) (.slice Ao351 t695.length co351)) (fun _ h_ => h_.1))) (Kd.R_base ho0) hb);have n2_:=Aside0.mk (Kd.R_elder' (by refine pr_ ?_;exact (Kd.R_mono (Kd.R_far (p:=⟨gb699,1,none⟩) (Kd.R_far (p:=⟨gb699,0,none⟩) (Kd.R_types HO_674001.out BK699.out (by decide)) (fun _ hk => hk.2) (.int .i64 t694)) (fun _ hk => hk.2) (.slice Ao351 t695.length co351)) (fun _ h_ => h_.1))) (Kd.R_base ho0) hb);have n3_:=Aside0.mk (Kd.R_elder' (by refine pr_ ?_;exact (Kd.R_mono (Kd.R_far (p:=⟨gb699,1,none⟩) (Kd.R_far (p:=⟨gb699,0,none⟩) (Kd.R_types HO_680001.out BK699.out (by decide)) (fun _ hk => hk.2) (.int .i64 t694)) (fun _ hk => hk.2) (.slice Ao351 t695.length co351)) (fun _ h_ => h_.1))) (Kd.R_base ho0) hb);have n4_:=Aside0.mk (Kd.V_elder' (by refine pv_ ?_;exact (Kd.V_mono (Kd.V_far (p:=⟨gb699,1,none⟩) (Kd.V_far (p:=⟨gb699,0,none⟩) (Kd.V_mono HO_687001.out (fun k_ hk => (⟨hk,hk.2⟩ : _ ∧ k_ ≠ gb699))) (fun _ hk => hk.2) (.int .i64 t694)) (fun _ hk => hk.2) (.slice Ao351 t695.length co351)) (fun _ h_ => h_.1))) (Kd.R_base ho0) hb);have n5_:=Aside0.mk (Kd.R_elder' (by refine pr_ ?_;exact (Kd.R_mono (Kd.R_far (p:=⟨gb699,1,none⟩) (Kd.R_far (p:=⟨gb699,0,none⟩) (Kd.R_types HO691.out BK699.out (by decide)) (fun _ hk => hk.2) (.int .i64 t694)) (fun _ hk => hk.2) (.slice Ao351 t695.length co351)) (fun _ h_ => h_.1))) (Kd.R_base ho0) hb);have n6_:=Aside0.mk (Kd.R_elder' (by refine pr_ ?_;exact (Kd.R_mono (Kd.R_far (p:=⟨gb699,1,none⟩) (Kd.R_far (p:=⟨gb699,0,none⟩) (Kd.R_types HO697.out BK699.out (by decide)) (fun _ hk => hk.2) (.int .i64 t694)) (fun _ hk => hk.2) (.slice Ao351 t695.length co351)) (fun _ h_ => h_.1))) (Kd.R_base ho0) hb);have n7_:=Aside0.mk (Kd.R_lower (Kd.R_new' (Kd.R_new' (Kd.R_new' (Kd.R_new' (Kd.R_new' ho0 (Kd.R_lt (by refine pr_ ?_;exact (Kd.R_mono (Kd.R_far (p:=⟨gb699,1,none⟩) (Kd.R_far (p:=⟨gb699,0,none⟩) (Kd.R_types HO_668001.out BK699.out (by decide)) (fun _ hk => hk.2) (.int .i64 t694)) (fun _ hk => hk.2) (.slice Ao351 t695.length co351)) (fun _ h_ => h_.1))))) (Kd.R_lt (by refine pr_ ?_;exact (Kd.R_mono (Kd.R_far (p:=⟨gb699,1,none⟩) (Kd.R_far (p:=⟨gb699,0,none⟩) (Kd.R_types HO_674001.out BK699.out (by decide)) (fun _ hk => hk.2) (.int .i64 t694)) (fun _ hk => hk.2) (.slice Ao351 t695.length co351)) (fun _ h_ => h_.1))))) (Kd.R_lt (by refine pr_ ?_;exact (Kd.R_mono (Kd.R_far (p:=⟨gb699,1,none⟩) (Kd.R_far (p:=⟨gb699,0,none⟩) (Kd.R_types HO_680001.out BK699.out (by decide)) (fun _ hk => hk.2) (.int .i64 t694)) (fun _ hk => hk.2) (.slice Ao351 t695.length co351)) (fun _ h_ => h_.1))))) (Kd.R_lt (by refine pr_ ?_;exact (Kd.R_mono (Kd.R_far (p:=⟨gb699,1,none⟩) (Kd.R_far (p:=⟨gb699,0,none⟩) (Kd.R_types HO691.out BK699.out (by decide)) (fun _ hk => hk.2) (.int .i64 t694)) (fun _ hk => hk.2) (.slice Ao351 t695.length co351)) (fun _ h_ => h_.1))))) (Kd.R_lt (by refine pr_ ?_;exact (Kd.R_mono (Kd.R_far (p:=⟨gb699,1,none⟩) (Kd.R_far (p:=⟨gb699,0,none⟩) (Kd.R_types HO697.out BK699.out (by decide)) (fun _ hk => hk.2) (.int .i64 t694)) (fun _ hk => hk.2) (.slice Ao351 t695.length co351)) (fun _ h_ => h_.1))))) (below_size (be7_ HB.out GE666.out GE667.out GE673.out GE679.out GE686.out GE693.out GE699.out)));have n8_:=Aside0.mk (blk_below (g:=gb666) (o:=.cells #[.int .i64 t658,.slice Ao16 t659.length co16] 28 (0,0)) (by refine pe_ ?_;refine blk_far ?_ NB666_699.out _;refine pe_ ?_;refine blk_far ?_ NB666_699.out _;refine pe_ ?_;exact BK666.out) hb);have n9_:=Aside0.mk (blk_below (g:=gb667) (o:=.cells #[.int .i64 t662,.slice Ao18 t663.length co18] 28 (0,0)) (by refine pe_ ?_;refine blk_far ?_ NB667_699.out _;refine pe_ ?_;refine blk_far ?_ NB667_699.out _;refine pe_ ?_;exact BK667.out) hb);have n10_:=Aside0.mk (blk_below (g:=gb673) (o:=.cells #[.int .i64 t668,.slice Ao24 t669.length co24] 28 (0,0)) (by refine pe_ ?_;refine blk_far ?_ NB673_699.out _;refine pe_ ?_;refine blk_far ?_ NB673_699.out _;refine pe_ ?_;exact BK673.out) hb);have n11_:=Aside0.mk (blk_below (g:=gb679) (o:=.cells #[.int .i64 t674,.slice Ao33 t675.length co33] 28 (0,0)) (by refine pe_ ?_;refine blk_far ?_ NB679_699.out _;refine pe_ ?_;refine blk_far ?_ NB679_699.out _;refine pe_ ?_;exact BK679.out) hb);have n12_:=Aside0.mk (blk_below (g:=gb686) (o:=.cells #[.int .i64 x687000_109,.slice Ao328 x687001_109.length co328] 28 (0,0)) (by refine pe_ ?_;refine blk_far ?_ NB686_699.out _;refine pe_ ?_;refine blk_far ?_ NB686_699.out _;refine pe_ ?_;exact BK686.out) hb);have n13_:=Aside0.mk (blk_below (g:=gb693) (o:=.cells #[.int .i64 t688,.slice Ao337 t689.length co337] 28 (0,0)) (by refine pe_ ?_;refine blk_far ?_ NB693_699.out _;refine pe_ ?_;refine blk_far ?_ NB693_699.out _;refine pe_ ?_;exact BK693.out) hb);have n14_:=Aside0.mk (blk_below (g:=gb699) (o:=.cells #[.int .i64 t694,.slice Ao351 t695.length co351] 28 (0,0)) (by refine pe_ ?_;refine blk_put (cs:=#[.int .i64 t694,.slice none 0 0]) ?_ 1 _ rfl;refine pe_ ?_;refine blk_put (cs:=#[.int .i64 0,.slice none 0 0]) ?_ 0 _ rfl;refine pe_ ?_;exact BK699.out) hb);have n15_:=Aside0.mk (below_step (be7_ HB.out GE666.out GE667.out GE673.out GE679.out GE686.out GE693.out GE699.out) hb);clear HO_667001;clear HO_668001;clear HO_674001;clear HO_680001;clear HO_687001;clear HO691;clear HO697;clear BK666;clear BK667;clear BK673;clear BK679;clear BK686;clear BK693;clear BK699;clear HB;have HO_667001:=n0_;have HO_668001:=n1_;have HO_674001:=n2_;have HO_680001:=n3_;have HO_687001:=n4_;have HO691:=n5_;have HO697:=n6_;have HO703:=n7_;have BK666:=n8_;have BK667:=n9_;have BK673:=n10_;have BK679:=n11_;have BK686:=n12_;have BK693:=n13_;have BK699:=n14_;have HB:=n15_;clear n0_ n1_ n2_ n3_ n4_ n5_ n6_ n7_ n8_ n9_ n10_ n11_ n12_ n13_ n14_ n15_;(try clear hb);(try clear hb2);(try clear hk);(try clear hi);(try clear ho0))|((with_reducible refine gate_dst (N:=16) rfl ?_);(try (refine gate_guard (by rfl) ?_;dsimp only));refine box_event ?hg (N:=16) ?hd (cs:=#[.int .i64 0,.slice none 0 0]) (t:=28) ?hr ?_;(case hd => rfl);(case hg => rfl);(case hr => first|(go_simp;done)|(go_simp;rfl));intro gb705 hg w355 hbox hb;have n0_:=Aside0.mk (Kd.V_below (Kd.V_elderB (pv_ HO_667001.out) gb705 (Nat.le_of_eq hg.symm)) hb);have n1_:=Aside0.mk (Kd.R_below (pr_ HO_668001.out) hb);have n2_:=Aside0.mk (Kd.R_below (pr_ HO_674001.out) hb);have n3_:=Aside0.mk (Kd.R_below (pr_ HO_680001.out) hb);have n4_:=Aside0.mk (Kd.V_below (Kd.V_elderB (pv_ HO_687001.out) gb705 (Nat.le_of_eq hg.symm)) hb);have n5_:=Aside0.mk (Kd.R_below (pr_ HO691.out) hb);have n6_:=Aside0.mk (Kd.R_below (pr_ HO697.out) hb);have n7_:=Aside0.mk (Kd.R_below (pr_ HO703.out) hb);have n8_:=Aside0.mk (blk_below (g:=gb666) (o:=.cells #[.int .i64 t658,.slice Ao16 t659.length co16] 28 (0,0)) (pe_ BK666.out) hb);have n9_:=Aside0.mk (blk_below (g:=gb667) (o:=.cells #[.int .i64 t662,.slice Ao18 t663.length co18] 28 (0,0)) (pe_ BK667.out) hb);have n10_:=Aside0.mk (blk_below (g:=gb673) (o:=.cells #[.int .i64 t668,.slice Ao24 t669.length co24] 28 (0,0)) (pe_ BK673.out) hb);have n11_:=Aside0.mk (blk_below (g:=gb679) (o:=.cells #[.int .i64 t674,.slice Ao33 t675.length co33] 28 (0,0)) (pe_ BK679.out) hb);have n12_:=Aside0.mk (blk_below (g:=gb686) (o:=.cells #[.int .i64 x687000_109,.slice Ao328 x687001_109.length co328] 28 (0,0)) (pe_ BK686.out) hb);have n13_:=Aside0.mk (blk_below (g:=gb693) (o:=.cells #[.int .i64 t688,.slice Ao337 t689.length co337] 28 (0,0)) (pe_ BK693.out) hb);have n14_:=Aside0.mk (blk_below (g:=gb699) (o:=.cells #[.int .i64 t694,.slice Ao351 t695.length co351] 28 (0,0)) (pe_ BK699.out) hb);have n15_:=Aside0.mk (below_step (be7_ HB.out GE666.out GE667.out GE673.out GE679.out GE686.out GE693.out GE699.out) hb);have n16_:=Aside0.mk (hbox);have n17_:=Aside0.mk ((by rw [hg];exact (below_size (be7_ HB.out GE666.out GE667.out GE673.out GE679.out GE686.out GE693.out GE699.out)) : w.heap.size ≤ gb705));have n18_:=Aside0.mk ((by rw [hg];exact (below_size (be7_ HB.out GE666.out GE667.out GE673.out GE679.out GE686.out GE693.out GE699.out)) : w.heap.size ≤ gb705));have n19_:=Aside0.mk ((by rw [hg];exact Nat.ne_of_lt (blk_lt (g:=gb666) (o:=.cells #[.int .i64 t658,.slice Ao16 t659.length co16] 28 (0,0)) (pe_ BK666.out)) : gb666 ≠ gb705));have n20_:=Aside0.mk ((by rw [hg];exact Nat.ne_of_gt (blk_lt (g:=gb666) (o:=.cells #[.int .i64 t658,.slice Ao16 t659.length co16] 28 (0,0)) (pe_ BK666.out)) : gb705 ≠ gb666));have n21_:=Aside0.mk ((by rw [hg];exact Nat.ne_of_lt (blk_lt (g:=gb667) (o:=.cells #[.int .i64 t662,.slice Ao18 t663.length co18] 28 (0,0)) (pe_ BK667.out)) : gb667 ≠ gb705));have n22_:=Aside0.mk ((by rw [hg];exact Nat.ne_of_gt (blk_lt (g:=gb667) (o:=.cells #[.int .i64 t662,.slice Ao18 t663.length co18] 28 (0,0)) (pe_ BK667.out)) : gb705 ≠ gb667));have n23_:=Aside0.mk ((by rw [hg];exact Nat.ne_of_lt (blk_lt (g:=gb673) (o:=.cells #[.int .i64 t668,.slice Ao24 t669.length co24] 28 (0,0)) (pe_ BK673.out)) : gb673 ≠ gb705));have n24_:=Aside0.mk ((by rw [hg];exact Nat.ne_of_gt (blk_lt (g:=gb673) (o:=.cells #[.int .i64 t668,.slice Ao24 t669.length co24] 28 (0,0)) (pe_ BK673.out)) : gb705 ≠ gb673));have n25_:=Aside0.mk ((by rw [hg];exact Nat.ne_of_lt (blk_lt (g:=gb679) (o:=.cells #[.int .i64 t674,.slice Ao33 t675.length co33] 28 (0,0)) (pe_ BK679.out)) : gb679 ≠ gb705));have n26_:=Aside0.mk ((by rw [hg];exact Nat.ne_of_gt (blk_lt (g:=gb679) (o:=.cells #[.int .i64 t674,.slice Ao33 t675.length co33] 28 (0,0)) (pe_ BK679.out)) : gb705 ≠ gb679));have n27_:=Aside0.mk ((by rw [hg];exact Nat.ne_of_lt (blk_lt (g:=gb686) (o:=.cells #[.int .i64 x687000_109,.slice Ao328 x687001_109.length co328] 28 (0,0)) (pe_ BK686.out)) : gb686 ≠ gb705));have n28_:=Aside0.mk ((by rw [hg];exact Nat.ne_of_gt (blk_lt (g:=gb686) (o:=.cells #[.int .i64 x687000_109,.slice Ao328 x687001_109.length co328] 28 (0,0)) (pe_ BK686.out)) : gb705 ≠ gb686));have n29_:=Aside0.mk ((by rw [hg];exact Nat.ne_of_lt (blk_lt (g:=gb693) (o:=.cells #[.int .i64 t688,.slice Ao337 t689.length co337] 28 (0,0)) (pe_ BK693.out)) : gb693 ≠ gb705));have n30_:=Aside0.mk ((by rw [hg];exact Nat.ne_of_gt (blk_lt (g:=gb693) (o:=.cells #[.int .i64 t688,.slice Ao337 t689.length co337] 28 (0,0)) (pe_ BK693.out)) : gb705 ≠ gb693));have n31_:=Aside0.mk ((by rw [hg];exact Nat.ne_of_lt (blk_lt (g:=gb699) (o:=.cells #[.int .i64 t694,.slice Ao351 t695.length co351] 28 (0,0)) (pe_ BK699.out)) : gb699 ≠ gb705));have n32_:=Aside0.mk ((by rw [hg];exact Nat.ne_of_gt (blk_lt (g:=gb699) (o:=.cells #[.int .i64 t694,.slice Ao351 t695.length co351] 28 (0,0)) (pe_ BK699.out)) : gb705 ≠ gb699));clear HO_667001;clear HO_668001;clear HO_674001;clear HO_680001;clear HO_687001;clear HO691;clear HO697;clear HO703;clear BK666;clear BK667;clear BK673;clear BK679;clear BK686;clear BK693;clear BK699;clear HB;have HO_667001:=n0_;have HO_668001:=n1_;have HO_674001:=n2_;have HO_680001:=n3_;have HO_687001:=n4_;have HO691:=n5_;have HO697:=n6_;have HO703:=n7_;have BK666:=n8_;have BK667:=n9_;have BK673:=n10_;have BK679:=n11_;have BK686:=n12_;have BK693:=n13_;have BK699:=n14_;have HB:=n15_;have BK705:=n16_;have GW705:=n17_;have GE705:=n18_;have NB666_705:=n19_;have NB705_666:=n20_;have NB667_705:=n21_;have NB705_667:=n22_;have NB673_705:=n23_;have NB705_673:=n24_;have NB679_705:=n25_;have NB705_679:=n26_;have NB686_705:=n27_;have NB705_686:=n28_;have NB693_705:=n29_;have NB705_693:=n30_;have NB699_705:=n31_;have NB705_699:=n32_;clear n0_ n1_ n2_ n3_ n4_ n5_ n6_ n7_ n8_ n9_ n10_ n11_ n12_ n13_ n14_ n15_ n16_ n17_ n18_ n19_ n20_ n21_ n22_ n23_ n24_ n25_ n26_ n27_ n28_ n29_ n30_ n31_ n32_;clear hb hbox hg;have hnb356:=NB705_666.out;have hnc356:=NB666_705.out;have hnb357:=NB705_667.out;have hnc357:=NB667_705.out;have hnb358:=NB705_673.out;have hnc358:=NB673_705.out;have hnb359:=NB705_679.out;have hnc359:=NB679_705.out;have hnb360:=NB705_686.out;have hnc360:=NB686_705.out;have hnb361:=NB705_693.out;have hnc361:=NB693_705.out;have hnb362:=NB705_699.out;have hnc362:=NB699_705.out;have hcz363_0 : w355.cell? ⟨gb705,0,none⟩ = some (.int .i64 0):=(blk_cell BK705.out 0).trans rfl;have hcz363_1 : w355.cell? ⟨gb705,1,none⟩ = some (.slice none 0 0):=(blk_cell BK705.out 1).trans rfl;have hfz363_0:=blk_frozen BK705.out 0;have hfz363_1:=blk_frozen BK705.out 1;obtain ⟨Ao364,co364,eo364⟩:=Kd.R_slice HO703.out;subst eo364;have hcz365_0 : w355.cell? ⟨gb666,0,none⟩ = some (.int .i64 t658):=(blk_cell BK666.out 0).trans rfl;have hcz365_1 : w355.cell? ⟨gb666,1,none⟩ = some (.slice Ao16 t659.length co16):=(blk_cell BK666.out 1).trans rfl;have hfz365_0:=blk_frozen BK666.out 0;have hfz365_1:=blk_frozen BK666.out 1)|((with_reducible refine gate_callee (f:=37) rfl ?_);refine goesL_ (some 104) rfl rfl Try.func37 (by kernel_rfl) rfl #[.int .i64 t658] rfl lp_ ?_;(with_reducible refine (impl_UnitMatrix.calls kj109 t658 t706 t707 t710 _ A124.out).mono ?_);rintro e w366 ⟨v708,rfl,ho0,hb⟩;refine ⟨_,rfl,?_⟩;have n0_:=Aside0.mk (Kd.V_elder' (by refine pv_ ?_;exact (Kd.V_mono (Kd.V_far (p:=⟨gb705,1,none⟩) (Kd.V_far (p:=⟨gb705,0,none⟩) (Kd.V_mono HO_667001.out (fun k_ hk => (⟨hk,hk.2⟩ : _ ∧ k_ ≠ gb705))) (fun _ hk => hk.2) (.int .i64 t700)) (fun _ hk => hk.2) (.slice Ao364 t701.length co364)) (fun _ h_ => h_.1))) (Kd.R_base ho0) hb);have n1_:=Aside0.mk (Kd.R_elder' (by refine pr_ ?_;exact (Kd.R_mono (Kd.R_far (p:=⟨gb705,1,none⟩) (Kd.R_far (p:=⟨gb705,0,none⟩) (Kd.R_types HO_668001.out BK705.out (by decide)) (fun _ hk => hk.2) (.int .i64 t700)) (fun _ hk => hk.2) (.slice Ao364 t701.length co364)) (fun _ h_ => h_.1))) (Kd.R_base ho0) hb);have n2_:=Aside0.mk (Kd.R_elder' (by refine pr_ ?_;exact (Kd.R_mono (Kd.R_far (p:=⟨gb705,1,none⟩) (Kd.R_far (p:=⟨gb705,0,none⟩) (Kd.R_types HO_674001.out BK705.out (by decide)) (fun _ hk => hk.2) (.int .i64 t700)) (fun _ hk => hk.2) (.slice Ao364 t701.length co364)) (fun _ h_ => h_.1))) (Kd.R_base ho0) hb);have n3_:=Aside0.mk (Kd.R_elder' (by refine pr_ ?_;exact (Kd.R_mono (Kd.R_far (p:=⟨gb705,1,none⟩) (Kd.R_far (p:=⟨gb705,0,none⟩) (Kd.R_types HO_680001.out BK705.out (by decide)) (fun _ hk => hk.2) (.int .i64 t700)) (fun _ hk => hk.2) (.slice Ao364 t701.length co364)) (fun _ h_ => h_.1))) (Kd.R_base ho0) hb);have n4_:=Aside0.mk (Kd.V_elder' (by refine pv_ ?_;exact (Kd.V_mono (Kd.V_far (p:=⟨gb705,1,none⟩) (Kd.V_far (p:=⟨gb705,0,none⟩) (Kd.V_mono HO_687001.out (fun k_ hk => (⟨hk,hk.2⟩ : _ ∧ k_ ≠ gb705))) (fun _ hk => hk.2) (.int .i64 t700)) (fun _ hk => hk.2) (.slice Ao364 t701.length co364)) (fun _ h_ => h_.1))) (Kd.R_base ho0) hb);have n5_:=Aside0.mk (Kd.R_elder' (by refine pr_ ?_;exact (Kd.R_mono (Kd.R_far (p:=⟨gb705,1,none⟩) (Kd.R_far (p:=⟨gb705,0,none⟩) (Kd.R_types HO691.out BK705.out (by decide)) (fun _ hk => hk.2) (.int .i64 t700)) (fun _ hk => hk.2) (.slice Ao364 t701.length co364)) (fun _ h_ => h_.1))) (Kd.R_base ho0) hb);have n6_:=Aside0.mk (Kd.R_elder' (by refine pr_ ?_;exact (Kd.R_mono (Kd.R_far (p:=⟨gb705,1,none⟩) (Kd.R_far (p:=⟨gb705,0,none⟩) (Kd.R_types HO697.out BK705.out (by decide)) (fun _ hk => hk.2) (.int .i64 t700)) (fun _ hk => hk.2) (.slice Ao364 t701.length co364)) (fun _ h_ => h_.1))) (Kd.R_base ho0) hb);have n7_:=Aside0.mk (Kd.R_elder' (by refine pr_ ?_;exact (Kd.R_mono (Kd.R_far (p:=⟨gb705,1,none⟩) (Kd.R_far (p:=⟨gb705,0,none⟩) (Kd.R_types HO703.out BK705.out (by decide)) (fun _ hk => hk.2) (.int .i64 t700)) (fun _ hk => hk.2) (.slice Ao364 t701.length co364)) (fun _ h_ => h_.1))) (Kd.R_base ho0) hb);have n8_:=Aside0.mk (Kd.R_lower (Kd.R_new' (Kd.R_new' (Kd.R_new' (Kd.R_new' (Kd.R_new' (Kd.R_new' ho0 (Kd.R_lt (by refine pr_ ?_;exact (Kd.R_mono (Kd.R_far (p:=⟨gb705,1,none⟩) (Kd.R_far (p:=⟨gb705,0,none⟩) (Kd.R_types HO_668001.out BK705.out (by decide)) (fun _ hk => hk.2) (.int .i64 t700)) (fun _ hk => hk.2) (.slice Ao364 t701.length co364)) (fun _ h_ => h_.1))))) (Kd.R_lt (by refine pr_ ?_;exact (Kd.R_mono (Kd.R_far (p:=⟨gb705,1,none⟩) (Kd.R_far (p:=⟨gb705,0,none⟩) (Kd.R_types HO_674001.out BK705.out (by decide)) (fun _ hk => hk.2) (.int .i64 t700)) (fun _ hk => hk.2) (.slice Ao364 t701.length co364)) (fun _ h_ => h_.1))))) (Kd.R_lt (by refine pr_ ?_;exact (Kd.R_mono (Kd.R_far (p:=⟨gb705,1,none⟩) (Kd.R_far (p:=⟨gb705,0,none⟩) (Kd.R_types HO_680001.out BK705.out (by decide)) (fun _ hk => hk.2) (.int .i64 t700)) (fun _ hk => hk.2) (.slice Ao364 t701.length co364)) (fun _ h_ => h_.1))))) (Kd.R_lt (by refine pr_ ?_;exact (Kd.R_mono (Kd.R_far (p:=⟨gb705,1,none⟩) (Kd.R_far (p:=⟨gb705,0,none⟩) (Kd.R_types HO691.out BK705.out (by decide)) (fun _ hk => hk.2) (.int .i64 t700)) (fun _ hk => hk.2) (.slice Ao364 t701.length co364)) (fun _ h_ => h_.1))))) (Kd.R_lt (by refine pr_ ?_;exact (Kd.R_mono (Kd.R_far (p:=⟨gb705,1,none⟩) (Kd.R_far (p:=⟨gb705,0,none⟩) (Kd.R_types HO697.out BK705.out (by decide)) (fun _ hk => hk.2) (.int .i64 t700)) (fun _ hk => hk.2) (.slice Ao364 t701.length co364)) (fun _ h_ => h_.1))))) (Kd.R_lt (by refine pr_ ?_;exact (Kd.R_mono (Kd.R_far (p:=⟨gb705,1,none⟩) (Kd.R_far (p:=⟨gb705,0,none⟩) (Kd.R_types HO703.out BK705.out (by decide)) (fun _ hk => hk.2) (.int .i64 t700)) (fun _ hk => hk.2) (.slice Ao364 t701.length co364)) (fun _ h_ => h_.1))))) (below_size (be8_ HB.out GE666.out GE667.out GE673.out GE679.out GE686.out GE693.out GE699.out GE705.out)));have n9_:=Aside0.mk (blk_below (g:=gb666) (o:=.cells #[.int .i64 t658,.slice Ao16 t659.length co16] 28 (0,0)) (by refine pe_ ?_;refine blk_far ?_ NB666_705.out _;refine pe_ ?_;refine blk_far ?_ NB666_705.out _;refine pe_ ?_;exact BK666.out) hb);have n10_:=Aside0.mk (blk_below (g:=gb667) (o:=.cells #[.int .i64 t662,.slice Ao18 t663.length co18] 28 (0,0)) (by refine pe_ ?_;refine blk_far ?_ NB667_705.out _;refine pe_ ?_;refine blk_far ?_ NB667_705.out _;refine pe_ ?_;exact BK667.out) hb);have n11_:=Aside0.mk (blk_below (g:=gb673) (o:=.cells #[.int .i64 t668,.slice Ao24 t669.length co24] 28 (0,0)) (by refine pe_ ?_;refine blk_far ?_ NB673_705.out _;refine pe_ ?_;refine blk_far ?_ NB673_705.out _;refine pe_ ?_;exact BK673.out) hb);have n12_:=Aside0.mk (blk_below (g:=gb679) (o:=.cells #[.int .i64 t674,.slice Ao33 t675.length co33] 28 (0,0)) (by refine pe_ ?_;refine blk_far ?_ NB679_705.out _;refine pe_ ?_;refine blk_far ?_ NB679_705.out _;refine pe_ ?_;exact BK679.out) hb);have n13_:=Aside0.mk (blk_below (g:=gb686) (o:=.cells #[.int .i64 x687000_109,.slice Ao328 x687001_109.length co328] 28 (0,0)) (by refine pe_ ?_;refine blk_far ?_ NB686_705.out _;refine pe_ ?_;refine blk_far ?_ NB686_705.out _;refine pe_ ?_;exact BK686.out) hb);have n14_:=Aside0.mk (blk_below (g:=gb693) (o:=.cells #[.int .i64 t688,.slice Ao337 t689.length co337] 28 (0,0)) (by refine pe_ ?_;refine blk_far ?_ NB693_705.out _;refine pe_ ?_;refine blk_far ?_ NB693_705.out _;refine pe_ ?_;exact BK693.out) hb);have n15_:=Aside0.mk (blk_below (g:=gb699) (o:=.cells #[.int .i64 t694,.slice Ao351 t695.length co351] 28 (0,0)) (by refine pe_ ?_;refine blk_far ?_ NB699_705.out _;refine pe_ ?_;refine blk_far ?_ NB699_705.out _;refine pe_ ?_;exact BK699.out) hb);have n16_:=Aside0.mk (blk_below (g:=gb705) (o:=.cells #[.int .i64 t700,.slice Ao364 t701.length co364] 28 (0,0)) (by refine pe_ ?_;refine blk_put (cs:=#[.int .i64 t700,.slice none 0 0]) ?_ 1 _ rfl;refine pe_ ?_;refine blk_put (cs:=#[.int .i64 0,.slice none 0 0]) ?_ 0 _ rfl;refine pe_ ?_;exact BK705.out) hb);have n17_:=Aside0.mk (below_step (be8_ HB.out GE666.out GE667.out GE673.out GE679.out GE686.out GE693.out GE699.out GE705.out) hb);clear HO_667001;clear HO_668001;clear HO_674001;clear HO_680001;clear HO_687001;clear HO691;clear HO697;clear HO703;clear BK666;clear BK667;clear BK673;clear BK679;clear BK686;clear BK693;clear BK699;clear BK705;clear HB;have HO_667001:=n0_;have HO_668001:=n1_;have HO_674001:=n2_;have HO_680001:=n3_;have HO_687001:=n4_;have HO691:=n5_;have HO697:=n6_;have HO703:=n7_;have HO709:=n8_;have BK666:=n9_;have BK667:=n10_;have BK673:=n11_;have BK679:=n12_;have BK686:=n13_;have BK693:=n14_;have BK699:=n15_;have BK705:=n16_;have HB:=n17_;clear n0_ n1_ n2_ n3_ n4_ n5_ n6_ n7_ n8_ n9_ n10_ n11_ n12_ n13_ n14_ n15_ n16_ n17_;(try clear hb);(try clear hb2);(try clear hk);(try clear hi);(try clear ho0))|((with_reducible refine gate_dst (N:=18) rfl ?_);(try (refine gate_guard (by rfl) ?_;dsimp only));refine box_event ?hg (N:=18) ?hd (cs:=#[.int .i64 0,.slice none 0 0]) (t:=28) ?hr ?_;(case hd => rfl);(case hg => rfl);(case hr => first|(go_simp;done)|(go_simp;rfl));intro gb711 hg w367 hbox hb;have n0_:=Aside0.mk (Kd.V_below (Kd.V_elderB (pv_ HO_667001.out) gb711 (Nat.le_of_eq hg.symm)) hb);have n1_:=Aside0.mk (Kd.R_below (pr_ HO_668001.out) hb);have n2_:=Aside0.mk (Kd.R_below (pr_ HO_674001.out) hb);have n3_:=Aside0.mk (Kd.R_below (pr_ HO_680001.out) hb);have n4_:=Aside0.mk (Kd.V_below (Kd.V_elderB (pv_ HO_687001.out) gb711 (Nat.le_of_eq hg.symm)) hb);have n5_:=Aside0.mk (Kd.R_below (pr_ HO691.out) hb);have n6_:=Aside0.mk (Kd.R_below (pr_ HO697.out) hb);have n7_:=Aside0.mk (Kd.R_below (pr_ HO703.out) hb);have n8_:=Aside0.mk (Kd.R_below (pr_ HO709.out) hb);have n9_:=Aside0.mk (blk_below (g:=gb666) (o:=.cells #[.int .i64 t658,.slice Ao16 t659.length co16] 28 (0,0)) (pe_ BK666.out) hb);have n10_:=Aside0.mk (blk_below (g:=gb667) (o:=.cells #[.int .i64 t662,.slice Ao18 t663.length co18] 28 (0,0)) (pe_ BK667.out) hb);have n11_:=Aside0.mk (blk_below (g:=gb673) (o:=.cells #[.int .i64 t668,.slice Ao24 t669.length co24] 28 (0,0)) (pe_ BK673.out) hb);have n12_:=Aside0.mk (blk_below (g:=gb679) (o:=.cells #[.int .i64 t674,.slice Ao33 t675.length co33] 28 (0,0)) (pe_ BK679.out) hb);have n13_:=Aside0.mk (blk_below (g:=gb686) (o:=.cells #[.int .i64 x687000_109,.slice Ao328 x687001_109.length co328] 28 (0,0)) (pe_ BK686.out) hb);have n14_:=Aside0.mk (blk_below (g:=gb693) (o:=.cells #[.int .i64 t688,.slice Ao337 t689.length co337] 28 (0,0)) (pe_ BK693.out) hb);have n15_:=Aside0.mk (blk_below (g:=gb699) (o:=.cells #[.int .i64 t694,.slice Ao351 t695.length co351] 28 (0,0)) (pe_ BK699.out) hb);have n16_:=Aside0.mk (blk_below (g:=gb705) (o:=.cells #[.int .i64 t700,.slice Ao364 t701.length co364] 28 (0,0)) (pe_ BK705.out) hb);have n17_:=Aside0.mk (below_step (be8_ HB.out GE666.out GE667.out GE673.out GE679.out GE686.out GE693.out GE699.out GE705.out) hb);have n18_:=Aside0.mk (hbox);have n19_:=Aside0.mk ((by rw [hg];exact (below_size (be8_ HB.out GE666.out GE667.out GE673.out GE679.out GE686.out GE693.out GE699.out GE705.out)) : w.heap.size ≤ gb711));have n20_:=Aside0.mk ((by rw [hg];exact (below_size (be8_ HB.out GE666.out GE667.out GE673.out GE679.out GE686.out GE693.out GE699.out GE705.out)) : w.heap.size ≤ gb711));have n21_:=Aside0.mk ((by rw [hg];exact Nat.ne_of_lt (blk_lt (g:=gb666) (o:=.cells #[.int .i64 t658,.slice Ao16 t659.length co16] 28 (0,0)) (pe_ BK666.out)) : gb666 ≠ gb711));have n22_:=Aside0.mk ((by rw [hg];exact Nat.ne_of_gt (blk_lt (g:=gb666) (o:=.cells #[.int .i64 t658,.slice Ao16 t659.length co16] 28 (0,0)) (pe_ BK666.out)) : gb711 ≠ gb666));have n23_:=Aside0.mk ((by rw [hg];exact Nat.ne_of_lt (blk_lt (g:=gb667) (o:=.cells #[.int .i64 t662,.slice Ao18 t663.length co18] 28 (0,0)) (pe_ BK667.out)) : gb667 ≠ gb711));have n24_:=Aside0.mk ((by rw [hg];exact Nat.ne_of_gt (blk_lt (g:=gb667) (o:=.cells #[.int .i64 t662,.slice Ao18 t663.length co18] 28 (0,0)) (pe_ BK667.out)) : gb711 ≠ gb667));have n25_:=Aside0.mk ((by rw [hg];exact Nat.ne_of_lt (blk_lt (g:=gb673) (o:=.cells #[.int .i64 t668,.slice Ao24 t669.length co24] 28 (0,0)) (pe_ BK673.out)) : gb673 ≠ gb711));have n26_:=Aside0.mk ((by rw [hg];exact Nat.ne_of_gt (blk_lt (g:=gb673) (o:=.cells #[.int .i64 t668,.slice Ao24 t669.length co24] 28 (0,0)) (pe_ BK673.out)) : gb711 ≠ gb673));have n27_:=Aside0.mk ((by rw [hg];exact Nat.ne_of_lt (blk_lt (g:=gb679) (o:=.cells #[.int .i64 t674,.slice Ao33 t675.length co33] 28 (0,0)) (pe_ BK679.out)) : gb679 ≠ gb711));have n28_:=Aside0.mk ((by rw [hg];exact Nat.ne_of_gt (blk_lt (g:=gb679) (o:=.cells #[.int .i64 t674,.slice Ao33 t675.length co33] 28 (0,0)) (pe_ BK679.out)) : gb711 ≠ gb679));have n29_:=Aside0.mk ((by rw [hg];exact Nat.ne_of_lt (blk_lt (g:=gb686) (o:=.cells #[.int .i64 x687000_109,.slice Ao328 x687001_109.length co328] 28 (0,0)) (pe_ BK686.out)) : gb686 ≠ gb711));have n30_:=Aside0.mk ((by rw [hg];exact Nat.ne_of_gt (blk_lt (g:=gb686) (o:=.cells #[.int .i64 x687000_109,.slice Ao328 x687001_109.length co328] 28 (0,0)) (pe_ BK686.out)) : gb711 ≠ gb686));have n31_:=Aside0.mk ((by rw [hg];exact Nat.ne_of_lt (blk_lt (g:=gb693) (o:=.cells #[.int .i64 t688,.slice Ao337 t689.length co337] 28 (0,0)) (pe_ BK693.out)) : gb693 ≠ gb711));have n32_:=Aside0.mk ((by rw [hg];exact Nat.ne_of_gt (blk_lt (g:=gb693) (o:=.cells #[.int .i64 t688,.slice Ao337 t689.length co337] 28 (0,0)) (pe_ BK693.out)) : gb711 ≠ gb693));have n33_:=Aside0.mk ((by rw [hg];exact Nat.ne_of_lt (blk_lt (g:=gb699) (o:=.cells #[.int .i64 t694,.slice Ao351 t695.length co351] 28 (0,0)) (pe_ BK699.out)) : gb699 ≠ gb711));have n34_:=Aside0.mk ((by rw [hg];exact Nat.ne_of_gt (blk_lt (g:=gb699) (o:=.cells #[.int .i64 t694,.slice Ao351 t695.length co351] 28 (0,0)) (pe_ BK699.out)) : gb711 ≠ gb699));have n35_:=Aside0.mk ((by rw [hg];exact Nat.ne_of_lt (blk_lt (g:=gb705) (o:=.cells #[.int .i64 t700,.slice Ao364 t701.length co364] 28 (0,0)) (pe_ BK705.out)) : gb705 ≠ gb711));have n36_:=Aside0.mk ((by rw [hg];exact Nat.ne_of_gt (blk_lt (g:=gb705) (o:=.cells #[.int .i64 t700,.slice Ao364 t701.length co364] 28 (0,0)) (pe_ BK705.out)) : gb711 ≠ gb705));clear HO_667001;clear HO_668001;clear HO_674001;clear HO_680001;clear HO_687001;clear HO691;clear HO697;clear HO703;clear HO709;clear BK666;clear BK667;clear BK673;clear BK679;clear BK686;clear BK693;clear BK699;clear BK705;clear HB;have HO_667001:=n0_;have HO_668001:=n1_;have HO_674001:=n2_;have HO_680001:=n3_;have HO_687001:=n4_;have HO691:=n5_;have HO697:=n6_;have HO703:=n7_;have HO709:=n8_;have BK666:=n9_;have BK667:=n10_;have BK673:=n11_;have BK679:=n12_;have BK686:=n13_;have BK693:=n14_;have BK699:=n15_;have BK705:=n16_;have HB:=n17_;have BK711:=n18_;have GW711:=n19_;have GE711:=n20_;have NB666_711:=n21_;have NB711_666:=n22_;have NB667_711:=n23_;have NB711_667:=n24_;have NB673_711:=n25_;have NB711_673:=n26_;have NB679_711:=n27_;have NB711_679:=n28_;have NB686_711:=n29_;have NB711_686:=n30_;have NB693_711:=n31_;have NB711_693:=n32_;have NB699_711:=n33_;have NB711_699:=n34_;have NB705_711:=n35_;have NB711_705:=n36_;clear n0_ n1_ n2_ n3_ n4_ n5_ n6_ n7_ n8_ n9_ n10_ n11_ n12_ n13_ n14_ n15_ n16_ n17_ n18_ n19_ n20_ n21_ n22_ n23_ n24_ n25_ n26_ n27_ n28_ n29_ n30_ n31_ n32_ n33_ n34_ n35_ n36_;clear hb hbox hg;have hnb368:=NB711_666.out;have hnc368:=NB666_711.out;have hnb369:=NB711_667.out;have hnc369:=NB667_711.out;have hnb370:=NB711_673.out;have hnc370:=NB673_711.out;have hnb371:=NB711_679.out;have hnc371:=NB679_711.out;have hnb372:=NB711_686.out;have hnc372:=NB686_711.out;have hnb373:=NB711_693.out;have hnc373:=NB693_711.out;have hnb374:=NB711_699.out;have hnc374:=NB699_711.out;have hnb375:=NB711_705.out;have hnc375:=NB705_711.out;have hcz376_0 : w367.cell? ⟨gb711,0,none⟩ = some (.int .i64 0):=(blk_cell BK711.out 0).trans rfl;have hcz376_1 : w367.cell? ⟨gb711,1,none⟩ = some (.slice none 0 0):=(blk_cell BK711.out 1).trans rfl;have hfz376_0:=blk_frozen BK711.out 0;have hfz376_1:=blk_frozen BK711.out 1;obtain ⟨Ao377,co377,eo377⟩:=Kd.R_slice HO709.out;subst eo377)|((with_reducible refine gate_callee (f:=20) rfl ?_);refine goesL_ (some 109) rfl rfl Try.func20 (by kernel_rfl) rfl #[.agg #[.int .i64 t706,.slice Ao377 t707.length co377]] rfl lp_ ?_;(with_reducible refine (impl_GradesOf.calls kj109 t706 _ _ t707 t712 t713 t716 _ ?side1 ?side2 A125.out).mono ?_);(case side1 => refine (Kd.R_reads' (e:=3) (base:=w.heap.size) (ok:=fun k_ => ((((((True ∧ some k_ ≠ (.slice Ao18 t663.length co18 : Value).ownBlock) ∧ some k_ ≠ (.slice Ao24 t669.length co24 : Value).ownBlock) ∧ some k_ ≠ (.slice Ao33 t675.length co33 : Value).ownBlock) ∧ some k_ ≠ (.slice Ao337 t689.length co337 : Value).ownBlock) ∧ some k_ ≠ (.slice Ao351 t695.length co351 : Value).ownBlock) ∧ some k_ ≠ (.slice Ao364 t701.length co364 : Value).ownBlock)) (n:=t707.length) (c:=co377) ?_).2.2;exact (by refine pr_ ?_;exact (Kd.R_mono (Kd.R_far (p:=⟨gb711,1,none⟩) (Kd.R_far (p:=⟨gb711,0,none⟩) (Kd.R_types HO709.out BK711.out (by decide)) (fun _ hk => hk.2) (.int .i64 t706)) (fun _ hk => hk.2) (.slice Ao377 t707.length co377)) (fun _ h_ => h_.1))));(case side2 => exact (Kd.R_reads' HO709.out).2.1);rintro e w378 ⟨v714,rfl,ho0,hb⟩;refine ⟨_,rfl,?_⟩;have n0_:=Aside0.mk (Kd.V_elder' (by refine pv_ ?_;exact (Kd.V_mono (Kd.V_far (p:=⟨gb711,1,none⟩) (Kd.V_far (p:=⟨gb711,0,none⟩) (Kd.V_mono HO_667001.out (fun k_ hk => (⟨hk,hk.2⟩ : _ ∧ k_ ≠ gb711))) (fun _ hk => hk.2) (.int .i64 t706)) (fun _ hk => hk.2) (.slice Ao377 t707.length co377)) (fun _ h_ => h_.1))) (Kd.R_base ho0) hb);have n1_:=Aside0.mk (Kd.R_elder' (by refine pr_ ?_;exact (Kd.R_mono (Kd.R_far (p:=⟨gb711,1,none⟩) (Kd.R_far (p:=⟨gb711,0,none⟩) (Kd.R_types HO_668001.out BK711.out (by decide)) (fun _ hk => hk.2) (.int .i64 t706)) (fun _ hk => hk.2) (.slice Ao377 t707.length co377)) (fun _ h_ => h_.1))) (Kd.R_base ho0) hb);have n2_:=Aside0.mk (Kd.R_elder' (by refine pr_ ?_;exact (Kd.R_mono (Kd.R_far (p:=⟨gb711,1,none⟩) (Kd.R_far (p:=⟨gb711,0,none⟩) (Kd.R_types HO_674001.out BK711.out (by decide)) (fun _ hk => hk.2) (.int .i64 t706)) (fun _ hk => hk.2) (.slice Ao377 t707.length co377)) (fun _ h_ => h_.1))) (Kd.R_base ho0) hb);have n3_:=Aside0.mk (Kd.R_elder' (by refine pr_ ?_;exact (Kd.R_mono (Kd.R_far (p:=⟨gb711,1,none⟩) (Kd.R_far (p:=⟨gb711,0,none⟩) (Kd.R_types HO_680001.out BK711.out (by decide)) (fun _ hk => hk.2) (.int .i64 t706)) (fun _ hk => hk.2) (.slice Ao377 t707.length co377)) (fun _ h_ => h_.1))) (Kd.R_base ho0) hb);have n4_:=Aside0.mk (Kd.V_elder' (by refine pv_ ?_;exact (Kd.V_mono (Kd.V_far (p:=⟨gb711,1,none⟩) (Kd.V_far (p:=⟨gb711,0,none⟩) (Kd.V_mono HO_687001.out (fun k_ hk => (⟨hk,hk.2⟩ : _ ∧ k_ ≠ gb711))) (fun _ hk => hk.2) (.int .i64 t706)) (fun _ hk => hk.2) (.slice Ao377 t707.length co377)) (fun _ h_ => h_.1))) (Kd.R_base ho0) hb);have n5_:=Aside0.mk (Kd.R_elder' (by refine pr_ ?_;exact (Kd.R_mono (Kd.R_far (p:=⟨gb711,1,none⟩) (Kd.R_far (p:=⟨gb711,0,none⟩) (Kd.R_types HO691.out BK711.out (by decide)) (fun _ hk => hk.2) (.int .i64 t706)) (fun _ hk => hk.2) (.slice Ao377 t707.length co377)) (fun _ h_ => h_.1))) (Kd.R_base ho0) hb);have n6_:=Aside0.mk (Kd.R_elder' (by refine pr_ ?_;exact (Kd.R_mono (Kd.R_far (p:=⟨gb711,1,none⟩) (Kd.R_far (p:=⟨gb711,0,none⟩) (Kd.R_types HO697.out BK711.out (by decide)) (fun _ hk => hk.2) (.int .i64 t706)) (fun _ hk => hk.2) (.slice Ao377 t707.length co377)) (fun _ h_ => h_.1))) (Kd.R_base ho0) hb);have n7_:=Aside0.mk (Kd.R_elder' (by refine pr_ ?_;exact (Kd.R_mono (Kd.R_far (p:=⟨gb711,1,none⟩) (Kd.R_far (p:=⟨gb711,0,none⟩) (Kd.R_types HO703.out BK711.out (by decide)) (fun _ hk => hk.2) (.int .i64 t706)) (fun _ hk => hk.2) (.slice Ao377 t707.length co377)) (fun _ h_ => h_.1))) (Kd.R_base ho0) hb);have n8_:=Aside0.mk (Kd.R_elder' (by refine pr_ ?_;exact (Kd.R_mono (Kd.R_far (p:=⟨gb711,1,none⟩) (Kd.R_far (p:=⟨gb711,0,none⟩) (Kd.R_types HO709.out BK711.out (by decide)) (fun _ hk => hk.2) (.int .i64 t706)) (fun _ hk => hk.2) (.slice Ao377 t707.length co377)) (fun _ h_ => h_.1))) (Kd.R_base ho0) hb);have n9_:=Aside0.mk (Kd.R_lower (Kd.R_new' (Kd.R_new' (Kd.R_new' (Kd.R_new' (Kd.R_new' (Kd.R_new' (Kd.R_new' ho0 (Kd.R_lt (by refine pr_ ?_;exact (Kd.R_mono (Kd.R_far (p:=⟨gb711,1,none⟩) (Kd.R_far (p:=⟨gb711,0,none⟩) (Kd.R_types HO_668001.out BK711.out (by decide)) (fun _ hk => hk.2) (.int .i64 t706)) (fun _ hk => hk.2) (.slice Ao377 t707.length co377)) (fun _ h_ => h_.1))))) (Kd.R_lt (by refine pr_ ?_;exact (Kd.R_mono (Kd.R_far (p:=⟨gb711,1,none⟩) (Kd.R_far (p:=⟨gb711,0,none⟩) (Kd.R_types HO_674001.out BK711.out (by decide)) (fun _ hk => hk.2) (.int .i64 t706)) (fun _ hk => hk.2) (.slice Ao377 t707.length co377)) (fun _ h_ => h_.1))))) (Kd.R_lt (by refine pr_ ?_;exact (Kd.R_mono (Kd.R_far (p:=⟨gb711,1,none⟩) (Kd.R_far (p:=⟨gb711,0,none⟩) (Kd.R_types HO_680001.out BK711.out (by decide)) (fun _ hk => hk.2) (.int .i64 t706)) (fun _ hk => hk.2) (.slice Ao377 t707.length co377)) (fun _ h_ => h_.1))))) (Kd.R_lt (by refine pr_ ?_;exact (Kd.R_mono (Kd.R_far (p:=⟨gb711,1,none⟩) (Kd.R_far (p:=⟨gb711,0,none⟩) (Kd.R_types HO691.out BK711.out (by decide)) (fun _ hk => hk.2) (.int .i64 t706)) (fun _ hk => hk.2) (.slice Ao377 t707.length co377)) (fun _ h_ => h_.1))))) (Kd.R_lt (by refine pr_ ?_;exact (Kd.R_mono (Kd.R_far (p:=⟨gb711,1,none⟩) (Kd.R_far (p:=⟨gb711,0,none⟩) (Kd.R_types HO697.out BK711.out (by decide)) (fun _ hk => hk.2) (.int .i64 t706)) (fun _ hk => hk.2) (.slice Ao377 t707.length co377)) (fun _ h_ => h_.1))))) (Kd.R_lt (by refine pr_ ?_;exact (Kd.R_mono (Kd.R_far (p:=⟨gb711,1,none⟩) (Kd.R_far (p:=⟨gb711,0,none⟩) (Kd.R_types HO703.out BK711.out (by decide)) (fun _ hk => hk.2) (.int .i64 t706)) (fun _ hk => hk.2) (.slice Ao377 t707.length co377)) (fun _ h_ => h_.1))))) (Kd.R_lt (by refine pr_ ?_;exact (Kd.R_mono (Kd.R_far (p:=⟨gb711,1,none⟩) (Kd.R_far (p:=⟨gb711,0,none⟩) (Kd.R_types HO709.out BK711.out (by decide)) (fun _ hk => hk.2) (.int .i64 t706)) (fun _ hk => hk.2) (.slice Ao377 t707.length co377)) (fun _ h_ => h_.1))))) (below_size (be9_ HB.out GE666.out GE667.out GE673.out GE679.out GE686.out GE693.out GE699.out GE705.out GE711.out)));have n10_:=Aside0.mk (blk_below (g:=gb666) (o:=.cells #[.int .i64 t658,.slice Ao16 t659.length co16] 28 (0,0)) (by refine pe_ ?_;refine blk_far ?_ NB666_711.out _;refine pe_ ?_;refine blk_far ?_ NB666_711.out _;refine pe_ ?_;exact BK666.out) hb);have n11_:=Aside0.mk (blk_below (g:=gb667) (o:=.cells #[.int .i64 t662,.slice Ao18 t663.length co18] 28 (0,0)) (by refine pe_ ?_;refine blk_far ?_ NB667_711.out _;refine pe_ ?_;refine blk_far ?_ NB667_711.out _;refine pe_ ?_;exact BK667.out) hb);have n12_:=Aside0.mk (blk_below (g:=gb673) (o:=.cells #[.int .i64 t668,.slice Ao24 t669.length co24] 28 (0,0)) (by refine pe_ ?_;refine blk_far ?_ NB673_711.out _;refine pe_ ?_;refine blk_far ?_ NB673_711.out _;refine pe_ ?_;exact BK673.out) hb);have n13_:=Aside0.mk (blk_below (g:=gb679) (o:=.cells #[.int .i64 t674,.slice Ao33 t675.length co33] 28 (0,0)) (by refine pe_ ?_;refine blk_far ?_ NB679_711.out _;refine pe_ ?_;refine blk_far ?_ NB679_711.out _;refine pe_ ?_;exact BK679.out) hb);have n14_:=Aside0.mk (blk_below (g:=gb686) (o:=.cells #[.int .i64 x687000_109,.slice Ao328 x687001_109.length co328] 28 (0,0)) (by refine pe_ ?_;refine blk_far ?_ NB686_711.out _;refine pe_ ?_;refine blk_far ?_ NB686_711.out _;refine pe_ ?_;exact BK686.out) hb);have n15_:=Aside0.mk (blk_below (g:=gb693) (o:=.cells #[.int .i64 t688,.slice Ao337 t689.length co337] 28 (0,0)) (by refine pe_ ?_;refine blk_far ?_ NB693_711.out _;refine pe_ ?_;refine blk_far ?_ NB693_711.out _;refine pe_ ?_;exact BK693.out) hb);have n16_:=Aside0.mk (blk_below (g:=gb699) (o:=.cells #[.int .i64 t694,.slice Ao351 t695.length co351] 28 (0,0)) (by refine pe_ ?_;refine blk_far ?_ NB699_711.out _;refine pe_ ?_;refine blk_far ?_ NB699_711.out _;refine pe_ ?_;exact BK699.out) hb);have n17_:=Aside0.mk (blk_below (g:=gb705) (o:=.cells #[.int .i64 t700,.slice Ao364 t701.length co364] 28 (0,0)) (by refine pe_ ?_;refine blk_far ?_ NB705_711.out _;refine pe_ ?_;refine blk_far ?_ NB705_711.out _;refine pe_ ?_;exact BK705.out) hb);have n18_:=Aside0.mk (blk_below (g:=gb711) (o:=.cells #[.int .i64 t706,.slice Ao377 t707.length co377] 28 (0,0)) (by refine pe_ ?_;refine blk_put (cs:=#[.int .i64 t706,.slice none 0 0]) ?_ 1 _ rfl;refine pe_ ?_;refine blk_put (cs:=#[.int .i64 0,.slice none 0 0]) ?_ 0 _ rfl;refine pe_ ?_;exact BK711.out) hb);have n19_:=Aside0.mk (below_step (be9_ HB.out GE666.out GE667.out GE673.out GE679.out GE686.out GE693.out GE699.out GE705.out GE711.out) hb);clear HO_667001;clear HO_668001;clear HO_674001;clear HO_680001;clear HO_687001;clear HO691;clear HO697;clear HO703;clear HO709;clear BK666;clear BK667;clear BK673;clear BK679;clear BK686;clear BK693;clear BK699;clear BK705;clear BK711;clear HB;have HO_667001:=n0_;have HO_668001:=n1_;have HO_674001:=n2_;have HO_680001:=n3_;have HO_687001:=n4_;have HO691:=n5_;have HO697:=n6_;have HO703:=n7_;have HO709:=n8_;have HO715:=n9_;have BK666:=n10_;have BK667:=n11_;have BK673:=n12_;have BK679:=n13_;have BK686:=n14_;have BK693:=n15_;have BK699:=n16_;have BK705:=n17_;have BK711:=n18_;have HB:=n19_;clear n0_ n1_ n2_ n3_ n4_ n5_ n6_ n7_ n8_ n9_ n10_ n11_ n12_ n13_ n14_ n15_ n16_ n17_ n18_ n19_;(try clear hb);(try clear hb2);(try clear hk);(try clear hi);(try clear ho0))|((with_reducible refine gate_dst (N:=20) rfl ?_);(try (refine gate_guard (by rfl) ?_;dsimp only));refine box_event ?hg (N:=20) ?hd (cs:=#[.int .i64 0,.slice none 0 0]) (t:=28) ?hr ?_;(case hd => rfl);(case hg => rfl);(case hr => first|(go_simp;done)|(go_simp;rfl));intro gb717 hg w379 hbox hb;have n0_:=Aside0.mk (Kd.V_below (Kd.V_elderB (pv_ HO_667001.out) gb717 (Nat.le_of_eq hg.symm)) hb);have n1_:=Aside0.mk (Kd.R_below (pr_ HO_668001.out) hb);have n2_:=Aside0.mk (Kd.R_below (pr_ HO_674001.out) hb);have n3_:=Aside0.mk (Kd.R_below (pr_ HO_680001.out) hb);have n4_:=Aside0.mk (Kd.V_below (Kd.V_elderB (pv_ HO_687001.out) gb717 (Nat.le_of_eq hg.symm)) hb);have n5_:=Aside0.mk (Kd.R_below (pr_ HO691.out) hb);have n6_:=Aside0.mk (Kd.R_below (pr_ HO697.out) hb);have n7_:=Aside0.mk (Kd.R_below (pr_ HO703.out) hb);have n8_:=Aside0.mk (Kd.R_below (pr_ HO709.out) hb);have n9_:=Aside0.mk (Kd.R_below (pr_ HO715.out) hb);have n10_:=Aside0.mk (blk_below (g:=gb666) (o:=.cells #[.int .i64 t658,.slice Ao16 t659.length co16] 28 (0,0)) (pe_ BK666.out) hb);have n11_:=Aside0.mk (blk_below (g:=gb667) (o:=.cells #[.int .i64 t662,.slice Ao18 t663.length co18] 28 (0,0)) (pe_ BK667.out) hb);have n12_:=Aside0.mk (blk_below (g:=gb673) (o:=.cells #[.int .i64 t668,.slice Ao24 t669.length co24] 28 (0,0)) (pe_ BK673.out) hb);have n13_:=Aside0.mk (blk_below (g:=gb679) (o:=.cells #[.int .i64 t674,.slice Ao33 t675.length co33] 28 (0,0)) (pe_ BK679.out) hb);have n14_:=Aside0.mk (blk_below (g:=gb686) (o:=.cells #[.int .i64 x687000_109,.slice Ao328 x687001_109.length co328] 28 (0,0)) (pe_ BK686.out) hb);have n15_:=Aside0.mk (blk_below (g:=gb693) (o:=.cells #[.int .i64 t688,.slice Ao337 t689.length co337] 28 (0,0)) (pe_ BK693.out) hb);have n16_:=Aside0.mk (blk_below (g:=gb699) (o:=.cells #[.int .i64 t694,.slice Ao351 t695.length co351] 28 (0,0)) (pe_ BK699.out) hb);have n17_:=Aside0.mk (blk_below (g:=gb705) (o:=.cells #[.int .i64 t700,.slice Ao364 t701.length co364] 28 (0,0)) (pe_ BK705.out) hb);have n18_:=Aside0.mk (blk_below (g:=gb711) (o:=.cells #[.int .i64 t706,.slice Ao377 t707.length co377] 28 (0,0)) (pe_ BK711.out) hb);have n19_:=Aside0.mk (below_step (be9_ HB.out GE666.out GE667.out GE673.out GE679.out GE686.out GE693.out GE699.out GE705.out GE711.out) hb);have n20_:=Aside0.mk (hbox);have n21_:=Aside0.mk ((by rw [hg];exact (below_size (be9_ HB.out GE666.out GE667.out GE673.out GE679.out GE686.out GE693.out GE699.out GE705.out GE711.out)) : w.heap.size ≤ gb717));have n22_:=Aside0.mk ((by rw [hg];exact (below_size (be9_ HB.out GE666.out GE667.out GE673.out GE679.out GE686.out GE693.out GE699.out GE705.out GE711.out)) : w.heap.size ≤ gb717));have n23_:=Aside0.mk ((by rw [hg];exact Nat.ne_of_lt (blk_lt (g:=gb666) (o:=.cells #[.int .i64 t658,.slice Ao16 t659.length co16] 28 (0,0)) (pe_ BK666.out)) : gb666 ≠ gb717));have n24_:=Aside0.mk ((by rw [hg];exact Nat.ne_of_gt (blk_lt (g:=gb666) (o:=.cells #[.int .i64 t658,.slice Ao16 t659.length co16] 28 (0,0)) (pe_ BK666.out)) : gb717 ≠ gb666));have n25_:=Aside0.mk ((by rw [hg];exact Nat.ne_of_lt (blk_lt (g:=gb667) (o:=.cells #[.int .i64 t662,.slice Ao18 t663.length co18] 28 (0,0)) (pe_ BK667.out)) : gb667 ≠ gb717));have n26_:=Aside0.mk ((by rw [hg];exact Nat.ne_of_gt (blk_lt (g:=gb667) (o:=.cells #[.int .i64 t662,.slice Ao18 t663.length co18] 28 (0,0)) (pe_ BK667.out)) : gb717 ≠ gb667));have n27_:=Aside0.mk ((by rw [hg];exact Nat.ne_of_lt (blk_lt (g:=gb673) (o:=.cells #[.int .i64 t668,.slice Ao24 t669.length co24] 28 (0,0)) (pe_ BK673.out)) : gb673 ≠ gb717));have n28_:=Aside0.mk ((by rw [hg];exact Nat.ne_of_gt (blk_lt (g:=gb673) (o:=.cells #[.int .i64 t668,.slice Ao24 t669.length co24] 28 (0,0)) (pe_ BK673.out)) : gb717 ≠ gb673));have n29_:=Aside0.mk ((by rw [hg];exact Nat.ne_of_lt (blk_lt (g:=gb679) (o:=.cells #[.int .i64 t674,.slice Ao33 t675.length co33] 28 (0,0)) (pe_ BK679.out)) : gb679 ≠ gb717));have n30_:=Aside0.mk ((by rw [hg];exact Nat.ne_of_gt (blk_lt (g:=gb679) (o:=.cells #[.int .i64 t674,.slice Ao33 t675.length co33] 28 (0,0)) (pe_ BK679.out)) : gb717 ≠ gb679));have n31_:=Aside0.mk ((by rw [hg];exact Nat.ne_of_lt (blk_lt (g:=gb686) (o:=.cells #[.int .i64 x687000_109,.slice Ao328 x687001_109.length co328] 28 (0,0)) (pe_ BK686.out)) : gb686 ≠ gb717));have n32_:=Aside0.mk ((by rw [hg];exact Nat.ne_of_gt (blk_lt (g:=gb686) (o:=.cells #[.int .i64 x687000_109,.slice Ao328 x687001_109.length co328] 28 (0,0)) (pe_ BK686.out)) : gb717 ≠ gb686));have n33_:=Aside0.mk ((by rw [hg];exact Nat.ne_of_lt (blk_lt (g:=gb693) (o:=.cells #[.int .i64 t688,.slice Ao337 t689.length co337] 28 (0,0)) (pe_ BK693.out)) : gb693 ≠ gb717));have n34_:=Aside0.mk ((by rw [hg];exact Nat.ne_of_gt (blk_lt (g:=gb693) (o:=.cells #[.int .i64 t688,.slice Ao337 t689.length co337] 28 (0,0)) (pe_ BK693.out)) : gb717 ≠ gb693));have n35_:=Aside0.mk ((by rw [hg];exact Nat.ne_of_lt (blk_lt (g:=gb699) (o:=.cells #[.int .i64 t694,.slice Ao351 t695.length co351] 28 (0,0)) (pe_ BK699.out)) : gb699 ≠ gb717));have n36_:=Aside0.mk ((by rw [hg];exact Nat.ne_of_gt (blk_lt (g:=gb699) (o:=.cells #[.int .i64 t694,.slice Ao351 t695.length co351] 28 (0,0)) (pe_ BK699.out)) : gb717 ≠ gb699));have n37_:=Aside0.mk ((by rw [hg];exact Nat.ne_of_lt (blk_lt (g:=gb705) (o:=.cells #[.int .i64 t700,.slice Ao364 t701.length co364] 28 (0,0)) (pe_ BK705.out)) : gb705 ≠ gb717));have n38_:=Aside0.mk ((by rw [hg];exact Nat.ne_of_gt (blk_lt (g:=gb705) (o:=.cells #[.int .i64 t700,.slice Ao364 t701.length co364] 28 (0,0)) (pe_ BK705.out)) : gb717 ≠ gb705));have n39_:=Aside0.mk ((by rw [hg];exact Nat.ne_of_lt (blk_lt (g:=gb711) (o:=.cells #[.int .i64 t706,.slice Ao377 t707.length co377] 28 (0,0)) (pe_ BK711.out)) : gb711 ≠ gb717));have n40_:=Aside0.mk ((by rw [hg];exact Nat.ne_of_gt (blk_lt (g:=gb711) (o:=.cells #[.int .i64 t706,.slice Ao377 t707.length co377] 28 (0,0)) (pe_ BK711.out)) : gb717 ≠ gb711));clear HO_667001;clear HO_668001;clear HO_674001;clear HO_680001;clear HO_687001;clear HO691;clear HO697;clear HO703;clear HO709;clear HO715;clear BK666;clear BK667;clear BK673;clear BK679;clear BK686;clear BK693;clear BK699;clear BK705;clear BK711;clear HB;have HO_667001:=n0_;have HO_668001:=n1_;have HO_674001:=n2_;have HO_680001:=n3_;have HO_687001:=n4_;have HO691:=n5_;have HO697:=n6_;have HO703:=n7_;have HO709:=n8_;have HO715:=n9_;have BK666:=n10_;have BK667:=n11_;have BK673:=n12_;have BK679:=n13_;have BK686:=n14_;have BK693:=n15_;have BK699:=n16_;have BK705:=n17_;have BK711:=n18_;have HB:=n19_;have BK717:=n20_;have GW717:=n21_;have GE717:=n22_;have NB666_717:=n23_;have NB717_666:=n24_;have NB667_717:=n25_;have NB717_667:=n26_;have NB673_717:=n27_;have NB717_673:=n28_;have NB679_717:=n29_;have NB717_679:=n30_;have NB686_717:=n31_;have NB717_686:=n32_;have NB693_717:=n33_;have NB717_693:=n34_;have NB699_717:=n35_;have NB717_699:=n36_;have NB705_717:=n37_;have NB717_705:=n38_;have NB711_717:=n39_;have NB717_711:=n40_;clear n0_ n1_ n2_ n3_ n4_ n5_ n6_ n7_ n8_ n9_ n10_ n11_ n12_ n13_ n14_ n15_ n16_ n17_ n18_ n19_ n20_ n21_ n22_ n23_ n24_ n25_ n26_ n27_ n28_ n29_ n30_ n31_ n32_ n33_ n34_ n35_ n36_ n37_ n38_ n39_ n40_;clear hb hbox hg;have hnb380:=NB717_666.out;have hnc380:=NB666_717.out;have hnb381:=NB717_667.out;have hnc381:=NB667_717.out;have hnb382:=NB717_673.out;have hnc382:=NB673_717.out;have hnb383:=NB717_679.out;have hnc383:=NB679_717.out;have hnb384:=NB717_686.out;have hnc384:=NB686_717.out;have hnb385:=NB717_693.out;have hnc385:=NB693_717.out;have hnb386:=NB717_699.out;have hnc386:=NB699_717.out;have hnb387:=NB717_705.out;have hnc387:=NB705_717.out;have hnb388:=NB717_711.out;have hnc388:=NB711_717.out;have hcz389_0 : w379.cell? ⟨gb717,0,none⟩ = some (.int .i64 0):=(blk_cell BK717.out 0).trans rfl;have hcz389_1 : w379.cell? ⟨gb717,1,none⟩ = some (.slice none 0 0):=(blk_cell BK717.out 1).trans rfl;have hfz389_0:=blk_frozen BK717.out 0;have hfz389_1:=blk_frozen BK717.out 1;obtain ⟨Ao390,co390,eo390⟩:=Kd.R_slice HO715.out;subst eo390;have hcz391_0 : w379.cell? ⟨gb666,0,none⟩ = some (.int .i64 t658):=(blk_cell BK666.out 0).trans rfl;have hcz391_1 : w379.cell? ⟨gb666,1,none⟩ = some (.slice Ao16 t659.length co16):=(blk_cell BK666.out 1).trans rfl;have hfz391_0:=blk_frozen BK666.out 0;have hfz391_1:=blk_frozen BK666.out 1)|((with_reducible refine gate_callee (f:=27) rfl ?_);refine goesL_ (some 115) rfl rfl Try.func27 (by kernel_rfl) rfl #[.agg #[.int .i64 t658,.slice Ao16 t659.length co16],.agg #[.int .i64 t712,.slice Ao390 t713.length co390]] rfl lp_ ?_;(with_reducible refine (impl_MulGrades.calls kj109 t658 _ _ t659 t712 _ _ t713 t718 t719 t722 _ ?side1 ?side2 ?side3 ?side4 A126.out).mono ?_);(case side1 => refine (Kd.V_reads' (e:=3) (base:=w.heap.size) (ok:=fun k_ => (((((((((((some k_ ≠ (.slice Ao18 t663.length co18 : Value).ownBlock ∧ (some k_ ≠ (.slice Ao24 t669.length co24 : Value).ownBlock ∧ (some k_ ≠ (.slice Ao33 t675.length co33 : Value).ownBlock ∧ (k_ ≠ gb666 ∧ (k_ ≠ gb667 ∧ (k_ ≠ gb673 ∧ (k_ ≠ gb679 ∧ k_ ≠ gb686))))))) ∧ some k_ ≠ (.slice Ao337 t689.length co337 : Value).ownBlock) ∧ k_ ≠ gb693) ∧ some k_ ≠ (.slice Ao351 t695.length co351 : Value).ownBlock) ∧ k_ ≠ gb699) ∧ some k_ ≠ (.slice Ao364 t701.length co364 : Value).ownBlock) ∧ k_ ≠ gb705) ∧ some k_ ≠ (.slice Ao377 t707.length co377 : Value).ownBlock) ∧ k_ ≠ gb711) ∧ some k_ ≠ (.slice Ao390 t713.length co390 : Value).ownBlock) ∧ k_ ≠ gb717)) (n:=t659.length) (c:=co16) ?_).2.2;exact (by refine pv_ ?_;exact (Kd.V_mono (Kd.V_far (p:=⟨gb717,1,none⟩) (Kd.V_far (p:=⟨gb717,0,none⟩) (Kd.V_mono HO_667001.out (fun k_ hk => (⟨hk,hk.2⟩ : _ ∧ k_ ≠ gb717))) (fun _ hk => hk.2) (.int .i64 t712)) (fun _ hk => hk.2) (.slice Ao390 t713.length co390)) (fun _ h_ => h_.1))));(case side2 => exact (Kd.V_reads' HO_667001.out).2.1);(case side3 => refine (Kd.R_reads' (e:=3) (base:=w.heap.size) (ok:=fun k_ => (((((((True ∧ some k_ ≠ (.slice Ao18 t663.length co18 : Value).ownBlock) ∧ some k_ ≠ (.slice Ao24 t669.length co24 : Value).ownBlock) ∧ some k_ ≠ (.slice Ao33 t675.length co33 : Value).ownBlock) ∧ some k_ ≠ (.slice Ao337 t689.length co337 : Value).ownBlock) ∧ some k_ ≠ (.slice Ao351 t695.length co351 : Value).ownBlock) ∧ some k_ ≠ (.slice Ao364 t701.length co364 : Value).ownBlock) ∧ some k_ ≠ (.slice Ao377 t707.length co377 : Value).ownBlock)) (n:=t713.length) (c:=co390) ?_).2.2;exact (by refine pr_ ?_;exact (Kd.R_mono (Kd.R_far (p:=⟨gb717,1,none⟩) (Kd.R_far (p:=⟨gb717,0,none⟩) (Kd.R_types HO715.out BK717.out (by decide)) (fun _ hk => hk.2) (.int .i64 t712)) (fun _ hk => hk.2) (.slice Ao390 t713.length co390)) (fun _ h_ => h_.1))));(case side4 => exact (Kd.R_reads' HO715.out).2.1);rintro e w392 ⟨v720,rfl,ho0,hb⟩;refine ⟨_,rfl,?_⟩;have n0_:=Aside0.mk (Kd.V_elder' (by refine pv_ ?_;exact (Kd.V_mono (Kd.V_far (p:=⟨gb717,1,none⟩) (Kd.V_far (p:=⟨gb717,0,none⟩) (Kd.V_mono HO_667001.out (fun k_ hk => (⟨hk,hk.2⟩ : _ ∧ k_ ≠ gb717))) (fun _ hk => hk.2) (.int .i64 t712)) (fun _ hk => hk.2) (.slice Ao390 t713.length co390)) (fun _ h_ => h_.1))) (Kd.R_base ho0) hb);have n1_:=Aside0.mk (Kd.R_elder' (by refine pr_ ?_;exact (Kd.R_mono (Kd.R_far (p:=⟨gb717,1,none⟩) (Kd.R_far (p:=⟨gb717,0,none⟩) (Kd.R_types HO_668001.out BK717.out (by decide)) (fun _ hk => hk.2) (.int .i64 t712)) (fun _ hk => hk.2) (.slice Ao390 t713.length co390)) (fun _ h_ => h_.1))) (Kd.R_base ho0) hb);have n2_:=Aside0.mk (Kd.R_elder' (by refine pr_ ?_;exact (Kd.R_mono (Kd.R_far (p:=⟨gb717,1,none⟩) (Kd.R_far (p:=⟨gb717,0,none⟩) (Kd.R_types HO_674001.out BK717.out (by decide)) (fun _ hk => hk.2) (.int .i64 t712)) (fun _ hk => hk.2) (.slice Ao390 t713.length co390)) (fun _ h_ => h_.1))) (Kd.R_base ho0) hb);have n3_:=Aside0.mk (Kd.R_elder' (by refine pr_ ?_;exact (Kd.R_mono (Kd.R_far (p:=⟨gb717,1,none⟩) (Kd.R_far (p:=⟨gb717,0,none⟩) (Kd.R_types HO_680001.out BK717.out (by decide)) (fun _ hk => hk.2) (.int .i64 t712)) (fun _ hk => hk.2) (.slice Ao390 t713.length co390)) (fun _ h_ => h_.1))) (Kd.R_base ho0) hb);have n4_:=Aside0.mk (Kd.V_elder' (by refine pv_ ?_;exact (Kd.V_mono (Kd.V_far (p:=⟨gb717,1,none⟩) (Kd.V_far (p:=⟨gb717,0,none⟩) (Kd.V_mono HO_687001.out (fun k_ hk => (⟨hk,hk.2⟩ : _ ∧ k_ ≠ gb717))) (fun _ hk => hk.2) (.int .i64 t712)) (fun _ hk => hk.2) (.slice Ao390 t713.length co390)) (fun _ h_ => h_.1))) (Kd.R_base ho0) hb);have n5_:=Aside0.mk (Kd.R_elder' (by refine pr_ ?_;exact (Kd.R_mono (Kd.R_far (p:=⟨gb717,1,none⟩) (Kd.R_far (p:=⟨gb717,0,none⟩) (Kd.R_types HO691.out BK717.out (by decide)) (fun _ hk => hk.2) (.int .i64 t712)) (fun _ hk => hk.2) (.slice Ao390 t713.length co390)) (fun _ h_ => h_.1))) (Kd.R_base ho0) hb);have n6_:=Aside0.mk (Kd.R_elder' (by refine pr_ ?_;exact (Kd.R_mono (Kd.R_far (p:=⟨gb717,1,none⟩) (Kd.R_far (p:=⟨gb717,0,none⟩) (Kd.R_types HO697.out BK717.out (by decide)) (fun _ hk => hk.2) (.int .i64 t712)) (fun _ hk => hk.2) (.slice Ao390 t713.length co390)) (fun _ h_ => h_.1))) (Kd.R_base ho0) hb);have n7_:=Aside0.mk (Kd.R_elder' (by refine pr_ ?_;exact (Kd.R_mono (Kd.R_far (p:=⟨gb717,1,none⟩) (Kd.R_far (p:=⟨gb717,0,none⟩) (Kd.R_types HO703.out BK717.out (by decide)) (fun _ hk => hk.2) (.int .i64 t712)) (fun _ hk => hk.2) (.slice Ao390 t713.length co390)) (fun _ h_ => h_.1))) (Kd.R_base ho0) hb);have n8_:=Aside0.mk (Kd.R_elder' (by refine pr_ ?_;exact (Kd.R_mono (Kd.R_far (p:=⟨gb717,1,none⟩) (Kd.R_far (p:=⟨gb717,0,none⟩) (Kd.R_types HO709.out BK717.out (by decide)) (fun _ hk => hk.2) (.int .i64 t712)) (fun _ hk => hk.2) (.slice Ao390 t713.length co390)) (fun _ h_ => h_.1))) (Kd.R_base ho0) hb);have n9_:=Aside0.mk (Kd.R_elder' (by refine pr_ ?_;exact (Kd.R_mono (Kd.R_far (p:=⟨gb717,1,none⟩) (Kd.R_far (p:=⟨gb717,0,none⟩) (Kd.R_types HO715.out BK717.out (by decide)) (fun _ hk => hk.2) (.int .i64 t712)) (fun _ hk => hk.2) (.slice Ao390 t713.length co390)) (fun _ h_ => h_.1))) (Kd.R_base ho0) hb);have n10_:=Aside0.mk (Kd.R_lower (Kd.R_new' (Kd.R_new' (Kd.R_new' (Kd.R_new' (Kd.R_new' (Kd.R_new' (Kd.R_new' (Kd.R_new' ho0 (Kd.R_lt (by refine pr_ ?_;exact (Kd.R_mono (Kd.R_far (p:=⟨gb717,1,none⟩) (Kd.R_far (p:=⟨gb717,0,none⟩) (Kd.R_types HO_668001.out BK717.out (by decide)) (fun _ hk => hk.2) (.int .i64 t712)) (fun _ hk => hk.2) (.slice Ao390 t713.length co390)) (fun _ h_ => h_.1))))) (Kd.R_lt (by refine pr_ ?_;exact (Kd.R_mono (Kd.R_far (p:=⟨gb717,1,none⟩) (Kd.R_far (p:=⟨gb717,0,none⟩) (Kd.R_types HO_674001.out BK717.out (by decide)) (fun _ hk => hk.2) (.int .i64 t712)) (fun _ hk => hk.2) (.slice Ao390 t713.length co390)) (fun _ h_ => h_.1))))) (Kd.R_lt (by refine pr_ ?_;exact (Kd.R_mono (Kd.R_far (p:=⟨gb717,1,none⟩) (Kd.R_far (p:=⟨gb717,0,none⟩) (Kd.R_types HO_680001.out BK717.out (by decide)) (fun _ hk => hk.2) (.int .i64 t712)) (fun _ hk => hk.2) (.slice Ao390 t713.length co390)) (fun _ h_ => h_.1))))) (Kd.R_lt (by refine pr_ ?_;exact (Kd.R_mono (Kd.R_far (p:=⟨gb717,1,none⟩) (Kd.R_far (p:=⟨gb717,0,none⟩) (Kd.R_types HO691.out BK717.out (by decide)) (fun _ hk => hk.2) (.int .i64 t712)) (fun _ hk => hk.2) (.slice Ao390 t713.length co390)) (fun _ h_ => h_.1))))) (Kd.R_lt (by refine pr_ ?_;exact (Kd.R_mono (Kd.R_far (p:=⟨gb717,1,none⟩) (Kd.R_far (p:=⟨gb717,0,none⟩) (Kd.R_types HO697.out BK717.out (by decide)) (fun _ hk => hk.2) (.int .i64 t712)) (fun _ hk => hk.2) (.slice Ao390 t713.length co390)) (fun _ h_ => h_.1))))) (Kd.R_lt (by refine pr_ ?_;exact (Kd.R_mono (Kd.R_far (p:=⟨gb717,1,none⟩) (Kd.R_far (p:=⟨gb717,0,none⟩) (Kd.R_types HO703.out BK717.out (by decide)) (fun _ hk => hk.2) (.int .i64 t712)) (fun _ hk => hk.2) (.slice Ao390 t713.length co390)) (fun _ h_ => h_.1))))) (Kd.R_lt (by refine pr_ ?_;exact (Kd.R_mono (Kd.R_far (p:=⟨gb717,1,none⟩) (Kd.R_far (p:=⟨gb717,0,none⟩) (Kd.R_types HO709.out BK717.out (by decide)) (fun _ hk => hk.2) (.int .i64 t712)) (fun _ hk => hk.2) (.slice Ao390 t713.length co390)) (fun _ h_ => h_.1))))) (Kd.R_lt (by refine pr_ ?_;exact (Kd.R_mono (Kd.R_far (p:=⟨gb717,1,none⟩) (Kd.R_far (p:=⟨gb717,0,none⟩) (Kd.R_types HO715.out BK717.out (by decide)) (fun _ hk => hk.2) (.int .i64 t712)) (fun _ hk => hk.2) (.slice Ao390 t713.length co390)) (fun _ h_ => h_.1))))) (below_size (be10_ HB.out GE666.out GE667.out GE673.out GE679.out GE686.out GE693.out GE699.out GE705.out GE711.out GE717.out)));have n11_:=Aside0.mk (blk_below (g:=gb666) (o:=.cells #[.int .i64 t658,.slice Ao16 t659.length co16] 28 (0,0)) (by refine pe_ ?_;refine blk_far ?_ NB666_717.out _;refine pe_ ?_;refine blk_far ?_ NB666_717.out _;refine pe_ ?_;exact BK666.out) hb);have n12_:=Aside0.mk (blk_below (g:=gb667) (o:=.cells #[.int .i64 t662,.slice Ao18 t663.length co18] 28 (0,0)) (by refine pe_ ?_;refine blk_far ?_ NB667_717.out _;refine pe_ ?_;refine blk_far ?_ NB667_717.out _;refine pe_ ?_;exact BK667.out) hb);have n13_:=Aside0.mk (blk_below (g:=gb673) (o:=.cells #[.int .i64 t668,.slice Ao24 t669.length co24] 28 (0,0)) (by refine pe_ ?_;refine blk_far ?_ NB673_717.out _;refine pe_ ?_;refine blk_far ?_ NB673_717.out _;refine pe_ ?_;exact BK673.out) hb);have n14_:=Aside0.mk (blk_below (g:=gb679) (o:=.cells #[.int .i64 t674,.slice Ao33 t675.length co33] 28 (0,0)) (by refine pe_ ?_;refine blk_far ?_ NB679_717.out _;refine pe_ ?_;refine blk_far ?_ NB679_717.out _;refine pe_ ?_;exact BK679.out) hb);have n15_:=Aside0.mk (blk_below (g:=gb686) (o:=.cells #[.int .i64 x687000_109,.slice Ao328 x687001_109.length co328] 28 (0,0)) (by refine pe_ ?_;refine blk_far ?_ NB686_717.out _;refine pe_ ?_;refine blk_far ?_ NB686_717.out _;refine pe_ ?_;exact BK686.out) hb);have n16_:=Aside0.mk (blk_below (g:=gb693) (o:=.cells #[.int .i64 t688,.slice Ao337 t689.length co337] 28 (0,0)) (by refine pe_ ?_;refine blk_far ?_ NB693_717.out _;refine pe_ ?_;refine blk_far ?_ NB693_717.out _;refine pe_ ?_;exact BK693.out) hb);have n17_:=Aside0.mk (blk_below (g:=gb699) (o:=.cells #[.int .i64 t694,.slice Ao351 t695.length co351] 28 (0,0)) (by refine pe_ ?_;refine blk_far ?_ NB699_717.out _;refine pe_ ?_;refine blk_far ?_ NB699_717.out _;refine pe_ ?_;exact BK699.out) hb);have n18_:=Aside0.mk (blk_below (g:=gb705) (o:=.cells #[.int .i64 t700,.slice Ao364 t701.length co364] 28 (0,0)) (by refine pe_ ?_;refine blk_far ?_ NB705_717.out _;refine pe_ ?_;refine blk_far ?_ NB705_717.out _;refine pe_ ?_;exact BK705.out) hb);have n19_:=Aside0.mk (blk_below (g:=gb711) (o:=.cells #[.int .i64 t706,.slice Ao377 t707.length co377] 28 (0,0)) (by refine pe_ ?_;refine blk_far ?_ NB711_717.out _;refine pe_ ?_;refine blk_far ?_ NB711_717.out _;refine pe_ ?_;exact BK711.out) hb);have n20_:=Aside0.mk (blk_below (g:=gb717) (o:=.cells #[.int .i64 t712,.slice Ao390 t713.length co390] 28 (0,0)) (by refine pe_ ?_;refine blk_put (cs:=#[.int .i64 t712,.slice none 0 0]) ?_ 1 _ rfl;refine pe_ ?_;refine blk_put (cs:=#[.int .i64 0,.slice none 0 0]) ?_ 0 _ rfl;refine pe_ ?_;exact BK717.out) hb);have n21_:=Aside0.mk (below_step (be10_ HB.out GE666.out GE667.out GE673.out GE679.out GE686.out GE693.out GE699.out GE705.out GE711.out GE717.out) hb);clear HO_667001;clear HO_668001;clear HO_674001;clear HO_680001;clear HO_687001;clear HO691;clear HO697;clear HO703;clear HO709;clear HO715;clear BK666;clear BK667;clear BK673;clear BK679;clear BK686;clear BK693;clear BK699;clear BK705;clear BK711;clear BK717;clear HB;have HO_667001:=n0_;have HO_668001:=n1_;have HO_674001:=n2_;have HO_680001:=n3_;have HO_687001:=n4_;have HO691:=n5_;have HO697:=n6_;have HO703:=n7_;have HO709:=n8_;have HO715:=n9_;have HO721:=n10_;have BK666:=n11_;have BK667:=n12_;have BK673:=n13_;have BK679:=n14_;have BK686:=n15_;have BK693:=n16_;have BK699:=n17_;have BK705:=n18_;have BK711:=n19_;have BK717:=n20_;have HB:=n21_;clear n0_ n1_ n2_ n3_ n4_ n5_ n6_ n7_ n8_ n9_ n10_ n11_ n12_ n13_ n14_ n15_ n16_ n17_ n18_ n19_ n20_ n21_;(try clear hb);(try clear hb2);(try clear hk);(try clear hi);(try clear ho0))|((with_reducible refine gate_dst (N:=22) rfl ?_);(try (refine gate_guard (by rfl) ?_;dsimp only));refine box_event ?hg (N:=22) ?hd (cs:=#[.int .i64 0,.slice none 0 0]) (t:=28) ?hr ?_;(case hd => rfl);(case hg => rfl);(case hr => first|(go_simp;done)|(go_simp;rfl));intro gb723 hg w393 hbox hb;have n0_:=Aside0.mk (Kd.V_below (Kd.V_elderB (pv_ HO_667001.out) gb723 (Nat.le_of_eq hg.symm)) hb);have n1_:=Aside0.mk (Kd.R_below (pr_ HO_668001.out) hb);have n2_:=Aside0.mk (Kd.R_below (pr_ HO_674001.out) hb);have n3_:=Aside0.mk (Kd.R_below (pr_ HO_680001.out) hb);have n4_:=Aside0.mk (Kd.V_below (Kd.V_elderB (pv_ HO_687001.out) gb723 (Nat.le_of_eq hg.symm)) hb);have n5_:=Aside0.mk (Kd.R_below (pr_ HO691.out) hb);have n6_:=Aside0.mk (Kd.R_below (pr_ HO697.out) hb);have n7_:=Aside0.mk (Kd.R_below (pr_ HO703.out) hb);have n8_:=Aside0.mk (Kd.R_below (pr_ HO709.out) hb);have n9_:=Aside0.mk (Kd.R_below (pr_ HO715.out) hb);have n10_:=Aside0.mk (Kd.R_below (pr_ HO721.out) hb);have n11_:=Aside0.mk (blk_below (g:=gb666) (o:=.cells #[.int .i64 t658,.slice Ao16 t659.length co16] 28 (0,0)) (pe_ BK666.out) hb);have n12_:=Aside0.mk (blk_below (g:=gb667) (o:=.cells #[.int .i64 t662,.slice Ao18 t663.length co18] 28 (0,0)) (pe_ BK667.out) hb);have n13_:=Aside0.mk (blk_below (g:=gb673) (o:=.cells #[.int .i64 t668,.slice Ao24 t669.length co24] 28 (0,0)) (pe_ BK673.out) hb);have n14_:=Aside0.mk (blk_below (g:=gb679) (o:=.cells #[.int .i64 t674,.slice Ao33 t675.length co33] 28 (0,0)) (pe_ BK679.out) hb);have n15_:=Aside0.mk (blk_below (g:=gb686) (o:=.cells #[.int .i64 x687000_109,.slice Ao328 x687001_109.length co328] 28 (0,0)) (pe_ BK686.out) hb);have n16_:=Aside0.mk (blk_below (g:=gb693) (o:=.cells #[.int .i64 t688,.slice Ao337 t689.length co337] 28 (0,0)) (pe_ BK693.out) hb);have n17_:=Aside0.mk (blk_below (g:=gb699) (o:=.cells #[.int .i64 t694,.slice Ao351 t695.length co351] 28 (0,0)) (pe_ BK699.out) hb);have n18_:=Aside0.mk (blk_below (g:=gb705) (o:=.cells #[.int .i64 t700,.slice Ao364 t701.length co364] 28 (0,0)) (pe_ BK705.out) hb);have n19_:=Aside0.mk (blk_below (g:=gb711) (o:=.cells #[.int .i64 t706,.slice Ao377 t707.length co377] 28 (0,0)) (pe_ BK711.out) hb);have n20_:=Aside0.mk (blk_below (g:=gb717) (o:=.cells #[.int .i64 t712,.slice Ao390 t713.length co390] 28 (0,0)) (pe_ BK717.out) hb);have n21_:=Aside0.mk (below_step (be10_ HB.out GE666.out GE667.out GE673.out GE679.out GE686.out GE693.out GE699.out GE705.out GE711.out GE717.out) hb);have n22_:=Aside0.mk (hbox);have n23_:=Aside0.mk ((by rw [hg];exact (below_size (be10_ HB.out GE666.out GE667.out GE673.out GE679.out GE686.out GE693.out GE699.out GE705.out GE711.out GE717.out)) : w.heap.size ≤ gb723));have n24_:=Aside0.mk ((by rw [hg];exact (below_size (be10_ HB.out GE666.out GE667.out GE673.out GE679.out GE686.out GE693.out GE699.out GE705.out GE711.out GE717.out)) : w.heap.size ≤ gb723));have n25_:=Aside0.mk ((by rw [hg];exact Nat.ne_of_lt (blk_lt (g:=gb666) (o:=.cells #[.int .i64 t658,.slice Ao16 t659.length co16] 28 (0,0)) (pe_ BK666.out)) : gb666 ≠ gb723));have n26_:=Aside0.mk ((by rw [hg];exact Nat.ne_of_gt (blk_lt (g:=gb666) (o:=.cells #[.int .i64 t658,.slice Ao16 t659.length co16] 28 (0,0)) (pe_ BK666.out)) : gb723 ≠ gb666));have n27_:=Aside0.mk ((by rw [hg];exact Nat.ne_of_lt (blk_lt (g:=gb667) (o:=.cells #[.int .i64 t662,.slice Ao18 t663.length co18] 28 (0,0)) (pe_ BK667.out)) : gb667 ≠ gb723));have n28_:=Aside0.mk ((by rw [hg];exact Nat.ne_of_gt (blk_lt (g:=gb667) (o:=.cells #[.int .i64 t662,.slice Ao18 t663.length co18] 28 (0,0)) (pe_ BK667.out)) : gb723 ≠ gb667));have n29_:=Aside0.mk ((by rw [hg];exact Nat.ne_of_lt (blk_lt (g:=gb673) (o:=.cells #[.int .i64 t668,.slice Ao24 t669.length co24] 28 (0,0)) (pe_ BK673.out)) : gb673 ≠ gb723));have n30_:=Aside0.mk ((by rw [hg];exact Nat.ne_of_gt (blk_lt (g:=gb673) (o:=.cells #[.int .i64 t668,.slice Ao24 t669.length co24] 28 (0,0)) (pe_ BK673.out)) : gb723 ≠ gb673));have n31_:=Aside0.mk ((by rw [hg];exact Nat.ne_of_lt (blk_lt (g:=gb679) (o:=.cells #[.int .i64 t674,.slice Ao33 t675.length co33] 28 (0,0)) (pe_ BK679.out)) : gb679 ≠ gb723));have n32_:=Aside0.mk ((by rw [hg];exact Nat.ne_of_gt (blk_lt (g:=gb679) (o:=.cells #[.int .i64 t674,.slice Ao33 t675.length co33] 28 (0,0)) (pe_ BK679.out)) : gb723 ≠ gb679));have n33_:=Aside0.mk ((by rw [hg];exact Nat.ne_of_lt (blk_lt (g:=gb686) (o:=.cells #[.int .i64 x687000_109,.slice Ao328 x687001_109.length co328] 28 (0,0)) (pe_ BK686.out)) : gb686 ≠ gb723));have n34_:=Aside0.mk ((by rw [hg];exact Nat.ne_of_gt (blk_lt (g:=gb686) (o:=.cells #[.int .i64 x687000_109,.slice Ao328 x687001_109.length co328] 28 (0,0)) (pe_ BK686.out)) : gb723 ≠ gb686));have n35_:=Aside0.mk ((by rw [hg];exact Nat.ne_of_lt (blk_lt (g:=gb693) (o:=.cells #[.int .i64 t688,.slice Ao337 t689.length co337] 28 (0,0)) (pe_ BK693.out)) : gb693 ≠ gb723));have n36_:=Aside0.mk ((by rw [hg];exact Nat.ne_of_gt (blk_lt (g:=gb693) (o:=.cells #[.int .i64 t688,.slice Ao337 t689.length co337] 28 (0,0)) (pe_ BK693.out)) : gb723 ≠ gb693));have n37_:=Aside0.mk ((by rw [hg];exact Nat.ne_of_lt (blk_lt (g:=gb699) (o:=.cells #[.int .i64 t694,.slice Ao351 t695.length co351] 28 (0,0)) (pe_ BK699.out)) : gb699 ≠ gb723));have n38_:=Aside0.mk ((by rw [hg];exact Nat.ne_of_gt (blk_lt (g:=gb699) (o:=.cells #[.int .i64 t694,.slice Ao351 t695.length co351] 28 (0,0)) (pe_ BK699.out)) : gb723 ≠ gb699));have n39_:=Aside0.mk ((by rw [hg];exact Nat.ne_of_lt (blk_lt (g:=gb705) (o:=.cells #[.int .i64 t700,.slice Ao364 t701.length co364] 28 (0,0)) (pe_ BK705.out)) : gb705 ≠ gb723));have n40_:=Aside0.mk ((by rw [hg];exact Nat.ne_of_gt (blk_lt (g:=gb705) (o:=.cells #[.int .i64 t700,.slice Ao364 t701.length co364] 28 (0,0)) (pe_ BK705.out)) : gb723 ≠ gb705));have n41_:=Aside0.mk ((by rw [hg];exact Nat.ne_of_lt (blk_lt (g:=gb711) (o:=.cells #[.int .i64 t706,.slice Ao377 t707.length co377] 28 (0,0)) (pe_ BK711.out)) : gb711 ≠ gb723));have n42_:=Aside0.mk ((by rw [hg];exact Nat.ne_of_gt (blk_lt (g:=gb711) (o:=.cells #[.int .i64 t706,.slice Ao377 t707.length co377] 28 (0,0)) (pe_ BK711.out)) : gb723 ≠ gb711));have n43_:=Aside0.mk ((by rw [hg];exact Nat.ne_of_lt (blk_lt (g:=gb717) (o:=.cells #[.int .i64 t712,.slice Ao390 t713.length co390] 28 (0,0)) (pe_ BK717.out)) : gb717 ≠ gb723));have n44_:=Aside0.mk ((by rw [hg];exact Nat.ne_of_gt (blk_lt (g:=gb717) (o:=.cells #[.int .i64 t712,.slice Ao390 t713.length co390] 28 (0,0)) (pe_ BK717.out)) : gb723 ≠ gb717));clear HO_667001;clear HO_668001;clear HO_674001;clear HO_680001;clear HO_687001;clear HO691;clear HO697;clear HO703;clear HO709;clear HO715;clear HO721;clear BK666;clear BK667;clear BK673;clear BK679;clear BK686;clear BK693;clear BK699;clear BK705;clear BK711;clear BK717;clear HB;have HO_667001:=n0_;have HO_668001:=n1_;have HO_674001:=n2_;have HO_680001:=n3_;have HO_687001:=n4_;have HO691:=n5_;have HO697:=n6_;have HO703:=n7_;have HO709:=n8_;have HO715:=n9_;have HO721:=n10_;have BK666:=n11_;have BK667:=n12_;have BK673:=n13_;have BK679:=n14_;have BK686:=n15_;have BK693:=n16_;have BK699:=n17_;have BK705:=n18_;have BK711:=n19_;have BK717:=n20_;have HB:=n21_;have BK723:=n22_;have GW723:=n23_;have GE723:=n24_;have NB666_723:=n25_;have NB723_666:=n26_;have NB667_723:=n27_;have NB723_667:=n28_;have NB673_723:=n29_;have NB723_673:=n30_;have NB679_723:=n31_;have NB723_679:=n32_;have NB686_723:=n33_;have NB723_686:=n34_;have NB693_723:=n35_;have NB723_693:=n36_;have NB699_723:=n37_;have NB723_699:=n38_;have NB705_723:=n39_;have NB723_705:=n40_;have NB711_723:=n41_;have NB723_711:=n42_;have NB717_723:=n43_;have NB723_717:=n44_;clear n0_ n1_ n2_ n3_ n4_ n5_ n6_ n7_ n8_ n9_ n10_ n11_ n12_ n13_ n14_ n15_ n16_ n17_ n18_ n19_ n20_ n21_ n22_ n23_ n24_ n25_ n26_ n27_ n28_ n29_ n30_ n31_ n32_ n33_ n34_ n35_ n36_ n37_ n38_ n39_ n40_ n41_ n42_ n43_ n44_;clear hb hbox hg;have hnb394:=NB723_666.out;have hnc394:=NB666_723.out;have hnb395:=NB723_667.out;have hnc395:=NB667_723.out;have hnb396:=NB723_673.out;have hnc396:=NB673_723.out;have hnb397:=NB723_679.out;have hnc397:=NB679_723.out;have hnb398:=NB723_686.out;have hnc398:=NB686_723.out;have hnb399:=NB723_693.out;have hnc399:=NB693_723.out;have hnb400:=NB723_699.out;have hnc400:=NB699_723.out;have hnb401:=NB723_705.out;have hnc401:=NB705_723.out;have hnb402:=NB723_711.out;have hnc402:=NB711_723.out;have hnb403:=NB723_717.out;have hnc403:=NB717_723.out;have hcz404_0 : w393.cell? ⟨gb723,0,none⟩ = some (.int .i64 0):=(blk_cell BK723.out 0).trans rfl;have hcz404_1 : w393.cell? ⟨gb723,1,none⟩ = some (.slice none 0 0):=(blk_cell BK723.out 1).trans rfl;have hfz404_0:=blk_frozen BK723.out 0;have hfz404_1:=blk_frozen BK723.out 1;obtain ⟨Ao405,co405,eo405⟩:=Kd.R_slice HO721.out;subst eo405;have hcz406_0 : w393.cell? ⟨gb673,0,none⟩ = some (.int .i64 t668):=(blk_cell BK673.out 0).trans rfl;have hcz406_1 : w393.cell? ⟨gb673,1,none⟩ = some (.slice Ao24 t669.length co24):=(blk_cell BK673.out 1).trans rfl;have hfz406_0:=blk_frozen BK673.out 0;have hfz406_1:=blk_frozen BK673.out 1))
  have H:=HH_.out
  clear HH_
  by_cases c128 : t724 = true
  ·subst c128
   have H1 : ((laws_daMatrix.f kj109 t688 t689 t700 t701).bind fun t725 => (if t725 = true then ((laws_daMatrix.f kj109 t718 t719 t658 t659).bind fun t726 => (some t726)) else (some false))) = some r:=by rw [if_pos rfl] at H;exact H
   clear H
   have H:=H1
   clear H1
   replace H:=Option.bind_eq_some_iff.mp H
   obtain ⟨t725,A1290,H⟩:=H
   replace H : (if t725 = true then ((laws_daMatrix.f kj109 t718 t719 t658 t659).bind fun t726 => (some t726)) else (some false)) = some r:=H
   have A129:=Aside0.mk A1290
   clear A1290
   by_cases c130 : t725 = true
   ·subst c130
    have H1 : ((laws_daMatrix.f kj109 t718 t719 t658 t659).bind fun t726 => (some t726)) = some r:=by rw [if_pos rfl] at H;exact H
    clear H
    have H:=H1
    clear H1
    replace H:=Option.bind_eq_some_iff.mp H
    obtain ⟨t726,A1310,H⟩:=H
    replace H : (some t726) = some r:=H
    have A131:=Aside0.mk A1310
    clear A1310
    obtain rfl:=Option.some.inj H
    go_wp2_with (first|((with_reducible refine gate_callee (f:=36) rfl ?_);refine goesL_ (some 119) rfl rfl Try.func36 (by kernel_rfl) rfl #[.agg #[.int .i64 t668,.slice Ao24 t669.length co24]] rfl lp_ ?_;(with_reducible refine (impl_GradesValid.calls kj109 t668 _ _ t669 true _ ?side1 ?side2 A127.out).mono ?_);(case side1 => refine (Kd.R_reads' (e:=3) (base:=w.heap.size) (ok:=fun k_ => (((((((some k_ ≠ (.slice Ao18 t663.length co18 : Value).ownBlock ∧ some k_ ≠ (.slice Ao33 t675.length co33 : Value).ownBlock) ∧ some k_ ≠ (.slice Ao337 t689.length co337 : Value).ownBlock) ∧ some k_ ≠ (.slice Ao351 t695.length co351 : Value).ownBlock) ∧ some k_ ≠ (.slice Ao364 t701.length co364 : Value).ownBlock) ∧ some k_ ≠ (.slice Ao377 t707.length co377 : Value).ownBlock) ∧ some k_ ≠ (.slice Ao390 t713.length co390 : Value).ownBlock) ∧ some k_ ≠ (.slice Ao405 t719.length co405 : Value).ownBlock)) (n:=t669.length) (c:=co24) ?_).2.2;exact (by refine pr_ ?_;exact (Kd.R_mono (Kd.R_far (p:=⟨gb723,1,none⟩) (Kd.R_far (p:=⟨gb723,0,none⟩) (Kd.R_types HO_674001.out BK723.out (by decide)) (fun _ hk => hk.2) (.int .i64 t718)) (fun _ hk => hk.2) (.slice Ao405 t719.length co405)) (fun _ h_ => h_.1))));(case side2 => exact (Kd.R_reads' HO_674001.out).2.1);rintro e w220 ⟨rfl,hb⟩;refine ⟨_,rfl,?_⟩;have n0_:=Aside0.mk (Kd.V_below (by refine pv_ ?_;exact (Kd.V_mono (Kd.V_far (p:=⟨gb723,1,none⟩) (Kd.V_far (p:=⟨gb723,0,none⟩) (Kd.V_mono HO_667001.out (fun k_ hk => (⟨hk,hk.2⟩ : _ ∧ k_ ≠ gb723))) (fun _ hk => hk.2) (.int .i64 t718)) (fun _ hk => hk.2) (.slice Ao405 t719.length co405)) (fun _ h_ => h_.1))) hb);have n1_:=Aside0.mk (Kd.R_below (by refine pr_ ?_;exact (Kd.R_mono (Kd.R_far (p:=⟨gb723,1,none⟩) (Kd.R_far (p:=⟨gb723,0,none⟩) (Kd.R_types HO_668001.out BK723.out (by decide)) (fun _ hk => hk.2) (.int .i64 t718)) (fun _ hk => hk.2) (.slice Ao405 t719.length co405)) (fun _ h_ => h_.1))) hb);have n2_:=Aside0.mk (Kd.R_below (by refine pr_ ?_;exact (Kd.R_mono (Kd.R_far (p:=⟨gb723,1,none⟩) (Kd.R_far (p:=⟨gb723,0,none⟩) (Kd.R_types HO_674001.out BK723.out (by decide)) (fun _ hk => hk.2) (.int .i64 t718)) (fun _ hk => hk.2) (.slice Ao405 t719.length co405)) (fun _ h_ => h_.1))) hb);have n3_:=Aside0.mk (Kd.R_below (by refine pr_ ?_;exact (Kd.R_mono (Kd.R_far (p:=⟨gb723,1,none⟩) (Kd.R_far (p:=⟨gb723,0,none⟩) (Kd.R_types HO_680001.out BK723.out (by decide)) (fun _ hk => hk.2) (.int .i64 t718)) (fun _ hk => hk.2) (.slice Ao405 t719.length co405)) (fun _ h_ => h_.1))) hb);have n4_:=Aside0.mk (Kd.V_below (by refine pv_ ?_;exact (Kd.V_mono (Kd.V_far (p:=⟨gb723,1,none⟩) (Kd.V_far (p:=⟨gb723,0,none⟩) (Kd.V_mono HO_687001.out (fun k_ hk => (⟨hk,hk.2⟩ : _ ∧ k_ ≠ gb723))) (fun _ hk => hk.2) (.int .i64 t718)) (fun _ hk => hk.2) (.slice Ao405 t719.length co405)) (fun _ h_ => h_.1))) hb);have n5_:=Aside0.mk (Kd.R_below (by refine pr_ ?_;exact (Kd.R_mono (Kd.R_far (p:=⟨gb723,1,none⟩) (Kd.R_far (p:=⟨gb723,0,none⟩) (Kd.R_types HO691.out BK723.out (by decide)) (fun _ hk => hk.2) (.int .i64 t718)) (fun _ hk => hk.2) (.slice Ao405 t719.length co405)) (fun _ h_ => h_.1))) hb);have n6_:=Aside0.mk (Kd.R_below (by refine pr_ ?_;exact (Kd.R_mono (Kd.R_far (p:=⟨gb723,1,none⟩) (Kd.R_far (p:=⟨gb723,0,none⟩) (Kd.R_types HO697.out BK723.out (by decide)) (fun _ hk => hk.2) (.int .i64 t718)) (fun _ hk => hk.2) (.slice Ao405 t719.length co405)) (fun _ h_ => h_.1))) hb);have n7_:=Aside0.mk (Kd.R_below (by refine pr_ ?_;exact (Kd.R_mono (Kd.R_far (p:=⟨gb723,1,none⟩) (Kd.R_far (p:=⟨gb723,0,none⟩) (Kd.R_types HO703.out BK723.out (by decide)) (fun _ hk => hk.2) (.int .i64 t718)) (fun _ hk => hk.2) (.slice Ao405 t719.length co405)) (fun _ h_ => h_.1))) hb);have n8_:=Aside0.mk (Kd.R_below (by refine pr_ ?_;exact (Kd.R_mono (Kd.R_far (p:=⟨gb723,1,none⟩) (Kd.R_far (p:=⟨gb723,0,none⟩) (Kd.R_types HO709.out BK723.out (by decide)) (fun _ hk => hk.2) (.int .i64 t718)) (fun _ hk => hk.2) (.slice Ao405 t719.length co405)) (fun _ h_ => h_.1))) hb);have n9_:=Aside0.mk (Kd.R_below (by refine pr_ ?_;exact (Kd.R_mono (Kd.R_far (p:=⟨gb723,1,none⟩) (Kd.R_far (p:=⟨gb723,0,none⟩) (Kd.R_types HO715.out BK723.out (by decide)) (fun _ hk => hk.2) (.int .i64 t718)) (fun _ hk => hk.2) (.slice Ao405 t719.length co405)) (fun _ h_ => h_.1))) hb);have n10_:=Aside0.mk (Kd.R_below (by refine pr_ ?_;exact (Kd.R_mono (Kd.R_far (p:=⟨gb723,1,none⟩) (Kd.R_far (p:=⟨gb723,0,none⟩) (Kd.R_types HO721.out BK723.out (by decide)) (fun _ hk => hk.2) (.int .i64 t718)) (fun _ hk => hk.2) (.slice Ao405 t719.length co405)) (fun _ h_ => h_.1))) hb);have n11_:=Aside0.mk (blk_below (g:=gb666) (o:=.cells #[.int .i64 t658,.slice Ao16 t659.length co16] 28 (0,0)) (by refine pe_ ?_;refine blk_far ?_ NB666_723.out _;refine pe_ ?_;refine blk_far ?_ NB666_723.out _;refine pe_ ?_;exact BK666.out) hb);have n12_:=Aside0.mk (blk_below (g:=gb667) (o:=.cells #[.int .i64 t662,.slice Ao18 t663.length co18] 28 (0,0)) (by refine pe_ ?_;refine blk_far ?_ NB667_723.out _;refine pe_ ?_;refine blk_far ?_ NB667_723.out _;refine pe_ ?_;exact BK667.out) hb);have n13_:=Aside0.mk (blk_below (g:=gb673) (o:=.cells #[.int .i64 t668,.slice Ao24 t669.length co24] 28 (0,0)) (by refine pe_ ?_;refine blk_far ?_ NB673_723.out _;refine pe_ ?_;refine blk_far ?_ NB673_723.out _;refine pe_ ?_;exact BK673.out) hb);have n14_:=Aside0.mk (blk_below (g:=gb679) (o:=.cells #[.int .i64 t674,.slice Ao33 t675.length co33] 28 (0,0)) (by refine pe_ ?_;refine blk_far ?_ NB679_723.out _;refine pe_ ?_;refine blk_far ?_ NB679_723.out _;refine pe_ ?_;exact BK679.out) hb);have n15_:=Aside0.mk (blk_below (g:=gb686) (o:=.cells #[.int .i64 x687000_109,.slice Ao328 x687001_109.length co328] 28 (0,0)) (by refine pe_ ?_;refine blk_far ?_ NB686_723.out _;refine pe_ ?_;refine blk_far ?_ NB686_723.out _;refine pe_ ?_;exact BK686.out) hb);have n16_:=Aside0.mk (blk_below (g:=gb693) (o:=.cells #[.int .i64 t688,.slice Ao337 t689.length co337] 28 (0,0)) (by refine pe_ ?_;refine blk_far ?_ NB693_723.out _;refine pe_ ?_;refine blk_far ?_ NB693_723.out _;refine pe_ ?_;exact BK693.out) hb);have n17_:=Aside0.mk (blk_below (g:=gb699) (o:=.cells #[.int .i64 t694,.slice Ao351 t695.length co351] 28 (0,0)) (by refine pe_ ?_;refine blk_far ?_ NB699_723.out _;refine pe_ ?_;refine blk_far ?_ NB699_723.out _;refine pe_ ?_;exact BK699.out) hb);have n18_:=Aside0.mk (blk_below (g:=gb705) (o:=.cells #[.int .i64 t700,.slice Ao364 t701.length co364] 28 (0,0)) (by refine pe_ ?_;refine blk_far ?_ NB705_723.out _;refine pe_ ?_;refine blk_far ?_ NB705_723.out _;refine pe_ ?_;exact BK705.out) hb);have n19_:=Aside0.mk (blk_below (g:=gb711) (o:=.cells #[.int .i64 t706,.slice Ao377 t707.length co377] 28 (0,0)) (by refine pe_ ?_;refine blk_far ?_ NB711_723.out _;refine pe_ ?_;refine blk_far ?_ NB711_723.out _;refine pe_ ?_;exact BK711.out) hb);have n20_:=Aside0.mk (blk_below (g:=gb717) (o:=.cells #[.int .i64 t712,.slice Ao390 t713.length co390] 28 (0,0)) (by refine pe_ ?_;refine blk_far ?_ NB717_723.out _;refine pe_ ?_;refine blk_far ?_ NB717_723.out _;refine pe_ ?_;exact BK717.out) hb);have n21_:=Aside0.mk (blk_below (g:=gb723) (o:=.cells #[.int .i64 t718,.slice Ao405 t719.length co405] 28 (0,0)) (by refine pe_ ?_;refine blk_put (cs:=#[.int .i64 t718,.slice none 0 0]) ?_ 1 _ rfl;refine pe_ ?_;refine blk_put (cs:=#[.int .i64 0,.slice none 0 0]) ?_ 0 _ rfl;refine pe_ ?_;exact BK723.out) hb);have n22_:=Aside0.mk (below_step (be11_ HB.out GE666.out GE667.out GE673.out GE679.out GE686.out GE693.out GE699.out GE705.out GE711.out GE717.out GE723.out) hb);clear HO_667001;clear HO_668001;clear HO_674001;clear HO_680001;clear HO_687001;clear HO691;clear HO697;clear HO703;clear HO709;clear HO715;clear HO721;clear BK666;clear BK667;clear BK673;clear BK679;clear BK686;clear BK693;clear BK699;clear BK705;clear BK711;clear BK717;clear BK723;clear HB;have HO_667001:=n0_;have HO_668001:=n1_;have HO_674001:=n2_;have HO_680001:=n3_;have HO_687001:=n4_;have HO691:=n5_;have HO697:=n6_;have HO703:=n7_;have HO709:=n8_;have HO715:=n9_;have HO721:=n10_;have BK666:=n11_;have BK667:=n12_;have BK673:=n13_;have BK679:=n14_;have BK686:=n15_;have BK693:=n16_;have BK699:=n17_;have BK705:=n18_;have BK711:=n19_;have BK717:=n20_;have BK723:=n21_;have HB:=n22_;clear n0_ n1_ n2_ n3_ n4_ n5_ n6_ n7_ n8_ n9_ n10_ n11_ n12_ n13_ n14_ n15_ n16_ n17_ n18_ n19_ n20_ n21_ n22_;(try clear hb);(try clear hb2);(try clear hk);(try clear hi);have hcz221_0 : w220.cell? ⟨gb693,0,none⟩ = some (.int .i64 t688):=(blk_cell BK693.out 0).trans rfl;have hcz221_1 : w220.cell? ⟨gb693,1,none⟩ = some (.slice Ao337 t689.length co337):=(blk_cell BK693.out 1).trans rfl;have hfz221_0:=blk_frozen BK693.out 0;have hfz221_1:=blk_frozen BK693.out 1;have hcz222_0 : w220.cell? ⟨gb705,0,none⟩ = some (.int .i64 t700):=(blk_cell BK705.out 0).trans rfl;have hcz222_1 : w220.cell? ⟨gb705,1,none⟩ = some (.slice Ao364 t701.length co364):=(blk_cell BK705.out 1).trans rfl;have hfz222_0:=blk_frozen BK705.out 0;have hfz222_1:=blk_frozen BK705.out 1)|(go_at_call 31;(with_reducible refine (laws_daMatrix.calls kj109 t688 _ _ t689 t700 _ _ t701 true _ ?side1 ?side2 ?side3 ?side4 A129.out).mono ?_);(case side1 => repeat (first|exact (Kd.R_reads' HO691.out).2.2|(with_reducible refine Kd.C_alloc ?_ _)|(with_reducible refine Kd.C_drewN ?_ _)|(with_reducible refine Kd.C_drew ?_)));(case side2 => exact (Kd.R_reads' HO691.out).2.1);(case side3 => repeat (first|exact (Kd.R_reads' HO703.out).2.2|(with_reducible refine Kd.C_alloc ?_ _)|(with_reducible refine Kd.C_drewN ?_ _)|(with_reducible refine Kd.C_drew ?_)));(case side4 => exact (Kd.R_reads' HO703.out).2.1);rintro e w223 ⟨rfl,hb⟩;have n0_:=Aside0.mk (Kd.V_below (pv_ HO_667001.out) hb);have n1_:=Aside0.mk (Kd.R_below (pr_ HO_668001.out) hb);have n2_:=Aside0.mk (Kd.R_below (pr_ HO_674001.out) hb);have n3_:=Aside0.mk (Kd.R_below (pr_ HO_680001.out) hb);have n4_:=Aside0.mk (Kd.V_below (pv_ HO_687001.out) hb);have n5_:=Aside0.mk (Kd.R_below (pr_ HO691.out) hb);have n6_:=Aside0.mk (Kd.R_below (pr_ HO697.out) hb);have n7_:=Aside0.mk (Kd.R_below (pr_ HO703.out) hb);have n8_:=Aside0.mk (Kd.R_below (pr_ HO709.out) hb);have n9_:=Aside0.mk (Kd.R_below (pr_ HO715.out) hb);have n10_:=Aside0.mk (Kd.R_below (pr_ HO721.out) hb);have n11_:=Aside0.mk (blk_below (g:=gb666) (o:=.cells #[.int .i64 t658,.slice Ao16 t659.length co16] 28 (0,0)) (pe_ BK666.out) hb);have n12_:=Aside0.mk (blk_below (g:=gb667) (o:=.cells #[.int .i64 t662,.slice Ao18 t663.length co18] 28 (0,0)) (pe_ BK667.out) hb);have n13_:=Aside0.mk (blk_below (g:=gb673) (o:=.cells #[.int .i64 t668,.slice Ao24 t669.length co24] 28 (0,0)) (pe_ BK673.out) hb);have n14_:=Aside0.mk (blk_below (g:=gb679) (o:=.cells #[.int .i64 t674,.slice Ao33 t675.length co33] 28 (0,0)) (pe_ BK679.out) hb);have n15_:=Aside0.mk (blk_below (g:=gb686) (o:=.cells #[.int .i64 x687000_109,.slice Ao328 x687001_109.length co328] 28 (0,0)) (pe_ BK686.out) hb);have n16_:=Aside0.mk (blk_below (g:=gb693) (o:=.cells #[.int .i64 t688,.slice Ao337 t689.length co337] 28 (0,0)) (pe_ BK693.out) hb);have n17_:=Aside0.mk (blk_below (g:=gb699) (o:=.cells #[.int .i64 t694,.slice Ao351 t695.length co351] 28 (0,0)) (pe_ BK699.out) hb);have n18_:=Aside0.mk (blk_below (g:=gb705) (o:=.cells #[.int .i64 t700,.slice Ao364 t701.length co364] 28 (0,0)) (pe_ BK705.out) hb);have n19_:=Aside0.mk (blk_below (g:=gb711) (o:=.cells #[.int .i64 t706,.slice Ao377 t707.length co377] 28 (0,0)) (pe_ BK711.out) hb);have n20_:=Aside0.mk (blk_below (g:=gb717) (o:=.cells #[.int .i64 t712,.slice Ao390 t713.length co390] 28 (0,0)) (pe_ BK717.out) hb);have n21_:=Aside0.mk (blk_below (g:=gb723) (o:=.cells #[.int .i64 t718,.slice Ao405 t719.length co405] 28 (0,0)) (pe_ BK723.out) hb);have n22_:=Aside0.mk (below_step (be11_ HB.out GE666.out GE667.out GE673.out GE679.out GE686.out GE693.out GE699.out GE705.out GE711.out GE717.out GE723.out) hb);clear HO_667001;clear HO_668001;clear HO_674001;clear HO_680001;clear HO_687001;clear HO691;clear HO697;clear HO703;clear HO709;clear HO715;clear HO721;clear BK666;clear BK667;clear BK673;clear BK679;clear BK686;clear BK693;clear BK699;clear BK705;clear BK711;clear BK717;clear BK723;clear HB;have HO_667001:=n0_;have HO_668001:=n1_;have HO_674001:=n2_;have HO_680001:=n3_;have HO_687001:=n4_;have HO691:=n5_;have HO697:=n6_;have HO703:=n7_;have HO709:=n8_;have HO715:=n9_;have HO721:=n10_;have BK666:=n11_;have BK667:=n12_;have BK673:=n13_;have BK679:=n14_;have BK686:=n15_;have BK693:=n16_;have BK699:=n17_;have BK705:=n18_;have BK711:=n19_;have BK717:=n20_;have BK723:=n21_;have HB:=n22_;clear n0_ n1_ n2_ n3_ n4_ n5_ n6_ n7_ n8_ n9_ n10_ n11_ n12_ n13_ n14_ n15_ n16_ n17_ n18_ n19_ n20_ n21_ n22_;(try clear hb);(try clear hb2);(try clear hk);(try clear hi);have hcz224_0 : w223.cell? ⟨gb723,0,none⟩ = some (.int .i64 t718):=(blk_cell BK723.out 0).trans rfl;have hcz224_1 : w223.cell? ⟨gb723,1,none⟩ = some (.slice Ao405 t719.length co405):=(blk_cell BK723.out 1).trans rfl;have hfz224_0:=blk_frozen BK723.out 0;have hfz224_1:=blk_frozen BK723.out 1;have hcz225_0 : w223.cell? ⟨gb666,0,none⟩ = some (.int .i64 t658):=(blk_cell BK666.out 0).trans rfl;have hcz225_1 : w223.cell? ⟨gb666,1,none⟩ = some (.slice Ao16 t659.length co16):=(blk_cell BK666.out 1).trans rfl;have hfz225_0:=blk_frozen BK666.out 0;have hfz225_1:=blk_frozen BK666.out 1)|(go_at_call 31;(with_reducible refine (laws_daMatrix.calls kj109 t718 _ _ t719 t658 _ _ t659 t726 _ ?side1 ?side2 ?side3 ?side4 A131.out).mono ?_);(case side1 => repeat (first|exact (Kd.R_reads' HO721.out).2.2|(with_reducible refine Kd.C_alloc ?_ _)|(with_reducible refine Kd.C_drewN ?_ _)|(with_reducible refine Kd.C_drew ?_)));(case side2 => exact (Kd.R_reads' HO721.out).2.1);(case side3 => repeat (first|exact (Kd.V_reads' HO_667001.out).2.2|(with_reducible refine Kd.C_alloc ?_ _)|(with_reducible refine Kd.C_drewN ?_ _)|(with_reducible refine Kd.C_drew ?_)));(case side4 => exact (Kd.V_reads' HO_667001.out).2.1);rintro e w226 ⟨rfl,hb⟩;have n0_:=Aside0.mk (Kd.V_below (pv_ HO_667001.out) hb);have n1_:=Aside0.mk (Kd.R_below (pr_ HO_668001.out) hb);have n2_:=Aside0.mk (Kd.R_below (pr_ HO_674001.out) hb);have n3_:=Aside0.mk (Kd.R_below (pr_ HO_680001.out) hb);have n4_:=Aside0.mk (Kd.V_below (pv_ HO_687001.out) hb);have n5_:=Aside0.mk (Kd.R_below (pr_ HO691.out) hb);have n6_:=Aside0.mk (Kd.R_below (pr_ HO697.out) hb);have n7_:=Aside0.mk (Kd.R_below (pr_ HO703.out) hb);have n8_:=Aside0.mk (Kd.R_below (pr_ HO709.out) hb);have n9_:=Aside0.mk (Kd.R_below (pr_ HO715.out) hb);have n10_:=Aside0.mk (Kd.R_below (pr_ HO721.out) hb);have n11_:=Aside0.mk (blk_below (g:=gb666) (o:=.cells #[.int .i64 t658,.slice Ao16 t659.length co16] 28 (0,0)) (pe_ BK666.out) hb);have n12_:=Aside0.mk (blk_below (g:=gb667) (o:=.cells #[.int .i64 t662,.slice Ao18 t663.length co18] 28 (0,0)) (pe_ BK667.out) hb);have n13_:=Aside0.mk (blk_below (g:=gb673) (o:=.cells #[.int .i64 t668,.slice Ao24 t669.length co24] 28 (0,0)) (pe_ BK673.out) hb);have n14_:=Aside0.mk (blk_below (g:=gb679) (o:=.cells #[.int .i64 t674,.slice Ao33 t675.length co33] 28 (0,0)) (pe_ BK679.out) hb);have n15_:=Aside0.mk (blk_below (g:=gb686) (o:=.cells #[.int .i64 x687000_109,.slice Ao328 x687001_109.length co328] 28 (0,0)) (pe_ BK686.out) hb);have n16_:=Aside0.mk (blk_below (g:=gb693) (o:=.cells #[.int .i64 t688,.slice Ao337 t689.length co337] 28 (0,0)) (pe_ BK693.out) hb);have n17_:=Aside0.mk (blk_below (g:=gb699) (o:=.cells #[.int .i64 t694,.slice Ao351 t695.length co351] 28 (0,0)) (pe_ BK699.out) hb);have n18_:=Aside0.mk (blk_below (g:=gb705) (o:=.cells #[.int .i64 t700,.slice Ao364 t701.length co364] 28 (0,0)) (pe_ BK705.out) hb);have n19_:=Aside0.mk (blk_below (g:=gb711) (o:=.cells #[.int .i64 t706,.slice Ao377 t707.length co377] 28 (0,0)) (pe_ BK711.out) hb);have n20_:=Aside0.mk (blk_below (g:=gb717) (o:=.cells #[.int .i64 t712,.slice Ao390 t713.length co390] 28 (0,0)) (pe_ BK717.out) hb);have n21_:=Aside0.mk (blk_below (g:=gb723) (o:=.cells #[.int .i64 t718,.slice Ao405 t719.length co405] 28 (0,0)) (pe_ BK723.out) hb);have n22_:=Aside0.mk (below_step (be11_ HB.out GE666.out GE667.out GE673.out GE679.out GE686.out GE693.out GE699.out GE705.out GE711.out GE717.out GE723.out) hb);clear HO_667001;clear HO_668001;clear HO_674001;clear HO_680001;clear HO_687001;clear HO691;clear HO697;clear HO703;clear HO709;clear HO715;clear HO721;clear BK666;clear BK667;clear BK673;clear BK679;clear BK686;clear BK693;clear BK699;clear BK705;clear BK711;clear BK717;clear BK723;clear HB;have HO_667001:=n0_;have HO_668001:=n1_;have HO_674001:=n2_;have HO_680001:=n3_;have HO_687001:=n4_;have HO691:=n5_;have HO697:=n6_;have HO703:=n7_;have HO709:=n8_;have HO715:=n9_;have HO721:=n10_;have BK666:=n11_;have BK667:=n12_;have BK673:=n13_;have BK679:=n14_;have BK686:=n15_;have BK693:=n16_;have BK699:=n17_;have BK705:=n18_;have BK711:=n19_;have BK717:=n20_;have BK723:=n21_;have HB:=n22_;clear n0_ n1_ n2_ n3_ n4_ n5_ n6_ n7_ n8_ n9_ n10_ n11_ n12_ n13_ n14_ n15_ n16_ n17_ n18_ n19_ n20_ n21_ n22_;(try clear hb);(try clear hb2);(try clear hk);(try clear hi)))
    go_ret
    exact ⟨by first|rfl|(simp [errW_none,errW_some] <;> rfl)|(simp [*,errW_none,errW_some] <;> rfl),be11_ HB.out GE666.out GE667.out GE673.out GE679.out GE686.out GE693.out GE699.out GE705.out GE711.out GE717.out GE723.out⟩
   ·replace c130:=Bool.eq_false_iff.mpr c130
    subst c130
    have H1 : (some false) = some r:=by rw [if_neg (show ¬ (false = true) by decide)] at H;exact H
    clear H
    have H:=H1
    clear H1
    obtain rfl:=Option.some.inj H
    go_wp2_with (first|((with_reducible refine gate_callee (f:=36) rfl ?_);refine goesL_ (some 119) rfl rfl Try.func36 (by kernel_rfl) rfl #[.agg #[.int .i64 t668,.slice Ao24 t669.length co24]] rfl lp_ ?_;(with_reducible refine (impl_GradesValid.calls kj109 t668 _ _ t669 true _ ?side1 ?side2 A127.out).mono ?_);(case side1 => refine (Kd.R_reads' (e:=3) (base:=w.heap.size) (ok:=fun k_ => (((((((some k_ ≠ (.slice Ao18 t663.length co18 : Value).ownBlock ∧ some k_ ≠ (.slice Ao33 t675.length co33 : Value).ownBlock) ∧ some k_ ≠ (.slice Ao337 t689.length co337 : Value).ownBlock) ∧ some k_ ≠ (.slice Ao351 t695.length co351 : Value).ownBlock) ∧ some k_ ≠ (.slice Ao364 t701.length co364 : Value).ownBlock) ∧ some k_ ≠ (.slice Ao377 t707.length co377 : Value).ownBlock) ∧ some k_ ≠ (.slice Ao390 t713.length co390 : Value).ownBlock) ∧ some k_ ≠ (.slice Ao405 t719.length co405 : Value).ownBlock)) (n:=t669.length) (c:=co24) ?_).2.2;exact (by refine pr_ ?_;exact (Kd.R_mono (Kd.R_far (p:=⟨gb723,1,none⟩) (Kd.R_far (p:=⟨gb723,0,none⟩) (Kd.R_types HO_674001.out BK723.out (by decide)) (fun _ hk => hk.2) (.int .i64 t718)) (fun _ hk => hk.2) (.slice Ao405 t719.length co405)) (fun _ h_ => h_.1))));(case side2 => exact (Kd.R_reads' HO_674001.out).2.1);rintro e w315 ⟨rfl,hb⟩;refine ⟨_,rfl,?_⟩;have n0_:=Aside0.mk (Kd.V_below (by refine pv_ ?_;exact (Kd.V_mono (Kd.V_far (p:=⟨gb723,1,none⟩) (Kd.V_far (p:=⟨gb723,0,none⟩) (Kd.V_mono HO_667001.out (fun k_ hk => (⟨hk,hk.2⟩ : _ ∧ k_ ≠ gb723))) (fun _ hk => hk.2) (.int .i64 t718)) (fun _ hk => hk.2) (.slice Ao405 t719.length co405)) (fun _ h_ => h_.1))) hb);have n1_:=Aside0.mk (Kd.R_below (by refine pr_ ?_;exact (Kd.R_mono (Kd.R_far (p:=⟨gb723,1,none⟩) (Kd.R_far (p:=⟨gb723,0,none⟩) (Kd.R_types HO_668001.out BK723.out (by decide)) (fun _ hk => hk.2) (.int .i64 t718)) (fun _ hk => hk.2) (.slice Ao405 t719.length co405)) (fun _ h_ => h_.1))) hb);have n2_:=Aside0.mk (Kd.R_below (by refine pr_ ?_;exact (Kd.R_mono (Kd.R_far (p:=⟨gb723,1,none⟩) (Kd.R_far (p:=⟨gb723,0,none⟩) (Kd.R_types HO_674001.out BK723.out (by decide)) (fun _ hk => hk.2) (.int .i64 t718)) (fun _ hk => hk.2) (.slice Ao405 t719.length co405)) (fun _ h_ => h_.1))) hb);have n3_:=Aside0.mk (Kd.R_below (by refine pr_ ?_;exact (Kd.R_mono (Kd.R_far (p:=⟨gb723,1,none⟩) (Kd.R_far (p:=⟨gb723,0,none⟩) (Kd.R_types HO_680001.out BK723.out (by decide)) (fun _ hk => hk.2) (.int .i64 t718)) (fun _ hk => hk.2) (.slice Ao405 t719.length co405)) (fun _ h_ => h_.1))) hb);have n4_:=Aside0.mk (Kd.V_below (by refine pv_ ?_;exact (Kd.V_mono (Kd.V_far (p:=⟨gb723,1,none⟩) (Kd.V_far (p:=⟨gb723,0,none⟩) (Kd.V_mono HO_687001.out (fun k_ hk => (⟨hk,hk.2⟩ : _ ∧ k_ ≠ gb723))) (fun _ hk => hk.2) (.int .i64 t718)) (fun _ hk => hk.2) (.slice Ao405 t719.length co405)) (fun _ h_ => h_.1))) hb);have n5_:=Aside0.mk (Kd.R_below (by refine pr_ ?_;exact (Kd.R_mono (Kd.R_far (p:=⟨gb723,1,none⟩) (Kd.R_far (p:=⟨gb723,0,none⟩) (Kd.R_types HO691.out BK723.out (by decide)) (fun _ hk => hk.2) (.int .i64 t718)) (fun _ hk => hk.2) (.slice Ao405 t719.length co405)) (fun _ h_ => h_.1))) hb);have n6_:=Aside0.mk (Kd.R_below (by refine pr_ ?_;exact (Kd.R_mono (Kd.R_far (p:=⟨gb723,1,none⟩) (Kd.R_far (p:=⟨gb723,0,none⟩) (Kd.R_types HO697.out BK723.out (by decide)) (fun _ hk => hk.2) (.int .i64 t718)) (fun _ hk => hk.2) (.slice Ao405 t719.length co405)) (fun _ h_ => h_.1))) hb);have n7_:=Aside0.mk (Kd.R_below (by refine pr_ ?_;exact (Kd.R_mono (Kd.R_far (p:=⟨gb723,1,none⟩) (Kd.R_far (p:=⟨gb723,0,none⟩) (Kd.R_types HO703.out BK723.out (by decide)) (fun _ hk => hk.2) (.int .i64 t718)) (fun _ hk => hk.2) (.slice Ao405 t719.length co405)) (fun _ h_ => h_.1))) hb);have n8_:=Aside0.mk (Kd.R_below (by refine pr_ ?_;exact (Kd.R_mono (Kd.R_far (p:=⟨gb723,1,none⟩) (Kd.R_far (p:=⟨gb723,0,none⟩) (Kd.R_types HO709.out BK723.out (by decide)) (fun _ hk => hk.2) (.int .i64 t718)) (fun _ hk => hk.2) (.slice Ao405 t719.length co405)) (fun _ h_ => h_.1))) hb);have n9_:=Aside0.mk (Kd.R_below (by refine pr_ ?_;exact (Kd.R_mono (Kd.R_far (p:=⟨gb723,1,none⟩) (Kd.R_far (p:=⟨gb723,0,none⟩) (Kd.R_types HO715.out BK723.out (by decide)) (fun _ hk => hk.2) (.int .i64 t718)) (fun _ hk => hk.2) (.slice Ao405 t719.length co405)) (fun _ h_ => h_.1))) hb);have n10_:=Aside0.mk (Kd.R_below (by refine pr_ ?_;exact (Kd.R_mono (Kd.R_far (p:=⟨gb723,1,none⟩) (Kd.R_far (p:=⟨gb723,0,none⟩) (Kd.R_types HO721.out BK723.out (by decide)) (fun _ hk => hk.2) (.int .i64 t718)) (fun _ hk => hk.2) (.slice Ao405 t719.length co405)) (fun _ h_ => h_.1))) hb);have n11_:=Aside0.mk (blk_below (g:=gb666) (o:=.cells #[.int .i64 t658,.slice Ao16 t659.length co16] 28 (0,0)) (by refine pe_ ?_;refine blk_far ?_ NB666_723.out _;refine pe_ ?_;refine blk_far ?_ NB666_723.out _;refine pe_ ?_;exact BK666.out) hb);have n12_:=Aside0.mk (blk_below (g:=gb667) (o:=.cells #[.int .i64 t662,.slice Ao18 t663.length co18] 28 (0,0)) (by refine pe_ ?_;refine blk_far ?_ NB667_723.out _;refine pe_ ?_;refine blk_far ?_ NB667_723.out _;refine pe_ ?_;exact BK667.out) hb);have n13_:=Aside0.mk (blk_below (g:=gb673) (o:=.cells #[.int .i64 t668,.slice Ao24 t669.length co24] 28 (0,0)) (by refine pe_ ?_;refine blk_far ?_ NB673_723.out _;refine pe_ ?_;refine blk_far ?_ NB673_723.out _;refine pe_ ?_;exact BK673.out) hb);have n14_:=Aside0.mk (blk_below (g:=gb679) (o:=.cells #[.int .i64 t674,.slice Ao33 t675.length co33] 28 (0,0)) (by refine pe_ ?_;refine blk_far ?_ NB679_723.out _;refine pe_ ?_;refine blk_far ?_ NB679_723.out _;refine pe_ ?_;exact BK679.out) hb);have n15_:=Aside0.mk (blk_below (g:=gb686) (o:=.cells #[.int .i64 x687000_109,.slice Ao328 x687001_109.length co328] 28 (0,0)) (by refine pe_ ?_;refine blk_far ?_ NB686_723.out _;refine pe_ ?_;refine blk_far ?_ NB686_723.out _;refine pe_ ?_;exact BK686.out) hb);have n16_:=Aside0.mk (blk_below (g:=gb693) (o:=.cells #[.int .i64 t688,.slice Ao337 t689.length co337] 28 (0,0)) (by refine pe_ ?_;refine blk_far ?_ NB693_723.out _;refine pe_ ?_;refine blk_far ?_ NB693_723.out _;refine pe_ ?_;exact BK693.out) hb);have n17_:=Aside0.mk (blk_below (g:=gb699) (o:=.cells #[.int .i64 t694,.slice Ao351 t695.length co351] 28 (0,0)) (by refine pe_ ?_;refine blk_far ?_ NB699_723.out _;refine pe_ ?_;refine blk_far ?_ NB699_723.out _;refine pe_ ?_;exact BK699.out) hb);have n18_:=Aside0.mk (blk_below (g:=gb705) (o:=.cells #[.int .i64 t700,.slice Ao364 t701.length co364] 28 (0,0)) (by refine pe_ ?_;refine blk_far ?_ NB705_723.out _;refine pe_ ?_;refine blk_far ?_ NB705_723.out _;refine pe_ ?_;exact BK705.out) hb);have n19_:=Aside0.mk (blk_below (g:=gb711) (o:=.cells #[.int .i64 t706,.slice Ao377 t707.length co377] 28 (0,0)) (by refine pe_ ?_;refine blk_far ?_ NB711_723.out _;refine pe_ ?_;refine blk_far ?_ NB711_723.out _;refine pe_ ?_;exact BK711.out) hb);have n20_:=Aside0.mk (blk_below (g:=gb717) (o:=.cells #[.int .i64 t712,.slice Ao390 t713.length co390] 28 (0,0)) (by refine pe_ ?_;refine blk_far ?_ NB717_723.out _;refine pe_ ?_;refine blk_far ?_ NB717_723.out _;refine pe_ ?_;exact BK717.out) hb);have n21_:=Aside0.mk (blk_below (g:=gb723) (o:=.cells #[.int .i64 t718,.slice Ao405 t719.length co405] 28 (0,0)) (by refine pe_ ?_;refine blk_put (cs:=#[.int .i64 t718,.slice none 0 0]) ?_ 1 _ rfl;refine pe_ ?_;refine blk_put (cs:=#[.int .i64 0,.slice none 0 0]) ?_ 0 _ rfl;refine pe_ ?_;exact BK723.out) hb);have n22_:=Aside0.mk (below_step (be11_ HB.out GE666.out GE667.out GE673.out GE679.out GE686.out GE693.out GE699.out GE705.out GE711.out GE717.out GE723.out) hb);clear HO_667001;clear HO_668001;clear HO_674001;clear HO_680001;clear HO_687001;clear HO691;clear HO697;clear HO703;clear HO709;clear HO715;clear HO721;clear BK666;clear BK667;clear BK673;clear BK679;clear BK686;clear BK693;clear BK699;clear BK705;clear BK711;clear BK717;clear BK723;clear HB;have HO_667001:=n0_;have HO_668001:=n1_;have HO_674001:=n2_;have HO_680001:=n3_;have HO_687001:=n4_;have HO691:=n5_;have HO697:=n6_;have HO703:=n7_;have HO709:=n8_;have HO715:=n9_;have HO721:=n10_;have BK666:=n11_;have BK667:=n12_;have BK673:=n13_;have BK679:=n14_;have BK686:=n15_;have BK693:=n16_;have BK699:=n17_;have BK705:=n18_;have BK711:=n19_;have BK717:=n20_;have BK723:=n21_;have HB:=n22_;clear n0_ n1_ n2_ n3_ n4_ n5_ n6_ n7_ n8_ n9_ n10_ n11_ n12_ n13_ n14_ n15_ n16_ n17_ n18_ n19_ n20_ n21_ n22_;(try clear hb);(try clear hb2);(try clear hk);(try clear hi);have hcz316_0 : w315.cell? ⟨gb693,0,none⟩ = some (.int .i64 t688):=(blk_cell BK693.out 0).trans rfl;have hcz316_1 : w315.cell? ⟨gb693,1,none⟩ = some (.slice Ao337 t689.length co337):=(blk_cell BK693.out 1).trans rfl;have hfz316_0:=blk_frozen BK693.out 0;have hfz316_1:=blk_frozen BK693.out 1;have hcz317_0 : w315.cell? ⟨gb705,0,none⟩ = some (.int .i64 t700):=(blk_cell BK705.out 0).trans rfl;have hcz317_1 : w315.cell? ⟨gb705,1,none⟩ = some (.slice Ao364 t701.length co364):=(blk_cell BK705.out 1).trans rfl;have hfz317_0:=blk_frozen BK705.out 0;have hfz317_1:=blk_frozen BK705.out 1)|(go_at_call 31;(with_reducible refine (laws_daMatrix.calls kj109 t688 _ _ t689 t700 _ _ t701 false _ ?side1 ?side2 ?side3 ?side4 A129.out).mono ?_);(case side1 => repeat (first|exact (Kd.R_reads' HO691.out).2.2|(with_reducible refine Kd.C_alloc ?_ _)|(with_reducible refine Kd.C_drewN ?_ _)|(with_reducible refine Kd.C_drew ?_)));(case side2 => exact (Kd.R_reads' HO691.out).2.1);(case side3 => repeat (first|exact (Kd.R_reads' HO703.out).2.2|(with_reducible refine Kd.C_alloc ?_ _)|(with_reducible refine Kd.C_drewN ?_ _)|(with_reducible refine Kd.C_drew ?_)));(case side4 => exact (Kd.R_reads' HO703.out).2.1);rintro e w318 ⟨rfl,hb⟩;have n0_:=Aside0.mk (Kd.V_below (pv_ HO_667001.out) hb);have n1_:=Aside0.mk (Kd.R_below (pr_ HO_668001.out) hb);have n2_:=Aside0.mk (Kd.R_below (pr_ HO_674001.out) hb);have n3_:=Aside0.mk (Kd.R_below (pr_ HO_680001.out) hb);have n4_:=Aside0.mk (Kd.V_below (pv_ HO_687001.out) hb);have n5_:=Aside0.mk (Kd.R_below (pr_ HO691.out) hb);have n6_:=Aside0.mk (Kd.R_below (pr_ HO697.out) hb);have n7_:=Aside0.mk (Kd.R_below (pr_ HO703.out) hb);have n8_:=Aside0.mk (Kd.R_below (pr_ HO709.out) hb);have n9_:=Aside0.mk (Kd.R_below (pr_ HO715.out) hb);have n10_:=Aside0.mk (Kd.R_below (pr_ HO721.out) hb);have n11_:=Aside0.mk (blk_below (g:=gb666) (o:=.cells #[.int .i64 t658,.slice Ao16 t659.length co16] 28 (0,0)) (pe_ BK666.out) hb);have n12_:=Aside0.mk (blk_below (g:=gb667) (o:=.cells #[.int .i64 t662,.slice Ao18 t663.length co18] 28 (0,0)) (pe_ BK667.out) hb);have n13_:=Aside0.mk (blk_below (g:=gb673) (o:=.cells #[.int .i64 t668,.slice Ao24 t669.length co24] 28 (0,0)) (pe_ BK673.out) hb);have n14_:=Aside0.mk (blk_below (g:=gb679) (o:=.cells #[.int .i64 t674,.slice Ao33 t675.length co33] 28 (0,0)) (pe_ BK679.out) hb);have n15_:=Aside0.mk (blk_below (g:=gb686) (o:=.cells #[.int .i64 x687000_109,.slice Ao328 x687001_109.length co328] 28 (0,0)) (pe_ BK686.out) hb);have n16_:=Aside0.mk (blk_below (g:=gb693) (o:=.cells #[.int .i64 t688,.slice Ao337 t689.length co337] 28 (0,0)) (pe_ BK693.out) hb);have n17_:=Aside0.mk (blk_below (g:=gb699) (o:=.cells #[.int .i64 t694,.slice Ao351 t695.length co351] 28 (0,0)) (pe_ BK699.out) hb);have n18_:=Aside0.mk (blk_below (g:=gb705) (o:=.cells #[.int .i64 t700,.slice Ao364 t701.length co364] 28 (0,0)) (pe_ BK705.out) hb);have n19_:=Aside0.mk (blk_below (g:=gb711) (o:=.cells #[.int .i64 t706,.slice Ao377 t707.length co377] 28 (0,0)) (pe_ BK711.out) hb);have n20_:=Aside0.mk (blk_below (g:=gb717) (o:=.cells #[.int .i64 t712,.slice Ao390 t713.length co390] 28 (0,0)) (pe_ BK717.out) hb);have n21_:=Aside0.mk (blk_below (g:=gb723) (o:=.cells #[.int .i64 t718,.slice Ao405 t719.length co405] 28 (0,0)) (pe_ BK723.out) hb);have n22_:=Aside0.mk (below_step (be11_ HB.out GE666.out GE667.out GE673.out GE679.out GE686.out GE693.out GE699.out GE705.out GE711.out GE717.out GE723.out) hb);clear HO_667001;clear HO_668001;clear HO_674001;clear HO_680001;clear HO_687001;clear HO691;clear HO697;clear HO703;clear HO709;clear HO715;clear HO721;clear BK666;clear BK667;clear BK673;clear BK679;clear BK686;clear BK693;clear BK699;clear BK705;clear BK711;clear BK717;clear BK723;clear HB;have HO_667001:=n0_;have HO_668001:=n1_;have HO_674001:=n2_;have HO_680001:=n3_;have HO_687001:=n4_;have HO691:=n5_;have HO697:=n6_;have HO703:=n7_;have HO709:=n8_;have HO715:=n9_;have HO721:=n10_;have BK666:=n11_;have BK667:=n12_;have BK673:=n13_;have BK679:=n14_;have BK686:=n15_;have BK693:=n16_;have BK699:=n17_;have BK705:=n18_;have BK711:=n19_;have BK717:=n20_;have BK723:=n21_;have HB:=n22_;clear n0_ n1_ n2_ n3_ n4_ n5_ n6_ n7_ n8_ n9_ n10_ n11_ n12_ n13_ n14_ n15_ n16_ n17_ n18_ n19_ n20_ n21_ n22_;(try clear hb);(try clear hb2);(try clear hk);(try clear hi)))
    go_ret
    exact ⟨by first|rfl|(simp [errW_none,errW_some] <;> rfl)|(simp [*,errW_none,errW_some] <;> rfl),be11_ HB.out GE666.out GE667.out GE673.out GE679.out GE686.out GE693.out GE699.out GE705.out GE711.out GE717.out GE723.out⟩
  ·replace c128:=Bool.eq_false_iff.mpr c128
   subst c128
   have H1 : (some false) = some r:=by rw [if_neg (show ¬ (false = true) by decide)] at H;exact H
   clear H
   have H:=H1
   clear H1
   obtain rfl:=Option.some.inj H
   go_wp2_with (first|((with_reducible refine gate_callee (f:=36) rfl ?_);refine goesL_ (some 119) rfl rfl Try.func36 (by kernel_rfl) rfl #[.agg #[.int .i64 t668,.slice Ao24 t669.length co24]] rfl lp_ ?_;(with_reducible refine (impl_GradesValid.calls kj109 t668 _ _ t669 false _ ?side1 ?side2 A127.out).mono ?_);(case side1 => refine (Kd.R_reads' (e:=3) (base:=w.heap.size) (ok:=fun k_ => (((((((some k_ ≠ (.slice Ao18 t663.length co18 : Value).ownBlock ∧ some k_ ≠ (.slice Ao33 t675.length co33 : Value).ownBlock) ∧ some k_ ≠ (.slice Ao337 t689.length co337 : Value).ownBlock) ∧ some k_ ≠ (.slice Ao351 t695.length co351 : Value).ownBlock) ∧ some k_ ≠ (.slice Ao364 t701.length co364 : Value).ownBlock) ∧ some k_ ≠ (.slice Ao377 t707.length co377 : Value).ownBlock) ∧ some k_ ≠ (.slice Ao390 t713.length co390 : Value).ownBlock) ∧ some k_ ≠ (.slice Ao405 t719.length co405 : Value).ownBlock)) (n:=t669.length) (c:=co24) ?_).2.2;exact (by refine pr_ ?_;exact (Kd.R_mono (Kd.R_far (p:=⟨gb723,1,none⟩) (Kd.R_far (p:=⟨gb723,0,none⟩) (Kd.R_types HO_674001.out BK723.out (by decide)) (fun _ hk => hk.2) (.int .i64 t718)) (fun _ hk => hk.2) (.slice Ao405 t719.length co405)) (fun _ h_ => h_.1))));(case side2 => exact (Kd.R_reads' HO_674001.out).2.1);rintro e w407 ⟨rfl,hb⟩;refine ⟨_,rfl,?_⟩;have n0_:=Aside0.mk (Kd.V_below (by refine pv_ ?_;exact (Kd.V_mono (Kd.V_far (p:=⟨gb723,1,none⟩) (Kd.V_far (p:=⟨gb723,0,none⟩) (Kd.V_mono HO_667001.out (fun k_ hk => (⟨hk,hk.2⟩ : _ ∧ k_ ≠ gb723))) (fun _ hk => hk.2) (.int .i64 t718)) (fun _ hk => hk.2) (.slice Ao405 t719.length co405)) (fun _ h_ => h_.1))) hb);have n1_:=Aside0.mk (Kd.R_below (by refine pr_ ?_;exact (Kd.R_mono (Kd.R_far (p:=⟨gb723,1,none⟩) (Kd.R_far (p:=⟨gb723,0,none⟩) (Kd.R_types HO_668001.out BK723.out (by decide)) (fun _ hk => hk.2) (.int .i64 t718)) (fun _ hk => hk.2) (.slice Ao405 t719.length co405)) (fun _ h_ => h_.1))) hb);have n2_:=Aside0.mk (Kd.R_below (by refine pr_ ?_;exact (Kd.R_mono (Kd.R_far (p:=⟨gb723,1,none⟩) (Kd.R_far (p:=⟨gb723,0,none⟩) (Kd.R_types HO_674001.out BK723.out (by decide)) (fun _ hk => hk.2) (.int .i64 t718)) (fun _ hk => hk.2) (.slice Ao405 t719.length co405)) (fun _ h_ => h_.1))) hb);have n3_:=Aside0.mk (Kd.R_below (by refine pr_ ?_;exact (Kd.R_mono (Kd.R_far (p:=⟨gb723,1,none⟩) (Kd.R_far (p:=⟨gb723,0,none⟩) (Kd.R_types HO_680001.out BK723.out (by decide)) (fun _ hk => hk.2) (.int .i64 t718)) (fun _ hk => hk.2) (.slice Ao405 t719.length co405)) (fun _ h_ => h_.1))) hb);have n4_:=Aside0.mk (Kd.V_below (by refine pv_ ?_;exact (Kd.V_mono (Kd.V_far (p:=⟨gb723,1,none⟩) (Kd.V_far (p:=⟨gb723,0,none⟩) (Kd.V_mono HO_687001.out (fun k_ hk => (⟨hk,hk.2⟩ : _ ∧ k_ ≠ gb723))) (fun _ hk => hk.2) (.int .i64 t718)) (fun _ hk => hk.2) (.slice Ao405 t719.length co405)) (fun _ h_ => h_.1))) hb);have n5_:=Aside0.mk (Kd.R_below (by refine pr_ ?_;exact (Kd.R_mono (Kd.R_far (p:=⟨gb723,1,none⟩) (Kd.R_far (p:=⟨gb723,0,none⟩) (Kd.R_types HO691.out BK723.out (by decide)) (fun _ hk => hk.2) (.int .i64 t718)) (fun _ hk => hk.2) (.slice Ao405 t719.length co405)) (fun _ h_ => h_.1))) hb);have n6_:=Aside0.mk (Kd.R_below (by refine pr_ ?_;exact (Kd.R_mono (Kd.R_far (p:=⟨gb723,1,none⟩) (Kd.R_far (p:=⟨gb723,0,none⟩) (Kd.R_types HO697.out BK723.out (by decide)) (fun _ hk => hk.2) (.int .i64 t718)) (fun _ hk => hk.2) (.slice Ao405 t719.length co405)) (fun _ h_ => h_.1))) hb);have n7_:=Aside0.mk (Kd.R_below (by refine pr_ ?_;exact (Kd.R_mono (Kd.R_far (p:=⟨gb723,1,none⟩) (Kd.R_far (p:=⟨gb723,0,none⟩) (Kd.R_types HO703.out BK723.out (by decide)) (fun _ hk => hk.2) (.int .i64 t718)) (fun _ hk => hk.2) (.slice Ao405 t719.length co405)) (fun _ h_ => h_.1))) hb);have n8_:=Aside0.mk (Kd.R_below (by refine pr_ ?_;exact (Kd.R_mono (Kd.R_far (p:=⟨gb723,1,none⟩) (Kd.R_far (p:=⟨gb723,0,none⟩) (Kd.R_types HO709.out BK723.out (by decide)) (fun _ hk => hk.2) (.int .i64 t718)) (fun _ hk => hk.2) (.slice Ao405 t719.length co405)) (fun _ h_ => h_.1))) hb);have n9_:=Aside0.mk (Kd.R_below (by refine pr_ ?_;exact (Kd.R_mono (Kd.R_far (p:=⟨gb723,1,none⟩) (Kd.R_far (p:=⟨gb723,0,none⟩) (Kd.R_types HO715.out BK723.out (by decide)) (fun _ hk => hk.2) (.int .i64 t718)) (fun _ hk => hk.2) (.slice Ao405 t719.length co405)) (fun _ h_ => h_.1))) hb);have n10_:=Aside0.mk (Kd.R_below (by refine pr_ ?_;exact (Kd.R_mono (Kd.R_far (p:=⟨gb723,1,none⟩) (Kd.R_far (p:=⟨gb723,0,none⟩) (Kd.R_types HO721.out BK723.out (by decide)) (fun _ hk => hk.2) (.int .i64 t718)) (fun _ hk => hk.2) (.slice Ao405 t719.length co405)) (fun _ h_ => h_.1))) hb);have n11_:=Aside0.mk (blk_below (g:=gb666) (o:=.cells #[.int .i64 t658,.slice Ao16 t659.length co16] 28 (0,0)) (by refine pe_ ?_;refine blk_far ?_ NB666_723.out _;refine pe_ ?_;refine blk_far ?_ NB666_723.out _;refine pe_ ?_;exact BK666.out) hb);have n12_:=Aside0.mk (blk_below (g:=gb667) (o:=.cells #[.int .i64 t662,.slice Ao18 t663.length co18] 28 (0,0)) (by refine pe_ ?_;refine blk_far ?_ NB667_723.out _;refine pe_ ?_;refine blk_far ?_ NB667_723.out _;refine pe_ ?_;exact BK667.out) hb);have n13_:=Aside0.mk (blk_below (g:=gb673) (o:=.cells #[.int .i64 t668,.slice Ao24 t669.length co24] 28 (0,0)) (by refine pe_ ?_;refine blk_far ?_ NB673_723.out _;refine pe_ ?_;refine blk_far ?_ NB673_723.out _;refine pe_ ?_;exact BK673.out) hb);have n14_:=Aside0.mk (blk_below (g:=gb679) (o:=.cells #[.int .i64 t674,.slice Ao33 t675.length co33] 28 (0,0)) (by refine pe_ ?_;refine blk_far ?_ NB679_723.out _;refine pe_ ?_;refine blk_far ?_ NB679_723.out _;refine pe_ ?_;exact BK679.out) hb);have n15_:=Aside0.mk (blk_below (g:=gb686) (o:=.cells #[.int .i64 x687000_109,.slice Ao328 x687001_109.length co328] 28 (0,0)) (by refine pe_ ?_;refine blk_far ?_ NB686_723.out _;refine pe_ ?_;refine blk_far ?_ NB686_723.out _;refine pe_ ?_;exact BK686.out) hb);have n16_:=Aside0.mk (blk_below (g:=gb693) (o:=.cells #[.int .i64 t688,.slice Ao337 t689.length co337] 28 (0,0)) (by refine pe_ ?_;refine blk_far ?_ NB693_723.out _;refine pe_ ?_;refine blk_far ?_ NB693_723.out _;refine pe_ ?_;exact BK693.out) hb);have n17_:=Aside0.mk (blk_below (g:=gb699) (o:=.cells #[.int .i64 t694,.slice Ao351 t695.length co351] 28 (0,0)) (by refine pe_ ?_;refine blk_far ?_ NB699_723.out _;refine pe_ ?_;refine blk_far ?_ NB699_723.out _;refine pe_ ?_;exact BK699.out) hb);have n18_:=Aside0.mk (blk_below (g:=gb705) (o:=.cells #[.int .i64 t700,.slice Ao364 t701.length co364] 28 (0,0)) (by refine pe_ ?_;refine blk_far ?_ NB705_723.out _;refine pe_ ?_;refine blk_far ?_ NB705_723.out _;refine pe_ ?_;exact BK705.out) hb);have n19_:=Aside0.mk (blk_below (g:=gb711) (o:=.cells #[.int .i64 t706,.slice Ao377 t707.length co377] 28 (0,0)) (by refine pe_ ?_;refine blk_far ?_ NB711_723.out _;refine pe_ ?_;refine blk_far ?_ NB711_723.out _;refine pe_ ?_;exact BK711.out) hb);have n20_:=Aside0.mk (blk_below (g:=gb717) (o:=.cells #[.int .i64 t712,.slice Ao390 t713.length co390] 28 (0,0)) (by refine pe_ ?_;refine blk_far ?_ NB717_723.out _;refine pe_ ?_;refine blk_far ?_ NB717_723.out _;refine pe_ ?_;exact BK717.out) hb);have n21_:=Aside0.mk (blk_below (g:=gb723) (o:=.cells #[.int .i64 t718,.slice Ao405 t719.length co405] 28 (0,0)) (by refine pe_ ?_;refine blk_put (cs:=#[.int .i64 t718,.slice none 0 0]) ?_ 1 _ rfl;refine pe_ ?_;refine blk_put (cs:=#[.int .i64 0,.slice none 0 0]) ?_ 0 _ rfl;refine pe_ ?_;exact BK723.out) hb);have n22_:=Aside0.mk (below_step (be11_ HB.out GE666.out GE667.out GE673.out GE679.out GE686.out GE693.out GE699.out GE705.out GE711.out GE717.out GE723.out) hb);clear HO_667001;clear HO_668001;clear HO_674001;clear HO_680001;clear HO_687001;clear HO691;clear HO697;clear HO703;clear HO709;clear HO715;clear HO721;clear BK666;clear BK667;clear BK673;clear BK679;clear BK686;clear BK693;clear BK699;clear BK705;clear BK711;clear BK717;clear BK723;clear HB;have HO_667001:=n0_;have HO_668001:=n1_;have HO_674001:=n2_;have HO_680001:=n3_;have HO_687001:=n4_;have HO691:=n5_;have HO697:=n6_;have HO703:=n7_;have HO709:=n8_;have HO715:=n9_;have HO721:=n10_;have BK666:=n11_;have BK667:=n12_;have BK673:=n13_;have BK679:=n14_;have BK686:=n15_;have BK693:=n16_;have BK699:=n17_;have BK705:=n18_;have BK711:=n19_;have BK717:=n20_;have BK723:=n21_;have HB:=n22_;clear n0_ n1_ n2_ n3_ n4_ n5_ n6_ n7_ n8_ n9_ n10_ n11_ n12_ n13_ n14_ n15_ n16_ n17_ n18_ n19_ n20_ n21_ n22_;(try clear hb);(try clear hb2);(try clear hk);(try clear hi)))
   go_ret
   exact ⟨by first|rfl|(simp [errW_none,errW_some] <;> rfl)|(simp [*,errW_none,errW_some] <;> rfl),be11_ HB.out GE666.out GE667.out GE673.out GE679.out GE686.out GE693.out GE699.out GE705.out GE711.out GE717.out GE723.out⟩
theorem laws_FnMulGrades.calls (k : Nat) (A0 : Option Addr) (c0 : Nat) (l0 : List Int) (A1 : Option Addr) (c1 : Nat) (l1 : List Int) (r : Bool) (w : World) (hr0 : Kd.C (Kd.int .u8) w A0 l0.length l0) (hc0 : l0.length ≤ c0) (hr1 : Kd.C (Kd.int .u8) w A1 l1.length l1) (hc1 : l1.length ≤ c1) (h : laws_FnMulGrades.f k l0 l1 = some r) :
  Calls Try.prog 9 #[.slice A0 l0.length c0,.slice A1 l1.length c1] w fun e w' => e = .returned (.bool r) ∧ Below w.heap.size w w':=(laws_FnMulGrades.p0 k A0 c0 l0 A1 c1 l1 r w).2 hr0 hc0 hr1 hc1 h ⟨laws_FnMulGrades.p1 k A0 c0 l0 A1 c1 l1 r w⟩
def laws_FnMulGrades.Pure : Prop := ∀ (l0 : List Int) (l1 : List Int),l0.length ≤ maxLen → l0.length * 1 ≤ 140737488351232 → (∀ x ∈ l0,(Lit.int .u8 x).wf = true) → l1.length ≤ maxLen → l1.length * 1 ≤ 140737488351232 → (∀ x ∈ l1,(Lit.int .u8 x).wf = true) → ∃ k,laws_FnMulGrades.f k l0 l1 = some true
theorem laws_FnMulGrades.walk (P : laws_FnMulGrades.Pure) (a0 : Option Addr) (len0 cap0 : Nat) (z0 : List Int) (a1 : Option Addr) (len1 cap1 : Nat) (z1 : List Int) (w : World) (w0 : (a0 = none ∧ len0 = 0 ∧ cap0 = 0 ∧ z0 = []) ∨ ∃ x,a0 = some x ∧ len0 ≤ cap0 ∧ cap0 ≤ maxLen ∧ z0.length = cap0 ∧ (∀ i,i < z0.length → w.cell? (x.add i) = some (.int .u8 (z0.getD i 0))) ∧ ∀ n ∈ z0,(Lit.int .u8 n).wf = true) (y0 : len0 * 1 ≤ 140737488351232) (w1 : (a1 = none ∧ len1 = 0 ∧ cap1 = 0 ∧ z1 = []) ∨ ∃ x,a1 = some x ∧ len1 ≤ cap1 ∧ cap1 ≤ maxLen ∧ z1.length = cap1 ∧ (∀ i,i < z1.length → w.cell? (x.add i) = some (.int .u8 (z1.getD i 0))) ∧ ∀ n ∈ z1,(Lit.int .u8 n).wf = true) (y1 : len1 * 1 ≤ 140737488351232) :
  Calls Try.prog 9 #[.slice a0 len0 cap0,.slice a1 len1 cap1] w fun e w' => e = .returned (.bool true) ∧ Below w.heap.size w w':=by
 obtain ⟨l0,rfl,hr0,hm0,hw0,hc0⟩:=ReadsInt.ofRowC w0
 obtain ⟨l1,rfl,hr1,hm1,hw1,hc1⟩:=ReadsInt.ofRowC w1
 obtain ⟨k,h⟩:=P l0 l1 hm0 y0 hw0 hm1 y1 hw1
 refine (laws_FnMulGrades.calls k _ _ l0 _ _ l1 true w (Kd.C_of_reads (d:=(0 : Int)) (h1:=fun _ => rfl) hr0) hc0 (Kd.C_of_reads (d:=(0 : Int)) (h1:=fun _ => rfl) hr1) hc1 h).mono ?_
 rintro e w' ⟨rfl,hd⟩
 exact ⟨rfl,hd⟩
end Go.Proofs.Ytengegdaiphfeaa.X
end
section
namespace Go.Proofs.Ytengegdaiphfeaa.Y
open Go.RowKit Go.Proofs.Ytengegdaiphfeaa.X Go.Proofs.YtengegdaiphfeaaW.PrintWords Go.Proofs.YtengegdaiphfeaaW.PrintLast Go.Proofs.YtengegdaiphfeaaW.PrintMore
set_option linter.unusedVariables false
set_option linter.unusedSimpArgs false
def L (s : ByteArray) : List UInt8:=s.data.toList
theorem L_size (s : ByteArray) : s.size = (L s).length:=by simp [L]
theorem L_mk (l : List UInt8) : L ⟨l.toArray⟩ = l:=by simp [L]
theorem L_inj {s t : ByteArray} (h : L s = L t) : s = t:=by
 cases s;cases t;simp [L] at h;subst h;rfl
theorem toList_L (s : ByteArray) : s.toList = L s:=ByteArray.toList_eq s
theorem L_extract (s : ByteArray) (a b : Nat) : L (s.extract a b) = ((L s).take b).drop a:=by
 simp [L,ByteArray.data_extract,Array.toList_extract,List.extract,List.drop_take]
theorem L_append (s t : ByteArray) : L (s ++ t) = L s ++ L t:=by simp [L,ByteArray.data_append]
theorem L_nil {s : ByteArray} : s.toList = ([] : List UInt8) ↔ L s = []:=by rw [toList_L]
theorem bt_L (s : ByteArray) (i : Int) : bt s i = (((L s).getD i.toNat 0).toNat : Int):=by
 unfold bt L
 split
 ·next h =>
  have h' : i.toNat < s.data.toList.length:=by simpa using h
  rw [List.getD_eq_getElem?_getD,List.getElem?_eq_getElem h']
  simp;rfl
 ·next h =>
  have h' : s.data.toList.length ≤ i.toNat:=by simpa using h
  rw [List.getD_eq_getElem?_getD,List.getElem?_eq_none h'];rfl
theorem w64 {x : Int} (h0 : -9223372036854775808 ≤ x) (h1 : x ≤ 9223372036854775807) : wrap64 x = x:=by unfold wrap64;omega
theorem _root_.Go.Proofs.YtengegdaiphfeaaW.PrintWords.Ev.is {α : Type} {g : Nat → Option α} {r r' : α} (h : Ev g r) (e : r = r') : Ev g r':=e ▸ h
theorem bt_suffix {s : ByteArray} {u : List UInt8} {c : UInt8} {e : List UInt8} (h : L s = u ++ c :: e) : bt s u.length = (c.toNat : Int):=by
 rw [bt_L,h];simp [List.getD_eq_getElem?_getD]
theorem size_suffix {s : ByteArray} {u e : List UInt8} (h : L s = u ++ e) : s.size = u.length + e.length:=by rw [L_size,h];simp
theorem u8_ne {c d : UInt8} (h : c ≠ d) : ¬ ((c.toNat : Int) = (d.toNat : Int)):=by
 intro e;exact h (UInt8.toNat.inj (by exact_mod_cast e))
end Go.Proofs.Ytengegdaiphfeaa.Y
end
section
namespace Go.Proofs.Ytengegdaiphfeaa.X
open Go.RowKit Go.Proofs.YtengegdaiphfeaaW.PrintWords Go.Proofs.YtengegdaiphfeaaW.PrintLast Go.Proofs.YtengegdaiphfeaaW.PrintMore
attribute [local go_sem] max2_int min2_int max_two min_two max_three min_three max_four min_four
set_option linter.unusedVariables false
set_option linter.unusedSimpArgs false
def laws_eqIntS.l0 : Nat → List Int → List Int → Int → Option (Bool)
 | 0,_,_,_ => none
 | k + 1,x0,x1,x5 => if x5 < (x0.length : Int) then (if 0 ≤ x5 then (if x5 < (x1.length : Int) then (if (rd x0 x5) = (rd x1 x5) then (laws_eqIntS.l0 k x0 x1 (wrap64 (x5 + 1))) else (some false)) else (none)) else (none)) else (some true)
def laws_eqIntS.f (k : Nat) (l0 : List Int) (l1 : List Int) : Option (Bool):=if (l0.length : Int) = (l1.length : Int) then (laws_eqIntS.l0 k l0 l1 0) else (some false)
theorem laws_eqIntS.mono_l : ∀ k,(∀ y0 y1 y2,LeO (laws_eqIntS.l0 k y0 y1 y2) (laws_eqIntS.l0 (k + 1) y0 y1 y2))
 | 0 => fun _ _ _ r h => by simp [laws_eqIntS.l0] at h
 | k + 1 => by
  have ih0:=laws_eqIntS.mono_l k
  ·intro y0 y1 y2
   unfold laws_eqIntS.l0
   repeat' first
   | (with_reducible exact ih0 _ _ _)
   | (with_reducible exact LeO.refl _)
   | (with_reducible exact LeO.none _)
   | (with_reducible refine LeO.ite ?_ ?_)
   | (with_reducible refine LeO.bind ?_ (fun _ => ?_))
   | exact ih0 _ _ _
   | exact LeO.none _
   | refine LeO.ite ?_ ?_
   | refine LeO.bind ?_ (fun _ => ?_)
theorem laws_eqIntS.mono : ∀ a0 a1 k,LeO (laws_eqIntS.f k a0 a1) (laws_eqIntS.f (k + 1) a0 a1):=by
 intro a0 a1 k
 have ih0:=laws_eqIntS.mono_l k
 unfold laws_eqIntS.f
 repeat' first
   | (with_reducible exact ih0 _ _ _)
   | (with_reducible exact LeO.refl _)
   | (with_reducible exact LeO.none _)
   | (with_reducible refine LeO.ite ?_ ?_)
   | (with_reducible refine LeO.bind ?_ (fun _ => ?_))
   | exact ih0 _ _ _
   | exact LeO.none _
   | refine LeO.ite ?_ ?_
   | refine LeO.bind ?_ (fun _ => ?_)
set_option maxHeartbeats 8000000 in
set_option maxRecDepth 100000 in
theorem laws_eqIntS.calls (k : Nat) (A0 : Option Addr) (c0 : Nat) (l0 : List Int) (A1 : Option Addr) (c1 : Nat) (l1 : List Int) (r : Bool) (w : World) (hr0 : Kd.C (Kd.int .i64) w A0 l0.length l0) (hc0 : l0.length ≤ c0) (hr1 : Kd.C (Kd.int .i64) w A1 l1.length l1) (hc1 : l1.length ≤ c1) (h : laws_eqIntS.f k l0 l1 = some r) :
  Calls Try.prog 62 #[.slice A0 l0.length c0,.slice A1 l1.length c1] w fun e w' => e = .returned (.bool r) ∧ Drawn0 w w':=by
 have HR0:=Aside0.mk hr0
 have HC0:=Aside0.mk hc0
 clear hr0 hc0
 have HR1:=Aside0.mk hr1
 have HC1:=Aside0.mk hc1
 clear hr1 hc1
 have H : (if (l0.length : Int) = (l1.length : Int) then (laws_eqIntS.l0 k l0 l1 0) else (some false)) = some r:=h
 clear h
 by_cases c3 : (l0.length : Int) = (l1.length : Int)
 ·rw [if_pos c3] at H
  have c3b0 : ((l0.length : Int) == (l1.length : Int)) = true:=beq_iff_eq.mpr c3
  have c3b1 : ((l0.length : Int) != (l1.length : Int)) = false:=bne_eq_false_iff_eq.mpr c3
  have c3b2 : (l0.length == l1.length) = true:=by first|simpa using c3|(simp at c3 ⊢;omega)
  clear c3
  have H':=Aside0.mk H
  clear H
  go_enter Try.func62,Try.ntmps62
  go_wp2
  repeat (go_quiet (fail);try go_wp2)
  go_loopg [5] k (fun kq v5 w' => ∃ (x5_1 : Int),v5 = .int .i64 x5_1 ∧ Aside0 (laws_eqIntS.l0 kq l0 l1 x5_1 = some r) ∧ Aside0 (kq ≤ k) ∧ Drawn0 w w')
  case atStart => exact ⟨(0),(by first|rfl|(simp;done)|(simp [*];done)),H',⟨Nat.le_refl _⟩,by repeat (first|exact Drawn0.refl _|apply Drawn0.step)⟩
  case round =>
   clear H'
   try clear c1
   try clear p2
   try clear c3
   try clear c3b0
   try clear c3b1
   try clear c3b2
   obtain ⟨x5_1,rfl,HA,HK1,⟨m1,rfl⟩⟩:=hrel
   cases gk with
   | zero => exact absurd HA.out (by simp [laws_eqIntS.l0])
   | succ k1 =>
    have H:=HA.out
    clear HA
    simp only [laws_eqIntS.l0] at H
    by_cases c4 : x5_1 < (l0.length : Int)
    ·rw [if_pos c4] at H
     have c4b0 : decide (x5_1 < (l0.length : Int)) = true:=decide_eq_true c4
     clear c4
     by_cases c5 : 0 ≤ x5_1
     ·rw [if_pos c5] at H
      have c5b0 : decide (0 ≤ x5_1) = true:=decide_eq_true c5
      clear c5
      by_cases c6 : x5_1 < (l1.length : Int)
      ·rw [if_pos c6] at H
       have c6b0 : decide (x5_1 < (l1.length : Int)) = true:=decide_eq_true c6
       clear c6
       by_cases c7 : (rd l0 x5_1) = (rd l1 x5_1)
       ·rw [if_pos c7] at H
        have c7b0 : ((rd l0 x5_1) == (rd l1 x5_1)) = true:=beq_iff_eq.mpr c7
        have c7b1 : ((rd l0 x5_1) != (rd l1 x5_1)) = false:=bne_eq_false_iff_eq.mpr c7
        clear c7
        have H':=Aside0.mk H
        clear H
        have p210 : 0 ≤ (x5_1 : Int):=of_decide_eq_true (by first|(with_reducible assumption)|assumption)
        have q210 : x5_1 < (l0.length : Int):=of_decide_eq_true (by first|(with_reducible assumption)|assumption)
        obtain ⟨ad210,e210,hx210_0⟩:=Kd.at_int HR0.out x5_1 p210 q210
        cases e210
        replace p210:=eq_true p210
        replace q210:=eq_true q210
        have p211 : 0 ≤ (x5_1 : Int):=of_decide_eq_true (by first|(with_reducible assumption)|assumption)
        have q211 : x5_1 < (l1.length : Int):=of_decide_eq_true (by first|(with_reducible assumption)|assumption)
        obtain ⟨ad211,e211,hx211_0⟩:=Kd.at_int HR1.out x5_1 p211 q211
        cases e211
        replace p211:=eq_true p211
        replace q211:=eq_true q211
        go_wp2
        repeat (go_quiet (fail);try go_wp2)
        go_roundg k1
        case measure => have:=HK1.out;omega
        case rel => exact ⟨(wrap64 (x5_1 + 1)),(by first|rfl|(simp;done)|(simp [*];done)),H',⟨by have:=HK1.out;omega⟩,by repeat (first|exact Drawn0.refl _|apply Drawn0.step)⟩
       ·rw [if_neg c7] at H
        have c7b0 : ((rd l0 x5_1) == (rd l1 x5_1)) = false:=beq_eq_false_iff_ne.mpr c7
        have c7b1 : ((rd l0 x5_1) != (rd l1 x5_1)) = true:=bne_iff_ne.mpr c7
        obtain rfl:=Option.some.inj H
        have p210 : 0 ≤ (x5_1 : Int):=of_decide_eq_true (by first|(with_reducible assumption)|assumption)
        have q210 : x5_1 < (l0.length : Int):=of_decide_eq_true (by first|(with_reducible assumption)|assumption)
        obtain ⟨ad210,e210,hx210_0⟩:=Kd.at_int HR0.out x5_1 p210 q210
        cases e210
        replace p210:=eq_true p210
        replace q210:=eq_true q210
        have p211 : 0 ≤ (x5_1 : Int):=of_decide_eq_true (by first|(with_reducible assumption)|assumption)
        have q211 : x5_1 < (l1.length : Int):=of_decide_eq_true (by first|(with_reducible assumption)|assumption)
        obtain ⟨ad211,e211,hx211_0⟩:=Kd.at_int HR1.out x5_1 p211 q211
        cases e211
        replace p211:=eq_true p211
        replace q211:=eq_true q211
        go_wp2
        repeat (go_quiet (fail);try go_wp2)
        go_ret
        exact ⟨by first|rfl|(simp;done)|(simp [*];done),by repeat (first|exact Drawn0.refl _|apply Drawn0.step)⟩
      ·rw [if_neg c6] at H
       exact absurd H (by simp)
     ·rw [if_neg c5] at H
      exact absurd H (by simp)
    ·rw [if_neg c4] at H
     have c4b0 : decide (x5_1 < (l0.length : Int)) = false:=decide_eq_false c4
     clear c4
     obtain rfl:=Option.some.inj H
     go_wp2
     repeat (go_quiet (fail);try go_wp2)
     go_ret
     exact ⟨by first|rfl|(simp;done)|(simp [*];done),by repeat (first|exact Drawn0.refl _|apply Drawn0.step)⟩
 ·rw [if_neg c3] at H
  have c3b0 : ((l0.length : Int) == (l1.length : Int)) = false:=beq_eq_false_iff_ne.mpr c3
  have c3b1 : ((l0.length : Int) != (l1.length : Int)) = true:=bne_iff_ne.mpr c3
  have c3b2 : (l0.length == l1.length) = false:=by first|simpa using c3|(simp at c3 ⊢;omega)
  obtain rfl:=Option.some.inj H
  go_enter Try.func62,Try.ntmps62
  go_wp2
  repeat (go_quiet (fail);try go_wp2)
  go_ret
  exact ⟨by first|rfl|(simp;done)|(simp [*];done),by repeat (first|exact Drawn0.refl _|apply Drawn0.step)⟩
end Go.Proofs.Ytengegdaiphfeaa.X
end
section
namespace Go.Proofs.Ytengegdaiphfeaa.X
open Go.RowKit Go.Proofs.YtengegdaiphfeaaW.PrintWords Go.Proofs.YtengegdaiphfeaaW.PrintLast Go.Proofs.YtengegdaiphfeaaW.PrintMore
attribute [local go_sem] max2_int min2_int max_two min_two max_three min_three max_four min_four
set_option linter.unusedVariables false
set_option linter.unusedSimpArgs false
def laws_eqMatrix.f (k : Nat) (a0_0 : Int) (l0_1 : List Int) (a1_0 : Int) (l1_1 : List Int) : Option (Bool):=if a0_0 = a1_0 then ((laws_eqIntS.f k l0_1 l1_1).bind fun t214 => (if t214 = true then (some true) else (some false))) else (some false)
theorem laws_eqMatrix.mono : ∀ a0 a1 a2 a3 k,LeO (laws_eqMatrix.f k a0 a1 a2 a3) (laws_eqMatrix.f (k + 1) a0 a1 a2 a3):=by
 intro a0 a1 a2 a3 k
 unfold laws_eqMatrix.f
 repeat' first
   | (with_reducible exact laws_eqIntS.mono _ _ _)
   | (with_reducible exact LeO.refl _)
   | (with_reducible exact LeO.none _)
   | (with_reducible refine LeO.ite ?_ ?_)
   | (with_reducible refine LeO.bind ?_ (fun _ => ?_))
   | exact laws_eqIntS.mono _ _ _
   | exact LeO.none _
   | refine LeO.ite ?_ ?_
   | refine LeO.bind ?_ (fun _ => ?_)
set_option maxHeartbeats 8000000 in
set_option maxRecDepth 100000 in
theorem laws_eqMatrix.calls (k : Nat) (a0_0 : Int) (A0_1 : Option Addr) (c0_1 : Nat) (l0_1 : List Int) (a1_0 : Int) (A1_1 : Option Addr) (c1_1 : Nat) (l1_1 : List Int) (r : Bool) (w : World) (hr0_1 : Kd.C (Kd.int .i64) w A0_1 l0_1.length l0_1) (hc0_1 : l0_1.length ≤ c0_1) (hr1_1 : Kd.C (Kd.int .i64) w A1_1 l1_1.length l1_1) (hc1_1 : l1_1.length ≤ c1_1) (h : laws_eqMatrix.f k a0_0 l0_1 a1_0 l1_1 = some r) :
  Calls Try.prog 21 #[.agg #[.int .i64 a0_0,.slice A0_1 l0_1.length c0_1],.agg #[.int .i64 a1_0,.slice A1_1 l1_1.length c1_1]] w fun e w' => e = .returned (.bool r) ∧ Below w.heap.size w w':=by
 have hu28:=Try.underlying28
 have HR0_1:=Aside0.mk hr0_1
 have HC0_1:=Aside0.mk hc0_1
 clear hr0_1 hc0_1
 have HR1_1:=Aside0.mk hr1_1
 have HC1_1:=Aside0.mk hc1_1
 clear hr1_1 hc1_1
 have HB:=Aside0.mk (Below.refl w.heap.size w)
 have H : (if a0_0 = a1_0 then ((laws_eqIntS.f k l0_1 l1_1).bind fun t214 => (if t214 = true then (some true) else (some false))) else (some false)) = some r:=h
 clear h
 by_cases c3 : a0_0 = a1_0
 ·rw [if_pos c3] at H
  have c3b0 : (a0_0 == a1_0) = true:=beq_iff_eq.mpr c3
  have c3b1 : (a0_0 != a1_0) = false:=bne_eq_false_iff_eq.mpr c3
  clear c3
  replace H:=Option.bind_eq_some_iff.mp H
  obtain ⟨t214,A40,H⟩:=H
  replace H : (if t214 = true then (some true) else (some false)) = some r:=H
  have A4:=Aside0.mk A40
  clear A40
  by_cases c5 : t214 = true
  ·subst c5
   have H1 : (some true) = some r:=by rw [if_pos rfl] at H;exact H
   clear H
   have H:=H1
   clear H1
   obtain rfl:=Option.some.inj H
   go_enter Try.func21,Try.ntmps21
   go_wp2_with (first|((with_reducible refine gate_dst (N:=2) rfl ?_);refine box_event ?hg (N:=2) ?hd (cs:=#[.int .i64 a0_0,.slice A0_1 l0_1.length c0_1]) (t:=28) ?hr ?_;(case hd => rfl);(case hg => rfl);(case hr => first|(go_simp;done)|(go_simp;rfl));intro gb212 hg w6 hbox hb;have n0_:=Aside0.mk (below_step (be0_ HB.out) hb);have n1_:=Aside0.mk (hbox);have n2_:=Aside0.mk ((by rw [hg];exact (below_size (be0_ HB.out)) : w.heap.size ≤ gb212));have n3_:=Aside0.mk ((by rw [hg];exact (below_size (be0_ HB.out)) : w.heap.size ≤ gb212));clear HB;have HB:=n0_;have BK212:=n1_;have GW212:=n2_;have GE212:=n3_;clear n0_ n1_ n2_ n3_;clear hb hbox hg)|((with_reducible refine gate_dst (N:=3) rfl ?_);refine box_event ?hg (N:=3) ?hd (cs:=#[.int .i64 a1_0,.slice A1_1 l1_1.length c1_1]) (t:=28) ?hr ?_;(case hd => rfl);(case hg => rfl);(case hr => first|(go_simp;done)|(go_simp;rfl));intro gb213 hg w7 hbox hb;have n0_:=Aside0.mk (blk_below (g:=gb212) (o:=.cells #[.int .i64 a0_0,.slice A0_1 l0_1.length c0_1] 28 (0,0)) (pe_ BK212.out) hb);have n1_:=Aside0.mk (below_step (be1_ HB.out GE212.out) hb);have n2_:=Aside0.mk (hbox);have n3_:=Aside0.mk ((by rw [hg];exact (below_size (be1_ HB.out GE212.out)) : w.heap.size ≤ gb213));have n4_:=Aside0.mk ((by rw [hg];exact (below_size (be1_ HB.out GE212.out)) : w.heap.size ≤ gb213));have n5_:=Aside0.mk ((by rw [hg];exact Nat.ne_of_lt (blk_lt (g:=gb212) (o:=.cells #[.int .i64 a0_0,.slice A0_1 l0_1.length c0_1] 28 (0,0)) (pe_ BK212.out)) : gb212 ≠ gb213));have n6_:=Aside0.mk ((by rw [hg];exact Nat.ne_of_gt (blk_lt (g:=gb212) (o:=.cells #[.int .i64 a0_0,.slice A0_1 l0_1.length c0_1] 28 (0,0)) (pe_ BK212.out)) : gb213 ≠ gb212));clear BK212;clear HB;have BK212:=n0_;have HB:=n1_;have BK213:=n2_;have GW213:=n3_;have GE213:=n4_;have NB212_213:=n5_;have NB213_212:=n6_;clear n0_ n1_ n2_ n3_ n4_ n5_ n6_;clear hb hbox hg;have hnb8:=NB212_213.out;have hnc8:=NB213_212.out;have hcz9_0 : w7.cell? ⟨gb212,0,none⟩ = some (.int .i64 a0_0):=(blk_cell BK212.out 0).trans rfl;have hcz9_1 : w7.cell? ⟨gb212,1,none⟩ = some (.slice A0_1 l0_1.length c0_1):=(blk_cell BK212.out 1).trans rfl;have hfz9_0:=blk_frozen BK212.out 0;have hfz9_1:=blk_frozen BK212.out 1;have hcz10_0 : w7.cell? ⟨gb213,0,none⟩ = some (.int .i64 a1_0):=(blk_cell BK213.out 0).trans rfl;have hcz10_1 : w7.cell? ⟨gb213,1,none⟩ = some (.slice A1_1 l1_1.length c1_1):=(blk_cell BK213.out 1).trans rfl;have hfz10_0:=blk_frozen BK213.out 0;have hfz10_1:=blk_frozen BK213.out 1)|((with_reducible refine gate_callee (f:=62) rfl ?_);refine goesL_ (some 14) rfl rfl Try.func62 (by kernel_rfl) rfl #[.slice A0_1 l0_1.length c0_1,.slice A1_1 l1_1.length c1_1] rfl lp_ ?_;(with_reducible refine (laws_eqIntS.calls k _ _ l0_1 _ _ l1_1 true _ ?side1 ?side2 ?side3 ?side4 A4.out).mono ?_);(case side1 => repeat (first|exact (Kd.C_below HR0_1.out HB.out)|(with_reducible refine Kd.C_alloc ?_ _)|(with_reducible refine Kd.C_drewN ?_ _)|(with_reducible refine Kd.C_drew ?_)));(case side2 => exact HC0_1.out);(case side3 => repeat (first|exact (Kd.C_below HR1_1.out HB.out)|(with_reducible refine Kd.C_alloc ?_ _)|(with_reducible refine Kd.C_drewN ?_ _)|(with_reducible refine Kd.C_drew ?_)));(case side4 => exact HC1_1.out);rintro e w' ⟨rfl,⟨nd,rfl⟩⟩;refine ⟨_,rfl,?_⟩))
   go_ret
   exact ⟨by first|rfl|(simp [errW_none,errW_some] <;> rfl)|(simp [*,errW_none,errW_some] <;> rfl),be2_ HB.out GE212.out GE213.out⟩
  ·replace c5:=Bool.eq_false_iff.mpr c5
   subst c5
   have H1 : (some false) = some r:=by rw [if_neg (show ¬ (false = true) by decide)] at H;exact H
   clear H
   have H:=H1
   clear H1
   obtain rfl:=Option.some.inj H
   go_enter Try.func21,Try.ntmps21
   go_wp2_with (first|((with_reducible refine gate_dst (N:=2) rfl ?_);refine box_event ?hg (N:=2) ?hd (cs:=#[.int .i64 a0_0,.slice A0_1 l0_1.length c0_1]) (t:=28) ?hr ?_;(case hd => rfl);(case hg => rfl);(case hr => first|(go_simp;done)|(go_simp;rfl));intro gb212 hg w11 hbox hb;have n0_:=Aside0.mk (below_step (be0_ HB.out) hb);have n1_:=Aside0.mk (hbox);have n2_:=Aside0.mk ((by rw [hg];exact (below_size (be0_ HB.out)) : w.heap.size ≤ gb212));have n3_:=Aside0.mk ((by rw [hg];exact (below_size (be0_ HB.out)) : w.heap.size ≤ gb212));clear HB;have HB:=n0_;have BK212:=n1_;have GW212:=n2_;have GE212:=n3_;clear n0_ n1_ n2_ n3_;clear hb hbox hg)|((with_reducible refine gate_dst (N:=3) rfl ?_);refine box_event ?hg (N:=3) ?hd (cs:=#[.int .i64 a1_0,.slice A1_1 l1_1.length c1_1]) (t:=28) ?hr ?_;(case hd => rfl);(case hg => rfl);(case hr => first|(go_simp;done)|(go_simp;rfl));intro gb213 hg w12 hbox hb;have n0_:=Aside0.mk (blk_below (g:=gb212) (o:=.cells #[.int .i64 a0_0,.slice A0_1 l0_1.length c0_1] 28 (0,0)) (pe_ BK212.out) hb);have n1_:=Aside0.mk (below_step (be1_ HB.out GE212.out) hb);have n2_:=Aside0.mk (hbox);have n3_:=Aside0.mk ((by rw [hg];exact (below_size (be1_ HB.out GE212.out)) : w.heap.size ≤ gb213));have n4_:=Aside0.mk ((by rw [hg];exact (below_size (be1_ HB.out GE212.out)) : w.heap.size ≤ gb213));have n5_:=Aside0.mk ((by rw [hg];exact Nat.ne_of_lt (blk_lt (g:=gb212) (o:=.cells #[.int .i64 a0_0,.slice A0_1 l0_1.length c0_1] 28 (0,0)) (pe_ BK212.out)) : gb212 ≠ gb213));have n6_:=Aside0.mk ((by rw [hg];exact Nat.ne_of_gt (blk_lt (g:=gb212) (o:=.cells #[.int .i64 a0_0,.slice A0_1 l0_1.length c0_1] 28 (0,0)) (pe_ BK212.out)) : gb213 ≠ gb212));clear BK212;clear HB;have BK212:=n0_;have HB:=n1_;have BK213:=n2_;have GW213:=n3_;have GE213:=n4_;have NB212_213:=n5_;have NB213_212:=n6_;clear n0_ n1_ n2_ n3_ n4_ n5_ n6_;clear hb hbox hg;have hnb13:=NB212_213.out;have hnc13:=NB213_212.out;have hcz14_0 : w12.cell? ⟨gb212,0,none⟩ = some (.int .i64 a0_0):=(blk_cell BK212.out 0).trans rfl;have hcz14_1 : w12.cell? ⟨gb212,1,none⟩ = some (.slice A0_1 l0_1.length c0_1):=(blk_cell BK212.out 1).trans rfl;have hfz14_0:=blk_frozen BK212.out 0;have hfz14_1:=blk_frozen BK212.out 1;have hcz15_0 : w12.cell? ⟨gb213,0,none⟩ = some (.int .i64 a1_0):=(blk_cell BK213.out 0).trans rfl;have hcz15_1 : w12.cell? ⟨gb213,1,none⟩ = some (.slice A1_1 l1_1.length c1_1):=(blk_cell BK213.out 1).trans rfl;have hfz15_0:=blk_frozen BK213.out 0;have hfz15_1:=blk_frozen BK213.out 1)|((with_reducible refine gate_callee (f:=62) rfl ?_);refine goesL_ (some 14) rfl rfl Try.func62 (by kernel_rfl) rfl #[.slice A0_1 l0_1.length c0_1,.slice A1_1 l1_1.length c1_1] rfl lp_ ?_;(with_reducible refine (laws_eqIntS.calls k _ _ l0_1 _ _ l1_1 false _ ?side1 ?side2 ?side3 ?side4 A4.out).mono ?_);(case side1 => repeat (first|exact (Kd.C_below HR0_1.out HB.out)|(with_reducible refine Kd.C_alloc ?_ _)|(with_reducible refine Kd.C_drewN ?_ _)|(with_reducible refine Kd.C_drew ?_)));(case side2 => exact HC0_1.out);(case side3 => repeat (first|exact (Kd.C_below HR1_1.out HB.out)|(with_reducible refine Kd.C_alloc ?_ _)|(with_reducible refine Kd.C_drewN ?_ _)|(with_reducible refine Kd.C_drew ?_)));(case side4 => exact HC1_1.out);rintro e w' ⟨rfl,⟨nd,rfl⟩⟩;refine ⟨_,rfl,?_⟩))
   go_ret
   exact ⟨by first|rfl|(simp [errW_none,errW_some] <;> rfl)|(simp [*,errW_none,errW_some] <;> rfl),be2_ HB.out GE212.out GE213.out⟩
 ·rw [if_neg c3] at H
  have c3b0 : (a0_0 == a1_0) = false:=beq_eq_false_iff_ne.mpr c3
  have c3b1 : (a0_0 != a1_0) = true:=bne_iff_ne.mpr c3
  obtain rfl:=Option.some.inj H
  go_enter Try.func21,Try.ntmps21
  go_wp2_with (first|((with_reducible refine gate_dst (N:=2) rfl ?_);refine box_event ?hg (N:=2) ?hd (cs:=#[.int .i64 a0_0,.slice A0_1 l0_1.length c0_1]) (t:=28) ?hr ?_;(case hd => rfl);(case hg => rfl);(case hr => first|(go_simp;done)|(go_simp;rfl));intro gb212 hg w16 hbox hb;have n0_:=Aside0.mk (below_step (be0_ HB.out) hb);have n1_:=Aside0.mk (hbox);have n2_:=Aside0.mk ((by rw [hg];exact (below_size (be0_ HB.out)) : w.heap.size ≤ gb212));have n3_:=Aside0.mk ((by rw [hg];exact (below_size (be0_ HB.out)) : w.heap.size ≤ gb212));clear HB;have HB:=n0_;have BK212:=n1_;have GW212:=n2_;have GE212:=n3_;clear n0_ n1_ n2_ n3_;clear hb hbox hg)|((with_reducible refine gate_dst (N:=3) rfl ?_);refine box_event ?hg (N:=3) ?hd (cs:=#[.int .i64 a1_0,.slice A1_1 l1_1.length c1_1]) (t:=28) ?hr ?_;(case hd => rfl);(case hg => rfl);(case hr => first|(go_simp;done)|(go_simp;rfl));intro gb213 hg w17 hbox hb;have n0_:=Aside0.mk (blk_below (g:=gb212) (o:=.cells #[.int .i64 a0_0,.slice A0_1 l0_1.length c0_1] 28 (0,0)) (pe_ BK212.out) hb);have n1_:=Aside0.mk (below_step (be1_ HB.out GE212.out) hb);have n2_:=Aside0.mk (hbox);have n3_:=Aside0.mk ((by rw [hg];exact (below_size (be1_ HB.out GE212.out)) : w.heap.size ≤ gb213));have n4_:=Aside0.mk ((by rw [hg];exact (below_size (be1_ HB.out GE212.out)) : w.heap.size ≤ gb213));have n5_:=Aside0.mk ((by rw [hg];exact Nat.ne_of_lt (blk_lt (g:=gb212) (o:=.cells #[.int .i64 a0_0,.slice A0_1 l0_1.length c0_1] 28 (0,0)) (pe_ BK212.out)) : gb212 ≠ gb213));have n6_:=Aside0.mk ((by rw [hg];exact Nat.ne_of_gt (blk_lt (g:=gb212) (o:=.cells #[.int .i64 a0_0,.slice A0_1 l0_1.length c0_1] 28 (0,0)) (pe_ BK212.out)) : gb213 ≠ gb212));clear BK212;clear HB;have BK212:=n0_;have HB:=n1_;have BK213:=n2_;have GW213:=n3_;have GE213:=n4_;have NB212_213:=n5_;have NB213_212:=n6_;clear n0_ n1_ n2_ n3_ n4_ n5_ n6_;clear hb hbox hg;have hnb18:=NB212_213.out;have hnc18:=NB213_212.out;have hcz19_0 : w17.cell? ⟨gb212,0,none⟩ = some (.int .i64 a0_0):=(blk_cell BK212.out 0).trans rfl;have hcz19_1 : w17.cell? ⟨gb212,1,none⟩ = some (.slice A0_1 l0_1.length c0_1):=(blk_cell BK212.out 1).trans rfl;have hfz19_0:=blk_frozen BK212.out 0;have hfz19_1:=blk_frozen BK212.out 1;have hcz20_0 : w17.cell? ⟨gb213,0,none⟩ = some (.int .i64 a1_0):=(blk_cell BK213.out 0).trans rfl;have hcz20_1 : w17.cell? ⟨gb213,1,none⟩ = some (.slice A1_1 l1_1.length c1_1):=(blk_cell BK213.out 1).trans rfl;have hfz20_0:=blk_frozen BK213.out 0;have hfz20_1:=blk_frozen BK213.out 1))
  go_ret
  exact ⟨by first|rfl|(simp [errW_none,errW_some] <;> rfl)|(simp [*,errW_none,errW_some] <;> rfl),be2_ HB.out GE212.out GE213.out⟩
end Go.Proofs.Ytengegdaiphfeaa.X
end
section
namespace Go.Proofs.Ytengegdaiphfeaa.X
open Go.RowKit Go.Proofs.YtengegdaiphfeaaW.PrintWords Go.Proofs.YtengegdaiphfeaaW.PrintLast Go.Proofs.YtengegdaiphfeaaW.PrintMore
attribute [local go_sem] max2_int min2_int max_two min_two max_three min_three max_four min_four
set_option linter.unusedVariables false
set_option linter.unusedSimpArgs false
def laws_szIntS.f (l0 : List Int) (a1 : Int) : Option (Int):=if (wrap64 (a1 - (l0.length : Int))) < 0 then (some (-1)) else (some (wrap64 (a1 - (l0.length : Int))))
set_option maxHeartbeats 8000000 in
set_option maxRecDepth 100000 in
theorem laws_szIntS.calls (A0 : Option Addr) (c0 : Nat) (l0 : List Int) (a1 : Int) (r : Int) (w : World) (hr0 : Kd.C (Kd.int .i64) w A0 l0.length l0) (hc0 : l0.length ≤ c0) (h : laws_szIntS.f l0 a1 = some r) :
  Calls Try.prog 54 #[.slice A0 l0.length c0,.int .i64 a1] w fun e w' => e = .returned (.int .i64 r) ∧ Drawn0 w w':=by
 have HR0:=Aside0.mk hr0
 have HC0:=Aside0.mk hc0
 clear hr0 hc0
 have H : (if (wrap64 (a1 - (l0.length : Int))) < 0 then (some (-1)) else (some (wrap64 (a1 - (l0.length : Int))))) = some r:=h
 clear h
 by_cases c3 : (wrap64 (a1 - (l0.length : Int))) < 0
 ·rw [if_pos c3] at H
  have c3b0 : decide ((wrap64 (a1 - (l0.length : Int))) < 0) = true:=decide_eq_true c3
  clear c3
  obtain rfl:=Option.some.inj H
  go_enter Try.func54,Try.ntmps54
  go_wp2
  go_ret
  exact ⟨by first|rfl|(simp;done)|(simp [*];done),by repeat (first|exact Drawn0.refl _|apply Drawn0.step)⟩
 ·rw [if_neg c3] at H
  have c3b0 : decide ((wrap64 (a1 - (l0.length : Int))) < 0) = false:=decide_eq_false c3
  clear c3
  obtain rfl:=Option.some.inj H
  go_enter Try.func54,Try.ntmps54
  go_wp2
  go_ret
  exact ⟨by first|rfl|(simp;done)|(simp [*];done),by repeat (first|exact Drawn0.refl _|apply Drawn0.step)⟩
end Go.Proofs.Ytengegdaiphfeaa.X
end
section
namespace Go.Proofs.Ytengegdaiphfeaa.X
open Go.RowKit Go.Proofs.YtengegdaiphfeaaW.PrintWords Go.Proofs.YtengegdaiphfeaaW.PrintLast Go.Proofs.YtengegdaiphfeaaW.PrintMore
attribute [local go_sem] max2_int min2_int max_two min_two max_three min_three max_four min_four
set_option linter.unusedVariables false
set_option linter.unusedSimpArgs false
def laws_szMatrix.f (a0_0 : Int) (l0_1 : List Int) (a1 : Int) : Option (Int):=(laws_szIntS.f l0_1 a1).bind fun t152 => (if t152 < 0 then (some (-1)) else (some t152))
set_option maxHeartbeats 8000000 in
set_option maxRecDepth 100000 in
theorem laws_szMatrix.calls (a0_0 : Int) (A0_1 : Option Addr) (c0_1 : Nat) (l0_1 : List Int) (a1 : Int) (r : Int) (w : World) (hr0_1 : Kd.C (Kd.int .i64) w A0_1 l0_1.length l0_1) (hc0_1 : l0_1.length ≤ c0_1) (h : laws_szMatrix.f a0_0 l0_1 a1 = some r) :
  Calls Try.prog 17 #[.agg #[.int .i64 a0_0,.slice A0_1 l0_1.length c0_1],.int .i64 a1] w fun e w' => e = .returned (.int .i64 r) ∧ Below w.heap.size w w':=by
 have hu26:=Try.underlying26
 have HR0_1:=Aside0.mk hr0_1
 have HC0_1:=Aside0.mk hc0_1
 clear hr0_1 hc0_1
 have HB:=Aside0.mk (Below.refl w.heap.size w)
 have H : ((laws_szIntS.f l0_1 a1).bind fun t152 => (if t152 < 0 then (some (-1)) else (some t152))) = some r:=h
 clear h
 replace H:=Option.bind_eq_some_iff.mp H
 obtain ⟨t152,A30,H⟩:=H
 replace H : (if t152 < 0 then (some (-1)) else (some t152)) = some r:=H
 have A3:=Aside0.mk A30
 clear A30
 by_cases c4 : t152 < 0
 ·rw [if_pos c4] at H
  have c4b0 : decide (t152 < 0) = true:=decide_eq_true c4
  clear c4
  obtain rfl:=Option.some.inj H
  go_enter Try.func17,Try.ntmps17
  go_wp2_with (first|((with_reducible refine gate_dst (N:=2) rfl ?_);refine box_event ?hg (N:=2) ?hd (cs:=#[.int .i64 a0_0,.slice A0_1 l0_1.length c0_1]) (t:=26) ?hr ?_;(case hd => rfl);(case hg => rfl);(case hr => first|(go_simp;done)|(go_simp;rfl));intro gb151 hg w5 hbox hb;have n0_:=Aside0.mk (below_step (be0_ HB.out) hb);have n1_:=Aside0.mk (hbox);have n2_:=Aside0.mk ((by rw [hg];exact (below_size (be0_ HB.out)) : w.heap.size ≤ gb151));have n3_:=Aside0.mk ((by rw [hg];exact (below_size (be0_ HB.out)) : w.heap.size ≤ gb151));clear HB;have HB:=n0_;have BK151:=n1_;have GW151:=n2_;have GE151:=n3_;clear n0_ n1_ n2_ n3_;clear hb hbox hg;have hcz6_0 : w5.cell? ⟨gb151,0,none⟩ = some (.int .i64 a0_0):=(blk_cell BK151.out 0).trans rfl;have hcz6_1 : w5.cell? ⟨gb151,1,none⟩ = some (.slice A0_1 l0_1.length c0_1):=(blk_cell BK151.out 1).trans rfl;have hfz6_0:=blk_frozen BK151.out 0;have hfz6_1:=blk_frozen BK151.out 1)|((with_reducible refine gate_callee (f:=54) rfl ?_);refine goesL_ (some 8) rfl rfl Try.func54 (by kernel_rfl) rfl #[.slice A0_1 l0_1.length c0_1,.int .i64 a1] rfl lp_ ?_;(with_reducible refine (laws_szIntS.calls _ _ l0_1 a1 t152 _ ?side1 ?side2 A3.out).mono ?_);(case side1 => repeat (first|exact (Kd.C_below HR0_1.out HB.out)|(with_reducible refine Kd.C_alloc ?_ _)|(with_reducible refine Kd.C_drewN ?_ _)|(with_reducible refine Kd.C_drew ?_)));(case side2 => exact HC0_1.out);rintro e w' ⟨rfl,⟨nd,rfl⟩⟩;refine ⟨_,rfl,?_⟩))
  go_ret
  exact ⟨by first|rfl|(simp [errW_none,errW_some] <;> rfl)|(simp [*,errW_none,errW_some] <;> rfl),be1_ HB.out GE151.out⟩
 ·rw [if_neg c4] at H
  have c4b0 : decide (t152 < 0) = false:=decide_eq_false c4
  clear c4
  obtain rfl:=Option.some.inj H
  go_enter Try.func17,Try.ntmps17
  go_wp2_with (first|((with_reducible refine gate_dst (N:=2) rfl ?_);refine box_event ?hg (N:=2) ?hd (cs:=#[.int .i64 a0_0,.slice A0_1 l0_1.length c0_1]) (t:=26) ?hr ?_;(case hd => rfl);(case hg => rfl);(case hr => first|(go_simp;done)|(go_simp;rfl));intro gb151 hg w7 hbox hb;have n0_:=Aside0.mk (below_step (be0_ HB.out) hb);have n1_:=Aside0.mk (hbox);have n2_:=Aside0.mk ((by rw [hg];exact (below_size (be0_ HB.out)) : w.heap.size ≤ gb151));have n3_:=Aside0.mk ((by rw [hg];exact (below_size (be0_ HB.out)) : w.heap.size ≤ gb151));clear HB;have HB:=n0_;have BK151:=n1_;have GW151:=n2_;have GE151:=n3_;clear n0_ n1_ n2_ n3_;clear hb hbox hg;have hcz8_0 : w7.cell? ⟨gb151,0,none⟩ = some (.int .i64 a0_0):=(blk_cell BK151.out 0).trans rfl;have hcz8_1 : w7.cell? ⟨gb151,1,none⟩ = some (.slice A0_1 l0_1.length c0_1):=(blk_cell BK151.out 1).trans rfl;have hfz8_0:=blk_frozen BK151.out 0;have hfz8_1:=blk_frozen BK151.out 1)|((with_reducible refine gate_callee (f:=54) rfl ?_);refine goesL_ (some 8) rfl rfl Try.func54 (by kernel_rfl) rfl #[.slice A0_1 l0_1.length c0_1,.int .i64 a1] rfl lp_ ?_;(with_reducible refine (laws_szIntS.calls _ _ l0_1 a1 t152 _ ?side1 ?side2 A3.out).mono ?_);(case side1 => repeat (first|exact (Kd.C_below HR0_1.out HB.out)|(with_reducible refine Kd.C_alloc ?_ _)|(with_reducible refine Kd.C_drewN ?_ _)|(with_reducible refine Kd.C_drew ?_)));(case side2 => exact HC0_1.out);rintro e w' ⟨rfl,⟨nd,rfl⟩⟩;refine ⟨_,rfl,?_⟩))
  go_ret
  exact ⟨by first|rfl|(simp [errW_none,errW_some] <;> rfl)|(simp [*,errW_none,errW_some] <;> rfl),be1_ HB.out GE151.out⟩
end Go.Proofs.Ytengegdaiphfeaa.X
end
section
namespace Go.Proofs.Ytengegdaiphfeaa.X
open Go.RowKit Go.Proofs.YtengegdaiphfeaaW.PrintWords Go.Proofs.YtengegdaiphfeaaW.PrintLast Go.Proofs.YtengegdaiphfeaaW.PrintMore
attribute [local go_sem] max2_int min2_int max_two min_two max_three min_three max_four min_four
set_option linter.unusedVariables false
set_option linter.unusedSimpArgs false
def laws_toIntS.l0 : Nat → List Int → List Int → Int → Option (List Int)
 | 0,_,_,_ => none
 | k + 1,x0,x3,x4 => if x4 < (x0.length : Int) then (if 0 ≤ x4 then (if x4 < (x3.length : Int) then (laws_toIntS.l0 k x0 (x3.set (x4 : Int).toNat (rd x0 x4)) (wrap64 (x4 + 1))) else (none)) else (none)) else (some x3)
def laws_toIntS.f (k : Nat) (l0 : List Int) : Option (List Int):=if 0 ≤ (l0.length : Int) then (if ((l0.length : Int) : Int).toNat ≤ 35184372088832 then (laws_toIntS.l0 k l0 (List.replicate ((l0.length : Int) : Int).toNat 0) 0) else (none)) else (none)
theorem laws_toIntS.mono_l : ∀ k,(∀ y0 y1 y2,LeO (laws_toIntS.l0 k y0 y1 y2) (laws_toIntS.l0 (k + 1) y0 y1 y2))
 | 0 => fun _ _ _ r h => by simp [laws_toIntS.l0] at h
 | k + 1 => by
  have ih0:=laws_toIntS.mono_l k
  ·intro y0 y1 y2
   unfold laws_toIntS.l0
   repeat' first
   | (with_reducible exact ih0 _ _ _)
   | (with_reducible exact LeO.refl _)
   | (with_reducible exact LeO.none _)
   | (with_reducible refine LeO.ite ?_ ?_)
   | (with_reducible refine LeO.bind ?_ (fun _ => ?_))
   | exact ih0 _ _ _
   | exact LeO.none _
   | refine LeO.ite ?_ ?_
   | refine LeO.bind ?_ (fun _ => ?_)
theorem laws_toIntS.mono : ∀ a0 k,LeO (laws_toIntS.f k a0) (laws_toIntS.f (k + 1) a0):=by
 intro a0 k
 have ih0:=laws_toIntS.mono_l k
 unfold laws_toIntS.f
 repeat' first
   | (with_reducible exact ih0 _ _ _)
   | (with_reducible exact LeO.refl _)
   | (with_reducible exact LeO.none _)
   | (with_reducible refine LeO.ite ?_ ?_)
   | (with_reducible refine LeO.bind ?_ (fun _ => ?_))
   | exact ih0 _ _ _
   | exact LeO.none _
   | refine LeO.ite ?_ ?_
   | refine LeO.bind ?_ (fun _ => ?_)
set_option maxHeartbeats 8000000 in
set_option maxRecDepth 100000 in
theorem laws_toIntS.calls (k : Nat) (A0 : Option Addr) (c0 : Nat) (l0 : List Int) (r : List Int) (w : World) (hr0 : Kd.C (Kd.int .i64) w A0 l0.length l0) (hc0 : l0.length ≤ c0) (h : laws_toIntS.f k l0 = some r) :
  Calls Try.prog 57 #[.slice A0 l0.length c0] w fun e w' => ∃ v0_ : Value,e = .returned (v0_) ∧ Kd.R (Kd.int .i64) 3 w' w.heap.size (fun _ => True) v0_ r ∧ Below w.heap.size w w':=by
 have HR0:=Aside0.mk hr0
 have HC0:=Aside0.mk hc0
 clear hr0 hc0
 have HB:=Aside0.mk (Below.refl w.heap.size w)
 have H : (if 0 ≤ (l0.length : Int) then (if ((l0.length : Int) : Int).toNat ≤ 35184372088832 then (laws_toIntS.l0 k l0 (List.replicate ((l0.length : Int) : Int).toNat 0) 0) else (none)) else (none)) = some r:=h
 clear h
 by_cases c2 : 0 ≤ (l0.length : Int)
 ·rw [if_pos c2] at H
  have c2b0:=eq_true c2
  have c2b1 : decide (0 ≤ (l0.length : Int)) = true:=decide_eq_true c2
  clear c2
  by_cases c3 : ((l0.length : Int) : Int).toNat ≤ 35184372088832
  ·rw [if_pos c3] at H
   have c3b0:=eq_true c3
   have c3b1 : decide (((l0.length : Int) : Int).toNat ≤ 35184372088832) = true:=decide_eq_true c3
   clear c3
   obtain ⟨y178,hy178⟩ : ∃ y_ : List Int,y_ = (List.replicate ((l0.length : Int) : Int).toNat 0):=⟨_,rfl⟩
   replace H : (laws_toIntS.l0 k l0 y178 0) = some r:=by first|(rw [hy178];with_reducible exact H)|(have H2_:=(Option.bind_some _ _).symm.trans H;rw [hy178];with_reducible exact H2_)|(have H2_:=(Option.bind_some _ _).symm.trans H;with_reducible exact H2_)|with_reducible exact H|(rw [hy178];exact H)|exact H
   have Ny178:=Aside0.mk hy178
   clear hy178
   have H':=Aside0.mk H
   clear H
   go_enter Try.func57,Try.ntmps57
   go_wp2_with (first|((with_reducible refine gate_dst (N:=7) rfl ?_);refine Kd.R_make (Kd.int .i64) _ 3 rfl (N:=7) rfl 24 _ _ rfl (l0.length : Int) rfl rfl Try.underlying24 (.int .i64 0) 8 info3 rfl (by decide) (by omega) 0 (ok:=fun _ => True) (okp:=fun _ => True) rfl (fun _ hk => hk) trivial (of_decide_eq_true (by first|(with_reducible assumption)|assumption)) (Nat.le_trans (Nat.mul_le_mul_right _ (of_decide_eq_true (by first|(with_reducible assumption)|assumption) : (l0.length : Int).toNat ≤ 35184372088832)) (by omega)) (Below.refl _ _) (Nat.le_refl _) ?_;intro v179 w4 ho5 hb hg_ hnew_;clear hg_ hnew_;(first|rw [← Ny178.out] at ho5|(simp only [Int.reduceToNat] at ho5;rw [← Ny178.out] at ho5));have n0_:=Aside0.mk (Kd.R_lower ho5 (below_size (be0_ HB.out)));have n1_:=Aside0.mk (below_step (be0_ HB.out) hb);clear HB;have HO180:=n0_;have HB:=n1_;clear n0_ n1_;clear hb ho5))
   go_loopg [4] k (fun kq v4 w' => ∃ (x3_1 : List Int) (x4_1 : Int),v4 = .int .i64 x4_1 ∧ Aside0 (laws_toIntS.l0 kq l0 x3_1 x4_1 = some r) ∧ Aside0 (kq ≤ k) ∧ Aside0 (Kd.R (Kd.int .i64) 3 w' w.heap.size (fun _ => True) v179 x3_1) ∧ Aside0 (Below w.heap.size w w'))
   case atStart => exact ⟨(y178),(0),(by first|rfl|(simp;done)|(simp [*];done)),H',⟨Nat.le_refl _⟩,⟨pr_ HO180.out⟩,⟨be0_ HB.out⟩⟩
   case round =>
    clear H'
    try clear c2
    try clear c2b0
    try clear c2b1
    try clear p2
    try clear c3
    try clear c3b0
    try clear c3b1
    try clear c5
    obtain ⟨x3_1,x4_1,rfl,HA,HK1,HO_3,HB⟩:=hrel
    cases gk with
    | zero => exact absurd HA.out (by simp [laws_toIntS.l0])
    | succ k1 =>
     have H:=HA.out
     clear HA
     simp only [laws_toIntS.l0] at H
     by_cases c6 : x4_1 < (l0.length : Int)
     ·rw [if_pos c6] at H
      have c6b0 : decide (x4_1 < (l0.length : Int)) = true:=decide_eq_true c6
      clear c6
      by_cases c7 : 0 ≤ x4_1
      ·rw [if_pos c7] at H
       have c7b0 : decide (0 ≤ x4_1) = true:=decide_eq_true c7
       clear c7
       by_cases c8 : x4_1 < (x3_1.length : Int)
       ·rw [if_pos c8] at H
        have c8b0 : decide (x4_1 < (x3_1.length : Int)) = true:=decide_eq_true c8
        clear c8
        obtain ⟨y182,hy182⟩ : ∃ y_ : List Int,y_ = (x3_1.set (x4_1 : Int).toNat (rd l0 x4_1)):=⟨_,rfl⟩
        replace H : (laws_toIntS.l0 k1 l0 y182 (wrap64 (x4_1 + 1))) = some r:=by first|(rw [hy182];with_reducible exact H)|(have H2_:=(Option.bind_some _ _).symm.trans H;rw [hy182];with_reducible exact H2_)|(have H2_:=(Option.bind_some _ _).symm.trans H;with_reducible exact H2_)|with_reducible exact H|(rw [hy182];exact H)|exact H
        have Ny182:=Aside0.mk hy182
        clear hy182
        have H':=Aside0.mk H
        clear H
        have p181 : 0 ≤ (x4_1 : Int):=of_decide_eq_true (by first|(with_reducible assumption)|assumption)
        have q181 : x4_1 < (l0.length : Int):=of_decide_eq_true (by first|(with_reducible assumption)|assumption)
        obtain ⟨ad181,e181,hx181_0⟩:=Kd.at_int HR0.out x4_1 p181 q181
        cases e181
        replace hx181_0:=(HB.out.cell (World.block_lt_of_cell? w _ hx181_0)).trans hx181_0
        replace p181:=eq_true p181
        replace q181:=eq_true q181
        have p9 : 0 ≤ (x4_1 : Int):=of_decide_eq_true (by first|(with_reducible assumption)|assumption)
        have q9 : (x4_1 : Int) < ((x3_1.length : Int) : Int):=of_decide_eq_true (by first|(with_reducible assumption)|assumption)
        obtain ⟨go9,co9,eo9,gb9,gl9,cl9,HG9⟩:=Kd.R_form HO_3.out (by omega)
        (first|cases eo9|(injection eo9 with ea_ en_ ec_;(first|subst ea_|(injection ea_ with ea_;subst ea_));subst ec_;clear en_))
        have GB9:=Aside0.mk gb9
        have GG9:=Aside0.mk HG9
        clear gb9 gl9 HG9
        obtain ⟨hx9_0,hf9_0⟩:=Kd.R_celln 0 HO_3.out (x4_1 : Int) p9 q9
        replace p9:=eq_true p9
        replace q9:=eq_true q9
        have HP10:=Kd.R_putg HO_3.out (x4_1 : Int) (rd l0 x4_1)
        go_wp2_with (first|((with_reducible refine gate_store (t:=3) (p:=20) rfl ?_);refine store_event (t:=3) (p:=20) (v:=?vo_w11) (w1:=(wr.setCell ⟨go9,(x4_1 : Int).toNat,none⟩ (.int .i64 (rd l0 x4_1)))) ?hg ?ho ?hn ?hr ?_;(case ho => rfl);(case hg => rfl);(case hn => rfl);(case hr => first|(go_simp;done)|(go_simp;rfl));intro w11 hw;have hg : wr.grownBy w11 (some go9):=(by rw [hw];exact HP10.2);have hp_ : Kd.R (Kd.int .i64) 3 w11 w.heap.size (fun _ => True) (.slice (some ⟨go9,0,none⟩) x3_1.length co9) y182:=(by rw [hw,Ny182.out];exact HP10.1);clear HP10;have n0_:=Aside0.mk (hp_);have n1_:=Aside0.mk ((by rw [hw];exact below_set (HB.out) GB9.out : Below w.heap.size w w11));clear HO_3;clear HB;have HO_3:=n0_;have HB:=n1_;clear n0_ n1_;clear hg hw hp_))
        go_roundg k1
        case measure => have:=HK1.out;omega
        case rel => exact ⟨(y182),(wrap64 (x4_1 + 1)),(by first|rfl|(simp;done)|(simp [*];done)),H',⟨by have:=HK1.out;omega⟩,⟨pr_ HO_3.out⟩,⟨be0_ HB.out⟩⟩
       ·rw [if_neg c8] at H
        exact absurd H (by simp)
      ·rw [if_neg c7] at H
       exact absurd H (by simp)
     ·rw [if_neg c6] at H
      have c6b0 : decide (x4_1 < (l0.length : Int)) = false:=decide_eq_false c6
      clear c6
      obtain rfl:=Option.some.inj H
      go_wp2
      go_ret
      exact ⟨_,by first|rfl|(simp [errW_none,errW_some] <;> rfl)|(simp [*,errW_none,errW_some] <;> rfl),pr_ HO_3.out,be0_ HB.out⟩
  ·rw [if_neg c3] at H
   exact absurd H (by simp)
 ·rw [if_neg c2] at H
  exact absurd H (by simp)
end Go.Proofs.Ytengegdaiphfeaa.X
end
section
namespace Go.Proofs.Ytengegdaiphfeaa.X
open Go.RowKit Go.Proofs.YtengegdaiphfeaaW.PrintWords Go.Proofs.YtengegdaiphfeaaW.PrintLast Go.Proofs.YtengegdaiphfeaaW.PrintMore
attribute [local go_sem] max2_int min2_int max_two min_two max_three min_three max_four min_four
set_option linter.unusedVariables false
set_option linter.unusedSimpArgs false
def laws_toMatrix.f (k : Nat) (a0_0 : Int) (l0_1 : List Int) : Option (Int × List Int):=(laws_toIntS.f k l0_1).bind fun t186 => (some (a0_0,t186))
theorem laws_toMatrix.mono : ∀ a0 a1 k,LeO (laws_toMatrix.f k a0 a1) (laws_toMatrix.f (k + 1) a0 a1):=by
 intro a0 a1 k
 unfold laws_toMatrix.f
 repeat' first
   | (with_reducible exact laws_toIntS.mono _ _)
   | (with_reducible exact LeO.refl _)
   | (with_reducible exact LeO.none _)
   | (with_reducible refine LeO.ite ?_ ?_)
   | (with_reducible refine LeO.bind ?_ (fun _ => ?_))
   | exact laws_toIntS.mono _ _
   | exact LeO.none _
   | refine LeO.ite ?_ ?_
   | refine LeO.bind ?_ (fun _ => ?_)
set_option maxHeartbeats 8000000 in
set_option maxRecDepth 100000 in
theorem laws_toMatrix.calls (k : Nat) (a0_0 : Int) (A0_1 : Option Addr) (c0_1 : Nat) (l0_1 : List Int) (r1 : Int) (r2 : List Int) (w : World) (hr0_1 : Kd.C (Kd.int .i64) w A0_1 l0_1.length l0_1) (hc0_1 : l0_1.length ≤ c0_1) (h : laws_toMatrix.f k a0_0 l0_1 = some (r1,r2)) :
  Calls Try.prog 19 #[.agg #[.int .i64 a0_0,.slice A0_1 l0_1.length c0_1]] w fun e w' => ∃ v1_ : Value,e = .returned (.agg #[.int .i64 r1,v1_]) ∧ Kd.R (Kd.int .i64) 3 w' w.heap.size (fun _ => True) v1_ r2 ∧ Below w.heap.size w w':=by
 have hu26:=Try.underlying26
 have hu28:=Try.underlying28
 have HR0_1:=Aside0.mk hr0_1
 have HC0_1:=Aside0.mk hc0_1
 clear hr0_1 hc0_1
 have HB:=Aside0.mk (Below.refl w.heap.size w)
 have H : ((laws_toIntS.f k l0_1).bind fun t186 => (some (a0_0,t186))) = some (r1,r2):=h
 clear h
 replace H:=Option.bind_eq_some_iff.mp H
 obtain ⟨t186,A20,H⟩:=H
 replace H : (some (a0_0,t186)) = some (r1,r2):=H
 have A2:=Aside0.mk A20
 clear A20
 simp only [Option.some.injEq,Prod.mk.injEq] at H
 obtain ⟨rfl,rfl⟩:=H
 go_enter Try.func19,Try.ntmps19
 go_wp2_with (first|((with_reducible refine gate_dst (N:=1) rfl ?_);refine box_event ?hg (N:=1) ?hd (cs:=#[.int .i64 a0_0,.slice A0_1 l0_1.length c0_1]) (t:=26) ?hr ?_;(case hd => rfl);(case hg => rfl);(case hr => first|(go_simp;done)|(go_simp;rfl));intro gb183 hg w3 hbox hb;have n0_:=Aside0.mk (below_step (be0_ HB.out) hb);have n1_:=Aside0.mk (hbox);have n2_:=Aside0.mk ((by rw [hg];exact (below_size (be0_ HB.out)) : w.heap.size ≤ gb183));have n3_:=Aside0.mk ((by rw [hg];exact (below_size (be0_ HB.out)) : w.heap.size ≤ gb183));clear HB;have HB:=n0_;have BK183:=n1_;have GW183:=n2_;have GE183:=n3_;clear n0_ n1_ n2_ n3_;clear hb hbox hg)|((with_reducible refine gate_dst (N:=2) rfl ?_);refine box_event ?hg (N:=2) ?hd (cs:=#[.int .i64 0,.slice none 0 0]) (t:=28) ?hr ?_;(case hd => rfl);(case hg => rfl);(case hr => first|(go_simp;done)|(go_simp;rfl));intro gb184 hg w4 hbox hb;have n0_:=Aside0.mk (blk_below (g:=gb183) (o:=.cells #[.int .i64 a0_0,.slice A0_1 l0_1.length c0_1] 26 (0,0)) (pe_ BK183.out) hb);have n1_:=Aside0.mk (below_step (be1_ HB.out GE183.out) hb);have n2_:=Aside0.mk (hbox);have n3_:=Aside0.mk ((by rw [hg];exact (below_size (be1_ HB.out GE183.out)) : w.heap.size ≤ gb184));have n4_:=Aside0.mk ((by rw [hg];exact (below_size (be1_ HB.out GE183.out)) : w.heap.size ≤ gb184));have n5_:=Aside0.mk ((by rw [hg];exact Nat.ne_of_lt (blk_lt (g:=gb183) (o:=.cells #[.int .i64 a0_0,.slice A0_1 l0_1.length c0_1] 26 (0,0)) (pe_ BK183.out)) : gb183 ≠ gb184));have n6_:=Aside0.mk ((by rw [hg];exact Nat.ne_of_gt (blk_lt (g:=gb183) (o:=.cells #[.int .i64 a0_0,.slice A0_1 l0_1.length c0_1] 26 (0,0)) (pe_ BK183.out)) : gb184 ≠ gb183));clear BK183;clear HB;have BK183:=n0_;have HB:=n1_;have BK184:=n2_;have GW184:=n3_;have GE184:=n4_;have NB183_184:=n5_;have NB184_183:=n6_;clear n0_ n1_ n2_ n3_ n4_ n5_ n6_;clear hb hbox hg)|((with_reducible refine gate_dst (N:=3) rfl ?_);refine box_event ?hg (N:=3) ?hd (cs:=#[.int .i64 0,.slice none 0 0]) (t:=28) ?hr ?_;(case hd => rfl);(case hg => rfl);(case hr => first|(go_simp;done)|(go_simp;rfl));intro gb185 hg w5 hbox hb;have n0_:=Aside0.mk (blk_below (g:=gb183) (o:=.cells #[.int .i64 a0_0,.slice A0_1 l0_1.length c0_1] 26 (0,0)) (pe_ BK183.out) hb);have n1_:=Aside0.mk (blk_below (g:=gb184) (o:=.cells #[.int .i64 0,.slice none 0 0] 28 (0,0)) (pe_ BK184.out) hb);have n2_:=Aside0.mk (below_step (be2_ HB.out GE183.out GE184.out) hb);have n3_:=Aside0.mk (hbox);have n4_:=Aside0.mk ((by rw [hg];exact (below_size (be2_ HB.out GE183.out GE184.out)) : w.heap.size ≤ gb185));have n5_:=Aside0.mk ((by rw [hg];exact (below_size (be2_ HB.out GE183.out GE184.out)) : w.heap.size ≤ gb185));have n6_:=Aside0.mk ((by rw [hg];exact Nat.ne_of_lt (blk_lt (g:=gb183) (o:=.cells #[.int .i64 a0_0,.slice A0_1 l0_1.length c0_1] 26 (0,0)) (pe_ BK183.out)) : gb183 ≠ gb185));have n7_:=Aside0.mk ((by rw [hg];exact Nat.ne_of_gt (blk_lt (g:=gb183) (o:=.cells #[.int .i64 a0_0,.slice A0_1 l0_1.length c0_1] 26 (0,0)) (pe_ BK183.out)) : gb185 ≠ gb183));have n8_:=Aside0.mk ((by rw [hg];exact Nat.ne_of_lt (blk_lt (g:=gb184) (o:=.cells #[.int .i64 0,.slice none 0 0] 28 (0,0)) (pe_ BK184.out)) : gb184 ≠ gb185));have n9_:=Aside0.mk ((by rw [hg];exact Nat.ne_of_gt (blk_lt (g:=gb184) (o:=.cells #[.int .i64 0,.slice none 0 0] 28 (0,0)) (pe_ BK184.out)) : gb185 ≠ gb184));clear BK183;clear BK184;clear HB;have BK183:=n0_;have BK184:=n1_;have HB:=n2_;have BK185:=n3_;have GW185:=n4_;have GE185:=n5_;have NB183_185:=n6_;have NB185_183:=n7_;have NB184_185:=n8_;have NB185_184:=n9_;clear n0_ n1_ n2_ n3_ n4_ n5_ n6_ n7_ n8_ n9_;clear hb hbox hg;have hnb6:=NB183_184.out;have hnc6:=NB184_183.out;have hnb7:=NB183_185.out;have hnc7:=NB185_183.out;have hcz8_0 : w5.cell? ⟨gb183,0,none⟩ = some (.int .i64 a0_0):=(blk_cell BK183.out 0).trans rfl;have hcz8_1 : w5.cell? ⟨gb183,1,none⟩ = some (.slice A0_1 l0_1.length c0_1):=(blk_cell BK183.out 1).trans rfl;have hfz8_0:=blk_frozen BK183.out 0;have hfz8_1:=blk_frozen BK183.out 1;have hnb9:=NB185_184.out;have hnc9:=NB184_185.out;have hcz10_0 : w5.cell? ⟨gb185,0,none⟩ = some (.int .i64 0):=(blk_cell BK185.out 0).trans rfl;have hcz10_1 : w5.cell? ⟨gb185,1,none⟩ = some (.slice none 0 0):=(blk_cell BK185.out 1).trans rfl;have hfz10_0:=blk_frozen BK185.out 0;have hfz10_1:=blk_frozen BK185.out 1)|((with_reducible refine gate_callee (f:=57) rfl ?_);refine goesL_ (some 9) rfl rfl Try.func57 (by kernel_rfl) rfl #[.slice A0_1 l0_1.length c0_1] rfl lp_ ?_;(with_reducible refine (laws_toIntS.calls k _ _ l0_1 t186 _ ?side1 ?side2 A2.out).mono ?_);(case side1 => exact Kd.C_below HR0_1.out (be3_ HB.out GE183.out GE184.out GE185.out));(case side2 => exact HC0_1.out);rintro e w11 ⟨v187,rfl,ho0,hb⟩;refine ⟨_,rfl,?_⟩;have n0_:=Aside0.mk (Kd.R_lower ho0 (below_size (be3_ HB.out GE183.out GE184.out GE185.out)));have n1_:=Aside0.mk (blk_below (g:=gb183) (o:=.cells #[.int .i64 a0_0,.slice A0_1 l0_1.length c0_1] 26 (0,0)) (by refine pe_ ?_;refine blk_far ?_ NB183_185.out _;refine pe_ ?_;exact BK183.out) hb);have n2_:=Aside0.mk (blk_below (g:=gb184) (o:=.cells #[.int .i64 0,.slice none 0 0] 28 (0,0)) (by refine pe_ ?_;refine blk_far ?_ NB184_185.out _;refine pe_ ?_;exact BK184.out) hb);have n3_:=Aside0.mk (blk_below (g:=gb185) (o:=.cells #[.int .i64 a0_0,.slice none 0 0] 28 (0,0)) (by refine pe_ ?_;refine blk_put (cs:=#[.int .i64 0,.slice none 0 0]) ?_ 0 _ rfl;refine pe_ ?_;exact BK185.out) hb);have n4_:=Aside0.mk (below_step (be3_ HB.out GE183.out GE184.out GE185.out) hb);clear BK183;clear BK184;clear BK185;clear HB;have HO188:=n0_;have BK183:=n1_;have BK184:=n2_;have BK185:=n3_;have HB:=n4_;clear n0_ n1_ n2_ n3_ n4_;(try clear hb);(try clear hb2);(try clear hk);(try clear hi);(try clear ho0);obtain ⟨Ao12,co12,eo12⟩:=Kd.R_slice HO188.out;subst eo12;have hcz13_0 : w11.cell? ⟨gb185,0,none⟩ = some (.int .i64 a0_0):=(blk_cell BK185.out 0).trans rfl;have hcz13_1 : w11.cell? ⟨gb185,1,none⟩ = some (.slice none 0 0):=(blk_cell BK185.out 1).trans rfl;have hfz13_0:=blk_frozen BK185.out 0;have hfz13_1:=blk_frozen BK185.out 1;have hcz14_0 : w11.cell? ⟨gb184,0,none⟩ = some (.int .i64 0):=(blk_cell BK184.out 0).trans rfl;have hcz14_1 : w11.cell? ⟨gb184,1,none⟩ = some (.slice none 0 0):=(blk_cell BK184.out 1).trans rfl;have hfz14_0:=blk_frozen BK184.out 0;have hfz14_1:=blk_frozen BK184.out 1))
 refine bodyPost_ret (results_cell_row rfl _ _ gb184 28 #[.int .i64 a0_0,.slice Ao12 t186.length co12] (0,0) _ rfl (by refine pe_ ?_;refine blk_put (cs:=#[.int .i64 a0_0,.slice none 0 0]) ?_ 1 _ rfl;refine pe_ ?_;refine blk_put (cs:=#[.int .i64 0,.slice none 0 0]) ?_ 0 _ rfl;refine pe_ ?_;refine blk_far ?_ NB184_185.out _;refine pe_ ?_;exact BK184.out) Try.underlying28 rfl (by kernel_rfl)) rfl ?_
 exact ⟨_,by first|rfl|(simp [errW_none,errW_some] <;> rfl)|(simp [*,errW_none,errW_some] <;> rfl),by refine pr_ ?_;exact Kd.R_mono (Kd.R_far (p:=⟨gb184,1,none⟩) (Kd.R_far (p:=⟨gb184,0,none⟩) (Kd.R_far (p:=⟨gb185,1,none⟩) (Kd.R_types (Kd.R_types HO188.out BK185.out (by decide)) BK184.out (by decide)) (fun _ hk => hk.1.2) (.slice Ao12 t186.length co12)) (fun _ hk => hk.2) (.int .i64 a0_0)) (fun _ hk => hk.2) (.slice Ao12 t186.length co12)) (fun _ hk => trivial),be3_ HB.out GE183.out GE184.out GE185.out⟩
end Go.Proofs.Ytengegdaiphfeaa.X
end
section
namespace Go.Proofs.Ytengegdaiphfeaa.Y
open Go.RowKit Go.Proofs.Ytengegdaiphfeaa.X Go.Proofs.YtengegdaiphfeaaW.PrintWords Go.Proofs.YtengegdaiphfeaaW.PrintLast Go.Proofs.YtengegdaiphfeaaW.PrintMore
set_option linter.unusedVariables false
set_option linter.unusedSimpArgs false
theorem rd_mid (pre : List Int) (x : Int) (t : List Int) : rd (pre ++ x :: t) (pre.length : Int) = x:=by simp [rd,List.getD_eq_getElem?_getD]
theorem rd_nat (l : List Int) (i : Nat) : rd l (i : Int) = l.getD i 0:=by simp [rd]
theorem snoc_len (pre : List Int) (x : Int) : (((pre ++ [x]).length : Nat) : Int) = (pre.length : Int) + 1:=by simp
theorem wf_in {n : Int} (h : (Lit.int .i64 n).wf = true) : -9223372036854775808 ≤ n ∧ n ≤ 9223372036854775807:=by
 have hmin : IntKind.i64.min = -9223372036854775808:=rfl
 have hmax : IntKind.i64.max = 9223372036854775807:=rfl
 simp only [Lit.wf,Bool.and_eq_true,decide_eq_true_eq] at h
 omega
theorem maxLen_eq : maxLen = 9223372036854775807:=rfl
theorem ev_all {α : Type} {f : Nat → Nat → Option α} {g : Nat → α} (n : Nat) (h : ∀ i,i < n → Ev (f i) (g i)) : ∃ K0,∀ K,K0 ≤ K → ∀ i,i < n → f i K = some (g i):=by
 induction n with
 | zero => exact ⟨0,fun _ _ i hi => by omega⟩
 | succ n ih =>
  obtain ⟨K0,h0⟩:=ih (fun i hi => h i (by omega))
  obtain ⟨K1,h1⟩:=h n (by omega)
  refine ⟨max K0 K1,fun K hK i hi => ?_⟩
  by_cases e : i = n
  ·subst e;exact h1 K (by omega)
  ·exact h0 K (by omega) i (by omega)
theorem ev_up {α : Type} {f : Nat → Option α} {p : Nat → Nat → Option α} {r : α} (h : Ev f r) (hp : ∃ K0,∀ K,K0 ≤ K → ∀ j,LeO (f j) (p K (j + 1))) (hm : ∀ K j,LeO (p K j) (p K (j + 1))) : Ev (fun K => p K K) r:=by
 obtain ⟨K1,h1⟩:=h
 obtain ⟨K0,h0⟩:=hp
 refine ⟨max K0 (K1 + 1),fun K hK => ?_⟩
 have a:=h0 K (by omega) K1 r (h1 K1 (Nat.le_refl _))
 exact at_rounds (g:=p K) (hm K) (show K1 + 1 ≤ K by omega) a
theorem ev_some {α : Type} {f : Nat → Option α} {r : α} (h : ∀ k,f k = some r) : Ev f r:=⟨0,fun k _ => h k⟩
theorem up_loop {β : Type} (n : Nat) (L : Nat → Nat → Option β) (r : β) (step : ∀ i,i < n → Ev (L (i + 1)) r → Ev (L i) r) (h : Ev (L n) r) : Ev (L 0) r:=by
 have go : ∀ d,d ≤ n → Ev (L (n - d)) r:=by
  intro d
  induction d with
  | zero => intro _;exact h
  | succ d ih =>
   intro hd
   have e : n - (d + 1) + 1 = n - d:=by omega
   exact step (n - (d + 1)) (by omega) (by rw [e];exact ih (by omega))
 have:=go n (Nat.le_refl _)
 rwa [Nat.sub_self] at this
def tab (N : Nat) (F : Nat → Int) : List Int:=(List.range N).map F
theorem tab_length (N : Nat) (F : Nat → Int) : (tab N F).length = N:=by simp [tab]
theorem tab_snoc (N : Nat) (F : Nat → Int) : tab N F ++ [F N] = tab (N + 1) F:=by simp [tab,List.range_succ]
theorem tab_get (N : Nat) (F : Nat → Int) (j : Nat) (h : j < N) : (tab N F).getD j 0 = F j:=by
 simp [tab,List.getD_eq_getElem?_getD,List.getElem?_map,List.getElem?_range h]
theorem tab_congr (N : Nat) (F G : Nat → Int) (h : ∀ j,j < N → F j = G j) : tab N F = tab N G:=by
 unfold tab
 exact List.map_congr_left (fun j hj => h j (List.mem_range.mp hj))
theorem mem_tab {N : Nat} {F : Nat → Int} {x : Int} : x ∈ tab N F ↔ ∃ j,j < N ∧ F j = x:=by simp [tab]
theorem eq_tab (l : List Int) (N : Nat) (h : l.length = N) : l = tab N (fun j => l.getD j 0):=by
 apply List.ext_getElem
 ·simp [tab,h]
 ·intro i h1 h2
  simp [tab,List.getD_eq_getElem?_getD,List.getElem?_eq_getElem h1]
theorem fold_snoc {β : Type} (n : Nat) (f : β → Nat → β) (b : β) : (List.range (n + 1)).foldl f b = f ((List.range n).foldl f b) n:=by simp [List.range_succ]
end Go.Proofs.Ytengegdaiphfeaa.Y
end
section
namespace Go.Proofs.Ytengegdaiphfeaa.Y
open Go.RowKit Go.Proofs.Ytengegdaiphfeaa.X Go.Proofs.YtengegdaiphfeaaW.PrintWords Go.Proofs.YtengegdaiphfeaaW.PrintLast Go.Proofs.YtengegdaiphfeaaW.PrintMore
set_option linter.unusedVariables false
set_option linter.unusedSimpArgs false
theorem toIntS_ev (l : List Int) (h : l.length ≤ 1048576) : Ev (fun k => laws_toIntS.f k l) l:=by
 have go : ∀ (t pre : List Int),l = pre ++ t → Ev (fun k => laws_toIntS.l0 k l (pre ++ List.replicate t.length 0) (pre.length : Int)) l:=by
  intro t
  induction t with
  | nil =>
   intro pre hl
   refine Ev.step (f:=fun _ => some l) (fun k => ?_) (Ev.now _)
   simp only [laws_toIntS.l0]
   rw [if_neg (by rw [hl];simp)]
   simp [hl]
  | cons x t ih =>
   intro pre hl
   have hlen : l.length = pre.length + (t.length + 1):=by rw [hl];simp
   refine Ev.step (fun k => ?_) (ih (pre ++ [x]) (by simp [hl]))
   simp only [laws_toIntS.l0]
   rw [if_pos (by omega),if_pos (by omega),if_pos (by simp;omega),w64 (by omega) (by omega),hl,rd_mid,snoc_len,← hl]
   congr 1
   simp [List.replicate_succ,List.set_append]
 refine Ev.congr (fun k => ?_) (go l [] rfl)
 unfold laws_toIntS.f
 rw [if_pos (by omega),if_pos (by omega)]
 simp
theorem eqIntS_ev (a b : List Int) (h : a.length ≤ 1000000000) : Ev (fun k => laws_eqIntS.f k a b) (decide (a = b)):=by
 by_cases hl : a.length = b.length
 ·have go : ∀ (t u pre : List Int),a = pre ++ t → b = pre ++ u → Ev (fun k => laws_eqIntS.l0 k a b (pre.length : Int)) (decide (a = b)):=by
   intro t
   induction t with
   | nil =>
    intro u pre ha hb
    have hu : u = []:=by
     have h1:=congrArg List.length ha
     have h2:=congrArg List.length hb
     simp at h1 h2
     exact List.length_eq_zero_iff.mp (by omega)
    subst hu
    have hab : a = b:=by rw [ha,hb]
    refine Ev.step (f:=fun _ => some true) (fun k => ?_) ((Ev.now _).is (by rw [decide_eq_true hab]))
    simp only [laws_eqIntS.l0]
    rw [if_neg (by rw [ha];simp)]
   | cons x t ih =>
    intro u pre ha hb
    have hla : a.length = pre.length + (t.length + 1):=by rw [ha];simp
    cases u with
    | nil => have h2:=congrArg List.length hb;simp at h2;omega
    | cons y u =>
     by_cases hxy : x = y
     ·subst hxy
      refine Ev.step (fun k => ?_) (ih u (pre ++ [x]) (by simp [ha]) (by simp [hb]))
      simp only [laws_eqIntS.l0]
      rw [if_pos (by omega),if_pos (by omega),if_pos (by omega),w64 (by omega) (by omega),snoc_len,if_pos (by rw [ha,hb,rd_mid,rd_mid])]
     ·have hab : ¬ a = b:=by
       intro e
       rw [ha,hb] at e
       have:=List.append_cancel_left e
       simp at this
       exact hxy this.1
      refine Ev.step (f:=fun _ => some false) (fun k => ?_) ((Ev.now _).is (by rw [decide_eq_false hab]))
      simp only [laws_eqIntS.l0]
      rw [if_pos (by omega),if_pos (by omega),if_pos (by omega),if_neg (by rw [ha,hb,rd_mid,rd_mid];exact hxy)]
  refine Ev.congr (fun k => ?_) (go a b [] rfl rfl)
  unfold laws_eqIntS.f
  rw [if_pos (by omega)];rfl
 ·have hab : ¬ a = b:=fun e => hl (by rw [e])
  refine Ev.congr (f:=fun _ => some false) (fun k => ?_) ((Ev.now _).is (by rw [decide_eq_false hab]))
  unfold laws_eqIntS.f
  rw [if_neg (by omega)]
theorem toMatrix_ev (n : Int) (l : List Int) (h : l.length ≤ 1048576) : Ev (fun k => laws_toMatrix.f k n l) (n,l):=by
 refine Ev.congr (f:=?f1) (fun k => ?h1) ?k1
 case h1 => unfold laws_toMatrix.f;exact rfl
 exact Ev.bind (toIntS_ev l h) (Ev.now _)
theorem eqMatrix_ev (n : Int) (l : List Int) (h : l.length ≤ 1000000000) : Ev (fun k => laws_eqMatrix.f k n l n l) true:=by
 refine Ev.congr (f:=?f2) (fun k => ?h2) ?k2
 case h2 => unfold laws_eqMatrix.f;rw [if_pos rfl] <;> exact rfl
 exact Ev.bind (eqIntS_ev l l h) (Ev.congr (f:=fun _ => some true) (fun k => by simp) (Ev.now _))
theorem szMatrix_eq (n : Int) (l : List Int) (z : Int) (h : l.length ≤ maxLen) (h0 : 0 ≤ z) (h1 : z ≤ 1048576) : laws_szMatrix.f n l z = some (if (l.length : Int) ≤ z then z - l.length else -1):=by
 rw [maxLen_eq] at h
 unfold laws_szMatrix.f laws_szIntS.f
 rw [w64 (by omega) (by omega)]
 by_cases hl : (l.length : Int) ≤ z
 ·rw [if_neg (by omega),if_pos hl,Option.bind_some,if_neg (by omega)]
 ·rw [if_pos (by omega),if_neg hl];rfl
theorem Ev_t {α : Type} {f g : Nat → Option α} {r : α} {c : Prop} [Decidable c] (h : c) (k : Ev f r) : Ev (fun n => if c then f n else g n) r:=Ev.congr (fun n => if_pos h) k
theorem Ev_f {α : Type} {f g : Nat → Option α} {r : α} {c : Prop} [Decidable c] (h : ¬ c) (k : Ev g r) : Ev (fun n => if c then f n else g n) r:=Ev.congr (fun n => if_neg h) k
theorem Ev_sz {α : Type} {o : Option Int} {z : Int} {g : Nat → Int → Option α} {r : α} (h : o = some z) (k : Ev (fun n => g n z) r) : Ev (fun n => o.bind (g n)) r:=Ev.congr (fun n => by rw [h];rfl) k
end Go.Proofs.Ytengegdaiphfeaa.Y
end
section
namespace Go.Proofs.Ytengegdaiphfeaa.X
open Go.RowKit Go.Proofs.YtengegdaiphfeaaW.PrintWords Go.Proofs.YtengegdaiphfeaaW.PrintLast Go.Proofs.YtengegdaiphfeaaW.PrintMore
attribute [local go_sem] max2_int min2_int max_two min_two max_three min_three max_four min_four
set_option linter.unusedVariables false
set_option linter.unusedSimpArgs false
def spec_DrawIdempotentOf.f (k : Nat) (l0 : List Int) : Option (Int × List Int):=(spec_l13Open.f l0).bind fun bt474 => ((spec_l6Some.f k bt474.1 bt474.2).bind fun bt477 => (some (bt477.1,bt477.2.1)))
theorem spec_DrawIdempotentOf.mono : ∀ a0 k,LeO (spec_DrawIdempotentOf.f k a0) (spec_DrawIdempotentOf.f (k + 1) a0):=by
 intro a0 k
 unfold spec_DrawIdempotentOf.f
 repeat' first
   | (with_reducible exact spec_l6Some.mono _ _ _)
   | (with_reducible exact LeO.refl _)
   | (with_reducible exact LeO.none _)
   | (with_reducible refine LeO.ite ?_ ?_)
   | (with_reducible refine LeO.bind ?_ (fun _ => ?_))
   | exact spec_l6Some.mono _ _ _
   | exact LeO.none _
   | refine LeO.ite ?_ ?_
   | refine LeO.bind ?_ (fun _ => ?_)
set_option maxHeartbeats 8000000 in
set_option maxRecDepth 100000 in
theorem spec_DrawIdempotentOf.calls (k : Nat) (A0 : Option Addr) (c0 : Nat) (l0 : List Int) (r1 : Int) (r2 : List Int) (w : World) (hr0 : Kd.C (Kd.int .u8) w A0 l0.length l0) (hc0 : l0.length ≤ c0) (h : spec_DrawIdempotentOf.f k l0 = some (r1,r2)) :
  Calls Try.prog 28 #[.slice A0 l0.length c0] w fun e w' => ∃ v1_ : Value,e = .returned (.agg #[.int .i64 r1,v1_]) ∧ Kd.V (Kd.int .i64) 3 w' w.heap.size (fun k_ => (w.heap.size ≤ k_)) v1_ r2 ∧ Below w.heap.size w w':=by
 have hu28:=Try.underlying28
 have HR0:=Aside0.mk hr0
 have HC0:=Aside0.mk hc0
 clear hr0 hc0
 have HB:=Aside0.mk (Below.refl w.heap.size w)
 have H : ((spec_l13Open.f l0).bind fun bt474 => ((spec_l6Some.f k bt474.1 bt474.2).bind fun bt477 => (some (bt477.1,bt477.2.1)))) = some (r1,r2):=h
 clear h
 replace H:=Option.bind_eq_some_iff.mp H
 obtain ⟨⟨t474,t475⟩,A20,H⟩:=H
 replace H : ((spec_l6Some.f k t474 t475).bind fun bt477 => (some (bt477.1,bt477.2.1))) = some (r1,r2):=H
 have A2:=Aside0.mk A20
 clear A20
 replace H:=Option.bind_eq_some_iff.mp H
 obtain ⟨⟨t477,t478,t481⟩,A30,H⟩:=H
 replace H : (some (t477,t478)) = some (r1,r2):=H
 have A3:=Aside0.mk A30
 clear A30
 simp only [Option.some.injEq,Prod.mk.injEq] at H
 obtain ⟨rfl,rfl⟩:=H
 go_enter Try.func28,Try.ntmps28
 go_wp2_with (first|((with_reducible refine gate_dst (N:=2) rfl ?_);refine box_event ?hg (N:=2) ?hd (cs:=#[.int .i64 0,.slice none 0 0]) (t:=28) ?hr ?_;(case hd => rfl);(case hg => rfl);(case hr => first|(go_simp;done)|(go_simp;rfl));intro gb473 hg w4 hbox hb;have n0_:=Aside0.mk (below_step (be0_ HB.out) hb);have n1_:=Aside0.mk (hbox);have n2_:=Aside0.mk ((by rw [hg];exact (below_size (be0_ HB.out)) : w.heap.size ≤ gb473));have n3_:=Aside0.mk ((by rw [hg];exact (below_size (be0_ HB.out)) : w.heap.size ≤ gb473));clear HB;have HB:=n0_;have BK473:=n1_;have GW473:=n2_;have GE473:=n3_;clear n0_ n1_ n2_ n3_;clear hb hbox hg)|((with_reducible refine gate_callee (f:=71) rfl ?_);refine goesL_ (some 4) rfl rfl Try.func71 (by kernel_rfl) rfl #[.slice A0 l0.length c0] rfl lp_ ?_;(with_reducible refine (spec_l13Open.calls _ _ l0 t474 t475 w _ ?side1 ?side2 ?side3 A2.out).mono ?_);(case side1 => repeat (first|(with_reducible first|exact HB.out|apply below_alloc|apply pw_below_drewN|apply below_drew1|refine below_set ?_ GE473.out)|exact HB.out));(case side2 => exact HR0.out);(case side3 => exact HC0.out);rintro e w5 ⟨g476,rfl,hi,hb,hb2⟩;refine ⟨_,rfl,?_⟩;have n0_:=Aside0.mk (blk_below (g:=gb473) (o:=.cells #[.int .i64 0,.slice none 0 0] 28 (0,0)) (pe_ BK473.out) hb2);have n1_:=Aside0.mk (hb);have n2_:=Aside0.mk (hi);have n3_:=Aside0.mk (IsS90.ne_blk hi (blk_below (g:=gb473) (o:=.cells #[.int .i64 0,.slice none 0 0] 28 (0,0)) (pe_ BK473.out) hb2) (by decide));have n4_:=Aside0.mk (Ne.symm (IsS90.ne_blk hi (blk_below (g:=gb473) (o:=.cells #[.int .i64 0,.slice none 0 0] 28 (0,0)) (pe_ BK473.out) hb2) (by decide)));clear BK473;clear HB;have BK473:=n0_;have HB:=n1_;have HI476:=n2_;have NB476_473:=n3_;have NB473_476:=n4_;clear n0_ n1_ n2_ n3_ n4_;(try clear hb);(try clear hb2);(try clear hk);(try clear hi))|((with_reducible refine gate_callee (f:=70) rfl ?_);refine goesL_ (some 5) rfl rfl Try.func70 (by kernel_rfl) rfl #[.pointer (some ⟨g476,0,none⟩)] rfl lp_ ?_;(with_reducible refine (spec_l6Some.calls k g476 t474 t475 t477 t478 t481 w _ ?side1 ?side2 A3.out).mono ?_);(case side1 => repeat (first|(with_reducible first|exact HI476.out|apply IsS90.alloc|apply IsS90.drewN|apply IsS90.drew|apply IsS90.set_1|refine IsS90.far ?_ NB476_473.out _)|exact HI476.out));(case side2 => repeat (first|(with_reducible first|exact HB.out|apply below_alloc|apply pw_below_drewN|apply below_drew1|refine below_set ?_ (IsS90.ge HI476.out)|refine below_set ?_ GE473.out)|exact HB.out));rintro e w6 ⟨v479,rfl,ho0,hi,hb,hk⟩;refine ⟨_,rfl,?_⟩;have n0_:=Aside0.mk (KeepBut.blk hk (g':=gb473) (o:=.cells #[.int .i64 0,.slice none 0 0] 28 (0,0)) (pe_ BK473.out) NB473_476.out (by simp));have n1_:=Aside0.mk (Kd.V_lower (Kd.V_mono (ok':=fun k_ => (w.heap.size ≤ k_) ∧ k_ ≠ gb473 ∧ k_ ≠ g476) ho0 (fun k_ hk_ => ⟨(Nat.le_trans (below_size (by repeat (first|(with_reducible first|exact HB.out|apply below_alloc|apply pw_below_drewN|apply below_drew1|refine below_set ?_ (IsS90.ge HI476.out)|refine below_set ?_ GE473.out)|exact HB.out))) hk_),(Kd.freshB (g:=gb473) (o:=.cells #[.int .i64 0,.slice none 0 0] 28 (0,0)) (pe_ BK473.out) k_ hk_),(IsS90.fresh (by repeat (first|(with_reducible first|exact HI476.out|apply IsS90.alloc|apply IsS90.drewN|apply IsS90.drew|apply IsS90.set_1|refine IsS90.far ?_ NB476_473.out _)|exact HI476.out)) k_ hk_)⟩)) (below_size (by repeat (first|(with_reducible first|exact HB.out|apply below_alloc|apply pw_below_drewN|apply below_drew1|refine below_set ?_ (IsS90.ge HI476.out)|refine below_set ?_ GE473.out)|exact HB.out))));have n2_:=Aside0.mk (hb);have n3_:=Aside0.mk (hi);clear BK473;clear HB;clear HI476;have BK473:=n0_;have HO480:=n1_;have HB:=n2_;have HI476:=n3_;clear n0_ n1_ n2_ n3_;(try clear hb);(try clear hb2);(try clear hk);(try clear hi);(try clear ho0);have hnb7:=NB473_476.out;have hnc7:=NB476_473.out;have hcz8_0 : w6.cell? ⟨gb473,0,none⟩ = some (.int .i64 0):=(blk_cell BK473.out 0).trans rfl;have hcz8_1 : w6.cell? ⟨gb473,1,none⟩ = some (.slice none 0 0):=(blk_cell BK473.out 1).trans rfl;have hfz8_0:=blk_frozen BK473.out 0;have hfz8_1:=blk_frozen BK473.out 1;obtain ⟨Ao9,co9,eo9⟩:=Kd.V_slice HO480.out;subst eo9))
 refine bodyPost_ret (results_cell_row rfl _ _ gb473 28 #[.int .i64 t477,.slice Ao9 t478.length co9] (0,0) _ rfl (by refine pe_ ?_;refine blk_put (cs:=#[.int .i64 t477,.slice none 0 0]) ?_ 1 _ rfl;refine pe_ ?_;refine blk_put (cs:=#[.int .i64 0,.slice none 0 0]) ?_ 0 _ rfl;refine pe_ ?_;exact BK473.out) Try.underlying28 rfl (by kernel_rfl)) rfl ?_
 exact ⟨_,by first|rfl|(simp [errW_none,errW_some] <;> rfl)|(simp [*,errW_none,errW_some] <;> rfl),by refine pv_ ?_;exact Kd.V_mono (Kd.V_far (p:=⟨gb473,1,none⟩) (Kd.V_far (p:=⟨gb473,0,none⟩) (Kd.V_mono HO480.out (fun k_ hk => (⟨hk,hk.2.1⟩ : _ ∧ k_ ≠ gb473))) (fun _ hk => hk.2) (.int .i64 t477)) (fun _ hk => hk.2) (.slice Ao9 t478.length co9)) (fun _ hk => hk.1.1),by repeat (first|(with_reducible first|exact HB.out|apply below_alloc|apply pw_below_drewN|apply below_drew1|refine below_set ?_ (IsS90.ge HI476.out)|refine below_set ?_ GE473.out)|exact HB.out)⟩
end Go.Proofs.Ytengegdaiphfeaa.X
end
section
namespace Go.Proofs.Ytengegdaiphfeaa.Y
open Go.RowKit Go.Proofs.Ytengegdaiphfeaa.X Go.Proofs.YtengegdaiphfeaaW.PrintWords Go.Proofs.YtengegdaiphfeaaW.PrintLast Go.Proofs.YtengegdaiphfeaaW.PrintMore
set_option linter.unusedVariables false
set_option linter.unusedSimpArgs false
def okCost (x : Int) : Bool:=decide (0 ≤ x ∧ x ≤ 1000000)
def MV (n : Int) (l : List Int) : Prop:=1 ≤ n ∧ n ≤ 4 ∧ (l.length : Int) = n * n ∧ ∀ x ∈ l,0 ≤ x ∧ x ≤ 1000000
def GV (n : Int) (l : List Int) : Prop:=MV n l ∧ ∀ x ∈ l,x ≤ 3
instance (n : Int) (l : List Int) : Decidable (MV n l):=by unfold MV;infer_instance
instance (n : Int) (l : List Int) : Decidable (GV n l):=by unfold GV;infer_instance
theorem icost (a : Int) : impl_CostValid.f a = some (okCost a):=by
 unfold impl_CostValid.f okCost
 by_cases h : a ≥ 0
 ·rw [if_pos h];by_cases h2 : a ≤ 1000000 <;> simp [h2] <;> omega
 ·rw [if_neg h];simp;omega
theorem scost (a : Int) : spec_CostValid.f a = some (okCost a):=by
 unfold spec_CostValid.f spec_l1In.f okCost
 by_cases h : a ≥ 0
 ·rw [if_pos h];by_cases h2 : a ≤ 1000000 <;> simp [h2] <;> omega
 ·rw [if_neg h];simp;omega
theorem sIn (a lo hi : Int) : spec_l1In.f a lo hi = some (decide (lo ≤ a ∧ a ≤ hi)):=by
 unfold spec_l1In.f
 by_cases h : a ≥ lo
 ·rw [if_pos h];by_cases h2 : a ≤ hi <;> simp [h2] <;> omega
 ·rw [if_neg h];simp;omega
theorem index_ev (q : Int → Bool) (p : Int → Option Bool) (hp : ∀ x,p x = some (q x)) (l : List Int) (h : l.length ≤ maxLen) :
  Ev (fun k => slices_ContainsFunc_int_int.f p k l) (l.any q):=by
 rw [maxLen_eq] at h
 have go : ∀ (t pre : List Int),l = pre ++ t → ∃ z : Int,Ev (fun k => slices_IndexFunc_int_int.l0 p k l (l.length : Int) (pre.length : Int)) z ∧ decide (z ≥ 0) = t.any q:=by
  intro t
  induction t with
  | nil =>
   intro pre hl
   refine ⟨-1,?_,rfl⟩
   refine Ev.step (f:=fun _ => some (-1)) (fun k => ?_) (Ev.now _)
   simp only [slices_IndexFunc_int_int.l0]
   rw [if_neg (by rw [hl];simp)]
  | cons x t ih =>
   intro pre hl
   have hlen : l.length = pre.length + (t.length + 1):=by rw [hl];simp
   have hx : rd l (pre.length : Int) = x:=by rw [hl,rd_mid]
   cases hq : q x with
   | true =>
    refine ⟨pre.length,?_,by simp [hq]⟩
    refine Ev.step (f:=fun _ => some (pre.length : Int)) (fun k => ?_) (Ev.now _)
    simp only [slices_IndexFunc_int_int.l0]
    rw [if_pos (by omega),if_pos (by omega),if_pos (by omega),hx,hp,hq,Option.bind_some,if_pos rfl]
   | false =>
    obtain ⟨z,hz,hd⟩:=ih (pre ++ [x]) (by simp [hl])
    refine ⟨z,?_,by simp [hq,hd]⟩
    refine Ev.step (fun k => ?_) hz
    simp only [slices_IndexFunc_int_int.l0]
    rw [if_pos (by omega),if_pos (by omega),if_pos (by omega),hx,hp,hq,Option.bind_some,if_neg (by simp),w64 (by omega) (by omega),snoc_len]
 obtain ⟨z,hz,hd⟩:=go l [] rfl
 refine Ev.congr (f:=?f1) (fun k => ?h1) ?k1
 case h1 => unfold slices_ContainsFunc_int_int.f slices_IndexFunc_int_int.f;exact rfl
 exact Ev.bind hz (Ev.congr (f:=fun _ => some (l.any q)) (fun k => by rw [hd]) (Ev.now _))
theorem iMV (n : Int) (l : List Int) (hl : l.length ≤ maxLen) : Ev (fun k => impl_MatrixValid.f k n l) (decide (MV n l)):=by
 have no : ∀ f : Nat → Option Bool,(∀ k,f k = some false) → ¬ MV n l → Ev f (decide (MV n l)):=fun f h h2 => (ev_some h).is (by rw [decide_eq_false h2])
 by_cases h1 : n < 1
 ·exact no _ (fun k => by unfold impl_MatrixValid.f;rw [if_pos h1]) (fun h => by unfold MV at h;omega)
 by_cases h2 : n > 4
 ·exact no _ (fun k => by unfold impl_MatrixValid.f;rw [if_neg h1,if_pos h2]) (fun h => by unfold MV at h;omega)
 have hnn : 0 ≤ n * n ∧ n * n ≤ 16:=by
  have : n = 1 ∨ n = 2 ∨ n = 3 ∨ n = 4:=by omega
  rcases this with rfl|rfl|rfl|rfl <;> omega
 by_cases h3 : (l.length : Int) = wrap64 (n * n)
 ·rw [w64 (by omega) (by omega)] at h3
  refine Ev.congr (f:=?f2) (fun k => ?h2) ?k2
  case h2 => unfold impl_MatrixValid.f;rw [if_neg h1,if_neg h2,w64 (x:=n * n) (by omega) (by omega),if_pos h3] <;> exact rfl
  have hq : ∀ x,impl_MatrixValid_1.f x = some (!(okCost x)):=fun x => by unfold impl_MatrixValid_1.f;rw [icost];rfl
  refine Ev.bind (index_ev (fun x => !(okCost x)) _ hq l hl) ?_
  refine (ev_some (fun k => rfl)).is ?_
  rw [Bool.eq_iff_iff]
  simp only [Bool.not_eq_true',List.any_eq_false,Bool.not_eq_true',Bool.not_eq_false,decide_eq_true_eq]
  constructor
  ·intro h;exact ⟨by omega,by omega,h3,fun x hx => by simpa [okCost] using h x hx⟩
  ·intro h x hx;simpa [okCost] using h.2.2.2 x hx
 ·refine no _ (fun k => by unfold impl_MatrixValid.f;rw [if_neg h1,if_neg h2,if_neg h3]) (fun h => ?_)
  rw [w64 (by omega) (by omega)] at h3
  exact h3 h.2.2.1
theorem iGV (n : Int) (l : List Int) (hl : l.length ≤ maxLen) : Ev (fun k => impl_GradesValid.f k n l) (decide (GV n l)):=by
 refine Ev.congr (f:=?f3) (fun k => ?h3) ?k3
 case h3 => unfold impl_GradesValid.f;exact rfl
 refine Ev.bind (iMV n l hl) ?_
 by_cases h : MV n l
 ·refine Ev.congr (f:=?f4) (fun k => ?h4) ?k4
  case h4 => rw [decide_eq_true h,if_pos rfl] <;> exact rfl
  refine Ev.bind (index_ev (fun x => decide (x > 3)) _ (fun x => rfl) l hl) ?_
  refine (ev_some (fun k => rfl)).is ?_
  rw [Bool.eq_iff_iff]
  simp only [Bool.not_eq_true',List.any_eq_false,decide_eq_true_eq]
  exact ⟨fun g => ⟨h,fun x hx => by have:=g x hx;omega⟩,fun g x hx => by have:=g.2 x hx;omega⟩
 ·refine (ev_some (fun k => ?_)).is (by rw [decide_eq_false (fun g : GV n l => h g.1)])
  rw [decide_eq_false h];rfl
theorem sAll_ev (l : List Int) (h : l.length ≤ maxLen) : Ev (fun k => spec_l1All.f k l) (l.all okCost):=by
 rw [maxLen_eq] at h
 have go : ∀ (t pre : List Int),l = pre ++ t → Ev (fun k => spec_l1All.l0 k l (l.length : Int) (pre.length : Int)) (t.all okCost):=by
  intro t
  induction t with
  | nil =>
   intro pre hl
   refine Ev.step (f:=fun _ => some true) (fun k => ?_) (Ev.now _)
   simp only [spec_l1All.l0];rw [if_neg (by rw [hl];simp)]
  | cons x t ih =>
   intro pre hl
   have hlen : l.length = pre.length + (t.length + 1):=by rw [hl];simp
   have hx : rd l (pre.length : Int) = x:=by rw [hl,rd_mid]
   cases hq : okCost x with
   | true =>
    refine Ev.step (fun k => ?_) ((ih (pre ++ [x]) (by simp [hl])).is (by simp [hq]))
    simp only [spec_l1All.l0]
    rw [if_pos (by omega),if_pos (by omega),if_pos (by omega),hx,scost,hq,Option.bind_some,if_pos rfl,w64 (by omega) (by omega),snoc_len]
   | false =>
    refine Ev.step (f:=fun _ => some false) (fun k => ?_) ((Ev.now _).is (by simp [hq]))
    simp only [spec_l1All.l0]
    rw [if_pos (by omega),if_pos (by omega),if_pos (by omega),hx,scost,hq,Option.bind_some,if_neg (by simp)]
 exact go l [] rfl
theorem sMV (n : Int) (l : List Int) (hl : l.length ≤ maxLen) : Ev (fun k => spec_MatrixValid.f k n l) (decide (MV n l)):=by
 have no : ∀ f : Nat → Option Bool,(∀ k,f k = some false) → ¬ MV n l → Ev f (decide (MV n l)):=fun f h h2 => (ev_some h).is (by rw [decide_eq_false h2])
 by_cases h1 : 1 ≤ n ∧ n ≤ 4
 ·have hnn : 0 ≤ n * n ∧ n * n ≤ 16:=by
   have : n = 1 ∨ n = 2 ∨ n = 3 ∨ n = 4:=by omega
   rcases this with rfl|rfl|rfl|rfl <;> omega
  by_cases h3 : (l.length : Int) = n * n
  ·refine Ev.congr (f:=?f5) (fun k => ?h5) ?k5
   case h5 => unfold spec_MatrixValid.f;rw [sIn,decide_eq_true h1,Option.bind_some,if_pos rfl,w64 (x:=n * n) (by omega) (by omega),if_pos h3] <;> exact rfl
   refine Ev.bind (sAll_ev l hl) ((ev_some (fun k => rfl)).is ?_)
   rw [Bool.eq_iff_iff]
   simp only [List.all_eq_true,decide_eq_true_eq]
   exact ⟨fun g => ⟨h1.1,h1.2,h3,fun x hx => by simpa [okCost] using g x hx⟩,fun g x hx => by simpa [okCost] using g.2.2.2 x hx⟩
  ·exact no _ (fun k => by unfold spec_MatrixValid.f;rw [sIn,decide_eq_true h1,Option.bind_some,if_pos rfl,w64 (x:=n * n) (by omega) (by omega),if_neg h3]) (fun h => h3 h.2.2.1)
 ·exact no _ (fun k => by unfold spec_MatrixValid.f;rw [sIn,decide_eq_false h1];rfl) (fun h => h1 ⟨h.1,h.2.1⟩)
theorem sGV (n : Int) (l : List Int) (hl : l.length ≤ maxLen) : Ev (fun k => spec_GradesValid.f k n l) (decide (GV n l)):=by
 have hm:=hl
 rw [maxLen_eq] at hm
 have go : ∀ (t pre : List Int),l = pre ++ t → Ev (fun k => spec_GradesValid.l0 k l (l.length : Int) (pre.length : Int) n l) (decide ((∀ x ∈ t,0 ≤ x ∧ x ≤ 3) ∧ MV n l)):=by
  intro t
  induction t with
  | nil =>
   intro pre hp
   refine Ev.step (f:=?f6) (fun k => ?h6) ?k6
   case h6 => simp only [spec_GradesValid.l0];rw [if_neg (by rw [hp];simp)] <;> exact rfl
   exact Ev.bind (sMV n l hl) ((ev_some (fun k => rfl)).is (by simp))
  | cons x t ih =>
   intro pre hp
   have hlen : l.length = pre.length + (t.length + 1):=by rw [hp];simp
   have hx : rd l (pre.length : Int) = x:=by rw [hp,rd_mid]
   by_cases hq : 0 ≤ x ∧ x ≤ 3
   ·refine Ev.step (fun k => ?_) ((ih (pre ++ [x]) (by simp [hp])).is ?_)
    ·simp only [spec_GradesValid.l0]
     rw [if_pos (by omega),if_pos (by omega),if_pos (by omega),hx,sIn,decide_eq_true hq,Option.bind_some,if_pos rfl,w64 (by omega) (by omega),snoc_len]
    ·simp [hq.1,hq.2]
   ·refine Ev.step (f:=fun _ => some false) (fun k => ?_) ((Ev.now _).is ?_)
    ·simp only [spec_GradesValid.l0]
     rw [if_pos (by omega),if_pos (by omega),if_pos (by omega),hx,sIn,decide_eq_false hq,Option.bind_some,if_neg (by simp)]
    ·symm;rw [decide_eq_false_iff_not];intro h;exact hq (h.1 x (by simp))
 refine (go l [] rfl).is ?_
 rw [Bool.eq_iff_iff]
 simp only [decide_eq_true_eq]
 exact ⟨fun h => ⟨h.2,fun x hx => (h.1 x hx).2⟩,fun h => ⟨fun x hx => ⟨(h.1.2.2.2 x hx).1,h.2 x hx⟩,h.1⟩⟩
end Go.Proofs.Ytengegdaiphfeaa.Y
end
section
namespace Go.Proofs.Ytengegdaiphfeaa.Y
open Go.RowKit Go.Proofs.Ytengegdaiphfeaa.X Go.Proofs.YtengegdaiphfeaaW.PrintWords Go.Proofs.YtengegdaiphfeaaW.PrintLast Go.Proofs.YtengegdaiphfeaaW.PrintMore
set_option linter.unusedVariables false
set_option linter.unusedSimpArgs false
theorem div_mod_at (n i k : Nat) (hk : k < n) : (i * n + k) / n = i ∧ (i * n + k) % n = k:=by
 have hn : 0 < n:=by omega
 constructor
 ·rw [Nat.mul_comm,Nat.mul_add_div hn,Nat.div_eq_of_lt hk,Nat.add_zero]
 ·rw [Nat.mul_comm,Nat.mul_add_mod,Nat.mod_eq_of_lt hk]
theorem cell_lt (n i k : Nat) (hi : i < n) (hk : k < n) : i * n + k < n * n:=by
 have : (i + 1) * n ≤ n * n:=Nat.mul_le_mul_right n hi
 rw [Nat.succ_mul] at this
 omega
theorem sq_le (n : Nat) (h : n ≤ 4) : n * n ≤ 16:=by
 have:=Nat.mul_le_mul h h
 omega
theorem row_le (n i : Nat) (hn : n ≤ 4) (hi : i ≤ n) : i * n ≤ 16:=by
 have:=Nat.mul_le_mul (Nat.le_trans hi hn) hn
 omega
def cutF (n : Nat) (g : Nat → Nat → Int) : Int → Int → Option Int:=fun i k => if 0 ≤ i ∧ i < n ∧ 0 ≤ k ∧ k < n then some (g i.toNat k.toNat) else none
theorem cutF_at (n : Nat) (g : Nat → Nat → Int) (i k : Nat) (hi : i < n) (hk : k < n) : cutF n g (i : Int) (k : Int) = some (g i k):=by
 unfold cutF;rw [if_pos (by omega)];simp
def sqL (n : Nat) (g : Nat → Nat → Int) : List Int:=tab (n * n) (fun m => g (m / n) (m % n))
theorem sqL_get (n : Nat) (g : Nat → Nat → Int) (i k : Nat) (hi : i < n) (hk : k < n) : (sqL n g).getD (i * n + k) 0 = g i k:=by
 unfold sqL
 rw [tab_get _ _ _ (cell_lt n i k hi hk)]
 obtain ⟨h1,h2⟩:=div_mod_at n i k hk
 rw [h1,h2]
theorem sqL_congr (n : Nat) (g h : Nat → Nat → Int) (e : ∀ i k,i < n → k < n → g i k = h i k) : sqL n g = sqL n h:=by
 refine tab_congr _ _ _ (fun j hj => e _ _ (Nat.div_lt_of_lt_mul hj) (Nat.mod_lt _ ?_))
 rcases n with _|n
 ·simp at hj
 ·omega
theorem eq_sqL (n : Nat) (l : List Int) (h : l.length = n * n) : l = sqL n (fun i k => l.getD (i * n + k) 0):=by
 refine (eq_tab l _ h).trans (tab_congr _ _ _ (fun j _ => ?_))
 show l.getD j 0 = l.getD (j / n * n + j % n) 0
 rw [Nat.mul_comm,Nat.div_add_mod]
theorem filled_cut (n : Nat) (hn : n ≤ 4) (g : Nat → Nat → Int) : Ev (fun j => impl_filled.f (cutF n g) j (n : Int)) ((n : Int),sqL n g):=by
 have inner : ∀ (i : Nat) (r : Int × List Int),i < n → Ev (fun j => impl_filled.l0 (cutF n g) j n n ((i + 1 : Nat) : Int) n (tab ((i + 1) * n) (fun m => g (m / n) (m % n)))) r →
   Ev (fun j => impl_filled.l0 (cutF n g) j n n (i : Int) n (tab (i * n) (fun m => g (m / n) (m % n)))) r:=by
  intro i r hi h
  refine Ev.step (f:=fun j => impl_filled.l1 (cutF n g) j n i n i n ((0 : Nat) : Int) n (tab (i * n + 0) (fun m => g (m / n) (m % n)))) (fun k => ?_) ?_
  ·simp only [impl_filled.l0];rw [if_pos (by omega)];rfl
  refine up_loop n (fun k j => impl_filled.l1 (cutF n g) j n i n i n (k : Int) n (tab (i * n + k) (fun m => g (m / n) (m % n)))) r (fun k hk hs => ?_) ?_
  ·refine Ev.step (fun j => ?_) hs
   simp only [impl_filled.l1]
   have hr:=row_le n i hn (by omega)
   obtain ⟨h1,h2⟩:=div_mod_at n i k hk
   rw [if_pos (by omega),cutF_at n g i k hi hk,Option.bind_some,tab_length,if_pos (by omega),w64 (by omega) (by omega)]
   have e : tab (i * n + k) (fun m => g (m / n) (m % n)) ++ [g i k] = tab (i * n + (k + 1)) (fun m => g (m / n) (m % n)):=by
    rw [← Nat.add_assoc,← tab_snoc,h1,h2]
   rw [e];rfl
  ·refine Ev.step (fun j => ?_) h
   simp only [impl_filled.l1]
   rw [if_neg (by omega),w64 (by omega) (by omega),Nat.succ_mul];rfl
 refine Ev.congr (f:=fun j => impl_filled.l0 (cutF n g) j n n ((0 : Nat) : Int) n (tab (0 * n) (fun m => g (m / n) (m % n)))) (fun k => ?_) ?_
 ·unfold impl_filled.f;simp [tab]
 refine up_loop n (fun i j => impl_filled.l0 (cutF n g) j n n (i : Int) n (tab (i * n) (fun m => g (m / n) (m % n)))) _ (fun i hi hs => inner i _ hi hs) ?_
 refine Ev.step (f:=fun _ => some ((n : Int),sqL n g)) (fun j => ?_) (Ev.now _)
 simp only [impl_filled.l0]
 rw [if_neg (by omega)];rfl
theorem filled_ev (n : Nat) (hn : n ≤ 4) (g : Nat → Nat → Int) (p : Nat → Int → Int → Option Int) (h : ∀ i,i < n → ∀ k,k < n → Ev (fun K => p K (i : Int) (k : Int)) (g i k)) :
  Ev (fun K => impl_filled.f (p K) K (n : Int)) ((n : Int),sqL n g):=by
 have h2 : ∀ i,i < n → ∃ K0,∀ K,K0 ≤ K → ∀ k,k < n → p K (i : Int) (k : Int) = some (g i k):=fun i hi => ev_all n (fun k hk => h i hi k hk)
 have h3 : ∃ K0,∀ K,K0 ≤ K → ∀ i,i < n → ∀ k,k < n → p K (i : Int) (k : Int) = some (g i k):=by
  have : ∀ m,m ≤ n → ∃ K0,∀ K,K0 ≤ K → ∀ i,i < m → ∀ k,k < n → p K (i : Int) (k : Int) = some (g i k):=by
   intro m
   induction m with
   | zero => intro _;exact ⟨0,fun _ _ i hi => by omega⟩
   | succ m ih =>
    intro hm
    obtain ⟨a,ha⟩:=ih (by omega)
    obtain ⟨b,hb⟩:=h2 m (by omega)
    refine ⟨max a b,fun K hK i hi k hk => ?_⟩
    by_cases e : i = m
    ·subst e;exact hb K (by omega) k hk
    ·exact ha K (by omega) i (by omega) k hk
  exact this n (Nat.le_refl _)
 obtain ⟨K0,hK0⟩:=h3
 refine ev_up (f:=fun j => impl_filled.f (cutF n g) j (n : Int)) (p:=fun K j => impl_filled.f (p K) j (n : Int)) (filled_cut n hn g) ⟨K0,fun K hK j => ?_⟩ (fun K j => impl_filled.mono (p K) _ j)
 refine impl_filled.monoP (fun y0 y1 r hr => ?_) _ j
 unfold cutF at hr
 by_cases hc : 0 ≤ y0 ∧ y0 < n ∧ 0 ≤ y1 ∧ y1 < n
 ·rw [if_pos hc] at hr
  have e0 : ((y0.toNat : Nat) : Int) = y0:=by omega
  have e1 : ((y1.toNat : Nat) : Int) = y1:=by omega
  have:=hK0 K hK y0.toNat (by omega) y1.toNat (by omega)
  rw [e0,e1] at this
  rw [this];exact hr
 ·rw [if_neg hc] at hr;cases hr
theorem at_eq (n : Nat) (hn : n ≤ 4) (l : List Int) (hl : l.length = n * n) (i k : Nat) (hi : i < n) (hk : k < n) : impl_Matrix_at.f (n : Int) l (i : Int) (k : Int) = some (l.getD (i * n + k) 0):=by
 have hc:=cell_lt n i k hi hk
 have hr:=row_le n i hn (by omega)
 have e : wrap64 (wrap64 ((i : Int) * (n : Int)) + k) = ((i * n + k : Nat) : Int):=by
  have : (i : Int) * (n : Int) = ((i * n : Nat) : Int):=by simp
  rw [this,w64 (x:=((i * n : Nat) : Int)) (by omega) (by omega),w64 (by omega) (by omega)];simp
 unfold impl_Matrix_at.f
 rw [e,if_pos (by omega),if_pos (by omega),rd_nat]
def mulE (n : Nat) (a b : List Int) (i k : Nat) : Int:=(List.range n).foldl (fun acc l => mn acc (mx (a.getD (i * n + l) 0) (b.getD (l * n + k) 0))) 3
def mulL (n : Nat) (a b : List Int) : List Int:=sqL n (mulE n a b)
theorem mulL_length (n : Nat) (a b : List Int) : (mulL n a b).length = n * n:=by simp [mulL,sqL,tab_length]
theorem iMulCell (n : Nat) (hn : n ≤ 4) (a b : List Int) (ha : a.length = n * n) (hb : b.length = n * n) (i k : Nat) (hi : i < n) (hk : k < n) :
  Ev (fun K => impl_MulGrades_1.f K (i : Int) (k : Int) (n : Int) a (n : Int) b) (mulE n a b i k):=by
 refine up_loop n (fun l K => impl_MulGrades_1.l0 K i k ((List.range l).foldl (fun acc l => mn acc (mx (a.getD (i * n + l) 0) (b.getD (l * n + k) 0))) 3) n (l : Int) n a n b) _ (fun l hl hs => ?_) ?_
 ·refine Ev.step (fun j => ?_) hs
  simp only [impl_MulGrades_1.l0]
  rw [if_pos (by omega),at_eq n hn a ha i l hi hl,Option.bind_some,at_eq n hn b hb l k hl hk,Option.bind_some,w64 (by omega) (by omega),fold_snoc];rfl
 ·refine Ev.step (f:=fun _ => some (mulE n a b i k)) (fun j => ?_) (Ev.now _)
  simp only [impl_MulGrades_1.l0]
  rw [if_neg (by omega)];rfl
theorem GV_len {n : Nat} {l : List Int} (h : GV (n : Int) l) : l.length = n * n:=by
 have:=h.1.2.2.1
 exact_mod_cast this
theorem GV_le {n : Nat} {l : List Int} (h : GV (n : Int) l) : n ≤ 4 ∧ 1 ≤ n:=by
 have h1:=h.1.1
 have h2:=h.1.2.1
 omega
theorem GV_nat {n : Int} {l : List Int} (h : GV n l) : ∃ m : Nat,n = (m : Int):=⟨n.toNat,by have:=h.1.1;omega⟩
theorem iMul (n : Nat) (a b : List Int) (ha : GV n a) (hb : GV n b) : Ev (fun k => impl_MulGrades.f k n a n b) ((n : Int),mulL n a b,true):=by
 have hn:=(GV_le ha).1
 have hla:=GV_len ha
 have hlb:=GV_len hb
 have hs:=sq_le n hn
 have hm : ∀ l : List Int,l.length = n * n → l.length ≤ maxLen:=fun l h => by rw [maxLen_eq];omega
 refine Ev.congr (f:=?f1) (fun k => ?h1) ?k1
 case h1 => unfold impl_MulGrades.f;exact rfl
 refine Ev.bind (iGV n a (hm a hla)) ?_
 refine Ev.congr (f:=?f2) (fun k => ?h2) ?k2
 case h2 => rw [decide_eq_true ha,if_pos rfl] <;> exact rfl
 refine Ev.bind (iGV n b (hm b hlb)) ?_
 refine Ev.congr (f:=?f3) (fun k => ?h3) ?k3
 case h3 => rw [decide_eq_true hb,if_pos rfl,if_pos rfl] <;> exact rfl
 refine Ev.bind (a:=((n : Int),mulL n a b)) ?_ (Ev.now _)
 exact filled_ev n hn (mulE n a b) (fun K y0 y1 => impl_MulGrades_1.f K y0 y1 n a n b) (fun i hi k hk => iMulCell n hn a b hla hlb i k hi hk)
def mulR (n : Int) (a : List Int) (m : Int) (b : List Int) : Int × List Int × Bool:=if GV n a ∧ GV m b ∧ n = m then (n,mulL n.toNat a b,true) else (0,[],false)
theorem iMul_any (n : Int) (a : List Int) (m : Int) (b : List Int) (ha : a.length ≤ maxLen) (hb : b.length ≤ maxLen) : Ev (fun k => impl_MulGrades.f k n a m b) (mulR n a m b):=by
 by_cases h : GV n a ∧ GV m b ∧ n = m
 ·obtain ⟨h1,h2,rfl⟩:=h
  obtain ⟨z,rfl⟩:=GV_nat h1
  refine (iMul z a b h1 h2).is ?_
  unfold mulR;rw [if_pos ⟨h1,h2,rfl⟩];rfl
 ·have hr : mulR n a m b = (0,[],false):=by unfold mulR;rw [if_neg h]
  rw [hr]
  refine Ev.congr (f:=?f4) (fun k => ?h4) ?k4
  case h4 => unfold impl_MulGrades.f;exact rfl
  refine Ev.bind (iGV n a ha) ?_
  by_cases h1 : GV n a
  ·refine Ev.congr (f:=?f5) (fun k => ?h5) ?k5
   case h5 => rw [decide_eq_true h1,if_pos rfl] <;> exact rfl
   refine Ev.bind (iGV m b hb) ?_
   by_cases h2 : GV m b
   ·exact ev_some (fun k => by rw [decide_eq_true h2,if_pos rfl,if_neg (fun e => h ⟨h1,h2,e⟩)])
   ·exact ev_some (fun k => by rw [decide_eq_false h2];rfl)
  ·exact ev_some (fun k => by rw [decide_eq_false h1];rfl)
theorem tdiv_nat (m n : Nat) : Int.tdiv (m : Int) (n : Int) = ((m / n : Nat) : Int):=by rw [Int.tdiv_eq_ediv_of_nonneg (by omega)];simp
theorem tmod_nat (m n : Nat) : Int.tmod (m : Int) (n : Int) = ((m % n : Nat) : Int):=by rw [Int.tmod_eq_emod_of_nonneg (by omega)];simp
theorem idx1 (n m l : Nat) (hn : n ≤ 4) (hi : m / n < n) (hl : l < n) : wrap64 (wrap64 (wrap64 (Int.tdiv (m : Int) (n : Int)) * (n : Int)) + l) = ((m / n * n + l : Nat) : Int):=by
 have r1:=row_le n (m / n) hn (by omega)
 rw [tdiv_nat]
 obtain ⟨q,hq⟩ : ∃ q : Nat,m / n = q:=⟨_,rfl⟩
 rw [hq] at hi r1 ⊢
 have h1 : ((q : Nat) : Int) * (n : Int) = ((q * n : Nat) : Int):=by simp
 obtain ⟨s,hs⟩ : ∃ s : Nat,q * n = s:=⟨_,rfl⟩
 rw [w64 (x:=((q : Nat) : Int)) (by omega) (by omega),h1]
 rw [hs] at r1 ⊢
 clear h1 hs hq
 rw [w64 (x:=((s : Nat) : Int)) (by omega) (by omega),w64 (by omega) (by omega)];simp
theorem idx2 (n m l : Nat) (hn : n ≤ 4) (hk : m % n < n) (hl : l < n) : wrap64 (wrap64 ((l : Int) * (n : Int)) + Int.tmod (m : Int) (n : Int)) = ((l * n + m % n : Nat) : Int):=by
 have r2:=row_le n l hn (by omega)
 rw [tmod_nat]
 obtain ⟨q,hq⟩ : ∃ q : Nat,m % n = q:=⟨_,rfl⟩
 rw [hq] at hk ⊢
 have h1 : (l : Int) * (n : Int) = ((l * n : Nat) : Int):=by simp
 obtain ⟨s,hs⟩ : ∃ s : Nat,l * n = s:=⟨_,rfl⟩
 rw [h1]
 rw [hs] at r2 ⊢
 clear h1 hs hq
 rw [w64 (x:=((s : Nat) : Int)) (by omega) (by omega),w64 (by omega) (by omega)];simp
theorem sMul (n : Nat) (hn : n ≤ 4) (h0 : 1 ≤ n) (a b : List Int) (hla : a.length = n * n) (hlb : b.length = n * n) : Ev (fun k => spec_l6Mul.f k n a n b) ((n : Int),mulL n a b):=by
 have hs:=sq_le n hn
 have e0 : wrap64 ((n : Int) * (n : Int)) = ((n * n : Nat) : Int):=by
  have : (n : Int) * (n : Int) = ((n * n : Nat) : Int):=by simp
  rw [this,w64 (by omega) (by omega)]
 refine Ev.congr (f:=fun k => spec_l6Mul.l0 k ((n * n : Nat) : Int) ((0 : Nat) : Int) n a n b n (tab 0 (fun m => mulE n a b (m / n) (m % n)))) (fun k => ?_) ?_
 ·unfold spec_l6Mul.f;rw [e0];simp [tab]
 refine up_loop (n * n) (fun m k => spec_l6Mul.l0 k ((n * n : Nat) : Int) (m : Int) n a n b n (tab m (fun m => mulE n a b (m / n) (m % n)))) _ (fun m hm hnext => ?_) ?_
 ·have hi : m / n < n:=Nat.div_lt_of_lt_mul hm
  have hk : m % n < n:=Nat.mod_lt _ (by omega)
  refine Ev.step (f:=fun k => spec_l6Mul.l1 k m ((List.range 0).foldl (fun acc l => mn acc (mx (a.getD (m / n * n + l) 0) (b.getD (l * n + m % n) 0))) 3) ((n * n : Nat) : Int) m n ((0 : Nat) : Int) n a n b n (tab m (fun m => mulE n a b (m / n) (m % n)))) (fun k => ?_) ?_
  ·simp only [spec_l6Mul.l0];rw [if_pos (by omega)];rfl
  refine up_loop n (fun l k => spec_l6Mul.l1 k m ((List.range l).foldl (fun acc l => mn acc (mx (a.getD (m / n * n + l) 0) (b.getD (l * n + m % n) 0))) 3) ((n * n : Nat) : Int) m n (l : Int) n a n b n (tab m (fun m => mulE n a b (m / n) (m % n)))) _ (fun l hl hs2 => ?_) ?_
  ·refine Ev.step (fun j => ?_) hs2
   have c1:=cell_lt n (m / n) l hi hl
   have c2:=cell_lt n l (m % n) hl hk
   have r1:=row_le n (m / n) hn (by omega)
   have r2:=row_le n l hn (by omega)
   have hA : (l : Int) < (n : Int):=by omega
   have hB : ¬ (n : Int) = 0:=by omega
   have hC : (((m / n * n + l : Nat)) : Int) < (a.length : Int):=by rw [hla];exact_mod_cast c1
   have hD : (((l * n + m % n : Nat)) : Int) < (b.length : Int):=by rw [hlb];exact_mod_cast c2
   have hE : wrap64 ((l : Int) + 1) = ((l + 1 : Nat) : Int):=by rw [w64 (by omega) (by omega)];rfl
   have e1:=idx1 n m l hn hi hl
   have e2:=idx2 n m l hn hk hl
   simp only [spec_l6Mul.l1]
   rw [if_pos hA,if_neg hB,e1,e2,if_pos (Int.natCast_nonneg _),if_pos hC,if_pos (Int.natCast_nonneg _),if_pos hD,rd_nat,rd_nat,hE,fold_snoc]
  ·refine Ev.step (fun j => ?_) hnext
   simp only [spec_l6Mul.l1]
   rw [if_neg (by omega),tab_length,if_pos (by omega),w64 (by omega) (by omega)]
   have e : tab m (fun m => mulE n a b (m / n) (m % n)) ++ [mulE n a b (m / n) (m % n)] = tab (m + 1) (fun m => mulE n a b (m / n) (m % n)):=tab_snoc m (fun m => mulE n a b (m / n) (m % n))
   show spec_l6Mul.l0 j _ _ _ _ _ _ _ (tab m (fun m => mulE n a b (m / n) (m % n)) ++ [mulE n a b (m / n) (m % n)]) = _
   rw [e];rfl
 ·refine Ev.step (f:=fun _ => some ((n : Int),mulL n a b)) (fun j => ?_) (Ev.now _)
  simp only [spec_l6Mul.l0]
  rw [if_neg (by omega)];rfl
theorem sMul_any (n : Int) (a : List Int) (m : Int) (b : List Int) (ha : a.length ≤ maxLen) (hb : b.length ≤ maxLen) : Ev (fun k => spec_MulGrades.f k n a m b) (mulR n a m b):=by
 refine Ev.congr (f:=?f6) (fun k => ?h6) ?k6
 case h6 => unfold spec_MulGrades.f;exact rfl
 refine Ev.bind (sGV n a ha) ?_
 by_cases h1 : GV n a
 ·refine Ev.congr (f:=?f7) (fun k => ?h7) ?k7
  case h7 => rw [decide_eq_true h1,if_pos rfl] <;> exact rfl
  refine Ev.bind (sGV m b hb) ?_
  by_cases h2 : GV m b
  ·by_cases e : n = m
   ·subst e
    obtain ⟨z,rfl⟩:=GV_nat h1
    refine Ev.congr (f:=?f8) (fun k => ?h8) ?k8
    case h8 => rw [decide_eq_true h2,if_pos rfl,if_pos rfl] <;> exact rfl
    refine Ev.bind (sMul z (GV_le h1).1 (GV_le h1).2 a b (GV_len h1) (GV_len h2)) ((Ev.now _).is ?_)
    unfold mulR;rw [if_pos ⟨h1,h2,rfl⟩];rfl
   ·refine ev_some (fun k => ?_)
    rw [decide_eq_true h2,if_pos rfl,if_neg e];unfold mulR;rw [if_neg (fun h => e h.2.2)]
  ·refine ev_some (fun k => ?_)
   rw [decide_eq_false h2,if_neg (by simp)];unfold mulR;rw [if_neg (fun h => h2 h.2.1)]
 ·refine ev_some (fun k => ?_)
  rw [decide_eq_false h1,if_neg (by simp)];unfold mulR;rw [if_neg (fun h => h1 h.1)]
end Go.Proofs.Ytengegdaiphfeaa.Y
end
