import Derived.Test.YtengegdaiphfeaaKFnExactMulGrades3
section
namespace Go.Proofs.Ytengegdaiphfeaa.X
open Go.RowKit Go.Proofs.YtengegdaiphfeaaW.PrintWords Go.Proofs.YtengegdaiphfeaaW.PrintLast Go.Proofs.YtengegdaiphfeaaW.PrintMore
attribute [local go_sem] max2_int min2_int max_two min_two max_three min_three max_four min_four
set_option linter.unusedVariables false
set_option linter.unusedSimpArgs false
set_option maxHeartbeats 8000000 in
set_option maxRecDepth 100000 in
noncomputable def laws_FnExactMulGrades.p1 (k : Nat) (a0_0 : Int) (A0_1 : Option Addr) (c0_1 : Nat) (l0_1 : List Int) (a1_0 : Int) (A1_1 : Option Addr) (c1_1 : Nat) (l1_1 : List Int) (r : Bool) (w : World) : { G_ : Prop // Aside0 G_ → (laws_FnExactMulGrades.p0 k a0_0 A0_1 c0_1 l0_1 a1_0 A1_1 c1_1 l1_1 r w).1 }:=⟨_,fun hG_1 => by
 intros hu26 hu28 HR0_1 HC0_1 HR1_1 HC1_1 t349 A3 zz0_0 gb347 w5 GW347 GE347 gb348 w6 GW348 GE348 NB347_348 NB348_347 hnb7 hnc7 w9 zz0_1 zz0_2 zz0_3 zz0_4 kj3 HJ3 t350 A11 hnb13 hnc13 w15 zz0_108 zz0_109 zz0_110 zz0_111 kj11 HJ11 t351 t352 A17 t355 t356 A18 t359 t360 t363 A19 t365 t366 A20 t370 t371 A21 t375 t376 t379 A22 HT_ HW_ w24 zz0_215 v353 v357 gb364 w31 hS_ GW364 GE364 NB347_364 NB364_347 NB348_364 NB364_348 zz0_216 Ao33 co33 hs32 hfs32 hns32_0 hns32_1 hms32_0 hms32_1 hs34 hfs34 hns34_0 hns34_1 hms34_0 hms34_1 zz0_217 hnb35 hnc35 hnb36 hnc36 w38 gb369 w39 GW369 GE369 NB347_369 NB369_347 NB348_369 NB369_348 NB364_369 NB369_364 hnb40 hnc40 hnb41 hnc41 hnb42 hnc42 Ao44 co44 hnb45 hnc45 w47 gb374 w48 GW374 GE374 NB347_374 NB374_347 NB348_374 NB374_348 NB364_374 NB374_364 NB369_374 NB374_369 hnb49 hnc49 hnb50 hnc50 hnb51 hnc51 hnb52 hnc52 Ao54 co54 w56 gb380 w57 zz0_218 zz0_219 zz0_220 zz0_221 zz0_222 zz0_223 zz0_224 GW380 GE380 NB347_380 NB380_347 NB348_380 NB380_348 NB364_380 NB380_364 NB369_380 NB380_369 NB374_380 NB380_374 hnb58 hnc58 hnb59 hnc59 hnb60 hnc60 hnb61 hnc61 hnb62 hnc62 Ao64 co64 HO354 HO358 HO362 HO368 HO373 HO378 zz0_225 x53_22 zz0_327 zz0_328 zz0_329 zz0_330 zz0_331 zz0_332 zz0_333 zz0_334 zz0_335 zz0_336 zz0_337 kj22 HJ22 zz0_338 kj90 HJ90 t382 t383 A93 t386 A94 w96 zz0_442 w97 Ao98 co98 zz0_443 w99 zz0_444 zz0_445 zz0_446 zz0_447 HO385 zz0_448 zz0_449 zz0_450 zz0_451 zz0_452 zz0_453 zz0_454 zz0_455 zz0_456 zz0_457 kj94 HJ94 t387 t388 A101 t391 A102 w104 zz0_560 w105 Ao106 co106 zz0_561 w107 zz0_562 zz0_563 zz0_564 zz0_565 HO390 zz0_566 zz0_567 zz0_568 zz0_569 zz0_570 zz0_571 zz0_572 hHeld zz0_573 u4 zz0_574 zz0_575 zz0_576 zz0_577 zz0_578 zz0_579 zz0_580 zz0_581 zz0_582 zz0_583 zz0_584 zz0_585 zz0_586 zz0_587 zz0_588 zz0_589 zz0_590 zz0_591 zz0_592 zz0_593 zz0_594 zz0_595 zz0_596 zz0_597 zz0_598 zz0_599 zz0_600 zz0_601 zz0_602 zz0_603 zz0_604 zz0_605 zz0_606 zz0_607 zz0_608 zz0_609 zz0_610 zz0_611 zz0_612 zz0_613 zz0_614 zz0_615 zz0_616 zz0_617 zz0_618 zz0_619 zz0_620 zz0_621 zz0_622 zz0_623 zz0_624 zz0_625 zz0_626 zz0_627 zz0_628 zz0_629 zz0_630 zz0_631 zz0_632 zz0_633 zz0_634 zz0_635 zz0_636 zz0_637 zz0_638 zz0_639 zz0_640 zz0_641 zz0_642 zz0_643 zz0_644 zz0_645 zz0_646 zz0_647 zz0_648 zz0_649 zz0_650 zz0_651 zz0_652 zz0_653 zz0_654 zz0_655 zz0_656 zz0_657 zz0_658 zz0_659 zz0_660 zz0_661 zz0_662 zz0_663 zz0_664 zz0_665 zz0_666 zz0_667 zz0_668 zz0_669 zz0_670 zz0_671 zz0_672 zz0_673 zz0_674 zz0_675 kj102 HJ102 t392 t393 A109 t394 t395 A110 HC111 hnb112 hnc112 hnb113 hnc113 hnb114 hnc114 hnb115 hnc115 hnb116 hnc116 hcz117_0 hcz117_1 hfz117_0 hfz117_1 w118 hnb119 hnc119 hnb120 hnc120 hnb121 hnc121 hnb122 hnc122 hcz123_0 hcz123_1 hfz123_0 hfz123_1 w124 HO_365001 HO_370001 HO_375001 HO_381001 BK347 BK348 BK364 BK369 BK374 BK380 HB zz0_676 zz0_677 zz0_678 zz0_679 wc u17 u18 u19 u20 u21 u22 u23 u24 u25 u26 u27 u28 u29 u30 u31 u32 u33 u34 u35 u36 u37 u38 u39 u40 u41 u42 u43 u44 u45 u46 u47 u48 u49 u50 u51 u52 u53 u54 u55 u56 u57 u58 u59 u60 u61 u62 u63 u64 u65 u66 u67 u68 u69 u70 u71 u72 u73 u74 u75 u76 u77 u78 u79 u80 u81 u82 u83 u84 u85 u86 u87 u88 u89 u90 u91 u92 u93 u94 u95 u96 u97 u98 u99 u100 u101 u102 u103 u104 u105 u106 u107 u108 u109 u110 u111 u112 u113 u114 u115 u116 u117 u118 hcut
 clear HC111
 try clear c1
 try clear c2
 try clear p2
 try clear c3
 try clear c4
 try clear c5
 try clear c6
 try clear c7
 try clear c8
 try clear c9
 try clear c10
 try clear c11
 try clear c12
 try clear c13
 try clear c14
 try clear c19
 try clear c21
 try clear c22
 try clear c26
 try clear c27
 try clear c35
 try clear c36
 try clear c40
 try clear c41
 try clear c42
 try clear c45
 try clear c49
 try clear c50
 try clear c51
 try clear c52
 try clear c58
 try clear c59
 try clear c60
 try clear c61
 try clear c62
 try clear c66
 try clear c67
 try clear c68
 try clear c69
 try clear c70
 try clear c71
 try clear c73
 try clear c74
 try clear c75
 try clear c76
 try clear c79
 try clear c80
 try clear c81
 try clear c82
 try clear c83
 try clear c85
 try clear c86
 try clear c87
 try clear c88
 try clear c92
 try clear c100
 try clear c108
 try clear c112
 try clear c113
 try clear c114
 try clear c115
 try clear c116
 try clear c119
 try clear c120
 try clear c121
 try clear c122
 try clear c125
 try clear c125b0
 try clear c127
 try clear c128
 try clear c129
 try clear c130
 try clear c131
 try clear c132
 try clear c134
 try clear c135
 try clear c136
 try clear c137
 try clear c140
 try clear c141
 try clear c142
 try clear c143
 try clear c144
 try clear c146
 try clear c147
 try clear c148
 try clear c149
 try clear hcz117_0
 try clear hcz117_1
 try clear hcz123_0
 try clear hcz123_1
 try clear hcz133_0
 try clear hcz133_1
 try clear hcz138_0
 try clear hcz138_1
 try clear hcz145_0
 try clear hcz145_1
 try clear hcz150_0
 try clear hcz150_1
 try clear hcz37_0
 try clear hcz37_1
 try clear hcz43_0
 try clear hcz43_1
 try clear hcz46_0
 try clear hcz46_1
 try clear hcz53_0
 try clear hcz53_1
 try clear hcz55_0
 try clear hcz55_1
 try clear hcz63_0
 try clear hcz63_1
 try clear hcz72_0
 try clear hcz72_1
 try clear hcz77_0
 try clear hcz77_1
 try clear hcz84_0
 try clear hcz84_1
 try clear hcz89_0
 try clear hcz89_1
 try clear hfz117_0
 try clear hfz117_1
 try clear hfz123_0
 try clear hfz123_1
 try clear hfz133_0
 try clear hfz133_1
 try clear hfz138_0
 try clear hfz138_1
 try clear hfz145_0
 try clear hfz145_1
 try clear hfz150_0
 try clear hfz150_1
 try clear hfz37_0
 try clear hfz37_1
 try clear hfz43_0
 try clear hfz43_1
 try clear hfz46_0
 try clear hfz46_1
 try clear hfz53_0
 try clear hfz53_1
 try clear hfz55_0
 try clear hfz55_1
 try clear hfz63_0
 try clear hfz63_1
 try clear hfz72_0
 try clear hfz72_1
 try clear hfz77_0
 try clear hfz77_1
 try clear hfz84_0
 try clear hfz84_1
 try clear hfz89_0
 try clear hfz89_1
 try clear p2
 obtain ⟨kq,x82_110,rfl,HA,HJ110,HO_365001,HO_370001,HO_375001,HO_381001,BK347,BK348,BK364,BK369,BK374,BK380,HB⟩:=hcut
 have hl370001_110:=(Kd.R_reads' HO_370001.out).1
 rw [hl370001_110] at HO_370001
 (try simp only [hl370001_110])
 (try simp only [hl370001_110] at BK347)
 (try simp only [hl370001_110] at BK348)
 (try simp only [hl370001_110] at BK364)
 (try simp only [hl370001_110] at BK369)
 (try simp only [hl370001_110] at BK374)
 (try simp only [hl370001_110] at BK380)
 (try simp only [hl370001_110] at HO_365001)
 (try simp only [hl370001_110] at HO_375001)
 (try simp only [hl370001_110] at HO_381001)
 have hl375001_110:=(Kd.R_reads' HO_375001.out).1
 rw [hl375001_110] at HO_375001
 (try simp only [hl375001_110])
 (try simp only [hl375001_110] at BK347)
 (try simp only [hl375001_110] at BK348)
 (try simp only [hl375001_110] at BK364)
 (try simp only [hl375001_110] at BK369)
 (try simp only [hl375001_110] at BK374)
 (try simp only [hl375001_110] at BK380)
 (try simp only [hl375001_110] at HO_365001)
 (try simp only [hl375001_110] at HO_370001)
 (try simp only [hl375001_110] at HO_381001)
 cases kq with
 | zero => exact absurd HA.out (by simp [laws_FnExactMulGrades.j6])
 | succ kj110 =>
  have H:=HA.out
  clear HA
  simp only [laws_FnExactMulGrades.j6] at H
  have HC152:=Aside0.mk H
  clear H
  go_upto_if 82 with (fail)
  go_cut [] (fun wc => ∃ (kq : Nat),Aside0 (laws_FnExactMulGrades.j7 kq t363 a0_0 l0_1 a1_0 l1_1 t359 t360 t375 t376 = some r) ∧ Aside0 (kq ≤ kj110) ∧ Aside0 (Kd.R (Kd.int .i64) 3 wc w.heap.size (fun k_ => some k_ ≠ ((.slice Ao44 t393.length co44) : Value).ownBlock ∧ some k_ ≠ ((.slice Ao54 t395.length co54) : Value).ownBlock ∧ some k_ ≠ ((.slice Ao64 t376.length co64) : Value).ownBlock) (.slice Ao33 t360.length co33) t360) ∧ Aside0 (Kd.R (Kd.int .i64) 3 wc w.heap.size (fun k_ => some k_ ≠ ((.slice Ao33 t360.length co33) : Value).ownBlock ∧ some k_ ≠ ((.slice Ao54 t395.length co54) : Value).ownBlock ∧ some k_ ≠ ((.slice Ao64 t376.length co64) : Value).ownBlock) (.slice Ao44 t393.length co44) t393) ∧ Aside0 (Kd.R (Kd.int .i64) 3 wc w.heap.size (fun k_ => some k_ ≠ ((.slice Ao33 t360.length co33) : Value).ownBlock ∧ some k_ ≠ ((.slice Ao44 t393.length co44) : Value).ownBlock ∧ some k_ ≠ ((.slice Ao64 t376.length co64) : Value).ownBlock) (.slice Ao54 t395.length co54) t395) ∧ Aside0 (Kd.R (Kd.int .i64) 3 wc w.heap.size (fun k_ => some k_ ≠ ((.slice Ao33 t360.length co33) : Value).ownBlock ∧ some k_ ≠ ((.slice Ao44 t393.length co44) : Value).ownBlock ∧ some k_ ≠ ((.slice Ao54 t395.length co54) : Value).ownBlock) (.slice Ao64 t376.length co64) t376) ∧ Aside0 (wc.heap[gb347]? = some (.cells #[.int .i64 a0_0,(.slice A0_1 l0_1.length c0_1)] 26 (0,0))) ∧ Aside0 (wc.heap[gb348]? = some (.cells #[.int .i64 a1_0,(.slice A1_1 l1_1.length c1_1)] 26 (0,0))) ∧ Aside0 (wc.heap[gb364]? = some (.cells #[.int .i64 t359,(.slice Ao33 t360.length co33)] 28 (0,0))) ∧ Aside0 (wc.heap[gb369]? = some (.cells #[.int .i64 t365,(.slice Ao44 t393.length co44)] 28 (0,0))) ∧ Aside0 (wc.heap[gb374]? = some (.cells #[.int .i64 t370,(.slice Ao54 t395.length co54)] 28 (0,0))) ∧ Aside0 (wc.heap[gb380]? = some (.cells #[.int .i64 t375,(.slice Ao64 t376.length co64)] 28 (0,0))) ∧ Aside0 (Below w.heap.size w wc))
  case first =>
   have H:=HC152.out
   clear HC152
   by_cases c153 : x82_110 = true
   ·subst c153
    have H1 : (some false) = some r:=by rw [if_pos rfl] at H;exact H
    clear H
    have H:=H1
    clear H1
    obtain rfl:=Option.some.inj H
    go_wp2
    go_ret
    exact ⟨by first|rfl|(simp [errW_none,errW_some] <;> rfl)|(simp [*,errW_none,errW_some] <;> rfl),by repeat (first|(with_reducible first|exact HB.out|apply below_alloc|apply pw_below_drewN|apply below_drew1|refine below_set ?_ GE347.out|refine below_set ?_ GE348.out|refine below_set ?_ GE364.out|refine below_set ?_ GE369.out|refine below_set ?_ GE374.out|refine below_set ?_ GE380.out)|exact HB.out)⟩
   ·replace c153:=Bool.eq_false_iff.mpr c153
    subst c153
    have H1 : (laws_FnExactMulGrades.j7 kj110 t363 a0_0 l0_1 a1_0 l1_1 t359 t360 t375 t376) = some r:=by rw [if_neg (show ¬ (false = true) by decide)] at H;exact H
    clear H
    have H:=H1
    clear H1
    have H':=Aside0.mk H
    clear H
    go_wp2
    go_meet
    case rel => exact ⟨_,H',⟨by have:=HJ3.out;have:=HJ11.out;have:=HJ22.out;have:=HJ90.out;have:=HJ94.out;have:=HJ102.out;have:=HJ110.out;first|omega|exact Nat.le_refl _⟩,⟨by (try simp only [hl370001_110]);(try simp only [hl375001_110]);(with_reducible repeat (first|apply Kd.R_alloc|apply Kd.R_drewN|apply Kd.R_drew));exact HO_365001.out⟩,⟨by (try simp only [hl370001_110]);(try simp only [hl375001_110]);(with_reducible repeat (first|apply Kd.R_alloc|apply Kd.R_drewN|apply Kd.R_drew));exact HO_370001.out⟩,⟨by (try simp only [hl370001_110]);(try simp only [hl375001_110]);(with_reducible repeat (first|apply Kd.R_alloc|apply Kd.R_drewN|apply Kd.R_drew));exact HO_375001.out⟩,⟨by (try simp only [hl370001_110]);(try simp only [hl375001_110]);(with_reducible repeat (first|apply Kd.R_alloc|apply Kd.R_drewN|apply Kd.R_drew));exact HO_381001.out⟩,⟨by (try simp only [hl370001_110]);(try simp only [hl375001_110]);(with_reducible repeat (first|refine blk_drewN ?_ _|refine blk_drew ?_|refine blk_alloc ?_ _));exact BK347.out⟩,⟨by (try simp only [hl370001_110]);(try simp only [hl375001_110]);(with_reducible repeat (first|refine blk_drewN ?_ _|refine blk_drew ?_|refine blk_alloc ?_ _));exact BK348.out⟩,⟨by (try simp only [hl370001_110]);(try simp only [hl375001_110]);(with_reducible repeat (first|refine blk_drewN ?_ _|refine blk_drew ?_|refine blk_alloc ?_ _));exact BK364.out⟩,⟨by (try simp only [hl370001_110]);(try simp only [hl375001_110]);(with_reducible repeat (first|refine blk_drewN ?_ _|refine blk_drew ?_|refine blk_alloc ?_ _));exact BK369.out⟩,⟨by (try simp only [hl370001_110]);(try simp only [hl375001_110]);(with_reducible repeat (first|refine blk_drewN ?_ _|refine blk_drew ?_|refine blk_alloc ?_ _));exact BK374.out⟩,⟨by (try simp only [hl370001_110]);(try simp only [hl375001_110]);(with_reducible repeat (first|refine blk_drewN ?_ _|refine blk_drew ?_|refine blk_alloc ?_ _));exact BK380.out⟩,⟨by repeat (first|(with_reducible first|exact HB.out|apply below_alloc|apply pw_below_drewN|apply below_drew1|refine below_set ?_ GE347.out|refine below_set ?_ GE348.out|refine below_set ?_ GE364.out|refine below_set ?_ GE369.out|refine below_set ?_ GE374.out|refine below_set ?_ GE380.out)|exact HB.out)⟩⟩
  case rest =>
   clear HC152
   try clear c1
   try clear c2
   try clear p2
   try clear c3
   try clear c4
   try clear c5
   try clear c6
   try clear c7
   try clear c8
   try clear c9
   try clear c10
   try clear c11
   try clear c12
   try clear c13
   try clear c14
   try clear c15
   try clear c19
   try clear c21
   try clear c22
   try clear c26
   try clear c27
   try clear c35
   try clear c36
   try clear c40
   try clear c41
   try clear c42
   try clear c45
   try clear c49
   try clear c50
   try clear c51
   try clear c52
   try clear c58
   try clear c59
   try clear c60
   try clear c61
   try clear c62
   try clear c66
   try clear c67
   try clear c68
   try clear c69
   try clear c70
   try clear c71
   try clear c73
   try clear c74
   try clear c75
   try clear c76
   try clear c79
   try clear c80
   try clear c81
   try clear c82
   try clear c83
   try clear c85
   try clear c86
   try clear c87
   try clear c88
   try clear c92
   try clear c100
   try clear c108
   try clear c112
   try clear c113
   try clear c114
   try clear c115
   try clear c116
   try clear c119
   try clear c120
   try clear c121
   try clear c122
   try clear c125
   try clear c125b0
   try clear c127
   try clear c128
   try clear c129
   try clear c130
   try clear c131
   try clear c132
   try clear c134
   try clear c135
   try clear c136
   try clear c137
   try clear c140
   try clear c141
   try clear c142
   try clear c143
   try clear c144
   try clear c146
   try clear c147
   try clear c148
   try clear c149
   try clear c153
   try clear hcz117_0
   try clear hcz117_1
   try clear hcz123_0
   try clear hcz123_1
   try clear hcz133_0
   try clear hcz133_1
   try clear hcz138_0
   try clear hcz138_1
   try clear hcz145_0
   try clear hcz145_1
   try clear hcz150_0
   try clear hcz150_1
   try clear hcz37_0
   try clear hcz37_1
   try clear hcz43_0
   try clear hcz43_1
   try clear hcz46_0
   try clear hcz46_1
   try clear hcz53_0
   try clear hcz53_1
   try clear hcz55_0
   try clear hcz55_1
   try clear hcz63_0
   try clear hcz63_1
   try clear hcz72_0
   try clear hcz72_1
   try clear hcz77_0
   try clear hcz77_1
   try clear hcz84_0
   try clear hcz84_1
   try clear hcz89_0
   try clear hcz89_1
   try clear hfz117_0
   try clear hfz117_1
   try clear hfz123_0
   try clear hfz123_1
   try clear hfz133_0
   try clear hfz133_1
   try clear hfz138_0
   try clear hfz138_1
   try clear hfz145_0
   try clear hfz145_1
   try clear hfz150_0
   try clear hfz150_1
   try clear hfz37_0
   try clear hfz37_1
   try clear hfz43_0
   try clear hfz43_1
   try clear hfz46_0
   try clear hfz46_1
   try clear hfz53_0
   try clear hfz53_1
   try clear hfz55_0
   try clear hfz55_1
   try clear hfz63_0
   try clear hfz63_1
   try clear hfz72_0
   try clear hfz72_1
   try clear hfz77_0
   try clear hfz77_1
   try clear hfz84_0
   try clear hfz84_1
   try clear hfz89_0
   try clear hfz89_1
   try clear p2
   obtain ⟨kq,HA,HJ151,HO_365001,HO_370001,HO_375001,HO_381001,BK347,BK348,BK364,BK369,BK374,BK380,HB⟩:=hcut
   cases kq with
   | zero => exact absurd HA.out (by simp [laws_FnExactMulGrades.j7])
   | succ kj151 =>
    have H:=HA.out
    clear HA
    simp only [laws_FnExactMulGrades.j7] at H
    replace H:=Option.bind_eq_some_iff.mp H
    obtain ⟨⟨t397,t398⟩,A1540,H⟩:=H
    replace H : ((laws_heldMatrix.f kj151 t375 t398 1).bind fun t399 => (if t399 < 0 then (some false) else (laws_FnExactMulGrades.j8 kj151 t363 t397 t399 a0_0 l0_1 a1_0 l1_1 t359 t360 t375 t398))) = some r:=H
    have A154:=Aside0.mk A1540
    clear A1540
    replace H:=Option.bind_eq_some_iff.mp H
    obtain ⟨t399,A1550,H⟩:=H
    replace H : (if t399 < 0 then (some false) else (laws_FnExactMulGrades.j8 kj151 t363 t397 t399 a0_0 l0_1 a1_0 l1_1 t359 t360 t375 t398)) = some r:=H
    have A155:=Aside0.mk A1550
    clear A1550
    have HC156:=Aside0.mk H
    clear H
    have hnb157:=NB380_347.out
    have hnc157:=NB347_380.out
    have hnb158:=NB380_348.out
    have hnc158:=NB348_380.out
    have hnb159:=NB380_364.out
    have hnc159:=NB364_380.out
    have hnb160:=NB380_369.out
    have hnc160:=NB369_380.out
    have hnb161:=NB380_374.out
    have hnc161:=NB374_380.out
    have hcz162_0 : wc.cell? ⟨gb380,0,none⟩ = some (.int .i64 t375):=(blk_cell BK380.out 0).trans rfl
    have hcz162_1 : wc.cell? ⟨gb380,1,none⟩ = some (.slice Ao64 t376.length co64):=(blk_cell BK380.out 1).trans rfl
    have hfz162_0:=blk_frozen BK380.out 0
    have hfz162_1:=blk_frozen BK380.out 1
    go_upto_if 90 with (first|((with_reducible refine gate_callee (f:=22) rfl ?_);refine goesL_ (some 85) rfl rfl Try.func22 (by kernel_rfl) rfl #[.agg #[.int .i64 t375,.slice Ao64 t376.length co64],.int .i64 1] rfl (by (try simp only [List.map_toArray,List.map_cons,List.map_nil]);first|done|rfl|(simp only [List.length_drop,List.length_take];rfl)) ?_;(with_reducible refine (laws_markMatrix.calls kj151 t375 (fun k_ => some k_ = (.slice Ao64 t376.length co64 : Value).ownBlock) (.slice Ao64 t376.length co64) t376 1 t397 t398 w _ ?side1 ?side2 A154.out).mono ?_);(case side1 => repeat (first|(with_reducible first|exact HB.out|apply below_alloc|apply pw_below_drewN|apply below_drew1|refine below_set ?_ GE347.out|refine below_set ?_ GE348.out|refine below_set ?_ GE364.out|refine below_set ?_ GE369.out|refine below_set ?_ GE374.out|refine below_set ?_ GE380.out)|exact HB.out));(case side2 => exact Kd.R_tight rfl HO_381001.out);rintro e w163 ⟨rfl,hy0,hb,hkp⟩;refine ⟨_,rfl,?_⟩;have n0_:=Aside0.mk (Kd.R_mono (ok':=fun k_ => some k_ ≠ (.slice Ao44 t393.length co44 : Value).ownBlock ∧ some k_ ≠ (.slice Ao54 t395.length co54 : Value).ownBlock ∧ some k_ ≠ (.slice Ao64 t376.length co64 : Value).ownBlock) (Kd.R_keptB (HO_365001.out) hkp (fun k_ hk_ hs_ => (hk_.2.2) hs_)) (fun k_ hk_ => ⟨hk_.1.1,hk_.1.2.1,hk_.1.2.2⟩));have n1_:=Aside0.mk (Kd.R_mono (ok':=fun k_ => some k_ ≠ (.slice Ao33 t360.length co33 : Value).ownBlock ∧ some k_ ≠ (.slice Ao54 t395.length co54 : Value).ownBlock ∧ some k_ ≠ (.slice Ao64 t376.length co64 : Value).ownBlock) (Kd.R_keptB (HO_370001.out) hkp (fun k_ hk_ hs_ => (hk_.2.2) hs_)) (fun k_ hk_ => ⟨hk_.1.1,hk_.1.2.1,hk_.1.2.2⟩));have n2_:=Aside0.mk (Kd.R_mono (ok':=fun k_ => some k_ ≠ (.slice Ao33 t360.length co33 : Value).ownBlock ∧ some k_ ≠ (.slice Ao44 t393.length co44 : Value).ownBlock ∧ some k_ ≠ (.slice Ao64 t376.length co64 : Value).ownBlock) (Kd.R_keptB (HO_375001.out) hkp (fun k_ hk_ hs_ => (hk_.2.2) hs_)) (fun k_ hk_ => ⟨hk_.1.1,hk_.1.2.1,hk_.1.2.2⟩));have n3_:=Aside0.mk (Kd.R_reok rfl hy0 (fun k_ e_ => HO_381001.out.1 k_ e_));have n4_:=Aside0.mk (blk_kept (by (with_reducible repeat (first|refine blk_drewN ?_ _|refine blk_drew ?_|refine blk_alloc ?_ _));exact BK347.out) hkp (fun hs_ => (fun e_ => (Kd.R_ne HO_381001.out BK347.out (by decide)) e_) hs_));have n5_:=Aside0.mk (blk_kept (by (with_reducible repeat (first|refine blk_drewN ?_ _|refine blk_drew ?_|refine blk_alloc ?_ _));exact BK348.out) hkp (fun hs_ => (fun e_ => (Kd.R_ne HO_381001.out BK348.out (by decide)) e_) hs_));have n6_:=Aside0.mk (blk_kept (by (with_reducible repeat (first|refine blk_drewN ?_ _|refine blk_drew ?_|refine blk_alloc ?_ _));exact BK364.out) hkp (fun hs_ => (fun e_ => (Kd.R_ne HO_381001.out BK364.out (by decide)) e_) hs_));have n7_:=Aside0.mk (blk_kept (by (with_reducible repeat (first|refine blk_drewN ?_ _|refine blk_drew ?_|refine blk_alloc ?_ _));exact BK369.out) hkp (fun hs_ => (fun e_ => (Kd.R_ne HO_381001.out BK369.out (by decide)) e_) hs_));have n8_:=Aside0.mk (blk_kept (by (with_reducible repeat (first|refine blk_drewN ?_ _|refine blk_drew ?_|refine blk_alloc ?_ _));exact BK374.out) hkp (fun hs_ => (fun e_ => (Kd.R_ne HO_381001.out BK374.out (by decide)) e_) hs_));have n9_:=Aside0.mk (blk_kept (by (with_reducible repeat (first|refine blk_drewN ?_ _|refine blk_drew ?_|refine blk_alloc ?_ _));exact BK380.out) hkp (fun hs_ => (fun e_ => (Kd.R_ne HO_381001.out BK380.out (by decide)) e_) hs_));have n10_:=Aside0.mk (hb);clear HO_365001;clear HO_370001;clear HO_375001;clear HO_381001;clear BK347;clear BK348;clear BK364;clear BK369;clear BK374;clear BK380;clear HB;have HO_365001:=n0_;have HO_370001:=n1_;have HO_375001:=n2_;have HO_381001:=n3_;have BK347:=n4_;have BK348:=n5_;have BK364:=n6_;have BK369:=n7_;have BK374:=n8_;have BK380:=n9_;have HB:=n10_;clear n0_ n1_ n2_ n3_ n4_ n5_ n6_ n7_ n8_ n9_ n10_;(try clear hb);(try clear hkp);(try clear hy0);have hcz164_0 : w163.cell? ⟨gb380,0,none⟩ = some (.int .i64 t375):=(blk_cell BK380.out 0).trans rfl;have hcz164_1 : w163.cell? ⟨gb380,1,none⟩ = some (.slice Ao64 t376.length co64):=(blk_cell BK380.out 1).trans rfl;have hfz164_0:=blk_frozen BK380.out 0;have hfz164_1:=blk_frozen BK380.out 1)|((with_reducible refine gate_callee (f:=23) rfl ?_);refine goesL_ (some 88) rfl rfl Try.func23 (by kernel_rfl) rfl #[.agg #[.int .i64 t375,.slice Ao64 t398.length co64],.int .i64 1] rfl (by (try simp only [List.map_toArray,List.map_cons,List.map_nil]);first|done|(rw [show t398.length = t376.length from (Kd.R_reads' HO_381001.out).1.symm] <;> rfl)|rfl|(simp only [List.length_drop,List.length_take];rfl)) ?_;(with_reducible refine (laws_heldMatrix.calls kj151 t375 _ _ t398 1 t399 _ ?side1 ?side2 A155.out).mono ?_);(case side1 => repeat (first|exact (Kd.R_reads' HO_381001.out).2.2|(with_reducible refine Kd.C_alloc ?_ _)|(with_reducible refine Kd.C_drewN ?_ _)|(with_reducible refine Kd.C_drew ?_)));(case side2 => rw [show t398.length = t376.length from (Kd.R_reads' HO_381001.out).1.symm];exact (Kd.R_reads' HO_381001.out).2.1);rintro e w165 ⟨rfl,hb⟩;refine ⟨_,rfl,?_⟩;have n0_:=Aside0.mk (Kd.R_below (by (with_reducible repeat (first|apply Kd.R_alloc|apply Kd.R_drewN|apply Kd.R_drew));exact HO_365001.out) hb);have n1_:=Aside0.mk (Kd.R_below (by (with_reducible repeat (first|apply Kd.R_alloc|apply Kd.R_drewN|apply Kd.R_drew));exact HO_370001.out) hb);have n2_:=Aside0.mk (Kd.R_below (by (with_reducible repeat (first|apply Kd.R_alloc|apply Kd.R_drewN|apply Kd.R_drew));exact HO_375001.out) hb);have n3_:=Aside0.mk (Kd.R_below (by (with_reducible repeat (first|apply Kd.R_alloc|apply Kd.R_drewN|apply Kd.R_drew));exact HO_381001.out) hb);have n4_:=Aside0.mk (blk_below (g:=gb347) (o:=.cells #[.int .i64 a0_0,.slice A0_1 l0_1.length c0_1] 26 (0,0)) (by (with_reducible repeat (first|refine blk_drewN ?_ _|refine blk_drew ?_|refine blk_alloc ?_ _));exact BK347.out) hb);have n5_:=Aside0.mk (blk_below (g:=gb348) (o:=.cells #[.int .i64 a1_0,.slice A1_1 l1_1.length c1_1] 26 (0,0)) (by (with_reducible repeat (first|refine blk_drewN ?_ _|refine blk_drew ?_|refine blk_alloc ?_ _));exact BK348.out) hb);have n6_:=Aside0.mk (blk_below (g:=gb364) (o:=.cells #[.int .i64 t359,.slice Ao33 t360.length co33] 28 (0,0)) (by (with_reducible repeat (first|refine blk_drewN ?_ _|refine blk_drew ?_|refine blk_alloc ?_ _));exact BK364.out) hb);have n7_:=Aside0.mk (blk_below (g:=gb369) (o:=.cells #[.int .i64 t365,.slice Ao44 t393.length co44] 28 (0,0)) (by (with_reducible repeat (first|refine blk_drewN ?_ _|refine blk_drew ?_|refine blk_alloc ?_ _));exact BK369.out) hb);have n8_:=Aside0.mk (blk_below (g:=gb374) (o:=.cells #[.int .i64 t370,.slice Ao54 t395.length co54] 28 (0,0)) (by (with_reducible repeat (first|refine blk_drewN ?_ _|refine blk_drew ?_|refine blk_alloc ?_ _));exact BK374.out) hb);have n9_:=Aside0.mk (blk_below (g:=gb380) (o:=.cells #[.int .i64 t375,.slice Ao64 t376.length co64] 28 (0,0)) (by (with_reducible repeat (first|refine blk_drewN ?_ _|refine blk_drew ?_|refine blk_alloc ?_ _));exact BK380.out) hb);have n10_:=Aside0.mk (below_step (by repeat (first|(with_reducible first|exact HB.out|apply below_alloc|apply pw_below_drewN|apply below_drew1|refine below_set ?_ GE347.out|refine below_set ?_ GE348.out|refine below_set ?_ GE364.out|refine below_set ?_ GE369.out|refine below_set ?_ GE374.out|refine below_set ?_ GE380.out)|exact HB.out)) hb);clear HO_365001;clear HO_370001;clear HO_375001;clear HO_381001;clear BK347;clear BK348;clear BK364;clear BK369;clear BK374;clear BK380;clear HB;have HO_365001:=n0_;have HO_370001:=n1_;have HO_375001:=n2_;have HO_381001:=n3_;have BK347:=n4_;have BK348:=n5_;have BK364:=n6_;have BK369:=n7_;have BK374:=n8_;have BK380:=n9_;have HB:=n10_;clear n0_ n1_ n2_ n3_ n4_ n5_ n6_ n7_ n8_ n9_ n10_;(try clear hb);(try clear hb2);(try clear hk);(try clear hi)))
    (try simp only [Act.put,List.setIfInBounds_toArray,List.set_cons_zero,List.set_cons_succ])
    go_cut [] (fun wc => ∃ (kq : Nat),Aside0 (laws_FnExactMulGrades.j8 kq t363 t397 t399 a0_0 l0_1 a1_0 l1_1 t359 t360 t375 t398 = some r) ∧ Aside0 (kq ≤ kj151) ∧ Aside0 (Kd.R (Kd.int .i64) 3 wc w.heap.size (fun k_ => some k_ ≠ ((.slice Ao44 t393.length co44) : Value).ownBlock ∧ some k_ ≠ ((.slice Ao54 t395.length co54) : Value).ownBlock ∧ some k_ ≠ ((.slice Ao64 t376.length co64) : Value).ownBlock) (.slice Ao33 t360.length co33) t360) ∧ Aside0 (Kd.R (Kd.int .i64) 3 wc w.heap.size (fun k_ => some k_ ≠ ((.slice Ao33 t360.length co33) : Value).ownBlock ∧ some k_ ≠ ((.slice Ao54 t395.length co54) : Value).ownBlock ∧ some k_ ≠ ((.slice Ao64 t376.length co64) : Value).ownBlock) (.slice Ao44 t393.length co44) t393) ∧ Aside0 (Kd.R (Kd.int .i64) 3 wc w.heap.size (fun k_ => some k_ ≠ ((.slice Ao33 t360.length co33) : Value).ownBlock ∧ some k_ ≠ ((.slice Ao44 t393.length co44) : Value).ownBlock ∧ some k_ ≠ ((.slice Ao64 t376.length co64) : Value).ownBlock) (.slice Ao54 t395.length co54) t395) ∧ Aside0 (Kd.R (Kd.int .i64) 3 wc w.heap.size (fun k_ => some k_ ≠ ((.slice Ao33 t360.length co33) : Value).ownBlock ∧ some k_ ≠ ((.slice Ao44 t393.length co44) : Value).ownBlock ∧ some k_ ≠ ((.slice Ao54 t395.length co54) : Value).ownBlock) (.slice Ao64 t376.length co64) t398) ∧ Aside0 (wc.heap[gb347]? = some (.cells #[.int .i64 a0_0,(.slice A0_1 l0_1.length c0_1)] 26 (0,0))) ∧ Aside0 (wc.heap[gb348]? = some (.cells #[.int .i64 a1_0,(.slice A1_1 l1_1.length c1_1)] 26 (0,0))) ∧ Aside0 (wc.heap[gb364]? = some (.cells #[.int .i64 t359,(.slice Ao33 t360.length co33)] 28 (0,0))) ∧ Aside0 (wc.heap[gb369]? = some (.cells #[.int .i64 t365,(.slice Ao44 t393.length co44)] 28 (0,0))) ∧ Aside0 (wc.heap[gb374]? = some (.cells #[.int .i64 t370,(.slice Ao54 t395.length co54)] 28 (0,0))) ∧ Aside0 (wc.heap[gb380]? = some (.cells #[.int .i64 t375,(.slice Ao64 t376.length co64)] 28 (0,0))) ∧ Aside0 (Below w.heap.size w wc))
    case first =>
     have H:=HC156.out
     clear HC156
     by_cases c166 : t399 < 0
     ·rw [if_pos c166] at H
      have c166b0 : decide (t399 < 0) = true:=decide_eq_true c166
      clear c166
      (first|rw [c166b0]|(simp only [i64_w,i32_w];rw [c166b0])|skip)
      obtain rfl:=Option.some.inj H
      go_wp2
      go_ret
      exact ⟨by first|rfl|(simp [errW_none,errW_some] <;> rfl)|(simp [*,errW_none,errW_some] <;> rfl),by repeat (first|(with_reducible first|exact HB.out|apply below_alloc|apply pw_below_drewN|apply below_drew1|refine below_set ?_ GE347.out|refine below_set ?_ GE348.out|refine below_set ?_ GE364.out|refine below_set ?_ GE369.out|refine below_set ?_ GE374.out|refine below_set ?_ GE380.out)|exact HB.out)⟩
     ·rw [if_neg c166] at H
      have c166b0 : decide (t399 < 0) = false:=decide_eq_false c166
      clear c166
      (first|rw [c166b0]|(simp only [i64_w,i32_w];rw [c166b0])|skip)
      have H':=Aside0.mk H
      clear H
      go_wp2
      go_meet
      case rel => exact ⟨_,H',⟨by have:=HJ3.out;have:=HJ11.out;have:=HJ22.out;have:=HJ90.out;have:=HJ94.out;have:=HJ102.out;have:=HJ110.out;have:=HJ151.out;first|omega|exact Nat.le_refl _⟩,⟨by (try simp only [hl370001_110]);(try simp only [hl375001_110]);(with_reducible repeat (first|apply Kd.R_alloc|apply Kd.R_drewN|apply Kd.R_drew));exact HO_365001.out⟩,⟨by (try simp only [hl370001_110]);(try simp only [hl375001_110]);(with_reducible repeat (first|apply Kd.R_alloc|apply Kd.R_drewN|apply Kd.R_drew));exact HO_370001.out⟩,⟨by (try simp only [hl370001_110]);(try simp only [hl375001_110]);(with_reducible repeat (first|apply Kd.R_alloc|apply Kd.R_drewN|apply Kd.R_drew));exact HO_375001.out⟩,⟨by (try simp only [hl370001_110]);(try simp only [hl375001_110]);(with_reducible repeat (first|apply Kd.R_alloc|apply Kd.R_drewN|apply Kd.R_drew));exact HO_381001.out⟩,⟨by (try simp only [hl370001_110]);(try simp only [hl375001_110]);(with_reducible repeat (first|refine blk_drewN ?_ _|refine blk_drew ?_|refine blk_alloc ?_ _));exact BK347.out⟩,⟨by (try simp only [hl370001_110]);(try simp only [hl375001_110]);(with_reducible repeat (first|refine blk_drewN ?_ _|refine blk_drew ?_|refine blk_alloc ?_ _));exact BK348.out⟩,⟨by (try simp only [hl370001_110]);(try simp only [hl375001_110]);(with_reducible repeat (first|refine blk_drewN ?_ _|refine blk_drew ?_|refine blk_alloc ?_ _));exact BK364.out⟩,⟨by (try simp only [hl370001_110]);(try simp only [hl375001_110]);(with_reducible repeat (first|refine blk_drewN ?_ _|refine blk_drew ?_|refine blk_alloc ?_ _));exact BK369.out⟩,⟨by (try simp only [hl370001_110]);(try simp only [hl375001_110]);(with_reducible repeat (first|refine blk_drewN ?_ _|refine blk_drew ?_|refine blk_alloc ?_ _));exact BK374.out⟩,⟨by (try simp only [hl370001_110]);(try simp only [hl375001_110]);(with_reducible repeat (first|refine blk_drewN ?_ _|refine blk_drew ?_|refine blk_alloc ?_ _));exact BK380.out⟩,⟨by repeat (first|(with_reducible first|exact HB.out|apply below_alloc|apply pw_below_drewN|apply below_drew1|refine below_set ?_ GE347.out|refine below_set ?_ GE348.out|refine below_set ?_ GE364.out|refine below_set ?_ GE369.out|refine below_set ?_ GE374.out|refine below_set ?_ GE380.out)|exact HB.out)⟩⟩
    case rest =>
     clear HC156
     try clear c1
     try clear c2
     try clear p2
     try clear c3
     try clear c4
     try clear c5
     try clear c6
     try clear c7
     try clear c8
     try clear c9
     try clear c10
     try clear c11
     try clear c12
     try clear c13
     try clear c14
     try clear c15
     try clear c16
     try clear c19
     try clear c21
     try clear c22
     try clear c23
     try clear c26
     try clear c27
     try clear c35
     try clear c36
     try clear c40
     try clear c41
     try clear c42
     try clear c45
     try clear c49
     try clear c50
     try clear c51
     try clear c52
     try clear c58
     try clear c59
     try clear c60
     try clear c61
     try clear c62
     try clear c66
     try clear c67
     try clear c68
     try clear c69
     try clear c70
     try clear c71
     try clear c73
     try clear c74
     try clear c75
     try clear c76
     try clear c79
     try clear c80
     try clear c81
     try clear c82
     try clear c83
     try clear c85
     try clear c86
     try clear c87
     try clear c88
     try clear c92
     try clear c100
     try clear c108
     try clear c112
     try clear c113
     try clear c114
     try clear c115
     try clear c116
     try clear c119
     try clear c120
     try clear c121
     try clear c122
     try clear c125
     try clear c125b0
     try clear c127
     try clear c128
     try clear c129
     try clear c130
     try clear c131
     try clear c132
     try clear c134
     try clear c135
     try clear c136
     try clear c137
     try clear c140
     try clear c141
     try clear c142
     try clear c143
     try clear c144
     try clear c146
     try clear c147
     try clear c148
     try clear c149
     try clear c153
     try clear c157
     try clear c158
     try clear c159
     try clear c160
     try clear c161
     try clear c166
     try clear c166b0
     try clear hcz117_0
     try clear hcz117_1
     try clear hcz123_0
     try clear hcz123_1
     try clear hcz133_0
     try clear hcz133_1
     try clear hcz138_0
     try clear hcz138_1
     try clear hcz145_0
     try clear hcz145_1
     try clear hcz150_0
     try clear hcz150_1
     try clear hcz162_0
     try clear hcz162_1
     try clear hcz164_0
     try clear hcz164_1
     try clear hcz37_0
     try clear hcz37_1
     try clear hcz43_0
     try clear hcz43_1
     try clear hcz46_0
     try clear hcz46_1
     try clear hcz53_0
     try clear hcz53_1
     try clear hcz55_0
     try clear hcz55_1
     try clear hcz63_0
     try clear hcz63_1
     try clear hcz72_0
     try clear hcz72_1
     try clear hcz77_0
     try clear hcz77_1
     try clear hcz84_0
     try clear hcz84_1
     try clear hcz89_0
     try clear hcz89_1
     try clear hfz117_0
     try clear hfz117_1
     try clear hfz123_0
     try clear hfz123_1
     try clear hfz133_0
     try clear hfz133_1
     try clear hfz138_0
     try clear hfz138_1
     try clear hfz145_0
     try clear hfz145_1
     try clear hfz150_0
     try clear hfz150_1
     try clear hfz162_0
     try clear hfz162_1
     try clear hfz164_0
     try clear hfz164_1
     try clear hfz37_0
     try clear hfz37_1
     try clear hfz43_0
     try clear hfz43_1
     try clear hfz46_0
     try clear hfz46_1
     try clear hfz53_0
     try clear hfz53_1
     try clear hfz55_0
     try clear hfz55_1
     try clear hfz63_0
     try clear hfz63_1
     try clear hfz72_0
     try clear hfz72_1
     try clear hfz77_0
     try clear hfz77_1
     try clear hfz84_0
     try clear hfz84_1
     try clear hfz89_0
     try clear hfz89_1
     try clear p2
     obtain ⟨kq,HA,HJ155,HO_365001,HO_370001,HO_375001,HO_381001,BK347,BK348,BK364,BK369,BK374,BK380,HB⟩:=hcut
     have hl381001_155:=(Kd.R_reads' HO_381001.out).1
     rw [hl381001_155] at HO_381001
     (try simp only [hl381001_155])
     (try simp only [hl381001_155] at BK347)
     (try simp only [hl381001_155] at BK348)
     (try simp only [hl381001_155] at BK364)
     (try simp only [hl381001_155] at BK369)
     (try simp only [hl381001_155] at BK374)
     (try simp only [hl381001_155] at BK380)
     (try simp only [hl381001_155] at HO_365001)
     (try simp only [hl381001_155] at HO_370001)
     (try simp only [hl381001_155] at HO_375001)
     cases kq with
     | zero => exact absurd HA.out (by simp [laws_FnExactMulGrades.j8])
     | succ kj155 =>
      have H:=HA.out
      clear HA
      simp only [laws_FnExactMulGrades.j8] at H
      have HC167:=Aside0.mk H
      clear H
      go_upto_if 93 with (fail)
      go_cut [] (fun wc => ∃ (kq : Nat),Aside0 (laws_FnExactMulGrades.j9 kq t363 t397 a0_0 l0_1 a1_0 l1_1 t359 t360 t375 t398 = some r) ∧ Aside0 (kq ≤ kj155) ∧ Aside0 (Kd.R (Kd.int .i64) 3 wc w.heap.size (fun k_ => some k_ ≠ ((.slice Ao44 t393.length co44) : Value).ownBlock ∧ some k_ ≠ ((.slice Ao54 t395.length co54) : Value).ownBlock ∧ some k_ ≠ ((.slice Ao64 t398.length co64) : Value).ownBlock) (.slice Ao33 t360.length co33) t360) ∧ Aside0 (Kd.R (Kd.int .i64) 3 wc w.heap.size (fun k_ => some k_ ≠ ((.slice Ao33 t360.length co33) : Value).ownBlock ∧ some k_ ≠ ((.slice Ao54 t395.length co54) : Value).ownBlock ∧ some k_ ≠ ((.slice Ao64 t398.length co64) : Value).ownBlock) (.slice Ao44 t393.length co44) t393) ∧ Aside0 (Kd.R (Kd.int .i64) 3 wc w.heap.size (fun k_ => some k_ ≠ ((.slice Ao33 t360.length co33) : Value).ownBlock ∧ some k_ ≠ ((.slice Ao44 t393.length co44) : Value).ownBlock ∧ some k_ ≠ ((.slice Ao64 t398.length co64) : Value).ownBlock) (.slice Ao54 t395.length co54) t395) ∧ Aside0 (Kd.R (Kd.int .i64) 3 wc w.heap.size (fun k_ => some k_ ≠ ((.slice Ao33 t360.length co33) : Value).ownBlock ∧ some k_ ≠ ((.slice Ao44 t393.length co44) : Value).ownBlock ∧ some k_ ≠ ((.slice Ao54 t395.length co54) : Value).ownBlock) (.slice Ao64 t398.length co64) t398) ∧ Aside0 (wc.heap[gb347]? = some (.cells #[.int .i64 a0_0,(.slice A0_1 l0_1.length c0_1)] 26 (0,0))) ∧ Aside0 (wc.heap[gb348]? = some (.cells #[.int .i64 a1_0,(.slice A1_1 l1_1.length c1_1)] 26 (0,0))) ∧ Aside0 (wc.heap[gb364]? = some (.cells #[.int .i64 t359,(.slice Ao33 t360.length co33)] 28 (0,0))) ∧ Aside0 (wc.heap[gb369]? = some (.cells #[.int .i64 t365,(.slice Ao44 t393.length co44)] 28 (0,0))) ∧ Aside0 (wc.heap[gb374]? = some (.cells #[.int .i64 t370,(.slice Ao54 t395.length co54)] 28 (0,0))) ∧ Aside0 (wc.heap[gb380]? = some (.cells #[.int .i64 t375,(.slice Ao64 t398.length co64)] 28 (0,0))) ∧ Aside0 (Below w.heap.size w wc))
      case first =>
       have H:=HC167.out
       clear HC167
       by_cases c168 : t399 = t397
       ·rw [if_pos c168] at H
        have c168b0 : (t399 == t397) = true:=beq_iff_eq.mpr c168
        have c168b1 : (t399 != t397) = false:=bne_eq_false_iff_eq.mpr c168
        clear c168
        (first|rw [c168b0]|(simp only [i64_w,i32_w];rw [c168b0])|skip)
        have H':=Aside0.mk H
        clear H
        go_wp2
        go_meet
        case rel => exact ⟨_,H',⟨by have:=HJ3.out;have:=HJ11.out;have:=HJ22.out;have:=HJ90.out;have:=HJ94.out;have:=HJ102.out;have:=HJ110.out;have:=HJ151.out;have:=HJ155.out;first|omega|exact Nat.le_refl _⟩,⟨by (try simp only [hl370001_110]);(try simp only [hl375001_110]);(try simp only [hl381001_155]);(with_reducible repeat (first|apply Kd.R_alloc|apply Kd.R_drewN|apply Kd.R_drew));exact HO_365001.out⟩,⟨by (try simp only [hl370001_110]);(try simp only [hl375001_110]);(try simp only [hl381001_155]);(with_reducible repeat (first|apply Kd.R_alloc|apply Kd.R_drewN|apply Kd.R_drew));exact HO_370001.out⟩,⟨by (try simp only [hl370001_110]);(try simp only [hl375001_110]);(try simp only [hl381001_155]);(with_reducible repeat (first|apply Kd.R_alloc|apply Kd.R_drewN|apply Kd.R_drew));exact HO_375001.out⟩,⟨by (try simp only [hl370001_110]);(try simp only [hl375001_110]);(try simp only [hl381001_155]);(with_reducible repeat (first|apply Kd.R_alloc|apply Kd.R_drewN|apply Kd.R_drew));exact HO_381001.out⟩,⟨by (try simp only [hl370001_110]);(try simp only [hl375001_110]);(try simp only [hl381001_155]);(with_reducible repeat (first|refine blk_drewN ?_ _|refine blk_drew ?_|refine blk_alloc ?_ _));exact BK347.out⟩,⟨by (try simp only [hl370001_110]);(try simp only [hl375001_110]);(try simp only [hl381001_155]);(with_reducible repeat (first|refine blk_drewN ?_ _|refine blk_drew ?_|refine blk_alloc ?_ _));exact BK348.out⟩,⟨by (try simp only [hl370001_110]);(try simp only [hl375001_110]);(try simp only [hl381001_155]);(with_reducible repeat (first|refine blk_drewN ?_ _|refine blk_drew ?_|refine blk_alloc ?_ _));exact BK364.out⟩,⟨by (try simp only [hl370001_110]);(try simp only [hl375001_110]);(try simp only [hl381001_155]);(with_reducible repeat (first|refine blk_drewN ?_ _|refine blk_drew ?_|refine blk_alloc ?_ _));exact BK369.out⟩,⟨by (try simp only [hl370001_110]);(try simp only [hl375001_110]);(try simp only [hl381001_155]);(with_reducible repeat (first|refine blk_drewN ?_ _|refine blk_drew ?_|refine blk_alloc ?_ _));exact BK374.out⟩,⟨by (try simp only [hl370001_110]);(try simp only [hl375001_110]);(try simp only [hl381001_155]);(with_reducible repeat (first|refine blk_drewN ?_ _|refine blk_drew ?_|refine blk_alloc ?_ _));exact BK380.out⟩,⟨by repeat (first|(with_reducible first|exact HB.out|apply below_alloc|apply pw_below_drewN|apply below_drew1|refine below_set ?_ GE347.out|refine below_set ?_ GE348.out|refine below_set ?_ GE364.out|refine below_set ?_ GE369.out|refine below_set ?_ GE374.out|refine below_set ?_ GE380.out)|exact HB.out)⟩⟩
       ·rw [if_neg c168] at H
        have c168b0 : (t399 == t397) = false:=beq_eq_false_iff_ne.mpr c168
        have c168b1 : (t399 != t397) = true:=bne_iff_ne.mpr c168
        (first|rw [c168b0]|(simp only [i64_w,i32_w];rw [c168b0])|skip)
        obtain rfl:=Option.some.inj H
        go_wp2
        go_ret
        exact ⟨by first|rfl|(simp [errW_none,errW_some] <;> rfl)|(simp [*,errW_none,errW_some] <;> rfl),by repeat (first|(with_reducible first|exact HB.out|apply below_alloc|apply pw_below_drewN|apply below_drew1|refine below_set ?_ GE347.out|refine below_set ?_ GE348.out|refine below_set ?_ GE364.out|refine below_set ?_ GE369.out|refine below_set ?_ GE374.out|refine below_set ?_ GE380.out)|exact HB.out)⟩
      case rest =>
       clear HC167
       try clear c1
       try clear c2
       try clear p2
       try clear c3
       try clear c4
       try clear c5
       try clear c6
       try clear c7
       try clear c8
       try clear c9
       try clear c10
       try clear c11
       try clear c12
       try clear c13
       try clear c14
       try clear c15
       try clear c16
       try clear c19
       try clear c21
       try clear c22
       try clear c23
       try clear c26
       try clear c27
       try clear c35
       try clear c36
       try clear c40
       try clear c41
       try clear c42
       try clear c45
       try clear c49
       try clear c50
       try clear c51
       try clear c52
       try clear c58
       try clear c59
       try clear c60
       try clear c61
       try clear c62
       try clear c66
       try clear c67
       try clear c68
       try clear c69
       try clear c70
       try clear c71
       try clear c73
       try clear c74
       try clear c75
       try clear c76
       try clear c79
       try clear c80
       try clear c81
       try clear c82
       try clear c83
       try clear c85
       try clear c86
       try clear c87
       try clear c88
       try clear c92
       try clear c100
       try clear c108
       try clear c112
       try clear c113
       try clear c114
       try clear c115
       try clear c116
       try clear c119
       try clear c120
       try clear c121
       try clear c122
       try clear c125
       try clear c125b0
       try clear c127
       try clear c128
       try clear c129
       try clear c130
       try clear c131
       try clear c132
       try clear c134
       try clear c135
       try clear c136
       try clear c137
       try clear c140
       try clear c141
       try clear c142
       try clear c143
       try clear c144
       try clear c146
       try clear c147
       try clear c148
       try clear c149
       try clear c153
       try clear c157
       try clear c158
       try clear c159
       try clear c160
       try clear c161
       try clear c166
       try clear c166b0
       try clear c168
       try clear c168b0
       try clear c168b1
       try clear hcz117_0
       try clear hcz117_1
       try clear hcz123_0
       try clear hcz123_1
       try clear hcz133_0
       try clear hcz133_1
       try clear hcz138_0
       try clear hcz138_1
       try clear hcz145_0
       try clear hcz145_1
       try clear hcz150_0
       try clear hcz150_1
       try clear hcz162_0
       try clear hcz162_1
       try clear hcz164_0
       try clear hcz164_1
       try clear hcz37_0
       try clear hcz37_1
       try clear hcz43_0
       try clear hcz43_1
       try clear hcz46_0
       try clear hcz46_1
       try clear hcz53_0
       try clear hcz53_1
       try clear hcz55_0
       try clear hcz55_1
       try clear hcz63_0
       try clear hcz63_1
       try clear hcz72_0
       try clear hcz72_1
       try clear hcz77_0
       try clear hcz77_1
       try clear hcz84_0
       try clear hcz84_1
       try clear hcz89_0
       try clear hcz89_1
       try clear hfz117_0
       try clear hfz117_1
       try clear hfz123_0
       try clear hfz123_1
       try clear hfz133_0
       try clear hfz133_1
       try clear hfz138_0
       try clear hfz138_1
       try clear hfz145_0
       try clear hfz145_1
       try clear hfz150_0
       try clear hfz150_1
       try clear hfz162_0
       try clear hfz162_1
       try clear hfz164_0
       try clear hfz164_1
       try clear hfz37_0
       try clear hfz37_1
       try clear hfz43_0
       try clear hfz43_1
       try clear hfz46_0
       try clear hfz46_1
       try clear hfz53_0
       try clear hfz53_1
       try clear hfz55_0
       try clear hfz55_1
       try clear hfz63_0
       try clear hfz63_1
       try clear hfz72_0
       try clear hfz72_1
       try clear hfz77_0
       try clear hfz77_1
       try clear hfz84_0
       try clear hfz84_1
       try clear hfz89_0
       try clear hfz89_1
       try clear p2
       obtain ⟨kq,HA,HJ166,HO_365001,HO_370001,HO_375001,HO_381001,BK347,BK348,BK364,BK369,BK374,BK380,HB⟩:=hcut
       cases kq with
       | zero => exact absurd HA.out (by simp [laws_FnExactMulGrades.j9])
       | succ kj166 =>
        have H:=HA.out
        clear HA
        simp only [laws_FnExactMulGrades.j9] at H
        replace H:=Option.bind_eq_some_iff.mp H
        obtain ⟨⟨t400,t401⟩,A1690,H⟩:=H
        replace H : ((laws_toMatrix.f kj166 a1_0 l1_1).bind fun bt404 => ((impl_MulGrades.f kj166 t400 t401 bt404.1 bt404.2).bind fun bt408 => ((laws_eqMatrix.f kj166 bt408.1 bt408.2.1 t359 t360).bind fun t414 => (if t414 = true then (laws_FnExactMulGrades.j10 kj166 t397 (bt408.2.2 != t363) t375 t398) else (laws_FnExactMulGrades.j10 kj166 t397 true t375 t398))))) = some r:=H
        have A169:=Aside0.mk A1690
        clear A1690
        replace H:=Option.bind_eq_some_iff.mp H
        obtain ⟨⟨t404,t405⟩,A1700,H⟩:=H
        replace H : ((impl_MulGrades.f kj166 t400 t401 t404 t405).bind fun bt408 => ((laws_eqMatrix.f kj166 bt408.1 bt408.2.1 t359 t360).bind fun t414 => (if t414 = true then (laws_FnExactMulGrades.j10 kj166 t397 (bt408.2.2 != t363) t375 t398) else (laws_FnExactMulGrades.j10 kj166 t397 true t375 t398)))) = some r:=H
        have A170:=Aside0.mk A1700
        clear A1700
        replace H:=Option.bind_eq_some_iff.mp H
        obtain ⟨⟨t408,t409,t412⟩,A1710,H⟩:=H
        replace H : ((laws_eqMatrix.f kj166 t408 t409 t359 t360).bind fun t414 => (if t414 = true then (laws_FnExactMulGrades.j10 kj166 t397 (t412 != t363) t375 t398) else (laws_FnExactMulGrades.j10 kj166 t397 true t375 t398))) = some r:=H
        have A171:=Aside0.mk A1710
        clear A1710
        have HC172:=Aside0.mk H
        clear H
        try go_wp2
        have n0_:=Aside0.mk (Kd.R_drew HO_365001.out)
        have n1_:=Aside0.mk (Kd.R_drew HO_370001.out)
        have n2_:=Aside0.mk (Kd.R_drew HO_375001.out)
        have n3_:=Aside0.mk (Kd.R_drew HO_381001.out)
        have n4_:=Aside0.mk (blk_drew BK347.out)
        have n5_:=Aside0.mk (blk_drew BK348.out)
        have n6_:=Aside0.mk (blk_drew BK364.out)
        have n7_:=Aside0.mk (blk_drew BK369.out)
        have n8_:=Aside0.mk (blk_drew BK374.out)
        have n9_:=Aside0.mk (blk_drew BK380.out)
        have n10_:=Aside0.mk (below_drew1 HB.out)
        clear HO_365001
        clear HO_370001
        clear HO_375001
        clear HO_381001
        clear BK347
        clear BK348
        clear BK364
        clear BK369
        clear BK374
        clear BK380
        clear HB
        have HO_365001:=n0_
        have HO_370001:=n1_
        have HO_375001:=n2_
        have HO_381001:=n3_
        have BK347:=n4_
        have BK348:=n5_
        have BK364:=n6_
        have BK369:=n7_
        have BK374:=n8_
        have BK380:=n9_
        have HB:=n10_
        clear n0_ n1_ n2_ n3_ n4_ n5_ n6_ n7_ n8_ n9_ n10_
        refine start_ (n:=11) (S:=fun w' => w'.cell? ⟨gb347,0,none⟩ = some (.int .i64 a0_0) ∧ w'.cell? ⟨gb347,1,none⟩ = some (.slice A0_1 l0_1.length c0_1) ∧ w'.cell? ⟨gb348,0,none⟩ = some (.int .i64 a1_0) ∧ w'.cell? ⟨gb348,1,none⟩ = some (.slice A1_1 l1_1.length c1_1)) (ds:=[]) #[false,false,false,false,false,false,false,false,false,false,false] (by kernel_rfl) rfl rfl ⟨(blk_cell BK347.out 0).trans rfl,(blk_cell BK347.out 1).trans rfl,(blk_cell BK348.out 0).trans rfl,(blk_cell BK348.out 1).trans rfl⟩ (fun hHeld => ?_);refine with_tabW laws_FnExactMulGrades.tab31 laws_FnExactMulGrades.bits31 (fun HT_ HW_ => ?_)
        generalize wc.drew = w173 at HO_365001 HO_370001 HO_375001 HO_381001 BK347 BK348 BK364 BK369 BK374 BK380 HB hHeld ⊢
        refine take_ (i:=0) (N:=some 95) (v:=?_) (a':=?_) #[true,false,false,false,false,false,false,false,false,false,false] rfl rfl (take_ofW HT_.out HW_.out (by kernel_rfl)) (fun _ _ _ h => h) (Or.inl ⟨by rfl,?_⟩) hHeld ?_ ?_
        rotate_left
        ·rintro w' ⟨s0,s1,s2,s3⟩
         go_simp
         with_reducible rfl
        rotate_left
        ·simp only [Act.put,List.setIfInBounds_toArray,List.set_cons_zero,List.set_cons_succ,i64_w,i32_w]
         rfl
        refine take_ (i:=2) (N:=some 97) (v:=?_) (a':=?_) #[true,false,true,false,false,false,false,false,false,false,false] rfl rfl (take_ofW HT_.out HW_.out (by kernel_rfl)) (fun _ _ _ h => h) (Or.inl ⟨by rfl,?_⟩) hHeld ?_ ?_
        rotate_left
        ·rintro w' ⟨s0,s1,s2,s3⟩
         go_simp
         with_reducible rfl
        rotate_left
        ·simp only [Act.put,List.setIfInBounds_toArray,List.set_cons_zero,List.set_cons_succ,i64_w,i32_w]
         rfl
        refine join_ (σ:=Value × Value × Value × Nat) 2 #[true,true,true,true,true,true,true,true,true,false,false] (fun s_ => [(96,.agg #[.int .i64 t400,s_.1]),(98,.agg #[.int .i64 t404,s_.2.1]),(99,.tuple #[.agg #[.int .i64 t408,s_.2.2.1],.bool t412]),(15,.pointer (some ⟨s_.2.2.2,0,none⟩)),(94,.tuple #[.agg #[.int .i64 t408,s_.2.2.1],.bool t412]),(100,.agg #[.int .i64 t408,s_.2.2.1]),(101,.bool t412)]) (fun s_ w' => (w'.cell? ⟨gb347,0,none⟩ = some (.int .i64 a0_0) ∧ w'.cell? ⟨gb347,1,none⟩ = some (.slice A0_1 l0_1.length c0_1) ∧ w'.cell? ⟨gb348,0,none⟩ = some (.int .i64 a1_0) ∧ w'.cell? ⟨gb348,1,none⟩ = some (.slice A1_1 l1_1.length c1_1)) ∧ (Kd.R (Kd.int .i64) 3 w' w.heap.size (fun k_ => some k_ ≠ (s_.2.1 : Value).ownBlock ∧ some k_ ≠ (s_.2.2.1 : Value).ownBlock ∧ some k_ ≠ (.slice Ao33 t360.length co33 : Value).ownBlock ∧ some k_ ≠ (.slice Ao44 t393.length co44 : Value).ownBlock ∧ some k_ ≠ (.slice Ao54 t395.length co54 : Value).ownBlock ∧ some k_ ≠ (.slice Ao64 t398.length co64 : Value).ownBlock) s_.1 t401) ∧ (Kd.R (Kd.int .i64) 3 w' w.heap.size (fun k_ => some k_ ≠ (s_.1 : Value).ownBlock ∧ some k_ ≠ (s_.2.2.1 : Value).ownBlock ∧ some k_ ≠ (.slice Ao33 t360.length co33 : Value).ownBlock ∧ some k_ ≠ (.slice Ao44 t393.length co44 : Value).ownBlock ∧ some k_ ≠ (.slice Ao54 t395.length co54 : Value).ownBlock ∧ some k_ ≠ (.slice Ao64 t398.length co64 : Value).ownBlock) s_.2.1 t405) ∧ (Kd.R (Kd.int .i64) 3 w' w.heap.size (fun k_ => some k_ ≠ (s_.1 : Value).ownBlock ∧ some k_ ≠ (s_.2.1 : Value).ownBlock ∧ some k_ ≠ (.slice Ao33 t360.length co33 : Value).ownBlock ∧ some k_ ≠ (.slice Ao44 t393.length co44 : Value).ownBlock ∧ some k_ ≠ (.slice Ao54 t395.length co54 : Value).ownBlock ∧ some k_ ≠ (.slice Ao64 t398.length co64 : Value).ownBlock) s_.2.2.1 t409) ∧ (Kd.R (Kd.int .i64) 3 w' w.heap.size (fun k_ => some k_ ≠ (s_.1 : Value).ownBlock ∧ some k_ ≠ (s_.2.1 : Value).ownBlock ∧ some k_ ≠ (s_.2.2.1 : Value).ownBlock ∧ some k_ ≠ (.slice Ao44 t393.length co44 : Value).ownBlock ∧ some k_ ≠ (.slice Ao54 t395.length co54 : Value).ownBlock ∧ some k_ ≠ (.slice Ao64 t398.length co64 : Value).ownBlock) (.slice Ao33 t360.length co33) t360) ∧ (Kd.R (Kd.int .i64) 3 w' w.heap.size (fun k_ => some k_ ≠ (s_.1 : Value).ownBlock ∧ some k_ ≠ (s_.2.1 : Value).ownBlock ∧ some k_ ≠ (s_.2.2.1 : Value).ownBlock ∧ some k_ ≠ (.slice Ao33 t360.length co33 : Value).ownBlock ∧ some k_ ≠ (.slice Ao54 t395.length co54 : Value).ownBlock ∧ some k_ ≠ (.slice Ao64 t398.length co64 : Value).ownBlock) (.slice Ao44 t393.length co44) t393) ∧ (Kd.R (Kd.int .i64) 3 w' w.heap.size (fun k_ => some k_ ≠ (s_.1 : Value).ownBlock ∧ some k_ ≠ (s_.2.1 : Value).ownBlock ∧ some k_ ≠ (s_.2.2.1 : Value).ownBlock ∧ some k_ ≠ (.slice Ao33 t360.length co33 : Value).ownBlock ∧ some k_ ≠ (.slice Ao44 t393.length co44 : Value).ownBlock ∧ some k_ ≠ (.slice Ao64 t398.length co64 : Value).ownBlock) (.slice Ao54 t395.length co54) t395) ∧ (Kd.R (Kd.int .i64) 3 w' w.heap.size (fun k_ => some k_ ≠ (s_.1 : Value).ownBlock ∧ some k_ ≠ (s_.2.1 : Value).ownBlock ∧ some k_ ≠ (s_.2.2.1 : Value).ownBlock ∧ some k_ ≠ (.slice Ao33 t360.length co33 : Value).ownBlock ∧ some k_ ≠ (.slice Ao44 t393.length co44 : Value).ownBlock ∧ some k_ ≠ (.slice Ao54 t395.length co54 : Value).ownBlock) (.slice Ao64 t398.length co64) t398) ∧ (w'.heap[gb347]? = some (.cells #[.int .i64 a0_0,.slice A0_1 l0_1.length c0_1] 26 (0,0))) ∧ (w'.heap[gb348]? = some (.cells #[.int .i64 a1_0,.slice A1_1 l1_1.length c1_1] 26 (0,0))) ∧ (w'.heap[gb364]? = some (.cells #[.int .i64 t359,.slice Ao33 t360.length co33] 28 (0,0))) ∧ (w'.heap[gb369]? = some (.cells #[.int .i64 t365,.slice Ao44 t393.length co44] 28 (0,0))) ∧ (w'.heap[gb374]? = some (.cells #[.int .i64 t370,.slice Ao54 t395.length co54] 28 (0,0))) ∧ (w'.heap[gb380]? = some (.cells #[.int .i64 t375,.slice Ao64 t398.length co64] 28 (0,0))) ∧ (w'.heap[s_.2.2.2]? = some (.cells #[.int .i64 0,.slice none 0 0] 28 (0,0))) ∧ (w.heap.size ≤ s_.2.2.2) ∧ (w.heap.size ≤ s_.2.2.2) ∧ (gb347 ≠ s_.2.2.2) ∧ (s_.2.2.2 ≠ gb347) ∧ (gb348 ≠ s_.2.2.2) ∧ (s_.2.2.2 ≠ gb348) ∧ (gb364 ≠ s_.2.2.2) ∧ (s_.2.2.2 ≠ gb364) ∧ (gb369 ≠ s_.2.2.2) ∧ (s_.2.2.2 ≠ gb369) ∧ (gb374 ≠ s_.2.2.2) ∧ (s_.2.2.2 ≠ gb374) ∧ (gb380 ≠ s_.2.2.2) ∧ (s_.2.2.2 ≠ gb380) ∧ (Below w.heap.size w w')) ?_ ?_
        rotate_left
        ·intro hCont
         refine two_ (i:=1) (j:=8) (Ni:=some 96) (Nj:=some 15) #[true,true,true,false,false,false,false,false,false,false,false] #[true,false,true,false,false,false,false,false,true,false,false] rfl rfl rfl rfl (two_of HT_.out (by kernel_rfl)) (by decide) (by decide) (fun K hK => ?_) (fun K hK => ?_)
         ·skip
          refine goes_ Try.func19 (by kernel_rfl) rfl #[.agg #[.int .i64 a0_0,.slice A0_1 l0_1.length c0_1]] (by rfl) rfl rfl (by (try simp only [List.map_toArray,List.map_cons,List.map_nil]);first|done|rfl|(simp only [List.length_drop,List.length_take];rfl)) ?_
          with_reducible refine (laws_toMatrix.calls kj166 a0_0 _ _ l0_1 t400 t401 _ ?side1 ?side2 A169.out).mono ?_
          (case side1 => repeat (first|exact (Kd.C_below HR0_1.out HB.out)|(with_reducible refine Kd.C_alloc ?_ _)|(with_reducible refine Kd.C_drewN ?_ _)|(with_reducible refine Kd.C_drew ?_)))
          (case side2 => exact HC0_1.out)
          rintro e w174 ⟨v402,rfl,ho0,hb⟩
          refine ⟨_,rfl,?_⟩
          have n0_:=Aside0.mk (Kd.R_elder' (by (with_reducible repeat (first|apply Kd.R_alloc|apply Kd.R_drewN|apply Kd.R_drew));exact HO_365001.out) (Kd.R_base ho0) hb)
          have n1_:=Aside0.mk (Kd.R_elder' (by (with_reducible repeat (first|apply Kd.R_alloc|apply Kd.R_drewN|apply Kd.R_drew));exact HO_370001.out) (Kd.R_base ho0) hb)
          have n2_:=Aside0.mk (Kd.R_elder' (by (with_reducible repeat (first|apply Kd.R_alloc|apply Kd.R_drewN|apply Kd.R_drew));exact HO_375001.out) (Kd.R_base ho0) hb)
          have n3_:=Aside0.mk (Kd.R_elder' (by (with_reducible repeat (first|apply Kd.R_alloc|apply Kd.R_drewN|apply Kd.R_drew));exact HO_381001.out) (Kd.R_base ho0) hb)
          have n4_:=Aside0.mk (Kd.R_lower (Kd.R_new' (Kd.R_new' (Kd.R_new' (Kd.R_new' ho0 (Kd.R_lt (by (with_reducible repeat (first|apply Kd.R_alloc|apply Kd.R_drewN|apply Kd.R_drew));exact HO_365001.out))) (Kd.R_lt (by (with_reducible repeat (first|apply Kd.R_alloc|apply Kd.R_drewN|apply Kd.R_drew));exact HO_370001.out))) (Kd.R_lt (by (with_reducible repeat (first|apply Kd.R_alloc|apply Kd.R_drewN|apply Kd.R_drew));exact HO_375001.out))) (Kd.R_lt (by (with_reducible repeat (first|apply Kd.R_alloc|apply Kd.R_drewN|apply Kd.R_drew));exact HO_381001.out))) (below_size (by repeat (first|(with_reducible first|exact HB.out|apply below_alloc|apply pw_below_drewN|apply below_drew1|refine below_set ?_ GE347.out|refine below_set ?_ GE348.out|refine below_set ?_ GE364.out|refine below_set ?_ GE369.out|refine below_set ?_ GE374.out|refine below_set ?_ GE380.out)|exact HB.out))))
          have n5_:=Aside0.mk (blk_below (g:=gb347) (o:=.cells #[.int .i64 a0_0,.slice A0_1 l0_1.length c0_1] 26 (0,0)) (by (with_reducible repeat (first|refine blk_drewN ?_ _|refine blk_drew ?_|refine blk_alloc ?_ _));exact BK347.out) hb)
          have n6_:=Aside0.mk (blk_below (g:=gb348) (o:=.cells #[.int .i64 a1_0,.slice A1_1 l1_1.length c1_1] 26 (0,0)) (by (with_reducible repeat (first|refine blk_drewN ?_ _|refine blk_drew ?_|refine blk_alloc ?_ _));exact BK348.out) hb)
          have n7_:=Aside0.mk (blk_below (g:=gb364) (o:=.cells #[.int .i64 t359,.slice Ao33 t360.length co33] 28 (0,0)) (by (with_reducible repeat (first|refine blk_drewN ?_ _|refine blk_drew ?_|refine blk_alloc ?_ _));exact BK364.out) hb)
          have n8_:=Aside0.mk (blk_below (g:=gb369) (o:=.cells #[.int .i64 t365,.slice Ao44 t393.length co44] 28 (0,0)) (by (with_reducible repeat (first|refine blk_drewN ?_ _|refine blk_drew ?_|refine blk_alloc ?_ _));exact BK369.out) hb)
          have n9_:=Aside0.mk (blk_below (g:=gb374) (o:=.cells #[.int .i64 t370,.slice Ao54 t395.length co54] 28 (0,0)) (by (with_reducible repeat (first|refine blk_drewN ?_ _|refine blk_drew ?_|refine blk_alloc ?_ _));exact BK374.out) hb)
          have n10_:=Aside0.mk (blk_below (g:=gb380) (o:=.cells #[.int .i64 t375,.slice Ao64 t398.length co64] 28 (0,0)) (by (with_reducible repeat (first|refine blk_drewN ?_ _|refine blk_drew ?_|refine blk_alloc ?_ _));exact BK380.out) hb)
          have n11_:=Aside0.mk (below_step (by repeat (first|(with_reducible first|exact HB.out|apply below_alloc|apply pw_below_drewN|apply below_drew1|refine below_set ?_ GE347.out|refine below_set ?_ GE348.out|refine below_set ?_ GE364.out|refine below_set ?_ GE369.out|refine below_set ?_ GE374.out|refine below_set ?_ GE380.out)|exact HB.out)) hb)
          clear HO_365001
          clear HO_370001
          clear HO_375001
          clear HO_381001
          clear BK347
          clear BK348
          clear BK364
          clear BK369
          clear BK374
          clear BK380
          clear HB
          have HO_365001:=n0_
          have HO_370001:=n1_
          have HO_375001:=n2_
          have HO_381001:=n3_
          have HO403:=n4_
          have BK347:=n5_
          have BK348:=n6_
          have BK364:=n7_
          have BK369:=n8_
          have BK374:=n9_
          have BK380:=n10_
          have HB:=n11_
          clear n0_ n1_ n2_ n3_ n4_ n5_ n6_ n7_ n8_ n9_ n10_ n11_
          (try clear hb)
          (try clear hb2)
          (try clear hk)
          (try clear hi)
          (try clear ho0)
          refine hK.out _ _ ⟨(blk_cell BK347.out 0).trans rfl,(blk_cell BK347.out 1).trans rfl,(blk_cell BK348.out 0).trans rfl,(blk_cell BK348.out 1).trans rfl⟩ (fun hHeld => ?_)
          clear hK K
          refine norm_ (a':=?_) ?_ ?_
          rotate_left
          ·show Act.put _ (some 96) _ = _
           simp only [Act.put,List.setIfInBounds_toArray,List.set_cons_zero,List.set_cons_succ,i64_w,i32_w]
           rfl
          refine two_ (i:=3) (j:=8) (Ni:=some 98) (Nj:=some 15) #[true,true,true,true,false,false,false,false,false,false,false] #[true,true,true,false,false,false,false,false,true,false,false] rfl rfl rfl rfl (two_of HT_.out (by kernel_rfl)) (by decide) (by decide) (fun K hK => ?_) (fun K hK => ?_)
          ·skip
           refine goes_ Try.func19 (by kernel_rfl) rfl #[.agg #[.int .i64 a1_0,.slice A1_1 l1_1.length c1_1]] (by rfl) rfl rfl (by (try simp only [List.map_toArray,List.map_cons,List.map_nil]);first|done|rfl|(simp only [List.length_drop,List.length_take];rfl)) ?_
           with_reducible refine (laws_toMatrix.calls kj166 a1_0 _ _ l1_1 t404 t405 _ ?side1 ?side2 A170.out).mono ?_
           (case side1 => repeat (first|exact (Kd.C_below HR1_1.out HB.out)|(with_reducible refine Kd.C_alloc ?_ _)|(with_reducible refine Kd.C_drewN ?_ _)|(with_reducible refine Kd.C_drew ?_)))
           (case side2 => exact HC1_1.out)
           rintro e w175 ⟨v406,rfl,ho0,hb⟩
           refine ⟨_,rfl,?_⟩
           have n0_:=Aside0.mk (Kd.R_elder' (by (with_reducible repeat (first|apply Kd.R_alloc|apply Kd.R_drewN|apply Kd.R_drew));exact HO_365001.out) (Kd.R_base ho0) hb)
           have n1_:=Aside0.mk (Kd.R_elder' (by (with_reducible repeat (first|apply Kd.R_alloc|apply Kd.R_drewN|apply Kd.R_drew));exact HO_370001.out) (Kd.R_base ho0) hb)
           have n2_:=Aside0.mk (Kd.R_elder' (by (with_reducible repeat (first|apply Kd.R_alloc|apply Kd.R_drewN|apply Kd.R_drew));exact HO_375001.out) (Kd.R_base ho0) hb)
           have n3_:=Aside0.mk (Kd.R_elder' (by (with_reducible repeat (first|apply Kd.R_alloc|apply Kd.R_drewN|apply Kd.R_drew));exact HO_381001.out) (Kd.R_base ho0) hb)
           have n4_:=Aside0.mk (Kd.R_elder' (by (with_reducible repeat (first|apply Kd.R_alloc|apply Kd.R_drewN|apply Kd.R_drew));exact HO403.out) (Kd.R_base ho0) hb)
           have n5_:=Aside0.mk (Kd.R_lower (Kd.R_new' (Kd.R_new' (Kd.R_new' (Kd.R_new' (Kd.R_new' ho0 (Kd.R_lt (by (with_reducible repeat (first|apply Kd.R_alloc|apply Kd.R_drewN|apply Kd.R_drew));exact HO_365001.out))) (Kd.R_lt (by (with_reducible repeat (first|apply Kd.R_alloc|apply Kd.R_drewN|apply Kd.R_drew));exact HO_370001.out))) (Kd.R_lt (by (with_reducible repeat (first|apply Kd.R_alloc|apply Kd.R_drewN|apply Kd.R_drew));exact HO_375001.out))) (Kd.R_lt (by (with_reducible repeat (first|apply Kd.R_alloc|apply Kd.R_drewN|apply Kd.R_drew));exact HO_381001.out))) (Kd.R_lt (by (with_reducible repeat (first|apply Kd.R_alloc|apply Kd.R_drewN|apply Kd.R_drew));exact HO403.out))) (below_size (by repeat (first|(with_reducible first|exact HB.out|apply below_alloc|apply pw_below_drewN|apply below_drew1|refine below_set ?_ GE347.out|refine below_set ?_ GE348.out|refine below_set ?_ GE364.out|refine below_set ?_ GE369.out|refine below_set ?_ GE374.out|refine below_set ?_ GE380.out)|exact HB.out))))
           have n6_:=Aside0.mk (blk_below (g:=gb347) (o:=.cells #[.int .i64 a0_0,.slice A0_1 l0_1.length c0_1] 26 (0,0)) (by (with_reducible repeat (first|refine blk_drewN ?_ _|refine blk_drew ?_|refine blk_alloc ?_ _));exact BK347.out) hb)
           have n7_:=Aside0.mk (blk_below (g:=gb348) (o:=.cells #[.int .i64 a1_0,.slice A1_1 l1_1.length c1_1] 26 (0,0)) (by (with_reducible repeat (first|refine blk_drewN ?_ _|refine blk_drew ?_|refine blk_alloc ?_ _));exact BK348.out) hb)
           have n8_:=Aside0.mk (blk_below (g:=gb364) (o:=.cells #[.int .i64 t359,.slice Ao33 t360.length co33] 28 (0,0)) (by (with_reducible repeat (first|refine blk_drewN ?_ _|refine blk_drew ?_|refine blk_alloc ?_ _));exact BK364.out) hb)
           have n9_:=Aside0.mk (blk_below (g:=gb369) (o:=.cells #[.int .i64 t365,.slice Ao44 t393.length co44] 28 (0,0)) (by (with_reducible repeat (first|refine blk_drewN ?_ _|refine blk_drew ?_|refine blk_alloc ?_ _));exact BK369.out) hb)
           have n10_:=Aside0.mk (blk_below (g:=gb374) (o:=.cells #[.int .i64 t370,.slice Ao54 t395.length co54] 28 (0,0)) (by (with_reducible repeat (first|refine blk_drewN ?_ _|refine blk_drew ?_|refine blk_alloc ?_ _));exact BK374.out) hb)
           have n11_:=Aside0.mk (blk_below (g:=gb380) (o:=.cells #[.int .i64 t375,.slice Ao64 t398.length co64] 28 (0,0)) (by (with_reducible repeat (first|refine blk_drewN ?_ _|refine blk_drew ?_|refine blk_alloc ?_ _));exact BK380.out) hb)
           have n12_:=Aside0.mk (below_step (by repeat (first|(with_reducible first|exact HB.out|apply below_alloc|apply pw_below_drewN|apply below_drew1|refine below_set ?_ GE347.out|refine below_set ?_ GE348.out|refine below_set ?_ GE364.out|refine below_set ?_ GE369.out|refine below_set ?_ GE374.out|refine below_set ?_ GE380.out)|exact HB.out)) hb)
           clear HO_365001
           clear HO_370001
           clear HO_375001
           clear HO_381001
           clear HO403
           clear BK347
           clear BK348
           clear BK364
           clear BK369
           clear BK374
           clear BK380
           clear HB
           have HO_365001:=n0_
           have HO_370001:=n1_
           have HO_375001:=n2_
           have HO_381001:=n3_
           have HO403:=n4_
           have HO407:=n5_
           have BK347:=n6_
           have BK348:=n7_
           have BK364:=n8_
           have BK369:=n9_
           have BK374:=n10_
           have BK380:=n11_
           have HB:=n12_
           clear n0_ n1_ n2_ n3_ n4_ n5_ n6_ n7_ n8_ n9_ n10_ n11_ n12_
           (try clear hb)
           (try clear hb2)
           (try clear hk)
           (try clear hi)
           (try clear ho0)
           obtain ⟨Ao176,co176,eo176⟩:=Kd.R_slice HO403.out
           (first|subst eo176|(injection eo176 with f1_ f2_ f3_;have f4_:=f1_.symm;have f5_:=f3_.symm;clear f1_ f2_ f3_;subst f4_;subst f5_))
           obtain ⟨Ao177,co177,eo177⟩:=Kd.R_slice HO407.out
           (first|subst eo177|(injection eo177 with f1_ f2_ f3_;have f4_:=f1_.symm;have f5_:=f3_.symm;clear f1_ f2_ f3_;subst f4_;subst f5_))
           refine hK.out _ _ ⟨(blk_cell BK347.out 0).trans rfl,(blk_cell BK347.out 1).trans rfl,(blk_cell BK348.out 0).trans rfl,(blk_cell BK348.out 1).trans rfl⟩ (fun hHeld => ?_)
           clear hK K
           refine norm_ (a':=?_) ?_ ?_
           rotate_left
           ·show Act.put _ (some 98) _ = _
            simp only [Act.put,List.setIfInBounds_toArray,List.set_cons_zero,List.set_cons_succ,i64_w,i32_w]
            rfl
           refine two_ (i:=4) (j:=8) (Ni:=some 99) (Nj:=some 15) #[true,true,true,true,true,false,false,false,false,false,false] #[true,true,true,true,false,false,false,false,true,false,false] rfl rfl rfl rfl (two_of HT_.out (by kernel_rfl)) (by decide) (by decide) (fun K hK => ?_) (fun K hK => ?_)
           ·skip
            refine goes_ Try.func27 (by kernel_rfl) rfl #[.agg #[.int .i64 t400,.slice Ao176 t401.length co176],.agg #[.int .i64 t404,.slice Ao177 t405.length co177]] (by rfl) rfl rfl (by (try simp only [List.map_toArray,List.map_cons,List.map_nil]);first|done|rfl|(simp only [List.length_drop,List.length_take];rfl)) ?_
            with_reducible refine (impl_MulGrades.calls kj166 t400 _ _ t401 t404 _ _ t405 t408 t409 t412 _ ?side1 ?side2 ?side3 ?side4 A171.out).mono ?_
            (case side1 => repeat (first|exact (Kd.R_reads' HO403.out).2.2|(with_reducible refine Kd.C_alloc ?_ _)|(with_reducible refine Kd.C_drewN ?_ _)|(with_reducible refine Kd.C_drew ?_)))
            (case side2 => exact (Kd.R_reads' HO403.out).2.1)
            (case side3 => repeat (first|exact (Kd.R_reads' HO407.out).2.2|(with_reducible refine Kd.C_alloc ?_ _)|(with_reducible refine Kd.C_drewN ?_ _)|(with_reducible refine Kd.C_drew ?_)))
            (case side4 => exact (Kd.R_reads' HO407.out).2.1)
            rintro e w178 ⟨v410,rfl,ho0,hb⟩
            refine ⟨_,rfl,?_⟩
            have n0_:=Aside0.mk (Kd.R_elder' (by (with_reducible repeat (first|apply Kd.R_alloc|apply Kd.R_drewN|apply Kd.R_drew));exact HO_365001.out) (Kd.R_base ho0) hb)
            have n1_:=Aside0.mk (Kd.R_elder' (by (with_reducible repeat (first|apply Kd.R_alloc|apply Kd.R_drewN|apply Kd.R_drew));exact HO_370001.out) (Kd.R_base ho0) hb)
            have n2_:=Aside0.mk (Kd.R_elder' (by (with_reducible repeat (first|apply Kd.R_alloc|apply Kd.R_drewN|apply Kd.R_drew));exact HO_375001.out) (Kd.R_base ho0) hb)
            have n3_:=Aside0.mk (Kd.R_elder' (by (with_reducible repeat (first|apply Kd.R_alloc|apply Kd.R_drewN|apply Kd.R_drew));exact HO_381001.out) (Kd.R_base ho0) hb)
            have n4_:=Aside0.mk (Kd.R_elder' (by (with_reducible repeat (first|apply Kd.R_alloc|apply Kd.R_drewN|apply Kd.R_drew));exact HO403.out) (Kd.R_base ho0) hb)
            have n5_:=Aside0.mk (Kd.R_elder' (by (with_reducible repeat (first|apply Kd.R_alloc|apply Kd.R_drewN|apply Kd.R_drew));exact HO407.out) (Kd.R_base ho0) hb)
            have n6_:=Aside0.mk (Kd.R_lower (Kd.R_new' (Kd.R_new' (Kd.R_new' (Kd.R_new' (Kd.R_new' (Kd.R_new' ho0 (Kd.R_lt (by (with_reducible repeat (first|apply Kd.R_alloc|apply Kd.R_drewN|apply Kd.R_drew));exact HO_365001.out))) (Kd.R_lt (by (with_reducible repeat (first|apply Kd.R_alloc|apply Kd.R_drewN|apply Kd.R_drew));exact HO_370001.out))) (Kd.R_lt (by (with_reducible repeat (first|apply Kd.R_alloc|apply Kd.R_drewN|apply Kd.R_drew));exact HO_375001.out))) (Kd.R_lt (by (with_reducible repeat (first|apply Kd.R_alloc|apply Kd.R_drewN|apply Kd.R_drew));exact HO_381001.out))) (Kd.R_lt (by (with_reducible repeat (first|apply Kd.R_alloc|apply Kd.R_drewN|apply Kd.R_drew));exact HO403.out))) (Kd.R_lt (by (with_reducible repeat (first|apply Kd.R_alloc|apply Kd.R_drewN|apply Kd.R_drew));exact HO407.out))) (below_size (by repeat (first|(with_reducible first|exact HB.out|apply below_alloc|apply pw_below_drewN|apply below_drew1|refine below_set ?_ GE347.out|refine below_set ?_ GE348.out|refine below_set ?_ GE364.out|refine below_set ?_ GE369.out|refine below_set ?_ GE374.out|refine below_set ?_ GE380.out)|exact HB.out))))
            have n7_:=Aside0.mk (blk_below (g:=gb347) (o:=.cells #[.int .i64 a0_0,.slice A0_1 l0_1.length c0_1] 26 (0,0)) (by (with_reducible repeat (first|refine blk_drewN ?_ _|refine blk_drew ?_|refine blk_alloc ?_ _));exact BK347.out) hb)
            have n8_:=Aside0.mk (blk_below (g:=gb348) (o:=.cells #[.int .i64 a1_0,.slice A1_1 l1_1.length c1_1] 26 (0,0)) (by (with_reducible repeat (first|refine blk_drewN ?_ _|refine blk_drew ?_|refine blk_alloc ?_ _));exact BK348.out) hb)
            have n9_:=Aside0.mk (blk_below (g:=gb364) (o:=.cells #[.int .i64 t359,.slice Ao33 t360.length co33] 28 (0,0)) (by (with_reducible repeat (first|refine blk_drewN ?_ _|refine blk_drew ?_|refine blk_alloc ?_ _));exact BK364.out) hb)
            have n10_:=Aside0.mk (blk_below (g:=gb369) (o:=.cells #[.int .i64 t365,.slice Ao44 t393.length co44] 28 (0,0)) (by (with_reducible repeat (first|refine blk_drewN ?_ _|refine blk_drew ?_|refine blk_alloc ?_ _));exact BK369.out) hb)
            have n11_:=Aside0.mk (blk_below (g:=gb374) (o:=.cells #[.int .i64 t370,.slice Ao54 t395.length co54] 28 (0,0)) (by (with_reducible repeat (first|refine blk_drewN ?_ _|refine blk_drew ?_|refine blk_alloc ?_ _));exact BK374.out) hb)
            have n12_:=Aside0.mk (blk_below (g:=gb380) (o:=.cells #[.int .i64 t375,.slice Ao64 t398.length co64] 28 (0,0)) (by (with_reducible repeat (first|refine blk_drewN ?_ _|refine blk_drew ?_|refine blk_alloc ?_ _));exact BK380.out) hb)
            have n13_:=Aside0.mk (below_step (by repeat (first|(with_reducible first|exact HB.out|apply below_alloc|apply pw_below_drewN|apply below_drew1|refine below_set ?_ GE347.out|refine below_set ?_ GE348.out|refine below_set ?_ GE364.out|refine below_set ?_ GE369.out|refine below_set ?_ GE374.out|refine below_set ?_ GE380.out)|exact HB.out)) hb)
            clear HO_365001
            clear HO_370001
            clear HO_375001
            clear HO_381001
            clear HO403
            clear HO407
            clear BK347
            clear BK348
            clear BK364
            clear BK369
            clear BK374
            clear BK380
            clear HB
            have HO_365001:=n0_
            have HO_370001:=n1_
            have HO_375001:=n2_
            have HO_381001:=n3_
            have HO403:=n4_
            have HO407:=n5_
            have HO411:=n6_
            have BK347:=n7_
            have BK348:=n8_
            have BK364:=n9_
            have BK369:=n10_
            have BK374:=n11_
            have BK380:=n12_
            have HB:=n13_
            clear n0_ n1_ n2_ n3_ n4_ n5_ n6_ n7_ n8_ n9_ n10_ n11_ n12_ n13_
            (try clear hb)
            (try clear hb2)
            (try clear hk)
            (try clear hi)
            (try clear ho0)
            refine hK.out _ _ ⟨(blk_cell BK347.out 0).trans rfl,(blk_cell BK347.out 1).trans rfl,(blk_cell BK348.out 0).trans rfl,(blk_cell BK348.out 1).trans rfl⟩ (fun hHeld => ?_)
            clear hK K
            refine norm_ (a':=?_) ?_ ?_
            rotate_left
            ·show Act.put _ (some 99) _ = _
             simp only [Act.put,List.setIfInBounds_toArray,List.set_cons_zero,List.set_cons_succ,i64_w,i32_w]
             rfl
            refine pure_ (i:=5) (N:=some 94) (v:=?_) (a':=?_) #[true,true,true,true,true,true,false,false,false,false,false] rfl rfl (any_of HT_.out (by kernel_rfl)) (fun _ _ _ h => h) (Or.inl ⟨by rfl,?_⟩) ?_ ?_
            rotate_left
            ·intro w'
             go_simp
             with_reducible rfl
            rotate_left
            ·simp only [Act.put,List.setIfInBounds_toArray,List.set_cons_zero,List.set_cons_succ,i64_w,i32_w]
             rfl
            refine pure_ (i:=6) (N:=some 100) (v:=?_) (a':=?_) #[true,true,true,true,true,true,true,false,false,false,false] rfl rfl (any_of HT_.out (by kernel_rfl)) (fun _ _ _ h => h) (Or.inl ⟨by rfl,?_⟩) ?_ ?_
            rotate_left
            ·intro w'
             go_simp
             with_reducible rfl
            rotate_left
            ·simp only [Act.put,List.setIfInBounds_toArray,List.set_cons_zero,List.set_cons_succ,i64_w,i32_w]
             rfl
            refine pure_ (i:=7) (N:=some 101) (v:=?_) (a':=?_) #[true,true,true,true,true,true,true,true,false,false,false] rfl rfl (any_of HT_.out (by kernel_rfl)) (fun _ _ _ h => h) (Or.inl ⟨by rfl,?_⟩) ?_ ?_
            rotate_left
            ·intro w'
             go_simp
             with_reducible rfl
            rotate_left
            ·simp only [Act.put,List.setIfInBounds_toArray,List.set_cons_zero,List.set_cons_succ,i64_w,i32_w]
             rfl
            refine one_ (i:=8) (N:=some 15) #[true,true,true,true,true,true,true,true,true,false,false] rfl rfl (one_of HT_.out (by kernel_rfl)) (by decide) (fun K hK => ?_)
            refine box_step ?hg (N:=15) ?hd (cs:=#[.int .i64 0,.slice none 0 0]) (t:=28) ?hr ?_;(case hd => rfl);(case hg => rfl);(case hr => first|(go_simp;done)|(go_simp;rfl))
            intro gb413 hg w179 hbox hb
            have n0_:=Aside0.mk (Kd.R_below (by (with_reducible repeat (first|apply Kd.R_alloc|apply Kd.R_drewN|apply Kd.R_drew));exact HO_365001.out) hb)
            have n1_:=Aside0.mk (Kd.R_below (by (with_reducible repeat (first|apply Kd.R_alloc|apply Kd.R_drewN|apply Kd.R_drew));exact HO_370001.out) hb)
            have n2_:=Aside0.mk (Kd.R_below (by (with_reducible repeat (first|apply Kd.R_alloc|apply Kd.R_drewN|apply Kd.R_drew));exact HO_375001.out) hb)
            have n3_:=Aside0.mk (Kd.R_below (by (with_reducible repeat (first|apply Kd.R_alloc|apply Kd.R_drewN|apply Kd.R_drew));exact HO_381001.out) hb)
            have n4_:=Aside0.mk (Kd.R_below (by (with_reducible repeat (first|apply Kd.R_alloc|apply Kd.R_drewN|apply Kd.R_drew));exact HO403.out) hb)
            have n5_:=Aside0.mk (Kd.R_below (by (with_reducible repeat (first|apply Kd.R_alloc|apply Kd.R_drewN|apply Kd.R_drew));exact HO407.out) hb)
            have n6_:=Aside0.mk (Kd.R_below (by (with_reducible repeat (first|apply Kd.R_alloc|apply Kd.R_drewN|apply Kd.R_drew));exact HO411.out) hb)
            have n7_:=Aside0.mk (blk_below (g:=gb347) (o:=.cells #[.int .i64 a0_0,.slice A0_1 l0_1.length c0_1] 26 (0,0)) (by (with_reducible repeat (first|refine blk_drewN ?_ _|refine blk_drew ?_|refine blk_alloc ?_ _));exact BK347.out) hb)
            have n8_:=Aside0.mk (blk_below (g:=gb348) (o:=.cells #[.int .i64 a1_0,.slice A1_1 l1_1.length c1_1] 26 (0,0)) (by (with_reducible repeat (first|refine blk_drewN ?_ _|refine blk_drew ?_|refine blk_alloc ?_ _));exact BK348.out) hb)
            have n9_:=Aside0.mk (blk_below (g:=gb364) (o:=.cells #[.int .i64 t359,.slice Ao33 t360.length co33] 28 (0,0)) (by (with_reducible repeat (first|refine blk_drewN ?_ _|refine blk_drew ?_|refine blk_alloc ?_ _));exact BK364.out) hb)
            have n10_:=Aside0.mk (blk_below (g:=gb369) (o:=.cells #[.int .i64 t365,.slice Ao44 t393.length co44] 28 (0,0)) (by (with_reducible repeat (first|refine blk_drewN ?_ _|refine blk_drew ?_|refine blk_alloc ?_ _));exact BK369.out) hb)
            have n11_:=Aside0.mk (blk_below (g:=gb374) (o:=.cells #[.int .i64 t370,.slice Ao54 t395.length co54] 28 (0,0)) (by (with_reducible repeat (first|refine blk_drewN ?_ _|refine blk_drew ?_|refine blk_alloc ?_ _));exact BK374.out) hb)
            have n12_:=Aside0.mk (blk_below (g:=gb380) (o:=.cells #[.int .i64 t375,.slice Ao64 t398.length co64] 28 (0,0)) (by (with_reducible repeat (first|refine blk_drewN ?_ _|refine blk_drew ?_|refine blk_alloc ?_ _));exact BK380.out) hb)
            have n13_:=Aside0.mk (below_step (by repeat (first|(with_reducible first|exact HB.out|apply below_alloc|apply pw_below_drewN|apply below_drew1|refine below_set ?_ GE347.out|refine below_set ?_ GE348.out|refine below_set ?_ GE364.out|refine below_set ?_ GE369.out|refine below_set ?_ GE374.out|refine below_set ?_ GE380.out)|exact HB.out)) hb)
            have n14_:=Aside0.mk (hbox)
            have n15_:=Aside0.mk ((by rw [hg];exact (below_size (by repeat (first|(with_reducible first|exact HB.out|apply below_alloc|apply pw_below_drewN|apply below_drew1|refine below_set ?_ GE347.out|refine below_set ?_ GE348.out|refine below_set ?_ GE364.out|refine below_set ?_ GE369.out|refine below_set ?_ GE374.out|refine below_set ?_ GE380.out)|exact HB.out))) : w.heap.size ≤ gb413))
            have n16_:=Aside0.mk ((by rw [hg];exact (below_size (by repeat (first|(with_reducible first|exact HB.out|apply below_alloc|apply pw_below_drewN|apply below_drew1|refine below_set ?_ GE347.out|refine below_set ?_ GE348.out|refine below_set ?_ GE364.out|refine below_set ?_ GE369.out|refine below_set ?_ GE374.out|refine below_set ?_ GE380.out)|exact HB.out))) : w.heap.size ≤ gb413))
            have n17_:=Aside0.mk ((by rw [hg];exact Nat.ne_of_lt (blk_lt (g:=gb347) (o:=.cells #[.int .i64 a0_0,.slice A0_1 l0_1.length c0_1] 26 (0,0)) (by (with_reducible repeat (first|refine blk_drewN ?_ _|refine blk_drew ?_|refine blk_alloc ?_ _));exact BK347.out)) : gb347 ≠ gb413))
            have n18_:=Aside0.mk ((by rw [hg];exact Nat.ne_of_gt (blk_lt (g:=gb347) (o:=.cells #[.int .i64 a0_0,.slice A0_1 l0_1.length c0_1] 26 (0,0)) (by (with_reducible repeat (first|refine blk_drewN ?_ _|refine blk_drew ?_|refine blk_alloc ?_ _));exact BK347.out)) : gb413 ≠ gb347))
            have n19_:=Aside0.mk ((by rw [hg];exact Nat.ne_of_lt (blk_lt (g:=gb348) (o:=.cells #[.int .i64 a1_0,.slice A1_1 l1_1.length c1_1] 26 (0,0)) (by (with_reducible repeat (first|refine blk_drewN ?_ _|refine blk_drew ?_|refine blk_alloc ?_ _));exact BK348.out)) : gb348 ≠ gb413))
            have n20_:=Aside0.mk ((by rw [hg];exact Nat.ne_of_gt (blk_lt (g:=gb348) (o:=.cells #[.int .i64 a1_0,.slice A1_1 l1_1.length c1_1] 26 (0,0)) (by (with_reducible repeat (first|refine blk_drewN ?_ _|refine blk_drew ?_|refine blk_alloc ?_ _));exact BK348.out)) : gb413 ≠ gb348))
            have n21_:=Aside0.mk ((by rw [hg];exact Nat.ne_of_lt (blk_lt (g:=gb364) (o:=.cells #[.int .i64 t359,.slice Ao33 t360.length co33] 28 (0,0)) (by (with_reducible repeat (first|refine blk_drewN ?_ _|refine blk_drew ?_|refine blk_alloc ?_ _));exact BK364.out)) : gb364 ≠ gb413))
            have n22_:=Aside0.mk ((by rw [hg];exact Nat.ne_of_gt (blk_lt (g:=gb364) (o:=.cells #[.int .i64 t359,.slice Ao33 t360.length co33] 28 (0,0)) (by (with_reducible repeat (first|refine blk_drewN ?_ _|refine blk_drew ?_|refine blk_alloc ?_ _));exact BK364.out)) : gb413 ≠ gb364))
            have n23_:=Aside0.mk ((by rw [hg];exact Nat.ne_of_lt (blk_lt (g:=gb369) (o:=.cells #[.int .i64 t365,.slice Ao44 t393.length co44] 28 (0,0)) (by (with_reducible repeat (first|refine blk_drewN ?_ _|refine blk_drew ?_|refine blk_alloc ?_ _));exact BK369.out)) : gb369 ≠ gb413))
            have n24_:=Aside0.mk ((by rw [hg];exact Nat.ne_of_gt (blk_lt (g:=gb369) (o:=.cells #[.int .i64 t365,.slice Ao44 t393.length co44] 28 (0,0)) (by (with_reducible repeat (first|refine blk_drewN ?_ _|refine blk_drew ?_|refine blk_alloc ?_ _));exact BK369.out)) : gb413 ≠ gb369))
            have n25_:=Aside0.mk ((by rw [hg];exact Nat.ne_of_lt (blk_lt (g:=gb374) (o:=.cells #[.int .i64 t370,.slice Ao54 t395.length co54] 28 (0,0)) (by (with_reducible repeat (first|refine blk_drewN ?_ _|refine blk_drew ?_|refine blk_alloc ?_ _));exact BK374.out)) : gb374 ≠ gb413))
            have n26_:=Aside0.mk ((by rw [hg];exact Nat.ne_of_gt (blk_lt (g:=gb374) (o:=.cells #[.int .i64 t370,.slice Ao54 t395.length co54] 28 (0,0)) (by (with_reducible repeat (first|refine blk_drewN ?_ _|refine blk_drew ?_|refine blk_alloc ?_ _));exact BK374.out)) : gb413 ≠ gb374))
            have n27_:=Aside0.mk ((by rw [hg];exact Nat.ne_of_lt (blk_lt (g:=gb380) (o:=.cells #[.int .i64 t375,.slice Ao64 t398.length co64] 28 (0,0)) (by (with_reducible repeat (first|refine blk_drewN ?_ _|refine blk_drew ?_|refine blk_alloc ?_ _));exact BK380.out)) : gb380 ≠ gb413))
            have n28_:=Aside0.mk ((by rw [hg];exact Nat.ne_of_gt (blk_lt (g:=gb380) (o:=.cells #[.int .i64 t375,.slice Ao64 t398.length co64] 28 (0,0)) (by (with_reducible repeat (first|refine blk_drewN ?_ _|refine blk_drew ?_|refine blk_alloc ?_ _));exact BK380.out)) : gb413 ≠ gb380))
            clear HO_365001
            clear HO_370001
            clear HO_375001
            clear HO_381001
            clear HO403
            clear HO407
            clear HO411
            clear BK347
            clear BK348
            clear BK364
            clear BK369
            clear BK374
            clear BK380
            clear HB
            have HO_365001:=n0_
            have HO_370001:=n1_
            have HO_375001:=n2_
            have HO_381001:=n3_
            have HO403:=n4_
            have HO407:=n5_
            have HO411:=n6_
            have BK347:=n7_
            have BK348:=n8_
            have BK364:=n9_
            have BK369:=n10_
            have BK374:=n11_
            have BK380:=n12_
            have HB:=n13_
            have BK413:=n14_
            have GW413:=n15_
            have GE413:=n16_
            have NB347_413:=n17_
            have NB413_347:=n18_
            have NB348_413:=n19_
            have NB413_348:=n20_
            have NB364_413:=n21_
            have NB413_364:=n22_
            have NB369_413:=n23_
            have NB413_369:=n24_
            have NB374_413:=n25_
            have NB413_374:=n26_
            have NB380_413:=n27_
            have NB413_380:=n28_
            clear n0_ n1_ n2_ n3_ n4_ n5_ n6_ n7_ n8_ n9_ n10_ n11_ n12_ n13_ n14_ n15_ n16_ n17_ n18_ n19_ n20_ n21_ n22_ n23_ n24_ n25_ n26_ n27_ n28_
            clear hb hbox hg
            refine hK.out _ _ ⟨(blk_cell BK347.out 0).trans rfl,(blk_cell BK347.out 1).trans rfl,(blk_cell BK348.out 0).trans rfl,(blk_cell BK348.out 1).trans rfl⟩ (fun hHeld => ?_)
            clear hK K
            refine norm_ (a':=?_) ?_ ?_
            rotate_left
            ·show Act.put _ (some 15) _ = _
             simp only [Act.put,List.setIfInBounds_toArray,List.set_cons_zero,List.set_cons_succ,i64_w,i32_w]
             rfl
            exact norm_ (by simp only [putAll,Act.put,List.setIfInBounds_toArray,List.set_cons_zero,List.set_cons_succ]) (hCont (.slice Ao176 t401.length co176,.slice Ao177 t405.length co177,v410,gb413) _ ⟨hHeld,(by (with_reducible repeat (first|apply Kd.R_alloc|apply Kd.R_drewN|apply Kd.R_drew));exact Kd.R_mono HO403.out (fun _ hk => ⟨hk.1.2,⟨hk.2,⟨hk.1.1.1.1.1.2,⟨hk.1.1.1.1.2,⟨hk.1.1.1.2,hk.1.1.2⟩⟩⟩⟩⟩)),(by (with_reducible repeat (first|apply Kd.R_alloc|apply Kd.R_drewN|apply Kd.R_drew));exact Kd.R_mono HO407.out (fun _ hk => ⟨hk.1.2,⟨hk.2,⟨hk.1.1.1.1.1.2,⟨hk.1.1.1.1.2,⟨hk.1.1.1.2,hk.1.1.2⟩⟩⟩⟩⟩)),(by (with_reducible repeat (first|apply Kd.R_alloc|apply Kd.R_drewN|apply Kd.R_drew));exact Kd.R_mono HO411.out (fun _ hk => ⟨hk.1.2,⟨hk.2,⟨hk.1.1.1.1.1.2,⟨hk.1.1.1.1.2,⟨hk.1.1.1.2,hk.1.1.2⟩⟩⟩⟩⟩)),(by (with_reducible repeat (first|apply Kd.R_alloc|apply Kd.R_drewN|apply Kd.R_drew));exact Kd.R_mono HO_365001.out (fun _ hk => ⟨hk.1.1.2,⟨hk.1.2,⟨hk.2,⟨hk.1.1.1.1,⟨hk.1.1.1.2.1,hk.1.1.1.2.2⟩⟩⟩⟩⟩)),(by (with_reducible repeat (first|apply Kd.R_alloc|apply Kd.R_drewN|apply Kd.R_drew));exact Kd.R_mono HO_370001.out (fun _ hk => ⟨hk.1.1.2,⟨hk.1.2,⟨hk.2,⟨hk.1.1.1.1,⟨hk.1.1.1.2.1,hk.1.1.1.2.2⟩⟩⟩⟩⟩)),(by (with_reducible repeat (first|apply Kd.R_alloc|apply Kd.R_drewN|apply Kd.R_drew));exact Kd.R_mono HO_375001.out (fun _ hk => ⟨hk.1.1.2,⟨hk.1.2,⟨hk.2,⟨hk.1.1.1.1,⟨hk.1.1.1.2.1,hk.1.1.1.2.2⟩⟩⟩⟩⟩)),(by (with_reducible repeat (first|apply Kd.R_alloc|apply Kd.R_drewN|apply Kd.R_drew));exact Kd.R_mono HO_381001.out (fun _ hk => ⟨hk.1.1.2,⟨hk.1.2,⟨hk.2,⟨hk.1.1.1.1,⟨hk.1.1.1.2.1,hk.1.1.1.2.2⟩⟩⟩⟩⟩)),(by (with_reducible repeat (first|refine blk_drewN ?_ _|refine blk_drew ?_|refine blk_alloc ?_ _));exact BK347.out),(by (with_reducible repeat (first|refine blk_drewN ?_ _|refine blk_drew ?_|refine blk_alloc ?_ _));exact BK348.out),(by (with_reducible repeat (first|refine blk_drewN ?_ _|refine blk_drew ?_|refine blk_alloc ?_ _));exact BK364.out),(by (with_reducible repeat (first|refine blk_drewN ?_ _|refine blk_drew ?_|refine blk_alloc ?_ _));exact BK369.out),(by (with_reducible repeat (first|refine blk_drewN ?_ _|refine blk_drew ?_|refine blk_alloc ?_ _));exact BK374.out),(by (with_reducible repeat (first|refine blk_drewN ?_ _|refine blk_drew ?_|refine blk_alloc ?_ _));exact BK380.out),(by (with_reducible repeat (first|refine blk_drewN ?_ _|refine blk_drew ?_|refine blk_alloc ?_ _));exact BK413.out),GW413.out,GE413.out,NB347_413.out,NB413_347.out,NB348_413.out,NB413_348.out,NB364_413.out,NB413_364.out,NB369_413.out,NB413_369.out,NB374_413.out,NB413_374.out,NB380_413.out,NB413_380.out,(by repeat (first|(with_reducible first|exact HB.out|apply below_alloc|apply pw_below_drewN|apply below_drew1|refine below_set ?_ GE347.out|refine below_set ?_ GE348.out|refine below_set ?_ GE364.out|refine below_set ?_ GE369.out|refine below_set ?_ GE374.out|refine below_set ?_ GE380.out|refine below_set ?_ GE413.out)|exact HB.out))⟩)
           ·skip
            refine box_step ?hg (N:=15) ?hd (cs:=#[.int .i64 0,.slice none 0 0]) (t:=28) ?hr ?_;(case hd => rfl);(case hg => rfl);(case hr => first|(go_simp;done)|(go_simp;rfl))
            intro gb413 hg w176 hbox hb
            have n0_:=Aside0.mk (Kd.R_below (by (with_reducible repeat (first|apply Kd.R_alloc|apply Kd.R_drewN|apply Kd.R_drew));exact HO_365001.out) hb)
            have n1_:=Aside0.mk (Kd.R_below (by (with_reducible repeat (first|apply Kd.R_alloc|apply Kd.R_drewN|apply Kd.R_drew));exact HO_370001.out) hb)
            have n2_:=Aside0.mk (Kd.R_below (by (with_reducible repeat (first|apply Kd.R_alloc|apply Kd.R_drewN|apply Kd.R_drew));exact HO_375001.out) hb)
            have n3_:=Aside0.mk (Kd.R_below (by (with_reducible repeat (first|apply Kd.R_alloc|apply Kd.R_drewN|apply Kd.R_drew));exact HO_381001.out) hb)
            have n4_:=Aside0.mk (Kd.R_below (by (with_reducible repeat (first|apply Kd.R_alloc|apply Kd.R_drewN|apply Kd.R_drew));exact HO403.out) hb)
            have n5_:=Aside0.mk (Kd.R_below (by (with_reducible repeat (first|apply Kd.R_alloc|apply Kd.R_drewN|apply Kd.R_drew));exact HO407.out) hb)
            have n6_:=Aside0.mk (blk_below (g:=gb347) (o:=.cells #[.int .i64 a0_0,.slice A0_1 l0_1.length c0_1] 26 (0,0)) (by (with_reducible repeat (first|refine blk_drewN ?_ _|refine blk_drew ?_|refine blk_alloc ?_ _));exact BK347.out) hb)
            have n7_:=Aside0.mk (blk_below (g:=gb348) (o:=.cells #[.int .i64 a1_0,.slice A1_1 l1_1.length c1_1] 26 (0,0)) (by (with_reducible repeat (first|refine blk_drewN ?_ _|refine blk_drew ?_|refine blk_alloc ?_ _));exact BK348.out) hb)
            have n8_:=Aside0.mk (blk_below (g:=gb364) (o:=.cells #[.int .i64 t359,.slice Ao33 t360.length co33] 28 (0,0)) (by (with_reducible repeat (first|refine blk_drewN ?_ _|refine blk_drew ?_|refine blk_alloc ?_ _));exact BK364.out) hb)
            have n9_:=Aside0.mk (blk_below (g:=gb369) (o:=.cells #[.int .i64 t365,.slice Ao44 t393.length co44] 28 (0,0)) (by (with_reducible repeat (first|refine blk_drewN ?_ _|refine blk_drew ?_|refine blk_alloc ?_ _));exact BK369.out) hb)
            have n10_:=Aside0.mk (blk_below (g:=gb374) (o:=.cells #[.int .i64 t370,.slice Ao54 t395.length co54] 28 (0,0)) (by (with_reducible repeat (first|refine blk_drewN ?_ _|refine blk_drew ?_|refine blk_alloc ?_ _));exact BK374.out) hb)
            have n11_:=Aside0.mk (blk_below (g:=gb380) (o:=.cells #[.int .i64 t375,.slice Ao64 t398.length co64] 28 (0,0)) (by (with_reducible repeat (first|refine blk_drewN ?_ _|refine blk_drew ?_|refine blk_alloc ?_ _));exact BK380.out) hb)
            have n12_:=Aside0.mk (below_step (by repeat (first|(with_reducible first|exact HB.out|apply below_alloc|apply pw_below_drewN|apply below_drew1|refine below_set ?_ GE347.out|refine below_set ?_ GE348.out|refine below_set ?_ GE364.out|refine below_set ?_ GE369.out|refine below_set ?_ GE374.out|refine below_set ?_ GE380.out)|exact HB.out)) hb)
            have n13_:=Aside0.mk (hbox)
            have n14_:=Aside0.mk ((by rw [hg];exact (below_size (by repeat (first|(with_reducible first|exact HB.out|apply below_alloc|apply pw_below_drewN|apply below_drew1|refine below_set ?_ GE347.out|refine below_set ?_ GE348.out|refine below_set ?_ GE364.out|refine below_set ?_ GE369.out|refine below_set ?_ GE374.out|refine below_set ?_ GE380.out)|exact HB.out))) : w.heap.size ≤ gb413))
            have n15_:=Aside0.mk ((by rw [hg];exact (below_size (by repeat (first|(with_reducible first|exact HB.out|apply below_alloc|apply pw_below_drewN|apply below_drew1|refine below_set ?_ GE347.out|refine below_set ?_ GE348.out|refine below_set ?_ GE364.out|refine below_set ?_ GE369.out|refine below_set ?_ GE374.out|refine below_set ?_ GE380.out)|exact HB.out))) : w.heap.size ≤ gb413))
            have n16_:=Aside0.mk ((by rw [hg];exact Nat.ne_of_lt (blk_lt (g:=gb347) (o:=.cells #[.int .i64 a0_0,.slice A0_1 l0_1.length c0_1] 26 (0,0)) (by (with_reducible repeat (first|refine blk_drewN ?_ _|refine blk_drew ?_|refine blk_alloc ?_ _));exact BK347.out)) : gb347 ≠ gb413))
            have n17_:=Aside0.mk ((by rw [hg];exact Nat.ne_of_gt (blk_lt (g:=gb347) (o:=.cells #[.int .i64 a0_0,.slice A0_1 l0_1.length c0_1] 26 (0,0)) (by (with_reducible repeat (first|refine blk_drewN ?_ _|refine blk_drew ?_|refine blk_alloc ?_ _));exact BK347.out)) : gb413 ≠ gb347))
            have n18_:=Aside0.mk ((by rw [hg];exact Nat.ne_of_lt (blk_lt (g:=gb348) (o:=.cells #[.int .i64 a1_0,.slice A1_1 l1_1.length c1_1] 26 (0,0)) (by (with_reducible repeat (first|refine blk_drewN ?_ _|refine blk_drew ?_|refine blk_alloc ?_ _));exact BK348.out)) : gb348 ≠ gb413))
            have n19_:=Aside0.mk ((by rw [hg];exact Nat.ne_of_gt (blk_lt (g:=gb348) (o:=.cells #[.int .i64 a1_0,.slice A1_1 l1_1.length c1_1] 26 (0,0)) (by (with_reducible repeat (first|refine blk_drewN ?_ _|refine blk_drew ?_|refine blk_alloc ?_ _));exact BK348.out)) : gb413 ≠ gb348))
            have n20_:=Aside0.mk ((by rw [hg];exact Nat.ne_of_lt (blk_lt (g:=gb364) (o:=.cells #[.int .i64 t359,.slice Ao33 t360.length co33] 28 (0,0)) (by (with_reducible repeat (first|refine blk_drewN ?_ _|refine blk_drew ?_|refine blk_alloc ?_ _));exact BK364.out)) : gb364 ≠ gb413))
            have n21_:=Aside0.mk ((by rw [hg];exact Nat.ne_of_gt (blk_lt (g:=gb364) (o:=.cells #[.int .i64 t359,.slice Ao33 t360.length co33] 28 (0,0)) (by (with_reducible repeat (first|refine blk_drewN ?_ _|refine blk_drew ?_|refine blk_alloc ?_ _));exact BK364.out)) : gb413 ≠ gb364))
            have n22_:=Aside0.mk ((by rw [hg];exact Nat.ne_of_lt (blk_lt (g:=gb369) (o:=.cells #[.int .i64 t365,.slice Ao44 t393.length co44] 28 (0,0)) (by (with_reducible repeat (first|refine blk_drewN ?_ _|refine blk_drew ?_|refine blk_alloc ?_ _));exact BK369.out)) : gb369 ≠ gb413))
            have n23_:=Aside0.mk ((by rw [hg];exact Nat.ne_of_gt (blk_lt (g:=gb369) (o:=.cells #[.int .i64 t365,.slice Ao44 t393.length co44] 28 (0,0)) (by (with_reducible repeat (first|refine blk_drewN ?_ _|refine blk_drew ?_|refine blk_alloc ?_ _));exact BK369.out)) : gb413 ≠ gb369))
            have n24_:=Aside0.mk ((by rw [hg];exact Nat.ne_of_lt (blk_lt (g:=gb374) (o:=.cells #[.int .i64 t370,.slice Ao54 t395.length co54] 28 (0,0)) (by (with_reducible repeat (first|refine blk_drewN ?_ _|refine blk_drew ?_|refine blk_alloc ?_ _));exact BK374.out)) : gb374 ≠ gb413))
            have n25_:=Aside0.mk ((by rw [hg];exact Nat.ne_of_gt (blk_lt (g:=gb374) (o:=.cells #[.int .i64 t370,.slice Ao54 t395.length co54] 28 (0,0)) (by (with_reducible repeat (first|refine blk_drewN ?_ _|refine blk_drew ?_|refine blk_alloc ?_ _));exact BK374.out)) : gb413 ≠ gb374))
            have n26_:=Aside0.mk ((by rw [hg];exact Nat.ne_of_lt (blk_lt (g:=gb380) (o:=.cells #[.int .i64 t375,.slice Ao64 t398.length co64] 28 (0,0)) (by (with_reducible repeat (first|refine blk_drewN ?_ _|refine blk_drew ?_|refine blk_alloc ?_ _));exact BK380.out)) : gb380 ≠ gb413))
            have n27_:=Aside0.mk ((by rw [hg];exact Nat.ne_of_gt (blk_lt (g:=gb380) (o:=.cells #[.int .i64 t375,.slice Ao64 t398.length co64] 28 (0,0)) (by (with_reducible repeat (first|refine blk_drewN ?_ _|refine blk_drew ?_|refine blk_alloc ?_ _));exact BK380.out)) : gb413 ≠ gb380))
            clear HO_365001
            clear HO_370001
            clear HO_375001
            clear HO_381001
            clear HO403
            clear HO407
            clear BK347
            clear BK348
            clear BK364
            clear BK369
            clear BK374
            clear BK380
            clear HB
            have HO_365001:=n0_
            have HO_370001:=n1_
            have HO_375001:=n2_
            have HO_381001:=n3_
            have HO403:=n4_
            have HO407:=n5_
            have BK347:=n6_
            have BK348:=n7_
            have BK364:=n8_
            have BK369:=n9_
            have BK374:=n10_
            have BK380:=n11_
            have HB:=n12_
            have BK413:=n13_
            have GW413:=n14_
            have GE413:=n15_
            have NB347_413:=n16_
            have NB413_347:=n17_
            have NB348_413:=n18_
            have NB413_348:=n19_
            have NB364_413:=n20_
            have NB413_364:=n21_
            have NB369_413:=n22_
            have NB413_369:=n23_
            have NB374_413:=n24_
            have NB413_374:=n25_
            have NB380_413:=n26_
            have NB413_380:=n27_
            clear n0_ n1_ n2_ n3_ n4_ n5_ n6_ n7_ n8_ n9_ n10_ n11_ n12_ n13_ n14_ n15_ n16_ n17_ n18_ n19_ n20_ n21_ n22_ n23_ n24_ n25_ n26_ n27_
            clear hb hbox hg
            obtain ⟨Ao177,co177,eo177⟩:=Kd.R_slice HO403.out
            (first|subst eo177|(injection eo177 with f1_ f2_ f3_;have f4_:=f1_.symm;have f5_:=f3_.symm;clear f1_ f2_ f3_;subst f4_;subst f5_))
            obtain ⟨Ao178,co178,eo178⟩:=Kd.R_slice HO407.out
            (first|subst eo178|(injection eo178 with f1_ f2_ f3_;have f4_:=f1_.symm;have f5_:=f3_.symm;clear f1_ f2_ f3_;subst f4_;subst f5_))
            refine hK.out _ _ ⟨(blk_cell BK347.out 0).trans rfl,(blk_cell BK347.out 1).trans rfl,(blk_cell BK348.out 0).trans rfl,(blk_cell BK348.out 1).trans rfl⟩ (fun hHeld => ?_)
            clear hK K
            refine norm_ (a':=?_) ?_ ?_
            rotate_left
            ·show Act.put _ (some 15) _ = _
             simp only [Act.put,List.setIfInBounds_toArray,List.set_cons_zero,List.set_cons_succ,i64_w,i32_w]
             rfl
            refine one_ (i:=4) (N:=some 99) #[true,true,true,true,true,false,false,false,true,false,false] rfl rfl (one_of HT_.out (by kernel_rfl)) (by decide) (fun K hK => ?_)
            refine goes_ Try.func27 (by kernel_rfl) rfl #[.agg #[.int .i64 t400,.slice Ao177 t401.length co177],.agg #[.int .i64 t404,.slice Ao178 t405.length co178]] (by rfl) rfl rfl (by (try simp only [List.map_toArray,List.map_cons,List.map_nil]);first|done|rfl|(simp only [List.length_drop,List.length_take];rfl)) ?_
            with_reducible refine (impl_MulGrades.calls kj166 t400 _ _ t401 t404 _ _ t405 t408 t409 t412 _ ?side1 ?side2 ?side3 ?side4 A171.out).mono ?_
            (case side1 => repeat (first|exact (Kd.R_reads' HO403.out).2.2|(with_reducible refine Kd.C_alloc ?_ _)|(with_reducible refine Kd.C_drewN ?_ _)|(with_reducible refine Kd.C_drew ?_)))
            (case side2 => exact (Kd.R_reads' HO403.out).2.1)
            (case side3 => repeat (first|exact (Kd.R_reads' HO407.out).2.2|(with_reducible refine Kd.C_alloc ?_ _)|(with_reducible refine Kd.C_drewN ?_ _)|(with_reducible refine Kd.C_drew ?_)))
            (case side4 => exact (Kd.R_reads' HO407.out).2.1)
            rintro e w179 ⟨v410,rfl,ho0,hb⟩
            refine ⟨_,rfl,?_⟩
            have n0_:=Aside0.mk (Kd.R_elder' (by (with_reducible repeat (first|apply Kd.R_alloc|apply Kd.R_drewN|apply Kd.R_drew));exact HO_365001.out) (Kd.R_base ho0) hb)
            have n1_:=Aside0.mk (Kd.R_elder' (by (with_reducible repeat (first|apply Kd.R_alloc|apply Kd.R_drewN|apply Kd.R_drew));exact HO_370001.out) (Kd.R_base ho0) hb)
            have n2_:=Aside0.mk (Kd.R_elder' (by (with_reducible repeat (first|apply Kd.R_alloc|apply Kd.R_drewN|apply Kd.R_drew));exact HO_375001.out) (Kd.R_base ho0) hb)
            have n3_:=Aside0.mk (Kd.R_elder' (by (with_reducible repeat (first|apply Kd.R_alloc|apply Kd.R_drewN|apply Kd.R_drew));exact HO_381001.out) (Kd.R_base ho0) hb)
            have n4_:=Aside0.mk (Kd.R_elder' (by (with_reducible repeat (first|apply Kd.R_alloc|apply Kd.R_drewN|apply Kd.R_drew));exact HO403.out) (Kd.R_base ho0) hb)
            have n5_:=Aside0.mk (Kd.R_elder' (by (with_reducible repeat (first|apply Kd.R_alloc|apply Kd.R_drewN|apply Kd.R_drew));exact HO407.out) (Kd.R_base ho0) hb)
            have n6_:=Aside0.mk (Kd.R_lower (Kd.R_new' (Kd.R_new' (Kd.R_new' (Kd.R_new' (Kd.R_new' (Kd.R_new' ho0 (Kd.R_lt (by (with_reducible repeat (first|apply Kd.R_alloc|apply Kd.R_drewN|apply Kd.R_drew));exact HO_365001.out))) (Kd.R_lt (by (with_reducible repeat (first|apply Kd.R_alloc|apply Kd.R_drewN|apply Kd.R_drew));exact HO_370001.out))) (Kd.R_lt (by (with_reducible repeat (first|apply Kd.R_alloc|apply Kd.R_drewN|apply Kd.R_drew));exact HO_375001.out))) (Kd.R_lt (by (with_reducible repeat (first|apply Kd.R_alloc|apply Kd.R_drewN|apply Kd.R_drew));exact HO_381001.out))) (Kd.R_lt (by (with_reducible repeat (first|apply Kd.R_alloc|apply Kd.R_drewN|apply Kd.R_drew));exact HO403.out))) (Kd.R_lt (by (with_reducible repeat (first|apply Kd.R_alloc|apply Kd.R_drewN|apply Kd.R_drew));exact HO407.out))) (below_size (by repeat (first|(with_reducible first|exact HB.out|apply below_alloc|apply pw_below_drewN|apply below_drew1|refine below_set ?_ GE347.out|refine below_set ?_ GE348.out|refine below_set ?_ GE364.out|refine below_set ?_ GE369.out|refine below_set ?_ GE374.out|refine below_set ?_ GE380.out|refine below_set ?_ GE413.out)|exact HB.out))))
            have n7_:=Aside0.mk (blk_below (g:=gb347) (o:=.cells #[.int .i64 a0_0,.slice A0_1 l0_1.length c0_1] 26 (0,0)) (by (with_reducible repeat (first|refine blk_drewN ?_ _|refine blk_drew ?_|refine blk_alloc ?_ _));exact BK347.out) hb)
            have n8_:=Aside0.mk (blk_below (g:=gb348) (o:=.cells #[.int .i64 a1_0,.slice A1_1 l1_1.length c1_1] 26 (0,0)) (by (with_reducible repeat (first|refine blk_drewN ?_ _|refine blk_drew ?_|refine blk_alloc ?_ _));exact BK348.out) hb)
            have n9_:=Aside0.mk (blk_below (g:=gb364) (o:=.cells #[.int .i64 t359,.slice Ao33 t360.length co33] 28 (0,0)) (by (with_reducible repeat (first|refine blk_drewN ?_ _|refine blk_drew ?_|refine blk_alloc ?_ _));exact BK364.out) hb)
            have n10_:=Aside0.mk (blk_below (g:=gb369) (o:=.cells #[.int .i64 t365,.slice Ao44 t393.length co44] 28 (0,0)) (by (with_reducible repeat (first|refine blk_drewN ?_ _|refine blk_drew ?_|refine blk_alloc ?_ _));exact BK369.out) hb)
            have n11_:=Aside0.mk (blk_below (g:=gb374) (o:=.cells #[.int .i64 t370,.slice Ao54 t395.length co54] 28 (0,0)) (by (with_reducible repeat (first|refine blk_drewN ?_ _|refine blk_drew ?_|refine blk_alloc ?_ _));exact BK374.out) hb)
            have n12_:=Aside0.mk (blk_below (g:=gb380) (o:=.cells #[.int .i64 t375,.slice Ao64 t398.length co64] 28 (0,0)) (by (with_reducible repeat (first|refine blk_drewN ?_ _|refine blk_drew ?_|refine blk_alloc ?_ _));exact BK380.out) hb)
            have n13_:=Aside0.mk (blk_below (g:=gb413) (o:=.cells #[.int .i64 0,.slice none 0 0] 28 (0,0)) (by (with_reducible repeat (first|refine blk_drewN ?_ _|refine blk_drew ?_|refine blk_alloc ?_ _));exact BK413.out) hb)
            have n14_:=Aside0.mk (below_step (by repeat (first|(with_reducible first|exact HB.out|apply below_alloc|apply pw_below_drewN|apply below_drew1|refine below_set ?_ GE347.out|refine below_set ?_ GE348.out|refine below_set ?_ GE364.out|refine below_set ?_ GE369.out|refine below_set ?_ GE374.out|refine below_set ?_ GE380.out|refine below_set ?_ GE413.out)|exact HB.out)) hb)
            clear HO_365001
            clear HO_370001
            clear HO_375001
            clear HO_381001
            clear HO403
            clear HO407
            clear BK347
            clear BK348
            clear BK364
            clear BK369
            clear BK374
            clear BK380
            clear BK413
            clear HB
            have HO_365001:=n0_
            have HO_370001:=n1_
            have HO_375001:=n2_
            have HO_381001:=n3_
            have HO403:=n4_
            have HO407:=n5_
            have HO411:=n6_
            have BK347:=n7_
            have BK348:=n8_
            have BK364:=n9_
            have BK369:=n10_
            have BK374:=n11_
            have BK380:=n12_
            have BK413:=n13_
            have HB:=n14_
            clear n0_ n1_ n2_ n3_ n4_ n5_ n6_ n7_ n8_ n9_ n10_ n11_ n12_ n13_ n14_
            (try clear hb)
            (try clear hb2)
            (try clear hk)
            (try clear hi)
            (try clear ho0)
            refine hK.out _ _ ⟨(blk_cell BK347.out 0).trans rfl,(blk_cell BK347.out 1).trans rfl,(blk_cell BK348.out 0).trans rfl,(blk_cell BK348.out 1).trans rfl⟩ (fun hHeld => ?_)
            clear hK K
            refine norm_ (a':=?_) ?_ ?_
            rotate_left
            ·show Act.put _ (some 99) _ = _
             simp only [Act.put,List.setIfInBounds_toArray,List.set_cons_zero,List.set_cons_succ,i64_w,i32_w]
             rfl
            refine pure_ (i:=5) (N:=some 94) (v:=?_) (a':=?_) #[true,true,true,true,true,true,false,false,true,false,false] rfl rfl (any_of HT_.out (by kernel_rfl)) (fun _ _ _ h => h) (Or.inl ⟨by rfl,?_⟩) ?_ ?_
            rotate_left
            ·intro w'
             go_simp
             with_reducible rfl
            rotate_left
            ·simp only [Act.put,List.setIfInBounds_toArray,List.set_cons_zero,List.set_cons_succ,i64_w,i32_w]
             rfl
            refine pure_ (i:=6) (N:=some 100) (v:=?_) (a':=?_) #[true,true,true,true,true,true,true,false,true,false,false] rfl rfl (any_of HT_.out (by kernel_rfl)) (fun _ _ _ h => h) (Or.inl ⟨by rfl,?_⟩) ?_ ?_
            rotate_left
            ·intro w'
             go_simp
             with_reducible rfl
            rotate_left
            ·simp only [Act.put,List.setIfInBounds_toArray,List.set_cons_zero,List.set_cons_succ,i64_w,i32_w]
             rfl
            refine pure_ (i:=7) (N:=some 101) (v:=?_) (a':=?_) #[true,true,true,true,true,true,true,true,true,false,false] rfl rfl (any_of HT_.out (by kernel_rfl)) (fun _ _ _ h => h) (Or.inl ⟨by rfl,?_⟩) ?_ ?_
            rotate_left
            ·intro w'
             go_simp
             with_reducible rfl
            rotate_left
            ·simp only [Act.put,List.setIfInBounds_toArray,List.set_cons_zero,List.set_cons_succ,i64_w,i32_w]
             rfl
            exact norm_ (by simp only [putAll,Act.put,List.setIfInBounds_toArray,List.set_cons_zero,List.set_cons_succ]) (hCont (.slice Ao177 t401.length co177,.slice Ao178 t405.length co178,v410,gb413) _ ⟨hHeld,(by (with_reducible repeat (first|apply Kd.R_alloc|apply Kd.R_drewN|apply Kd.R_drew));exact Kd.R_mono HO403.out (fun _ hk => ⟨hk.1.2,⟨hk.2,⟨hk.1.1.1.1.1.2,⟨hk.1.1.1.1.2,⟨hk.1.1.1.2,hk.1.1.2⟩⟩⟩⟩⟩)),(by (with_reducible repeat (first|apply Kd.R_alloc|apply Kd.R_drewN|apply Kd.R_drew));exact Kd.R_mono HO407.out (fun _ hk => ⟨hk.1.2,⟨hk.2,⟨hk.1.1.1.1.1.2,⟨hk.1.1.1.1.2,⟨hk.1.1.1.2,hk.1.1.2⟩⟩⟩⟩⟩)),(by (with_reducible repeat (first|apply Kd.R_alloc|apply Kd.R_drewN|apply Kd.R_drew));exact Kd.R_mono HO411.out (fun _ hk => ⟨hk.1.2,⟨hk.2,⟨hk.1.1.1.1.1.2,⟨hk.1.1.1.1.2,⟨hk.1.1.1.2,hk.1.1.2⟩⟩⟩⟩⟩)),(by (with_reducible repeat (first|apply Kd.R_alloc|apply Kd.R_drewN|apply Kd.R_drew));exact Kd.R_mono HO_365001.out (fun _ hk => ⟨hk.1.1.2,⟨hk.1.2,⟨hk.2,⟨hk.1.1.1.1,⟨hk.1.1.1.2.1,hk.1.1.1.2.2⟩⟩⟩⟩⟩)),(by (with_reducible repeat (first|apply Kd.R_alloc|apply Kd.R_drewN|apply Kd.R_drew));exact Kd.R_mono HO_370001.out (fun _ hk => ⟨hk.1.1.2,⟨hk.1.2,⟨hk.2,⟨hk.1.1.1.1,⟨hk.1.1.1.2.1,hk.1.1.1.2.2⟩⟩⟩⟩⟩)),(by (with_reducible repeat (first|apply Kd.R_alloc|apply Kd.R_drewN|apply Kd.R_drew));exact Kd.R_mono HO_375001.out (fun _ hk => ⟨hk.1.1.2,⟨hk.1.2,⟨hk.2,⟨hk.1.1.1.1,⟨hk.1.1.1.2.1,hk.1.1.1.2.2⟩⟩⟩⟩⟩)),(by (with_reducible repeat (first|apply Kd.R_alloc|apply Kd.R_drewN|apply Kd.R_drew));exact Kd.R_mono HO_381001.out (fun _ hk => ⟨hk.1.1.2,⟨hk.1.2,⟨hk.2,⟨hk.1.1.1.1,⟨hk.1.1.1.2.1,hk.1.1.1.2.2⟩⟩⟩⟩⟩)),(by (with_reducible repeat (first|refine blk_drewN ?_ _|refine blk_drew ?_|refine blk_alloc ?_ _));exact BK347.out),(by (with_reducible repeat (first|refine blk_drewN ?_ _|refine blk_drew ?_|refine blk_alloc ?_ _));exact BK348.out),(by (with_reducible repeat (first|refine blk_drewN ?_ _|refine blk_drew ?_|refine blk_alloc ?_ _));exact BK364.out),(by (with_reducible repeat (first|refine blk_drewN ?_ _|refine blk_drew ?_|refine blk_alloc ?_ _));exact BK369.out),(by (with_reducible repeat (first|refine blk_drewN ?_ _|refine blk_drew ?_|refine blk_alloc ?_ _));exact BK374.out),(by (with_reducible repeat (first|refine blk_drewN ?_ _|refine blk_drew ?_|refine blk_alloc ?_ _));exact BK380.out),(by (with_reducible repeat (first|refine blk_drewN ?_ _|refine blk_drew ?_|refine blk_alloc ?_ _));exact BK413.out),GW413.out,GE413.out,NB347_413.out,NB413_347.out,NB348_413.out,NB413_348.out,NB364_413.out,NB413_364.out,NB369_413.out,NB413_369.out,NB374_413.out,NB413_374.out,NB380_413.out,NB413_380.out,(by repeat (first|(with_reducible first|exact HB.out|apply below_alloc|apply pw_below_drewN|apply below_drew1|refine below_set ?_ GE347.out|refine below_set ?_ GE348.out|refine below_set ?_ GE364.out|refine below_set ?_ GE369.out|refine below_set ?_ GE374.out|refine below_set ?_ GE380.out|refine below_set ?_ GE413.out)|exact HB.out))⟩)
          ·skip
           refine box_step ?hg (N:=15) ?hd (cs:=#[.int .i64 0,.slice none 0 0]) (t:=28) ?hr ?_;(case hd => rfl);(case hg => rfl);(case hr => first|(go_simp;done)|(go_simp;rfl))
           intro gb413 hg w175 hbox hb
           have n0_:=Aside0.mk (Kd.R_below (by (with_reducible repeat (first|apply Kd.R_alloc|apply Kd.R_drewN|apply Kd.R_drew));exact HO_365001.out) hb)
           have n1_:=Aside0.mk (Kd.R_below (by (with_reducible repeat (first|apply Kd.R_alloc|apply Kd.R_drewN|apply Kd.R_drew));exact HO_370001.out) hb)
           have n2_:=Aside0.mk (Kd.R_below (by (with_reducible repeat (first|apply Kd.R_alloc|apply Kd.R_drewN|apply Kd.R_drew));exact HO_375001.out) hb)
           have n3_:=Aside0.mk (Kd.R_below (by (with_reducible repeat (first|apply Kd.R_alloc|apply Kd.R_drewN|apply Kd.R_drew));exact HO_381001.out) hb)
           have n4_:=Aside0.mk (Kd.R_below (by (with_reducible repeat (first|apply Kd.R_alloc|apply Kd.R_drewN|apply Kd.R_drew));exact HO403.out) hb)
           have n5_:=Aside0.mk (blk_below (g:=gb347) (o:=.cells #[.int .i64 a0_0,.slice A0_1 l0_1.length c0_1] 26 (0,0)) (by (with_reducible repeat (first|refine blk_drewN ?_ _|refine blk_drew ?_|refine blk_alloc ?_ _));exact BK347.out) hb)
           have n6_:=Aside0.mk (blk_below (g:=gb348) (o:=.cells #[.int .i64 a1_0,.slice A1_1 l1_1.length c1_1] 26 (0,0)) (by (with_reducible repeat (first|refine blk_drewN ?_ _|refine blk_drew ?_|refine blk_alloc ?_ _));exact BK348.out) hb)
           have n7_:=Aside0.mk (blk_below (g:=gb364) (o:=.cells #[.int .i64 t359,.slice Ao33 t360.length co33] 28 (0,0)) (by (with_reducible repeat (first|refine blk_drewN ?_ _|refine blk_drew ?_|refine blk_alloc ?_ _));exact BK364.out) hb)
           have n8_:=Aside0.mk (blk_below (g:=gb369) (o:=.cells #[.int .i64 t365,.slice Ao44 t393.length co44] 28 (0,0)) (by (with_reducible repeat (first|refine blk_drewN ?_ _|refine blk_drew ?_|refine blk_alloc ?_ _));exact BK369.out) hb)
           have n9_:=Aside0.mk (blk_below (g:=gb374) (o:=.cells #[.int .i64 t370,.slice Ao54 t395.length co54] 28 (0,0)) (by (with_reducible repeat (first|refine blk_drewN ?_ _|refine blk_drew ?_|refine blk_alloc ?_ _));exact BK374.out) hb)
           have n10_:=Aside0.mk (blk_below (g:=gb380) (o:=.cells #[.int .i64 t375,.slice Ao64 t398.length co64] 28 (0,0)) (by (with_reducible repeat (first|refine blk_drewN ?_ _|refine blk_drew ?_|refine blk_alloc ?_ _));exact BK380.out) hb)
           have n11_:=Aside0.mk (below_step (by repeat (first|(with_reducible first|exact HB.out|apply below_alloc|apply pw_below_drewN|apply below_drew1|refine below_set ?_ GE347.out|refine below_set ?_ GE348.out|refine below_set ?_ GE364.out|refine below_set ?_ GE369.out|refine below_set ?_ GE374.out|refine below_set ?_ GE380.out)|exact HB.out)) hb)
           have n12_:=Aside0.mk (hbox)
           have n13_:=Aside0.mk ((by rw [hg];exact (below_size (by repeat (first|(with_reducible first|exact HB.out|apply below_alloc|apply pw_below_drewN|apply below_drew1|refine below_set ?_ GE347.out|refine below_set ?_ GE348.out|refine below_set ?_ GE364.out|refine below_set ?_ GE369.out|refine below_set ?_ GE374.out|refine below_set ?_ GE380.out)|exact HB.out))) : w.heap.size ≤ gb413))
           have n14_:=Aside0.mk ((by rw [hg];exact (below_size (by repeat (first|(with_reducible first|exact HB.out|apply below_alloc|apply pw_below_drewN|apply below_drew1|refine below_set ?_ GE347.out|refine below_set ?_ GE348.out|refine below_set ?_ GE364.out|refine below_set ?_ GE369.out|refine below_set ?_ GE374.out|refine below_set ?_ GE380.out)|exact HB.out))) : w.heap.size ≤ gb413))
           have n15_:=Aside0.mk ((by rw [hg];exact Nat.ne_of_lt (blk_lt (g:=gb347) (o:=.cells #[.int .i64 a0_0,.slice A0_1 l0_1.length c0_1] 26 (0,0)) (by (with_reducible repeat (first|refine blk_drewN ?_ _|refine blk_drew ?_|refine blk_alloc ?_ _));exact BK347.out)) : gb347 ≠ gb413))
           have n16_:=Aside0.mk ((by rw [hg];exact Nat.ne_of_gt (blk_lt (g:=gb347) (o:=.cells #[.int .i64 a0_0,.slice A0_1 l0_1.length c0_1] 26 (0,0)) (by (with_reducible repeat (first|refine blk_drewN ?_ _|refine blk_drew ?_|refine blk_alloc ?_ _));exact BK347.out)) : gb413 ≠ gb347))
           have n17_:=Aside0.mk ((by rw [hg];exact Nat.ne_of_lt (blk_lt (g:=gb348) (o:=.cells #[.int .i64 a1_0,.slice A1_1 l1_1.length c1_1] 26 (0,0)) (by (with_reducible repeat (first|refine blk_drewN ?_ _|refine blk_drew ?_|refine blk_alloc ?_ _));exact BK348.out)) : gb348 ≠ gb413))
           have n18_:=Aside0.mk ((by rw [hg];exact Nat.ne_of_gt (blk_lt (g:=gb348) (o:=.cells #[.int .i64 a1_0,.slice A1_1 l1_1.length c1_1] 26 (0,0)) (by (with_reducible repeat (first|refine blk_drewN ?_ _|refine blk_drew ?_|refine blk_alloc ?_ _));exact BK348.out)) : gb413 ≠ gb348))
           have n19_:=Aside0.mk ((by rw [hg];exact Nat.ne_of_lt (blk_lt (g:=gb364) (o:=.cells #[.int .i64 t359,.slice Ao33 t360.length co33] 28 (0,0)) (by (with_reducible repeat (first|refine blk_drewN ?_ _|refine blk_drew ?_|refine blk_alloc ?_ _));exact BK364.out)) : gb364 ≠ gb413))
           have n20_:=Aside0.mk ((by rw [hg];exact Nat.ne_of_gt (blk_lt (g:=gb364) (o:=.cells #[.int .i64 t359,.slice Ao33 t360.length co33] 28 (0,0)) (by (with_reducible repeat (first|refine blk_drewN ?_ _|refine blk_drew ?_|refine blk_alloc ?_ _));exact BK364.out)) : gb413 ≠ gb364))
           have n21_:=Aside0.mk ((by rw [hg];exact Nat.ne_of_lt (blk_lt (g:=gb369) (o:=.cells #[.int .i64 t365,.slice Ao44 t393.length co44] 28 (0,0)) (by (with_reducible repeat (first|refine blk_drewN ?_ _|refine blk_drew ?_|refine blk_alloc ?_ _));exact BK369.out)) : gb369 ≠ gb413))
           have n22_:=Aside0.mk ((by rw [hg];exact Nat.ne_of_gt (blk_lt (g:=gb369) (o:=.cells #[.int .i64 t365,.slice Ao44 t393.length co44] 28 (0,0)) (by (with_reducible repeat (first|refine blk_drewN ?_ _|refine blk_drew ?_|refine blk_alloc ?_ _));exact BK369.out)) : gb413 ≠ gb369))
           have n23_:=Aside0.mk ((by rw [hg];exact Nat.ne_of_lt (blk_lt (g:=gb374) (o:=.cells #[.int .i64 t370,.slice Ao54 t395.length co54] 28 (0,0)) (by (with_reducible repeat (first|refine blk_drewN ?_ _|refine blk_drew ?_|refine blk_alloc ?_ _));exact BK374.out)) : gb374 ≠ gb413))
           have n24_:=Aside0.mk ((by rw [hg];exact Nat.ne_of_gt (blk_lt (g:=gb374) (o:=.cells #[.int .i64 t370,.slice Ao54 t395.length co54] 28 (0,0)) (by (with_reducible repeat (first|refine blk_drewN ?_ _|refine blk_drew ?_|refine blk_alloc ?_ _));exact BK374.out)) : gb413 ≠ gb374))
           have n25_:=Aside0.mk ((by rw [hg];exact Nat.ne_of_lt (blk_lt (g:=gb380) (o:=.cells #[.int .i64 t375,.slice Ao64 t398.length co64] 28 (0,0)) (by (with_reducible repeat (first|refine blk_drewN ?_ _|refine blk_drew ?_|refine blk_alloc ?_ _));exact BK380.out)) : gb380 ≠ gb413))
           have n26_:=Aside0.mk ((by rw [hg];exact Nat.ne_of_gt (blk_lt (g:=gb380) (o:=.cells #[.int .i64 t375,.slice Ao64 t398.length co64] 28 (0,0)) (by (with_reducible repeat (first|refine blk_drewN ?_ _|refine blk_drew ?_|refine blk_alloc ?_ _));exact BK380.out)) : gb413 ≠ gb380))
           clear HO_365001
           clear HO_370001
           clear HO_375001
           clear HO_381001
           clear HO403
           clear BK347
           clear BK348
           clear BK364
           clear BK369
           clear BK374
           clear BK380
           clear HB
           have HO_365001:=n0_
           have HO_370001:=n1_
           have HO_375001:=n2_
           have HO_381001:=n3_
           have HO403:=n4_
           have BK347:=n5_
           have BK348:=n6_
           have BK364:=n7_
           have BK369:=n8_
           have BK374:=n9_
           have BK380:=n10_
           have HB:=n11_
           have BK413:=n12_
           have GW413:=n13_
           have GE413:=n14_
           have NB347_413:=n15_
           have NB413_347:=n16_
           have NB348_413:=n17_
           have NB413_348:=n18_
           have NB364_413:=n19_
           have NB413_364:=n20_
           have NB369_413:=n21_
           have NB413_369:=n22_
           have NB374_413:=n23_
           have NB413_374:=n24_
           have NB380_413:=n25_
           have NB413_380:=n26_
           clear n0_ n1_ n2_ n3_ n4_ n5_ n6_ n7_ n8_ n9_ n10_ n11_ n12_ n13_ n14_ n15_ n16_ n17_ n18_ n19_ n20_ n21_ n22_ n23_ n24_ n25_ n26_
           clear hb hbox hg
           refine hK.out _ _ ⟨(blk_cell BK347.out 0).trans rfl,(blk_cell BK347.out 1).trans rfl,(blk_cell BK348.out 0).trans rfl,(blk_cell BK348.out 1).trans rfl⟩ (fun hHeld => ?_)
           clear hK K
           refine norm_ (a':=?_) ?_ ?_
           rotate_left
           ·show Act.put _ (some 15) _ = _
            simp only [Act.put,List.setIfInBounds_toArray,List.set_cons_zero,List.set_cons_succ,i64_w,i32_w]
            rfl
           refine one_ (i:=3) (N:=some 98) #[true,true,true,true,false,false,false,false,true,false,false] rfl rfl (one_of HT_.out (by kernel_rfl)) (by decide) (fun K hK => ?_)
           refine goes_ Try.func19 (by kernel_rfl) rfl #[.agg #[.int .i64 a1_0,.slice A1_1 l1_1.length c1_1]] (by rfl) rfl rfl (by (try simp only [List.map_toArray,List.map_cons,List.map_nil]);first|done|rfl|(simp only [List.length_drop,List.length_take];rfl)) ?_
           with_reducible refine (laws_toMatrix.calls kj166 a1_0 _ _ l1_1 t404 t405 _ ?side1 ?side2 A170.out).mono ?_
           (case side1 => repeat (first|exact (Kd.C_below HR1_1.out HB.out)|(with_reducible refine Kd.C_alloc ?_ _)|(with_reducible refine Kd.C_drewN ?_ _)|(with_reducible refine Kd.C_drew ?_)))
           (case side2 => exact HC1_1.out)
           rintro e w176 ⟨v406,rfl,ho0,hb⟩
           refine ⟨_,rfl,?_⟩
           have n0_:=Aside0.mk (Kd.R_elder' (by (with_reducible repeat (first|apply Kd.R_alloc|apply Kd.R_drewN|apply Kd.R_drew));exact HO_365001.out) (Kd.R_base ho0) hb)
           have n1_:=Aside0.mk (Kd.R_elder' (by (with_reducible repeat (first|apply Kd.R_alloc|apply Kd.R_drewN|apply Kd.R_drew));exact HO_370001.out) (Kd.R_base ho0) hb)
           have n2_:=Aside0.mk (Kd.R_elder' (by (with_reducible repeat (first|apply Kd.R_alloc|apply Kd.R_drewN|apply Kd.R_drew));exact HO_375001.out) (Kd.R_base ho0) hb)
           have n3_:=Aside0.mk (Kd.R_elder' (by (with_reducible repeat (first|apply Kd.R_alloc|apply Kd.R_drewN|apply Kd.R_drew));exact HO_381001.out) (Kd.R_base ho0) hb)
           have n4_:=Aside0.mk (Kd.R_elder' (by (with_reducible repeat (first|apply Kd.R_alloc|apply Kd.R_drewN|apply Kd.R_drew));exact HO403.out) (Kd.R_base ho0) hb)
           have n5_:=Aside0.mk (Kd.R_lower (Kd.R_new' (Kd.R_new' (Kd.R_new' (Kd.R_new' (Kd.R_new' ho0 (Kd.R_lt (by (with_reducible repeat (first|apply Kd.R_alloc|apply Kd.R_drewN|apply Kd.R_drew));exact HO_365001.out))) (Kd.R_lt (by (with_reducible repeat (first|apply Kd.R_alloc|apply Kd.R_drewN|apply Kd.R_drew));exact HO_370001.out))) (Kd.R_lt (by (with_reducible repeat (first|apply Kd.R_alloc|apply Kd.R_drewN|apply Kd.R_drew));exact HO_375001.out))) (Kd.R_lt (by (with_reducible repeat (first|apply Kd.R_alloc|apply Kd.R_drewN|apply Kd.R_drew));exact HO_381001.out))) (Kd.R_lt (by (with_reducible repeat (first|apply Kd.R_alloc|apply Kd.R_drewN|apply Kd.R_drew));exact HO403.out))) (below_size (by repeat (first|(with_reducible first|exact HB.out|apply below_alloc|apply pw_below_drewN|apply below_drew1|refine below_set ?_ GE347.out|refine below_set ?_ GE348.out|refine below_set ?_ GE364.out|refine below_set ?_ GE369.out|refine below_set ?_ GE374.out|refine below_set ?_ GE380.out|refine below_set ?_ GE413.out)|exact HB.out))))
           have n6_:=Aside0.mk (blk_below (g:=gb347) (o:=.cells #[.int .i64 a0_0,.slice A0_1 l0_1.length c0_1] 26 (0,0)) (by (with_reducible repeat (first|refine blk_drewN ?_ _|refine blk_drew ?_|refine blk_alloc ?_ _));exact BK347.out) hb)
           have n7_:=Aside0.mk (blk_below (g:=gb348) (o:=.cells #[.int .i64 a1_0,.slice A1_1 l1_1.length c1_1] 26 (0,0)) (by (with_reducible repeat (first|refine blk_drewN ?_ _|refine blk_drew ?_|refine blk_alloc ?_ _));exact BK348.out) hb)
           have n8_:=Aside0.mk (blk_below (g:=gb364) (o:=.cells #[.int .i64 t359,.slice Ao33 t360.length co33] 28 (0,0)) (by (with_reducible repeat (first|refine blk_drewN ?_ _|refine blk_drew ?_|refine blk_alloc ?_ _));exact BK364.out) hb)
           have n9_:=Aside0.mk (blk_below (g:=gb369) (o:=.cells #[.int .i64 t365,.slice Ao44 t393.length co44] 28 (0,0)) (by (with_reducible repeat (first|refine blk_drewN ?_ _|refine blk_drew ?_|refine blk_alloc ?_ _));exact BK369.out) hb)
           have n10_:=Aside0.mk (blk_below (g:=gb374) (o:=.cells #[.int .i64 t370,.slice Ao54 t395.length co54] 28 (0,0)) (by (with_reducible repeat (first|refine blk_drewN ?_ _|refine blk_drew ?_|refine blk_alloc ?_ _));exact BK374.out) hb)
           have n11_:=Aside0.mk (blk_below (g:=gb380) (o:=.cells #[.int .i64 t375,.slice Ao64 t398.length co64] 28 (0,0)) (by (with_reducible repeat (first|refine blk_drewN ?_ _|refine blk_drew ?_|refine blk_alloc ?_ _));exact BK380.out) hb)
           have n12_:=Aside0.mk (blk_below (g:=gb413) (o:=.cells #[.int .i64 0,.slice none 0 0] 28 (0,0)) (by (with_reducible repeat (first|refine blk_drewN ?_ _|refine blk_drew ?_|refine blk_alloc ?_ _));exact BK413.out) hb)
           have n13_:=Aside0.mk (below_step (by repeat (first|(with_reducible first|exact HB.out|apply below_alloc|apply pw_below_drewN|apply below_drew1|refine below_set ?_ GE347.out|refine below_set ?_ GE348.out|refine below_set ?_ GE364.out|refine below_set ?_ GE369.out|refine below_set ?_ GE374.out|refine below_set ?_ GE380.out|refine below_set ?_ GE413.out)|exact HB.out)) hb)
           clear HO_365001
           clear HO_370001
           clear HO_375001
           clear HO_381001
           clear HO403
           clear BK347
           clear BK348
           clear BK364
           clear BK369
           clear BK374
           clear BK380
           clear BK413
           clear HB
           have HO_365001:=n0_
           have HO_370001:=n1_
           have HO_375001:=n2_
           have HO_381001:=n3_
           have HO403:=n4_
           have HO407:=n5_
           have BK347:=n6_
           have BK348:=n7_
           have BK364:=n8_
           have BK369:=n9_
           have BK374:=n10_
           have BK380:=n11_
           have BK413:=n12_
           have HB:=n13_
           clear n0_ n1_ n2_ n3_ n4_ n5_ n6_ n7_ n8_ n9_ n10_ n11_ n12_ n13_
           (try clear hb)
           (try clear hb2)
           (try clear hk)
           (try clear hi)
           (try clear ho0)
           obtain ⟨Ao177,co177,eo177⟩:=Kd.R_slice HO403.out
           (first|subst eo177|(injection eo177 with f1_ f2_ f3_;have f4_:=f1_.symm;have f5_:=f3_.symm;clear f1_ f2_ f3_;subst f4_;subst f5_))
           obtain ⟨Ao178,co178,eo178⟩:=Kd.R_slice HO407.out
           (first|subst eo178|(injection eo178 with f1_ f2_ f3_;have f4_:=f1_.symm;have f5_:=f3_.symm;clear f1_ f2_ f3_;subst f4_;subst f5_))
           refine hK.out _ _ ⟨(blk_cell BK347.out 0).trans rfl,(blk_cell BK347.out 1).trans rfl,(blk_cell BK348.out 0).trans rfl,(blk_cell BK348.out 1).trans rfl⟩ (fun hHeld => ?_)
           clear hK K
           refine norm_ (a':=?_) ?_ ?_
           rotate_left
           ·show Act.put _ (some 98) _ = _
            simp only [Act.put,List.setIfInBounds_toArray,List.set_cons_zero,List.set_cons_succ,i64_w,i32_w]
            rfl
           refine one_ (i:=4) (N:=some 99) #[true,true,true,true,true,false,false,false,true,false,false] rfl rfl (one_of HT_.out (by kernel_rfl)) (by decide) (fun K hK => ?_)
           refine goes_ Try.func27 (by kernel_rfl) rfl #[.agg #[.int .i64 t400,.slice Ao177 t401.length co177],.agg #[.int .i64 t404,.slice Ao178 t405.length co178]] (by rfl) rfl rfl (by (try simp only [List.map_toArray,List.map_cons,List.map_nil]);first|done|rfl|(simp only [List.length_drop,List.length_take];rfl)) ?_
           with_reducible refine (impl_MulGrades.calls kj166 t400 _ _ t401 t404 _ _ t405 t408 t409 t412 _ ?side1 ?side2 ?side3 ?side4 A171.out).mono ?_
           (case side1 => repeat (first|exact (Kd.R_reads' HO403.out).2.2|(with_reducible refine Kd.C_alloc ?_ _)|(with_reducible refine Kd.C_drewN ?_ _)|(with_reducible refine Kd.C_drew ?_)))
           (case side2 => exact (Kd.R_reads' HO403.out).2.1)
           (case side3 => repeat (first|exact (Kd.R_reads' HO407.out).2.2|(with_reducible refine Kd.C_alloc ?_ _)|(with_reducible refine Kd.C_drewN ?_ _)|(with_reducible refine Kd.C_drew ?_)))
           (case side4 => exact (Kd.R_reads' HO407.out).2.1)
           rintro e w179 ⟨v410,rfl,ho0,hb⟩
           refine ⟨_,rfl,?_⟩
           have n0_:=Aside0.mk (Kd.R_elder' (by (with_reducible repeat (first|apply Kd.R_alloc|apply Kd.R_drewN|apply Kd.R_drew));exact HO_365001.out) (Kd.R_base ho0) hb)
           have n1_:=Aside0.mk (Kd.R_elder' (by (with_reducible repeat (first|apply Kd.R_alloc|apply Kd.R_drewN|apply Kd.R_drew));exact HO_370001.out) (Kd.R_base ho0) hb)
           have n2_:=Aside0.mk (Kd.R_elder' (by (with_reducible repeat (first|apply Kd.R_alloc|apply Kd.R_drewN|apply Kd.R_drew));exact HO_375001.out) (Kd.R_base ho0) hb)
           have n3_:=Aside0.mk (Kd.R_elder' (by (with_reducible repeat (first|apply Kd.R_alloc|apply Kd.R_drewN|apply Kd.R_drew));exact HO_381001.out) (Kd.R_base ho0) hb)
           have n4_:=Aside0.mk (Kd.R_elder' (by (with_reducible repeat (first|apply Kd.R_alloc|apply Kd.R_drewN|apply Kd.R_drew));exact HO403.out) (Kd.R_base ho0) hb)
           have n5_:=Aside0.mk (Kd.R_elder' (by (with_reducible repeat (first|apply Kd.R_alloc|apply Kd.R_drewN|apply Kd.R_drew));exact HO407.out) (Kd.R_base ho0) hb)
           have n6_:=Aside0.mk (Kd.R_lower (Kd.R_new' (Kd.R_new' (Kd.R_new' (Kd.R_new' (Kd.R_new' (Kd.R_new' ho0 (Kd.R_lt (by (with_reducible repeat (first|apply Kd.R_alloc|apply Kd.R_drewN|apply Kd.R_drew));exact HO_365001.out))) (Kd.R_lt (by (with_reducible repeat (first|apply Kd.R_alloc|apply Kd.R_drewN|apply Kd.R_drew));exact HO_370001.out))) (Kd.R_lt (by (with_reducible repeat (first|apply Kd.R_alloc|apply Kd.R_drewN|apply Kd.R_drew));exact HO_375001.out))) (Kd.R_lt (by (with_reducible repeat (first|apply Kd.R_alloc|apply Kd.R_drewN|apply Kd.R_drew));exact HO_381001.out))) (Kd.R_lt (by (with_reducible repeat (first|apply Kd.R_alloc|apply Kd.R_drewN|apply Kd.R_drew));exact HO403.out))) (Kd.R_lt (by (with_reducible repeat (first|apply Kd.R_alloc|apply Kd.R_drewN|apply Kd.R_drew));exact HO407.out))) (below_size (by repeat (first|(with_reducible first|exact HB.out|apply below_alloc|apply pw_below_drewN|apply below_drew1|refine below_set ?_ GE347.out|refine below_set ?_ GE348.out|refine below_set ?_ GE364.out|refine below_set ?_ GE369.out|refine below_set ?_ GE374.out|refine below_set ?_ GE380.out|refine below_set ?_ GE413.out)|exact HB.out))))
           have n7_:=Aside0.mk (blk_below (g:=gb347) (o:=.cells #[.int .i64 a0_0,.slice A0_1 l0_1.length c0_1] 26 (0,0)) (by (with_reducible repeat (first|refine blk_drewN ?_ _|refine blk_drew ?_|refine blk_alloc ?_ _));exact BK347.out) hb)
           have n8_:=Aside0.mk (blk_below (g:=gb348) (o:=.cells #[.int .i64 a1_0,.slice A1_1 l1_1.length c1_1] 26 (0,0)) (by (with_reducible repeat (first|refine blk_drewN ?_ _|refine blk_drew ?_|refine blk_alloc ?_ _));exact BK348.out) hb)
           have n9_:=Aside0.mk (blk_below (g:=gb364) (o:=.cells #[.int .i64 t359,.slice Ao33 t360.length co33] 28 (0,0)) (by (with_reducible repeat (first|refine blk_drewN ?_ _|refine blk_drew ?_|refine blk_alloc ?_ _));exact BK364.out) hb)
           have n10_:=Aside0.mk (blk_below (g:=gb369) (o:=.cells #[.int .i64 t365,.slice Ao44 t393.length co44] 28 (0,0)) (by (with_reducible repeat (first|refine blk_drewN ?_ _|refine blk_drew ?_|refine blk_alloc ?_ _));exact BK369.out) hb)
           have n11_:=Aside0.mk (blk_below (g:=gb374) (o:=.cells #[.int .i64 t370,.slice Ao54 t395.length co54] 28 (0,0)) (by (with_reducible repeat (first|refine blk_drewN ?_ _|refine blk_drew ?_|refine blk_alloc ?_ _));exact BK374.out) hb)
           have n12_:=Aside0.mk (blk_below (g:=gb380) (o:=.cells #[.int .i64 t375,.slice Ao64 t398.length co64] 28 (0,0)) (by (with_reducible repeat (first|refine blk_drewN ?_ _|refine blk_drew ?_|refine blk_alloc ?_ _));exact BK380.out) hb)
           have n13_:=Aside0.mk (blk_below (g:=gb413) (o:=.cells #[.int .i64 0,.slice none 0 0] 28 (0,0)) (by (with_reducible repeat (first|refine blk_drewN ?_ _|refine blk_drew ?_|refine blk_alloc ?_ _));exact BK413.out) hb)
           have n14_:=Aside0.mk (below_step (by repeat (first|(with_reducible first|exact HB.out|apply below_alloc|apply pw_below_drewN|apply below_drew1|refine below_set ?_ GE347.out|refine below_set ?_ GE348.out|refine below_set ?_ GE364.out|refine below_set ?_ GE369.out|refine below_set ?_ GE374.out|refine below_set ?_ GE380.out|refine below_set ?_ GE413.out)|exact HB.out)) hb)
           clear HO_365001
           clear HO_370001
           clear HO_375001
           clear HO_381001
           clear HO403
           clear HO407
           clear BK347
           clear BK348
           clear BK364
           clear BK369
           clear BK374
           clear BK380
           clear BK413
           clear HB
           have HO_365001:=n0_
           have HO_370001:=n1_
           have HO_375001:=n2_
           have HO_381001:=n3_
           have HO403:=n4_
           have HO407:=n5_
           have HO411:=n6_
           have BK347:=n7_
           have BK348:=n8_
           have BK364:=n9_
           have BK369:=n10_
           have BK374:=n11_
           have BK380:=n12_
           have BK413:=n13_
           have HB:=n14_
           clear n0_ n1_ n2_ n3_ n4_ n5_ n6_ n7_ n8_ n9_ n10_ n11_ n12_ n13_ n14_
           (try clear hb)
           (try clear hb2)
           (try clear hk)
           (try clear hi)
           (try clear ho0)
           refine hK.out _ _ ⟨(blk_cell BK347.out 0).trans rfl,(blk_cell BK347.out 1).trans rfl,(blk_cell BK348.out 0).trans rfl,(blk_cell BK348.out 1).trans rfl⟩ (fun hHeld => ?_)
           clear hK K
           refine norm_ (a':=?_) ?_ ?_
           rotate_left
           ·show Act.put _ (some 99) _ = _
            simp only [Act.put,List.setIfInBounds_toArray,List.set_cons_zero,List.set_cons_succ,i64_w,i32_w]
            rfl
           refine pure_ (i:=5) (N:=some 94) (v:=?_) (a':=?_) #[true,true,true,true,true,true,false,false,true,false,false] rfl rfl (any_of HT_.out (by kernel_rfl)) (fun _ _ _ h => h) (Or.inl ⟨by rfl,?_⟩) ?_ ?_
           rotate_left
           ·intro w'
            go_simp
            with_reducible rfl
           rotate_left
           ·simp only [Act.put,List.setIfInBounds_toArray,List.set_cons_zero,List.set_cons_succ,i64_w,i32_w]
            rfl
           refine pure_ (i:=6) (N:=some 100) (v:=?_) (a':=?_) #[true,true,true,true,true,true,true,false,true,false,false] rfl rfl (any_of HT_.out (by kernel_rfl)) (fun _ _ _ h => h) (Or.inl ⟨by rfl,?_⟩) ?_ ?_
           rotate_left
           ·intro w'
            go_simp
            with_reducible rfl
           rotate_left
           ·simp only [Act.put,List.setIfInBounds_toArray,List.set_cons_zero,List.set_cons_succ,i64_w,i32_w]
            rfl
           refine pure_ (i:=7) (N:=some 101) (v:=?_) (a':=?_) #[true,true,true,true,true,true,true,true,true,false,false] rfl rfl (any_of HT_.out (by kernel_rfl)) (fun _ _ _ h => h) (Or.inl ⟨by rfl,?_⟩) ?_ ?_
           rotate_left
           ·intro w'
            go_simp
            with_reducible rfl
           rotate_left
           ·simp only [Act.put,List.setIfInBounds_toArray,List.set_cons_zero,List.set_cons_succ,i64_w,i32_w]
            rfl
           exact norm_ (by simp only [putAll,Act.put,List.setIfInBounds_toArray,List.set_cons_zero,List.set_cons_succ]) (hCont (.slice Ao177 t401.length co177,.slice Ao178 t405.length co178,v410,gb413) _ ⟨hHeld,(by (with_reducible repeat (first|apply Kd.R_alloc|apply Kd.R_drewN|apply Kd.R_drew));exact Kd.R_mono HO403.out (fun _ hk => ⟨hk.1.2,⟨hk.2,⟨hk.1.1.1.1.1.2,⟨hk.1.1.1.1.2,⟨hk.1.1.1.2,hk.1.1.2⟩⟩⟩⟩⟩)),(by (with_reducible repeat (first|apply Kd.R_alloc|apply Kd.R_drewN|apply Kd.R_drew));exact Kd.R_mono HO407.out (fun _ hk => ⟨hk.1.2,⟨hk.2,⟨hk.1.1.1.1.1.2,⟨hk.1.1.1.1.2,⟨hk.1.1.1.2,hk.1.1.2⟩⟩⟩⟩⟩)),(by (with_reducible repeat (first|apply Kd.R_alloc|apply Kd.R_drewN|apply Kd.R_drew));exact Kd.R_mono HO411.out (fun _ hk => ⟨hk.1.2,⟨hk.2,⟨hk.1.1.1.1.1.2,⟨hk.1.1.1.1.2,⟨hk.1.1.1.2,hk.1.1.2⟩⟩⟩⟩⟩)),(by (with_reducible repeat (first|apply Kd.R_alloc|apply Kd.R_drewN|apply Kd.R_drew));exact Kd.R_mono HO_365001.out (fun _ hk => ⟨hk.1.1.2,⟨hk.1.2,⟨hk.2,⟨hk.1.1.1.1,⟨hk.1.1.1.2.1,hk.1.1.1.2.2⟩⟩⟩⟩⟩)),(by (with_reducible repeat (first|apply Kd.R_alloc|apply Kd.R_drewN|apply Kd.R_drew));exact Kd.R_mono HO_370001.out (fun _ hk => ⟨hk.1.1.2,⟨hk.1.2,⟨hk.2,⟨hk.1.1.1.1,⟨hk.1.1.1.2.1,hk.1.1.1.2.2⟩⟩⟩⟩⟩)),(by (with_reducible repeat (first|apply Kd.R_alloc|apply Kd.R_drewN|apply Kd.R_drew));exact Kd.R_mono HO_375001.out (fun _ hk => ⟨hk.1.1.2,⟨hk.1.2,⟨hk.2,⟨hk.1.1.1.1,⟨hk.1.1.1.2.1,hk.1.1.1.2.2⟩⟩⟩⟩⟩)),(by (with_reducible repeat (first|apply Kd.R_alloc|apply Kd.R_drewN|apply Kd.R_drew));exact Kd.R_mono HO_381001.out (fun _ hk => ⟨hk.1.1.2,⟨hk.1.2,⟨hk.2,⟨hk.1.1.1.1,⟨hk.1.1.1.2.1,hk.1.1.1.2.2⟩⟩⟩⟩⟩)),(by (with_reducible repeat (first|refine blk_drewN ?_ _|refine blk_drew ?_|refine blk_alloc ?_ _));exact BK347.out),(by (with_reducible repeat (first|refine blk_drewN ?_ _|refine blk_drew ?_|refine blk_alloc ?_ _));exact BK348.out),(by (with_reducible repeat (first|refine blk_drewN ?_ _|refine blk_drew ?_|refine blk_alloc ?_ _));exact BK364.out),(by (with_reducible repeat (first|refine blk_drewN ?_ _|refine blk_drew ?_|refine blk_alloc ?_ _));exact BK369.out),(by (with_reducible repeat (first|refine blk_drewN ?_ _|refine blk_drew ?_|refine blk_alloc ?_ _));exact BK374.out),(by (with_reducible repeat (first|refine blk_drewN ?_ _|refine blk_drew ?_|refine blk_alloc ?_ _));exact BK380.out),(by (with_reducible repeat (first|refine blk_drewN ?_ _|refine blk_drew ?_|refine blk_alloc ?_ _));exact BK413.out),GW413.out,GE413.out,NB347_413.out,NB413_347.out,NB348_413.out,NB413_348.out,NB364_413.out,NB413_364.out,NB369_413.out,NB413_369.out,NB374_413.out,NB413_374.out,NB380_413.out,NB413_380.out,(by repeat (first|(with_reducible first|exact HB.out|apply below_alloc|apply pw_below_drewN|apply below_drew1|refine below_set ?_ GE347.out|refine below_set ?_ GE348.out|refine below_set ?_ GE364.out|refine below_set ?_ GE369.out|refine below_set ?_ GE374.out|refine below_set ?_ GE380.out|refine below_set ?_ GE413.out)|exact HB.out))⟩)
         ·skip
          refine box_step ?hg (N:=15) ?hd (cs:=#[.int .i64 0,.slice none 0 0]) (t:=28) ?hr ?_;(case hd => rfl);(case hg => rfl);(case hr => first|(go_simp;done)|(go_simp;rfl))
          intro gb413 hg w174 hbox hb
          have n0_:=Aside0.mk (Kd.R_below (by (with_reducible repeat (first|apply Kd.R_alloc|apply Kd.R_drewN|apply Kd.R_drew));exact HO_365001.out) hb)
          have n1_:=Aside0.mk (Kd.R_below (by (with_reducible repeat (first|apply Kd.R_alloc|apply Kd.R_drewN|apply Kd.R_drew));exact HO_370001.out) hb)
          have n2_:=Aside0.mk (Kd.R_below (by (with_reducible repeat (first|apply Kd.R_alloc|apply Kd.R_drewN|apply Kd.R_drew));exact HO_375001.out) hb)
          have n3_:=Aside0.mk (Kd.R_below (by (with_reducible repeat (first|apply Kd.R_alloc|apply Kd.R_drewN|apply Kd.R_drew));exact HO_381001.out) hb)
          have n4_:=Aside0.mk (blk_below (g:=gb347) (o:=.cells #[.int .i64 a0_0,.slice A0_1 l0_1.length c0_1] 26 (0,0)) (by (with_reducible repeat (first|refine blk_drewN ?_ _|refine blk_drew ?_|refine blk_alloc ?_ _));exact BK347.out) hb)
          have n5_:=Aside0.mk (blk_below (g:=gb348) (o:=.cells #[.int .i64 a1_0,.slice A1_1 l1_1.length c1_1] 26 (0,0)) (by (with_reducible repeat (first|refine blk_drewN ?_ _|refine blk_drew ?_|refine blk_alloc ?_ _));exact BK348.out) hb)
          have n6_:=Aside0.mk (blk_below (g:=gb364) (o:=.cells #[.int .i64 t359,.slice Ao33 t360.length co33] 28 (0,0)) (by (with_reducible repeat (first|refine blk_drewN ?_ _|refine blk_drew ?_|refine blk_alloc ?_ _));exact BK364.out) hb)
          have n7_:=Aside0.mk (blk_below (g:=gb369) (o:=.cells #[.int .i64 t365,.slice Ao44 t393.length co44] 28 (0,0)) (by (with_reducible repeat (first|refine blk_drewN ?_ _|refine blk_drew ?_|refine blk_alloc ?_ _));exact BK369.out) hb)
          have n8_:=Aside0.mk (blk_below (g:=gb374) (o:=.cells #[.int .i64 t370,.slice Ao54 t395.length co54] 28 (0,0)) (by (with_reducible repeat (first|refine blk_drewN ?_ _|refine blk_drew ?_|refine blk_alloc ?_ _));exact BK374.out) hb)
          have n9_:=Aside0.mk (blk_below (g:=gb380) (o:=.cells #[.int .i64 t375,.slice Ao64 t398.length co64] 28 (0,0)) (by (with_reducible repeat (first|refine blk_drewN ?_ _|refine blk_drew ?_|refine blk_alloc ?_ _));exact BK380.out) hb)
          have n10_:=Aside0.mk (below_step (by repeat (first|(with_reducible first|exact HB.out|apply below_alloc|apply pw_below_drewN|apply below_drew1|refine below_set ?_ GE347.out|refine below_set ?_ GE348.out|refine below_set ?_ GE364.out|refine below_set ?_ GE369.out|refine below_set ?_ GE374.out|refine below_set ?_ GE380.out)|exact HB.out)) hb)
          have n11_:=Aside0.mk (hbox)
          have n12_:=Aside0.mk ((by rw [hg];exact (below_size (by repeat (first|(with_reducible first|exact HB.out|apply below_alloc|apply pw_below_drewN|apply below_drew1|refine below_set ?_ GE347.out|refine below_set ?_ GE348.out|refine below_set ?_ GE364.out|refine below_set ?_ GE369.out|refine below_set ?_ GE374.out|refine below_set ?_ GE380.out)|exact HB.out))) : w.heap.size ≤ gb413))
          have n13_:=Aside0.mk ((by rw [hg];exact (below_size (by repeat (first|(with_reducible first|exact HB.out|apply below_alloc|apply pw_below_drewN|apply below_drew1|refine below_set ?_ GE347.out|refine below_set ?_ GE348.out|refine below_set ?_ GE364.out|refine below_set ?_ GE369.out|refine below_set ?_ GE374.out|refine below_set ?_ GE380.out)|exact HB.out))) : w.heap.size ≤ gb413))
          have n14_:=Aside0.mk ((by rw [hg];exact Nat.ne_of_lt (blk_lt (g:=gb347) (o:=.cells #[.int .i64 a0_0,.slice A0_1 l0_1.length c0_1] 26 (0,0)) (by (with_reducible repeat (first|refine blk_drewN ?_ _|refine blk_drew ?_|refine blk_alloc ?_ _));exact BK347.out)) : gb347 ≠ gb413))
          have n15_:=Aside0.mk ((by rw [hg];exact Nat.ne_of_gt (blk_lt (g:=gb347) (o:=.cells #[.int .i64 a0_0,.slice A0_1 l0_1.length c0_1] 26 (0,0)) (by (with_reducible repeat (first|refine blk_drewN ?_ _|refine blk_drew ?_|refine blk_alloc ?_ _));exact BK347.out)) : gb413 ≠ gb347))
          have n16_:=Aside0.mk ((by rw [hg];exact Nat.ne_of_lt (blk_lt (g:=gb348) (o:=.cells #[.int .i64 a1_0,.slice A1_1 l1_1.length c1_1] 26 (0,0)) (by (with_reducible repeat (first|refine blk_drewN ?_ _|refine blk_drew ?_|refine blk_alloc ?_ _));exact BK348.out)) : gb348 ≠ gb413))
          have n17_:=Aside0.mk ((by rw [hg];exact Nat.ne_of_gt (blk_lt (g:=gb348) (o:=.cells #[.int .i64 a1_0,.slice A1_1 l1_1.length c1_1] 26 (0,0)) (by (with_reducible repeat (first|refine blk_drewN ?_ _|refine blk_drew ?_|refine blk_alloc ?_ _));exact BK348.out)) : gb413 ≠ gb348))
          have n18_:=Aside0.mk ((by rw [hg];exact Nat.ne_of_lt (blk_lt (g:=gb364) (o:=.cells #[.int .i64 t359,.slice Ao33 t360.length co33] 28 (0,0)) (by (with_reducible repeat (first|refine blk_drewN ?_ _|refine blk_drew ?_|refine blk_alloc ?_ _));exact BK364.out)) : gb364 ≠ gb413))
          have n19_:=Aside0.mk ((by rw [hg];exact Nat.ne_of_gt (blk_lt (g:=gb364) (o:=.cells #[.int .i64 t359,.slice Ao33 t360.length co33] 28 (0,0)) (by (with_reducible repeat (first|refine blk_drewN ?_ _|refine blk_drew ?_|refine blk_alloc ?_ _));exact BK364.out)) : gb413 ≠ gb364))
          have n20_:=Aside0.mk ((by rw [hg];exact Nat.ne_of_lt (blk_lt (g:=gb369) (o:=.cells #[.int .i64 t365,.slice Ao44 t393.length co44] 28 (0,0)) (by (with_reducible repeat (first|refine blk_drewN ?_ _|refine blk_drew ?_|refine blk_alloc ?_ _));exact BK369.out)) : gb369 ≠ gb413))
          have n21_:=Aside0.mk ((by rw [hg];exact Nat.ne_of_gt (blk_lt (g:=gb369) (o:=.cells #[.int .i64 t365,.slice Ao44 t393.length co44] 28 (0,0)) (by (with_reducible repeat (first|refine blk_drewN ?_ _|refine blk_drew ?_|refine blk_alloc ?_ _));exact BK369.out)) : gb413 ≠ gb369))
          have n22_:=Aside0.mk ((by rw [hg];exact Nat.ne_of_lt (blk_lt (g:=gb374) (o:=.cells #[.int .i64 t370,.slice Ao54 t395.length co54] 28 (0,0)) (by (with_reducible repeat (first|refine blk_drewN ?_ _|refine blk_drew ?_|refine blk_alloc ?_ _));exact BK374.out)) : gb374 ≠ gb413))
          have n23_:=Aside0.mk ((by rw [hg];exact Nat.ne_of_gt (blk_lt (g:=gb374) (o:=.cells #[.int .i64 t370,.slice Ao54 t395.length co54] 28 (0,0)) (by (with_reducible repeat (first|refine blk_drewN ?_ _|refine blk_drew ?_|refine blk_alloc ?_ _));exact BK374.out)) : gb413 ≠ gb374))
          have n24_:=Aside0.mk ((by rw [hg];exact Nat.ne_of_lt (blk_lt (g:=gb380) (o:=.cells #[.int .i64 t375,.slice Ao64 t398.length co64] 28 (0,0)) (by (with_reducible repeat (first|refine blk_drewN ?_ _|refine blk_drew ?_|refine blk_alloc ?_ _));exact BK380.out)) : gb380 ≠ gb413))
          have n25_:=Aside0.mk ((by rw [hg];exact Nat.ne_of_gt (blk_lt (g:=gb380) (o:=.cells #[.int .i64 t375,.slice Ao64 t398.length co64] 28 (0,0)) (by (with_reducible repeat (first|refine blk_drewN ?_ _|refine blk_drew ?_|refine blk_alloc ?_ _));exact BK380.out)) : gb413 ≠ gb380))
          clear HO_365001
          clear HO_370001
          clear HO_375001
          clear HO_381001
          clear BK347
          clear BK348
          clear BK364
          clear BK369
          clear BK374
          clear BK380
          clear HB
          have HO_365001:=n0_
          have HO_370001:=n1_
          have HO_375001:=n2_
          have HO_381001:=n3_
          have BK347:=n4_
          have BK348:=n5_
          have BK364:=n6_
          have BK369:=n7_
          have BK374:=n8_
          have BK380:=n9_
          have HB:=n10_
          have BK413:=n11_
          have GW413:=n12_
          have GE413:=n13_
          have NB347_413:=n14_
          have NB413_347:=n15_
          have NB348_413:=n16_
          have NB413_348:=n17_
          have NB364_413:=n18_
          have NB413_364:=n19_
          have NB369_413:=n20_
          have NB413_369:=n21_
          have NB374_413:=n22_
          have NB413_374:=n23_
          have NB380_413:=n24_
          have NB413_380:=n25_
          clear n0_ n1_ n2_ n3_ n4_ n5_ n6_ n7_ n8_ n9_ n10_ n11_ n12_ n13_ n14_ n15_ n16_ n17_ n18_ n19_ n20_ n21_ n22_ n23_ n24_ n25_
          clear hb hbox hg
          refine hK.out _ _ ⟨(blk_cell BK347.out 0).trans rfl,(blk_cell BK347.out 1).trans rfl,(blk_cell BK348.out 0).trans rfl,(blk_cell BK348.out 1).trans rfl⟩ (fun hHeld => ?_)
          clear hK K
          refine norm_ (a':=?_) ?_ ?_
          rotate_left
          ·show Act.put _ (some 15) _ = _
           simp only [Act.put,List.setIfInBounds_toArray,List.set_cons_zero,List.set_cons_succ,i64_w,i32_w]
           rfl
          refine one_ (i:=1) (N:=some 96) #[true,true,true,false,false,false,false,false,true,false,false] rfl rfl (one_of HT_.out (by kernel_rfl)) (by decide) (fun K hK => ?_)
          refine goes_ Try.func19 (by kernel_rfl) rfl #[.agg #[.int .i64 a0_0,.slice A0_1 l0_1.length c0_1]] (by rfl) rfl rfl (by (try simp only [List.map_toArray,List.map_cons,List.map_nil]);first|done|rfl|(simp only [List.length_drop,List.length_take];rfl)) ?_
          with_reducible refine (laws_toMatrix.calls kj166 a0_0 _ _ l0_1 t400 t401 _ ?side1 ?side2 A169.out).mono ?_
          (case side1 => repeat (first|exact (Kd.C_below HR0_1.out HB.out)|(with_reducible refine Kd.C_alloc ?_ _)|(with_reducible refine Kd.C_drewN ?_ _)|(with_reducible refine Kd.C_drew ?_)))
          (case side2 => exact HC0_1.out)
          rintro e w175 ⟨v402,rfl,ho0,hb⟩
          refine ⟨_,rfl,?_⟩
          have n0_:=Aside0.mk (Kd.R_elder' (by (with_reducible repeat (first|apply Kd.R_alloc|apply Kd.R_drewN|apply Kd.R_drew));exact HO_365001.out) (Kd.R_base ho0) hb)
          have n1_:=Aside0.mk (Kd.R_elder' (by (with_reducible repeat (first|apply Kd.R_alloc|apply Kd.R_drewN|apply Kd.R_drew));exact HO_370001.out) (Kd.R_base ho0) hb)
          have n2_:=Aside0.mk (Kd.R_elder' (by (with_reducible repeat (first|apply Kd.R_alloc|apply Kd.R_drewN|apply Kd.R_drew));exact HO_375001.out) (Kd.R_base ho0) hb)
          have n3_:=Aside0.mk (Kd.R_elder' (by (with_reducible repeat (first|apply Kd.R_alloc|apply Kd.R_drewN|apply Kd.R_drew));exact HO_381001.out) (Kd.R_base ho0) hb)
          have n4_:=Aside0.mk (Kd.R_lower (Kd.R_new' (Kd.R_new' (Kd.R_new' (Kd.R_new' ho0 (Kd.R_lt (by (with_reducible repeat (first|apply Kd.R_alloc|apply Kd.R_drewN|apply Kd.R_drew));exact HO_365001.out))) (Kd.R_lt (by (with_reducible repeat (first|apply Kd.R_alloc|apply Kd.R_drewN|apply Kd.R_drew));exact HO_370001.out))) (Kd.R_lt (by (with_reducible repeat (first|apply Kd.R_alloc|apply Kd.R_drewN|apply Kd.R_drew));exact HO_375001.out))) (Kd.R_lt (by (with_reducible repeat (first|apply Kd.R_alloc|apply Kd.R_drewN|apply Kd.R_drew));exact HO_381001.out))) (below_size (by repeat (first|(with_reducible first|exact HB.out|apply below_alloc|apply pw_below_drewN|apply below_drew1|refine below_set ?_ GE347.out|refine below_set ?_ GE348.out|refine below_set ?_ GE364.out|refine below_set ?_ GE369.out|refine below_set ?_ GE374.out|refine below_set ?_ GE380.out|refine below_set ?_ GE413.out)|exact HB.out))))
          have n5_:=Aside0.mk (blk_below (g:=gb347) (o:=.cells #[.int .i64 a0_0,.slice A0_1 l0_1.length c0_1] 26 (0,0)) (by (with_reducible repeat (first|refine blk_drewN ?_ _|refine blk_drew ?_|refine blk_alloc ?_ _));exact BK347.out) hb)
          have n6_:=Aside0.mk (blk_below (g:=gb348) (o:=.cells #[.int .i64 a1_0,.slice A1_1 l1_1.length c1_1] 26 (0,0)) (by (with_reducible repeat (first|refine blk_drewN ?_ _|refine blk_drew ?_|refine blk_alloc ?_ _));exact BK348.out) hb)
          have n7_:=Aside0.mk (blk_below (g:=gb364) (o:=.cells #[.int .i64 t359,.slice Ao33 t360.length co33] 28 (0,0)) (by (with_reducible repeat (first|refine blk_drewN ?_ _|refine blk_drew ?_|refine blk_alloc ?_ _));exact BK364.out) hb)
          have n8_:=Aside0.mk (blk_below (g:=gb369) (o:=.cells #[.int .i64 t365,.slice Ao44 t393.length co44] 28 (0,0)) (by (with_reducible repeat (first|refine blk_drewN ?_ _|refine blk_drew ?_|refine blk_alloc ?_ _));exact BK369.out) hb)
          have n9_:=Aside0.mk (blk_below (g:=gb374) (o:=.cells #[.int .i64 t370,.slice Ao54 t395.length co54] 28 (0,0)) (by (with_reducible repeat (first|refine blk_drewN ?_ _|refine blk_drew ?_|refine blk_alloc ?_ _));exact BK374.out) hb)
          have n10_:=Aside0.mk (blk_below (g:=gb380) (o:=.cells #[.int .i64 t375,.slice Ao64 t398.length co64] 28 (0,0)) (by (with_reducible repeat (first|refine blk_drewN ?_ _|refine blk_drew ?_|refine blk_alloc ?_ _));exact BK380.out) hb)
          have n11_:=Aside0.mk (blk_below (g:=gb413) (o:=.cells #[.int .i64 0,.slice none 0 0] 28 (0,0)) (by (with_reducible repeat (first|refine blk_drewN ?_ _|refine blk_drew ?_|refine blk_alloc ?_ _));exact BK413.out) hb)
          have n12_:=Aside0.mk (below_step (by repeat (first|(with_reducible first|exact HB.out|apply below_alloc|apply pw_below_drewN|apply below_drew1|refine below_set ?_ GE347.out|refine below_set ?_ GE348.out|refine below_set ?_ GE364.out|refine below_set ?_ GE369.out|refine below_set ?_ GE374.out|refine below_set ?_ GE380.out|refine below_set ?_ GE413.out)|exact HB.out)) hb)
          clear HO_365001
          clear HO_370001
          clear HO_375001
          clear HO_381001
          clear BK347
          clear BK348
          clear BK364
          clear BK369
          clear BK374
          clear BK380
          clear BK413
          clear HB
          have HO_365001:=n0_
          have HO_370001:=n1_
          have HO_375001:=n2_
          have HO_381001:=n3_
          have HO403:=n4_
          have BK347:=n5_
          have BK348:=n6_
          have BK364:=n7_
          have BK369:=n8_
          have BK374:=n9_
          have BK380:=n10_
          have BK413:=n11_
          have HB:=n12_
          clear n0_ n1_ n2_ n3_ n4_ n5_ n6_ n7_ n8_ n9_ n10_ n11_ n12_
          (try clear hb)
          (try clear hb2)
          (try clear hk)
          (try clear hi)
          (try clear ho0)
          refine hK.out _ _ ⟨(blk_cell BK347.out 0).trans rfl,(blk_cell BK347.out 1).trans rfl,(blk_cell BK348.out 0).trans rfl,(blk_cell BK348.out 1).trans rfl⟩ (fun hHeld => ?_)
          clear hK K
          refine norm_ (a':=?_) ?_ ?_
          rotate_left
          ·show Act.put _ (some 96) _ = _
           simp only [Act.put,List.setIfInBounds_toArray,List.set_cons_zero,List.set_cons_succ,i64_w,i32_w]
           rfl
          refine one_ (i:=3) (N:=some 98) #[true,true,true,true,false,false,false,false,true,false,false] rfl rfl (one_of HT_.out (by kernel_rfl)) (by decide) (fun K hK => ?_)
          refine goes_ Try.func19 (by kernel_rfl) rfl #[.agg #[.int .i64 a1_0,.slice A1_1 l1_1.length c1_1]] (by rfl) rfl rfl (by (try simp only [List.map_toArray,List.map_cons,List.map_nil]);first|done|rfl|(simp only [List.length_drop,List.length_take];rfl)) ?_
          with_reducible refine (laws_toMatrix.calls kj166 a1_0 _ _ l1_1 t404 t405 _ ?side1 ?side2 A170.out).mono ?_
          (case side1 => repeat (first|exact (Kd.C_below HR1_1.out HB.out)|(with_reducible refine Kd.C_alloc ?_ _)|(with_reducible refine Kd.C_drewN ?_ _)|(with_reducible refine Kd.C_drew ?_)))
          (case side2 => exact HC1_1.out)
          rintro e w176 ⟨v406,rfl,ho0,hb⟩
          refine ⟨_,rfl,?_⟩
          have n0_:=Aside0.mk (Kd.R_elder' (by (with_reducible repeat (first|apply Kd.R_alloc|apply Kd.R_drewN|apply Kd.R_drew));exact HO_365001.out) (Kd.R_base ho0) hb)
          have n1_:=Aside0.mk (Kd.R_elder' (by (with_reducible repeat (first|apply Kd.R_alloc|apply Kd.R_drewN|apply Kd.R_drew));exact HO_370001.out) (Kd.R_base ho0) hb)
          have n2_:=Aside0.mk (Kd.R_elder' (by (with_reducible repeat (first|apply Kd.R_alloc|apply Kd.R_drewN|apply Kd.R_drew));exact HO_375001.out) (Kd.R_base ho0) hb)
          have n3_:=Aside0.mk (Kd.R_elder' (by (with_reducible repeat (first|apply Kd.R_alloc|apply Kd.R_drewN|apply Kd.R_drew));exact HO_381001.out) (Kd.R_base ho0) hb)
          have n4_:=Aside0.mk (Kd.R_elder' (by (with_reducible repeat (first|apply Kd.R_alloc|apply Kd.R_drewN|apply Kd.R_drew));exact HO403.out) (Kd.R_base ho0) hb)
          have n5_:=Aside0.mk (Kd.R_lower (Kd.R_new' (Kd.R_new' (Kd.R_new' (Kd.R_new' (Kd.R_new' ho0 (Kd.R_lt (by (with_reducible repeat (first|apply Kd.R_alloc|apply Kd.R_drewN|apply Kd.R_drew));exact HO_365001.out))) (Kd.R_lt (by (with_reducible repeat (first|apply Kd.R_alloc|apply Kd.R_drewN|apply Kd.R_drew));exact HO_370001.out))) (Kd.R_lt (by (with_reducible repeat (first|apply Kd.R_alloc|apply Kd.R_drewN|apply Kd.R_drew));exact HO_375001.out))) (Kd.R_lt (by (with_reducible repeat (first|apply Kd.R_alloc|apply Kd.R_drewN|apply Kd.R_drew));exact HO_381001.out))) (Kd.R_lt (by (with_reducible repeat (first|apply Kd.R_alloc|apply Kd.R_drewN|apply Kd.R_drew));exact HO403.out))) (below_size (by repeat (first|(with_reducible first|exact HB.out|apply below_alloc|apply pw_below_drewN|apply below_drew1|refine below_set ?_ GE347.out|refine below_set ?_ GE348.out|refine below_set ?_ GE364.out|refine below_set ?_ GE369.out|refine below_set ?_ GE374.out|refine below_set ?_ GE380.out|refine below_set ?_ GE413.out)|exact HB.out))))
          have n6_:=Aside0.mk (blk_below (g:=gb347) (o:=.cells #[.int .i64 a0_0,.slice A0_1 l0_1.length c0_1] 26 (0,0)) (by (with_reducible repeat (first|refine blk_drewN ?_ _|refine blk_drew ?_|refine blk_alloc ?_ _));exact BK347.out) hb)
          have n7_:=Aside0.mk (blk_below (g:=gb348) (o:=.cells #[.int .i64 a1_0,.slice A1_1 l1_1.length c1_1] 26 (0,0)) (by (with_reducible repeat (first|refine blk_drewN ?_ _|refine blk_drew ?_|refine blk_alloc ?_ _));exact BK348.out) hb)
          have n8_:=Aside0.mk (blk_below (g:=gb364) (o:=.cells #[.int .i64 t359,.slice Ao33 t360.length co33] 28 (0,0)) (by (with_reducible repeat (first|refine blk_drewN ?_ _|refine blk_drew ?_|refine blk_alloc ?_ _));exact BK364.out) hb)
          have n9_:=Aside0.mk (blk_below (g:=gb369) (o:=.cells #[.int .i64 t365,.slice Ao44 t393.length co44] 28 (0,0)) (by (with_reducible repeat (first|refine blk_drewN ?_ _|refine blk_drew ?_|refine blk_alloc ?_ _));exact BK369.out) hb)
          have n10_:=Aside0.mk (blk_below (g:=gb374) (o:=.cells #[.int .i64 t370,.slice Ao54 t395.length co54] 28 (0,0)) (by (with_reducible repeat (first|refine blk_drewN ?_ _|refine blk_drew ?_|refine blk_alloc ?_ _));exact BK374.out) hb)
          have n11_:=Aside0.mk (blk_below (g:=gb380) (o:=.cells #[.int .i64 t375,.slice Ao64 t398.length co64] 28 (0,0)) (by (with_reducible repeat (first|refine blk_drewN ?_ _|refine blk_drew ?_|refine blk_alloc ?_ _));exact BK380.out) hb)
          have n12_:=Aside0.mk (blk_below (g:=gb413) (o:=.cells #[.int .i64 0,.slice none 0 0] 28 (0,0)) (by (with_reducible repeat (first|refine blk_drewN ?_ _|refine blk_drew ?_|refine blk_alloc ?_ _));exact BK413.out) hb)
          have n13_:=Aside0.mk (below_step (by repeat (first|(with_reducible first|exact HB.out|apply below_alloc|apply pw_below_drewN|apply below_drew1|refine below_set ?_ GE347.out|refine below_set ?_ GE348.out|refine below_set ?_ GE364.out|refine below_set ?_ GE369.out|refine below_set ?_ GE374.out|refine below_set ?_ GE380.out|refine below_set ?_ GE413.out)|exact HB.out)) hb)
          clear HO_365001
          clear HO_370001
          clear HO_375001
          clear HO_381001
          clear HO403
          clear BK347
          clear BK348
          clear BK364
          clear BK369
          clear BK374
          clear BK380
          clear BK413
          clear HB
          have HO_365001:=n0_
          have HO_370001:=n1_
          have HO_375001:=n2_
          have HO_381001:=n3_
          have HO403:=n4_
          have HO407:=n5_
          have BK347:=n6_
          have BK348:=n7_
          have BK364:=n8_
          have BK369:=n9_
          have BK374:=n10_
          have BK380:=n11_
          have BK413:=n12_
          have HB:=n13_
          clear n0_ n1_ n2_ n3_ n4_ n5_ n6_ n7_ n8_ n9_ n10_ n11_ n12_ n13_
          (try clear hb)
          (try clear hb2)
          (try clear hk)
          (try clear hi)
          (try clear ho0)
          obtain ⟨Ao177,co177,eo177⟩:=Kd.R_slice HO403.out
          (first|subst eo177|(injection eo177 with f1_ f2_ f3_;have f4_:=f1_.symm;have f5_:=f3_.symm;clear f1_ f2_ f3_;subst f4_;subst f5_))
          obtain ⟨Ao178,co178,eo178⟩:=Kd.R_slice HO407.out
          (first|subst eo178|(injection eo178 with f1_ f2_ f3_;have f4_:=f1_.symm;have f5_:=f3_.symm;clear f1_ f2_ f3_;subst f4_;subst f5_))
          refine hK.out _ _ ⟨(blk_cell BK347.out 0).trans rfl,(blk_cell BK347.out 1).trans rfl,(blk_cell BK348.out 0).trans rfl,(blk_cell BK348.out 1).trans rfl⟩ (fun hHeld => ?_)
          clear hK K
          refine norm_ (a':=?_) ?_ ?_
          rotate_left
          ·show Act.put _ (some 98) _ = _
           simp only [Act.put,List.setIfInBounds_toArray,List.set_cons_zero,List.set_cons_succ,i64_w,i32_w]
           rfl
          refine one_ (i:=4) (N:=some 99) #[true,true,true,true,true,false,false,false,true,false,false] rfl rfl (one_of HT_.out (by kernel_rfl)) (by decide) (fun K hK => ?_)
          refine goes_ Try.func27 (by kernel_rfl) rfl #[.agg #[.int .i64 t400,.slice Ao177 t401.length co177],.agg #[.int .i64 t404,.slice Ao178 t405.length co178]] (by rfl) rfl rfl (by (try simp only [List.map_toArray,List.map_cons,List.map_nil]);first|done|rfl|(simp only [List.length_drop,List.length_take];rfl)) ?_
          with_reducible refine (impl_MulGrades.calls kj166 t400 _ _ t401 t404 _ _ t405 t408 t409 t412 _ ?side1 ?side2 ?side3 ?side4 A171.out).mono ?_
          (case side1 => repeat (first|exact (Kd.R_reads' HO403.out).2.2|(with_reducible refine Kd.C_alloc ?_ _)|(with_reducible refine Kd.C_drewN ?_ _)|(with_reducible refine Kd.C_drew ?_)))
          (case side2 => exact (Kd.R_reads' HO403.out).2.1)
          (case side3 => repeat (first|exact (Kd.R_reads' HO407.out).2.2|(with_reducible refine Kd.C_alloc ?_ _)|(with_reducible refine Kd.C_drewN ?_ _)|(with_reducible refine Kd.C_drew ?_)))
          (case side4 => exact (Kd.R_reads' HO407.out).2.1)
          rintro e w179 ⟨v410,rfl,ho0,hb⟩
          refine ⟨_,rfl,?_⟩
          have n0_:=Aside0.mk (Kd.R_elder' (by (with_reducible repeat (first|apply Kd.R_alloc|apply Kd.R_drewN|apply Kd.R_drew));exact HO_365001.out) (Kd.R_base ho0) hb)
          have n1_:=Aside0.mk (Kd.R_elder' (by (with_reducible repeat (first|apply Kd.R_alloc|apply Kd.R_drewN|apply Kd.R_drew));exact HO_370001.out) (Kd.R_base ho0) hb)
          have n2_:=Aside0.mk (Kd.R_elder' (by (with_reducible repeat (first|apply Kd.R_alloc|apply Kd.R_drewN|apply Kd.R_drew));exact HO_375001.out) (Kd.R_base ho0) hb)
          have n3_:=Aside0.mk (Kd.R_elder' (by (with_reducible repeat (first|apply Kd.R_alloc|apply Kd.R_drewN|apply Kd.R_drew));exact HO_381001.out) (Kd.R_base ho0) hb)
          have n4_:=Aside0.mk (Kd.R_elder' (by (with_reducible repeat (first|apply Kd.R_alloc|apply Kd.R_drewN|apply Kd.R_drew));exact HO403.out) (Kd.R_base ho0) hb)
          have n5_:=Aside0.mk (Kd.R_elder' (by (with_reducible repeat (first|apply Kd.R_alloc|apply Kd.R_drewN|apply Kd.R_drew));exact HO407.out) (Kd.R_base ho0) hb)
          have n6_:=Aside0.mk (Kd.R_lower (Kd.R_new' (Kd.R_new' (Kd.R_new' (Kd.R_new' (Kd.R_new' (Kd.R_new' ho0 (Kd.R_lt (by (with_reducible repeat (first|apply Kd.R_alloc|apply Kd.R_drewN|apply Kd.R_drew));exact HO_365001.out))) (Kd.R_lt (by (with_reducible repeat (first|apply Kd.R_alloc|apply Kd.R_drewN|apply Kd.R_drew));exact HO_370001.out))) (Kd.R_lt (by (with_reducible repeat (first|apply Kd.R_alloc|apply Kd.R_drewN|apply Kd.R_drew));exact HO_375001.out))) (Kd.R_lt (by (with_reducible repeat (first|apply Kd.R_alloc|apply Kd.R_drewN|apply Kd.R_drew));exact HO_381001.out))) (Kd.R_lt (by (with_reducible repeat (first|apply Kd.R_alloc|apply Kd.R_drewN|apply Kd.R_drew));exact HO403.out))) (Kd.R_lt (by (with_reducible repeat (first|apply Kd.R_alloc|apply Kd.R_drewN|apply Kd.R_drew));exact HO407.out))) (below_size (by repeat (first|(with_reducible first|exact HB.out|apply below_alloc|apply pw_below_drewN|apply below_drew1|refine below_set ?_ GE347.out|refine below_set ?_ GE348.out|refine below_set ?_ GE364.out|refine below_set ?_ GE369.out|refine below_set ?_ GE374.out|refine below_set ?_ GE380.out|refine below_set ?_ GE413.out)|exact HB.out))))
          have n7_:=Aside0.mk (blk_below (g:=gb347) (o:=.cells #[.int .i64 a0_0,.slice A0_1 l0_1.length c0_1] 26 (0,0)) (by (with_reducible repeat (first|refine blk_drewN ?_ _|refine blk_drew ?_|refine blk_alloc ?_ _));exact BK347.out) hb)
          have n8_:=Aside0.mk (blk_below (g:=gb348) (o:=.cells #[.int .i64 a1_0,.slice A1_1 l1_1.length c1_1] 26 (0,0)) (by (with_reducible repeat (first|refine blk_drewN ?_ _|refine blk_drew ?_|refine blk_alloc ?_ _));exact BK348.out) hb)
          have n9_:=Aside0.mk (blk_below (g:=gb364) (o:=.cells #[.int .i64 t359,.slice Ao33 t360.length co33] 28 (0,0)) (by (with_reducible repeat (first|refine blk_drewN ?_ _|refine blk_drew ?_|refine blk_alloc ?_ _));exact BK364.out) hb)
          have n10_:=Aside0.mk (blk_below (g:=gb369) (o:=.cells #[.int .i64 t365,.slice Ao44 t393.length co44] 28 (0,0)) (by (with_reducible repeat (first|refine blk_drewN ?_ _|refine blk_drew ?_|refine blk_alloc ?_ _));exact BK369.out) hb)
          have n11_:=Aside0.mk (blk_below (g:=gb374) (o:=.cells #[.int .i64 t370,.slice Ao54 t395.length co54] 28 (0,0)) (by (with_reducible repeat (first|refine blk_drewN ?_ _|refine blk_drew ?_|refine blk_alloc ?_ _));exact BK374.out) hb)
          have n12_:=Aside0.mk (blk_below (g:=gb380) (o:=.cells #[.int .i64 t375,.slice Ao64 t398.length co64] 28 (0,0)) (by (with_reducible repeat (first|refine blk_drewN ?_ _|refine blk_drew ?_|refine blk_alloc ?_ _));exact BK380.out) hb)
          have n13_:=Aside0.mk (blk_below (g:=gb413) (o:=.cells #[.int .i64 0,.slice none 0 0] 28 (0,0)) (by (with_reducible repeat (first|refine blk_drewN ?_ _|refine blk_drew ?_|refine blk_alloc ?_ _));exact BK413.out) hb)
          have n14_:=Aside0.mk (below_step (by repeat (first|(with_reducible first|exact HB.out|apply below_alloc|apply pw_below_drewN|apply below_drew1|refine below_set ?_ GE347.out|refine below_set ?_ GE348.out|refine below_set ?_ GE364.out|refine below_set ?_ GE369.out|refine below_set ?_ GE374.out|refine below_set ?_ GE380.out|refine below_set ?_ GE413.out)|exact HB.out)) hb)
          clear HO_365001
          clear HO_370001
          clear HO_375001
          clear HO_381001
          clear HO403
          clear HO407
          clear BK347
          clear BK348
          clear BK364
          clear BK369
          clear BK374
          clear BK380
          clear BK413
          clear HB
          have HO_365001:=n0_
          have HO_370001:=n1_
          have HO_375001:=n2_
          have HO_381001:=n3_
          have HO403:=n4_
          have HO407:=n5_
          have HO411:=n6_
          have BK347:=n7_
          have BK348:=n8_
          have BK364:=n9_
          have BK369:=n10_
          have BK374:=n11_
          have BK380:=n12_
          have BK413:=n13_
          have HB:=n14_
          clear n0_ n1_ n2_ n3_ n4_ n5_ n6_ n7_ n8_ n9_ n10_ n11_ n12_ n13_ n14_
          (try clear hb)
          (try clear hb2)
          (try clear hk)
          (try clear hi)
          (try clear ho0)
          refine hK.out _ _ ⟨(blk_cell BK347.out 0).trans rfl,(blk_cell BK347.out 1).trans rfl,(blk_cell BK348.out 0).trans rfl,(blk_cell BK348.out 1).trans rfl⟩ (fun hHeld => ?_)
          clear hK K
          refine norm_ (a':=?_) ?_ ?_
          rotate_left
          ·show Act.put _ (some 99) _ = _
           simp only [Act.put,List.setIfInBounds_toArray,List.set_cons_zero,List.set_cons_succ,i64_w,i32_w]
           rfl
          refine pure_ (i:=5) (N:=some 94) (v:=?_) (a':=?_) #[true,true,true,true,true,true,false,false,true,false,false] rfl rfl (any_of HT_.out (by kernel_rfl)) (fun _ _ _ h => h) (Or.inl ⟨by rfl,?_⟩) ?_ ?_
          rotate_left
          ·intro w'
           go_simp
           with_reducible rfl
          rotate_left
          ·simp only [Act.put,List.setIfInBounds_toArray,List.set_cons_zero,List.set_cons_succ,i64_w,i32_w]
           rfl
          refine pure_ (i:=6) (N:=some 100) (v:=?_) (a':=?_) #[true,true,true,true,true,true,true,false,true,false,false] rfl rfl (any_of HT_.out (by kernel_rfl)) (fun _ _ _ h => h) (Or.inl ⟨by rfl,?_⟩) ?_ ?_
          rotate_left
          ·intro w'
           go_simp
           with_reducible rfl
          rotate_left
          ·simp only [Act.put,List.setIfInBounds_toArray,List.set_cons_zero,List.set_cons_succ,i64_w,i32_w]
           rfl
          refine pure_ (i:=7) (N:=some 101) (v:=?_) (a':=?_) #[true,true,true,true,true,true,true,true,true,false,false] rfl rfl (any_of HT_.out (by kernel_rfl)) (fun _ _ _ h => h) (Or.inl ⟨by rfl,?_⟩) ?_ ?_
          rotate_left
          ·intro w'
           go_simp
           with_reducible rfl
          rotate_left
          ·simp only [Act.put,List.setIfInBounds_toArray,List.set_cons_zero,List.set_cons_succ,i64_w,i32_w]
           rfl
          exact norm_ (by simp only [putAll,Act.put,List.setIfInBounds_toArray,List.set_cons_zero,List.set_cons_succ]) (hCont (.slice Ao177 t401.length co177,.slice Ao178 t405.length co178,v410,gb413) _ ⟨hHeld,(by (with_reducible repeat (first|apply Kd.R_alloc|apply Kd.R_drewN|apply Kd.R_drew));exact Kd.R_mono HO403.out (fun _ hk => ⟨hk.1.2,⟨hk.2,⟨hk.1.1.1.1.1.2,⟨hk.1.1.1.1.2,⟨hk.1.1.1.2,hk.1.1.2⟩⟩⟩⟩⟩)),(by (with_reducible repeat (first|apply Kd.R_alloc|apply Kd.R_drewN|apply Kd.R_drew));exact Kd.R_mono HO407.out (fun _ hk => ⟨hk.1.2,⟨hk.2,⟨hk.1.1.1.1.1.2,⟨hk.1.1.1.1.2,⟨hk.1.1.1.2,hk.1.1.2⟩⟩⟩⟩⟩)),(by (with_reducible repeat (first|apply Kd.R_alloc|apply Kd.R_drewN|apply Kd.R_drew));exact Kd.R_mono HO411.out (fun _ hk => ⟨hk.1.2,⟨hk.2,⟨hk.1.1.1.1.1.2,⟨hk.1.1.1.1.2,⟨hk.1.1.1.2,hk.1.1.2⟩⟩⟩⟩⟩)),(by (with_reducible repeat (first|apply Kd.R_alloc|apply Kd.R_drewN|apply Kd.R_drew));exact Kd.R_mono HO_365001.out (fun _ hk => ⟨hk.1.1.2,⟨hk.1.2,⟨hk.2,⟨hk.1.1.1.1,⟨hk.1.1.1.2.1,hk.1.1.1.2.2⟩⟩⟩⟩⟩)),(by (with_reducible repeat (first|apply Kd.R_alloc|apply Kd.R_drewN|apply Kd.R_drew));exact Kd.R_mono HO_370001.out (fun _ hk => ⟨hk.1.1.2,⟨hk.1.2,⟨hk.2,⟨hk.1.1.1.1,⟨hk.1.1.1.2.1,hk.1.1.1.2.2⟩⟩⟩⟩⟩)),(by (with_reducible repeat (first|apply Kd.R_alloc|apply Kd.R_drewN|apply Kd.R_drew));exact Kd.R_mono HO_375001.out (fun _ hk => ⟨hk.1.1.2,⟨hk.1.2,⟨hk.2,⟨hk.1.1.1.1,⟨hk.1.1.1.2.1,hk.1.1.1.2.2⟩⟩⟩⟩⟩)),(by (with_reducible repeat (first|apply Kd.R_alloc|apply Kd.R_drewN|apply Kd.R_drew));exact Kd.R_mono HO_381001.out (fun _ hk => ⟨hk.1.1.2,⟨hk.1.2,⟨hk.2,⟨hk.1.1.1.1,⟨hk.1.1.1.2.1,hk.1.1.1.2.2⟩⟩⟩⟩⟩)),(by (with_reducible repeat (first|refine blk_drewN ?_ _|refine blk_drew ?_|refine blk_alloc ?_ _));exact BK347.out),(by (with_reducible repeat (first|refine blk_drewN ?_ _|refine blk_drew ?_|refine blk_alloc ?_ _));exact BK348.out),(by (with_reducible repeat (first|refine blk_drewN ?_ _|refine blk_drew ?_|refine blk_alloc ?_ _));exact BK364.out),(by (with_reducible repeat (first|refine blk_drewN ?_ _|refine blk_drew ?_|refine blk_alloc ?_ _));exact BK369.out),(by (with_reducible repeat (first|refine blk_drewN ?_ _|refine blk_drew ?_|refine blk_alloc ?_ _));exact BK374.out),(by (with_reducible repeat (first|refine blk_drewN ?_ _|refine blk_drew ?_|refine blk_alloc ?_ _));exact BK380.out),(by (with_reducible repeat (first|refine blk_drewN ?_ _|refine blk_drew ?_|refine blk_alloc ?_ _));exact BK413.out),GW413.out,GE413.out,NB347_413.out,NB413_347.out,NB348_413.out,NB413_348.out,NB364_413.out,NB413_364.out,NB369_413.out,NB413_369.out,NB374_413.out,NB413_374.out,NB380_413.out,NB413_380.out,(by repeat (first|(with_reducible first|exact HB.out|apply below_alloc|apply pw_below_drewN|apply below_drew1|refine below_set ?_ GE347.out|refine below_set ?_ GE348.out|refine below_set ?_ GE364.out|refine below_set ?_ GE369.out|refine below_set ?_ GE374.out|refine below_set ?_ GE380.out|refine below_set ?_ GE413.out)|exact HB.out))⟩)
        rintro ⟨v402,v406,v410,gb413⟩ w180 ⟨hS_,h0_,h1_,h2_,h3_,h4_,h5_,h6_,h7_,h8_,h9_,h10_,h11_,h12_,h13_,h14_,h15_,h16_,h17_,h18_,h19_,h20_,h21_,h22_,h23_,h24_,h25_,h26_,h27_,h28_⟩
        have n0_ : Aside0 (Kd.R (Kd.int .i64) 3 w180 w.heap.size (fun k_ => some k_ ≠ (v406 : Value).ownBlock ∧ some k_ ≠ (v410 : Value).ownBlock ∧ some k_ ≠ (.slice Ao33 t360.length co33 : Value).ownBlock ∧ some k_ ≠ (.slice Ao44 t393.length co44 : Value).ownBlock ∧ some k_ ≠ (.slice Ao54 t395.length co54 : Value).ownBlock ∧ some k_ ≠ (.slice Ao64 t398.length co64 : Value).ownBlock) v402 t401):=⟨h0_⟩
        have n1_ : Aside0 (Kd.R (Kd.int .i64) 3 w180 w.heap.size (fun k_ => some k_ ≠ (v402 : Value).ownBlock ∧ some k_ ≠ (v410 : Value).ownBlock ∧ some k_ ≠ (.slice Ao33 t360.length co33 : Value).ownBlock ∧ some k_ ≠ (.slice Ao44 t393.length co44 : Value).ownBlock ∧ some k_ ≠ (.slice Ao54 t395.length co54 : Value).ownBlock ∧ some k_ ≠ (.slice Ao64 t398.length co64 : Value).ownBlock) v406 t405):=⟨h1_⟩
        have n2_ : Aside0 (Kd.R (Kd.int .i64) 3 w180 w.heap.size (fun k_ => some k_ ≠ (v402 : Value).ownBlock ∧ some k_ ≠ (v406 : Value).ownBlock ∧ some k_ ≠ (.slice Ao33 t360.length co33 : Value).ownBlock ∧ some k_ ≠ (.slice Ao44 t393.length co44 : Value).ownBlock ∧ some k_ ≠ (.slice Ao54 t395.length co54 : Value).ownBlock ∧ some k_ ≠ (.slice Ao64 t398.length co64 : Value).ownBlock) v410 t409):=⟨h2_⟩
        have n3_ : Aside0 (Kd.R (Kd.int .i64) 3 w180 w.heap.size (fun k_ => some k_ ≠ (v402 : Value).ownBlock ∧ some k_ ≠ (v406 : Value).ownBlock ∧ some k_ ≠ (v410 : Value).ownBlock ∧ some k_ ≠ (.slice Ao44 t393.length co44 : Value).ownBlock ∧ some k_ ≠ (.slice Ao54 t395.length co54 : Value).ownBlock ∧ some k_ ≠ (.slice Ao64 t398.length co64 : Value).ownBlock) (.slice Ao33 t360.length co33) t360):=⟨h3_⟩
        have n4_ : Aside0 (Kd.R (Kd.int .i64) 3 w180 w.heap.size (fun k_ => some k_ ≠ (v402 : Value).ownBlock ∧ some k_ ≠ (v406 : Value).ownBlock ∧ some k_ ≠ (v410 : Value).ownBlock ∧ some k_ ≠ (.slice Ao33 t360.length co33 : Value).ownBlock ∧ some k_ ≠ (.slice Ao54 t395.length co54 : Value).ownBlock ∧ some k_ ≠ (.slice Ao64 t398.length co64 : Value).ownBlock) (.slice Ao44 t393.length co44) t393):=⟨h4_⟩
        have n5_ : Aside0 (Kd.R (Kd.int .i64) 3 w180 w.heap.size (fun k_ => some k_ ≠ (v402 : Value).ownBlock ∧ some k_ ≠ (v406 : Value).ownBlock ∧ some k_ ≠ (v410 : Value).ownBlock ∧ some k_ ≠ (.slice Ao33 t360.length co33 : Value).ownBlock ∧ some k_ ≠ (.slice Ao44 t393.length co44 : Value).ownBlock ∧ some k_ ≠ (.slice Ao64 t398.length co64 : Value).ownBlock) (.slice Ao54 t395.length co54) t395):=⟨h5_⟩
        have n6_ : Aside0 (Kd.R (Kd.int .i64) 3 w180 w.heap.size (fun k_ => some k_ ≠ (v402 : Value).ownBlock ∧ some k_ ≠ (v406 : Value).ownBlock ∧ some k_ ≠ (v410 : Value).ownBlock ∧ some k_ ≠ (.slice Ao33 t360.length co33 : Value).ownBlock ∧ some k_ ≠ (.slice Ao44 t393.length co44 : Value).ownBlock ∧ some k_ ≠ (.slice Ao54 t395.length co54 : Value).ownBlock) (.slice Ao64 t398.length co64) t398):=⟨h6_⟩
        have n7_ : Aside0 (w180.heap[gb347]? = some (.cells #[.int .i64 a0_0,.slice A0_1 l0_1.length c0_1] 26 (0,0))):=⟨h7_⟩
        have n8_ : Aside0 (w180.heap[gb348]? = some (.cells #[.int .i64 a1_0,.slice A1_1 l1_1.length c1_1] 26 (0,0))):=⟨h8_⟩
        have n9_ : Aside0 (w180.heap[gb364]? = some (.cells #[.int .i64 t359,.slice Ao33 t360.length co33] 28 (0,0))):=⟨h9_⟩
        have n10_ : Aside0 (w180.heap[gb369]? = some (.cells #[.int .i64 t365,.slice Ao44 t393.length co44] 28 (0,0))):=⟨h10_⟩
        have n11_ : Aside0 (w180.heap[gb374]? = some (.cells #[.int .i64 t370,.slice Ao54 t395.length co54] 28 (0,0))):=⟨h11_⟩
        have n12_ : Aside0 (w180.heap[gb380]? = some (.cells #[.int .i64 t375,.slice Ao64 t398.length co64] 28 (0,0))):=⟨h12_⟩
        have n13_ : Aside0 (w180.heap[gb413]? = some (.cells #[.int .i64 0,.slice none 0 0] 28 (0,0))):=⟨h13_⟩
        have n14_ : Aside0 (w.heap.size ≤ gb413):=⟨h14_⟩
        have n15_ : Aside0 (w.heap.size ≤ gb413):=⟨h15_⟩
        have n16_ : Aside0 (gb347 ≠ gb413):=⟨h16_⟩
        have n17_ : Aside0 (gb413 ≠ gb347):=⟨h17_⟩
        have n18_ : Aside0 (gb348 ≠ gb413):=⟨h18_⟩
        have n19_ : Aside0 (gb413 ≠ gb348):=⟨h19_⟩
        have n20_ : Aside0 (gb364 ≠ gb413):=⟨h20_⟩
        have n21_ : Aside0 (gb413 ≠ gb364):=⟨h21_⟩
        have n22_ : Aside0 (gb369 ≠ gb413):=⟨h22_⟩
        have n23_ : Aside0 (gb413 ≠ gb369):=⟨h23_⟩
        have n24_ : Aside0 (gb374 ≠ gb413):=⟨h24_⟩
        have n25_ : Aside0 (gb413 ≠ gb374):=⟨h25_⟩
        have n26_ : Aside0 (gb380 ≠ gb413):=⟨h26_⟩
        have n27_ : Aside0 (gb413 ≠ gb380):=⟨h27_⟩
        have n28_ : Aside0 (Below w.heap.size w w180):=⟨h28_⟩
        clear HO_365001
        clear HO_370001
        clear HO_375001
        clear HO_381001
        clear BK347
        clear BK348
        clear BK364
        clear BK369
        clear BK374
        clear BK380
        clear HB
        clear h0_ h1_ h2_ h3_ h4_ h5_ h6_ h7_ h8_ h9_ h10_ h11_ h12_ h13_ h14_ h15_ h16_ h17_ h18_ h19_ h20_ h21_ h22_ h23_ h24_ h25_ h26_ h27_ h28_
        have HO403:=n0_
        have HO407:=n1_
        have HO411:=n2_
        have HO_365001:=n3_
        have HO_370001:=n4_
        have HO_375001:=n5_
        have HO_381001:=n6_
        have BK347:=n7_
        have BK348:=n8_
        have BK364:=n9_
        have BK369:=n10_
        have BK374:=n11_
        have BK380:=n12_
        have BK413:=n13_
        have GW413:=n14_
        have GE413:=n15_
        have NB347_413:=n16_
        have NB413_347:=n17_
        have NB348_413:=n18_
        have NB413_348:=n19_
        have NB364_413:=n20_
        have NB413_364:=n21_
        have NB369_413:=n22_
        have NB413_369:=n23_
        have NB374_413:=n24_
        have NB413_374:=n25_
        have NB380_413:=n26_
        have NB413_380:=n27_
        have HB:=n28_
        clear n0_ n1_ n2_ n3_ n4_ n5_ n6_ n7_ n8_ n9_ n10_ n11_ n12_ n13_ n14_ n15_ n16_ n17_ n18_ n19_ n20_ n21_ n22_ n23_ n24_ n25_ n26_ n27_ n28_
        have hHeld : w180.cell? ⟨gb347,0,none⟩ = some (.int .i64 a0_0) ∧ w180.cell? ⟨gb347,1,none⟩ = some (.slice A0_1 l0_1.length c0_1) ∧ w180.cell? ⟨gb348,0,none⟩ = some (.int .i64 a1_0) ∧ w180.cell? ⟨gb348,1,none⟩ = some (.slice A1_1 l1_1.length c1_1):=hS_
        obtain ⟨Ao182,co182,eo182⟩:=Kd.R_slice HO411.out
        (first|subst eo182|(injection eo182 with f1_ f2_ f3_;have f4_:=f1_.symm;have f5_:=f3_.symm;clear f1_ f2_ f3_;subst f4_;subst f5_))
        refine norm_ (a':=?_) ?_ ?_
        rotate_left
        ·simp only [putAll,Act.put,List.setIfInBounds_toArray,List.set_cons_zero,List.set_cons_succ]
         rfl
        refine one_ (i:=9) (N:=none) #[true,true,true,true,true,true,true,true,true,true,false] rfl rfl (one_of HT_.out (by kernel_rfl)) (by decide) (fun K hK => ?_)
        have hs181 : w180.cell? ⟨gb413,0,none⟩ = some (.int .i64 0):=(blk_cell BK413.out 0).trans rfl
        have hfs181:=blk_frozen BK413.out 0
        have hns181_0:=NB347_413.out
        have hns181_1:=NB348_413.out
        have hns181_2:=NB364_413.out
        have hns181_3:=NB369_413.out
        have hns181_4:=NB374_413.out
        have hns181_5:=NB380_413.out
        have hms181_0:=NB413_347.out
        have hms181_1:=NB413_348.out
        have hms181_2:=NB413_364.out
        have hms181_3:=NB413_369.out
        have hms181_4:=NB413_374.out
        have hms181_5:=NB413_380.out
        have hs183 : w180.cell? ⟨gb413,1,none⟩ = some (.slice none 0 0):=(blk_cell BK413.out 1).trans rfl
        have hfs183:=blk_frozen BK413.out 1
        have hns183_0:=NB347_413.out
        have hns183_1:=NB348_413.out
        have hns183_2:=NB364_413.out
        have hns183_3:=NB369_413.out
        have hns183_4:=NB374_413.out
        have hns183_5:=NB380_413.out
        have hms183_0:=NB413_347.out
        have hms183_1:=NB413_348.out
        have hms183_2:=NB413_364.out
        have hms183_3:=NB413_369.out
        have hms183_4:=NB413_374.out
        have hms183_5:=NB413_380.out
        refine skip_ (w1:=?_) (by rfl) rfl ?_ ?_
        rotate_left
        ·go_simp
         rfl
        refine hK.out _ _ ⟨((cell_far (p:=⟨gb413,_,none⟩) NB347_413.out _).trans (((cell_far (p:=⟨gb413,_,none⟩) NB347_413.out _).trans (hHeld.1)))),((cell_far (p:=⟨gb413,_,none⟩) NB347_413.out _).trans (((cell_far (p:=⟨gb413,_,none⟩) NB347_413.out _).trans (hHeld.2.1)))),((cell_far (p:=⟨gb413,_,none⟩) NB348_413.out _).trans (((cell_far (p:=⟨gb413,_,none⟩) NB348_413.out _).trans (hHeld.2.2.1)))),((cell_far (p:=⟨gb413,_,none⟩) NB348_413.out _).trans (((cell_far (p:=⟨gb413,_,none⟩) NB348_413.out _).trans (hHeld.2.2.2))))⟩ (fun hHeld => ?_)
        clear hK K
        refine pure_ (i:=10) (N:=some 16) (v:=?_) (a':=?_) #[true,true,true,true,true,true,true,true,true,true,true] rfl rfl (any_of HT_.out (by kernel_rfl)) (fun _ _ _ h => h) (Or.inl ⟨by rfl,?_⟩) ?_ ?_
        rotate_left
        ·intro w'
         go_simp
         with_reducible rfl
        rotate_left
        ·simp only [Act.put,List.setIfInBounds_toArray,List.set_cons_zero,List.set_cons_succ,i64_w,i32_w]
         rfl
        refine done_ (done_of HT_.out (by kernel_rfl)) ?_
        go_upto_region 32 with (fail)
        go_cut [110] (fun v110 wc => ∃ (kq : Nat) (x110_171 : Bool),v110 = .bool x110_171 ∧ Aside0 (laws_FnExactMulGrades.j10 kq t397 x110_171 t375 t398 = some r) ∧ Aside0 (kq ≤ kj166) ∧ Aside0 (Kd.R (Kd.int .i64) 3 wc w.heap.size (fun k_ => some k_ ≠ ((.slice Ao44 t393.length co44) : Value).ownBlock ∧ some k_ ≠ ((.slice Ao54 t395.length co54) : Value).ownBlock ∧ some k_ ≠ ((.slice Ao64 t398.length co64) : Value).ownBlock ∧ some k_ ≠ ((.slice Ao182 t409.length co182) : Value).ownBlock) (.slice Ao33 t360.length co33) t360) ∧ Aside0 (Kd.R (Kd.int .i64) 3 wc w.heap.size (fun k_ => some k_ ≠ ((.slice Ao33 t360.length co33) : Value).ownBlock ∧ some k_ ≠ ((.slice Ao54 t395.length co54) : Value).ownBlock ∧ some k_ ≠ ((.slice Ao64 t398.length co64) : Value).ownBlock ∧ some k_ ≠ ((.slice Ao182 t409.length co182) : Value).ownBlock) (.slice Ao44 t393.length co44) t393) ∧ Aside0 (Kd.R (Kd.int .i64) 3 wc w.heap.size (fun k_ => some k_ ≠ ((.slice Ao33 t360.length co33) : Value).ownBlock ∧ some k_ ≠ ((.slice Ao44 t393.length co44) : Value).ownBlock ∧ some k_ ≠ ((.slice Ao64 t398.length co64) : Value).ownBlock ∧ some k_ ≠ ((.slice Ao182 t409.length co182) : Value).ownBlock) (.slice Ao54 t395.length co54) t395) ∧ Aside0 (Kd.R (Kd.int .i64) 3 wc w.heap.size (fun k_ => some k_ ≠ ((.slice Ao33 t360.length co33) : Value).ownBlock ∧ some k_ ≠ ((.slice Ao44 t393.length co44) : Value).ownBlock ∧ some k_ ≠ ((.slice Ao54 t395.length co54) : Value).ownBlock ∧ some k_ ≠ ((.slice Ao182 t409.length co182) : Value).ownBlock) (.slice Ao64 t398.length co64) t398) ∧ Aside0 (Kd.R (Kd.int .i64) 3 wc w.heap.size (fun k_ => some k_ ≠ ((.slice Ao33 t360.length co33) : Value).ownBlock ∧ some k_ ≠ ((.slice Ao44 t393.length co44) : Value).ownBlock ∧ some k_ ≠ ((.slice Ao54 t395.length co54) : Value).ownBlock ∧ some k_ ≠ ((.slice Ao64 t398.length co64) : Value).ownBlock) (.slice Ao182 t409.length co182) t409) ∧ Aside0 (wc.heap[gb347]? = some (.cells #[.int .i64 a0_0,(.slice A0_1 l0_1.length c0_1)] 26 (0,0))) ∧ Aside0 (wc.heap[gb348]? = some (.cells #[.int .i64 a1_0,(.slice A1_1 l1_1.length c1_1)] 26 (0,0))) ∧ Aside0 (wc.heap[gb364]? = some (.cells #[.int .i64 t359,(.slice Ao33 t360.length co33)] 28 (0,0))) ∧ Aside0 (wc.heap[gb369]? = some (.cells #[.int .i64 t365,(.slice Ao44 t393.length co44)] 28 (0,0))) ∧ Aside0 (wc.heap[gb374]? = some (.cells #[.int .i64 t370,(.slice Ao54 t395.length co54)] 28 (0,0))) ∧ Aside0 (wc.heap[gb380]? = some (.cells #[.int .i64 t375,(.slice Ao64 t398.length co64)] 28 (0,0))) ∧ Aside0 (wc.heap[gb413]? = some (.cells #[.int .i64 t408,(.slice Ao182 t409.length co182)] 28 (0,0))) ∧ Aside0 (Below w.heap.size w wc))
        case first =>
         have H:=HC172.out
         clear HC172
         replace H:=Option.bind_eq_some_iff.mp H
         obtain ⟨t414,A1840,H⟩:=H
         replace H : (if t414 = true then (laws_FnExactMulGrades.j10 kj166 t397 (t412 != t363) t375 t398) else (laws_FnExactMulGrades.j10 kj166 t397 true t375 t398)) = some r:=H
         have A184:=Aside0.mk A1840
         clear A1840
         by_cases c185 : t414 = true
         ·subst c185
          have H1 : (laws_FnExactMulGrades.j10 kj166 t397 (t412 != t363) t375 t398) = some r:=by rw [if_pos rfl] at H;exact H
          clear H
          have H:=H1
          clear H1
          have H':=Aside0.mk H
          clear H
          have hnb186:=NB413_347.out
          have hnc186:=NB347_413.out
          have hnb187:=NB413_348.out
          have hnc187:=NB348_413.out
          have hnb188:=NB413_364.out
          have hnc188:=NB364_413.out
          have hnb189:=NB413_369.out
          have hnc189:=NB369_413.out
          have hnb190:=NB413_374.out
          have hnc190:=NB374_413.out
          have hnb191:=NB413_380.out
          have hnc191:=NB380_413.out
          have hcz192_0 : w180.cell? ⟨gb413,0,none⟩ = some (.int .i64 0):=(blk_cell BK413.out 0).trans rfl
          have hcz192_1 : w180.cell? ⟨gb413,1,none⟩ = some (.slice none 0 0):=(blk_cell BK413.out 1).trans rfl
          have hfz192_0:=blk_frozen BK413.out 0
          have hfz192_1:=blk_frozen BK413.out 1
          have hnb193:=NB364_347.out
          have hnc193:=NB347_364.out
          have hnb194:=NB364_348.out
          have hnc194:=NB348_364.out
          have hnb195:=NB364_369.out
          have hnc195:=NB369_364.out
          have hnb196:=NB364_374.out
          have hnc196:=NB374_364.out
          have hnb197:=NB364_380.out
          have hnc197:=NB380_364.out
          have hcz198_0 : w180.cell? ⟨gb364,0,none⟩ = some (.int .i64 t359):=(blk_cell BK364.out 0).trans rfl
          have hcz198_1 : w180.cell? ⟨gb364,1,none⟩ = some (.slice Ao33 t360.length co33):=(blk_cell BK364.out 1).trans rfl
          have hfz198_0:=blk_frozen BK364.out 0
          have hfz198_1:=blk_frozen BK364.out 1
          go_wp2_with (first|((with_reducible refine gate_callee (f:=21) rfl ?_);refine goesL_ (some 104) rfl rfl Try.func21 (by kernel_rfl) rfl #[.agg #[.int .i64 t408,.slice Ao182 t409.length co182],.agg #[.int .i64 t359,.slice Ao33 t360.length co33]] rfl (by (try simp only [List.map_toArray,List.map_cons,List.map_nil]);first|done|rfl|(simp only [List.length_drop,List.length_take];rfl)) ?_;(with_reducible refine (laws_eqMatrix.calls kj166 t408 _ _ t409 t359 _ _ t360 true _ ?side1 ?side2 ?side3 ?side4 A184.out).mono ?_);(case side1 => refine (Kd.R_reads' (e:=3) (base:=w.heap.size) (ok:=fun k_ => (some k_ ≠ (v402 : Value).ownBlock ∧ (some k_ ≠ (v406 : Value).ownBlock ∧ (some k_ ≠ (.slice Ao33 t360.length co33 : Value).ownBlock ∧ (some k_ ≠ (.slice Ao44 t393.length co44 : Value).ownBlock ∧ (some k_ ≠ (.slice Ao54 t395.length co54 : Value).ownBlock ∧ some k_ ≠ (.slice Ao64 t398.length co64 : Value).ownBlock)))))) (n:=t409.length) (c:=co182) ?_).2.2;exact (by (with_reducible repeat (first|apply Kd.R_alloc|apply Kd.R_drewN|apply Kd.R_drew));exact (Kd.R_mono (Kd.R_far (p:=⟨gb413,1,none⟩) (Kd.R_far (p:=⟨gb413,0,none⟩) (Kd.R_types HO411.out BK413.out (by decide)) (fun _ hk => hk.2) (.int .i64 t408)) (fun _ hk => hk.2) (.slice Ao182 t409.length co182)) (fun _ h_ => h_.1))));(case side2 => exact (Kd.R_reads' HO411.out).2.1);(case side3 => refine (Kd.R_reads' (e:=3) (base:=w.heap.size) (ok:=fun k_ => (some k_ ≠ (v402 : Value).ownBlock ∧ (some k_ ≠ (v406 : Value).ownBlock ∧ (some k_ ≠ (.slice Ao182 t409.length co182 : Value).ownBlock ∧ (some k_ ≠ (.slice Ao44 t393.length co44 : Value).ownBlock ∧ (some k_ ≠ (.slice Ao54 t395.length co54 : Value).ownBlock ∧ some k_ ≠ (.slice Ao64 t398.length co64 : Value).ownBlock)))))) (n:=t360.length) (c:=co33) ?_).2.2;exact (by (with_reducible repeat (first|apply Kd.R_alloc|apply Kd.R_drewN|apply Kd.R_drew));exact (Kd.R_mono (Kd.R_far (p:=⟨gb413,1,none⟩) (Kd.R_far (p:=⟨gb413,0,none⟩) (Kd.R_types HO_365001.out BK413.out (by decide)) (fun _ hk => hk.2) (.int .i64 t408)) (fun _ hk => hk.2) (.slice Ao182 t409.length co182)) (fun _ h_ => h_.1))));(case side4 => exact (Kd.R_reads' HO_365001.out).2.1);rintro e w199 ⟨rfl,hb⟩;refine ⟨_,rfl,?_⟩;have n0_:=Aside0.mk (Kd.R_below (by (with_reducible repeat (first|apply Kd.R_alloc|apply Kd.R_drewN|apply Kd.R_drew));exact (Kd.R_mono (Kd.R_far (p:=⟨gb413,1,none⟩) (Kd.R_far (p:=⟨gb413,0,none⟩) (Kd.R_types HO_365001.out BK413.out (by decide)) (fun _ hk => hk.2) (.int .i64 t408)) (fun _ hk => hk.2) (.slice Ao182 t409.length co182)) (fun _ h_ => h_.1))) hb);have n1_:=Aside0.mk (Kd.R_below (by (with_reducible repeat (first|apply Kd.R_alloc|apply Kd.R_drewN|apply Kd.R_drew));exact (Kd.R_mono (Kd.R_far (p:=⟨gb413,1,none⟩) (Kd.R_far (p:=⟨gb413,0,none⟩) (Kd.R_types HO_370001.out BK413.out (by decide)) (fun _ hk => hk.2) (.int .i64 t408)) (fun _ hk => hk.2) (.slice Ao182 t409.length co182)) (fun _ h_ => h_.1))) hb);have n2_:=Aside0.mk (Kd.R_below (by (with_reducible repeat (first|apply Kd.R_alloc|apply Kd.R_drewN|apply Kd.R_drew));exact (Kd.R_mono (Kd.R_far (p:=⟨gb413,1,none⟩) (Kd.R_far (p:=⟨gb413,0,none⟩) (Kd.R_types HO_375001.out BK413.out (by decide)) (fun _ hk => hk.2) (.int .i64 t408)) (fun _ hk => hk.2) (.slice Ao182 t409.length co182)) (fun _ h_ => h_.1))) hb);have n3_:=Aside0.mk (Kd.R_below (by (with_reducible repeat (first|apply Kd.R_alloc|apply Kd.R_drewN|apply Kd.R_drew));exact (Kd.R_mono (Kd.R_far (p:=⟨gb413,1,none⟩) (Kd.R_far (p:=⟨gb413,0,none⟩) (Kd.R_types HO_381001.out BK413.out (by decide)) (fun _ hk => hk.2) (.int .i64 t408)) (fun _ hk => hk.2) (.slice Ao182 t409.length co182)) (fun _ h_ => h_.1))) hb);have n4_:=Aside0.mk (Kd.R_below (by (with_reducible repeat (first|apply Kd.R_alloc|apply Kd.R_drewN|apply Kd.R_drew));exact (Kd.R_mono (Kd.R_far (p:=⟨gb413,1,none⟩) (Kd.R_far (p:=⟨gb413,0,none⟩) (Kd.R_types HO403.out BK413.out (by decide)) (fun _ hk => hk.2) (.int .i64 t408)) (fun _ hk => hk.2) (.slice Ao182 t409.length co182)) (fun _ h_ => h_.1))) hb);have n5_:=Aside0.mk (Kd.R_below (by (with_reducible repeat (first|apply Kd.R_alloc|apply Kd.R_drewN|apply Kd.R_drew));exact (Kd.R_mono (Kd.R_far (p:=⟨gb413,1,none⟩) (Kd.R_far (p:=⟨gb413,0,none⟩) (Kd.R_types HO407.out BK413.out (by decide)) (fun _ hk => hk.2) (.int .i64 t408)) (fun _ hk => hk.2) (.slice Ao182 t409.length co182)) (fun _ h_ => h_.1))) hb);have n6_:=Aside0.mk (Kd.R_below (by (with_reducible repeat (first|apply Kd.R_alloc|apply Kd.R_drewN|apply Kd.R_drew));exact (Kd.R_mono (Kd.R_far (p:=⟨gb413,1,none⟩) (Kd.R_far (p:=⟨gb413,0,none⟩) (Kd.R_types HO411.out BK413.out (by decide)) (fun _ hk => hk.2) (.int .i64 t408)) (fun _ hk => hk.2) (.slice Ao182 t409.length co182)) (fun _ h_ => h_.1))) hb);have n7_:=Aside0.mk (blk_below (g:=gb347) (o:=.cells #[.int .i64 a0_0,.slice A0_1 l0_1.length c0_1] 26 (0,0)) (by (with_reducible repeat (first|refine blk_drewN ?_ _|refine blk_drew ?_|refine blk_alloc ?_ _));refine blk_far ?_ NB347_413.out _;(with_reducible repeat (first|refine blk_drewN ?_ _|refine blk_drew ?_|refine blk_alloc ?_ _));refine blk_far ?_ NB347_413.out _;(with_reducible repeat (first|refine blk_drewN ?_ _|refine blk_drew ?_|refine blk_alloc ?_ _));exact BK347.out) hb);have n8_:=Aside0.mk (blk_below (g:=gb348) (o:=.cells #[.int .i64 a1_0,.slice A1_1 l1_1.length c1_1] 26 (0,0)) (by (with_reducible repeat (first|refine blk_drewN ?_ _|refine blk_drew ?_|refine blk_alloc ?_ _));refine blk_far ?_ NB348_413.out _;(with_reducible repeat (first|refine blk_drewN ?_ _|refine blk_drew ?_|refine blk_alloc ?_ _));refine blk_far ?_ NB348_413.out _;(with_reducible repeat (first|refine blk_drewN ?_ _|refine blk_drew ?_|refine blk_alloc ?_ _));exact BK348.out) hb);have n9_:=Aside0.mk (blk_below (g:=gb364) (o:=.cells #[.int .i64 t359,.slice Ao33 t360.length co33] 28 (0,0)) (by (with_reducible repeat (first|refine blk_drewN ?_ _|refine blk_drew ?_|refine blk_alloc ?_ _));refine blk_far ?_ NB364_413.out _;(with_reducible repeat (first|refine blk_drewN ?_ _|refine blk_drew ?_|refine blk_alloc ?_ _));refine blk_far ?_ NB364_413.out _;(with_reducible repeat (first|refine blk_drewN ?_ _|refine blk_drew ?_|refine blk_alloc ?_ _));exact BK364.out) hb);have n10_:=Aside0.mk (blk_below (g:=gb369) (o:=.cells #[.int .i64 t365,.slice Ao44 t393.length co44] 28 (0,0)) (by (with_reducible repeat (first|refine blk_drewN ?_ _|refine blk_drew ?_|refine blk_alloc ?_ _));refine blk_far ?_ NB369_413.out _;(with_reducible repeat (first|refine blk_drewN ?_ _|refine blk_drew ?_|refine blk_alloc ?_ _));refine blk_far ?_ NB369_413.out _;(with_reducible repeat (first|refine blk_drewN ?_ _|refine blk_drew ?_|refine blk_alloc ?_ _));exact BK369.out) hb);have n11_:=Aside0.mk (blk_below (g:=gb374) (o:=.cells #[.int .i64 t370,.slice Ao54 t395.length co54] 28 (0,0)) (by (with_reducible repeat (first|refine blk_drewN ?_ _|refine blk_drew ?_|refine blk_alloc ?_ _));refine blk_far ?_ NB374_413.out _;(with_reducible repeat (first|refine blk_drewN ?_ _|refine blk_drew ?_|refine blk_alloc ?_ _));refine blk_far ?_ NB374_413.out _;(with_reducible repeat (first|refine blk_drewN ?_ _|refine blk_drew ?_|refine blk_alloc ?_ _));exact BK374.out) hb);have n12_:=Aside0.mk (blk_below (g:=gb380) (o:=.cells #[.int .i64 t375,.slice Ao64 t398.length co64] 28 (0,0)) (by (with_reducible repeat (first|refine blk_drewN ?_ _|refine blk_drew ?_|refine blk_alloc ?_ _));refine blk_far ?_ NB380_413.out _;(with_reducible repeat (first|refine blk_drewN ?_ _|refine blk_drew ?_|refine blk_alloc ?_ _));refine blk_far ?_ NB380_413.out _;(with_reducible repeat (first|refine blk_drewN ?_ _|refine blk_drew ?_|refine blk_alloc ?_ _));exact BK380.out) hb);have n13_:=Aside0.mk (blk_below (g:=gb413) (o:=.cells #[.int .i64 t408,.slice Ao182 t409.length co182] 28 (0,0)) (by (with_reducible repeat (first|refine blk_drewN ?_ _|refine blk_drew ?_|refine blk_alloc ?_ _));refine blk_put (cs:=#[.int .i64 t408,.slice none 0 0]) ?_ 1 _ rfl;(with_reducible repeat (first|refine blk_drewN ?_ _|refine blk_drew ?_|refine blk_alloc ?_ _));refine blk_put (cs:=#[.int .i64 0,.slice none 0 0]) ?_ 0 _ rfl;(with_reducible repeat (first|refine blk_drewN ?_ _|refine blk_drew ?_|refine blk_alloc ?_ _));exact BK413.out) hb);have n14_:=Aside0.mk (below_step (by repeat (first|(with_reducible first|exact HB.out|apply below_alloc|apply pw_below_drewN|apply below_drew1|refine below_set ?_ GE347.out|refine below_set ?_ GE348.out|refine below_set ?_ GE364.out|refine below_set ?_ GE369.out|refine below_set ?_ GE374.out|refine below_set ?_ GE380.out|refine below_set ?_ GE413.out)|exact HB.out)) hb);clear HO_365001;clear HO_370001;clear HO_375001;clear HO_381001;clear HO403;clear HO407;clear HO411;clear BK347;clear BK348;clear BK364;clear BK369;clear BK374;clear BK380;clear BK413;clear HB;have HO_365001:=n0_;have HO_370001:=n1_;have HO_375001:=n2_;have HO_381001:=n3_;have HO403:=n4_;have HO407:=n5_;have HO411:=n6_;have BK347:=n7_;have BK348:=n8_;have BK364:=n9_;have BK369:=n10_;have BK374:=n11_;have BK380:=n12_;have BK413:=n13_;have HB:=n14_;clear n0_ n1_ n2_ n3_ n4_ n5_ n6_ n7_ n8_ n9_ n10_ n11_ n12_ n13_ n14_;(try clear hb);(try clear hb2);(try clear hk);(try clear hi)))
          go_meet
          case rel => exact ⟨_,((t412 != t363)),(by first|rfl|(simp;done)|(simp [*];done)),H',⟨by have:=HJ3.out;have:=HJ11.out;have:=HJ22.out;have:=HJ90.out;have:=HJ94.out;have:=HJ102.out;have:=HJ110.out;have:=HJ151.out;have:=HJ155.out;have:=HJ166.out;first|omega|exact Nat.le_refl _⟩,⟨by (try simp only [hl370001_110]);(try simp only [hl375001_110]);(try simp only [hl381001_155]);(with_reducible repeat (first|apply Kd.R_alloc|apply Kd.R_drewN|apply Kd.R_drew));exact Kd.R_mono HO_365001.out (fun _ hk => ⟨hk.2.2.2.1,⟨hk.2.2.2.2.1,⟨hk.2.2.2.2.2,hk.2.2.1⟩⟩⟩)⟩,⟨by (try simp only [hl370001_110]);(try simp only [hl375001_110]);(try simp only [hl381001_155]);(with_reducible repeat (first|apply Kd.R_alloc|apply Kd.R_drewN|apply Kd.R_drew));exact Kd.R_mono HO_370001.out (fun _ hk => ⟨hk.2.2.2.1,⟨hk.2.2.2.2.1,⟨hk.2.2.2.2.2,hk.2.2.1⟩⟩⟩)⟩,⟨by (try simp only [hl370001_110]);(try simp only [hl375001_110]);(try simp only [hl381001_155]);(with_reducible repeat (first|apply Kd.R_alloc|apply Kd.R_drewN|apply Kd.R_drew));exact Kd.R_mono HO_375001.out (fun _ hk => ⟨hk.2.2.2.1,⟨hk.2.2.2.2.1,⟨hk.2.2.2.2.2,hk.2.2.1⟩⟩⟩)⟩,⟨by (try simp only [hl370001_110]);(try simp only [hl375001_110]);(try simp only [hl381001_155]);(with_reducible repeat (first|apply Kd.R_alloc|apply Kd.R_drewN|apply Kd.R_drew));exact Kd.R_mono HO_381001.out (fun _ hk => ⟨hk.2.2.2.1,⟨hk.2.2.2.2.1,⟨hk.2.2.2.2.2,hk.2.2.1⟩⟩⟩)⟩,⟨by (try simp only [hl370001_110]);(try simp only [hl375001_110]);(try simp only [hl381001_155]);(with_reducible repeat (first|apply Kd.R_alloc|apply Kd.R_drewN|apply Kd.R_drew));exact Kd.R_mono HO411.out (fun _ hk => ⟨hk.2.2.1,⟨hk.2.2.2.1,⟨hk.2.2.2.2.1,hk.2.2.2.2.2⟩⟩⟩)⟩,⟨by (try simp only [hl370001_110]);(try simp only [hl375001_110]);(try simp only [hl381001_155]);(with_reducible repeat (first|refine blk_drewN ?_ _|refine blk_drew ?_|refine blk_alloc ?_ _));exact BK347.out⟩,⟨by (try simp only [hl370001_110]);(try simp only [hl375001_110]);(try simp only [hl381001_155]);(with_reducible repeat (first|refine blk_drewN ?_ _|refine blk_drew ?_|refine blk_alloc ?_ _));exact BK348.out⟩,⟨by (try simp only [hl370001_110]);(try simp only [hl375001_110]);(try simp only [hl381001_155]);(with_reducible repeat (first|refine blk_drewN ?_ _|refine blk_drew ?_|refine blk_alloc ?_ _));exact BK364.out⟩,⟨by (try simp only [hl370001_110]);(try simp only [hl375001_110]);(try simp only [hl381001_155]);(with_reducible repeat (first|refine blk_drewN ?_ _|refine blk_drew ?_|refine blk_alloc ?_ _));exact BK369.out⟩,⟨by (try simp only [hl370001_110]);(try simp only [hl375001_110]);(try simp only [hl381001_155]);(with_reducible repeat (first|refine blk_drewN ?_ _|refine blk_drew ?_|refine blk_alloc ?_ _));exact BK374.out⟩,⟨by (try simp only [hl370001_110]);(try simp only [hl375001_110]);(try simp only [hl381001_155]);(with_reducible repeat (first|refine blk_drewN ?_ _|refine blk_drew ?_|refine blk_alloc ?_ _));exact BK380.out⟩,⟨by (try simp only [hl370001_110]);(try simp only [hl375001_110]);(try simp only [hl381001_155]);(with_reducible repeat (first|refine blk_drewN ?_ _|refine blk_drew ?_|refine blk_alloc ?_ _));exact BK413.out⟩,⟨by repeat (first|(with_reducible first|exact HB.out|apply below_alloc|apply pw_below_drewN|apply below_drew1|refine below_set ?_ GE347.out|refine below_set ?_ GE348.out|refine below_set ?_ GE364.out|refine below_set ?_ GE369.out|refine below_set ?_ GE374.out|refine below_set ?_ GE380.out|refine below_set ?_ GE413.out)|exact HB.out)⟩⟩
         ·replace c185:=Bool.eq_false_iff.mpr c185
          subst c185
          have H1 : (laws_FnExactMulGrades.j10 kj166 t397 true t375 t398) = some r:=by rw [if_neg (show ¬ (false = true) by decide)] at H;exact H
          clear H
          have H:=H1
          clear H1
          have H':=Aside0.mk H
          clear H
          have hnb200:=NB413_347.out
          have hnc200:=NB347_413.out
          have hnb201:=NB413_348.out
          have hnc201:=NB348_413.out
          have hnb202:=NB413_364.out
          have hnc202:=NB364_413.out
          have hnb203:=NB413_369.out
          have hnc203:=NB369_413.out
          have hnb204:=NB413_374.out
          have hnc204:=NB374_413.out
          have hnb205:=NB413_380.out
          have hnc205:=NB380_413.out
          have hcz206_0 : w180.cell? ⟨gb413,0,none⟩ = some (.int .i64 0):=(blk_cell BK413.out 0).trans rfl
          have hcz206_1 : w180.cell? ⟨gb413,1,none⟩ = some (.slice none 0 0):=(blk_cell BK413.out 1).trans rfl
          have hfz206_0:=blk_frozen BK413.out 0
          have hfz206_1:=blk_frozen BK413.out 1
          have hnb207:=NB364_347.out
          have hnc207:=NB347_364.out
          have hnb208:=NB364_348.out
          have hnc208:=NB348_364.out
          have hnb209:=NB364_369.out
          have hnc209:=NB369_364.out
          have hnb210:=NB364_374.out
          have hnc210:=NB374_364.out
          have hnb211:=NB364_380.out
          have hnc211:=NB380_364.out
          have hcz212_0 : w180.cell? ⟨gb364,0,none⟩ = some (.int .i64 t359):=(blk_cell BK364.out 0).trans rfl
          have hcz212_1 : w180.cell? ⟨gb364,1,none⟩ = some (.slice Ao33 t360.length co33):=(blk_cell BK364.out 1).trans rfl
          have hfz212_0:=blk_frozen BK364.out 0
          have hfz212_1:=blk_frozen BK364.out 1
          go_wp2_with (first|((with_reducible refine gate_callee (f:=21) rfl ?_);refine goesL_ (some 104) rfl rfl Try.func21 (by kernel_rfl) rfl #[.agg #[.int .i64 t408,.slice Ao182 t409.length co182],.agg #[.int .i64 t359,.slice Ao33 t360.length co33]] rfl (by (try simp only [List.map_toArray,List.map_cons,List.map_nil]);first|done|rfl|(simp only [List.length_drop,List.length_take];rfl)) ?_;(with_reducible refine (laws_eqMatrix.calls kj166 t408 _ _ t409 t359 _ _ t360 false _ ?side1 ?side2 ?side3 ?side4 A184.out).mono ?_);(case side1 => refine (Kd.R_reads' (e:=3) (base:=w.heap.size) (ok:=fun k_ => (some k_ ≠ (v402 : Value).ownBlock ∧ (some k_ ≠ (v406 : Value).ownBlock ∧ (some k_ ≠ (.slice Ao33 t360.length co33 : Value).ownBlock ∧ (some k_ ≠ (.slice Ao44 t393.length co44 : Value).ownBlock ∧ (some k_ ≠ (.slice Ao54 t395.length co54 : Value).ownBlock ∧ some k_ ≠ (.slice Ao64 t398.length co64 : Value).ownBlock)))))) (n:=t409.length) (c:=co182) ?_).2.2;exact (by (with_reducible repeat (first|apply Kd.R_alloc|apply Kd.R_drewN|apply Kd.R_drew));exact (Kd.R_mono (Kd.R_far (p:=⟨gb413,1,none⟩) (Kd.R_far (p:=⟨gb413,0,none⟩) (Kd.R_types HO411.out BK413.out (by decide)) (fun _ hk => hk.2) (.int .i64 t408)) (fun _ hk => hk.2) (.slice Ao182 t409.length co182)) (fun _ h_ => h_.1))));(case side2 => exact (Kd.R_reads' HO411.out).2.1);(case side3 => refine (Kd.R_reads' (e:=3) (base:=w.heap.size) (ok:=fun k_ => (some k_ ≠ (v402 : Value).ownBlock ∧ (some k_ ≠ (v406 : Value).ownBlock ∧ (some k_ ≠ (.slice Ao182 t409.length co182 : Value).ownBlock ∧ (some k_ ≠ (.slice Ao44 t393.length co44 : Value).ownBlock ∧ (some k_ ≠ (.slice Ao54 t395.length co54 : Value).ownBlock ∧ some k_ ≠ (.slice Ao64 t398.length co64 : Value).ownBlock)))))) (n:=t360.length) (c:=co33) ?_).2.2;exact (by (with_reducible repeat (first|apply Kd.R_alloc|apply Kd.R_drewN|apply Kd.R_drew));exact (Kd.R_mono (Kd.R_far (p:=⟨gb413,1,none⟩) (Kd.R_far (p:=⟨gb413,0,none⟩) (Kd.R_types HO_365001.out BK413.out (by decide)) (fun _ hk => hk.2) (.int .i64 t408)) (fun _ hk => hk.2) (.slice Ao182 t409.length co182)) (fun _ h_ => h_.1))));(case side4 => exact (Kd.R_reads' HO_365001.out).2.1);rintro e w213 ⟨rfl,hb⟩;refine ⟨_,rfl,?_⟩;have n0_:=Aside0.mk (Kd.R_below (by (with_reducible repeat (first|apply Kd.R_alloc|apply Kd.R_drewN|apply Kd.R_drew));exact (Kd.R_mono (Kd.R_far (p:=⟨gb413,1,none⟩) (Kd.R_far (p:=⟨gb413,0,none⟩) (Kd.R_types HO_365001.out BK413.out (by decide)) (fun _ hk => hk.2) (.int .i64 t408)) (fun _ hk => hk.2) (.slice Ao182 t409.length co182)) (fun _ h_ => h_.1))) hb);have n1_:=Aside0.mk (Kd.R_below (by (with_reducible repeat (first|apply Kd.R_alloc|apply Kd.R_drewN|apply Kd.R_drew));exact (Kd.R_mono (Kd.R_far (p:=⟨gb413,1,none⟩) (Kd.R_far (p:=⟨gb413,0,none⟩) (Kd.R_types HO_370001.out BK413.out (by decide)) (fun _ hk => hk.2) (.int .i64 t408)) (fun _ hk => hk.2) (.slice Ao182 t409.length co182)) (fun _ h_ => h_.1))) hb);have n2_:=Aside0.mk (Kd.R_below (by (with_reducible repeat (first|apply Kd.R_alloc|apply Kd.R_drewN|apply Kd.R_drew));exact (Kd.R_mono (Kd.R_far (p:=⟨gb413,1,none⟩) (Kd.R_far (p:=⟨gb413,0,none⟩) (Kd.R_types HO_375001.out BK413.out (by decide)) (fun _ hk => hk.2) (.int .i64 t408)) (fun _ hk => hk.2) (.slice Ao182 t409.length co182)) (fun _ h_ => h_.1))) hb);have n3_:=Aside0.mk (Kd.R_below (by (with_reducible repeat (first|apply Kd.R_alloc|apply Kd.R_drewN|apply Kd.R_drew));exact (Kd.R_mono (Kd.R_far (p:=⟨gb413,1,none⟩) (Kd.R_far (p:=⟨gb413,0,none⟩) (Kd.R_types HO_381001.out BK413.out (by decide)) (fun _ hk => hk.2) (.int .i64 t408)) (fun _ hk => hk.2) (.slice Ao182 t409.length co182)) (fun _ h_ => h_.1))) hb);have n4_:=Aside0.mk (Kd.R_below (by (with_reducible repeat (first|apply Kd.R_alloc|apply Kd.R_drewN|apply Kd.R_drew));exact (Kd.R_mono (Kd.R_far (p:=⟨gb413,1,none⟩) (Kd.R_far (p:=⟨gb413,0,none⟩) (Kd.R_types HO403.out BK413.out (by decide)) (fun _ hk => hk.2) (.int .i64 t408)) (fun _ hk => hk.2) (.slice Ao182 t409.length co182)) (fun _ h_ => h_.1))) hb);have n5_:=Aside0.mk (Kd.R_below (by (with_reducible repeat (first|apply Kd.R_alloc|apply Kd.R_drewN|apply Kd.R_drew));exact (Kd.R_mono (Kd.R_far (p:=⟨gb413,1,none⟩) (Kd.R_far (p:=⟨gb413,0,none⟩) (Kd.R_types HO407.out BK413.out (by decide)) (fun _ hk => hk.2) (.int .i64 t408)) (fun _ hk => hk.2) (.slice Ao182 t409.length co182)) (fun _ h_ => h_.1))) hb);have n6_:=Aside0.mk (Kd.R_below (by (with_reducible repeat (first|apply Kd.R_alloc|apply Kd.R_drewN|apply Kd.R_drew));exact (Kd.R_mono (Kd.R_far (p:=⟨gb413,1,none⟩) (Kd.R_far (p:=⟨gb413,0,none⟩) (Kd.R_types HO411.out BK413.out (by decide)) (fun _ hk => hk.2) (.int .i64 t408)) (fun _ hk => hk.2) (.slice Ao182 t409.length co182)) (fun _ h_ => h_.1))) hb);have n7_:=Aside0.mk (blk_below (g:=gb347) (o:=.cells #[.int .i64 a0_0,.slice A0_1 l0_1.length c0_1] 26 (0,0)) (by (with_reducible repeat (first|refine blk_drewN ?_ _|refine blk_drew ?_|refine blk_alloc ?_ _));refine blk_far ?_ NB347_413.out _;(with_reducible repeat (first|refine blk_drewN ?_ _|refine blk_drew ?_|refine blk_alloc ?_ _));refine blk_far ?_ NB347_413.out _;(with_reducible repeat (first|refine blk_drewN ?_ _|refine blk_drew ?_|refine blk_alloc ?_ _));exact BK347.out) hb);have n8_:=Aside0.mk (blk_below (g:=gb348) (o:=.cells #[.int .i64 a1_0,.slice A1_1 l1_1.length c1_1] 26 (0,0)) (by (with_reducible repeat (first|refine blk_drewN ?_ _|refine blk_drew ?_|refine blk_alloc ?_ _));refine blk_far ?_ NB348_413.out _;(with_reducible repeat (first|refine blk_drewN ?_ _|refine blk_drew ?_|refine blk_alloc ?_ _));refine blk_far ?_ NB348_413.out _;(with_reducible repeat (first|refine blk_drewN ?_ _|refine blk_drew ?_|refine blk_alloc ?_ _));exact BK348.out) hb);have n9_:=Aside0.mk (blk_below (g:=gb364) (o:=.cells #[.int .i64 t359,.slice Ao33 t360.length co33] 28 (0,0)) (by (with_reducible repeat (first|refine blk_drewN ?_ _|refine blk_drew ?_|refine blk_alloc ?_ _));refine blk_far ?_ NB364_413.out _;(with_reducible repeat (first|refine blk_drewN ?_ _|refine blk_drew ?_|refine blk_alloc ?_ _));refine blk_far ?_ NB364_413.out _;(with_reducible repeat (first|refine blk_drewN ?_ _|refine blk_drew ?_|refine blk_alloc ?_ _));exact BK364.out) hb);have n10_:=Aside0.mk (blk_below (g:=gb369) (o:=.cells #[.int .i64 t365,.slice Ao44 t393.length co44] 28 (0,0)) (by (with_reducible repeat (first|refine blk_drewN ?_ _|refine blk_drew ?_|refine blk_alloc ?_ _));refine blk_far ?_ NB369_413.out _;(with_reducible repeat (first|refine blk_drewN ?_ _|refine blk_drew ?_|refine blk_alloc ?_ _));refine blk_far ?_ NB369_413.out _;(with_reducible repeat (first|refine blk_drewN ?_ _|refine blk_drew ?_|refine blk_alloc ?_ _));exact BK369.out) hb);have n11_:=Aside0.mk (blk_below (g:=gb374) (o:=.cells #[.int .i64 t370,.slice Ao54 t395.length co54] 28 (0,0)) (by (with_reducible repeat (first|refine blk_drewN ?_ _|refine blk_drew ?_|refine blk_alloc ?_ _));refine blk_far ?_ NB374_413.out _;(with_reducible repeat (first|refine blk_drewN ?_ _|refine blk_drew ?_|refine blk_alloc ?_ _));refine blk_far ?_ NB374_413.out _;(with_reducible repeat (first|refine blk_drewN ?_ _|refine blk_drew ?_|refine blk_alloc ?_ _));exact BK374.out) hb);have n12_:=Aside0.mk (blk_below (g:=gb380) (o:=.cells #[.int .i64 t375,.slice Ao64 t398.length co64] 28 (0,0)) (by (with_reducible repeat (first|refine blk_drewN ?_ _|refine blk_drew ?_|refine blk_alloc ?_ _));refine blk_far ?_ NB380_413.out _;(with_reducible repeat (first|refine blk_drewN ?_ _|refine blk_drew ?_|refine blk_alloc ?_ _));refine blk_far ?_ NB380_413.out _;(with_reducible repeat (first|refine blk_drewN ?_ _|refine blk_drew ?_|refine blk_alloc ?_ _));exact BK380.out) hb);have n13_:=Aside0.mk (blk_below (g:=gb413) (o:=.cells #[.int .i64 t408,.slice Ao182 t409.length co182] 28 (0,0)) (by (with_reducible repeat (first|refine blk_drewN ?_ _|refine blk_drew ?_|refine blk_alloc ?_ _));refine blk_put (cs:=#[.int .i64 t408,.slice none 0 0]) ?_ 1 _ rfl;(with_reducible repeat (first|refine blk_drewN ?_ _|refine blk_drew ?_|refine blk_alloc ?_ _));refine blk_put (cs:=#[.int .i64 0,.slice none 0 0]) ?_ 0 _ rfl;(with_reducible repeat (first|refine blk_drewN ?_ _|refine blk_drew ?_|refine blk_alloc ?_ _));exact BK413.out) hb);have n14_:=Aside0.mk (below_step (by repeat (first|(with_reducible first|exact HB.out|apply below_alloc|apply pw_below_drewN|apply below_drew1|refine below_set ?_ GE347.out|refine below_set ?_ GE348.out|refine below_set ?_ GE364.out|refine below_set ?_ GE369.out|refine below_set ?_ GE374.out|refine below_set ?_ GE380.out|refine below_set ?_ GE413.out)|exact HB.out)) hb);clear HO_365001;clear HO_370001;clear HO_375001;clear HO_381001;clear HO403;clear HO407;clear HO411;clear BK347;clear BK348;clear BK364;clear BK369;clear BK374;clear BK380;clear BK413;clear HB;have HO_365001:=n0_;have HO_370001:=n1_;have HO_375001:=n2_;have HO_381001:=n3_;have HO403:=n4_;have HO407:=n5_;have HO411:=n6_;have BK347:=n7_;have BK348:=n8_;have BK364:=n9_;have BK369:=n10_;have BK374:=n11_;have BK380:=n12_;have BK413:=n13_;have HB:=n14_;clear n0_ n1_ n2_ n3_ n4_ n5_ n6_ n7_ n8_ n9_ n10_ n11_ n12_ n13_ n14_;(try clear hb);(try clear hb2);(try clear hk);(try clear hi)))
          go_meet
          case rel => exact ⟨_,(true),(by first|rfl|(simp;done)|(simp [*];done)),H',⟨by have:=HJ3.out;have:=HJ11.out;have:=HJ22.out;have:=HJ90.out;have:=HJ94.out;have:=HJ102.out;have:=HJ110.out;have:=HJ151.out;have:=HJ155.out;have:=HJ166.out;first|omega|exact Nat.le_refl _⟩,⟨by (try simp only [hl370001_110]);(try simp only [hl375001_110]);(try simp only [hl381001_155]);(with_reducible repeat (first|apply Kd.R_alloc|apply Kd.R_drewN|apply Kd.R_drew));exact Kd.R_mono HO_365001.out (fun _ hk => ⟨hk.2.2.2.1,⟨hk.2.2.2.2.1,⟨hk.2.2.2.2.2,hk.2.2.1⟩⟩⟩)⟩,⟨by (try simp only [hl370001_110]);(try simp only [hl375001_110]);(try simp only [hl381001_155]);(with_reducible repeat (first|apply Kd.R_alloc|apply Kd.R_drewN|apply Kd.R_drew));exact Kd.R_mono HO_370001.out (fun _ hk => ⟨hk.2.2.2.1,⟨hk.2.2.2.2.1,⟨hk.2.2.2.2.2,hk.2.2.1⟩⟩⟩)⟩,⟨by (try simp only [hl370001_110]);(try simp only [hl375001_110]);(try simp only [hl381001_155]);(with_reducible repeat (first|apply Kd.R_alloc|apply Kd.R_drewN|apply Kd.R_drew));exact Kd.R_mono HO_375001.out (fun _ hk => ⟨hk.2.2.2.1,⟨hk.2.2.2.2.1,⟨hk.2.2.2.2.2,hk.2.2.1⟩⟩⟩)⟩,⟨by (try simp only [hl370001_110]);(try simp only [hl375001_110]);(try simp only [hl381001_155]);(with_reducible repeat (first|apply Kd.R_alloc|apply Kd.R_drewN|apply Kd.R_drew));exact Kd.R_mono HO_381001.out (fun _ hk => ⟨hk.2.2.2.1,⟨hk.2.2.2.2.1,⟨hk.2.2.2.2.2,hk.2.2.1⟩⟩⟩)⟩,⟨by (try simp only [hl370001_110]);(try simp only [hl375001_110]);(try simp only [hl381001_155]);(with_reducible repeat (first|apply Kd.R_alloc|apply Kd.R_drewN|apply Kd.R_drew));exact Kd.R_mono HO411.out (fun _ hk => ⟨hk.2.2.1,⟨hk.2.2.2.1,⟨hk.2.2.2.2.1,hk.2.2.2.2.2⟩⟩⟩)⟩,⟨by (try simp only [hl370001_110]);(try simp only [hl375001_110]);(try simp only [hl381001_155]);(with_reducible repeat (first|refine blk_drewN ?_ _|refine blk_drew ?_|refine blk_alloc ?_ _));exact BK347.out⟩,⟨by (try simp only [hl370001_110]);(try simp only [hl375001_110]);(try simp only [hl381001_155]);(with_reducible repeat (first|refine blk_drewN ?_ _|refine blk_drew ?_|refine blk_alloc ?_ _));exact BK348.out⟩,⟨by (try simp only [hl370001_110]);(try simp only [hl375001_110]);(try simp only [hl381001_155]);(with_reducible repeat (first|refine blk_drewN ?_ _|refine blk_drew ?_|refine blk_alloc ?_ _));exact BK364.out⟩,⟨by (try simp only [hl370001_110]);(try simp only [hl375001_110]);(try simp only [hl381001_155]);(with_reducible repeat (first|refine blk_drewN ?_ _|refine blk_drew ?_|refine blk_alloc ?_ _));exact BK369.out⟩,⟨by (try simp only [hl370001_110]);(try simp only [hl375001_110]);(try simp only [hl381001_155]);(with_reducible repeat (first|refine blk_drewN ?_ _|refine blk_drew ?_|refine blk_alloc ?_ _));exact BK374.out⟩,⟨by (try simp only [hl370001_110]);(try simp only [hl375001_110]);(try simp only [hl381001_155]);(with_reducible repeat (first|refine blk_drewN ?_ _|refine blk_drew ?_|refine blk_alloc ?_ _));exact BK380.out⟩,⟨by (try simp only [hl370001_110]);(try simp only [hl375001_110]);(try simp only [hl381001_155]);(with_reducible repeat (first|refine blk_drewN ?_ _|refine blk_drew ?_|refine blk_alloc ?_ _));exact BK413.out⟩,⟨by repeat (first|(with_reducible first|exact HB.out|apply below_alloc|apply pw_below_drewN|apply below_drew1|refine below_set ?_ GE347.out|refine below_set ?_ GE348.out|refine below_set ?_ GE364.out|refine below_set ?_ GE369.out|refine below_set ?_ GE374.out|refine below_set ?_ GE380.out|refine below_set ?_ GE413.out)|exact HB.out)⟩⟩
        case rest =>
         rename_i zz1_0 zz1_1 zz1_2 zz1_3 zz1_4 zz1_5 zz1_6 zz1_7 zz1_8 zz1_9 zz1_10 zz1_11 zz1_12 zz1_13 zz1_14 zz1_15 zz1_16 zz1_17 zz1_18 zz1_19 zz1_20 zz1_21 zz1_22 zz1_23 zz1_24 zz1_25 zz1_26 zz1_27 zz1_28 zz1_29 zz1_30 zz1_31 zz1_32 zz1_33 zz1_34 zz1_35 zz1_36 zz1_37 zz1_38 zz1_39 zz1_40 zz1_41 zz1_42 zz1_43 zz1_44 zz1_45 zz1_46 zz1_47 zz1_48 zz1_49 zz1_50 zz1_51 zz1_52 zz1_53 zz1_54 zz1_55 zz1_56 zz1_57 zz1_58 zz1_59 zz1_60 zz1_61 zz1_62 zz1_63 zz1_64 zz1_65 zz1_66 zz1_67 zz1_68 zz1_69 zz1_70 zz1_71 zz1_72 zz1_73 zz1_74 zz1_75 zz1_76 zz1_77 zz1_78 zz1_79 zz1_80 zz1_81 zz1_82 zz1_83 zz1_84 zz1_85 zz1_86 zz1_87 zz1_88 zz1_89 zz1_90 zz1_91 zz1_92 zz1_93 zz1_94 zz1_95 zz1_96 zz1_97 zz1_98 zz1_99 zz1_100 zz1_101 zz1_102 zz1_103 zz1_104 zz1_105 zz1_106 zz1_107 zz1_108 zz1_109 zz1_110 zz1_111 zz1_112 zz1_113 zz1_114 zz1_115 zz1_116 zz1_117 zz1_118 zz1_119 zz1_120 zz1_121 zz1_122 zz1_123 zz1_124 zz1_125 zz1_126 zz1_127 zz1_128 zz1_129 zz1_130 zz1_131 zz1_132 zz1_133 zz1_134 zz1_135 zz1_136 zz1_137 zz1_138 zz1_139 zz1_140 zz1_141 zz1_142 zz1_143 zz1_144 zz1_145 zz1_146 zz1_147 zz1_148 zz1_149 zz1_150 zz1_151 zz1_152 zz1_153 zz1_154 zz1_155 zz1_156 zz1_157 zz1_158 zz1_159 zz1_160 zz1_161 zz1_162 zz1_163 zz1_164 zz1_165 zz1_166 zz1_167 zz1_168 zz1_169 zz1_170 zz1_171 zz1_172 zz1_173 zz1_174 zz1_175 zz1_176 zz1_177 zz1_178 zz1_179 zz1_180 zz1_181 zz1_182 zz1_183 zz1_184 zz1_185 zz1_186 zz1_187 zz1_188 zz1_189 zz1_190 zz1_191 zz1_192 zz1_193 zz1_194 zz1_195 zz1_196 zz1_197 zz1_198 zz1_199 zz1_200 zz1_201 zz1_202 zz1_203 zz1_204 zz1_205 zz1_206 zz1_207 zz1_208 zz1_209 zz1_210 zz1_211 zz1_212 zz1_213 zz1_214 zz1_215 zz1_216 zz1_217 zz1_218 zz1_219 zz1_220 zz1_221 zz1_222 zz1_223 zz1_224 zz1_225 zz1_226 zz1_227 zz1_228 zz1_229 zz1_230 zz1_231 zz1_232 zz1_233 zz1_234 zz1_235 zz1_236 zz1_237 zz1_238 zz1_239 zz1_240 zz1_241 zz1_242 zz1_243 zz1_244 zz1_245 zz1_246 zz1_247 zz1_248 zz1_249 zz1_250 zz1_251 zz1_252 zz1_253 zz1_254 zz1_255 zz1_256 zz1_257 zz1_258 zz1_259 zz1_260 zz1_261 zz1_262 zz1_263 zz1_264 zz1_265 zz1_266 zz1_267 zz1_268 zz1_269 zz1_270 zz1_271 zz1_272 zz1_273 zz1_274 zz1_275 zz1_276 zz1_277 zz1_278 zz1_279 zz1_280 zz1_281 zz1_282 zz1_283 zz1_284 zz1_285 zz1_286 zz1_287 zz1_288 zz1_289 zz1_290 zz1_291 zz1_292 zz1_293 zz1_294 zz1_295 zz1_296 zz1_297 zz1_298 zz1_299 zz1_300 zz1_301 zz1_302 zz1_303 zz1_304 zz1_305 zz1_306 zz1_307 zz1_308 zz1_309 zz1_310 zz1_311 zz1_312 zz1_313 zz1_314 zz1_315 zz1_316 zz1_317 zz1_318 zz1_319 zz1_320 zz1_321 zz1_322 zz1_323 zz1_324 zz1_325 zz1_326 zz1_327 zz1_328 zz1_329 zz1_330 zz1_331 zz1_332 zz1_333 zz1_334 zz1_335 zz1_336 zz1_337 zz1_338 zz1_339 zz1_340 zz1_341 zz1_342 zz1_343 zz1_344 zz1_345 zz1_346 zz1_347 zz1_348 zz1_349 zz1_350 zz1_351 zz1_352 zz1_353 zz1_354 zz1_355 zz1_356 zz1_357 zz1_358 zz1_359 zz1_360 zz1_361 zz1_362 zz1_363 zz1_364 zz1_365 zz1_366 zz1_367 zz1_368 zz1_369 zz1_370 zz1_371 zz1_372 zz1_373 zz1_374 zz1_375 zz1_376 zz1_377 zz1_378 zz1_379 zz1_380 zz1_381 zz1_382 zz1_383 zz1_384 zz1_385 zz1_386 zz1_387 zz1_388 zz1_389 zz1_390 zz1_391 zz1_392 zz1_393 zz1_394 zz1_395 zz1_396 zz1_397 zz1_398 zz1_399 zz1_400 zz1_401 zz1_402 zz1_403 zz1_404 zz1_405 zz1_406 zz1_407 zz1_408 zz1_409 zz1_410 zz1_411 zz1_412 zz1_413 zz1_414 zz1_415 zz1_416 zz1_417 zz1_418 zz1_419 zz1_420 zz1_421 zz1_422 zz1_423 zz1_424 zz1_425 zz1_426 zz1_427 zz1_428 zz1_429 zz1_430 zz1_431 zz1_432 zz1_433 zz1_434 zz1_435 zz1_436 zz1_437 zz1_438 zz1_439 zz1_440 zz1_441 zz1_442 zz1_443 zz1_444 zz1_445 zz1_446 zz1_447 zz1_448 zz1_449 zz1_450 zz1_451 zz1_452 zz1_453 zz1_454 zz1_455 zz1_456 zz1_457 zz1_458 zz1_459 zz1_460 zz1_461 zz1_462 zz1_463 zz1_464 zz1_465 zz1_466 zz1_467
         revert hu26 hu28 HR0_1 HC0_1 HR1_1 HC1_1 t349 A3 zz0_0 gb347 w5 GW347 GE347 gb348 w6 GW348 GE348 NB347_348 NB348_347 hnb7 hnc7 w9 zz0_1 zz0_2 zz0_3 zz0_4 kj3 HJ3 t350 A11 hnb13 hnc13 w15 zz0_108 zz0_109 zz0_110 zz0_111 kj11 HJ11 t351 t352 A17 t355 t356 A18 t359 t360 t363 A19 t365 t366 A20 t370 t371 A21 t375 t376 t379 A22 zz1_0 zz1_1 w24 zz0_215 v353 v357 gb364 w31 zz1_2 GW364 GE364 NB347_364 NB364_347 NB348_364 NB364_348 zz0_216 Ao33 co33 hs32 hfs32 hns32_0 hns32_1 hms32_0 hms32_1 hs34 hfs34 hns34_0 hns34_1 hms34_0 hms34_1 zz0_217 hnb35 hnc35 hnb36 hnc36 w38 gb369 w39 GW369 GE369 NB347_369 NB369_347 NB348_369 NB369_348 NB364_369 NB369_364 hnb40 hnc40 hnb41 hnc41 hnb42 hnc42 Ao44 co44 hnb45 hnc45 w47 gb374 w48 GW374 GE374 NB347_374 NB374_347 NB348_374 NB374_348 NB364_374 NB374_364 NB369_374 NB374_369 hnb49 hnc49 hnb50 hnc50 hnb51 hnc51 hnb52 hnc52 Ao54 co54 w56 gb380 w57 zz0_218 zz0_219 zz0_220 zz0_221 zz0_222 zz0_223 zz0_224 GW380 GE380 NB347_380 NB380_347 NB348_380 NB380_348 NB364_380 NB380_364 NB369_380 NB380_369 NB374_380 NB380_374 hnb58 hnc58 hnb59 hnc59 hnb60 hnc60 hnb61 hnc61 hnb62 hnc62 Ao64 co64 HO354 HO358 HO362 HO368 HO373 HO378 zz0_225 x53_22 zz0_327 zz0_328 zz0_329 zz0_330 zz0_331 zz0_332 zz0_333 zz0_334 zz0_335 zz0_336 zz0_337 kj22 HJ22 zz0_338 kj90 HJ90 t382 t383 A93 t386 A94 w96 zz0_442 w97 Ao98 co98 zz0_443 w99 zz0_444 zz0_445 zz0_446 zz0_447 HO385 zz0_448 zz0_449 zz0_450 zz0_451 zz0_452 zz0_453 zz0_454 zz0_455 zz0_456 zz0_457 kj94 HJ94 t387 t388 A101 t391 A102 w104 zz0_560 w105 Ao106 co106 zz0_561 w107 zz0_562 zz0_563 zz0_564 zz0_565 HO390 zz0_566 zz0_567 zz0_568 zz0_569 zz0_570 zz0_571 zz0_572 zz1_3 zz0_573 zz0_574 zz0_575 zz0_576 zz0_577 zz0_578 zz0_579 zz0_580 zz0_581 zz0_582 zz0_583 zz0_584 zz0_585 zz0_586 zz0_587 zz0_588 zz0_589 zz0_590 zz0_591 zz0_592 zz0_593 zz0_594 zz0_595 zz0_596 zz0_597 zz0_598 zz0_599 zz0_600 zz0_601 zz0_602 zz0_603 zz0_604 zz0_605 zz0_606 zz0_607 zz0_608 zz0_609 zz0_610 zz0_611 zz0_612 zz0_613 zz0_614 zz0_615 zz0_616 zz0_617 zz0_618 zz0_619 zz0_620 zz0_621 zz0_622 zz0_623 zz0_624 zz0_625 zz0_626 zz0_627 zz0_628 zz0_629 zz0_630 zz0_631 zz0_632 zz0_633 zz0_634 zz0_635 zz0_636 zz0_637 zz0_638 zz0_639 zz0_640 zz0_641 zz0_642 zz0_643 zz0_644 zz0_645 zz0_646 zz0_647 zz0_648 zz0_649 zz0_650 zz0_651 zz0_652 zz0_653 zz0_654 zz0_655 zz0_656 zz0_657 zz0_658 zz0_659 zz0_660 zz0_661 zz0_662 zz0_663 zz0_664 zz0_665 zz0_666 zz0_667 zz0_668 zz0_669 zz0_670 zz0_671 zz0_672 zz0_673 zz0_674 zz0_675 kj102 HJ102 t392 t393 A109 t394 t395 A110 hnb112 hnc112 hnb113 hnc113 hnb114 hnc114 hnb115 hnc115 hnb116 hnc116 w118 hnb119 hnc119 hnb120 hnc120 hnb121 hnc121 hnb122 hnc122 w124 zz1_5 zz1_6 zz1_7 zz1_8 zz1_9 zz1_10 zz1_11 zz1_12 zz1_13 zz1_14 zz1_15 zz1_16 x82_110 zz1_118 zz1_119 zz1_120 zz1_121 zz1_122 hl370001_110 zz1_123 zz1_124 hl375001_110 zz1_125 zz1_126 zz1_127 zz1_128 kj110 HJ110 zz1_129 kj151 HJ151 t397 t398 A154 t399 A155 hnb157 hnc157 hnb158 hnc158 hnb159 hnc159 hnb160 hnc160 hnb161 hnc161 w163 w165 zz1_233 zz1_234 zz1_235 zz1_236 zz1_237 zz1_238 zz1_239 zz1_240 zz1_241 zz1_242 zz1_243 zz1_244 zz1_245 zz1_348 zz1_349 zz1_350 zz1_351 zz1_352 zz1_353 zz1_354 hl381001_155 zz1_355 zz1_356 zz1_357 zz1_358 kj155 HJ155 zz1_359 u4 zz1_360 zz1_361 zz1_362 zz1_363 zz1_364 zz1_365 zz1_366 zz1_367 zz1_368 zz1_369 zz1_370 zz1_371 zz1_372 zz1_373 zz1_374 zz1_375 zz1_376 zz1_377 zz1_378 zz1_379 zz1_380 zz1_381 zz1_382 zz1_383 zz1_384 zz1_385 zz1_386 zz1_387 zz1_388 zz1_389 zz1_390 zz1_391 zz1_392 zz1_393 zz1_394 zz1_395 zz1_396 zz1_397 zz1_398 zz1_399 zz1_400 zz1_401 zz1_402 zz1_403 zz1_404 zz1_405 zz1_406 zz1_407 zz1_408 zz1_409 zz1_410 zz1_411 zz1_412 zz1_413 zz1_414 zz1_415 zz1_416 zz1_417 zz1_418 zz1_419 zz1_420 zz1_421 zz1_422 zz1_423 zz1_424 zz1_425 zz1_426 zz1_427 zz1_428 zz1_429 zz1_430 zz1_431 zz1_432 zz1_433 zz1_434 zz1_435 zz1_436 zz1_437 zz1_438 zz1_439 zz1_440 zz1_441 zz1_442 zz1_443 zz1_444 zz1_445 zz1_446 zz1_447 zz1_448 zz1_449 zz1_450 zz1_451 zz1_452 zz1_453 zz1_454 zz1_455 zz1_456 zz1_457 zz1_458 zz1_459 zz1_460 zz1_461 kj166 HJ166 t400 t401 A169 t404 t405 A170 t408 t409 t412 A171 HC172 HT_ HW_ w173 zz1_462 v402 v406 gb413 w180 hS_ BK347 BK348 BK364 BK369 BK374 BK380 BK413 GW413 GE413 NB347_413 NB413_347 NB348_413 NB413_348 NB364_413 NB413_364 NB369_413 NB413_369 NB374_413 NB413_374 NB380_413 NB413_380 HB zz1_463 Ao182 co182 HO403 HO407 HO411 HO_365001 HO_370001 HO_375001 HO_381001 hs181 hfs181 hns181_0 hns181_1 hns181_2 hns181_3 hns181_4 hns181_5 hms181_0 hms181_1 hms181_2 hms181_3 hms181_4 hms181_5 hs183 hfs183 hns183_0 hns183_1 hns183_2 hns183_3 hns183_4 hns183_5 hms183_0 hms183_1 hms183_2 hms183_3 hms183_4 hms183_5 hHeld zz1_464 zz1_465 zz1_466 zz1_467 wc u17 u18 u19 u20 u21 u22 u23 u24 u25 u26 u27 u28 u29 u30 u31 u32 u33 u34 u35 u36 u37 u38 u39 u40 u41 u42 u43 u44 u45 u46 u47 u48 u49 u50 u51 u52 u53 u54 u55 u56 u57 u58 u59 u60 u61 u62 u63 u64 u65 u66 u67 u68 u69 u70 u71 u72 u73 u74 u75 u76 u77 u78 u79 u80 u81 u82 u83 u84 u85 u86 u87 u88 u89 u90 u91 u92 u93 u94 u95 u96 u97 u98 u99 u100 u101 u102 u103 u104 u105 u106 u107 u108 u109 u110 u111 u112 u113 u114 u115 u116 u117 u118 hcut
         exact hG_1.out⟩
end Go.Proofs.Ytengegdaiphfeaa.X
end
