import Derived.Test.YtengegdaiphfeaaKFnExactMulGrades4
import Derived.Test.YtengegdaiphfeaaKFnExactMulGrades1
import Derived.Test.YtengegdaiphfeaaKFnExactMulGrades2
section
namespace Go.Proofs.Ytengegdaiphfeaa.X
open Go.RowKit Go.Proofs.YtengegdaiphfeaaW.PrintWords Go.Proofs.YtengegdaiphfeaaW.PrintLast Go.Proofs.YtengegdaiphfeaaW.PrintMore
attribute [local go_sem] max2_int min2_int max_two min_two max_three min_three max_four min_four
set_option linter.unusedVariables false
set_option linter.unusedSimpArgs false
set_option maxHeartbeats 8000000 in
set_option maxRecDepth 100000 in
theorem laws_FnExactMulGrades.p2 (k : Nat) (a0_0 : Int) (A0_1 : Option Addr) (c0_1 : Nat) (l0_1 : List Int) (a1_0 : Int) (A1_1 : Option Addr) (c1_1 : Nat) (l1_1 : List Int) (r : Bool) (w : World) : (laws_FnExactMulGrades.p1 k a0_0 A0_1 c0_1 l0_1 a1_0 A1_1 c1_1 l1_1 r w).1:=by
 intros hu26 hu28 HR0_1 HC0_1 HR1_1 HC1_1 t349 A3 zz0_0 gb347 w5 GW347 GE347 gb348 w6 GW348 GE348 NB347_348 NB348_347 hnb7 hnc7 w9 zz0_1 zz0_2 zz0_3 zz0_4 kj3 HJ3 t350 A11 hnb13 hnc13 w15 zz0_108 zz0_109 zz0_110 zz0_111 kj11 HJ11 t351 t352 A17 t355 t356 A18 t359 t360 t363 A19 t365 t366 A20 t370 t371 A21 t375 t376 t379 A22 zz1_0 zz1_1 w24 zz0_215 v353 v357 gb364 w31 zz1_2 GW364 GE364 NB347_364 NB364_347 NB348_364 NB364_348 zz0_216 Ao33 co33 hs32 hfs32 hns32_0 hns32_1 hms32_0 hms32_1 hs34 hfs34 hns34_0 hns34_1 hms34_0 hms34_1 zz0_217 hnb35 hnc35 hnb36 hnc36 w38 gb369 w39 GW369 GE369 NB347_369 NB369_347 NB348_369 NB369_348 NB364_369 NB369_364 hnb40 hnc40 hnb41 hnc41 hnb42 hnc42 Ao44 co44 hnb45 hnc45 w47 gb374 w48 GW374 GE374 NB347_374 NB374_347 NB348_374 NB374_348 NB364_374 NB374_364 NB369_374 NB374_369 hnb49 hnc49 hnb50 hnc50 hnb51 hnc51 hnb52 hnc52 Ao54 co54 w56 gb380 w57 zz0_218 zz0_219 zz0_220 zz0_221 zz0_222 zz0_223 zz0_224 GW380 GE380 NB347_380 NB380_347 NB348_380 NB380_348 NB364_380 NB380_364 NB369_380 NB380_369 NB374_380 NB380_374 hnb58 hnc58 hnb59 hnc59 hnb60 hnc60 hnb61 hnc61 hnb62 hnc62 Ao64 co64 HO354 HO358 HO362 HO368 HO373 HO378 zz0_225 x53_22 zz0_327 zz0_328 zz0_329 zz0_330 zz0_331 zz0_332 zz0_333 zz0_334 zz0_335 zz0_336 zz0_337 kj22 HJ22 zz0_338 kj90 HJ90 t382 t383 A93 t386 A94 w96 zz0_442 w97 Ao98 co98 zz0_443 w99 zz0_444 zz0_445 zz0_446 zz0_447 HO385 zz0_448 zz0_449 zz0_450 zz0_451 zz0_452 zz0_453 zz0_454 zz0_455 zz0_456 zz0_457 kj94 HJ94 t387 t388 A101 t391 A102 w104 zz0_560 w105 Ao106 co106 zz0_561 w107 zz0_562 zz0_563 zz0_564 zz0_565 HO390 zz0_566 zz0_567 zz0_568 zz0_569 zz0_570 zz0_571 zz0_572 zz1_3 zz0_573 zz0_574 zz0_575 zz0_576 zz0_577 zz0_578 zz0_579 zz0_580 zz0_581 zz0_582 zz0_583 zz0_584 zz0_585 zz0_586 zz0_587 zz0_588 zz0_589 zz0_590 zz0_591 zz0_592 zz0_593 zz0_594 zz0_595 zz0_596 zz0_597 zz0_598 zz0_599 zz0_600 zz0_601 zz0_602 zz0_603 zz0_604 zz0_605 zz0_606 zz0_607 zz0_608 zz0_609 zz0_610 zz0_611 zz0_612 zz0_613 zz0_614 zz0_615 zz0_616 zz0_617 zz0_618 zz0_619 zz0_620 zz0_621 zz0_622 zz0_623 zz0_624 zz0_625 zz0_626 zz0_627 zz0_628 zz0_629 zz0_630 zz0_631 zz0_632 zz0_633 zz0_634 zz0_635 zz0_636 zz0_637 zz0_638 zz0_639 zz0_640 zz0_641 zz0_642 zz0_643 zz0_644 zz0_645 zz0_646 zz0_647 zz0_648 zz0_649 zz0_650 zz0_651 zz0_652 zz0_653 zz0_654 zz0_655 zz0_656 zz0_657 zz0_658 zz0_659 zz0_660 zz0_661 zz0_662 zz0_663 zz0_664 zz0_665 zz0_666 zz0_667 zz0_668 zz0_669 zz0_670 zz0_671 zz0_672 zz0_673 zz0_674 zz0_675 kj102 HJ102 t392 t393 A109 t394 t395 A110 hnb112 hnc112 hnb113 hnc113 hnb114 hnc114 hnb115 hnc115 hnb116 hnc116 w118 hnb119 hnc119 hnb120 hnc120 hnb121 hnc121 hnb122 hnc122 w124 zz1_5 zz1_6 zz1_7 zz1_8 zz1_9 zz1_10 zz1_11 zz1_12 zz1_13 zz1_14 zz1_15 zz1_16 x82_110 zz1_118 zz1_119 zz1_120 zz1_121 zz1_122 hl370001_110 zz1_123 zz1_124 hl375001_110 zz1_125 zz1_126 zz1_127 zz1_128 kj110 HJ110 zz1_129 kj151 HJ151 t397 t398 A154 t399 A155 hnb157 hnc157 hnb158 hnc158 hnb159 hnc159 hnb160 hnc160 hnb161 hnc161 w163 w165 zz1_233 zz1_234 zz1_235 zz1_236 zz1_237 zz1_238 zz1_239 zz1_240 zz1_241 zz1_242 zz1_243 zz1_244 zz1_245 zz1_348 zz1_349 zz1_350 zz1_351 zz1_352 zz1_353 zz1_354 hl381001_155 zz1_355 zz1_356 zz1_357 zz1_358 kj155 HJ155 zz1_359 u4 zz1_360 zz1_361 zz1_362 zz1_363 zz1_364 zz1_365 zz1_366 zz1_367 zz1_368 zz1_369 zz1_370 zz1_371 zz1_372 zz1_373 zz1_374 zz1_375 zz1_376 zz1_377 zz1_378 zz1_379 zz1_380 zz1_381 zz1_382 zz1_383 zz1_384 zz1_385 zz1_386 zz1_387 zz1_388 zz1_389 zz1_390 zz1_391 zz1_392 zz1_393 zz1_394 zz1_395 zz1_396 zz1_397 zz1_398 zz1_399 zz1_400 zz1_401 zz1_402 zz1_403 zz1_404 zz1_405 zz1_406 zz1_407 zz1_408 zz1_409 zz1_410 zz1_411 zz1_412 zz1_413 zz1_414 zz1_415 zz1_416 zz1_417 zz1_418 zz1_419 zz1_420 zz1_421 zz1_422 zz1_423 zz1_424 zz1_425 zz1_426 zz1_427 zz1_428 zz1_429 zz1_430 zz1_431 zz1_432 zz1_433 zz1_434 zz1_435 zz1_436 zz1_437 zz1_438 zz1_439 zz1_440 zz1_441 zz1_442 zz1_443 zz1_444 zz1_445 zz1_446 zz1_447 zz1_448 zz1_449 zz1_450 zz1_451 zz1_452 zz1_453 zz1_454 zz1_455 zz1_456 zz1_457 zz1_458 zz1_459 zz1_460 zz1_461 kj166 HJ166 t400 t401 A169 t404 t405 A170 t408 t409 t412 A171 HC172 HT_ HW_ w173 zz1_462 v402 v406 gb413 w180 hS_ BK347 BK348 BK364 BK369 BK374 BK380 BK413 GW413 GE413 NB347_413 NB413_347 NB348_413 NB413_348 NB364_413 NB413_364 NB369_413 NB413_369 NB374_413 NB413_374 NB380_413 NB413_380 HB zz1_463 Ao182 co182 HO403 HO407 HO411 HO_365001 HO_370001 HO_375001 HO_381001 hs181 hfs181 hns181_0 hns181_1 hns181_2 hns181_3 hns181_4 hns181_5 hms181_0 hms181_1 hms181_2 hms181_3 hms181_4 hms181_5 hs183 hfs183 hns183_0 hns183_1 hns183_2 hns183_3 hns183_4 hns183_5 hms183_0 hms183_1 hms183_2 hms183_3 hms183_4 hms183_5 hHeld zz1_464 zz1_465 zz1_466 zz1_467 wc u17 u18 u19 u20 u21 u22 u23 u24 u25 u26 u27 u28 u29 u30 u31 u32 u33 u34 u35 u36 u37 u38 u39 u40 u41 u42 u43 u44 u45 u46 u47 u48 u49 u50 u51 u52 u53 u54 u55 u56 u57 u58 u59 u60 u61 u62 u63 u64 u65 u66 u67 u68 u69 u70 u71 u72 u73 u74 u75 u76 u77 u78 u79 u80 u81 u82 u83 u84 u85 u86 u87 u88 u89 u90 u91 u92 u93 u94 u95 u96 u97 u98 u99 u100 u101 u102 u103 u104 u105 u106 u107 u108 u109 u110 u111 u112 u113 u114 u115 u116 u117 u118 hcut
 clear HC172
 try clear c1
 try clear c2
 try clear p2
 try clear c18
 try clear c19
 try clear c20
 try clear c21
 try clear c27
 try clear c185
 try clear c186
 try clear c187
 try clear c188
 try clear c189
 try clear c190
 try clear c191
 try clear c193
 try clear c194
 try clear c195
 try clear c196
 try clear c197
 try clear c200
 try clear c201
 try clear c202
 try clear c203
 try clear c204
 try clear c205
 try clear c207
 try clear c208
 try clear c209
 try clear c210
 try clear c211
 try clear hcz192_0
 try clear hcz192_1
 try clear hcz198_0
 try clear hcz198_1
 try clear hcz206_0
 try clear hcz206_1
 try clear hcz212_0
 try clear hcz212_1
 try clear hfz192_0
 try clear hfz192_1
 try clear hfz198_0
 try clear hfz198_1
 try clear hfz206_0
 try clear hfz206_1
 try clear hfz212_0
 try clear hfz212_1
 obtain ⟨kq,x110_171,rfl,HA,HJ171,HO_365001,HO_370001,HO_375001,HO_381001,HO_414001,BK347,BK348,BK364,BK369,BK374,BK380,BK413,HB⟩:=hcut
 cases kq with
 | zero => exact absurd HA.out (by simp [laws_FnExactMulGrades.j10])
 | succ kj171 =>
  have H:=HA.out
  clear HA
  simp only [laws_FnExactMulGrades.j10] at H
  have HC214:=Aside0.mk H
  clear H
  go_upto_if 110 with (fail)
  go_cut [] (fun wc => ∃ (kq : Nat),Aside0 (laws_FnExactMulGrades.j11 kq t397 t375 t398 = some r) ∧ Aside0 (kq ≤ kj171) ∧ Aside0 (Kd.R (Kd.int .i64) 3 wc w.heap.size (fun k_ => some k_ ≠ ((.slice Ao44 t393.length co44) : Value).ownBlock ∧ some k_ ≠ ((.slice Ao54 t395.length co54) : Value).ownBlock ∧ some k_ ≠ ((.slice Ao64 t398.length co64) : Value).ownBlock ∧ some k_ ≠ ((.slice Ao182 t409.length co182) : Value).ownBlock) (.slice Ao33 t360.length co33) t360) ∧ Aside0 (Kd.R (Kd.int .i64) 3 wc w.heap.size (fun k_ => some k_ ≠ ((.slice Ao33 t360.length co33) : Value).ownBlock ∧ some k_ ≠ ((.slice Ao54 t395.length co54) : Value).ownBlock ∧ some k_ ≠ ((.slice Ao64 t398.length co64) : Value).ownBlock ∧ some k_ ≠ ((.slice Ao182 t409.length co182) : Value).ownBlock) (.slice Ao44 t393.length co44) t393) ∧ Aside0 (Kd.R (Kd.int .i64) 3 wc w.heap.size (fun k_ => some k_ ≠ ((.slice Ao33 t360.length co33) : Value).ownBlock ∧ some k_ ≠ ((.slice Ao44 t393.length co44) : Value).ownBlock ∧ some k_ ≠ ((.slice Ao64 t398.length co64) : Value).ownBlock ∧ some k_ ≠ ((.slice Ao182 t409.length co182) : Value).ownBlock) (.slice Ao54 t395.length co54) t395) ∧ Aside0 (Kd.R (Kd.int .i64) 3 wc w.heap.size (fun k_ => some k_ ≠ ((.slice Ao33 t360.length co33) : Value).ownBlock ∧ some k_ ≠ ((.slice Ao44 t393.length co44) : Value).ownBlock ∧ some k_ ≠ ((.slice Ao54 t395.length co54) : Value).ownBlock ∧ some k_ ≠ ((.slice Ao182 t409.length co182) : Value).ownBlock) (.slice Ao64 t398.length co64) t398) ∧ Aside0 (Kd.R (Kd.int .i64) 3 wc w.heap.size (fun k_ => some k_ ≠ ((.slice Ao33 t360.length co33) : Value).ownBlock ∧ some k_ ≠ ((.slice Ao44 t393.length co44) : Value).ownBlock ∧ some k_ ≠ ((.slice Ao54 t395.length co54) : Value).ownBlock ∧ some k_ ≠ ((.slice Ao64 t398.length co64) : Value).ownBlock) (.slice Ao182 t409.length co182) t409) ∧ Aside0 (wc.heap[gb347]? = some (.cells #[.int .i64 a0_0,(.slice A0_1 l0_1.length c0_1)] 26 (0,0))) ∧ Aside0 (wc.heap[gb348]? = some (.cells #[.int .i64 a1_0,(.slice A1_1 l1_1.length c1_1)] 26 (0,0))) ∧ Aside0 (wc.heap[gb364]? = some (.cells #[.int .i64 t359,(.slice Ao33 t360.length co33)] 28 (0,0))) ∧ Aside0 (wc.heap[gb369]? = some (.cells #[.int .i64 t365,(.slice Ao44 t393.length co44)] 28 (0,0))) ∧ Aside0 (wc.heap[gb374]? = some (.cells #[.int .i64 t370,(.slice Ao54 t395.length co54)] 28 (0,0))) ∧ Aside0 (wc.heap[gb380]? = some (.cells #[.int .i64 t375,(.slice Ao64 t398.length co64)] 28 (0,0))) ∧ Aside0 (wc.heap[gb413]? = some (.cells #[.int .i64 t408,(.slice Ao182 t409.length co182)] 28 (0,0))) ∧ Aside0 (Below w.heap.size w wc))
  case first =>
   have H:=HC214.out
   clear HC214
   by_cases c215 : x110_171 = true
   ·subst c215
    have H1 : (some false) = some r:=by rw [if_pos rfl] at H;exact H
    clear H
    have H:=H1
    clear H1
    obtain rfl:=Option.some.inj H
    go_wp2
    go_ret
    exact ⟨by first|rfl|(simp [errW_none,errW_some] <;> rfl)|(simp [*,errW_none,errW_some] <;> rfl),by repeat (first|(with_reducible first|exact HB.out|apply below_alloc|apply pw_below_drewN|apply below_drew1|refine below_set ?_ GE347.out|refine below_set ?_ GE348.out|refine below_set ?_ GE364.out|refine below_set ?_ GE369.out|refine below_set ?_ GE374.out|refine below_set ?_ GE380.out|refine below_set ?_ GE413.out)|exact HB.out)⟩
   ·replace c215:=Bool.eq_false_iff.mpr c215
    subst c215
    have H1 : (laws_FnExactMulGrades.j11 kj171 t397 t375 t398) = some r:=by rw [if_neg (show ¬ (false = true) by decide)] at H;exact H
    clear H
    have H:=H1
    clear H1
    have H':=Aside0.mk H
    clear H
    go_wp2
    go_meet
    case rel => exact ⟨_,H',⟨by have:=HJ3.out;have:=HJ11.out;have:=HJ22.out;have:=HJ90.out;have:=HJ94.out;have:=HJ102.out;have:=HJ110.out;have:=HJ151.out;have:=HJ155.out;have:=HJ166.out;have:=HJ171.out;first|omega|exact Nat.le_refl _⟩,⟨by (try simp only [hl370001_110]);(try simp only [hl375001_110]);(try simp only [hl381001_155]);(with_reducible repeat (first|apply Kd.R_alloc|apply Kd.R_drewN|apply Kd.R_drew));exact HO_365001.out⟩,⟨by (try simp only [hl370001_110]);(try simp only [hl375001_110]);(try simp only [hl381001_155]);(with_reducible repeat (first|apply Kd.R_alloc|apply Kd.R_drewN|apply Kd.R_drew));exact HO_370001.out⟩,⟨by (try simp only [hl370001_110]);(try simp only [hl375001_110]);(try simp only [hl381001_155]);(with_reducible repeat (first|apply Kd.R_alloc|apply Kd.R_drewN|apply Kd.R_drew));exact HO_375001.out⟩,⟨by (try simp only [hl370001_110]);(try simp only [hl375001_110]);(try simp only [hl381001_155]);(with_reducible repeat (first|apply Kd.R_alloc|apply Kd.R_drewN|apply Kd.R_drew));exact HO_381001.out⟩,⟨by (try simp only [hl370001_110]);(try simp only [hl375001_110]);(try simp only [hl381001_155]);(with_reducible repeat (first|apply Kd.R_alloc|apply Kd.R_drewN|apply Kd.R_drew));exact HO_414001.out⟩,⟨by (try simp only [hl370001_110]);(try simp only [hl375001_110]);(try simp only [hl381001_155]);(with_reducible repeat (first|refine blk_drewN ?_ _|refine blk_drew ?_|refine blk_alloc ?_ _));exact BK347.out⟩,⟨by (try simp only [hl370001_110]);(try simp only [hl375001_110]);(try simp only [hl381001_155]);(with_reducible repeat (first|refine blk_drewN ?_ _|refine blk_drew ?_|refine blk_alloc ?_ _));exact BK348.out⟩,⟨by (try simp only [hl370001_110]);(try simp only [hl375001_110]);(try simp only [hl381001_155]);(with_reducible repeat (first|refine blk_drewN ?_ _|refine blk_drew ?_|refine blk_alloc ?_ _));exact BK364.out⟩,⟨by (try simp only [hl370001_110]);(try simp only [hl375001_110]);(try simp only [hl381001_155]);(with_reducible repeat (first|refine blk_drewN ?_ _|refine blk_drew ?_|refine blk_alloc ?_ _));exact BK369.out⟩,⟨by (try simp only [hl370001_110]);(try simp only [hl375001_110]);(try simp only [hl381001_155]);(with_reducible repeat (first|refine blk_drewN ?_ _|refine blk_drew ?_|refine blk_alloc ?_ _));exact BK374.out⟩,⟨by (try simp only [hl370001_110]);(try simp only [hl375001_110]);(try simp only [hl381001_155]);(with_reducible repeat (first|refine blk_drewN ?_ _|refine blk_drew ?_|refine blk_alloc ?_ _));exact BK380.out⟩,⟨by (try simp only [hl370001_110]);(try simp only [hl375001_110]);(try simp only [hl381001_155]);(with_reducible repeat (first|refine blk_drewN ?_ _|refine blk_drew ?_|refine blk_alloc ?_ _));exact BK413.out⟩,⟨by repeat (first|(with_reducible first|exact HB.out|apply below_alloc|apply pw_below_drewN|apply below_drew1|refine below_set ?_ GE347.out|refine below_set ?_ GE348.out|refine below_set ?_ GE364.out|refine below_set ?_ GE369.out|refine below_set ?_ GE374.out|refine below_set ?_ GE380.out|refine below_set ?_ GE413.out)|exact HB.out)⟩⟩
  case rest =>
   clear HC214
   try clear c1
   try clear c2
   try clear p2
   try clear c18
   try clear c19
   try clear c20
   try clear c21
   try clear c27
   try clear c185
   try clear c186
   try clear c187
   try clear c188
   try clear c189
   try clear c190
   try clear c191
   try clear c193
   try clear c194
   try clear c195
   try clear c196
   try clear c197
   try clear c200
   try clear c201
   try clear c202
   try clear c203
   try clear c204
   try clear c205
   try clear c207
   try clear c208
   try clear c209
   try clear c210
   try clear c211
   try clear c215
   try clear hcz192_0
   try clear hcz192_1
   try clear hcz198_0
   try clear hcz198_1
   try clear hcz206_0
   try clear hcz206_1
   try clear hcz212_0
   try clear hcz212_1
   try clear hfz192_0
   try clear hfz192_1
   try clear hfz198_0
   try clear hfz198_1
   try clear hfz206_0
   try clear hfz206_1
   try clear hfz212_0
   try clear hfz212_1
   try clear p2
   obtain ⟨kq,HA,HJ213,HO_365001,HO_370001,HO_375001,HO_381001,HO_414001,BK347,BK348,BK364,BK369,BK374,BK380,BK413,HB⟩:=hcut
   cases kq with
   | zero => exact absurd HA.out (by simp [laws_FnExactMulGrades.j11])
   | succ kj213 =>
    have H:=HA.out
    clear HA
    simp only [laws_FnExactMulGrades.j11] at H
    replace H:=Option.bind_eq_some_iff.mp H
    obtain ⟨t415,A2160,H⟩:=H
    replace H : (if t415 < 0 then (some false) else (if t415 = t397 then (some true) else (some false))) = some r:=H
    have A216:=Aside0.mk A2160
    clear A2160
    by_cases c217 : t415 < 0
    ·rw [if_pos c217] at H
     have c217b0 : decide (t415 < 0) = true:=decide_eq_true c217
     clear c217
     obtain rfl:=Option.some.inj H
     have hnb218:=NB380_347.out
     have hnc218:=NB347_380.out
     have hnb219:=NB380_348.out
     have hnc219:=NB348_380.out
     have hnb220:=NB380_364.out
     have hnc220:=NB364_380.out
     have hnb221:=NB380_369.out
     have hnc221:=NB369_380.out
     have hnb222:=NB380_374.out
     have hnc222:=NB374_380.out
     have hnb223:=NB380_413.out
     have hnc223:=NB413_380.out
     have hcz224_0 : wc.cell? ⟨gb380,0,none⟩ = some (.int .i64 t375):=(blk_cell BK380.out 0).trans rfl
     have hcz224_1 : wc.cell? ⟨gb380,1,none⟩ = some (.slice Ao64 t398.length co64):=(blk_cell BK380.out 1).trans rfl
     have hfz224_0:=blk_frozen BK380.out 0
     have hfz224_1:=blk_frozen BK380.out 1
     go_wp2_with (first|((with_reducible refine gate_callee (f:=23) rfl ?_);refine goesL_ (some 113) rfl rfl Try.func23 (by kernel_rfl) rfl #[.agg #[.int .i64 t375,.slice Ao64 t398.length co64],.int .i64 1] rfl (by (try simp only [List.map_toArray,List.map_cons,List.map_nil]);first|done|rfl|(simp only [List.length_drop,List.length_take];rfl)) ?_;(with_reducible refine (laws_heldMatrix.calls kj213 t375 _ _ t398 1 t415 _ ?side1 ?side2 A216.out).mono ?_);(case side1 => repeat (first|exact (Kd.R_reads' HO_381001.out).2.2|(with_reducible refine Kd.C_alloc ?_ _)|(with_reducible refine Kd.C_drewN ?_ _)|(with_reducible refine Kd.C_drew ?_)));(case side2 => exact (Kd.R_reads' HO_381001.out).2.1);rintro e w225 ⟨rfl,hb⟩;refine ⟨_,rfl,?_⟩;have n0_:=Aside0.mk (Kd.R_below (by (with_reducible repeat (first|apply Kd.R_alloc|apply Kd.R_drewN|apply Kd.R_drew));exact HO_365001.out) hb);have n1_:=Aside0.mk (Kd.R_below (by (with_reducible repeat (first|apply Kd.R_alloc|apply Kd.R_drewN|apply Kd.R_drew));exact HO_370001.out) hb);have n2_:=Aside0.mk (Kd.R_below (by (with_reducible repeat (first|apply Kd.R_alloc|apply Kd.R_drewN|apply Kd.R_drew));exact HO_375001.out) hb);have n3_:=Aside0.mk (Kd.R_below (by (with_reducible repeat (first|apply Kd.R_alloc|apply Kd.R_drewN|apply Kd.R_drew));exact HO_381001.out) hb);have n4_:=Aside0.mk (Kd.R_below (by (with_reducible repeat (first|apply Kd.R_alloc|apply Kd.R_drewN|apply Kd.R_drew));exact HO_414001.out) hb);have n5_:=Aside0.mk (blk_below (g:=gb347) (o:=.cells #[.int .i64 a0_0,.slice A0_1 l0_1.length c0_1] 26 (0,0)) (by (with_reducible repeat (first|refine blk_drewN ?_ _|refine blk_drew ?_|refine blk_alloc ?_ _));exact BK347.out) hb);have n6_:=Aside0.mk (blk_below (g:=gb348) (o:=.cells #[.int .i64 a1_0,.slice A1_1 l1_1.length c1_1] 26 (0,0)) (by (with_reducible repeat (first|refine blk_drewN ?_ _|refine blk_drew ?_|refine blk_alloc ?_ _));exact BK348.out) hb);have n7_:=Aside0.mk (blk_below (g:=gb364) (o:=.cells #[.int .i64 t359,.slice Ao33 t360.length co33] 28 (0,0)) (by (with_reducible repeat (first|refine blk_drewN ?_ _|refine blk_drew ?_|refine blk_alloc ?_ _));exact BK364.out) hb);have n8_:=Aside0.mk (blk_below (g:=gb369) (o:=.cells #[.int .i64 t365,.slice Ao44 t393.length co44] 28 (0,0)) (by (with_reducible repeat (first|refine blk_drewN ?_ _|refine blk_drew ?_|refine blk_alloc ?_ _));exact BK369.out) hb);have n9_:=Aside0.mk (blk_below (g:=gb374) (o:=.cells #[.int .i64 t370,.slice Ao54 t395.length co54] 28 (0,0)) (by (with_reducible repeat (first|refine blk_drewN ?_ _|refine blk_drew ?_|refine blk_alloc ?_ _));exact BK374.out) hb);have n10_:=Aside0.mk (blk_below (g:=gb380) (o:=.cells #[.int .i64 t375,.slice Ao64 t398.length co64] 28 (0,0)) (by (with_reducible repeat (first|refine blk_drewN ?_ _|refine blk_drew ?_|refine blk_alloc ?_ _));exact BK380.out) hb);have n11_:=Aside0.mk (blk_below (g:=gb413) (o:=.cells #[.int .i64 t408,.slice Ao182 t409.length co182] 28 (0,0)) (by (with_reducible repeat (first|refine blk_drewN ?_ _|refine blk_drew ?_|refine blk_alloc ?_ _));exact BK413.out) hb);have n12_:=Aside0.mk (below_step (by repeat (first|(with_reducible first|exact HB.out|apply below_alloc|apply pw_below_drewN|apply below_drew1|refine below_set ?_ GE347.out|refine below_set ?_ GE348.out|refine below_set ?_ GE364.out|refine below_set ?_ GE369.out|refine below_set ?_ GE374.out|refine below_set ?_ GE380.out|refine below_set ?_ GE413.out)|exact HB.out)) hb);clear HO_365001;clear HO_370001;clear HO_375001;clear HO_381001;clear HO_414001;clear BK347;clear BK348;clear BK364;clear BK369;clear BK374;clear BK380;clear BK413;clear HB;have HO_365001:=n0_;have HO_370001:=n1_;have HO_375001:=n2_;have HO_381001:=n3_;have HO_414001:=n4_;have BK347:=n5_;have BK348:=n6_;have BK364:=n7_;have BK369:=n8_;have BK374:=n9_;have BK380:=n10_;have BK413:=n11_;have HB:=n12_;clear n0_ n1_ n2_ n3_ n4_ n5_ n6_ n7_ n8_ n9_ n10_ n11_ n12_;(try clear hb);(try clear hb2);(try clear hk);(try clear hi)))
     go_ret
     exact ⟨by first|rfl|(simp [errW_none,errW_some] <;> rfl)|(simp [*,errW_none,errW_some] <;> rfl),by repeat (first|(with_reducible first|exact HB.out|apply below_alloc|apply pw_below_drewN|apply below_drew1|refine below_set ?_ GE347.out|refine below_set ?_ GE348.out|refine below_set ?_ GE364.out|refine below_set ?_ GE369.out|refine below_set ?_ GE374.out|refine below_set ?_ GE380.out|refine below_set ?_ GE413.out)|exact HB.out)⟩
    ·rw [if_neg c217] at H
     have c217b0 : decide (t415 < 0) = false:=decide_eq_false c217
     clear c217
     by_cases c226 : t415 = t397
     ·rw [if_pos c226] at H
      have c226b0 : (t415 == t397) = true:=beq_iff_eq.mpr c226
      have c226b1 : (t415 != t397) = false:=bne_eq_false_iff_eq.mpr c226
      clear c226
      obtain rfl:=Option.some.inj H
      have hnb227:=NB380_347.out
      have hnc227:=NB347_380.out
      have hnb228:=NB380_348.out
      have hnc228:=NB348_380.out
      have hnb229:=NB380_364.out
      have hnc229:=NB364_380.out
      have hnb230:=NB380_369.out
      have hnc230:=NB369_380.out
      have hnb231:=NB380_374.out
      have hnc231:=NB374_380.out
      have hnb232:=NB380_413.out
      have hnc232:=NB413_380.out
      have hcz233_0 : wc.cell? ⟨gb380,0,none⟩ = some (.int .i64 t375):=(blk_cell BK380.out 0).trans rfl
      have hcz233_1 : wc.cell? ⟨gb380,1,none⟩ = some (.slice Ao64 t398.length co64):=(blk_cell BK380.out 1).trans rfl
      have hfz233_0:=blk_frozen BK380.out 0
      have hfz233_1:=blk_frozen BK380.out 1
      go_wp2_with (first|((with_reducible refine gate_callee (f:=23) rfl ?_);refine goesL_ (some 113) rfl rfl Try.func23 (by kernel_rfl) rfl #[.agg #[.int .i64 t375,.slice Ao64 t398.length co64],.int .i64 1] rfl (by (try simp only [List.map_toArray,List.map_cons,List.map_nil]);first|done|rfl|(simp only [List.length_drop,List.length_take];rfl)) ?_;(with_reducible refine (laws_heldMatrix.calls kj213 t375 _ _ t398 1 t415 _ ?side1 ?side2 A216.out).mono ?_);(case side1 => repeat (first|exact (Kd.R_reads' HO_381001.out).2.2|(with_reducible refine Kd.C_alloc ?_ _)|(with_reducible refine Kd.C_drewN ?_ _)|(with_reducible refine Kd.C_drew ?_)));(case side2 => exact (Kd.R_reads' HO_381001.out).2.1);rintro e w234 ⟨rfl,hb⟩;refine ⟨_,rfl,?_⟩;have n0_:=Aside0.mk (Kd.R_below (by (with_reducible repeat (first|apply Kd.R_alloc|apply Kd.R_drewN|apply Kd.R_drew));exact HO_365001.out) hb);have n1_:=Aside0.mk (Kd.R_below (by (with_reducible repeat (first|apply Kd.R_alloc|apply Kd.R_drewN|apply Kd.R_drew));exact HO_370001.out) hb);have n2_:=Aside0.mk (Kd.R_below (by (with_reducible repeat (first|apply Kd.R_alloc|apply Kd.R_drewN|apply Kd.R_drew));exact HO_375001.out) hb);have n3_:=Aside0.mk (Kd.R_below (by (with_reducible repeat (first|apply Kd.R_alloc|apply Kd.R_drewN|apply Kd.R_drew));exact HO_381001.out) hb);have n4_:=Aside0.mk (Kd.R_below (by (with_reducible repeat (first|apply Kd.R_alloc|apply Kd.R_drewN|apply Kd.R_drew));exact HO_414001.out) hb);have n5_:=Aside0.mk (blk_below (g:=gb347) (o:=.cells #[.int .i64 a0_0,.slice A0_1 l0_1.length c0_1] 26 (0,0)) (by (with_reducible repeat (first|refine blk_drewN ?_ _|refine blk_drew ?_|refine blk_alloc ?_ _));exact BK347.out) hb);have n6_:=Aside0.mk (blk_below (g:=gb348) (o:=.cells #[.int .i64 a1_0,.slice A1_1 l1_1.length c1_1] 26 (0,0)) (by (with_reducible repeat (first|refine blk_drewN ?_ _|refine blk_drew ?_|refine blk_alloc ?_ _));exact BK348.out) hb);have n7_:=Aside0.mk (blk_below (g:=gb364) (o:=.cells #[.int .i64 t359,.slice Ao33 t360.length co33] 28 (0,0)) (by (with_reducible repeat (first|refine blk_drewN ?_ _|refine blk_drew ?_|refine blk_alloc ?_ _));exact BK364.out) hb);have n8_:=Aside0.mk (blk_below (g:=gb369) (o:=.cells #[.int .i64 t365,.slice Ao44 t393.length co44] 28 (0,0)) (by (with_reducible repeat (first|refine blk_drewN ?_ _|refine blk_drew ?_|refine blk_alloc ?_ _));exact BK369.out) hb);have n9_:=Aside0.mk (blk_below (g:=gb374) (o:=.cells #[.int .i64 t370,.slice Ao54 t395.length co54] 28 (0,0)) (by (with_reducible repeat (first|refine blk_drewN ?_ _|refine blk_drew ?_|refine blk_alloc ?_ _));exact BK374.out) hb);have n10_:=Aside0.mk (blk_below (g:=gb380) (o:=.cells #[.int .i64 t375,.slice Ao64 t398.length co64] 28 (0,0)) (by (with_reducible repeat (first|refine blk_drewN ?_ _|refine blk_drew ?_|refine blk_alloc ?_ _));exact BK380.out) hb);have n11_:=Aside0.mk (blk_below (g:=gb413) (o:=.cells #[.int .i64 t408,.slice Ao182 t409.length co182] 28 (0,0)) (by (with_reducible repeat (first|refine blk_drewN ?_ _|refine blk_drew ?_|refine blk_alloc ?_ _));exact BK413.out) hb);have n12_:=Aside0.mk (below_step (by repeat (first|(with_reducible first|exact HB.out|apply below_alloc|apply pw_below_drewN|apply below_drew1|refine below_set ?_ GE347.out|refine below_set ?_ GE348.out|refine below_set ?_ GE364.out|refine below_set ?_ GE369.out|refine below_set ?_ GE374.out|refine below_set ?_ GE380.out|refine below_set ?_ GE413.out)|exact HB.out)) hb);clear HO_365001;clear HO_370001;clear HO_375001;clear HO_381001;clear HO_414001;clear BK347;clear BK348;clear BK364;clear BK369;clear BK374;clear BK380;clear BK413;clear HB;have HO_365001:=n0_;have HO_370001:=n1_;have HO_375001:=n2_;have HO_381001:=n3_;have HO_414001:=n4_;have BK347:=n5_;have BK348:=n6_;have BK364:=n7_;have BK369:=n8_;have BK374:=n9_;have BK380:=n10_;have BK413:=n11_;have HB:=n12_;clear n0_ n1_ n2_ n3_ n4_ n5_ n6_ n7_ n8_ n9_ n10_ n11_ n12_;(try clear hb);(try clear hb2);(try clear hk);(try clear hi)))
      go_ret
      exact ⟨by first|rfl|(simp [errW_none,errW_some] <;> rfl)|(simp [*,errW_none,errW_some] <;> rfl),by repeat (first|(with_reducible first|exact HB.out|apply below_alloc|apply pw_below_drewN|apply below_drew1|refine below_set ?_ GE347.out|refine below_set ?_ GE348.out|refine below_set ?_ GE364.out|refine below_set ?_ GE369.out|refine below_set ?_ GE374.out|refine below_set ?_ GE380.out|refine below_set ?_ GE413.out)|exact HB.out)⟩
     ·rw [if_neg c226] at H
      have c226b0 : (t415 == t397) = false:=beq_eq_false_iff_ne.mpr c226
      have c226b1 : (t415 != t397) = true:=bne_iff_ne.mpr c226
      obtain rfl:=Option.some.inj H
      have hnb235:=NB380_347.out
      have hnc235:=NB347_380.out
      have hnb236:=NB380_348.out
      have hnc236:=NB348_380.out
      have hnb237:=NB380_364.out
      have hnc237:=NB364_380.out
      have hnb238:=NB380_369.out
      have hnc238:=NB369_380.out
      have hnb239:=NB380_374.out
      have hnc239:=NB374_380.out
      have hnb240:=NB380_413.out
      have hnc240:=NB413_380.out
      have hcz241_0 : wc.cell? ⟨gb380,0,none⟩ = some (.int .i64 t375):=(blk_cell BK380.out 0).trans rfl
      have hcz241_1 : wc.cell? ⟨gb380,1,none⟩ = some (.slice Ao64 t398.length co64):=(blk_cell BK380.out 1).trans rfl
      have hfz241_0:=blk_frozen BK380.out 0
      have hfz241_1:=blk_frozen BK380.out 1
      go_wp2_with (first|((with_reducible refine gate_callee (f:=23) rfl ?_);refine goesL_ (some 113) rfl rfl Try.func23 (by kernel_rfl) rfl #[.agg #[.int .i64 t375,.slice Ao64 t398.length co64],.int .i64 1] rfl (by (try simp only [List.map_toArray,List.map_cons,List.map_nil]);first|done|rfl|(simp only [List.length_drop,List.length_take];rfl)) ?_;(with_reducible refine (laws_heldMatrix.calls kj213 t375 _ _ t398 1 t415 _ ?side1 ?side2 A216.out).mono ?_);(case side1 => repeat (first|exact (Kd.R_reads' HO_381001.out).2.2|(with_reducible refine Kd.C_alloc ?_ _)|(with_reducible refine Kd.C_drewN ?_ _)|(with_reducible refine Kd.C_drew ?_)));(case side2 => exact (Kd.R_reads' HO_381001.out).2.1);rintro e w242 ⟨rfl,hb⟩;refine ⟨_,rfl,?_⟩;have n0_:=Aside0.mk (Kd.R_below (by (with_reducible repeat (first|apply Kd.R_alloc|apply Kd.R_drewN|apply Kd.R_drew));exact HO_365001.out) hb);have n1_:=Aside0.mk (Kd.R_below (by (with_reducible repeat (first|apply Kd.R_alloc|apply Kd.R_drewN|apply Kd.R_drew));exact HO_370001.out) hb);have n2_:=Aside0.mk (Kd.R_below (by (with_reducible repeat (first|apply Kd.R_alloc|apply Kd.R_drewN|apply Kd.R_drew));exact HO_375001.out) hb);have n3_:=Aside0.mk (Kd.R_below (by (with_reducible repeat (first|apply Kd.R_alloc|apply Kd.R_drewN|apply Kd.R_drew));exact HO_381001.out) hb);have n4_:=Aside0.mk (Kd.R_below (by (with_reducible repeat (first|apply Kd.R_alloc|apply Kd.R_drewN|apply Kd.R_drew));exact HO_414001.out) hb);have n5_:=Aside0.mk (blk_below (g:=gb347) (o:=.cells #[.int .i64 a0_0,.slice A0_1 l0_1.length c0_1] 26 (0,0)) (by (with_reducible repeat (first|refine blk_drewN ?_ _|refine blk_drew ?_|refine blk_alloc ?_ _));exact BK347.out) hb);have n6_:=Aside0.mk (blk_below (g:=gb348) (o:=.cells #[.int .i64 a1_0,.slice A1_1 l1_1.length c1_1] 26 (0,0)) (by (with_reducible repeat (first|refine blk_drewN ?_ _|refine blk_drew ?_|refine blk_alloc ?_ _));exact BK348.out) hb);have n7_:=Aside0.mk (blk_below (g:=gb364) (o:=.cells #[.int .i64 t359,.slice Ao33 t360.length co33] 28 (0,0)) (by (with_reducible repeat (first|refine blk_drewN ?_ _|refine blk_drew ?_|refine blk_alloc ?_ _));exact BK364.out) hb);have n8_:=Aside0.mk (blk_below (g:=gb369) (o:=.cells #[.int .i64 t365,.slice Ao44 t393.length co44] 28 (0,0)) (by (with_reducible repeat (first|refine blk_drewN ?_ _|refine blk_drew ?_|refine blk_alloc ?_ _));exact BK369.out) hb);have n9_:=Aside0.mk (blk_below (g:=gb374) (o:=.cells #[.int .i64 t370,.slice Ao54 t395.length co54] 28 (0,0)) (by (with_reducible repeat (first|refine blk_drewN ?_ _|refine blk_drew ?_|refine blk_alloc ?_ _));exact BK374.out) hb);have n10_:=Aside0.mk (blk_below (g:=gb380) (o:=.cells #[.int .i64 t375,.slice Ao64 t398.length co64] 28 (0,0)) (by (with_reducible repeat (first|refine blk_drewN ?_ _|refine blk_drew ?_|refine blk_alloc ?_ _));exact BK380.out) hb);have n11_:=Aside0.mk (blk_below (g:=gb413) (o:=.cells #[.int .i64 t408,.slice Ao182 t409.length co182] 28 (0,0)) (by (with_reducible repeat (first|refine blk_drewN ?_ _|refine blk_drew ?_|refine blk_alloc ?_ _));exact BK413.out) hb);have n12_:=Aside0.mk (below_step (by repeat (first|(with_reducible first|exact HB.out|apply below_alloc|apply pw_below_drewN|apply below_drew1|refine below_set ?_ GE347.out|refine below_set ?_ GE348.out|refine below_set ?_ GE364.out|refine below_set ?_ GE369.out|refine below_set ?_ GE374.out|refine below_set ?_ GE380.out|refine below_set ?_ GE413.out)|exact HB.out)) hb);clear HO_365001;clear HO_370001;clear HO_375001;clear HO_381001;clear HO_414001;clear BK347;clear BK348;clear BK364;clear BK369;clear BK374;clear BK380;clear BK413;clear HB;have HO_365001:=n0_;have HO_370001:=n1_;have HO_375001:=n2_;have HO_381001:=n3_;have HO_414001:=n4_;have BK347:=n5_;have BK348:=n6_;have BK364:=n7_;have BK369:=n8_;have BK374:=n9_;have BK380:=n10_;have BK413:=n11_;have HB:=n12_;clear n0_ n1_ n2_ n3_ n4_ n5_ n6_ n7_ n8_ n9_ n10_ n11_ n12_;(try clear hb);(try clear hb2);(try clear hk);(try clear hi)))
      go_ret
      exact ⟨by first|rfl|(simp [errW_none,errW_some] <;> rfl)|(simp [*,errW_none,errW_some] <;> rfl),by repeat (first|(with_reducible first|exact HB.out|apply below_alloc|apply pw_below_drewN|apply below_drew1|refine below_set ?_ GE347.out|refine below_set ?_ GE348.out|refine below_set ?_ GE364.out|refine below_set ?_ GE369.out|refine below_set ?_ GE374.out|refine below_set ?_ GE380.out|refine below_set ?_ GE413.out)|exact HB.out)⟩
theorem laws_FnExactMulGrades.calls (k : Nat) (a0_0 : Int) (A0_1 : Option Addr) (c0_1 : Nat) (l0_1 : List Int) (a1_0 : Int) (A1_1 : Option Addr) (c1_1 : Nat) (l1_1 : List Int) (r : Bool) (w : World) (hr0_1 : Kd.C (Kd.int .i64) w A0_1 l0_1.length l0_1) (hc0_1 : l0_1.length ≤ c0_1) (hr1_1 : Kd.C (Kd.int .i64) w A1_1 l1_1.length l1_1) (hc1_1 : l1_1.length ≤ c1_1) (h : laws_FnExactMulGrades.f k a0_0 l0_1 a1_0 l1_1 = some r) :
  Calls Try.prog 6 #[.agg #[.int .i64 a0_0,.slice A0_1 l0_1.length c0_1],.agg #[.int .i64 a1_0,.slice A1_1 l1_1.length c1_1]] w fun e w' => e = .returned (.bool r) ∧ Below w.heap.size w w':=(laws_FnExactMulGrades.p0 k a0_0 A0_1 c0_1 l0_1 a1_0 A1_1 c1_1 l1_1 r w).2 hr0_1 hc0_1 hr1_1 hc1_1 h ⟨(laws_FnExactMulGrades.p1 k a0_0 A0_1 c0_1 l0_1 a1_0 A1_1 c1_1 l1_1 r w).2 ⟨laws_FnExactMulGrades.p2 k a0_0 A0_1 c0_1 l0_1 a1_0 A1_1 c1_1 l1_1 r w⟩⟩
def laws_FnExactMulGrades.Pure : Prop := ∀ (a0_0 : Int) (l0_1 : List Int) (a1_0 : Int) (l1_1 : List Int),(Lit.int .i64 a0_0).wf = true → l0_1.length ≤ maxLen → (∀ x_ ∈ l0_1,(Lit.int .i64 x_).wf = true) → (Lit.int .i64 a1_0).wf = true → l1_1.length ≤ maxLen → (∀ x_ ∈ l1_1,(Lit.int .i64 x_).wf = true) → ∃ k,laws_FnExactMulGrades.f k a0_0 l0_1 a1_0 l1_1 = some true
end Go.Proofs.Ytengegdaiphfeaa.X
end
section
namespace Go.Proofs.Ytengegdaiphfeaa.Y
open Go.RowKit Go.Proofs.Ytengegdaiphfeaa.X Go.Proofs.YtengegdaiphfeaaW.PrintWords Go.Proofs.YtengegdaiphfeaaW.PrintLast Go.Proofs.YtengegdaiphfeaaW.PrintMore
set_option linter.unusedVariables false
set_option linter.unusedSimpArgs false
def L (s : ByteArray) : List UInt8:=s.data.toList
theorem L_size (s : ByteArray) : s.size = (L s).length:=by simp [L]
theorem L_mk (l : List UInt8) : L ⟨l.toArray⟩ = l:=by simp [L]
theorem L_inj {s t : ByteArray} (h : L s = L t) : s = t:=by
 cases s;cases t;simp [L] at h;subst h;rfl
theorem toList_L (s : ByteArray) : s.toList = L s:=ByteArray.toList_eq s
theorem L_extract (s : ByteArray) (a b : Nat) : L (s.extract a b) = ((L s).take b).drop a:=by
 simp [L,ByteArray.data_extract,Array.toList_extract,List.extract,List.drop_take]
theorem L_append (s t : ByteArray) : L (s ++ t) = L s ++ L t:=by simp [L,ByteArray.data_append]
theorem L_nil {s : ByteArray} : s.toList = ([] : List UInt8) ↔ L s = []:=by rw [toList_L]
theorem bt_L (s : ByteArray) (i : Int) : bt s i = (((L s).getD i.toNat 0).toNat : Int):=by
 unfold bt L
 split
 ·next h =>
  have h' : i.toNat < s.data.toList.length:=by simpa using h
  rw [List.getD_eq_getElem?_getD,List.getElem?_eq_getElem h']
  simp;rfl
 ·next h =>
  have h' : s.data.toList.length ≤ i.toNat:=by simpa using h
  rw [List.getD_eq_getElem?_getD,List.getElem?_eq_none h'];rfl
theorem w64 {x : Int} (h0 : -9223372036854775808 ≤ x) (h1 : x ≤ 9223372036854775807) : wrap64 x = x:=by unfold wrap64;omega
theorem _root_.Go.Proofs.YtengegdaiphfeaaW.PrintWords.Ev.is {α : Type} {g : Nat → Option α} {r r' : α} (h : Ev g r) (e : r = r') : Ev g r':=e ▸ h
theorem bt_suffix {s : ByteArray} {u : List UInt8} {c : UInt8} {e : List UInt8} (h : L s = u ++ c :: e) : bt s u.length = (c.toNat : Int):=by
 rw [bt_L,h];simp [List.getD_eq_getElem?_getD]
theorem size_suffix {s : ByteArray} {u e : List UInt8} (h : L s = u ++ e) : s.size = u.length + e.length:=by rw [L_size,h];simp
theorem u8_ne {c d : UInt8} (h : c ≠ d) : ¬ ((c.toNat : Int) = (d.toNat : Int)):=by
 intro e;exact h (UInt8.toNat.inj (by exact_mod_cast e))
end Go.Proofs.Ytengegdaiphfeaa.Y
end
section
namespace Go.Proofs.Ytengegdaiphfeaa.Y
open Go.RowKit Go.Proofs.Ytengegdaiphfeaa.X Go.Proofs.YtengegdaiphfeaaW.PrintWords Go.Proofs.YtengegdaiphfeaaW.PrintLast Go.Proofs.YtengegdaiphfeaaW.PrintMore
set_option linter.unusedVariables false
set_option linter.unusedSimpArgs false
theorem rd_mid (pre : List Int) (x : Int) (t : List Int) : rd (pre ++ x :: t) (pre.length : Int) = x:=by simp [rd,List.getD_eq_getElem?_getD]
theorem rd_nat (l : List Int) (i : Nat) : rd l (i : Int) = l.getD i 0:=by simp [rd]
theorem snoc_len (pre : List Int) (x : Int) : (((pre ++ [x]).length : Nat) : Int) = (pre.length : Int) + 1:=by simp
theorem wf_in {n : Int} (h : (Lit.int .i64 n).wf = true) : -9223372036854775808 ≤ n ∧ n ≤ 9223372036854775807:=by
 have hmin : IntKind.i64.min = -9223372036854775808:=rfl
 have hmax : IntKind.i64.max = 9223372036854775807:=rfl
 simp only [Lit.wf,Bool.and_eq_true,decide_eq_true_eq] at h
 omega
theorem maxLen_eq : maxLen = 9223372036854775807:=rfl
theorem ev_all {α : Type} {f : Nat → Nat → Option α} {g : Nat → α} (n : Nat) (h : ∀ i,i < n → Ev (f i) (g i)) : ∃ K0,∀ K,K0 ≤ K → ∀ i,i < n → f i K = some (g i):=by
 induction n with
 | zero => exact ⟨0,fun _ _ i hi => by omega⟩
 | succ n ih =>
  obtain ⟨K0,h0⟩:=ih (fun i hi => h i (by omega))
  obtain ⟨K1,h1⟩:=h n (by omega)
  refine ⟨max K0 K1,fun K hK i hi => ?_⟩
  by_cases e : i = n
  ·subst e;exact h1 K (by omega)
  ·exact h0 K (by omega) i (by omega)
theorem ev_up {α : Type} {f : Nat → Option α} {p : Nat → Nat → Option α} {r : α} (h : Ev f r) (hp : ∃ K0,∀ K,K0 ≤ K → ∀ j,LeO (f j) (p K (j + 1))) (hm : ∀ K j,LeO (p K j) (p K (j + 1))) : Ev (fun K => p K K) r:=by
 obtain ⟨K1,h1⟩:=h
 obtain ⟨K0,h0⟩:=hp
 refine ⟨max K0 (K1 + 1),fun K hK => ?_⟩
 have a:=h0 K (by omega) K1 r (h1 K1 (Nat.le_refl _))
 exact at_rounds (g:=p K) (hm K) (show K1 + 1 ≤ K by omega) a
theorem ev_some {α : Type} {f : Nat → Option α} {r : α} (h : ∀ k,f k = some r) : Ev f r:=⟨0,fun k _ => h k⟩
theorem up_loop {β : Type} (n : Nat) (L : Nat → Nat → Option β) (r : β) (step : ∀ i,i < n → Ev (L (i + 1)) r → Ev (L i) r) (h : Ev (L n) r) : Ev (L 0) r:=by
 have go : ∀ d,d ≤ n → Ev (L (n - d)) r:=by
  intro d
  induction d with
  | zero => intro _;exact h
  | succ d ih =>
   intro hd
   have e : n - (d + 1) + 1 = n - d:=by omega
   exact step (n - (d + 1)) (by omega) (by rw [e];exact ih (by omega))
 have:=go n (Nat.le_refl _)
 rwa [Nat.sub_self] at this
def tab (N : Nat) (F : Nat → Int) : List Int:=(List.range N).map F
theorem tab_length (N : Nat) (F : Nat → Int) : (tab N F).length = N:=by simp [tab]
theorem tab_snoc (N : Nat) (F : Nat → Int) : tab N F ++ [F N] = tab (N + 1) F:=by simp [tab,List.range_succ]
theorem tab_get (N : Nat) (F : Nat → Int) (j : Nat) (h : j < N) : (tab N F).getD j 0 = F j:=by
 simp [tab,List.getD_eq_getElem?_getD,List.getElem?_map,List.getElem?_range h]
theorem tab_congr (N : Nat) (F G : Nat → Int) (h : ∀ j,j < N → F j = G j) : tab N F = tab N G:=by
 unfold tab
 exact List.map_congr_left (fun j hj => h j (List.mem_range.mp hj))
theorem mem_tab {N : Nat} {F : Nat → Int} {x : Int} : x ∈ tab N F ↔ ∃ j,j < N ∧ F j = x:=by simp [tab]
theorem eq_tab (l : List Int) (N : Nat) (h : l.length = N) : l = tab N (fun j => l.getD j 0):=by
 apply List.ext_getElem
 ·simp [tab,h]
 ·intro i h1 h2
  simp [tab,List.getD_eq_getElem?_getD,List.getElem?_eq_getElem h1]
theorem fold_snoc {β : Type} (n : Nat) (f : β → Nat → β) (b : β) : (List.range (n + 1)).foldl f b = f ((List.range n).foldl f b) n:=by simp [List.range_succ]
end Go.Proofs.Ytengegdaiphfeaa.Y
end
section
namespace Go.Proofs.Ytengegdaiphfeaa.Y
open Go.RowKit Go.Proofs.Ytengegdaiphfeaa.X Go.Proofs.YtengegdaiphfeaaW.PrintWords Go.Proofs.YtengegdaiphfeaaW.PrintLast Go.Proofs.YtengegdaiphfeaaW.PrintMore
set_option linter.unusedVariables false
set_option linter.unusedSimpArgs false
theorem toIntS_ev (l : List Int) (h : l.length ≤ 1048576) : Ev (fun k => laws_toIntS.f k l) l:=by
 have go : ∀ (t pre : List Int),l = pre ++ t → Ev (fun k => laws_toIntS.l0 k l (pre ++ List.replicate t.length 0) (pre.length : Int)) l:=by
  intro t
  induction t with
  | nil =>
   intro pre hl
   refine Ev.step (f:=fun _ => some l) (fun k => ?_) (Ev.now _)
   simp only [laws_toIntS.l0]
   rw [if_neg (by rw [hl];simp)]
   simp [hl]
  | cons x t ih =>
   intro pre hl
   have hlen : l.length = pre.length + (t.length + 1):=by rw [hl];simp
   refine Ev.step (fun k => ?_) (ih (pre ++ [x]) (by simp [hl]))
   simp only [laws_toIntS.l0]
   rw [if_pos (by omega),if_pos (by omega),if_pos (by simp;omega),w64 (by omega) (by omega),hl,rd_mid,snoc_len,← hl]
   congr 1
   simp [List.replicate_succ,List.set_append]
 refine Ev.congr (fun k => ?_) (go l [] rfl)
 unfold laws_toIntS.f
 rw [if_pos (by omega),if_pos (by omega)]
 simp
theorem eqIntS_ev (a b : List Int) (h : a.length ≤ 1000000000) : Ev (fun k => laws_eqIntS.f k a b) (decide (a = b)):=by
 by_cases hl : a.length = b.length
 ·have go : ∀ (t u pre : List Int),a = pre ++ t → b = pre ++ u → Ev (fun k => laws_eqIntS.l0 k a b (pre.length : Int)) (decide (a = b)):=by
   intro t
   induction t with
   | nil =>
    intro u pre ha hb
    have hu : u = []:=by
     have h1:=congrArg List.length ha
     have h2:=congrArg List.length hb
     simp at h1 h2
     exact List.length_eq_zero_iff.mp (by omega)
    subst hu
    have hab : a = b:=by rw [ha,hb]
    refine Ev.step (f:=fun _ => some true) (fun k => ?_) ((Ev.now _).is (by rw [decide_eq_true hab]))
    simp only [laws_eqIntS.l0]
    rw [if_neg (by rw [ha];simp)]
   | cons x t ih =>
    intro u pre ha hb
    have hla : a.length = pre.length + (t.length + 1):=by rw [ha];simp
    cases u with
    | nil => have h2:=congrArg List.length hb;simp at h2;omega
    | cons y u =>
     by_cases hxy : x = y
     ·subst hxy
      refine Ev.step (fun k => ?_) (ih u (pre ++ [x]) (by simp [ha]) (by simp [hb]))
      simp only [laws_eqIntS.l0]
      rw [if_pos (by omega),if_pos (by omega),if_pos (by omega),w64 (by omega) (by omega),snoc_len,if_pos (by rw [ha,hb,rd_mid,rd_mid])]
     ·have hab : ¬ a = b:=by
       intro e
       rw [ha,hb] at e
       have:=List.append_cancel_left e
       simp at this
       exact hxy this.1
      refine Ev.step (f:=fun _ => some false) (fun k => ?_) ((Ev.now _).is (by rw [decide_eq_false hab]))
      simp only [laws_eqIntS.l0]
      rw [if_pos (by omega),if_pos (by omega),if_pos (by omega),if_neg (by rw [ha,hb,rd_mid,rd_mid];exact hxy)]
  refine Ev.congr (fun k => ?_) (go a b [] rfl rfl)
  unfold laws_eqIntS.f
  rw [if_pos (by omega)];rfl
 ·have hab : ¬ a = b:=fun e => hl (by rw [e])
  refine Ev.congr (f:=fun _ => some false) (fun k => ?_) ((Ev.now _).is (by rw [decide_eq_false hab]))
  unfold laws_eqIntS.f
  rw [if_neg (by omega)]
theorem toMatrix_ev (n : Int) (l : List Int) (h : l.length ≤ 1048576) : Ev (fun k => laws_toMatrix.f k n l) (n,l):=by
 refine Ev.congr (f:=?f1) (fun k => ?h1) ?k1
 case h1 => unfold laws_toMatrix.f;exact rfl
 exact Ev.bind (toIntS_ev l h) (Ev.now _)
theorem eqMatrix_ev (n : Int) (l : List Int) (h : l.length ≤ 1000000000) : Ev (fun k => laws_eqMatrix.f k n l n l) true:=by
 refine Ev.congr (f:=?f2) (fun k => ?h2) ?k2
 case h2 => unfold laws_eqMatrix.f;rw [if_pos rfl] <;> exact rfl
 exact Ev.bind (eqIntS_ev l l h) (Ev.congr (f:=fun _ => some true) (fun k => by simp) (Ev.now _))
theorem szMatrix_eq (n : Int) (l : List Int) (z : Int) (h : l.length ≤ maxLen) (h0 : 0 ≤ z) (h1 : z ≤ 1048576) : laws_szMatrix.f n l z = some (if (l.length : Int) ≤ z then z - l.length else -1):=by
 rw [maxLen_eq] at h
 unfold laws_szMatrix.f laws_szIntS.f
 rw [w64 (by omega) (by omega)]
 by_cases hl : (l.length : Int) ≤ z
 ·rw [if_neg (by omega),if_pos hl,Option.bind_some,if_neg (by omega)]
 ·rw [if_pos (by omega),if_neg hl];rfl
theorem Ev_t {α : Type} {f g : Nat → Option α} {r : α} {c : Prop} [Decidable c] (h : c) (k : Ev f r) : Ev (fun n => if c then f n else g n) r:=Ev.congr (fun n => if_pos h) k
theorem Ev_f {α : Type} {f g : Nat → Option α} {r : α} {c : Prop} [Decidable c] (h : ¬ c) (k : Ev g r) : Ev (fun n => if c then f n else g n) r:=Ev.congr (fun n => if_neg h) k
theorem Ev_sz {α : Type} {o : Option Int} {z : Int} {g : Nat → Int → Option α} {r : α} (h : o = some z) (k : Ev (fun n => g n z) r) : Ev (fun n => o.bind (g n)) r:=Ev.congr (fun n => by rw [h];rfl) k
end Go.Proofs.Ytengegdaiphfeaa.Y
end
section
namespace Go.Proofs.Ytengegdaiphfeaa.Y
open Go.RowKit Go.Proofs.Ytengegdaiphfeaa.X Go.Proofs.YtengegdaiphfeaaW.PrintWords Go.Proofs.YtengegdaiphfeaaW.PrintLast Go.Proofs.YtengegdaiphfeaaW.PrintMore
set_option linter.unusedVariables false
set_option linter.unusedSimpArgs false
def okCost (x : Int) : Bool:=decide (0 ≤ x ∧ x ≤ 1000000)
def MV (n : Int) (l : List Int) : Prop:=1 ≤ n ∧ n ≤ 4 ∧ (l.length : Int) = n * n ∧ ∀ x ∈ l,0 ≤ x ∧ x ≤ 1000000
def GV (n : Int) (l : List Int) : Prop:=MV n l ∧ ∀ x ∈ l,x ≤ 3
instance (n : Int) (l : List Int) : Decidable (MV n l):=by unfold MV;infer_instance
instance (n : Int) (l : List Int) : Decidable (GV n l):=by unfold GV;infer_instance
theorem icost (a : Int) : impl_CostValid.f a = some (okCost a):=by
 unfold impl_CostValid.f okCost
 by_cases h : a ≥ 0
 ·rw [if_pos h];by_cases h2 : a ≤ 1000000 <;> simp [h2] <;> omega
 ·rw [if_neg h];simp;omega
theorem scost (a : Int) : spec_CostValid.f a = some (okCost a):=by
 unfold spec_CostValid.f spec_l1In.f okCost
 by_cases h : a ≥ 0
 ·rw [if_pos h];by_cases h2 : a ≤ 1000000 <;> simp [h2] <;> omega
 ·rw [if_neg h];simp;omega
theorem sIn (a lo hi : Int) : spec_l1In.f a lo hi = some (decide (lo ≤ a ∧ a ≤ hi)):=by
 unfold spec_l1In.f
 by_cases h : a ≥ lo
 ·rw [if_pos h];by_cases h2 : a ≤ hi <;> simp [h2] <;> omega
 ·rw [if_neg h];simp;omega
theorem index_ev (q : Int → Bool) (p : Int → Option Bool) (hp : ∀ x,p x = some (q x)) (l : List Int) (h : l.length ≤ maxLen) :
  Ev (fun k => slices_ContainsFunc_int_int.f p k l) (l.any q):=by
 rw [maxLen_eq] at h
 have go : ∀ (t pre : List Int),l = pre ++ t → ∃ z : Int,Ev (fun k => slices_IndexFunc_int_int.l0 p k l (l.length : Int) (pre.length : Int)) z ∧ decide (z ≥ 0) = t.any q:=by
  intro t
  induction t with
  | nil =>
   intro pre hl
   refine ⟨-1,?_,rfl⟩
   refine Ev.step (f:=fun _ => some (-1)) (fun k => ?_) (Ev.now _)
   simp only [slices_IndexFunc_int_int.l0]
   rw [if_neg (by rw [hl];simp)]
  | cons x t ih =>
   intro pre hl
   have hlen : l.length = pre.length + (t.length + 1):=by rw [hl];simp
   have hx : rd l (pre.length : Int) = x:=by rw [hl,rd_mid]
   cases hq : q x with
   | true =>
    refine ⟨pre.length,?_,by simp [hq]⟩
    refine Ev.step (f:=fun _ => some (pre.length : Int)) (fun k => ?_) (Ev.now _)
    simp only [slices_IndexFunc_int_int.l0]
    rw [if_pos (by omega),if_pos (by omega),if_pos (by omega),hx,hp,hq,Option.bind_some,if_pos rfl]
   | false =>
    obtain ⟨z,hz,hd⟩:=ih (pre ++ [x]) (by simp [hl])
    refine ⟨z,?_,by simp [hq,hd]⟩
    refine Ev.step (fun k => ?_) hz
    simp only [slices_IndexFunc_int_int.l0]
    rw [if_pos (by omega),if_pos (by omega),if_pos (by omega),hx,hp,hq,Option.bind_some,if_neg (by simp),w64 (by omega) (by omega),snoc_len]
 obtain ⟨z,hz,hd⟩:=go l [] rfl
 refine Ev.congr (f:=?f1) (fun k => ?h1) ?k1
 case h1 => unfold slices_ContainsFunc_int_int.f slices_IndexFunc_int_int.f;exact rfl
 exact Ev.bind hz (Ev.congr (f:=fun _ => some (l.any q)) (fun k => by rw [hd]) (Ev.now _))
theorem iMV (n : Int) (l : List Int) (hl : l.length ≤ maxLen) : Ev (fun k => impl_MatrixValid.f k n l) (decide (MV n l)):=by
 have no : ∀ f : Nat → Option Bool,(∀ k,f k = some false) → ¬ MV n l → Ev f (decide (MV n l)):=fun f h h2 => (ev_some h).is (by rw [decide_eq_false h2])
 by_cases h1 : n < 1
 ·exact no _ (fun k => by unfold impl_MatrixValid.f;rw [if_pos h1]) (fun h => by unfold MV at h;omega)
 by_cases h2 : n > 4
 ·exact no _ (fun k => by unfold impl_MatrixValid.f;rw [if_neg h1,if_pos h2]) (fun h => by unfold MV at h;omega)
 have hnn : 0 ≤ n * n ∧ n * n ≤ 16:=by
  have : n = 1 ∨ n = 2 ∨ n = 3 ∨ n = 4:=by omega
  rcases this with rfl|rfl|rfl|rfl <;> omega
 by_cases h3 : (l.length : Int) = wrap64 (n * n)
 ·rw [w64 (by omega) (by omega)] at h3
  refine Ev.congr (f:=?f2) (fun k => ?h2) ?k2
  case h2 => unfold impl_MatrixValid.f;rw [if_neg h1,if_neg h2,w64 (x:=n * n) (by omega) (by omega),if_pos h3] <;> exact rfl
  have hq : ∀ x,impl_MatrixValid_1.f x = some (!(okCost x)):=fun x => by unfold impl_MatrixValid_1.f;rw [icost];rfl
  refine Ev.bind (index_ev (fun x => !(okCost x)) _ hq l hl) ?_
  refine (ev_some (fun k => rfl)).is ?_
  rw [Bool.eq_iff_iff]
  simp only [Bool.not_eq_true',List.any_eq_false,Bool.not_eq_true',Bool.not_eq_false,decide_eq_true_eq]
  constructor
  ·intro h;exact ⟨by omega,by omega,h3,fun x hx => by simpa [okCost] using h x hx⟩
  ·intro h x hx;simpa [okCost] using h.2.2.2 x hx
 ·refine no _ (fun k => by unfold impl_MatrixValid.f;rw [if_neg h1,if_neg h2,if_neg h3]) (fun h => ?_)
  rw [w64 (by omega) (by omega)] at h3
  exact h3 h.2.2.1
theorem iGV (n : Int) (l : List Int) (hl : l.length ≤ maxLen) : Ev (fun k => impl_GradesValid.f k n l) (decide (GV n l)):=by
 refine Ev.congr (f:=?f3) (fun k => ?h3) ?k3
 case h3 => unfold impl_GradesValid.f;exact rfl
 refine Ev.bind (iMV n l hl) ?_
 by_cases h : MV n l
 ·refine Ev.congr (f:=?f4) (fun k => ?h4) ?k4
  case h4 => rw [decide_eq_true h,if_pos rfl] <;> exact rfl
  refine Ev.bind (index_ev (fun x => decide (x > 3)) _ (fun x => rfl) l hl) ?_
  refine (ev_some (fun k => rfl)).is ?_
  rw [Bool.eq_iff_iff]
  simp only [Bool.not_eq_true',List.any_eq_false,decide_eq_true_eq]
  exact ⟨fun g => ⟨h,fun x hx => by have:=g x hx;omega⟩,fun g x hx => by have:=g.2 x hx;omega⟩
 ·refine (ev_some (fun k => ?_)).is (by rw [decide_eq_false (fun g : GV n l => h g.1)])
  rw [decide_eq_false h];rfl
theorem sAll_ev (l : List Int) (h : l.length ≤ maxLen) : Ev (fun k => spec_l1All.f k l) (l.all okCost):=by
 rw [maxLen_eq] at h
 have go : ∀ (t pre : List Int),l = pre ++ t → Ev (fun k => spec_l1All.l0 k l (l.length : Int) (pre.length : Int)) (t.all okCost):=by
  intro t
  induction t with
  | nil =>
   intro pre hl
   refine Ev.step (f:=fun _ => some true) (fun k => ?_) (Ev.now _)
   simp only [spec_l1All.l0];rw [if_neg (by rw [hl];simp)]
  | cons x t ih =>
   intro pre hl
   have hlen : l.length = pre.length + (t.length + 1):=by rw [hl];simp
   have hx : rd l (pre.length : Int) = x:=by rw [hl,rd_mid]
   cases hq : okCost x with
   | true =>
    refine Ev.step (fun k => ?_) ((ih (pre ++ [x]) (by simp [hl])).is (by simp [hq]))
    simp only [spec_l1All.l0]
    rw [if_pos (by omega),if_pos (by omega),if_pos (by omega),hx,scost,hq,Option.bind_some,if_pos rfl,w64 (by omega) (by omega),snoc_len]
   | false =>
    refine Ev.step (f:=fun _ => some false) (fun k => ?_) ((Ev.now _).is (by simp [hq]))
    simp only [spec_l1All.l0]
    rw [if_pos (by omega),if_pos (by omega),if_pos (by omega),hx,scost,hq,Option.bind_some,if_neg (by simp)]
 exact go l [] rfl
theorem sMV (n : Int) (l : List Int) (hl : l.length ≤ maxLen) : Ev (fun k => spec_MatrixValid.f k n l) (decide (MV n l)):=by
 have no : ∀ f : Nat → Option Bool,(∀ k,f k = some false) → ¬ MV n l → Ev f (decide (MV n l)):=fun f h h2 => (ev_some h).is (by rw [decide_eq_false h2])
 by_cases h1 : 1 ≤ n ∧ n ≤ 4
 ·have hnn : 0 ≤ n * n ∧ n * n ≤ 16:=by
   have : n = 1 ∨ n = 2 ∨ n = 3 ∨ n = 4:=by omega
   rcases this with rfl|rfl|rfl|rfl <;> omega
  by_cases h3 : (l.length : Int) = n * n
  ·refine Ev.congr (f:=?f5) (fun k => ?h5) ?k5
   case h5 => unfold spec_MatrixValid.f;rw [sIn,decide_eq_true h1,Option.bind_some,if_pos rfl,w64 (x:=n * n) (by omega) (by omega),if_pos h3] <;> exact rfl
   refine Ev.bind (sAll_ev l hl) ((ev_some (fun k => rfl)).is ?_)
   rw [Bool.eq_iff_iff]
   simp only [List.all_eq_true,decide_eq_true_eq]
   exact ⟨fun g => ⟨h1.1,h1.2,h3,fun x hx => by simpa [okCost] using g x hx⟩,fun g x hx => by simpa [okCost] using g.2.2.2 x hx⟩
  ·exact no _ (fun k => by unfold spec_MatrixValid.f;rw [sIn,decide_eq_true h1,Option.bind_some,if_pos rfl,w64 (x:=n * n) (by omega) (by omega),if_neg h3]) (fun h => h3 h.2.2.1)
 ·exact no _ (fun k => by unfold spec_MatrixValid.f;rw [sIn,decide_eq_false h1];rfl) (fun h => h1 ⟨h.1,h.2.1⟩)
theorem sGV (n : Int) (l : List Int) (hl : l.length ≤ maxLen) : Ev (fun k => spec_GradesValid.f k n l) (decide (GV n l)):=by
 have hm:=hl
 rw [maxLen_eq] at hm
 have go : ∀ (t pre : List Int),l = pre ++ t → Ev (fun k => spec_GradesValid.l0 k l (l.length : Int) (pre.length : Int) n l) (decide ((∀ x ∈ t,0 ≤ x ∧ x ≤ 3) ∧ MV n l)):=by
  intro t
  induction t with
  | nil =>
   intro pre hp
   refine Ev.step (f:=?f6) (fun k => ?h6) ?k6
   case h6 => simp only [spec_GradesValid.l0];rw [if_neg (by rw [hp];simp)] <;> exact rfl
   exact Ev.bind (sMV n l hl) ((ev_some (fun k => rfl)).is (by simp))
  | cons x t ih =>
   intro pre hp
   have hlen : l.length = pre.length + (t.length + 1):=by rw [hp];simp
   have hx : rd l (pre.length : Int) = x:=by rw [hp,rd_mid]
   by_cases hq : 0 ≤ x ∧ x ≤ 3
   ·refine Ev.step (fun k => ?_) ((ih (pre ++ [x]) (by simp [hp])).is ?_)
    ·simp only [spec_GradesValid.l0]
     rw [if_pos (by omega),if_pos (by omega),if_pos (by omega),hx,sIn,decide_eq_true hq,Option.bind_some,if_pos rfl,w64 (by omega) (by omega),snoc_len]
    ·simp [hq.1,hq.2]
   ·refine Ev.step (f:=fun _ => some false) (fun k => ?_) ((Ev.now _).is ?_)
    ·simp only [spec_GradesValid.l0]
     rw [if_pos (by omega),if_pos (by omega),if_pos (by omega),hx,sIn,decide_eq_false hq,Option.bind_some,if_neg (by simp)]
    ·symm;rw [decide_eq_false_iff_not];intro h;exact hq (h.1 x (by simp))
 refine (go l [] rfl).is ?_
 rw [Bool.eq_iff_iff]
 simp only [decide_eq_true_eq]
 exact ⟨fun h => ⟨h.2,fun x hx => (h.1 x hx).2⟩,fun h => ⟨fun x hx => ⟨(h.1.2.2.2 x hx).1,h.2 x hx⟩,h.1⟩⟩
end Go.Proofs.Ytengegdaiphfeaa.Y
end
section
namespace Go.Proofs.Ytengegdaiphfeaa.Y
open Go.RowKit Go.Proofs.Ytengegdaiphfeaa.X Go.Proofs.YtengegdaiphfeaaW.PrintWords Go.Proofs.YtengegdaiphfeaaW.PrintLast Go.Proofs.YtengegdaiphfeaaW.PrintMore
set_option linter.unusedVariables false
set_option linter.unusedSimpArgs false
theorem div_mod_at (n i k : Nat) (hk : k < n) : (i * n + k) / n = i ∧ (i * n + k) % n = k:=by
 have hn : 0 < n:=by omega
 constructor
 ·rw [Nat.mul_comm,Nat.mul_add_div hn,Nat.div_eq_of_lt hk,Nat.add_zero]
 ·rw [Nat.mul_comm,Nat.mul_add_mod,Nat.mod_eq_of_lt hk]
theorem cell_lt (n i k : Nat) (hi : i < n) (hk : k < n) : i * n + k < n * n:=by
 have : (i + 1) * n ≤ n * n:=Nat.mul_le_mul_right n hi
 rw [Nat.succ_mul] at this
 omega
theorem sq_le (n : Nat) (h : n ≤ 4) : n * n ≤ 16:=by
 have:=Nat.mul_le_mul h h
 omega
theorem row_le (n i : Nat) (hn : n ≤ 4) (hi : i ≤ n) : i * n ≤ 16:=by
 have:=Nat.mul_le_mul (Nat.le_trans hi hn) hn
 omega
def cutF (n : Nat) (g : Nat → Nat → Int) : Int → Int → Option Int:=fun i k => if 0 ≤ i ∧ i < n ∧ 0 ≤ k ∧ k < n then some (g i.toNat k.toNat) else none
theorem cutF_at (n : Nat) (g : Nat → Nat → Int) (i k : Nat) (hi : i < n) (hk : k < n) : cutF n g (i : Int) (k : Int) = some (g i k):=by
 unfold cutF;rw [if_pos (by omega)];simp
def sqL (n : Nat) (g : Nat → Nat → Int) : List Int:=tab (n * n) (fun m => g (m / n) (m % n))
theorem sqL_get (n : Nat) (g : Nat → Nat → Int) (i k : Nat) (hi : i < n) (hk : k < n) : (sqL n g).getD (i * n + k) 0 = g i k:=by
 unfold sqL
 rw [tab_get _ _ _ (cell_lt n i k hi hk)]
 obtain ⟨h1,h2⟩:=div_mod_at n i k hk
 rw [h1,h2]
theorem sqL_congr (n : Nat) (g h : Nat → Nat → Int) (e : ∀ i k,i < n → k < n → g i k = h i k) : sqL n g = sqL n h:=by
 refine tab_congr _ _ _ (fun j hj => e _ _ (Nat.div_lt_of_lt_mul hj) (Nat.mod_lt _ ?_))
 rcases n with _|n
 ·simp at hj
 ·omega
theorem eq_sqL (n : Nat) (l : List Int) (h : l.length = n * n) : l = sqL n (fun i k => l.getD (i * n + k) 0):=by
 refine (eq_tab l _ h).trans (tab_congr _ _ _ (fun j _ => ?_))
 show l.getD j 0 = l.getD (j / n * n + j % n) 0
 rw [Nat.mul_comm,Nat.div_add_mod]
theorem filled_cut (n : Nat) (hn : n ≤ 4) (g : Nat → Nat → Int) : Ev (fun j => impl_filled.f (cutF n g) j (n : Int)) ((n : Int),sqL n g):=by
 have inner : ∀ (i : Nat) (r : Int × List Int),i < n → Ev (fun j => impl_filled.l0 (cutF n g) j n n ((i + 1 : Nat) : Int) n (tab ((i + 1) * n) (fun m => g (m / n) (m % n)))) r →
   Ev (fun j => impl_filled.l0 (cutF n g) j n n (i : Int) n (tab (i * n) (fun m => g (m / n) (m % n)))) r:=by
  intro i r hi h
  refine Ev.step (f:=fun j => impl_filled.l1 (cutF n g) j n i n i n ((0 : Nat) : Int) n (tab (i * n + 0) (fun m => g (m / n) (m % n)))) (fun k => ?_) ?_
  ·simp only [impl_filled.l0];rw [if_pos (by omega)];rfl
  refine up_loop n (fun k j => impl_filled.l1 (cutF n g) j n i n i n (k : Int) n (tab (i * n + k) (fun m => g (m / n) (m % n)))) r (fun k hk hs => ?_) ?_
  ·refine Ev.step (fun j => ?_) hs
   simp only [impl_filled.l1]
   have hr:=row_le n i hn (by omega)
   obtain ⟨h1,h2⟩:=div_mod_at n i k hk
   rw [if_pos (by omega),cutF_at n g i k hi hk,Option.bind_some,tab_length,if_pos (by omega),w64 (by omega) (by omega)]
   have e : tab (i * n + k) (fun m => g (m / n) (m % n)) ++ [g i k] = tab (i * n + (k + 1)) (fun m => g (m / n) (m % n)):=by
    rw [← Nat.add_assoc,← tab_snoc,h1,h2]
   rw [e];rfl
  ·refine Ev.step (fun j => ?_) h
   simp only [impl_filled.l1]
   rw [if_neg (by omega),w64 (by omega) (by omega),Nat.succ_mul];rfl
 refine Ev.congr (f:=fun j => impl_filled.l0 (cutF n g) j n n ((0 : Nat) : Int) n (tab (0 * n) (fun m => g (m / n) (m % n)))) (fun k => ?_) ?_
 ·unfold impl_filled.f;simp [tab]
 refine up_loop n (fun i j => impl_filled.l0 (cutF n g) j n n (i : Int) n (tab (i * n) (fun m => g (m / n) (m % n)))) _ (fun i hi hs => inner i _ hi hs) ?_
 refine Ev.step (f:=fun _ => some ((n : Int),sqL n g)) (fun j => ?_) (Ev.now _)
 simp only [impl_filled.l0]
 rw [if_neg (by omega)];rfl
theorem filled_ev (n : Nat) (hn : n ≤ 4) (g : Nat → Nat → Int) (p : Nat → Int → Int → Option Int) (h : ∀ i,i < n → ∀ k,k < n → Ev (fun K => p K (i : Int) (k : Int)) (g i k)) :
  Ev (fun K => impl_filled.f (p K) K (n : Int)) ((n : Int),sqL n g):=by
 have h2 : ∀ i,i < n → ∃ K0,∀ K,K0 ≤ K → ∀ k,k < n → p K (i : Int) (k : Int) = some (g i k):=fun i hi => ev_all n (fun k hk => h i hi k hk)
 have h3 : ∃ K0,∀ K,K0 ≤ K → ∀ i,i < n → ∀ k,k < n → p K (i : Int) (k : Int) = some (g i k):=by
  have : ∀ m,m ≤ n → ∃ K0,∀ K,K0 ≤ K → ∀ i,i < m → ∀ k,k < n → p K (i : Int) (k : Int) = some (g i k):=by
   intro m
   induction m with
   | zero => intro _;exact ⟨0,fun _ _ i hi => by omega⟩
   | succ m ih =>
    intro hm
    obtain ⟨a,ha⟩:=ih (by omega)
    obtain ⟨b,hb⟩:=h2 m (by omega)
    refine ⟨max a b,fun K hK i hi k hk => ?_⟩
    by_cases e : i = m
    ·subst e;exact hb K (by omega) k hk
    ·exact ha K (by omega) i (by omega) k hk
  exact this n (Nat.le_refl _)
 obtain ⟨K0,hK0⟩:=h3
 refine ev_up (f:=fun j => impl_filled.f (cutF n g) j (n : Int)) (p:=fun K j => impl_filled.f (p K) j (n : Int)) (filled_cut n hn g) ⟨K0,fun K hK j => ?_⟩ (fun K j => impl_filled.mono (p K) _ j)
 refine impl_filled.monoP (fun y0 y1 r hr => ?_) _ j
 unfold cutF at hr
 by_cases hc : 0 ≤ y0 ∧ y0 < n ∧ 0 ≤ y1 ∧ y1 < n
 ·rw [if_pos hc] at hr
  have e0 : ((y0.toNat : Nat) : Int) = y0:=by omega
  have e1 : ((y1.toNat : Nat) : Int) = y1:=by omega
  have:=hK0 K hK y0.toNat (by omega) y1.toNat (by omega)
  rw [e0,e1] at this
  rw [this];exact hr
 ·rw [if_neg hc] at hr;cases hr
theorem at_eq (n : Nat) (hn : n ≤ 4) (l : List Int) (hl : l.length = n * n) (i k : Nat) (hi : i < n) (hk : k < n) : impl_Matrix_at.f (n : Int) l (i : Int) (k : Int) = some (l.getD (i * n + k) 0):=by
 have hc:=cell_lt n i k hi hk
 have hr:=row_le n i hn (by omega)
 have e : wrap64 (wrap64 ((i : Int) * (n : Int)) + k) = ((i * n + k : Nat) : Int):=by
  have : (i : Int) * (n : Int) = ((i * n : Nat) : Int):=by simp
  rw [this,w64 (x:=((i * n : Nat) : Int)) (by omega) (by omega),w64 (by omega) (by omega)];simp
 unfold impl_Matrix_at.f
 rw [e,if_pos (by omega),if_pos (by omega),rd_nat]
def mulE (n : Nat) (a b : List Int) (i k : Nat) : Int:=(List.range n).foldl (fun acc l => mn acc (mx (a.getD (i * n + l) 0) (b.getD (l * n + k) 0))) 3
def mulL (n : Nat) (a b : List Int) : List Int:=sqL n (mulE n a b)
theorem mulL_length (n : Nat) (a b : List Int) : (mulL n a b).length = n * n:=by simp [mulL,sqL,tab_length]
theorem iMulCell (n : Nat) (hn : n ≤ 4) (a b : List Int) (ha : a.length = n * n) (hb : b.length = n * n) (i k : Nat) (hi : i < n) (hk : k < n) :
  Ev (fun K => impl_MulGrades_1.f K (i : Int) (k : Int) (n : Int) a (n : Int) b) (mulE n a b i k):=by
 refine up_loop n (fun l K => impl_MulGrades_1.l0 K i k ((List.range l).foldl (fun acc l => mn acc (mx (a.getD (i * n + l) 0) (b.getD (l * n + k) 0))) 3) n (l : Int) n a n b) _ (fun l hl hs => ?_) ?_
 ·refine Ev.step (fun j => ?_) hs
  simp only [impl_MulGrades_1.l0]
  rw [if_pos (by omega),at_eq n hn a ha i l hi hl,Option.bind_some,at_eq n hn b hb l k hl hk,Option.bind_some,w64 (by omega) (by omega),fold_snoc];rfl
 ·refine Ev.step (f:=fun _ => some (mulE n a b i k)) (fun j => ?_) (Ev.now _)
  simp only [impl_MulGrades_1.l0]
  rw [if_neg (by omega)];rfl
theorem GV_len {n : Nat} {l : List Int} (h : GV (n : Int) l) : l.length = n * n:=by
 have:=h.1.2.2.1
 exact_mod_cast this
theorem GV_le {n : Nat} {l : List Int} (h : GV (n : Int) l) : n ≤ 4 ∧ 1 ≤ n:=by
 have h1:=h.1.1
 have h2:=h.1.2.1
 omega
theorem GV_nat {n : Int} {l : List Int} (h : GV n l) : ∃ m : Nat,n = (m : Int):=⟨n.toNat,by have:=h.1.1;omega⟩
theorem iMul (n : Nat) (a b : List Int) (ha : GV n a) (hb : GV n b) : Ev (fun k => impl_MulGrades.f k n a n b) ((n : Int),mulL n a b,true):=by
 have hn:=(GV_le ha).1
 have hla:=GV_len ha
 have hlb:=GV_len hb
 have hs:=sq_le n hn
 have hm : ∀ l : List Int,l.length = n * n → l.length ≤ maxLen:=fun l h => by rw [maxLen_eq];omega
 refine Ev.congr (f:=?f1) (fun k => ?h1) ?k1
 case h1 => unfold impl_MulGrades.f;exact rfl
 refine Ev.bind (iGV n a (hm a hla)) ?_
 refine Ev.congr (f:=?f2) (fun k => ?h2) ?k2
 case h2 => rw [decide_eq_true ha,if_pos rfl] <;> exact rfl
 refine Ev.bind (iGV n b (hm b hlb)) ?_
 refine Ev.congr (f:=?f3) (fun k => ?h3) ?k3
 case h3 => rw [decide_eq_true hb,if_pos rfl,if_pos rfl] <;> exact rfl
 refine Ev.bind (a:=((n : Int),mulL n a b)) ?_ (Ev.now _)
 exact filled_ev n hn (mulE n a b) (fun K y0 y1 => impl_MulGrades_1.f K y0 y1 n a n b) (fun i hi k hk => iMulCell n hn a b hla hlb i k hi hk)
def mulR (n : Int) (a : List Int) (m : Int) (b : List Int) : Int × List Int × Bool:=if GV n a ∧ GV m b ∧ n = m then (n,mulL n.toNat a b,true) else (0,[],false)
theorem iMul_any (n : Int) (a : List Int) (m : Int) (b : List Int) (ha : a.length ≤ maxLen) (hb : b.length ≤ maxLen) : Ev (fun k => impl_MulGrades.f k n a m b) (mulR n a m b):=by
 by_cases h : GV n a ∧ GV m b ∧ n = m
 ·obtain ⟨h1,h2,rfl⟩:=h
  obtain ⟨z,rfl⟩:=GV_nat h1
  refine (iMul z a b h1 h2).is ?_
  unfold mulR;rw [if_pos ⟨h1,h2,rfl⟩];rfl
 ·have hr : mulR n a m b = (0,[],false):=by unfold mulR;rw [if_neg h]
  rw [hr]
  refine Ev.congr (f:=?f4) (fun k => ?h4) ?k4
  case h4 => unfold impl_MulGrades.f;exact rfl
  refine Ev.bind (iGV n a ha) ?_
  by_cases h1 : GV n a
  ·refine Ev.congr (f:=?f5) (fun k => ?h5) ?k5
   case h5 => rw [decide_eq_true h1,if_pos rfl] <;> exact rfl
   refine Ev.bind (iGV m b hb) ?_
   by_cases h2 : GV m b
   ·exact ev_some (fun k => by rw [decide_eq_true h2,if_pos rfl,if_neg (fun e => h ⟨h1,h2,e⟩)])
   ·exact ev_some (fun k => by rw [decide_eq_false h2];rfl)
  ·exact ev_some (fun k => by rw [decide_eq_false h1];rfl)
theorem tdiv_nat (m n : Nat) : Int.tdiv (m : Int) (n : Int) = ((m / n : Nat) : Int):=by rw [Int.tdiv_eq_ediv_of_nonneg (by omega)];simp
theorem tmod_nat (m n : Nat) : Int.tmod (m : Int) (n : Int) = ((m % n : Nat) : Int):=by rw [Int.tmod_eq_emod_of_nonneg (by omega)];simp
theorem idx1 (n m l : Nat) (hn : n ≤ 4) (hi : m / n < n) (hl : l < n) : wrap64 (wrap64 (wrap64 (Int.tdiv (m : Int) (n : Int)) * (n : Int)) + l) = ((m / n * n + l : Nat) : Int):=by
 have r1:=row_le n (m / n) hn (by omega)
 rw [tdiv_nat]
 obtain ⟨q,hq⟩ : ∃ q : Nat,m / n = q:=⟨_,rfl⟩
 rw [hq] at hi r1 ⊢
 have h1 : ((q : Nat) : Int) * (n : Int) = ((q * n : Nat) : Int):=by simp
 obtain ⟨s,hs⟩ : ∃ s : Nat,q * n = s:=⟨_,rfl⟩
 rw [w64 (x:=((q : Nat) : Int)) (by omega) (by omega),h1]
 rw [hs] at r1 ⊢
 clear h1 hs hq
 rw [w64 (x:=((s : Nat) : Int)) (by omega) (by omega),w64 (by omega) (by omega)];simp
theorem idx2 (n m l : Nat) (hn : n ≤ 4) (hk : m % n < n) (hl : l < n) : wrap64 (wrap64 ((l : Int) * (n : Int)) + Int.tmod (m : Int) (n : Int)) = ((l * n + m % n : Nat) : Int):=by
 have r2:=row_le n l hn (by omega)
 rw [tmod_nat]
 obtain ⟨q,hq⟩ : ∃ q : Nat,m % n = q:=⟨_,rfl⟩
 rw [hq] at hk ⊢
 have h1 : (l : Int) * (n : Int) = ((l * n : Nat) : Int):=by simp
 obtain ⟨s,hs⟩ : ∃ s : Nat,l * n = s:=⟨_,rfl⟩
 rw [h1]
 rw [hs] at r2 ⊢
 clear h1 hs hq
 rw [w64 (x:=((s : Nat) : Int)) (by omega) (by omega),w64 (by omega) (by omega)];simp
theorem sMul (n : Nat) (hn : n ≤ 4) (h0 : 1 ≤ n) (a b : List Int) (hla : a.length = n * n) (hlb : b.length = n * n) : Ev (fun k => spec_l6Mul.f k n a n b) ((n : Int),mulL n a b):=by
 have hs:=sq_le n hn
 have e0 : wrap64 ((n : Int) * (n : Int)) = ((n * n : Nat) : Int):=by
  have : (n : Int) * (n : Int) = ((n * n : Nat) : Int):=by simp
  rw [this,w64 (by omega) (by omega)]
 refine Ev.congr (f:=fun k => spec_l6Mul.l0 k ((n * n : Nat) : Int) ((0 : Nat) : Int) n a n b n (tab 0 (fun m => mulE n a b (m / n) (m % n)))) (fun k => ?_) ?_
 ·unfold spec_l6Mul.f;rw [e0];simp [tab]
 refine up_loop (n * n) (fun m k => spec_l6Mul.l0 k ((n * n : Nat) : Int) (m : Int) n a n b n (tab m (fun m => mulE n a b (m / n) (m % n)))) _ (fun m hm hnext => ?_) ?_
 ·have hi : m / n < n:=Nat.div_lt_of_lt_mul hm
  have hk : m % n < n:=Nat.mod_lt _ (by omega)
  refine Ev.step (f:=fun k => spec_l6Mul.l1 k m ((List.range 0).foldl (fun acc l => mn acc (mx (a.getD (m / n * n + l) 0) (b.getD (l * n + m % n) 0))) 3) ((n * n : Nat) : Int) m n ((0 : Nat) : Int) n a n b n (tab m (fun m => mulE n a b (m / n) (m % n)))) (fun k => ?_) ?_
  ·simp only [spec_l6Mul.l0];rw [if_pos (by omega)];rfl
  refine up_loop n (fun l k => spec_l6Mul.l1 k m ((List.range l).foldl (fun acc l => mn acc (mx (a.getD (m / n * n + l) 0) (b.getD (l * n + m % n) 0))) 3) ((n * n : Nat) : Int) m n (l : Int) n a n b n (tab m (fun m => mulE n a b (m / n) (m % n)))) _ (fun l hl hs2 => ?_) ?_
  ·refine Ev.step (fun j => ?_) hs2
   have c1:=cell_lt n (m / n) l hi hl
   have c2:=cell_lt n l (m % n) hl hk
   have r1:=row_le n (m / n) hn (by omega)
   have r2:=row_le n l hn (by omega)
   have hA : (l : Int) < (n : Int):=by omega
   have hB : ¬ (n : Int) = 0:=by omega
   have hC : (((m / n * n + l : Nat)) : Int) < (a.length : Int):=by rw [hla];exact_mod_cast c1
   have hD : (((l * n + m % n : Nat)) : Int) < (b.length : Int):=by rw [hlb];exact_mod_cast c2
   have hE : wrap64 ((l : Int) + 1) = ((l + 1 : Nat) : Int):=by rw [w64 (by omega) (by omega)];rfl
   have e1:=idx1 n m l hn hi hl
   have e2:=idx2 n m l hn hk hl
   simp only [spec_l6Mul.l1]
   rw [if_pos hA,if_neg hB,e1,e2,if_pos (Int.natCast_nonneg _),if_pos hC,if_pos (Int.natCast_nonneg _),if_pos hD,rd_nat,rd_nat,hE,fold_snoc]
  ·refine Ev.step (fun j => ?_) hnext
   simp only [spec_l6Mul.l1]
   rw [if_neg (by omega),tab_length,if_pos (by omega),w64 (by omega) (by omega)]
   have e : tab m (fun m => mulE n a b (m / n) (m % n)) ++ [mulE n a b (m / n) (m % n)] = tab (m + 1) (fun m => mulE n a b (m / n) (m % n)):=tab_snoc m (fun m => mulE n a b (m / n) (m % n))
   show spec_l6Mul.l0 j _ _ _ _ _ _ _ (tab m (fun m => mulE n a b (m / n) (m % n)) ++ [mulE n a b (m / n) (m % n)]) = _
   rw [e];rfl
 ·refine Ev.step (f:=fun _ => some ((n : Int),mulL n a b)) (fun j => ?_) (Ev.now _)
  simp only [spec_l6Mul.l0]
  rw [if_neg (by omega)];rfl
theorem sMul_any (n : Int) (a : List Int) (m : Int) (b : List Int) (ha : a.length ≤ maxLen) (hb : b.length ≤ maxLen) : Ev (fun k => spec_MulGrades.f k n a m b) (mulR n a m b):=by
 refine Ev.congr (f:=?f6) (fun k => ?h6) ?k6
 case h6 => unfold spec_MulGrades.f;exact rfl
 refine Ev.bind (sGV n a ha) ?_
 by_cases h1 : GV n a
 ·refine Ev.congr (f:=?f7) (fun k => ?h7) ?k7
  case h7 => rw [decide_eq_true h1,if_pos rfl] <;> exact rfl
  refine Ev.bind (sGV m b hb) ?_
  by_cases h2 : GV m b
  ·by_cases e : n = m
   ·subst e
    obtain ⟨z,rfl⟩:=GV_nat h1
    refine Ev.congr (f:=?f8) (fun k => ?h8) ?k8
    case h8 => rw [decide_eq_true h2,if_pos rfl,if_pos rfl] <;> exact rfl
    refine Ev.bind (sMul z (GV_le h1).1 (GV_le h1).2 a b (GV_len h1) (GV_len h2)) ((Ev.now _).is ?_)
    unfold mulR;rw [if_pos ⟨h1,h2,rfl⟩];rfl
   ·refine ev_some (fun k => ?_)
    rw [decide_eq_true h2,if_pos rfl,if_neg e];unfold mulR;rw [if_neg (fun h => e h.2.2)]
  ·refine ev_some (fun k => ?_)
   rw [decide_eq_false h2,if_neg (by simp)];unfold mulR;rw [if_neg (fun h => h2 h.2.1)]
 ·refine ev_some (fun k => ?_)
  rw [decide_eq_false h1,if_neg (by simp)];unfold mulR;rw [if_neg (fun h => h1 h.1)]
end Go.Proofs.Ytengegdaiphfeaa.Y
end
section
namespace Go.Proofs.Ytengegdaiphfeaa.Y
open Go.RowKit Go.Proofs.Ytengegdaiphfeaa.X Go.Proofs.YtengegdaiphfeaaW.PrintWords Go.Proofs.YtengegdaiphfeaaW.PrintLast Go.Proofs.YtengegdaiphfeaaW.PrintMore
set_option linter.unusedVariables false
set_option linter.unusedSimpArgs false
def count : Int → Nat → List Int
 | _,0 => []
 | k,n + 1 => k :: count (k + 1) n
theorem count_length (n : Nat) : ∀ k,(count k n).length = n:=by induction n with
 | zero => intro k;rfl
 | succ n ih => intro k;simp [count,ih]
theorem markIntS_ev (l : List Int) (c : Int) (h : l.length ≤ 1000000000) (h0 : 0 ≤ c) (h1 : c ≤ 1000000000) : Ev (fun k => laws_markIntS.f k l c) (c + l.length,count c l.length):=by
 have go : ∀ (t pre : List Int) (m : Int),pre.length + t.length = l.length → m = c + pre.length → Ev (fun k => laws_markIntS.l0 k (pre ++ t) m (pre.length : Int)) (c + l.length,pre ++ count m t.length):=by
  intro t
  induction t with
  | nil =>
   intro pre m hl hm
   refine Ev.step (f:=fun _ => some (m,pre)) (fun k => ?_) ((Ev.now _).is ?_)
   ·simp only [laws_markIntS.l0];rw [if_neg (by simp)];simp
   ·simp at hl;simp [count];omega
  | cons x t ih =>
   intro pre m hl hm
   simp at hl
   have i:=ih (pre ++ [m]) (m + 1) (by simp;omega) (by simp;omega)
   refine Ev.step (fun k => ?_) (i.is (by simp [count]))
   simp only [laws_markIntS.l0]
   rw [if_pos (by simp;omega),if_pos (by omega),w64 (by omega) (by omega),w64 (by omega) (by omega),snoc_len]
   congr 1
   simp [List.set_append]
 exact (go l [] c (by simp) (by simp))
theorem heldIntS_ev (n : Nat) (c : Int) (h : n ≤ 1000000000) (h0 : 0 ≤ c) (h1 : c ≤ 1000000000) : Ev (fun k => laws_heldIntS.f k (count c n) c) (c + n):=by
 have go : ∀ (m : Nat) (pre : List Int) (z : Int),pre.length + m = n → z = c + pre.length → Ev (fun k => laws_heldIntS.l0 k (pre ++ count z m) z (pre.length : Int)) (c + n):=by
  intro m
  induction m with
  | zero =>
   intro pre z hl hz
   refine Ev.step (f:=fun _ => some z) (fun k => ?_) ((Ev.now _).is (by omega))
   simp only [laws_heldIntS.l0];rw [if_neg (by simp [count])]
  | succ m ih =>
   intro pre z hl hz
   have i:=ih (pre ++ [z]) (z + 1) (by simp;omega) (by simp;omega)
   show Ev (fun k => laws_heldIntS.l0 k (pre ++ z :: count (z + 1) m) z (pre.length : Int)) (c + n)
   refine Ev.step (fun k => ?_) i
   simp only [laws_heldIntS.l0]
   rw [if_pos (by simp [count_length];omega),if_pos (by omega),if_pos (by rw [rd_mid]),w64 (by omega) (by omega),w64 (by omega) (by omega),snoc_len]
   simp
 exact go n [] c (by simp) (by simp)
theorem markMatrix_ev (n : Int) (l : List Int) (c : Int) (h : l.length ≤ 1000000000) (h0 : 0 ≤ c) (h1 : c ≤ 1000000000) : Ev (fun k => laws_markMatrix.f k n l c) (c + l.length,count c l.length):=by
 refine Ev.congr (f:=?f1) (fun k => ?h1) ?k1
 case h1 => unfold laws_markMatrix.f;exact rfl
 exact Ev.bind (markIntS_ev l c h h0 h1) (Ev.now _)
theorem heldMatrix_ev (n : Int) (m : Nat) (c : Int) (h : m ≤ 1000000000) (h0 : 0 ≤ c) (h1 : c ≤ 1000000000) : Ev (fun k => laws_heldMatrix.f k n (count c m) c) (c + m):=by
 refine Ev.congr (f:=?f2) (fun k => ?h2) ?k2
 case h2 => unfold laws_heldMatrix.f;exact rfl
 exact Ev.bind (heldIntS_ev m c h h0 h1) (Ev.congr (f:=fun _ => some (c + m)) (fun k => by rw [if_neg (by omega)]) (Ev.now _))
end Go.Proofs.Ytengegdaiphfeaa.Y
end
