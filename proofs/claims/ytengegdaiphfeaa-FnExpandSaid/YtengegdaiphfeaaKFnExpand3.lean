import Derived.Test.YtengegdaiphfeaaKFnExpand2
import Derived.Test.YtengegdaiphfeaaKFnExpand1
section
namespace Go.Proofs.Ytengegdaiphfeaa.X
open Go.RowKit Go.Proofs.YtengegdaiphfeaaW.PrintWords Go.Proofs.YtengegdaiphfeaaW.PrintLast Go.Proofs.YtengegdaiphfeaaW.PrintMore
attribute [local go_sem] max2_int min2_int max_two min_two max_three min_three max_four min_four
set_option linter.unusedVariables false
set_option linter.unusedSimpArgs false
set_option maxHeartbeats 8000000 in
set_option maxRecDepth 100000 in
noncomputable def laws_FnExpand.p5 (k : Nat) (A0 : Option Addr) (c0 : Nat) (l0 : List Int) (A1 : Option Addr) (c1 : Nat) (l1 : List Int) (r : Bool) (w : World) : { G_ : Prop // Aside0 G_ → (laws_FnExpand.p4 k A0 c0 l0 A1 c1 l1 r w).1 }:=⟨_,fun hG_5 => by
 intros HR0 HC0 HR1 HC1 zz0_0 zz0_1 zz0_2 x27_2 zz0_180 kj2 HJ2 zz0_181 zz3_0 zz0_360 kj4 HJ4 zz0_361 zz0_362 zz0_363 zz0_364 zz0_365 zz0_366 zz0_367 zz0_368 zz0_369 zz0_370 zz0_371 zz0_372 zz0_373 zz0_374 zz0_375 zz0_376 zz0_377 zz0_378 zz0_379 zz0_380 zz0_381 zz0_382 zz0_383 zz0_384 zz0_385 zz0_386 zz0_387 zz0_388 zz0_389 zz0_390 zz0_391 zz0_392 zz0_393 zz0_394 zz0_395 zz0_396 zz0_397 zz0_398 zz0_399 zz0_400 zz0_401 zz0_402 zz0_403 zz0_404 zz0_405 zz0_406 zz0_407 zz0_408 zz0_409 zz0_410 zz0_411 zz0_412 zz0_413 zz0_414 zz0_415 zz0_416 zz0_417 zz0_418 zz0_419 zz0_420 zz0_421 zz0_422 zz0_423 zz0_424 zz0_425 zz0_426 zz0_427 zz0_428 zz0_429 zz0_430 zz0_431 zz0_432 zz0_433 zz0_434 zz0_435 zz0_436 zz0_437 zz0_438 zz0_439 zz0_440 zz0_441 zz0_442 zz0_443 zz0_444 zz0_445 zz0_446 zz0_447 zz0_448 zz0_449 zz0_450 zz0_451 zz0_452 zz0_453 zz0_454 zz0_455 zz0_456 zz0_457 zz0_458 zz0_459 zz0_460 zz0_461 zz0_462 zz0_463 zz0_464 zz0_465 zz0_466 zz0_467 zz0_468 zz0_469 zz0_470 zz0_471 zz0_472 zz0_473 zz0_474 zz0_475 zz0_476 zz0_477 zz0_478 zz0_479 zz0_480 zz0_481 zz0_482 zz0_483 zz0_484 zz0_485 zz0_486 zz0_487 zz0_488 zz0_489 zz0_490 zz0_491 zz0_492 zz0_493 zz0_494 zz0_495 zz0_496 zz0_497 zz0_498 zz0_499 zz0_500 zz0_501 zz0_502 zz0_503 zz0_504 zz0_505 zz0_506 zz0_507 zz0_508 zz0_509 zz0_510 zz0_511 zz0_512 zz0_513 zz0_514 zz0_515 zz0_516 zz0_517 zz0_518 zz0_519 zz0_520 zz0_521 zz0_522 zz0_523 zz0_524 zz0_525 zz0_526 zz0_527 zz0_528 zz0_529 zz0_530 zz0_531 zz0_532 zz0_533 zz0_534 zz0_535 zz0_536 zz0_537 zz0_538 zz0_539 x5_6 x6_6 zz1_0 kj6 HJ6 zz1_1 zz1_2 zz1_3 zz1_4 zz1_5 zz1_6 zz1_7 zz1_8 zz1_9 zz1_10 zz1_11 zz1_12 zz1_13 zz1_14 zz1_15 zz1_16 zz1_17 zz1_18 zz1_19 zz1_20 zz1_21 zz1_22 zz1_23 zz1_24 zz1_25 zz1_26 zz1_27 zz1_28 zz1_29 zz1_30 zz1_31 zz1_32 zz1_33 zz1_34 zz1_35 zz1_36 zz1_37 zz1_38 zz1_39 zz1_40 zz1_41 zz1_42 zz1_43 zz1_44 zz1_45 zz1_46 zz1_47 zz1_48 zz1_49 zz1_50 zz1_51 zz1_52 zz1_53 zz1_54 zz1_55 zz1_56 zz1_57 zz1_58 zz1_59 zz1_60 zz1_61 zz1_62 zz1_63 zz1_64 zz1_65 zz1_66 zz1_67 zz1_68 zz1_69 zz1_70 zz1_71 zz1_72 zz1_73 zz1_74 zz1_75 zz1_76 zz1_77 zz1_78 zz1_79 zz1_80 zz1_81 zz1_82 zz1_83 zz1_84 zz1_85 zz1_86 zz1_87 zz1_88 zz1_89 zz1_90 zz1_91 zz1_92 zz1_93 zz1_94 zz1_95 zz1_96 zz1_97 zz1_98 zz1_99 zz1_100 zz1_101 zz1_102 zz1_103 zz1_104 zz1_105 zz1_106 zz1_107 zz1_108 zz1_109 zz1_110 zz1_111 zz1_112 zz1_113 zz1_114 zz1_115 zz1_116 zz1_117 zz1_118 zz1_119 zz1_120 zz1_121 zz1_122 zz1_123 zz1_124 zz1_125 zz1_126 zz1_127 zz1_128 zz1_129 zz1_130 zz1_131 zz1_132 zz1_133 zz1_134 zz1_135 zz1_136 zz1_137 zz1_138 zz1_139 zz1_140 zz1_141 zz1_142 zz1_143 zz1_144 zz1_145 zz1_146 zz1_147 zz1_148 zz1_149 zz1_150 zz1_151 zz1_152 zz1_153 zz1_154 zz1_155 zz1_156 zz1_157 zz1_158 zz1_159 zz1_160 zz1_161 zz1_162 zz1_163 zz1_164 zz1_165 zz1_166 zz1_167 zz1_168 zz1_169 zz1_170 zz1_171 zz1_172 zz1_173 zz1_174 zz1_175 zz1_176 zz1_177 zz1_178 zz1_179 x7_9 x8_9 zz2_0 kj9 HJ9 zz2_1 zz2_2 zz2_3 zz2_4 zz2_5 zz2_6 zz2_7 zz2_8 zz2_9 zz2_10 zz2_11 zz2_12 zz2_13 zz2_14 zz2_15 zz2_16 zz2_17 zz2_18 zz2_19 zz2_20 zz2_21 zz2_22 zz2_23 zz2_24 zz2_25 zz2_26 zz2_27 zz2_28 zz2_29 zz2_30 zz2_31 zz2_32 zz2_33 zz2_34 zz2_35 zz2_36 zz2_37 zz2_38 zz2_39 zz2_40 zz2_41 zz2_42 zz2_43 zz2_44 zz2_45 zz2_46 zz2_47 zz2_48 zz2_49 zz2_50 zz2_51 zz2_52 zz2_53 zz2_54 zz2_55 zz2_56 zz2_57 zz2_58 zz2_59 zz2_60 zz2_61 zz2_62 zz2_63 zz2_64 zz2_65 zz2_66 zz2_67 zz2_68 zz2_69 zz2_70 zz2_71 zz2_72 zz2_73 zz2_74 zz2_75 zz2_76 zz2_77 zz2_78 zz2_79 zz2_80 zz2_81 zz2_82 zz2_83 zz2_84 zz2_85 zz2_86 zz2_87 zz2_88 zz2_89 zz2_90 zz2_91 zz2_92 zz2_93 zz2_94 zz2_95 zz2_96 zz2_97 zz2_98 zz2_99 zz2_100 zz2_101 zz2_102 zz2_103 zz2_104 zz2_105 zz2_106 zz2_107 zz2_108 zz2_109 zz2_110 zz2_111 zz2_112 zz2_113 zz2_114 zz2_115 zz2_116 zz2_117 zz2_118 zz2_119 zz2_120 zz2_121 zz2_122 zz2_123 zz2_124 zz2_125 zz2_126 zz2_127 zz2_128 zz2_129 zz2_130 zz2_131 zz2_132 zz2_133 zz2_134 zz2_135 zz2_136 zz2_137 zz2_138 zz2_139 zz2_140 zz2_141 zz2_142 zz2_143 zz2_144 zz2_145 zz2_146 zz2_147 zz2_148 zz2_149 zz2_150 zz2_151 zz2_152 zz2_153 zz2_154 zz2_155 zz2_156 zz2_157 zz2_158 zz2_159 zz2_160 zz2_161 zz2_162 zz2_163 zz2_164 zz2_165 zz2_166 zz2_167 zz2_168 zz2_169 zz2_170 zz2_171 zz2_172 zz2_173 zz2_174 zz2_175 zz2_176 zz2_177 zz2_178 zz2_179 x9_12 x10_12 zz3_1 kj12 HJ12 zz3_2 zz3_3 zz3_4 zz3_5 zz3_6 zz3_7 zz3_8 zz3_9 zz3_10 zz3_11 zz3_12 zz3_13 zz3_14 zz3_15 zz3_16 zz3_17 zz3_18 zz3_19 zz3_20 zz3_21 zz3_22 zz3_23 zz3_24 zz3_25 zz3_26 zz3_27 zz3_28 zz3_29 zz3_30 zz3_31 zz3_32 zz3_33 zz3_34 zz3_35 zz3_36 zz3_37 zz3_38 zz3_39 zz3_40 zz3_41 zz3_42 zz3_43 zz3_44 zz3_45 zz3_46 zz3_47 zz3_48 zz3_49 zz3_50 zz3_51 zz3_52 zz3_53 zz3_54 zz3_55 zz3_56 zz3_57 zz3_58 zz3_59 zz3_60 zz3_61 zz3_62 zz3_63 zz3_64 zz3_65 zz3_66 zz3_67 zz3_68 zz3_69 zz3_70 zz3_71 zz3_72 zz3_73 zz3_74 zz3_75 zz3_76 zz3_77 zz3_78 zz3_79 zz3_80 zz3_81 zz3_82 zz3_83 zz3_84 zz3_85 zz3_86 zz3_87 zz3_88 zz3_89 zz3_90 zz3_91 zz3_92 zz3_93 zz3_94 zz3_95 zz3_96 zz3_97 zz3_98 zz3_99 zz3_100 zz3_101 zz3_102 zz3_103 zz3_104 zz3_105 zz3_106 zz3_107 zz3_108 zz3_109 zz3_110 zz3_111 zz3_112 zz3_113 zz3_114 zz3_115 zz3_116 zz3_117 zz3_118 zz3_119 zz3_120 zz3_121 zz3_122 zz3_123 zz3_124 zz3_125 zz3_126 zz3_127 zz3_128 zz3_129 zz3_130 zz3_131 zz3_132 zz3_133 zz3_134 zz3_135 zz3_136 zz3_137 zz3_138 zz3_139 zz3_140 zz3_141 zz3_142 zz3_143 zz3_144 zz3_145 zz3_146 zz3_147 zz3_148 zz3_149 zz3_150 zz3_151 zz3_152 zz3_153 zz3_154 zz3_155 zz3_156 zz3_157 zz3_158 zz3_159 zz3_160 zz3_161 zz3_162 zz3_163 zz3_164 zz3_165 zz3_166 zz3_167 zz3_168 zz3_169 zz3_170 zz3_171 zz3_172 zz3_173 zz3_174 zz3_175 zz3_176 zz3_177 zz3_178 zz3_179 x70_14 zz4_0 kj14 HJ14 zz4_1 u4 zz4_180 kj30 HJ30 zz4_181 zz4_182 zz4_183 zz4_184 zz4_185 zz4_186 zz4_187 zz4_188 zz4_189 zz4_190 zz4_191 zz4_192 zz4_193 zz4_194 zz4_195 zz4_196 zz4_197 zz4_198 zz4_199 zz4_200 zz4_201 zz4_202 zz4_203 zz4_204 zz4_205 zz4_206 zz4_207 zz4_208 zz4_209 zz4_210 zz4_211 zz4_212 zz4_213 zz4_214 zz4_215 zz4_216 zz4_217 zz4_218 zz4_219 zz4_220 zz4_221 zz4_222 zz4_223 zz4_224 zz4_225 zz4_226 zz4_227 zz4_228 zz4_229 zz4_230 zz4_231 zz4_232 zz4_233 zz4_234 zz4_235 zz4_236 zz4_237 zz4_238 zz4_239 zz4_240 zz4_241 zz4_242 zz4_243 zz4_244 zz4_245 zz4_246 zz4_247 zz4_248 zz4_249 zz4_250 zz4_251 zz4_252 zz4_253 zz4_254 zz4_255 zz4_256 zz4_257 zz4_258 zz4_259 zz4_260 zz4_261 zz4_262 zz4_263 zz4_264 zz4_265 zz4_266 zz4_267 zz4_268 zz4_269 zz4_270 zz4_271 zz4_272 zz4_273 zz4_274 zz4_275 zz4_276 zz4_277 zz4_278 zz4_279 zz4_280 zz4_281 zz4_282 zz4_283 zz4_284 zz4_285 zz4_286 zz4_287 zz4_288 zz4_289 zz4_290 zz4_291 zz4_292 zz4_293 zz4_294 zz4_295 zz4_296 zz4_297 zz4_298 zz4_299 zz4_300 zz4_301 zz4_302 zz4_303 zz4_304 zz4_305 zz4_306 zz4_307 zz4_308 zz4_309 zz4_310 zz4_311 zz4_312 zz4_313 zz4_314 zz4_315 zz4_316 zz4_317 zz4_318 zz4_319 zz4_320 zz4_321 zz4_322 zz4_323 zz4_324 zz4_325 zz4_326 zz4_327 zz4_328 zz4_329 zz4_330 zz4_331 zz4_332 zz4_333 zz4_334 zz4_335 zz4_336 zz4_337 zz4_338 zz4_339 zz4_340 zz4_341 zz4_342 zz4_343 zz4_344 zz4_345 zz4_346 zz4_347 zz4_348 zz4_349 zz4_350 zz4_351 zz4_352 zz4_353 zz4_354 zz4_355 zz4_356 zz4_357 zz4_358 zz4_359 x11_47 HB kj47 HJ47 HC51 zz4_360 zz4_361 wc u12 u13 u20 u21 u22 u23 u24 u25 u26 u27 u28 u29 u30 u31 u32 u33 u34 u35 u36 u37 u38 u39 u40 u41 u42 u43 u44 u45 u46 u47 u48 u49 u50 u51 u52 u53 u54 u55 u56 u57 u58 u59 u60 u61 u62 u63 u64 u65 u66 u67 u68 u69 u70 u71 u72 u73 u74 u75 u76 u77 u78 u79 u80 u81 u82 u83 u84 u85 u86 u87 u88 u89 u90 u91 u92 u93 u94 u95 u96 u97 u98 u99 u100 u101 u102 u103 u104 u105 u106 u107 u108 u109 u110 u111 u112 u113 u114 u115 u116 u117 u118 u119 u120 u121 u122 u123 u124 u125 u128 u129 u130 u131 u132 u133 u134 u135 u136 u137 u138 u139 u140 u141 u142 u143 u144 u145 u146 u147 u148 u149 u150 u151 u152 u153 u154 u155 u156 u157 u158 u159 u160 u161 u162 u163 u164 u165 u166 u167 u168 u169 u170 u171 u172 u173 u174 u175 u176 u177 u178 u179 u180 u181 u182 u183 u184 u185 u186 u187 u188 u189 u190 u191 u192 u193 u194 u195 u196 u197 u198 u199 hcut
 clear HC51
 try clear c1
 try clear c2
 try clear p2
 try clear c3
 try clear c4
 try clear c4b0
 try clear c4b1
 try clear c6
 try clear c14
 try clear c16
 try clear c16b0
 try clear c16b1
 try clear c17
 try clear c17b0
 try clear c17b1
 try clear c17b2
 try clear c20
 try clear c20b0
 try clear c20b1
 try clear c20b2
 try clear c24
 try clear c24b0
 try clear c24b1
 try clear c32
 try clear c33
 try clear c33b0
 try clear c33b1
 try clear c34
 try clear c34b0
 try clear c34b1
 try clear c34b2
 try clear c37
 try clear c37b0
 try clear c37b1
 try clear c37b2
 try clear c40
 try clear c40b0
 try clear c40b1
 try clear c41
 try clear c42
 try clear c43
 try clear c48
 try clear p2
 obtain ⟨kq,x12_50,x13_50,rfl,rfl,HA,HJ50,HB⟩:=hcut
 cases kq with
 | zero => exact absurd HA.out (by simp [laws_FnExpand.j8])
 | succ kj50 =>
  have H:=HA.out
  clear HA
  simp only [laws_FnExpand.j8] at H
  have HC54:=Aside0.mk H
  clear H
  go_upto_region 10 with (fail)
  go_cut [14,15] (fun v14 v15 wc => ∃ (kq : Nat) (x14_53 : ByteArray) (x15_53 : Bool),v14 = .string x14_53 ∧ v15 = .bool x15_53 ∧ Aside0 (laws_FnExpand.j9 kq x5_6 x6_6 x7_9 x11_47 x12_50 x13_50 x14_53 x15_53 = some r) ∧ Aside0 (kq ≤ kj50) ∧ Aside0 (Below w.heap.size w wc))
  case first =>
   have H:=HC54.out
   clear HC54
   by_cases c55 : x5_6.size + x11_47.size ≤ 9223372036854775807
   ·rw [if_pos c55] at H
    have c55b0:=eq_true c55
    have c55b1 : decide (x5_6.size + x11_47.size ≤ 9223372036854775807) = true:=decide_eq_true c55
    try have c55b2 : (9223372036854775807 < x5_6.size + x11_47.size) = False:=eq_false (Nat.not_lt.2 c55)
    replace H:=Option.bind_eq_some_iff.mp H
    obtain ⟨⟨t1007,t1008⟩,A560,H⟩:=H
    replace H : (laws_FnExpand.j9 kj50 x5_6 x6_6 x7_9 x11_47 x12_50 x13_50 t1007 t1008) = some r:=H
    have A56:=Aside0.mk A560
    clear A560
    have H':=Aside0.mk H
    clear H
    go_wp2_with (first|((with_reducible refine gate_callee (f:=42) rfl ?_);refine goesL_ (some 110) rfl rfl Try.func42 (by kernel_rfl) rfl #[.string (x5_6 ++ x11_47),.int .i64 x6_6] rfl lp_ ?_;(with_reducible refine (impl_ExpandExpression.calls kj50 (x5_6 ++ x11_47) x6_6 t1007 t1008 _ A56.out).mono ?_);rintro e w57 ⟨rfl,hb⟩;refine ⟨_,rfl,?_⟩;have n0_:=Aside0.mk (below_step (be0_ HB.out) hb);clear HB;have HB:=n0_;clear n0_;(try clear hb);(try clear hb2);(try clear hk);(try clear hi)))
    go_meet
    case rel => exact ⟨_,(t1007),(t1008),(by first|rfl|(simp;done)|(simp [*];done)),(by first|rfl|(simp;done)|(simp [*];done)),H',⟨by have:=HJ2.out;have:=HJ4.out;have:=HJ6.out;have:=HJ9.out;have:=HJ12.out;have:=HJ14.out;have:=HJ30.out;have:=HJ47.out;have:=HJ50.out;first|omega|exact Nat.le_refl _⟩,⟨be0_ HB.out⟩⟩
   ·rw [if_neg c55] at H
    exact absurd H (by simp)
  case rest =>
   clear HC54
   try clear c1
   try clear c2
   try clear p2
   try clear c3
   try clear c4
   try clear c4b0
   try clear c4b1
   try clear c5
   try clear c6
   try clear c14
   try clear c16
   try clear c16b0
   try clear c16b1
   try clear c17
   try clear c17b0
   try clear c17b1
   try clear c17b2
   try clear c20
   try clear c20b0
   try clear c20b1
   try clear c20b2
   try clear c24
   try clear c24b0
   try clear c24b1
   try clear c32
   try clear c33
   try clear c33b0
   try clear c33b1
   try clear c34
   try clear c34b0
   try clear c34b1
   try clear c34b2
   try clear c37
   try clear c37b0
   try clear c37b1
   try clear c37b2
   try clear c40
   try clear c40b0
   try clear c40b1
   try clear c41
   try clear c42
   try clear c43
   try clear c48
   try clear c55
   try clear c55b0
   try clear c55b1
   try clear c55b2
   try clear p2
   obtain ⟨kq,x14_53,x15_53,rfl,rfl,HA,HJ53,HB⟩:=hcut
   cases kq with
   | zero => exact absurd HA.out (by simp [laws_FnExpand.j9])
   | succ kj53 =>
    have H:=HA.out
    clear HA
    simp only [laws_FnExpand.j9] at H
    have HC58:=Aside0.mk H
    clear H
    go_upto_region 11 with (fail)
    go_cut [16] (fun v16 wc => ∃ (kq : Nat) (x16_57 : ByteArray),v16 = .string x16_57 ∧ Aside0 (laws_FnExpand.j10 kq x5_6 x6_6 x7_9 x11_47 x12_50 x13_50 x14_53 x15_53 x16_57 = some r) ∧ Aside0 (kq ≤ kj53) ∧ Aside0 (Below w.heap.size w wc))
    case first =>
     have H:=HC58.out
     clear HC58
     replace H:=Option.bind_eq_some_iff.mp H
     obtain ⟨t1009,A590,H⟩:=H
     replace H : (laws_FnExpand.j10 kj53 x5_6 x6_6 x7_9 x11_47 x12_50 x13_50 x14_53 x15_53 t1009) = some r:=H
     have A59:=Aside0.mk A590
     clear A590
     have H':=Aside0.mk H
     clear H
     go_wp2_with (first|((with_reducible refine gate_callee (f:=49) rfl ?_);refine goesL_ (some 114) rfl rfl Try.func49 (by kernel_rfl) rfl #[.string x5_6] rfl lp_ ?_;(with_reducible refine (impl_RepeatExpression.calls kj53 x5_6 t1009 _ A59.out).mono ?_);rintro e w60 ⟨rfl,hb⟩;refine ⟨_,rfl,?_⟩;have n0_:=Aside0.mk (below_step (be0_ HB.out) hb);clear HB;have HB:=n0_;clear n0_;(try clear hb);(try clear hb2);(try clear hk);(try clear hi)))
     go_meet
     case rel => exact ⟨_,(t1009),(by first|rfl|(simp;done)|(simp [*];done)),H',⟨by have:=HJ2.out;have:=HJ4.out;have:=HJ6.out;have:=HJ9.out;have:=HJ12.out;have:=HJ14.out;have:=HJ30.out;have:=HJ47.out;have:=HJ50.out;have:=HJ53.out;first|omega|exact Nat.le_refl _⟩,⟨be0_ HB.out⟩⟩
    case rest =>
     rename_i zz5_0 zz5_1 zz5_2 zz5_3 zz5_4 zz5_5 zz5_6 zz5_7 zz5_8 zz5_9 zz5_10 zz5_11 zz5_12 zz5_13 zz5_14 zz5_15 zz5_16 zz5_17 zz5_18 zz5_19 zz5_20 zz5_21 zz5_22 zz5_23 zz5_24 zz5_25 zz5_26 zz5_27 zz5_28 zz5_29 zz5_30 zz5_31 zz5_32 zz5_33 zz5_34 zz5_35 zz5_36 zz5_37 zz5_38 zz5_39 zz5_40 zz5_41 zz5_42 zz5_43 zz5_44 zz5_45 zz5_46 zz5_47 zz5_48 zz5_49 zz5_50 zz5_51 zz5_52 zz5_53 zz5_54 zz5_55 zz5_56 zz5_57 zz5_58 zz5_59 zz5_60 zz5_61 zz5_62 zz5_63 zz5_64 zz5_65 zz5_66 zz5_67 zz5_68 zz5_69 zz5_70 zz5_71 zz5_72 zz5_73 zz5_74 zz5_75 zz5_76 zz5_77 zz5_78 zz5_79 zz5_80 zz5_81 zz5_82 zz5_83 zz5_84 zz5_85 zz5_86 zz5_87 zz5_88 zz5_89 zz5_90 zz5_91 zz5_92 zz5_93 zz5_94 zz5_95 zz5_96 zz5_97 zz5_98 zz5_99 zz5_100 zz5_101 zz5_102 zz5_103 zz5_104 zz5_105 zz5_106 zz5_107 zz5_108 zz5_109 zz5_110 zz5_111 zz5_112 zz5_113 zz5_114 zz5_115 zz5_116 zz5_117 zz5_118 zz5_119 zz5_120 zz5_121 zz5_122 zz5_123 zz5_124 zz5_125 zz5_126 zz5_127 zz5_128 zz5_129 zz5_130 zz5_131 zz5_132 zz5_133 zz5_134 zz5_135 zz5_136 zz5_137 zz5_138 zz5_139 zz5_140 zz5_141 zz5_142 zz5_143 zz5_144 zz5_145 zz5_146 zz5_147 zz5_148 zz5_149 zz5_150 zz5_151 zz5_152 zz5_153 zz5_154 zz5_155 zz5_156 zz5_157 zz5_158 zz5_159 zz5_160 zz5_161 zz5_162 zz5_163 zz5_164 zz5_165 zz5_166 zz5_167 zz5_168 zz5_169 zz5_170 zz5_171 zz5_172 zz5_173 zz5_174 zz5_175 zz5_176 zz5_177 zz5_178 zz5_179 zz5_180 zz5_181 zz5_182 zz5_183 zz5_184 zz5_185 zz5_186 zz5_187 zz5_188 zz5_189 zz5_190 zz5_191 zz5_192 zz5_193 zz5_194 zz5_195 zz5_196 zz5_197 zz5_198 zz5_199 zz5_200 zz5_201 zz5_202 zz5_203 zz5_204 zz5_205 zz5_206 zz5_207 zz5_208 zz5_209 zz5_210 zz5_211 zz5_212 zz5_213 zz5_214 zz5_215 zz5_216 zz5_217 zz5_218 zz5_219 zz5_220 zz5_221 zz5_222 zz5_223 zz5_224 zz5_225 zz5_226 zz5_227 zz5_228 zz5_229 zz5_230 zz5_231 zz5_232 zz5_233 zz5_234 zz5_235 zz5_236 zz5_237 zz5_238 zz5_239 zz5_240 zz5_241 zz5_242 zz5_243 zz5_244 zz5_245 zz5_246 zz5_247 zz5_248 zz5_249 zz5_250 zz5_251 zz5_252 zz5_253 zz5_254 zz5_255 zz5_256 zz5_257 zz5_258 zz5_259 zz5_260 zz5_261 zz5_262 zz5_263 zz5_264 zz5_265 zz5_266 zz5_267 zz5_268 zz5_269 zz5_270 zz5_271 zz5_272 zz5_273 zz5_274 zz5_275 zz5_276 zz5_277 zz5_278 zz5_279 zz5_280 zz5_281 zz5_282 zz5_283 zz5_284 zz5_285 zz5_286 zz5_287 zz5_288 zz5_289 zz5_290 zz5_291 zz5_292 zz5_293 zz5_294 zz5_295 zz5_296 zz5_297 zz5_298 zz5_299 zz5_300 zz5_301 zz5_302 zz5_303 zz5_304 zz5_305 zz5_306 zz5_307 zz5_308 zz5_309 zz5_310 zz5_311 zz5_312 zz5_313 zz5_314 zz5_315 zz5_316 zz5_317 zz5_318 zz5_319 zz5_320 zz5_321 zz5_322 zz5_323 zz5_324 zz5_325 zz5_326 zz5_327 zz5_328 zz5_329 zz5_330 zz5_331 zz5_332 zz5_333 zz5_334 zz5_335 zz5_336 zz5_337 zz5_338 zz5_339 zz5_340 zz5_341 zz5_342 zz5_343 zz5_344 zz5_345 zz5_346 zz5_347 zz5_348 zz5_349 zz5_350 zz5_351 zz5_352 zz5_353 zz5_354 zz5_355 zz5_356 zz5_357 zz5_358 zz5_359 zz5_360 zz5_361
     revert HR0 HC0 HR1 HC1 zz0_0 zz0_1 zz0_2 x27_2 zz0_180 kj2 HJ2 zz0_181 zz3_0 zz0_360 kj4 HJ4 zz0_361 zz0_362 zz0_363 zz0_364 zz0_365 zz0_366 zz0_367 zz0_368 zz0_369 zz0_370 zz0_371 zz0_372 zz0_373 zz0_374 zz0_375 zz0_376 zz0_377 zz0_378 zz0_379 zz0_380 zz0_381 zz0_382 zz0_383 zz0_384 zz0_385 zz0_386 zz0_387 zz0_388 zz0_389 zz0_390 zz0_391 zz0_392 zz0_393 zz0_394 zz0_395 zz0_396 zz0_397 zz0_398 zz0_399 zz0_400 zz0_401 zz0_402 zz0_403 zz0_404 zz0_405 zz0_406 zz0_407 zz0_408 zz0_409 zz0_410 zz0_411 zz0_412 zz0_413 zz0_414 zz0_415 zz0_416 zz0_417 zz0_418 zz0_419 zz0_420 zz0_421 zz0_422 zz0_423 zz0_424 zz0_425 zz0_426 zz0_427 zz0_428 zz0_429 zz0_430 zz0_431 zz0_432 zz0_433 zz0_434 zz0_435 zz0_436 zz0_437 zz0_438 zz0_439 zz0_440 zz0_441 zz0_442 zz0_443 zz0_444 zz0_445 zz0_446 zz0_447 zz0_448 zz0_449 zz0_450 zz0_451 zz0_452 zz0_453 zz0_454 zz0_455 zz0_456 zz0_457 zz0_458 zz0_459 zz0_460 zz0_461 zz0_462 zz0_463 zz0_464 zz0_465 zz0_466 zz0_467 zz0_468 zz0_469 zz0_470 zz0_471 zz0_472 zz0_473 zz0_474 zz0_475 zz0_476 zz0_477 zz0_478 zz0_479 zz0_480 zz0_481 zz0_482 zz0_483 zz0_484 zz0_485 zz0_486 zz0_487 zz0_488 zz0_489 zz0_490 zz0_491 zz0_492 zz0_493 zz0_494 zz0_495 zz0_496 zz0_497 zz0_498 zz0_499 zz0_500 zz0_501 zz0_502 zz0_503 zz0_504 zz0_505 zz0_506 zz0_507 zz0_508 zz0_509 zz0_510 zz0_511 zz0_512 zz0_513 zz0_514 zz0_515 zz0_516 zz0_517 zz0_518 zz0_519 zz0_520 zz0_521 zz0_522 zz0_523 zz0_524 zz0_525 zz0_526 zz0_527 zz0_528 zz0_529 zz0_530 zz0_531 zz0_532 zz0_533 zz0_534 zz0_535 zz0_536 zz0_537 zz0_538 zz0_539 x5_6 x6_6 zz1_0 kj6 HJ6 zz1_1 zz1_2 zz1_3 zz1_4 zz1_5 zz1_6 zz1_7 zz1_8 zz1_9 zz1_10 zz1_11 zz1_12 zz1_13 zz1_14 zz1_15 zz1_16 zz1_17 zz1_18 zz1_19 zz1_20 zz1_21 zz1_22 zz1_23 zz1_24 zz1_25 zz1_26 zz1_27 zz1_28 zz1_29 zz1_30 zz1_31 zz1_32 zz1_33 zz1_34 zz1_35 zz1_36 zz1_37 zz1_38 zz1_39 zz1_40 zz1_41 zz1_42 zz1_43 zz1_44 zz1_45 zz1_46 zz1_47 zz1_48 zz1_49 zz1_50 zz1_51 zz1_52 zz1_53 zz1_54 zz1_55 zz1_56 zz1_57 zz1_58 zz1_59 zz1_60 zz1_61 zz1_62 zz1_63 zz1_64 zz1_65 zz1_66 zz1_67 zz1_68 zz1_69 zz1_70 zz1_71 zz1_72 zz1_73 zz1_74 zz1_75 zz1_76 zz1_77 zz1_78 zz1_79 zz1_80 zz1_81 zz1_82 zz1_83 zz1_84 zz1_85 zz1_86 zz1_87 zz1_88 zz1_89 zz1_90 zz1_91 zz1_92 zz1_93 zz1_94 zz1_95 zz1_96 zz1_97 zz1_98 zz1_99 zz1_100 zz1_101 zz1_102 zz1_103 zz1_104 zz1_105 zz1_106 zz1_107 zz1_108 zz1_109 zz1_110 zz1_111 zz1_112 zz1_113 zz1_114 zz1_115 zz1_116 zz1_117 zz1_118 zz1_119 zz1_120 zz1_121 zz1_122 zz1_123 zz1_124 zz1_125 zz1_126 zz1_127 zz1_128 zz1_129 zz1_130 zz1_131 zz1_132 zz1_133 zz1_134 zz1_135 zz1_136 zz1_137 zz1_138 zz1_139 zz1_140 zz1_141 zz1_142 zz1_143 zz1_144 zz1_145 zz1_146 zz1_147 zz1_148 zz1_149 zz1_150 zz1_151 zz1_152 zz1_153 zz1_154 zz1_155 zz1_156 zz1_157 zz1_158 zz1_159 zz1_160 zz1_161 zz1_162 zz1_163 zz1_164 zz1_165 zz1_166 zz1_167 zz1_168 zz1_169 zz1_170 zz1_171 zz1_172 zz1_173 zz1_174 zz1_175 zz1_176 zz1_177 zz1_178 zz1_179 x7_9 x8_9 zz2_0 kj9 HJ9 zz2_1 zz2_2 zz2_3 zz2_4 zz2_5 zz2_6 zz2_7 zz2_8 zz2_9 zz2_10 zz2_11 zz2_12 zz2_13 zz2_14 zz2_15 zz2_16 zz2_17 zz2_18 zz2_19 zz2_20 zz2_21 zz2_22 zz2_23 zz2_24 zz2_25 zz2_26 zz2_27 zz2_28 zz2_29 zz2_30 zz2_31 zz2_32 zz2_33 zz2_34 zz2_35 zz2_36 zz2_37 zz2_38 zz2_39 zz2_40 zz2_41 zz2_42 zz2_43 zz2_44 zz2_45 zz2_46 zz2_47 zz2_48 zz2_49 zz2_50 zz2_51 zz2_52 zz2_53 zz2_54 zz2_55 zz2_56 zz2_57 zz2_58 zz2_59 zz2_60 zz2_61 zz2_62 zz2_63 zz2_64 zz2_65 zz2_66 zz2_67 zz2_68 zz2_69 zz2_70 zz2_71 zz2_72 zz2_73 zz2_74 zz2_75 zz2_76 zz2_77 zz2_78 zz2_79 zz2_80 zz2_81 zz2_82 zz2_83 zz2_84 zz2_85 zz2_86 zz2_87 zz2_88 zz2_89 zz2_90 zz2_91 zz2_92 zz2_93 zz2_94 zz2_95 zz2_96 zz2_97 zz2_98 zz2_99 zz2_100 zz2_101 zz2_102 zz2_103 zz2_104 zz2_105 zz2_106 zz2_107 zz2_108 zz2_109 zz2_110 zz2_111 zz2_112 zz2_113 zz2_114 zz2_115 zz2_116 zz2_117 zz2_118 zz2_119 zz2_120 zz2_121 zz2_122 zz2_123 zz2_124 zz2_125 zz2_126 zz2_127 zz2_128 zz2_129 zz2_130 zz2_131 zz2_132 zz2_133 zz2_134 zz2_135 zz2_136 zz2_137 zz2_138 zz2_139 zz2_140 zz2_141 zz2_142 zz2_143 zz2_144 zz2_145 zz2_146 zz2_147 zz2_148 zz2_149 zz2_150 zz2_151 zz2_152 zz2_153 zz2_154 zz2_155 zz2_156 zz2_157 zz2_158 zz2_159 zz2_160 zz2_161 zz2_162 zz2_163 zz2_164 zz2_165 zz2_166 zz2_167 zz2_168 zz2_169 zz2_170 zz2_171 zz2_172 zz2_173 zz2_174 zz2_175 zz2_176 zz2_177 zz2_178 zz2_179 x9_12 x10_12 zz3_1 kj12 HJ12 zz3_2 zz3_3 zz3_4 zz3_5 zz3_6 zz3_7 zz3_8 zz3_9 zz3_10 zz3_11 zz3_12 zz3_13 zz3_14 zz3_15 zz3_16 zz3_17 zz3_18 zz3_19 zz3_20 zz3_21 zz3_22 zz3_23 zz3_24 zz3_25 zz3_26 zz3_27 zz3_28 zz3_29 zz3_30 zz3_31 zz3_32 zz3_33 zz3_34 zz3_35 zz3_36 zz3_37 zz3_38 zz3_39 zz3_40 zz3_41 zz3_42 zz3_43 zz3_44 zz3_45 zz3_46 zz3_47 zz3_48 zz3_49 zz3_50 zz3_51 zz3_52 zz3_53 zz3_54 zz3_55 zz3_56 zz3_57 zz3_58 zz3_59 zz3_60 zz3_61 zz3_62 zz3_63 zz3_64 zz3_65 zz3_66 zz3_67 zz3_68 zz3_69 zz3_70 zz3_71 zz3_72 zz3_73 zz3_74 zz3_75 zz3_76 zz3_77 zz3_78 zz3_79 zz3_80 zz3_81 zz3_82 zz3_83 zz3_84 zz3_85 zz3_86 zz3_87 zz3_88 zz3_89 zz3_90 zz3_91 zz3_92 zz3_93 zz3_94 zz3_95 zz3_96 zz3_97 zz3_98 zz3_99 zz3_100 zz3_101 zz3_102 zz3_103 zz3_104 zz3_105 zz3_106 zz3_107 zz3_108 zz3_109 zz3_110 zz3_111 zz3_112 zz3_113 zz3_114 zz3_115 zz3_116 zz3_117 zz3_118 zz3_119 zz3_120 zz3_121 zz3_122 zz3_123 zz3_124 zz3_125 zz3_126 zz3_127 zz3_128 zz3_129 zz3_130 zz3_131 zz3_132 zz3_133 zz3_134 zz3_135 zz3_136 zz3_137 zz3_138 zz3_139 zz3_140 zz3_141 zz3_142 zz3_143 zz3_144 zz3_145 zz3_146 zz3_147 zz3_148 zz3_149 zz3_150 zz3_151 zz3_152 zz3_153 zz3_154 zz3_155 zz3_156 zz3_157 zz3_158 zz3_159 zz3_160 zz3_161 zz3_162 zz3_163 zz3_164 zz3_165 zz3_166 zz3_167 zz3_168 zz3_169 zz3_170 zz3_171 zz3_172 zz3_173 zz3_174 zz3_175 zz3_176 zz3_177 zz3_178 zz3_179 x70_14 zz4_0 kj14 HJ14 zz4_1 u4 zz4_180 kj30 HJ30 zz4_181 zz4_182 zz4_183 zz4_184 zz4_185 zz4_186 zz4_187 zz4_188 zz4_189 zz4_190 zz4_191 zz4_192 zz4_193 zz4_194 zz4_195 zz4_196 zz4_197 zz4_198 zz4_199 zz4_200 zz4_201 zz4_202 zz4_203 zz4_204 zz4_205 zz4_206 zz4_207 zz4_208 zz4_209 zz4_210 zz4_211 zz4_212 zz4_213 zz4_214 zz4_215 zz4_216 zz4_217 zz4_218 zz4_219 zz4_220 zz4_221 zz4_222 zz4_223 zz4_224 zz4_225 zz4_226 zz4_227 zz4_228 zz4_229 zz4_230 zz4_231 zz4_232 zz4_233 zz4_234 zz4_235 zz4_236 zz4_237 zz4_238 zz4_239 zz4_240 zz4_241 zz4_242 zz4_243 zz4_244 zz4_245 zz4_246 zz4_247 zz4_248 zz4_249 zz4_250 zz4_251 zz4_252 zz4_253 zz4_254 zz4_255 zz4_256 zz4_257 zz4_258 zz4_259 zz4_260 zz4_261 zz4_262 zz4_263 zz4_264 zz4_265 zz4_266 zz4_267 zz4_268 zz4_269 zz4_270 zz4_271 zz4_272 zz4_273 zz4_274 zz4_275 zz4_276 zz4_277 zz4_278 zz4_279 zz4_280 zz4_281 zz4_282 zz4_283 zz4_284 zz4_285 zz4_286 zz4_287 zz4_288 zz4_289 zz4_290 zz4_291 zz4_292 zz4_293 zz4_294 zz4_295 zz4_296 zz4_297 zz4_298 zz4_299 zz4_300 zz4_301 zz4_302 zz4_303 zz4_304 zz4_305 zz4_306 zz4_307 zz4_308 zz4_309 zz4_310 zz4_311 zz4_312 zz4_313 zz4_314 zz4_315 zz4_316 zz4_317 zz4_318 zz4_319 zz4_320 zz4_321 zz4_322 zz4_323 zz4_324 zz4_325 zz4_326 zz4_327 zz4_328 zz4_329 zz4_330 zz4_331 zz4_332 zz4_333 zz4_334 zz4_335 zz4_336 zz4_337 zz4_338 zz4_339 zz4_340 zz4_341 zz4_342 zz4_343 zz4_344 zz4_345 zz4_346 zz4_347 zz4_348 zz4_349 zz4_350 zz4_351 zz4_352 zz4_353 zz4_354 zz4_355 zz4_356 zz4_357 zz4_358 zz4_359 x11_47 zz5_0 kj47 HJ47 zz5_1 x12_50 x13_50 zz5_180 kj50 HJ50 zz5_181 zz5_182 zz5_183 zz5_184 zz5_185 zz5_186 zz5_187 zz5_188 zz5_189 zz5_190 zz5_191 zz5_192 zz5_193 zz5_194 zz5_195 zz5_196 zz5_197 zz5_198 zz5_199 zz5_200 zz5_201 zz5_202 zz5_203 zz5_204 zz5_205 zz5_206 zz5_207 zz5_208 zz5_209 zz5_210 zz5_211 zz5_212 zz5_213 zz5_214 zz5_215 zz5_216 zz5_217 zz5_218 zz5_219 zz5_220 zz5_221 zz5_222 zz5_223 zz5_224 zz5_225 zz5_226 zz5_227 zz5_228 zz5_229 zz5_230 zz5_231 zz5_232 zz5_233 zz5_234 zz5_235 zz5_236 zz5_237 zz5_238 zz5_239 zz5_240 zz5_241 zz5_242 zz5_243 zz5_244 zz5_245 zz5_246 zz5_247 zz5_248 zz5_249 zz5_250 zz5_251 zz5_252 zz5_253 zz5_254 zz5_255 zz5_256 zz5_257 zz5_258 zz5_259 zz5_260 zz5_261 zz5_262 zz5_263 zz5_264 zz5_265 zz5_266 zz5_267 zz5_268 zz5_269 zz5_270 zz5_271 zz5_272 zz5_273 zz5_274 zz5_275 zz5_276 zz5_277 zz5_278 zz5_279 zz5_280 zz5_281 zz5_282 zz5_283 zz5_284 zz5_285 zz5_286 zz5_287 zz5_288 zz5_289 zz5_290 zz5_291 zz5_292 zz5_293 zz5_294 zz5_295 zz5_296 zz5_297 zz5_298 zz5_299 zz5_300 zz5_301 zz5_302 zz5_303 zz5_304 zz5_305 zz5_306 zz5_307 zz5_308 zz5_309 zz5_310 zz5_311 zz5_312 zz5_313 zz5_314 zz5_315 zz5_316 zz5_317 zz5_318 zz5_319 zz5_320 zz5_321 zz5_322 zz5_323 zz5_324 zz5_325 zz5_326 zz5_327 zz5_328 zz5_329 zz5_330 zz5_331 zz5_332 zz5_333 zz5_334 zz5_335 zz5_336 zz5_337 zz5_338 zz5_339 zz5_340 zz5_341 zz5_342 zz5_343 zz5_344 zz5_345 zz5_346 zz5_347 zz5_348 zz5_349 zz5_350 zz5_351 zz5_352 zz5_353 zz5_354 zz5_355 zz5_356 zz5_357 zz5_358 zz5_359 x14_53 x15_53 HB kj53 HJ53 HC58 zz5_360 zz5_361 wc u16 u20 u21 u22 u23 u24 u25 u26 u27 u28 u29 u30 u31 u32 u33 u34 u35 u36 u37 u38 u39 u40 u41 u42 u43 u44 u45 u46 u47 u48 u49 u50 u51 u52 u53 u54 u55 u56 u57 u58 u59 u60 u61 u62 u63 u64 u65 u66 u67 u68 u69 u70 u71 u72 u73 u74 u75 u76 u77 u78 u79 u80 u81 u82 u83 u84 u85 u86 u87 u88 u89 u90 u91 u92 u93 u94 u95 u96 u97 u98 u99 u100 u101 u102 u103 u104 u105 u106 u107 u108 u109 u110 u111 u112 u113 u114 u115 u116 u117 u118 u119 u120 u121 u122 u123 u124 u125 u128 u129 u130 u131 u132 u133 u134 u135 u136 u137 u138 u139 u140 u141 u142 u143 u144 u145 u146 u147 u148 u149 u150 u151 u152 u153 u154 u155 u156 u157 u158 u159 u160 u161 u162 u163 u164 u165 u166 u167 u168 u169 u170 u171 u172 u173 u174 u175 u176 u177 u178 u179 u180 u181 u182 u183 u184 u185 u186 u187 u188 u189 u190 u191 u192 u193 u194 u195 u196 u197 u198 u199 hcut
     exact hG_5.out⟩
end Go.Proofs.Ytengegdaiphfeaa.X
end
section
namespace Go.Proofs.Ytengegdaiphfeaa.X
open Go.RowKit Go.Proofs.YtengegdaiphfeaaW.PrintWords Go.Proofs.YtengegdaiphfeaaW.PrintLast Go.Proofs.YtengegdaiphfeaaW.PrintMore
attribute [local go_sem] max2_int min2_int max_two min_two max_three min_three max_four min_four
set_option linter.unusedVariables false
set_option linter.unusedSimpArgs false
set_option maxHeartbeats 8000000 in
set_option maxRecDepth 100000 in
noncomputable def laws_FnExpand.p6 (k : Nat) (A0 : Option Addr) (c0 : Nat) (l0 : List Int) (A1 : Option Addr) (c1 : Nat) (l1 : List Int) (r : Bool) (w : World) : { G_ : Prop // Aside0 G_ → (laws_FnExpand.p5 k A0 c0 l0 A1 c1 l1 r w).1 }:=⟨_,fun hG_6 => by
 intros HR0 HC0 HR1 HC1 zz0_0 zz0_1 zz0_2 x27_2 zz0_180 kj2 HJ2 zz0_181 zz3_0 zz0_360 kj4 HJ4 zz0_361 zz0_362 zz0_363 zz0_364 zz0_365 zz0_366 zz0_367 zz0_368 zz0_369 zz0_370 zz0_371 zz0_372 zz0_373 zz0_374 zz0_375 zz0_376 zz0_377 zz0_378 zz0_379 zz0_380 zz0_381 zz0_382 zz0_383 zz0_384 zz0_385 zz0_386 zz0_387 zz0_388 zz0_389 zz0_390 zz0_391 zz0_392 zz0_393 zz0_394 zz0_395 zz0_396 zz0_397 zz0_398 zz0_399 zz0_400 zz0_401 zz0_402 zz0_403 zz0_404 zz0_405 zz0_406 zz0_407 zz0_408 zz0_409 zz0_410 zz0_411 zz0_412 zz0_413 zz0_414 zz0_415 zz0_416 zz0_417 zz0_418 zz0_419 zz0_420 zz0_421 zz0_422 zz0_423 zz0_424 zz0_425 zz0_426 zz0_427 zz0_428 zz0_429 zz0_430 zz0_431 zz0_432 zz0_433 zz0_434 zz0_435 zz0_436 zz0_437 zz0_438 zz0_439 zz0_440 zz0_441 zz0_442 zz0_443 zz0_444 zz0_445 zz0_446 zz0_447 zz0_448 zz0_449 zz0_450 zz0_451 zz0_452 zz0_453 zz0_454 zz0_455 zz0_456 zz0_457 zz0_458 zz0_459 zz0_460 zz0_461 zz0_462 zz0_463 zz0_464 zz0_465 zz0_466 zz0_467 zz0_468 zz0_469 zz0_470 zz0_471 zz0_472 zz0_473 zz0_474 zz0_475 zz0_476 zz0_477 zz0_478 zz0_479 zz0_480 zz0_481 zz0_482 zz0_483 zz0_484 zz0_485 zz0_486 zz0_487 zz0_488 zz0_489 zz0_490 zz0_491 zz0_492 zz0_493 zz0_494 zz0_495 zz0_496 zz0_497 zz0_498 zz0_499 zz0_500 zz0_501 zz0_502 zz0_503 zz0_504 zz0_505 zz0_506 zz0_507 zz0_508 zz0_509 zz0_510 zz0_511 zz0_512 zz0_513 zz0_514 zz0_515 zz0_516 zz0_517 zz0_518 zz0_519 zz0_520 zz0_521 zz0_522 zz0_523 zz0_524 zz0_525 zz0_526 zz0_527 zz0_528 zz0_529 zz0_530 zz0_531 zz0_532 zz0_533 zz0_534 zz0_535 zz0_536 zz0_537 zz0_538 zz0_539 x5_6 x6_6 zz1_0 kj6 HJ6 zz1_1 zz1_2 zz1_3 zz1_4 zz1_5 zz1_6 zz1_7 zz1_8 zz1_9 zz1_10 zz1_11 zz1_12 zz1_13 zz1_14 zz1_15 zz1_16 zz1_17 zz1_18 zz1_19 zz1_20 zz1_21 zz1_22 zz1_23 zz1_24 zz1_25 zz1_26 zz1_27 zz1_28 zz1_29 zz1_30 zz1_31 zz1_32 zz1_33 zz1_34 zz1_35 zz1_36 zz1_37 zz1_38 zz1_39 zz1_40 zz1_41 zz1_42 zz1_43 zz1_44 zz1_45 zz1_46 zz1_47 zz1_48 zz1_49 zz1_50 zz1_51 zz1_52 zz1_53 zz1_54 zz1_55 zz1_56 zz1_57 zz1_58 zz1_59 zz1_60 zz1_61 zz1_62 zz1_63 zz1_64 zz1_65 zz1_66 zz1_67 zz1_68 zz1_69 zz1_70 zz1_71 zz1_72 zz1_73 zz1_74 zz1_75 zz1_76 zz1_77 zz1_78 zz1_79 zz1_80 zz1_81 zz1_82 zz1_83 zz1_84 zz1_85 zz1_86 zz1_87 zz1_88 zz1_89 zz1_90 zz1_91 zz1_92 zz1_93 zz1_94 zz1_95 zz1_96 zz1_97 zz1_98 zz1_99 zz1_100 zz1_101 zz1_102 zz1_103 zz1_104 zz1_105 zz1_106 zz1_107 zz1_108 zz1_109 zz1_110 zz1_111 zz1_112 zz1_113 zz1_114 zz1_115 zz1_116 zz1_117 zz1_118 zz1_119 zz1_120 zz1_121 zz1_122 zz1_123 zz1_124 zz1_125 zz1_126 zz1_127 zz1_128 zz1_129 zz1_130 zz1_131 zz1_132 zz1_133 zz1_134 zz1_135 zz1_136 zz1_137 zz1_138 zz1_139 zz1_140 zz1_141 zz1_142 zz1_143 zz1_144 zz1_145 zz1_146 zz1_147 zz1_148 zz1_149 zz1_150 zz1_151 zz1_152 zz1_153 zz1_154 zz1_155 zz1_156 zz1_157 zz1_158 zz1_159 zz1_160 zz1_161 zz1_162 zz1_163 zz1_164 zz1_165 zz1_166 zz1_167 zz1_168 zz1_169 zz1_170 zz1_171 zz1_172 zz1_173 zz1_174 zz1_175 zz1_176 zz1_177 zz1_178 zz1_179 x7_9 x8_9 zz2_0 kj9 HJ9 zz2_1 zz2_2 zz2_3 zz2_4 zz2_5 zz2_6 zz2_7 zz2_8 zz2_9 zz2_10 zz2_11 zz2_12 zz2_13 zz2_14 zz2_15 zz2_16 zz2_17 zz2_18 zz2_19 zz2_20 zz2_21 zz2_22 zz2_23 zz2_24 zz2_25 zz2_26 zz2_27 zz2_28 zz2_29 zz2_30 zz2_31 zz2_32 zz2_33 zz2_34 zz2_35 zz2_36 zz2_37 zz2_38 zz2_39 zz2_40 zz2_41 zz2_42 zz2_43 zz2_44 zz2_45 zz2_46 zz2_47 zz2_48 zz2_49 zz2_50 zz2_51 zz2_52 zz2_53 zz2_54 zz2_55 zz2_56 zz2_57 zz2_58 zz2_59 zz2_60 zz2_61 zz2_62 zz2_63 zz2_64 zz2_65 zz2_66 zz2_67 zz2_68 zz2_69 zz2_70 zz2_71 zz2_72 zz2_73 zz2_74 zz2_75 zz2_76 zz2_77 zz2_78 zz2_79 zz2_80 zz2_81 zz2_82 zz2_83 zz2_84 zz2_85 zz2_86 zz2_87 zz2_88 zz2_89 zz2_90 zz2_91 zz2_92 zz2_93 zz2_94 zz2_95 zz2_96 zz2_97 zz2_98 zz2_99 zz2_100 zz2_101 zz2_102 zz2_103 zz2_104 zz2_105 zz2_106 zz2_107 zz2_108 zz2_109 zz2_110 zz2_111 zz2_112 zz2_113 zz2_114 zz2_115 zz2_116 zz2_117 zz2_118 zz2_119 zz2_120 zz2_121 zz2_122 zz2_123 zz2_124 zz2_125 zz2_126 zz2_127 zz2_128 zz2_129 zz2_130 zz2_131 zz2_132 zz2_133 zz2_134 zz2_135 zz2_136 zz2_137 zz2_138 zz2_139 zz2_140 zz2_141 zz2_142 zz2_143 zz2_144 zz2_145 zz2_146 zz2_147 zz2_148 zz2_149 zz2_150 zz2_151 zz2_152 zz2_153 zz2_154 zz2_155 zz2_156 zz2_157 zz2_158 zz2_159 zz2_160 zz2_161 zz2_162 zz2_163 zz2_164 zz2_165 zz2_166 zz2_167 zz2_168 zz2_169 zz2_170 zz2_171 zz2_172 zz2_173 zz2_174 zz2_175 zz2_176 zz2_177 zz2_178 zz2_179 x9_12 x10_12 zz3_1 kj12 HJ12 zz3_2 zz3_3 zz3_4 zz3_5 zz3_6 zz3_7 zz3_8 zz3_9 zz3_10 zz3_11 zz3_12 zz3_13 zz3_14 zz3_15 zz3_16 zz3_17 zz3_18 zz3_19 zz3_20 zz3_21 zz3_22 zz3_23 zz3_24 zz3_25 zz3_26 zz3_27 zz3_28 zz3_29 zz3_30 zz3_31 zz3_32 zz3_33 zz3_34 zz3_35 zz3_36 zz3_37 zz3_38 zz3_39 zz3_40 zz3_41 zz3_42 zz3_43 zz3_44 zz3_45 zz3_46 zz3_47 zz3_48 zz3_49 zz3_50 zz3_51 zz3_52 zz3_53 zz3_54 zz3_55 zz3_56 zz3_57 zz3_58 zz3_59 zz3_60 zz3_61 zz3_62 zz3_63 zz3_64 zz3_65 zz3_66 zz3_67 zz3_68 zz3_69 zz3_70 zz3_71 zz3_72 zz3_73 zz3_74 zz3_75 zz3_76 zz3_77 zz3_78 zz3_79 zz3_80 zz3_81 zz3_82 zz3_83 zz3_84 zz3_85 zz3_86 zz3_87 zz3_88 zz3_89 zz3_90 zz3_91 zz3_92 zz3_93 zz3_94 zz3_95 zz3_96 zz3_97 zz3_98 zz3_99 zz3_100 zz3_101 zz3_102 zz3_103 zz3_104 zz3_105 zz3_106 zz3_107 zz3_108 zz3_109 zz3_110 zz3_111 zz3_112 zz3_113 zz3_114 zz3_115 zz3_116 zz3_117 zz3_118 zz3_119 zz3_120 zz3_121 zz3_122 zz3_123 zz3_124 zz3_125 zz3_126 zz3_127 zz3_128 zz3_129 zz3_130 zz3_131 zz3_132 zz3_133 zz3_134 zz3_135 zz3_136 zz3_137 zz3_138 zz3_139 zz3_140 zz3_141 zz3_142 zz3_143 zz3_144 zz3_145 zz3_146 zz3_147 zz3_148 zz3_149 zz3_150 zz3_151 zz3_152 zz3_153 zz3_154 zz3_155 zz3_156 zz3_157 zz3_158 zz3_159 zz3_160 zz3_161 zz3_162 zz3_163 zz3_164 zz3_165 zz3_166 zz3_167 zz3_168 zz3_169 zz3_170 zz3_171 zz3_172 zz3_173 zz3_174 zz3_175 zz3_176 zz3_177 zz3_178 zz3_179 x70_14 zz4_0 kj14 HJ14 zz4_1 u4 zz4_180 kj30 HJ30 zz4_181 zz4_182 zz4_183 zz4_184 zz4_185 zz4_186 zz4_187 zz4_188 zz4_189 zz4_190 zz4_191 zz4_192 zz4_193 zz4_194 zz4_195 zz4_196 zz4_197 zz4_198 zz4_199 zz4_200 zz4_201 zz4_202 zz4_203 zz4_204 zz4_205 zz4_206 zz4_207 zz4_208 zz4_209 zz4_210 zz4_211 zz4_212 zz4_213 zz4_214 zz4_215 zz4_216 zz4_217 zz4_218 zz4_219 zz4_220 zz4_221 zz4_222 zz4_223 zz4_224 zz4_225 zz4_226 zz4_227 zz4_228 zz4_229 zz4_230 zz4_231 zz4_232 zz4_233 zz4_234 zz4_235 zz4_236 zz4_237 zz4_238 zz4_239 zz4_240 zz4_241 zz4_242 zz4_243 zz4_244 zz4_245 zz4_246 zz4_247 zz4_248 zz4_249 zz4_250 zz4_251 zz4_252 zz4_253 zz4_254 zz4_255 zz4_256 zz4_257 zz4_258 zz4_259 zz4_260 zz4_261 zz4_262 zz4_263 zz4_264 zz4_265 zz4_266 zz4_267 zz4_268 zz4_269 zz4_270 zz4_271 zz4_272 zz4_273 zz4_274 zz4_275 zz4_276 zz4_277 zz4_278 zz4_279 zz4_280 zz4_281 zz4_282 zz4_283 zz4_284 zz4_285 zz4_286 zz4_287 zz4_288 zz4_289 zz4_290 zz4_291 zz4_292 zz4_293 zz4_294 zz4_295 zz4_296 zz4_297 zz4_298 zz4_299 zz4_300 zz4_301 zz4_302 zz4_303 zz4_304 zz4_305 zz4_306 zz4_307 zz4_308 zz4_309 zz4_310 zz4_311 zz4_312 zz4_313 zz4_314 zz4_315 zz4_316 zz4_317 zz4_318 zz4_319 zz4_320 zz4_321 zz4_322 zz4_323 zz4_324 zz4_325 zz4_326 zz4_327 zz4_328 zz4_329 zz4_330 zz4_331 zz4_332 zz4_333 zz4_334 zz4_335 zz4_336 zz4_337 zz4_338 zz4_339 zz4_340 zz4_341 zz4_342 zz4_343 zz4_344 zz4_345 zz4_346 zz4_347 zz4_348 zz4_349 zz4_350 zz4_351 zz4_352 zz4_353 zz4_354 zz4_355 zz4_356 zz4_357 zz4_358 zz4_359 x11_47 zz5_0 kj47 HJ47 zz5_1 x12_50 x13_50 zz5_180 kj50 HJ50 zz5_181 zz5_182 zz5_183 zz5_184 zz5_185 zz5_186 zz5_187 zz5_188 zz5_189 zz5_190 zz5_191 zz5_192 zz5_193 zz5_194 zz5_195 zz5_196 zz5_197 zz5_198 zz5_199 zz5_200 zz5_201 zz5_202 zz5_203 zz5_204 zz5_205 zz5_206 zz5_207 zz5_208 zz5_209 zz5_210 zz5_211 zz5_212 zz5_213 zz5_214 zz5_215 zz5_216 zz5_217 zz5_218 zz5_219 zz5_220 zz5_221 zz5_222 zz5_223 zz5_224 zz5_225 zz5_226 zz5_227 zz5_228 zz5_229 zz5_230 zz5_231 zz5_232 zz5_233 zz5_234 zz5_235 zz5_236 zz5_237 zz5_238 zz5_239 zz5_240 zz5_241 zz5_242 zz5_243 zz5_244 zz5_245 zz5_246 zz5_247 zz5_248 zz5_249 zz5_250 zz5_251 zz5_252 zz5_253 zz5_254 zz5_255 zz5_256 zz5_257 zz5_258 zz5_259 zz5_260 zz5_261 zz5_262 zz5_263 zz5_264 zz5_265 zz5_266 zz5_267 zz5_268 zz5_269 zz5_270 zz5_271 zz5_272 zz5_273 zz5_274 zz5_275 zz5_276 zz5_277 zz5_278 zz5_279 zz5_280 zz5_281 zz5_282 zz5_283 zz5_284 zz5_285 zz5_286 zz5_287 zz5_288 zz5_289 zz5_290 zz5_291 zz5_292 zz5_293 zz5_294 zz5_295 zz5_296 zz5_297 zz5_298 zz5_299 zz5_300 zz5_301 zz5_302 zz5_303 zz5_304 zz5_305 zz5_306 zz5_307 zz5_308 zz5_309 zz5_310 zz5_311 zz5_312 zz5_313 zz5_314 zz5_315 zz5_316 zz5_317 zz5_318 zz5_319 zz5_320 zz5_321 zz5_322 zz5_323 zz5_324 zz5_325 zz5_326 zz5_327 zz5_328 zz5_329 zz5_330 zz5_331 zz5_332 zz5_333 zz5_334 zz5_335 zz5_336 zz5_337 zz5_338 zz5_339 zz5_340 zz5_341 zz5_342 zz5_343 zz5_344 zz5_345 zz5_346 zz5_347 zz5_348 zz5_349 zz5_350 zz5_351 zz5_352 zz5_353 zz5_354 zz5_355 zz5_356 zz5_357 zz5_358 zz5_359 x14_53 x15_53 HB kj53 HJ53 HC58 zz5_360 zz5_361 wc u16 u20 u21 u22 u23 u24 u25 u26 u27 u28 u29 u30 u31 u32 u33 u34 u35 u36 u37 u38 u39 u40 u41 u42 u43 u44 u45 u46 u47 u48 u49 u50 u51 u52 u53 u54 u55 u56 u57 u58 u59 u60 u61 u62 u63 u64 u65 u66 u67 u68 u69 u70 u71 u72 u73 u74 u75 u76 u77 u78 u79 u80 u81 u82 u83 u84 u85 u86 u87 u88 u89 u90 u91 u92 u93 u94 u95 u96 u97 u98 u99 u100 u101 u102 u103 u104 u105 u106 u107 u108 u109 u110 u111 u112 u113 u114 u115 u116 u117 u118 u119 u120 u121 u122 u123 u124 u125 u128 u129 u130 u131 u132 u133 u134 u135 u136 u137 u138 u139 u140 u141 u142 u143 u144 u145 u146 u147 u148 u149 u150 u151 u152 u153 u154 u155 u156 u157 u158 u159 u160 u161 u162 u163 u164 u165 u166 u167 u168 u169 u170 u171 u172 u173 u174 u175 u176 u177 u178 u179 u180 u181 u182 u183 u184 u185 u186 u187 u188 u189 u190 u191 u192 u193 u194 u195 u196 u197 u198 u199 hcut
 clear HC58
 try clear c1
 try clear c2
 try clear p2
 try clear c3
 try clear c4
 try clear c4b0
 try clear c4b1
 try clear c5
 try clear c6
 try clear c14
 try clear c16
 try clear c16b0
 try clear c16b1
 try clear c17
 try clear c17b0
 try clear c17b1
 try clear c17b2
 try clear c20
 try clear c20b0
 try clear c20b1
 try clear c20b2
 try clear c24
 try clear c24b0
 try clear c24b1
 try clear c32
 try clear c33
 try clear c33b0
 try clear c33b1
 try clear c34
 try clear c34b0
 try clear c34b1
 try clear c34b2
 try clear c37
 try clear c37b0
 try clear c37b1
 try clear c37b2
 try clear c40
 try clear c40b0
 try clear c40b1
 try clear c41
 try clear c42
 try clear c43
 try clear c48
 try clear c49
 try clear c55
 try clear c55b0
 try clear c55b1
 try clear c55b2
 try clear p2
 obtain ⟨kq,x16_57,rfl,HA,HJ57,HB⟩:=hcut
 cases kq with
 | zero => exact absurd HA.out (by simp [laws_FnExpand.j10])
 | succ kj57 =>
  have H:=HA.out
  clear HA
  simp only [laws_FnExpand.j10] at H
  have HC61:=Aside0.mk H
  clear H
  go_upto_region 12 with (fail)
  go_cut [125] (fun v125 wc => ∃ (kq : Nat) (x125_60 : Bool),v125 = .bool x125_60 ∧ Aside0 (laws_FnExpand.j11 kq x5_6 x6_6 x7_9 x11_47 x12_50 x13_50 x14_53 x15_53 x16_57 x125_60 = some r) ∧ Aside0 (kq ≤ kj57) ∧ Aside0 (Below w.heap.size w wc))
  case first =>
   have H:=HC61.out
   clear HC61
   by_cases c62 : x16_57.toList = ([] : List UInt8)
   ·rw [if_pos c62] at H
    have c62b0 : (x16_57.toList == ([] : List UInt8)) = true:=beq_iff_eq.mpr c62
    have c62b1 : (x16_57.toList != ([] : List UInt8)) = false:=bne_eq_false_iff_eq.mpr c62
    clear c62
    (first|rw [c62b0]|(simp only [i64_w,i32_w];rw [c62b0])|skip)
    have H':=Aside0.mk H
    clear H
    go_wp2
    go_meet
    case rel => exact ⟨_,(false),(by first|rfl|(simp;done)|(simp [*];done)),H',⟨by have:=HJ2.out;have:=HJ4.out;have:=HJ6.out;have:=HJ9.out;have:=HJ12.out;have:=HJ14.out;have:=HJ30.out;have:=HJ47.out;have:=HJ50.out;have:=HJ53.out;have:=HJ57.out;first|omega|exact Nat.le_refl _⟩,⟨be0_ HB.out⟩⟩
   ·rw [if_neg c62] at H
    have c62b0 : (x16_57.toList == ([] : List UInt8)) = false:=beq_eq_false_iff_ne.mpr c62
    have c62b1 : (x16_57.toList != ([] : List UInt8)) = true:=bne_iff_ne.mpr c62
    (first|rw [c62b0]|(simp only [i64_w,i32_w];rw [c62b0])|skip)
    by_cases c63 : x6_6 < 6
    ·rw [if_pos c63] at H
     have c63b0 : decide (x6_6 < 6) = true:=decide_eq_true c63
     clear c63
     have H':=Aside0.mk H
     clear H
     go_wp2
     go_meet
     case rel => exact ⟨_,(decide ((x7_9.size : Int) < 100)),(by first|rfl|(simp;done)|(simp [*];done)),H',⟨by have:=HJ2.out;have:=HJ4.out;have:=HJ6.out;have:=HJ9.out;have:=HJ12.out;have:=HJ14.out;have:=HJ30.out;have:=HJ47.out;have:=HJ50.out;have:=HJ53.out;have:=HJ57.out;first|omega|exact Nat.le_refl _⟩,⟨be0_ HB.out⟩⟩
    ·rw [if_neg c63] at H
     have c63b0 : decide (x6_6 < 6) = false:=decide_eq_false c63
     clear c63
     have H':=Aside0.mk H
     clear H
     go_wp2
     go_meet
     case rel => exact ⟨_,(false),(by first|rfl|(simp;done)|(simp [*];done)),H',⟨by have:=HJ2.out;have:=HJ4.out;have:=HJ6.out;have:=HJ9.out;have:=HJ12.out;have:=HJ14.out;have:=HJ30.out;have:=HJ47.out;have:=HJ50.out;have:=HJ53.out;have:=HJ57.out;first|omega|exact Nat.le_refl _⟩,⟨be0_ HB.out⟩⟩
  case rest =>
   rename_i zz6_0 zz6_1 zz6_2 zz6_3 zz6_4 zz6_5 zz6_6 zz6_7 zz6_8 zz6_9 zz6_10 zz6_11 zz6_12 zz6_13 zz6_14 zz6_15 zz6_16 zz6_17 zz6_18 zz6_19 zz6_20 zz6_21 zz6_22 zz6_23 zz6_24 zz6_25 zz6_26 zz6_27 zz6_28 zz6_29 zz6_30 zz6_31 zz6_32 zz6_33 zz6_34 zz6_35 zz6_36 zz6_37 zz6_38 zz6_39 zz6_40 zz6_41 zz6_42 zz6_43 zz6_44 zz6_45 zz6_46 zz6_47 zz6_48 zz6_49 zz6_50 zz6_51 zz6_52 zz6_53 zz6_54 zz6_55 zz6_56 zz6_57 zz6_58 zz6_59 zz6_60 zz6_61 zz6_62 zz6_63 zz6_64 zz6_65 zz6_66 zz6_67 zz6_68 zz6_69 zz6_70 zz6_71 zz6_72 zz6_73 zz6_74 zz6_75 zz6_76 zz6_77 zz6_78 zz6_79 zz6_80 zz6_81 zz6_82 zz6_83 zz6_84 zz6_85 zz6_86 zz6_87 zz6_88 zz6_89 zz6_90 zz6_91 zz6_92 zz6_93 zz6_94 zz6_95 zz6_96 zz6_97 zz6_98 zz6_99 zz6_100 zz6_101 zz6_102 zz6_103 zz6_104 zz6_105 zz6_106 zz6_107 zz6_108 zz6_109 zz6_110 zz6_111 zz6_112 zz6_113 zz6_114 zz6_115 zz6_116 zz6_117 zz6_118 zz6_119 zz6_120 zz6_121 zz6_122 zz6_123 zz6_124 zz6_125 zz6_126 zz6_127 zz6_128 zz6_129 zz6_130 zz6_131 zz6_132 zz6_133 zz6_134 zz6_135 zz6_136 zz6_137 zz6_138 zz6_139 zz6_140 zz6_141 zz6_142 zz6_143 zz6_144 zz6_145 zz6_146 zz6_147 zz6_148 zz6_149 zz6_150 zz6_151 zz6_152 zz6_153 zz6_154 zz6_155 zz6_156 zz6_157 zz6_158 zz6_159 zz6_160 zz6_161 zz6_162 zz6_163 zz6_164 zz6_165 zz6_166 zz6_167 zz6_168 zz6_169 zz6_170 zz6_171 zz6_172 zz6_173 zz6_174 zz6_175 zz6_176 zz6_177 zz6_178 zz6_179 zz6_180 zz6_181 zz6_182 zz6_183
   revert HR0 HC0 HR1 HC1 zz0_0 zz0_1 zz0_2 x27_2 zz0_180 kj2 HJ2 zz0_181 zz3_0 zz0_360 kj4 HJ4 zz0_361 zz0_362 zz0_363 zz0_364 zz0_365 zz0_366 zz0_367 zz0_368 zz0_369 zz0_370 zz0_371 zz0_372 zz0_373 zz0_374 zz0_375 zz0_376 zz0_377 zz0_378 zz0_379 zz0_380 zz0_381 zz0_382 zz0_383 zz0_384 zz0_385 zz0_386 zz0_387 zz0_388 zz0_389 zz0_390 zz0_391 zz0_392 zz0_393 zz0_394 zz0_395 zz0_396 zz0_397 zz0_398 zz0_399 zz0_400 zz0_401 zz0_402 zz0_403 zz0_404 zz0_405 zz0_406 zz0_407 zz0_408 zz0_409 zz0_410 zz0_411 zz0_412 zz0_413 zz0_414 zz0_415 zz0_416 zz0_417 zz0_418 zz0_419 zz0_420 zz0_421 zz0_422 zz0_423 zz0_424 zz0_425 zz0_426 zz0_427 zz0_428 zz0_429 zz0_430 zz0_431 zz0_432 zz0_433 zz0_434 zz0_435 zz0_436 zz0_437 zz0_438 zz0_439 zz0_440 zz0_441 zz0_442 zz0_443 zz0_444 zz0_445 zz0_446 zz0_447 zz0_448 zz0_449 zz0_450 zz0_451 zz0_452 zz0_453 zz0_454 zz0_455 zz0_456 zz0_457 zz0_458 zz0_459 zz0_460 zz0_461 zz0_462 zz0_463 zz0_464 zz0_465 zz0_466 zz0_467 zz0_468 zz0_469 zz0_470 zz0_471 zz0_472 zz0_473 zz0_474 zz0_475 zz0_476 zz0_477 zz0_478 zz0_479 zz0_480 zz0_481 zz0_482 zz0_483 zz0_484 zz0_485 zz0_486 zz0_487 zz0_488 zz0_489 zz0_490 zz0_491 zz0_492 zz0_493 zz0_494 zz0_495 zz0_496 zz0_497 zz0_498 zz0_499 zz0_500 zz0_501 zz0_502 zz0_503 zz0_504 zz0_505 zz0_506 zz0_507 zz0_508 zz0_509 zz0_510 zz0_511 zz0_512 zz0_513 zz0_514 zz0_515 zz0_516 zz0_517 zz0_518 zz0_519 zz0_520 zz0_521 zz0_522 zz0_523 zz0_524 zz0_525 zz0_526 zz0_527 zz0_528 zz0_529 zz0_530 zz0_531 zz0_532 zz0_533 zz0_534 zz0_535 zz0_536 zz0_537 zz0_538 zz0_539 x5_6 x6_6 zz1_0 kj6 HJ6 zz1_1 zz1_2 zz1_3 zz1_4 zz1_5 zz1_6 zz1_7 zz1_8 zz1_9 zz1_10 zz1_11 zz1_12 zz1_13 zz1_14 zz1_15 zz1_16 zz1_17 zz1_18 zz1_19 zz1_20 zz1_21 zz1_22 zz1_23 zz1_24 zz1_25 zz1_26 zz1_27 zz1_28 zz1_29 zz1_30 zz1_31 zz1_32 zz1_33 zz1_34 zz1_35 zz1_36 zz1_37 zz1_38 zz1_39 zz1_40 zz1_41 zz1_42 zz1_43 zz1_44 zz1_45 zz1_46 zz1_47 zz1_48 zz1_49 zz1_50 zz1_51 zz1_52 zz1_53 zz1_54 zz1_55 zz1_56 zz1_57 zz1_58 zz1_59 zz1_60 zz1_61 zz1_62 zz1_63 zz1_64 zz1_65 zz1_66 zz1_67 zz1_68 zz1_69 zz1_70 zz1_71 zz1_72 zz1_73 zz1_74 zz1_75 zz1_76 zz1_77 zz1_78 zz1_79 zz1_80 zz1_81 zz1_82 zz1_83 zz1_84 zz1_85 zz1_86 zz1_87 zz1_88 zz1_89 zz1_90 zz1_91 zz1_92 zz1_93 zz1_94 zz1_95 zz1_96 zz1_97 zz1_98 zz1_99 zz1_100 zz1_101 zz1_102 zz1_103 zz1_104 zz1_105 zz1_106 zz1_107 zz1_108 zz1_109 zz1_110 zz1_111 zz1_112 zz1_113 zz1_114 zz1_115 zz1_116 zz1_117 zz1_118 zz1_119 zz1_120 zz1_121 zz1_122 zz1_123 zz1_124 zz1_125 zz1_126 zz1_127 zz1_128 zz1_129 zz1_130 zz1_131 zz1_132 zz1_133 zz1_134 zz1_135 zz1_136 zz1_137 zz1_138 zz1_139 zz1_140 zz1_141 zz1_142 zz1_143 zz1_144 zz1_145 zz1_146 zz1_147 zz1_148 zz1_149 zz1_150 zz1_151 zz1_152 zz1_153 zz1_154 zz1_155 zz1_156 zz1_157 zz1_158 zz1_159 zz1_160 zz1_161 zz1_162 zz1_163 zz1_164 zz1_165 zz1_166 zz1_167 zz1_168 zz1_169 zz1_170 zz1_171 zz1_172 zz1_173 zz1_174 zz1_175 zz1_176 zz1_177 zz1_178 zz1_179 x7_9 x8_9 zz2_0 kj9 HJ9 zz2_1 zz2_2 zz2_3 zz2_4 zz2_5 zz2_6 zz2_7 zz2_8 zz2_9 zz2_10 zz2_11 zz2_12 zz2_13 zz2_14 zz2_15 zz2_16 zz2_17 zz2_18 zz2_19 zz2_20 zz2_21 zz2_22 zz2_23 zz2_24 zz2_25 zz2_26 zz2_27 zz2_28 zz2_29 zz2_30 zz2_31 zz2_32 zz2_33 zz2_34 zz2_35 zz2_36 zz2_37 zz2_38 zz2_39 zz2_40 zz2_41 zz2_42 zz2_43 zz2_44 zz2_45 zz2_46 zz2_47 zz2_48 zz2_49 zz2_50 zz2_51 zz2_52 zz2_53 zz2_54 zz2_55 zz2_56 zz2_57 zz2_58 zz2_59 zz2_60 zz2_61 zz2_62 zz2_63 zz2_64 zz2_65 zz2_66 zz2_67 zz2_68 zz2_69 zz2_70 zz2_71 zz2_72 zz2_73 zz2_74 zz2_75 zz2_76 zz2_77 zz2_78 zz2_79 zz2_80 zz2_81 zz2_82 zz2_83 zz2_84 zz2_85 zz2_86 zz2_87 zz2_88 zz2_89 zz2_90 zz2_91 zz2_92 zz2_93 zz2_94 zz2_95 zz2_96 zz2_97 zz2_98 zz2_99 zz2_100 zz2_101 zz2_102 zz2_103 zz2_104 zz2_105 zz2_106 zz2_107 zz2_108 zz2_109 zz2_110 zz2_111 zz2_112 zz2_113 zz2_114 zz2_115 zz2_116 zz2_117 zz2_118 zz2_119 zz2_120 zz2_121 zz2_122 zz2_123 zz2_124 zz2_125 zz2_126 zz2_127 zz2_128 zz2_129 zz2_130 zz2_131 zz2_132 zz2_133 zz2_134 zz2_135 zz2_136 zz2_137 zz2_138 zz2_139 zz2_140 zz2_141 zz2_142 zz2_143 zz2_144 zz2_145 zz2_146 zz2_147 zz2_148 zz2_149 zz2_150 zz2_151 zz2_152 zz2_153 zz2_154 zz2_155 zz2_156 zz2_157 zz2_158 zz2_159 zz2_160 zz2_161 zz2_162 zz2_163 zz2_164 zz2_165 zz2_166 zz2_167 zz2_168 zz2_169 zz2_170 zz2_171 zz2_172 zz2_173 zz2_174 zz2_175 zz2_176 zz2_177 zz2_178 zz2_179 x9_12 x10_12 zz3_1 kj12 HJ12 zz3_2 zz3_3 zz3_4 zz3_5 zz3_6 zz3_7 zz3_8 zz3_9 zz3_10 zz3_11 zz3_12 zz3_13 zz3_14 zz3_15 zz3_16 zz3_17 zz3_18 zz3_19 zz3_20 zz3_21 zz3_22 zz3_23 zz3_24 zz3_25 zz3_26 zz3_27 zz3_28 zz3_29 zz3_30 zz3_31 zz3_32 zz3_33 zz3_34 zz3_35 zz3_36 zz3_37 zz3_38 zz3_39 zz3_40 zz3_41 zz3_42 zz3_43 zz3_44 zz3_45 zz3_46 zz3_47 zz3_48 zz3_49 zz3_50 zz3_51 zz3_52 zz3_53 zz3_54 zz3_55 zz3_56 zz3_57 zz3_58 zz3_59 zz3_60 zz3_61 zz3_62 zz3_63 zz3_64 zz3_65 zz3_66 zz3_67 zz3_68 zz3_69 zz3_70 zz3_71 zz3_72 zz3_73 zz3_74 zz3_75 zz3_76 zz3_77 zz3_78 zz3_79 zz3_80 zz3_81 zz3_82 zz3_83 zz3_84 zz3_85 zz3_86 zz3_87 zz3_88 zz3_89 zz3_90 zz3_91 zz3_92 zz3_93 zz3_94 zz3_95 zz3_96 zz3_97 zz3_98 zz3_99 zz3_100 zz3_101 zz3_102 zz3_103 zz3_104 zz3_105 zz3_106 zz3_107 zz3_108 zz3_109 zz3_110 zz3_111 zz3_112 zz3_113 zz3_114 zz3_115 zz3_116 zz3_117 zz3_118 zz3_119 zz3_120 zz3_121 zz3_122 zz3_123 zz3_124 zz3_125 zz3_126 zz3_127 zz3_128 zz3_129 zz3_130 zz3_131 zz3_132 zz3_133 zz3_134 zz3_135 zz3_136 zz3_137 zz3_138 zz3_139 zz3_140 zz3_141 zz3_142 zz3_143 zz3_144 zz3_145 zz3_146 zz3_147 zz3_148 zz3_149 zz3_150 zz3_151 zz3_152 zz3_153 zz3_154 zz3_155 zz3_156 zz3_157 zz3_158 zz3_159 zz3_160 zz3_161 zz3_162 zz3_163 zz3_164 zz3_165 zz3_166 zz3_167 zz3_168 zz3_169 zz3_170 zz3_171 zz3_172 zz3_173 zz3_174 zz3_175 zz3_176 zz3_177 zz3_178 zz3_179 x70_14 zz4_0 kj14 HJ14 zz4_1 u4 zz4_180 kj30 HJ30 zz4_181 zz4_182 zz4_183 zz4_184 zz4_185 zz4_186 zz4_187 zz4_188 zz4_189 zz4_190 zz4_191 zz4_192 zz4_193 zz4_194 zz4_195 zz4_196 zz4_197 zz4_198 zz4_199 zz4_200 zz4_201 zz4_202 zz4_203 zz4_204 zz4_205 zz4_206 zz4_207 zz4_208 zz4_209 zz4_210 zz4_211 zz4_212 zz4_213 zz4_214 zz4_215 zz4_216 zz4_217 zz4_218 zz4_219 zz4_220 zz4_221 zz4_222 zz4_223 zz4_224 zz4_225 zz4_226 zz4_227 zz4_228 zz4_229 zz4_230 zz4_231 zz4_232 zz4_233 zz4_234 zz4_235 zz4_236 zz4_237 zz4_238 zz4_239 zz4_240 zz4_241 zz4_242 zz4_243 zz4_244 zz4_245 zz4_246 zz4_247 zz4_248 zz4_249 zz4_250 zz4_251 zz4_252 zz4_253 zz4_254 zz4_255 zz4_256 zz4_257 zz4_258 zz4_259 zz4_260 zz4_261 zz4_262 zz4_263 zz4_264 zz4_265 zz4_266 zz4_267 zz4_268 zz4_269 zz4_270 zz4_271 zz4_272 zz4_273 zz4_274 zz4_275 zz4_276 zz4_277 zz4_278 zz4_279 zz4_280 zz4_281 zz4_282 zz4_283 zz4_284 zz4_285 zz4_286 zz4_287 zz4_288 zz4_289 zz4_290 zz4_291 zz4_292 zz4_293 zz4_294 zz4_295 zz4_296 zz4_297 zz4_298 zz4_299 zz4_300 zz4_301 zz4_302 zz4_303 zz4_304 zz4_305 zz4_306 zz4_307 zz4_308 zz4_309 zz4_310 zz4_311 zz4_312 zz4_313 zz4_314 zz4_315 zz4_316 zz4_317 zz4_318 zz4_319 zz4_320 zz4_321 zz4_322 zz4_323 zz4_324 zz4_325 zz4_326 zz4_327 zz4_328 zz4_329 zz4_330 zz4_331 zz4_332 zz4_333 zz4_334 zz4_335 zz4_336 zz4_337 zz4_338 zz4_339 zz4_340 zz4_341 zz4_342 zz4_343 zz4_344 zz4_345 zz4_346 zz4_347 zz4_348 zz4_349 zz4_350 zz4_351 zz4_352 zz4_353 zz4_354 zz4_355 zz4_356 zz4_357 zz4_358 zz4_359 x11_47 zz5_0 kj47 HJ47 zz5_1 x12_50 x13_50 zz5_180 kj50 HJ50 zz5_181 zz5_182 zz5_183 zz5_184 zz5_185 zz5_186 zz5_187 zz5_188 zz5_189 zz5_190 zz5_191 zz5_192 zz5_193 zz5_194 zz5_195 zz5_196 zz5_197 zz5_198 zz5_199 zz5_200 zz5_201 zz5_202 zz5_203 zz5_204 zz5_205 zz5_206 zz5_207 zz5_208 zz5_209 zz5_210 zz5_211 zz5_212 zz5_213 zz5_214 zz5_215 zz5_216 zz5_217 zz5_218 zz5_219 zz5_220 zz5_221 zz5_222 zz5_223 zz5_224 zz5_225 zz5_226 zz5_227 zz5_228 zz5_229 zz5_230 zz5_231 zz5_232 zz5_233 zz5_234 zz5_235 zz5_236 zz5_237 zz5_238 zz5_239 zz5_240 zz5_241 zz5_242 zz5_243 zz5_244 zz5_245 zz5_246 zz5_247 zz5_248 zz5_249 zz5_250 zz5_251 zz5_252 zz5_253 zz5_254 zz5_255 zz5_256 zz5_257 zz5_258 zz5_259 zz5_260 zz5_261 zz5_262 zz5_263 zz5_264 zz5_265 zz5_266 zz5_267 zz5_268 zz5_269 zz5_270 zz5_271 zz5_272 zz5_273 zz5_274 zz5_275 zz5_276 zz5_277 zz5_278 zz5_279 zz5_280 zz5_281 zz5_282 zz5_283 zz5_284 zz5_285 zz5_286 zz5_287 zz5_288 zz5_289 zz5_290 zz5_291 zz5_292 zz5_293 zz5_294 zz5_295 zz5_296 zz5_297 zz5_298 zz5_299 zz5_300 zz5_301 zz5_302 zz5_303 zz5_304 zz5_305 zz5_306 zz5_307 zz5_308 zz5_309 zz5_310 zz5_311 zz5_312 zz5_313 zz5_314 zz5_315 zz5_316 zz5_317 zz5_318 zz5_319 zz5_320 zz5_321 zz5_322 zz5_323 zz5_324 zz5_325 zz5_326 zz5_327 zz5_328 zz5_329 zz5_330 zz5_331 zz5_332 zz5_333 zz5_334 zz5_335 zz5_336 zz5_337 zz5_338 zz5_339 zz5_340 zz5_341 zz5_342 zz5_343 zz5_344 zz5_345 zz5_346 zz5_347 zz5_348 zz5_349 zz5_350 zz5_351 zz5_352 zz5_353 zz5_354 zz5_355 zz5_356 zz5_357 zz5_358 zz5_359 x14_53 x15_53 zz6_0 kj53 HJ53 zz6_1 zz6_2 zz6_3 zz6_4 zz6_5 zz6_6 zz6_7 zz6_8 zz6_9 zz6_10 zz6_11 zz6_12 zz6_13 zz6_14 zz6_15 zz6_16 zz6_17 zz6_18 zz6_19 zz6_20 zz6_21 zz6_22 zz6_23 zz6_24 zz6_25 zz6_26 zz6_27 zz6_28 zz6_29 zz6_30 zz6_31 zz6_32 zz6_33 zz6_34 zz6_35 zz6_36 zz6_37 zz6_38 zz6_39 zz6_40 zz6_41 zz6_42 zz6_43 zz6_44 zz6_45 zz6_46 zz6_47 zz6_48 zz6_49 zz6_50 zz6_51 zz6_52 zz6_53 zz6_54 zz6_55 zz6_56 zz6_57 zz6_58 zz6_59 zz6_60 zz6_61 zz6_62 zz6_63 zz6_64 zz6_65 zz6_66 zz6_67 zz6_68 zz6_69 zz6_70 zz6_71 zz6_72 zz6_73 zz6_74 zz6_75 zz6_76 zz6_77 zz6_78 zz6_79 zz6_80 zz6_81 zz6_82 zz6_83 zz6_84 zz6_85 zz6_86 zz6_87 zz6_88 zz6_89 zz6_90 zz6_91 zz6_92 zz6_93 zz6_94 zz6_95 zz6_96 zz6_97 zz6_98 zz6_99 zz6_100 zz6_101 zz6_102 zz6_103 zz6_104 zz6_105 zz6_106 zz6_107 zz6_108 zz6_109 zz6_110 zz6_111 zz6_112 zz6_113 zz6_114 zz6_115 zz6_116 zz6_117 zz6_118 zz6_119 zz6_120 zz6_121 zz6_122 zz6_123 zz6_124 zz6_125 zz6_126 zz6_127 zz6_128 zz6_129 zz6_130 zz6_131 zz6_132 zz6_133 zz6_134 zz6_135 zz6_136 zz6_137 zz6_138 zz6_139 zz6_140 zz6_141 zz6_142 zz6_143 zz6_144 zz6_145 zz6_146 zz6_147 zz6_148 zz6_149 zz6_150 zz6_151 zz6_152 zz6_153 zz6_154 zz6_155 zz6_156 zz6_157 zz6_158 zz6_159 zz6_160 zz6_161 zz6_162 zz6_163 zz6_164 zz6_165 zz6_166 zz6_167 zz6_168 zz6_169 zz6_170 zz6_171 zz6_172 zz6_173 zz6_174 zz6_175 zz6_176 zz6_177 zz6_178 zz6_179 x16_57 HB kj57 HJ57 HC61 zz6_180 zz6_181 zz6_182 zz6_183 wc u20 u21 u22 u23 u24 u25 u26 u27 u28 u29 u30 u31 u32 u33 u34 u35 u36 u37 u38 u39 u40 u41 u42 u43 u44 u45 u46 u47 u48 u49 u50 u51 u52 u53 u54 u55 u56 u57 u58 u59 u60 u61 u62 u63 u64 u65 u66 u67 u68 u69 u70 u71 u72 u73 u74 u75 u76 u77 u78 u79 u80 u81 u82 u83 u84 u85 u86 u87 u88 u89 u90 u91 u92 u93 u94 u95 u96 u97 u98 u99 u100 u101 u102 u103 u104 u105 u106 u107 u108 u109 u110 u111 u112 u113 u114 u115 u116 u117 u118 u119 u120 u121 u122 u123 u124 u125 u128 u129 u130 u131 u132 u133 u134 u135 u136 u137 u138 u139 u140 u141 u142 u143 u144 u145 u146 u147 u148 u149 u150 u151 u152 u153 u154 u155 u156 u157 u158 u159 u160 u161 u162 u163 u164 u165 u166 u167 u168 u169 u170 u171 u172 u173 u174 u175 u176 u177 u178 u179 u180 u181 u182 u183 u184 u185 u186 u187 u188 u189 u190 u191 u192 u193 u194 u195 u196 u197 u198 u199 hcut
   exact hG_6.out⟩
end Go.Proofs.Ytengegdaiphfeaa.X
end
section
namespace Go.Proofs.Ytengegdaiphfeaa.X
open Go.RowKit Go.Proofs.YtengegdaiphfeaaW.PrintWords Go.Proofs.YtengegdaiphfeaaW.PrintLast Go.Proofs.YtengegdaiphfeaaW.PrintMore
attribute [local go_sem] max2_int min2_int max_two min_two max_three min_three max_four min_four
set_option linter.unusedVariables false
set_option linter.unusedSimpArgs false
private theorem wrap_sum_ (a b : Nat) (h : a + b ≤ 9223372036854775807) : wrap64 ((a : Int) + (b : Int)) = (a : Int) + (b : Int):=by unfold wrap64;omega
set_option maxHeartbeats 8000000 in
set_option maxRecDepth 100000 in
theorem laws_FnExpand.p7 (k : Nat) (A0 : Option Addr) (c0 : Nat) (l0 : List Int) (A1 : Option Addr) (c1 : Nat) (l1 : List Int) (r : Bool) (w : World) : (laws_FnExpand.p6 k A0 c0 l0 A1 c1 l1 r w).1:=by
 intros HR0 HC0 HR1 HC1 zz0_0 zz0_1 zz0_2 x27_2 zz0_180 kj2 HJ2 zz0_181 zz3_0 zz0_360 kj4 HJ4 zz0_361 zz0_362 zz0_363 zz0_364 zz0_365 zz0_366 zz0_367 zz0_368 zz0_369 zz0_370 zz0_371 zz0_372 zz0_373 zz0_374 zz0_375 zz0_376 zz0_377 zz0_378 zz0_379 zz0_380 zz0_381 zz0_382 zz0_383 zz0_384 zz0_385 zz0_386 zz0_387 zz0_388 zz0_389 zz0_390 zz0_391 zz0_392 zz0_393 zz0_394 zz0_395 zz0_396 zz0_397 zz0_398 zz0_399 zz0_400 zz0_401 zz0_402 zz0_403 zz0_404 zz0_405 zz0_406 zz0_407 zz0_408 zz0_409 zz0_410 zz0_411 zz0_412 zz0_413 zz0_414 zz0_415 zz0_416 zz0_417 zz0_418 zz0_419 zz0_420 zz0_421 zz0_422 zz0_423 zz0_424 zz0_425 zz0_426 zz0_427 zz0_428 zz0_429 zz0_430 zz0_431 zz0_432 zz0_433 zz0_434 zz0_435 zz0_436 zz0_437 zz0_438 zz0_439 zz0_440 zz0_441 zz0_442 zz0_443 zz0_444 zz0_445 zz0_446 zz0_447 zz0_448 zz0_449 zz0_450 zz0_451 zz0_452 zz0_453 zz0_454 zz0_455 zz0_456 zz0_457 zz0_458 zz0_459 zz0_460 zz0_461 zz0_462 zz0_463 zz0_464 zz0_465 zz0_466 zz0_467 zz0_468 zz0_469 zz0_470 zz0_471 zz0_472 zz0_473 zz0_474 zz0_475 zz0_476 zz0_477 zz0_478 zz0_479 zz0_480 zz0_481 zz0_482 zz0_483 zz0_484 zz0_485 zz0_486 zz0_487 zz0_488 zz0_489 zz0_490 zz0_491 zz0_492 zz0_493 zz0_494 zz0_495 zz0_496 zz0_497 zz0_498 zz0_499 zz0_500 zz0_501 zz0_502 zz0_503 zz0_504 zz0_505 zz0_506 zz0_507 zz0_508 zz0_509 zz0_510 zz0_511 zz0_512 zz0_513 zz0_514 zz0_515 zz0_516 zz0_517 zz0_518 zz0_519 zz0_520 zz0_521 zz0_522 zz0_523 zz0_524 zz0_525 zz0_526 zz0_527 zz0_528 zz0_529 zz0_530 zz0_531 zz0_532 zz0_533 zz0_534 zz0_535 zz0_536 zz0_537 zz0_538 zz0_539 x5_6 x6_6 zz1_0 kj6 HJ6 zz1_1 zz1_2 zz1_3 zz1_4 zz1_5 zz1_6 zz1_7 zz1_8 zz1_9 zz1_10 zz1_11 zz1_12 zz1_13 zz1_14 zz1_15 zz1_16 zz1_17 zz1_18 zz1_19 zz1_20 zz1_21 zz1_22 zz1_23 zz1_24 zz1_25 zz1_26 zz1_27 zz1_28 zz1_29 zz1_30 zz1_31 zz1_32 zz1_33 zz1_34 zz1_35 zz1_36 zz1_37 zz1_38 zz1_39 zz1_40 zz1_41 zz1_42 zz1_43 zz1_44 zz1_45 zz1_46 zz1_47 zz1_48 zz1_49 zz1_50 zz1_51 zz1_52 zz1_53 zz1_54 zz1_55 zz1_56 zz1_57 zz1_58 zz1_59 zz1_60 zz1_61 zz1_62 zz1_63 zz1_64 zz1_65 zz1_66 zz1_67 zz1_68 zz1_69 zz1_70 zz1_71 zz1_72 zz1_73 zz1_74 zz1_75 zz1_76 zz1_77 zz1_78 zz1_79 zz1_80 zz1_81 zz1_82 zz1_83 zz1_84 zz1_85 zz1_86 zz1_87 zz1_88 zz1_89 zz1_90 zz1_91 zz1_92 zz1_93 zz1_94 zz1_95 zz1_96 zz1_97 zz1_98 zz1_99 zz1_100 zz1_101 zz1_102 zz1_103 zz1_104 zz1_105 zz1_106 zz1_107 zz1_108 zz1_109 zz1_110 zz1_111 zz1_112 zz1_113 zz1_114 zz1_115 zz1_116 zz1_117 zz1_118 zz1_119 zz1_120 zz1_121 zz1_122 zz1_123 zz1_124 zz1_125 zz1_126 zz1_127 zz1_128 zz1_129 zz1_130 zz1_131 zz1_132 zz1_133 zz1_134 zz1_135 zz1_136 zz1_137 zz1_138 zz1_139 zz1_140 zz1_141 zz1_142 zz1_143 zz1_144 zz1_145 zz1_146 zz1_147 zz1_148 zz1_149 zz1_150 zz1_151 zz1_152 zz1_153 zz1_154 zz1_155 zz1_156 zz1_157 zz1_158 zz1_159 zz1_160 zz1_161 zz1_162 zz1_163 zz1_164 zz1_165 zz1_166 zz1_167 zz1_168 zz1_169 zz1_170 zz1_171 zz1_172 zz1_173 zz1_174 zz1_175 zz1_176 zz1_177 zz1_178 zz1_179 x7_9 x8_9 zz2_0 kj9 HJ9 zz2_1 zz2_2 zz2_3 zz2_4 zz2_5 zz2_6 zz2_7 zz2_8 zz2_9 zz2_10 zz2_11 zz2_12 zz2_13 zz2_14 zz2_15 zz2_16 zz2_17 zz2_18 zz2_19 zz2_20 zz2_21 zz2_22 zz2_23 zz2_24 zz2_25 zz2_26 zz2_27 zz2_28 zz2_29 zz2_30 zz2_31 zz2_32 zz2_33 zz2_34 zz2_35 zz2_36 zz2_37 zz2_38 zz2_39 zz2_40 zz2_41 zz2_42 zz2_43 zz2_44 zz2_45 zz2_46 zz2_47 zz2_48 zz2_49 zz2_50 zz2_51 zz2_52 zz2_53 zz2_54 zz2_55 zz2_56 zz2_57 zz2_58 zz2_59 zz2_60 zz2_61 zz2_62 zz2_63 zz2_64 zz2_65 zz2_66 zz2_67 zz2_68 zz2_69 zz2_70 zz2_71 zz2_72 zz2_73 zz2_74 zz2_75 zz2_76 zz2_77 zz2_78 zz2_79 zz2_80 zz2_81 zz2_82 zz2_83 zz2_84 zz2_85 zz2_86 zz2_87 zz2_88 zz2_89 zz2_90 zz2_91 zz2_92 zz2_93 zz2_94 zz2_95 zz2_96 zz2_97 zz2_98 zz2_99 zz2_100 zz2_101 zz2_102 zz2_103 zz2_104 zz2_105 zz2_106 zz2_107 zz2_108 zz2_109 zz2_110 zz2_111 zz2_112 zz2_113 zz2_114 zz2_115 zz2_116 zz2_117 zz2_118 zz2_119 zz2_120 zz2_121 zz2_122 zz2_123 zz2_124 zz2_125 zz2_126 zz2_127 zz2_128 zz2_129 zz2_130 zz2_131 zz2_132 zz2_133 zz2_134 zz2_135 zz2_136 zz2_137 zz2_138 zz2_139 zz2_140 zz2_141 zz2_142 zz2_143 zz2_144 zz2_145 zz2_146 zz2_147 zz2_148 zz2_149 zz2_150 zz2_151 zz2_152 zz2_153 zz2_154 zz2_155 zz2_156 zz2_157 zz2_158 zz2_159 zz2_160 zz2_161 zz2_162 zz2_163 zz2_164 zz2_165 zz2_166 zz2_167 zz2_168 zz2_169 zz2_170 zz2_171 zz2_172 zz2_173 zz2_174 zz2_175 zz2_176 zz2_177 zz2_178 zz2_179 x9_12 x10_12 zz3_1 kj12 HJ12 zz3_2 zz3_3 zz3_4 zz3_5 zz3_6 zz3_7 zz3_8 zz3_9 zz3_10 zz3_11 zz3_12 zz3_13 zz3_14 zz3_15 zz3_16 zz3_17 zz3_18 zz3_19 zz3_20 zz3_21 zz3_22 zz3_23 zz3_24 zz3_25 zz3_26 zz3_27 zz3_28 zz3_29 zz3_30 zz3_31 zz3_32 zz3_33 zz3_34 zz3_35 zz3_36 zz3_37 zz3_38 zz3_39 zz3_40 zz3_41 zz3_42 zz3_43 zz3_44 zz3_45 zz3_46 zz3_47 zz3_48 zz3_49 zz3_50 zz3_51 zz3_52 zz3_53 zz3_54 zz3_55 zz3_56 zz3_57 zz3_58 zz3_59 zz3_60 zz3_61 zz3_62 zz3_63 zz3_64 zz3_65 zz3_66 zz3_67 zz3_68 zz3_69 zz3_70 zz3_71 zz3_72 zz3_73 zz3_74 zz3_75 zz3_76 zz3_77 zz3_78 zz3_79 zz3_80 zz3_81 zz3_82 zz3_83 zz3_84 zz3_85 zz3_86 zz3_87 zz3_88 zz3_89 zz3_90 zz3_91 zz3_92 zz3_93 zz3_94 zz3_95 zz3_96 zz3_97 zz3_98 zz3_99 zz3_100 zz3_101 zz3_102 zz3_103 zz3_104 zz3_105 zz3_106 zz3_107 zz3_108 zz3_109 zz3_110 zz3_111 zz3_112 zz3_113 zz3_114 zz3_115 zz3_116 zz3_117 zz3_118 zz3_119 zz3_120 zz3_121 zz3_122 zz3_123 zz3_124 zz3_125 zz3_126 zz3_127 zz3_128 zz3_129 zz3_130 zz3_131 zz3_132 zz3_133 zz3_134 zz3_135 zz3_136 zz3_137 zz3_138 zz3_139 zz3_140 zz3_141 zz3_142 zz3_143 zz3_144 zz3_145 zz3_146 zz3_147 zz3_148 zz3_149 zz3_150 zz3_151 zz3_152 zz3_153 zz3_154 zz3_155 zz3_156 zz3_157 zz3_158 zz3_159 zz3_160 zz3_161 zz3_162 zz3_163 zz3_164 zz3_165 zz3_166 zz3_167 zz3_168 zz3_169 zz3_170 zz3_171 zz3_172 zz3_173 zz3_174 zz3_175 zz3_176 zz3_177 zz3_178 zz3_179 x70_14 zz4_0 kj14 HJ14 zz4_1 u4 zz4_180 kj30 HJ30 zz4_181 zz4_182 zz4_183 zz4_184 zz4_185 zz4_186 zz4_187 zz4_188 zz4_189 zz4_190 zz4_191 zz4_192 zz4_193 zz4_194 zz4_195 zz4_196 zz4_197 zz4_198 zz4_199 zz4_200 zz4_201 zz4_202 zz4_203 zz4_204 zz4_205 zz4_206 zz4_207 zz4_208 zz4_209 zz4_210 zz4_211 zz4_212 zz4_213 zz4_214 zz4_215 zz4_216 zz4_217 zz4_218 zz4_219 zz4_220 zz4_221 zz4_222 zz4_223 zz4_224 zz4_225 zz4_226 zz4_227 zz4_228 zz4_229 zz4_230 zz4_231 zz4_232 zz4_233 zz4_234 zz4_235 zz4_236 zz4_237 zz4_238 zz4_239 zz4_240 zz4_241 zz4_242 zz4_243 zz4_244 zz4_245 zz4_246 zz4_247 zz4_248 zz4_249 zz4_250 zz4_251 zz4_252 zz4_253 zz4_254 zz4_255 zz4_256 zz4_257 zz4_258 zz4_259 zz4_260 zz4_261 zz4_262 zz4_263 zz4_264 zz4_265 zz4_266 zz4_267 zz4_268 zz4_269 zz4_270 zz4_271 zz4_272 zz4_273 zz4_274 zz4_275 zz4_276 zz4_277 zz4_278 zz4_279 zz4_280 zz4_281 zz4_282 zz4_283 zz4_284 zz4_285 zz4_286 zz4_287 zz4_288 zz4_289 zz4_290 zz4_291 zz4_292 zz4_293 zz4_294 zz4_295 zz4_296 zz4_297 zz4_298 zz4_299 zz4_300 zz4_301 zz4_302 zz4_303 zz4_304 zz4_305 zz4_306 zz4_307 zz4_308 zz4_309 zz4_310 zz4_311 zz4_312 zz4_313 zz4_314 zz4_315 zz4_316 zz4_317 zz4_318 zz4_319 zz4_320 zz4_321 zz4_322 zz4_323 zz4_324 zz4_325 zz4_326 zz4_327 zz4_328 zz4_329 zz4_330 zz4_331 zz4_332 zz4_333 zz4_334 zz4_335 zz4_336 zz4_337 zz4_338 zz4_339 zz4_340 zz4_341 zz4_342 zz4_343 zz4_344 zz4_345 zz4_346 zz4_347 zz4_348 zz4_349 zz4_350 zz4_351 zz4_352 zz4_353 zz4_354 zz4_355 zz4_356 zz4_357 zz4_358 zz4_359 x11_47 zz5_0 kj47 HJ47 zz5_1 x12_50 x13_50 zz5_180 kj50 HJ50 zz5_181 zz5_182 zz5_183 zz5_184 zz5_185 zz5_186 zz5_187 zz5_188 zz5_189 zz5_190 zz5_191 zz5_192 zz5_193 zz5_194 zz5_195 zz5_196 zz5_197 zz5_198 zz5_199 zz5_200 zz5_201 zz5_202 zz5_203 zz5_204 zz5_205 zz5_206 zz5_207 zz5_208 zz5_209 zz5_210 zz5_211 zz5_212 zz5_213 zz5_214 zz5_215 zz5_216 zz5_217 zz5_218 zz5_219 zz5_220 zz5_221 zz5_222 zz5_223 zz5_224 zz5_225 zz5_226 zz5_227 zz5_228 zz5_229 zz5_230 zz5_231 zz5_232 zz5_233 zz5_234 zz5_235 zz5_236 zz5_237 zz5_238 zz5_239 zz5_240 zz5_241 zz5_242 zz5_243 zz5_244 zz5_245 zz5_246 zz5_247 zz5_248 zz5_249 zz5_250 zz5_251 zz5_252 zz5_253 zz5_254 zz5_255 zz5_256 zz5_257 zz5_258 zz5_259 zz5_260 zz5_261 zz5_262 zz5_263 zz5_264 zz5_265 zz5_266 zz5_267 zz5_268 zz5_269 zz5_270 zz5_271 zz5_272 zz5_273 zz5_274 zz5_275 zz5_276 zz5_277 zz5_278 zz5_279 zz5_280 zz5_281 zz5_282 zz5_283 zz5_284 zz5_285 zz5_286 zz5_287 zz5_288 zz5_289 zz5_290 zz5_291 zz5_292 zz5_293 zz5_294 zz5_295 zz5_296 zz5_297 zz5_298 zz5_299 zz5_300 zz5_301 zz5_302 zz5_303 zz5_304 zz5_305 zz5_306 zz5_307 zz5_308 zz5_309 zz5_310 zz5_311 zz5_312 zz5_313 zz5_314 zz5_315 zz5_316 zz5_317 zz5_318 zz5_319 zz5_320 zz5_321 zz5_322 zz5_323 zz5_324 zz5_325 zz5_326 zz5_327 zz5_328 zz5_329 zz5_330 zz5_331 zz5_332 zz5_333 zz5_334 zz5_335 zz5_336 zz5_337 zz5_338 zz5_339 zz5_340 zz5_341 zz5_342 zz5_343 zz5_344 zz5_345 zz5_346 zz5_347 zz5_348 zz5_349 zz5_350 zz5_351 zz5_352 zz5_353 zz5_354 zz5_355 zz5_356 zz5_357 zz5_358 zz5_359 x14_53 x15_53 zz6_0 kj53 HJ53 zz6_1 zz6_2 zz6_3 zz6_4 zz6_5 zz6_6 zz6_7 zz6_8 zz6_9 zz6_10 zz6_11 zz6_12 zz6_13 zz6_14 zz6_15 zz6_16 zz6_17 zz6_18 zz6_19 zz6_20 zz6_21 zz6_22 zz6_23 zz6_24 zz6_25 zz6_26 zz6_27 zz6_28 zz6_29 zz6_30 zz6_31 zz6_32 zz6_33 zz6_34 zz6_35 zz6_36 zz6_37 zz6_38 zz6_39 zz6_40 zz6_41 zz6_42 zz6_43 zz6_44 zz6_45 zz6_46 zz6_47 zz6_48 zz6_49 zz6_50 zz6_51 zz6_52 zz6_53 zz6_54 zz6_55 zz6_56 zz6_57 zz6_58 zz6_59 zz6_60 zz6_61 zz6_62 zz6_63 zz6_64 zz6_65 zz6_66 zz6_67 zz6_68 zz6_69 zz6_70 zz6_71 zz6_72 zz6_73 zz6_74 zz6_75 zz6_76 zz6_77 zz6_78 zz6_79 zz6_80 zz6_81 zz6_82 zz6_83 zz6_84 zz6_85 zz6_86 zz6_87 zz6_88 zz6_89 zz6_90 zz6_91 zz6_92 zz6_93 zz6_94 zz6_95 zz6_96 zz6_97 zz6_98 zz6_99 zz6_100 zz6_101 zz6_102 zz6_103 zz6_104 zz6_105 zz6_106 zz6_107 zz6_108 zz6_109 zz6_110 zz6_111 zz6_112 zz6_113 zz6_114 zz6_115 zz6_116 zz6_117 zz6_118 zz6_119 zz6_120 zz6_121 zz6_122 zz6_123 zz6_124 zz6_125 zz6_126 zz6_127 zz6_128 zz6_129 zz6_130 zz6_131 zz6_132 zz6_133 zz6_134 zz6_135 zz6_136 zz6_137 zz6_138 zz6_139 zz6_140 zz6_141 zz6_142 zz6_143 zz6_144 zz6_145 zz6_146 zz6_147 zz6_148 zz6_149 zz6_150 zz6_151 zz6_152 zz6_153 zz6_154 zz6_155 zz6_156 zz6_157 zz6_158 zz6_159 zz6_160 zz6_161 zz6_162 zz6_163 zz6_164 zz6_165 zz6_166 zz6_167 zz6_168 zz6_169 zz6_170 zz6_171 zz6_172 zz6_173 zz6_174 zz6_175 zz6_176 zz6_177 zz6_178 zz6_179 x16_57 HB kj57 HJ57 HC61 zz6_180 zz6_181 zz6_182 zz6_183 wc u20 u21 u22 u23 u24 u25 u26 u27 u28 u29 u30 u31 u32 u33 u34 u35 u36 u37 u38 u39 u40 u41 u42 u43 u44 u45 u46 u47 u48 u49 u50 u51 u52 u53 u54 u55 u56 u57 u58 u59 u60 u61 u62 u63 u64 u65 u66 u67 u68 u69 u70 u71 u72 u73 u74 u75 u76 u77 u78 u79 u80 u81 u82 u83 u84 u85 u86 u87 u88 u89 u90 u91 u92 u93 u94 u95 u96 u97 u98 u99 u100 u101 u102 u103 u104 u105 u106 u107 u108 u109 u110 u111 u112 u113 u114 u115 u116 u117 u118 u119 u120 u121 u122 u123 u124 u125 u128 u129 u130 u131 u132 u133 u134 u135 u136 u137 u138 u139 u140 u141 u142 u143 u144 u145 u146 u147 u148 u149 u150 u151 u152 u153 u154 u155 u156 u157 u158 u159 u160 u161 u162 u163 u164 u165 u166 u167 u168 u169 u170 u171 u172 u173 u174 u175 u176 u177 u178 u179 u180 u181 u182 u183 u184 u185 u186 u187 u188 u189 u190 u191 u192 u193 u194 u195 u196 u197 u198 u199 hcut
 clear HC61
 try clear c1
 try clear c2
 try clear p2
 try clear c3
 try clear c4
 try clear c4b0
 try clear c4b1
 try clear c5
 try clear c6
 try clear c14
 try clear c16
 try clear c16b0
 try clear c16b1
 try clear c17
 try clear c17b0
 try clear c17b1
 try clear c17b2
 try clear c20
 try clear c20b0
 try clear c20b1
 try clear c20b2
 try clear c24
 try clear c24b0
 try clear c24b1
 try clear c32
 try clear c33
 try clear c33b0
 try clear c33b1
 try clear c34
 try clear c34b0
 try clear c34b1
 try clear c34b2
 try clear c37
 try clear c37b0
 try clear c37b1
 try clear c37b2
 try clear c40
 try clear c40b0
 try clear c40b1
 try clear c41
 try clear c42
 try clear c43
 try clear c48
 try clear c49
 try clear c55
 try clear c55b0
 try clear c55b1
 try clear c55b2
 try clear c62
 try clear c62b0
 try clear c62b1
 try clear c63
 try clear c63b0
 try clear p2
 obtain ⟨kq,x125_60,rfl,HA,HJ60,HB⟩:=hcut
 cases kq with
 | zero => exact absurd HA.out (by simp [laws_FnExpand.j11])
 | succ kj60 =>
  have H:=HA.out
  clear HA
  simp only [laws_FnExpand.j11] at H
  by_cases c64 : x125_60 = true
  ·subst c64
   have H1 : (laws_FnExpand.l0 kj60 x5_6 x6_6 x7_9 x11_47 x12_50 x13_50 x14_53 x15_53 x16_57 (⟨#[]⟩ : ByteArray) x6_6 0) = some r:=by rw [if_pos rfl] at H;exact H
   clear H
   have H:=H1
   clear H1
   have HC65:=Aside0.mk H
   clear H
   go_upto_block 0 with (fail)
   go_cut [17] (fun v17 wc => ∃ (kq : Nat) (x17_64 : ByteArray),v17 = .string x17_64 ∧ Aside0 (laws_FnExpand.j13 kq x5_6 x6_6 x7_9 x11_47 x12_50 x13_50 x14_53 x15_53 x16_57 x17_64 = some r) ∧ Aside0 (kq ≤ kj60) ∧ Aside0 (Below w.heap.size w wc))
   case first =>
    have H:=HC65.out
    clear HC65
    have H':=Aside0.mk H
    clear H
    go_wp2
    go_loopg [17,127] kj60 (fun kq v17 v127 w' => ∃ (x17_13 : ByteArray) (x127_13 : Int),v17 = .string x17_13 ∧ v127 = .int .i64 x127_13 ∧ Aside0 (laws_FnExpand.l0 kq x5_6 x6_6 x7_9 x11_47 x12_50 x13_50 x14_53 x15_53 x16_57 x17_13 x6_6 x127_13 = some r) ∧ Aside0 (kq ≤ kj60) ∧ Aside0 (Below w.heap.size w w'))
    case atStart => exact ⟨((⟨#[]⟩ : ByteArray)),(0),(by first|rfl|(simp;done)|(simp [*];done)),(by first|rfl|(simp;done)|(simp [*];done)),H',⟨Nat.le_refl _⟩,⟨be0_ HB.out⟩⟩
    case round =>
     clear H'
     try clear c1
     try clear c2
     try clear p2
     try clear c3
     try clear c4
     try clear c4b0
     try clear c4b1
     try clear c5
     try clear c6
     try clear c14
     try clear c16
     try clear c16b0
     try clear c16b1
     try clear c17
     try clear c17b0
     try clear c17b1
     try clear c17b2
     try clear c20
     try clear c20b0
     try clear c20b1
     try clear c20b2
     try clear c24
     try clear c24b0
     try clear c24b1
     try clear c32
     try clear c33
     try clear c33b0
     try clear c33b1
     try clear c34
     try clear c34b0
     try clear c34b1
     try clear c34b2
     try clear c37
     try clear c37b0
     try clear c37b1
     try clear c37b2
     try clear c40
     try clear c40b0
     try clear c40b1
     try clear c41
     try clear c42
     try clear c43
     try clear c48
     try clear c49
     try clear c55
     try clear c55b0
     try clear c55b1
     try clear c55b2
     try clear c62
     try clear c62b0
     try clear c62b1
     try clear c63
     try clear c63b0
     try clear c64
     try clear p2
     obtain ⟨x17_13,x127_13,rfl,rfl,HA,HK13,HB⟩:=hrel
     cases gk with
     | zero => exact absurd HA.out (by simp [laws_FnExpand.l0])
     | succ k13 =>
      have H:=HA.out
      clear HA
      simp only [laws_FnExpand.l0] at H
      by_cases c66 : x127_13 < x6_6
      ·rw [if_pos c66] at H
       have c66b0 : decide (x127_13 < x6_6) = true:=decide_eq_true c66
       clear c66
       (first|rw [c66b0]|(simp only [i64_w,i32_w];rw [c66b0])|skip)
       by_cases c67 : x17_13.size + x7_9.size ≤ 9223372036854775807
       ·rw [if_pos c67] at H
        have c67b0:=eq_true c67
        have c67b1 : decide (x17_13.size + x7_9.size ≤ 9223372036854775807) = true:=decide_eq_true c67
        try have c67b2 : (9223372036854775807 < x17_13.size + x7_9.size) = False:=eq_false (Nat.not_lt.2 c67)
        have H':=Aside0.mk H
        clear H
        go_wp2
        go_roundg k13
        case measure => have:=HJ2.out;have:=HJ4.out;have:=HJ6.out;have:=HJ9.out;have:=HJ12.out;have:=HJ14.out;have:=HJ30.out;have:=HJ47.out;have:=HJ50.out;have:=HJ53.out;have:=HJ57.out;have:=HJ60.out;have:=HK13.out;omega
        case rel => exact ⟨(x17_13 ++ x7_9),(wrap64 (x127_13 + 1)),(by first|rfl|(simp;done)|(simp [*];done)),(by first|rfl|(simp;done)|(simp [*];done)),H',⟨by have:=HJ2.out;have:=HJ4.out;have:=HJ6.out;have:=HJ9.out;have:=HJ12.out;have:=HJ14.out;have:=HJ30.out;have:=HJ47.out;have:=HJ50.out;have:=HJ53.out;have:=HJ57.out;have:=HJ60.out;have:=HK13.out;omega⟩,⟨be0_ HB.out⟩⟩
       ·rw [if_neg c67] at H
        exact absurd H (by simp)
      ·rw [if_neg c66] at H
       have c66b0 : decide (x127_13 < x6_6) = false:=decide_eq_false c66
       clear c66
       (first|rw [c66b0]|(simp only [i64_w,i32_w];rw [c66b0])|skip)
       have H':=Aside0.mk H
       clear H
       go_wp2
       go_meet
       case rel => exact ⟨_,(x17_13),(by first|rfl|(simp;done)|(simp [*];done)),H',⟨by have:=HJ2.out;have:=HJ4.out;have:=HJ6.out;have:=HJ9.out;have:=HJ12.out;have:=HJ14.out;have:=HJ30.out;have:=HJ47.out;have:=HJ50.out;have:=HJ53.out;have:=HJ57.out;have:=HJ60.out;have:=HK13.out;first|omega|exact Nat.le_refl _⟩,⟨be0_ HB.out⟩⟩
   case rest =>
    clear HC65
    try clear c1
    try clear c2
    try clear p2
    try clear c3
    try clear c4
    try clear c4b0
    try clear c4b1
    try clear c5
    try clear c6
    try clear p6
    try clear c14
    try clear c16
    try clear c16b0
    try clear c16b1
    try clear c17
    try clear c17b0
    try clear c17b1
    try clear c17b2
    try clear c20
    try clear c20b0
    try clear c20b1
    try clear c20b2
    try clear c24
    try clear c24b0
    try clear c24b1
    try clear c32
    try clear c33
    try clear c33b0
    try clear c33b1
    try clear c34
    try clear c34b0
    try clear c34b1
    try clear c34b2
    try clear c37
    try clear c37b0
    try clear c37b1
    try clear c37b2
    try clear c40
    try clear c40b0
    try clear c40b1
    try clear c41
    try clear c42
    try clear c43
    try clear c48
    try clear c49
    try clear c55
    try clear c55b0
    try clear c55b1
    try clear c55b2
    try clear c62
    try clear c62b0
    try clear c62b1
    try clear c63
    try clear c63b0
    try clear c64
    try clear p64
    try clear c66
    try clear c66b0
    try clear c67
    try clear c67b0
    try clear c67b1
    try clear c67b2
    try clear p2
    obtain ⟨kq,x17_64,rfl,HA,HJ64,HB⟩:=hcut
    cases kq with
    | zero => exact absurd HA.out (by simp [laws_FnExpand.j13])
    | succ kj64 =>
     have H:=HA.out
     clear HA
     simp only [laws_FnExpand.j13] at H
     have HC68:=Aside0.mk H
     clear H
     go_upto_region 18 with (fail)
     go_cut [18,19] (fun v18 v19 wc => ∃ (kq : Nat) (x18_67 : ByteArray) (x19_67 : Bool),v18 = .string x18_67 ∧ v19 = .bool x19_67 ∧ Aside0 (laws_FnExpand.j14 kq x5_6 x7_9 x11_47 x12_50 x13_50 x14_53 x15_53 x16_57 x17_64 x18_67 x19_67 = some r) ∧ Aside0 (kq ≤ kj64) ∧ Aside0 (Below w.heap.size w wc))
     case first =>
      have H:=HC68.out
      clear HC68
      replace H:=Option.bind_eq_some_iff.mp H
      obtain ⟨⟨t1010,t1011⟩,A690,H⟩:=H
      replace H : (laws_FnExpand.j14 kj64 x5_6 x7_9 x11_47 x12_50 x13_50 x14_53 x15_53 x16_57 x17_64 t1010 t1011) = some r:=H
      have A69:=Aside0.mk A690
      clear A690
      have H':=Aside0.mk H
      clear H
      go_wp2_with (first|((with_reducible refine gate_callee (f:=42) rfl ?_);refine goesL_ (some 136) rfl rfl Try.func42 (by kernel_rfl) rfl #[.string x16_57,.int .i64 x6_6] rfl lp_ ?_;(with_reducible refine (impl_ExpandExpression.calls kj64 x16_57 x6_6 t1010 t1011 _ A69.out).mono ?_);rintro e w70 ⟨rfl,hb⟩;refine ⟨_,rfl,?_⟩;have n0_:=Aside0.mk (below_step (be0_ HB.out) hb);clear HB;have HB:=n0_;clear n0_;(try clear hb);(try clear hb2);(try clear hk);(try clear hi)))
      go_meet
      case rel => exact ⟨_,(t1010),(t1011),(by first|rfl|(simp;done)|(simp [*];done)),(by first|rfl|(simp;done)|(simp [*];done)),H',⟨by have:=HJ2.out;have:=HJ4.out;have:=HJ6.out;have:=HJ9.out;have:=HJ12.out;have:=HJ14.out;have:=HJ30.out;have:=HJ47.out;have:=HJ50.out;have:=HJ53.out;have:=HJ57.out;have:=HJ60.out;have:=HJ64.out;first|omega|exact Nat.le_refl _⟩,⟨be0_ HB.out⟩⟩
     case rest =>
      clear HC68
      try clear c1
      try clear c2
      try clear p2
      try clear c3
      try clear c4
      try clear c4b0
      try clear c4b1
      try clear c5
      try clear c6
      try clear p6
      try clear c14
      try clear c16
      try clear c16b0
      try clear c16b1
      try clear c17
      try clear c17b0
      try clear c17b1
      try clear c17b2
      try clear c20
      try clear c20b0
      try clear c20b1
      try clear c20b2
      try clear c24
      try clear c24b0
      try clear c24b1
      try clear c32
      try clear c33
      try clear c33b0
      try clear c33b1
      try clear c34
      try clear c34b0
      try clear c34b1
      try clear c34b2
      try clear c37
      try clear c37b0
      try clear c37b1
      try clear c37b2
      try clear c40
      try clear c40b0
      try clear c40b1
      try clear c41
      try clear c42
      try clear c43
      try clear c48
      try clear c49
      try clear c55
      try clear c55b0
      try clear c55b1
      try clear c55b2
      try clear c62
      try clear c62b0
      try clear c62b1
      try clear c63
      try clear c63b0
      try clear c64
      try clear p64
      try clear c66
      try clear c66b0
      try clear c67
      try clear c67b0
      try clear c67b1
      try clear c67b2
      try clear p2
      try clear p6
      try clear p64
      obtain ⟨kq,x18_67,x19_67,rfl,rfl,HA,HJ67,HB⟩:=hcut
      cases kq with
      | zero => exact absurd HA.out (by simp [laws_FnExpand.j14])
      | succ kj67 =>
       have H:=HA.out
       clear HA
       simp only [laws_FnExpand.j14] at H
       have HC71:=Aside0.mk H
       clear H
       go_upto_region 19 with (fail)
       go_cut [153] (fun v153 wc => ∃ (kq : Nat) (x153_70 : Bool),v153 = .bool x153_70 ∧ Aside0 (laws_FnExpand.j15 kq x5_6 x7_9 x11_47 x12_50 x13_50 x14_53 x15_53 x153_70 = some r) ∧ Aside0 (kq ≤ kj67) ∧ Aside0 (Below w.heap.size w wc))
       case first =>
        have H:=HC71.out
        clear HC71
        by_cases c72 : x19_67 = true
        ·subst c72
         have H1 : (if x18_67.toList = x17_64.toList then ((impl_DepthOf.f kj67 x16_57).bind fun t1012 => ((impl_DepthOf.f kj67 x5_6).bind fun t1013 => (laws_FnExpand.j15 kj67 x5_6 x7_9 x11_47 x12_50 x13_50 x14_53 x15_53 (t1012 != (wrap64 (t1013 + 1)))))) else (laws_FnExpand.j15 kj67 x5_6 x7_9 x11_47 x12_50 x13_50 x14_53 x15_53 true)) = some r:=by rw [if_pos rfl] at H;exact H
         clear H
         have H:=H1
         clear H1
         by_cases c73 : x18_67.toList = x17_64.toList
         ·rw [if_pos c73] at H
          have c73b0 : (x18_67.toList == x17_64.toList) = true:=beq_iff_eq.mpr c73
          have c73b1 : (x18_67.toList != x17_64.toList) = false:=bne_eq_false_iff_eq.mpr c73
          clear c73
          (first|rw [c73b0]|(simp only [i64_w,i32_w];rw [c73b0])|skip)
          replace H:=Option.bind_eq_some_iff.mp H
          obtain ⟨t1012,A740,H⟩:=H
          replace H : ((impl_DepthOf.f kj67 x5_6).bind fun t1013 => (laws_FnExpand.j15 kj67 x5_6 x7_9 x11_47 x12_50 x13_50 x14_53 x15_53 (t1012 != (wrap64 (t1013 + 1))))) = some r:=H
          have A74:=Aside0.mk A740
          clear A740
          replace H:=Option.bind_eq_some_iff.mp H
          obtain ⟨t1013,A750,H⟩:=H
          replace H : (laws_FnExpand.j15 kj67 x5_6 x7_9 x11_47 x12_50 x13_50 x14_53 x15_53 (t1012 != (wrap64 (t1013 + 1)))) = some r:=H
          have A75:=Aside0.mk A750
          clear A750
          have H':=Aside0.mk H
          clear H
          go_wp2_with (first|(go_at_call 46;(with_reducible refine (impl_DepthOf.calls kj67 x16_57 t1012 _ A74.out).mono ?_);rintro e w76 ⟨rfl,hb⟩;have n0_:=Aside0.mk (below_step (be0_ HB.out) hb);clear HB;have HB:=n0_;clear n0_;(try clear hb);(try clear hb2);(try clear hk);(try clear hi))|(go_at_call 46;(with_reducible refine (impl_DepthOf.calls kj67 x5_6 t1013 _ A75.out).mono ?_);rintro e w77 ⟨rfl,hb⟩;have n0_:=Aside0.mk (below_step (be0_ HB.out) hb);clear HB;have HB:=n0_;clear n0_;(try clear hb);(try clear hb2);(try clear hk);(try clear hi)))
          go_meet
          case rel => exact ⟨_,((t1012 != (wrap64 (t1013 + 1)))),(by first|rfl|(simp;done)|(simp [*];done)),H',⟨by have:=HJ2.out;have:=HJ4.out;have:=HJ6.out;have:=HJ9.out;have:=HJ12.out;have:=HJ14.out;have:=HJ30.out;have:=HJ47.out;have:=HJ50.out;have:=HJ53.out;have:=HJ57.out;have:=HJ60.out;have:=HJ64.out;have:=HJ67.out;first|omega|exact Nat.le_refl _⟩,⟨be0_ HB.out⟩⟩
         ·rw [if_neg c73] at H
          have c73b0 : (x18_67.toList == x17_64.toList) = false:=beq_eq_false_iff_ne.mpr c73
          have c73b1 : (x18_67.toList != x17_64.toList) = true:=bne_iff_ne.mpr c73
          (first|rw [c73b0]|(simp only [i64_w,i32_w];rw [c73b0])|skip)
          have H':=Aside0.mk H
          clear H
          go_wp2
          go_meet
          case rel => exact ⟨_,(true),(by first|rfl|(simp;done)|(simp [*];done)),H',⟨by have:=HJ2.out;have:=HJ4.out;have:=HJ6.out;have:=HJ9.out;have:=HJ12.out;have:=HJ14.out;have:=HJ30.out;have:=HJ47.out;have:=HJ50.out;have:=HJ53.out;have:=HJ57.out;have:=HJ60.out;have:=HJ64.out;have:=HJ67.out;first|omega|exact Nat.le_refl _⟩,⟨be0_ HB.out⟩⟩
        ·replace c72:=Bool.eq_false_iff.mpr c72
         subst c72
         have H1 : (laws_FnExpand.j15 kj67 x5_6 x7_9 x11_47 x12_50 x13_50 x14_53 x15_53 true) = some r:=by rw [if_neg (show ¬ (false = true) by decide)] at H;exact H
         clear H
         have H:=H1
         clear H1
         have H':=Aside0.mk H
         clear H
         go_wp2
         go_meet
         case rel => exact ⟨_,(true),(by first|rfl|(simp;done)|(simp [*];done)),H',⟨by have:=HJ2.out;have:=HJ4.out;have:=HJ6.out;have:=HJ9.out;have:=HJ12.out;have:=HJ14.out;have:=HJ30.out;have:=HJ47.out;have:=HJ50.out;have:=HJ53.out;have:=HJ57.out;have:=HJ60.out;have:=HJ64.out;have:=HJ67.out;first|omega|exact Nat.le_refl _⟩,⟨be0_ HB.out⟩⟩
       case rest =>
        clear HC71
        try clear c1
        try clear c2
        try clear p2
        try clear c3
        try clear c4
        try clear c4b0
        try clear c4b1
        try clear c5
        try clear c6
        try clear p6
        try clear c7
        try clear c14
        try clear c16
        try clear c16b0
        try clear c16b1
        try clear c17
        try clear c17b0
        try clear c17b1
        try clear c17b2
        try clear c20
        try clear c20b0
        try clear c20b1
        try clear c20b2
        try clear c24
        try clear c24b0
        try clear c24b1
        try clear c32
        try clear c33
        try clear c33b0
        try clear c33b1
        try clear c34
        try clear c34b0
        try clear c34b1
        try clear c34b2
        try clear c37
        try clear c37b0
        try clear c37b1
        try clear c37b2
        try clear c40
        try clear c40b0
        try clear c40b1
        try clear c41
        try clear c42
        try clear c43
        try clear c48
        try clear c49
        try clear c55
        try clear c55b0
        try clear c55b1
        try clear c55b2
        try clear c62
        try clear c62b0
        try clear c62b1
        try clear c63
        try clear c63b0
        try clear c64
        try clear p64
        try clear c66
        try clear c66b0
        try clear c67
        try clear c67b0
        try clear c67b1
        try clear c67b2
        try clear c72
        try clear c73
        try clear c73b0
        try clear c73b1
        try clear p2
        try clear p6
        try clear p64
        obtain ⟨kq,x153_70,rfl,HA,HJ70,HB⟩:=hcut
        cases kq with
        | zero => exact absurd HA.out (by simp [laws_FnExpand.j15])
        | succ kj70 =>
         have H:=HA.out
         clear HA
         simp only [laws_FnExpand.j15] at H
         by_cases c78 : x153_70 = true
         ·subst c78
          have H1 : (some false) = some r:=by rw [if_pos rfl] at H;exact H
          clear H
          have H:=H1
          clear H1
          obtain rfl:=Option.some.inj H
          go_wp2
          go_ret
          exact ⟨by first|rfl|(simp [errW_none,errW_some] <;> rfl)|(simp [*,errW_none,errW_some] <;> rfl),be0_ HB.out⟩
         ·replace c78:=Bool.eq_false_iff.mpr c78
          subst c78
          have H1 : ((impl_WordValid.f kj70 x7_9).bind fun t1014 => (if t1014 = true then (if x7_9.toList = ([] : List UInt8) then (some false) else (if x13_50 = true then (if (wrap64 ((x5_6.size : Int) + (x11_47.size : Int))) > 120 then ((impl_DepthOf.f kj70 x5_6).bind fun t1015 => (if t1015 > 0 then (some true) else (some (x7_9.toList == x5_6.toList)))) else (if (wrap64 ((x7_9.size : Int) + (x12_50.size : Int))) > 1000 then ((impl_DepthOf.f kj70 x5_6).bind fun t1016 => (if t1016 > 0 then (some true) else (some (x7_9.toList == x5_6.toList)))) else (if x15_53 = true then (if x7_9.size + x12_50.size ≤ 9223372036854775807 then (if x14_53.toList = (x7_9 ++ x12_50).toList then ((impl_DepthOf.f kj70 x5_6).bind fun t1017 => (if t1017 > 0 then (some true) else (some (x7_9.toList == x5_6.toList)))) else (some false)) else (none)) else (some false)))) else ((impl_DepthOf.f kj70 x5_6).bind fun t1018 => (if t1018 > 0 then (some true) else (some (x7_9.toList == x5_6.toList)))))) else (some false))) = some r:=by rw [if_neg (show ¬ (false = true) by decide)] at H;exact H
          clear H
          have H:=H1
          clear H1
          replace H:=Option.bind_eq_some_iff.mp H
          obtain ⟨t1014,A790,H⟩:=H
          replace H : (if t1014 = true then (if x7_9.toList = ([] : List UInt8) then (some false) else (if x13_50 = true then (if (wrap64 ((x5_6.size : Int) + (x11_47.size : Int))) > 120 then ((impl_DepthOf.f kj70 x5_6).bind fun t1015 => (if t1015 > 0 then (some true) else (some (x7_9.toList == x5_6.toList)))) else (if (wrap64 ((x7_9.size : Int) + (x12_50.size : Int))) > 1000 then ((impl_DepthOf.f kj70 x5_6).bind fun t1016 => (if t1016 > 0 then (some true) else (some (x7_9.toList == x5_6.toList)))) else (if x15_53 = true then (if x7_9.size + x12_50.size ≤ 9223372036854775807 then (if x14_53.toList = (x7_9 ++ x12_50).toList then ((impl_DepthOf.f kj70 x5_6).bind fun t1017 => (if t1017 > 0 then (some true) else (some (x7_9.toList == x5_6.toList)))) else (some false)) else (none)) else (some false)))) else ((impl_DepthOf.f kj70 x5_6).bind fun t1018 => (if t1018 > 0 then (some true) else (some (x7_9.toList == x5_6.toList)))))) else (some false)) = some r:=H
          have A79:=Aside0.mk A790
          clear A790
          by_cases c80 : t1014 = true
          ·subst c80
           have H1 : (if x7_9.toList = ([] : List UInt8) then (some false) else (if x13_50 = true then (if (wrap64 ((x5_6.size : Int) + (x11_47.size : Int))) > 120 then ((impl_DepthOf.f kj70 x5_6).bind fun t1015 => (if t1015 > 0 then (some true) else (some (x7_9.toList == x5_6.toList)))) else (if (wrap64 ((x7_9.size : Int) + (x12_50.size : Int))) > 1000 then ((impl_DepthOf.f kj70 x5_6).bind fun t1016 => (if t1016 > 0 then (some true) else (some (x7_9.toList == x5_6.toList)))) else (if x15_53 = true then (if x7_9.size + x12_50.size ≤ 9223372036854775807 then (if x14_53.toList = (x7_9 ++ x12_50).toList then ((impl_DepthOf.f kj70 x5_6).bind fun t1017 => (if t1017 > 0 then (some true) else (some (x7_9.toList == x5_6.toList)))) else (some false)) else (none)) else (some false)))) else ((impl_DepthOf.f kj70 x5_6).bind fun t1018 => (if t1018 > 0 then (some true) else (some (x7_9.toList == x5_6.toList)))))) = some r:=by rw [if_pos rfl] at H;exact H
           clear H
           have H:=H1
           clear H1
           by_cases c81 : x7_9.toList = ([] : List UInt8)
           ·rw [if_pos c81] at H
            have c81b0 : (x7_9.toList == ([] : List UInt8)) = true:=beq_iff_eq.mpr c81
            have c81b1 : (x7_9.toList != ([] : List UInt8)) = false:=bne_eq_false_iff_eq.mpr c81
            clear c81
            obtain rfl:=Option.some.inj H
            go_wp2_with (first|((with_reducible refine gate_callee (f:=50) rfl ?_);refine goesL_ (some 155) rfl rfl Try.func50 (by kernel_rfl) rfl #[.string x7_9] rfl lp_ ?_;(with_reducible refine (impl_WordValid.calls kj70 x7_9 true _ A79.out).mono ?_);rintro e w' ⟨rfl,⟨nd,rfl⟩⟩;refine ⟨_,rfl,?_⟩))
            go_ret
            exact ⟨by first|rfl|(simp [errW_none,errW_some] <;> rfl)|(simp [*,errW_none,errW_some] <;> rfl),be0_ HB.out⟩
           ·rw [if_neg c81] at H
            have c81b0 : (x7_9.toList == ([] : List UInt8)) = false:=beq_eq_false_iff_ne.mpr c81
            have c81b1 : (x7_9.toList != ([] : List UInt8)) = true:=bne_iff_ne.mpr c81
            by_cases c82 : x13_50 = true
            ·subst c82
             have H1 : (if (wrap64 ((x5_6.size : Int) + (x11_47.size : Int))) > 120 then ((impl_DepthOf.f kj70 x5_6).bind fun t1015 => (if t1015 > 0 then (some true) else (some (x7_9.toList == x5_6.toList)))) else (if (wrap64 ((x7_9.size : Int) + (x12_50.size : Int))) > 1000 then ((impl_DepthOf.f kj70 x5_6).bind fun t1016 => (if t1016 > 0 then (some true) else (some (x7_9.toList == x5_6.toList)))) else (if x15_53 = true then (if x7_9.size + x12_50.size ≤ 9223372036854775807 then (if x14_53.toList = (x7_9 ++ x12_50).toList then ((impl_DepthOf.f kj70 x5_6).bind fun t1017 => (if t1017 > 0 then (some true) else (some (x7_9.toList == x5_6.toList)))) else (some false)) else (none)) else (some false)))) = some r:=by rw [if_pos rfl] at H;exact H
             clear H
             have H:=H1
             clear H1
             by_cases c83 : (wrap64 ((x5_6.size : Int) + (x11_47.size : Int))) > 120
             ·rw [if_pos c83] at H
              have c83b0 : decide (120 < (wrap64 ((x5_6.size : Int) + (x11_47.size : Int)))) = true:=decide_eq_true c83
              clear c83
              replace H:=Option.bind_eq_some_iff.mp H
              obtain ⟨t1015,A840,H⟩:=H
              replace H : (if t1015 > 0 then (some true) else (some (x7_9.toList == x5_6.toList))) = some r:=H
              have A84:=Aside0.mk A840
              clear A840
              by_cases c85 : t1015 > 0
              ·rw [if_pos c85] at H
               have c85b0 : decide (0 < t1015) = true:=decide_eq_true c85
               clear c85
               obtain rfl:=Option.some.inj H
               go_wp2_with (first|((with_reducible refine gate_callee (f:=50) rfl ?_);refine goesL_ (some 155) rfl rfl Try.func50 (by kernel_rfl) rfl #[.string x7_9] rfl lp_ ?_;(with_reducible refine (impl_WordValid.calls kj70 x7_9 true _ A79.out).mono ?_);rintro e w' ⟨rfl,⟨nd,rfl⟩⟩;refine ⟨_,rfl,?_⟩)|(go_at_call 46;(with_reducible refine (impl_DepthOf.calls kj70 x5_6 t1015 _ A84.out).mono ?_);rintro e w86 ⟨rfl,hb⟩;have n0_:=Aside0.mk (below_step (be0_ HB.out) hb);clear HB;have HB:=n0_;clear n0_;(try clear hb);(try clear hb2);(try clear hk);(try clear hi)))
               go_ret
               exact ⟨by first|rfl|(simp [errW_none,errW_some] <;> rfl)|(simp [*,errW_none,errW_some] <;> rfl),be0_ HB.out⟩
              ·rw [if_neg c85] at H
               have c85b0 : decide (0 < t1015) = false:=decide_eq_false c85
               clear c85
               obtain rfl:=Option.some.inj H
               go_wp2_with (first|((with_reducible refine gate_callee (f:=50) rfl ?_);refine goesL_ (some 155) rfl rfl Try.func50 (by kernel_rfl) rfl #[.string x7_9] rfl lp_ ?_;(with_reducible refine (impl_WordValid.calls kj70 x7_9 true _ A79.out).mono ?_);rintro e w' ⟨rfl,⟨nd,rfl⟩⟩;refine ⟨_,rfl,?_⟩)|(go_at_call 46;(with_reducible refine (impl_DepthOf.calls kj70 x5_6 t1015 _ A84.out).mono ?_);rintro e w87 ⟨rfl,hb⟩;have n0_:=Aside0.mk (below_step (be0_ HB.out) hb);clear HB;have HB:=n0_;clear n0_;(try clear hb);(try clear hb2);(try clear hk);(try clear hi)))
               go_ret
               exact ⟨by first|rfl|(simp [errW_none,errW_some] <;> rfl)|(simp [*,errW_none,errW_some] <;> rfl),be0_ HB.out⟩
             ·rw [if_neg c83] at H
              have c83b0 : decide (120 < (wrap64 ((x5_6.size : Int) + (x11_47.size : Int)))) = false:=decide_eq_false c83
              clear c83
              by_cases c88 : (wrap64 ((x7_9.size : Int) + (x12_50.size : Int))) > 1000
              ·rw [if_pos c88] at H
               have c88b0 : decide (1000 < (wrap64 ((x7_9.size : Int) + (x12_50.size : Int)))) = true:=decide_eq_true c88
               clear c88
               replace H:=Option.bind_eq_some_iff.mp H
               obtain ⟨t1016,A890,H⟩:=H
               replace H : (if t1016 > 0 then (some true) else (some (x7_9.toList == x5_6.toList))) = some r:=H
               have A89:=Aside0.mk A890
               clear A890
               by_cases c90 : t1016 > 0
               ·rw [if_pos c90] at H
                have c90b0 : decide (0 < t1016) = true:=decide_eq_true c90
                clear c90
                obtain rfl:=Option.some.inj H
                go_wp2_with (first|((with_reducible refine gate_callee (f:=50) rfl ?_);refine goesL_ (some 155) rfl rfl Try.func50 (by kernel_rfl) rfl #[.string x7_9] rfl lp_ ?_;(with_reducible refine (impl_WordValid.calls kj70 x7_9 true _ A79.out).mono ?_);rintro e w' ⟨rfl,⟨nd,rfl⟩⟩;refine ⟨_,rfl,?_⟩)|(go_at_call 46;(with_reducible refine (impl_DepthOf.calls kj70 x5_6 t1016 _ A89.out).mono ?_);rintro e w91 ⟨rfl,hb⟩;have n0_:=Aside0.mk (below_step (be0_ HB.out) hb);clear HB;have HB:=n0_;clear n0_;(try clear hb);(try clear hb2);(try clear hk);(try clear hi)))
                go_ret
                exact ⟨by first|rfl|(simp [errW_none,errW_some] <;> rfl)|(simp [*,errW_none,errW_some] <;> rfl),be0_ HB.out⟩
               ·rw [if_neg c90] at H
                have c90b0 : decide (0 < t1016) = false:=decide_eq_false c90
                clear c90
                obtain rfl:=Option.some.inj H
                go_wp2_with (first|((with_reducible refine gate_callee (f:=50) rfl ?_);refine goesL_ (some 155) rfl rfl Try.func50 (by kernel_rfl) rfl #[.string x7_9] rfl lp_ ?_;(with_reducible refine (impl_WordValid.calls kj70 x7_9 true _ A79.out).mono ?_);rintro e w' ⟨rfl,⟨nd,rfl⟩⟩;refine ⟨_,rfl,?_⟩)|(go_at_call 46;(with_reducible refine (impl_DepthOf.calls kj70 x5_6 t1016 _ A89.out).mono ?_);rintro e w92 ⟨rfl,hb⟩;have n0_:=Aside0.mk (below_step (be0_ HB.out) hb);clear HB;have HB:=n0_;clear n0_;(try clear hb);(try clear hb2);(try clear hk);(try clear hi)))
                go_ret
                exact ⟨by first|rfl|(simp [errW_none,errW_some] <;> rfl)|(simp [*,errW_none,errW_some] <;> rfl),be0_ HB.out⟩
              ·rw [if_neg c88] at H
               have c88b0 : decide (1000 < (wrap64 ((x7_9.size : Int) + (x12_50.size : Int)))) = false:=decide_eq_false c88
               clear c88
               by_cases c93 : x15_53 = true
               ·subst c93
                have H1 : (if x7_9.size + x12_50.size ≤ 9223372036854775807 then (if x14_53.toList = (x7_9 ++ x12_50).toList then ((impl_DepthOf.f kj70 x5_6).bind fun t1017 => (if t1017 > 0 then (some true) else (some (x7_9.toList == x5_6.toList)))) else (some false)) else (none)) = some r:=by rw [if_pos rfl] at H;exact H
                clear H
                have H:=H1
                clear H1
                by_cases c94 : x7_9.size + x12_50.size ≤ 9223372036854775807
                ·rw [if_pos c94] at H
                 have c94b0:=eq_true c94
                 have c94b1 : decide (x7_9.size + x12_50.size ≤ 9223372036854775807) = true:=decide_eq_true c94
                 try have c94b2 : (9223372036854775807 < x7_9.size + x12_50.size) = False:=eq_false (Nat.not_lt.2 c94)
                 try have c83b0_c94 : decide (120 < (((x5_6.size : Int) + (x11_47.size : Int)))) = false:=by rw [wrap_sum_ x5_6.size x11_47.size (by assumption)] at c83b0;exact c83b0
                 try have c88b0_c94 : decide (1000 < (((x7_9.size : Int) + (x12_50.size : Int)))) = false:=by rw [wrap_sum_ x7_9.size x12_50.size (by assumption)] at c88b0;exact c88b0
                 by_cases c95 : x14_53.toList = (x7_9 ++ x12_50).toList
                 ·rw [if_pos c95] at H
                  have c95b0 : (x14_53.toList == (x7_9 ++ x12_50).toList) = true:=beq_iff_eq.mpr c95
                  have c95b1 : (x14_53.toList != (x7_9 ++ x12_50).toList) = false:=bne_eq_false_iff_eq.mpr c95
                  clear c95
                  replace H:=Option.bind_eq_some_iff.mp H
                  obtain ⟨t1017,A960,H⟩:=H
                  replace H : (if t1017 > 0 then (some true) else (some (x7_9.toList == x5_6.toList))) = some r:=H
                  have A96:=Aside0.mk A960
                  clear A960
                  by_cases c97 : t1017 > 0
                  ·rw [if_pos c97] at H
                   have c97b0 : decide (0 < t1017) = true:=decide_eq_true c97
                   clear c97
                   obtain rfl:=Option.some.inj H
                   go_wp2_with (first|((with_reducible refine gate_callee (f:=50) rfl ?_);refine goesL_ (some 155) rfl rfl Try.func50 (by kernel_rfl) rfl #[.string x7_9] rfl lp_ ?_;(with_reducible refine (impl_WordValid.calls kj70 x7_9 true _ A79.out).mono ?_);rintro e w' ⟨rfl,⟨nd,rfl⟩⟩;refine ⟨_,rfl,?_⟩)|(go_at_call 46;(with_reducible refine (impl_DepthOf.calls kj70 x5_6 t1017 _ A96.out).mono ?_);rintro e w98 ⟨rfl,hb⟩;have n0_:=Aside0.mk (below_step (be0_ HB.out) hb);clear HB;have HB:=n0_;clear n0_;(try clear hb);(try clear hb2);(try clear hk);(try clear hi)))
                   go_ret
                   exact ⟨by first|rfl|(simp [errW_none,errW_some] <;> rfl)|(simp [*,errW_none,errW_some] <;> rfl),be0_ HB.out⟩
                  ·rw [if_neg c97] at H
                   have c97b0 : decide (0 < t1017) = false:=decide_eq_false c97
                   clear c97
                   obtain rfl:=Option.some.inj H
                   go_wp2_with (first|((with_reducible refine gate_callee (f:=50) rfl ?_);refine goesL_ (some 155) rfl rfl Try.func50 (by kernel_rfl) rfl #[.string x7_9] rfl lp_ ?_;(with_reducible refine (impl_WordValid.calls kj70 x7_9 true _ A79.out).mono ?_);rintro e w' ⟨rfl,⟨nd,rfl⟩⟩;refine ⟨_,rfl,?_⟩)|(go_at_call 46;(with_reducible refine (impl_DepthOf.calls kj70 x5_6 t1017 _ A96.out).mono ?_);rintro e w99 ⟨rfl,hb⟩;have n0_:=Aside0.mk (below_step (be0_ HB.out) hb);clear HB;have HB:=n0_;clear n0_;(try clear hb);(try clear hb2);(try clear hk);(try clear hi)))
                   go_ret
                   exact ⟨by first|rfl|(simp [errW_none,errW_some] <;> rfl)|(simp [*,errW_none,errW_some] <;> rfl),be0_ HB.out⟩
                 ·rw [if_neg c95] at H
                  have c95b0 : (x14_53.toList == (x7_9 ++ x12_50).toList) = false:=beq_eq_false_iff_ne.mpr c95
                  have c95b1 : (x14_53.toList != (x7_9 ++ x12_50).toList) = true:=bne_iff_ne.mpr c95
                  obtain rfl:=Option.some.inj H
                  go_wp2_with (first|((with_reducible refine gate_callee (f:=50) rfl ?_);refine goesL_ (some 155) rfl rfl Try.func50 (by kernel_rfl) rfl #[.string x7_9] rfl lp_ ?_;(with_reducible refine (impl_WordValid.calls kj70 x7_9 true _ A79.out).mono ?_);rintro e w' ⟨rfl,⟨nd,rfl⟩⟩;refine ⟨_,rfl,?_⟩))
                  go_ret
                  exact ⟨by first|rfl|(simp [errW_none,errW_some] <;> rfl)|(simp [*,errW_none,errW_some] <;> rfl),be0_ HB.out⟩
                ·rw [if_neg c94] at H
                 exact absurd H (by simp)
               ·replace c93:=Bool.eq_false_iff.mpr c93
                subst c93
                have H1 : (some false) = some r:=by rw [if_neg (show ¬ (false = true) by decide)] at H;exact H
                clear H
                have H:=H1
                clear H1
                obtain rfl:=Option.some.inj H
                go_wp2_with (first|((with_reducible refine gate_callee (f:=50) rfl ?_);refine goesL_ (some 155) rfl rfl Try.func50 (by kernel_rfl) rfl #[.string x7_9] rfl lp_ ?_;(with_reducible refine (impl_WordValid.calls kj70 x7_9 true _ A79.out).mono ?_);rintro e w' ⟨rfl,⟨nd,rfl⟩⟩;refine ⟨_,rfl,?_⟩))
                go_ret
                exact ⟨by first|rfl|(simp [errW_none,errW_some] <;> rfl)|(simp [*,errW_none,errW_some] <;> rfl),be0_ HB.out⟩
            ·replace c82:=Bool.eq_false_iff.mpr c82
             subst c82
             have H1 : ((impl_DepthOf.f kj70 x5_6).bind fun t1018 => (if t1018 > 0 then (some true) else (some (x7_9.toList == x5_6.toList)))) = some r:=by rw [if_neg (show ¬ (false = true) by decide)] at H;exact H
             clear H
             have H:=H1
             clear H1
             replace H:=Option.bind_eq_some_iff.mp H
             obtain ⟨t1018,A1000,H⟩:=H
             replace H : (if t1018 > 0 then (some true) else (some (x7_9.toList == x5_6.toList))) = some r:=H
             have A100:=Aside0.mk A1000
             clear A1000
             by_cases c101 : t1018 > 0
             ·rw [if_pos c101] at H
              have c101b0 : decide (0 < t1018) = true:=decide_eq_true c101
              clear c101
              obtain rfl:=Option.some.inj H
              go_wp2_with (first|((with_reducible refine gate_callee (f:=50) rfl ?_);refine goesL_ (some 155) rfl rfl Try.func50 (by kernel_rfl) rfl #[.string x7_9] rfl lp_ ?_;(with_reducible refine (impl_WordValid.calls kj70 x7_9 true _ A79.out).mono ?_);rintro e w' ⟨rfl,⟨nd,rfl⟩⟩;refine ⟨_,rfl,?_⟩)|(go_at_call 46;(with_reducible refine (impl_DepthOf.calls kj70 x5_6 t1018 _ A100.out).mono ?_);rintro e w102 ⟨rfl,hb⟩;have n0_:=Aside0.mk (below_step (be0_ HB.out) hb);clear HB;have HB:=n0_;clear n0_;(try clear hb);(try clear hb2);(try clear hk);(try clear hi)))
              go_ret
              exact ⟨by first|rfl|(simp [errW_none,errW_some] <;> rfl)|(simp [*,errW_none,errW_some] <;> rfl),be0_ HB.out⟩
             ·rw [if_neg c101] at H
              have c101b0 : decide (0 < t1018) = false:=decide_eq_false c101
              clear c101
              obtain rfl:=Option.some.inj H
              go_wp2_with (first|((with_reducible refine gate_callee (f:=50) rfl ?_);refine goesL_ (some 155) rfl rfl Try.func50 (by kernel_rfl) rfl #[.string x7_9] rfl lp_ ?_;(with_reducible refine (impl_WordValid.calls kj70 x7_9 true _ A79.out).mono ?_);rintro e w' ⟨rfl,⟨nd,rfl⟩⟩;refine ⟨_,rfl,?_⟩)|(go_at_call 46;(with_reducible refine (impl_DepthOf.calls kj70 x5_6 t1018 _ A100.out).mono ?_);rintro e w103 ⟨rfl,hb⟩;have n0_:=Aside0.mk (below_step (be0_ HB.out) hb);clear HB;have HB:=n0_;clear n0_;(try clear hb);(try clear hb2);(try clear hk);(try clear hi)))
              go_ret
              exact ⟨by first|rfl|(simp [errW_none,errW_some] <;> rfl)|(simp [*,errW_none,errW_some] <;> rfl),be0_ HB.out⟩
          ·replace c80:=Bool.eq_false_iff.mpr c80
           subst c80
           have H1 : (some false) = some r:=by rw [if_neg (show ¬ (false = true) by decide)] at H;exact H
           clear H
           have H:=H1
           clear H1
           obtain rfl:=Option.some.inj H
           go_wp2_with (first|((with_reducible refine gate_callee (f:=50) rfl ?_);refine goesL_ (some 155) rfl rfl Try.func50 (by kernel_rfl) rfl #[.string x7_9] rfl lp_ ?_;(with_reducible refine (impl_WordValid.calls kj70 x7_9 false _ A79.out).mono ?_);rintro e w' ⟨rfl,⟨nd,rfl⟩⟩;refine ⟨_,rfl,?_⟩))
           go_ret
           exact ⟨by first|rfl|(simp [errW_none,errW_some] <;> rfl)|(simp [*,errW_none,errW_some] <;> rfl),be0_ HB.out⟩
  ·replace c64:=Bool.eq_false_iff.mpr c64
   subst c64
   have H1 : ((impl_WordValid.f kj60 x7_9).bind fun t1019 => (if t1019 = true then (if x7_9.toList = ([] : List UInt8) then (some false) else (if x13_50 = true then (if (wrap64 ((x5_6.size : Int) + (x11_47.size : Int))) > 120 then ((impl_DepthOf.f kj60 x5_6).bind fun t1020 => (if t1020 > 0 then (some true) else (some (x7_9.toList == x5_6.toList)))) else (if (wrap64 ((x7_9.size : Int) + (x12_50.size : Int))) > 1000 then ((impl_DepthOf.f kj60 x5_6).bind fun t1021 => (if t1021 > 0 then (some true) else (some (x7_9.toList == x5_6.toList)))) else (if x15_53 = true then (if x7_9.size + x12_50.size ≤ 9223372036854775807 then (if x14_53.toList = (x7_9 ++ x12_50).toList then ((impl_DepthOf.f kj60 x5_6).bind fun t1022 => (if t1022 > 0 then (some true) else (some (x7_9.toList == x5_6.toList)))) else (some false)) else (none)) else (some false)))) else ((impl_DepthOf.f kj60 x5_6).bind fun t1023 => (if t1023 > 0 then (some true) else (some (x7_9.toList == x5_6.toList)))))) else (some false))) = some r:=by rw [if_neg (show ¬ (false = true) by decide)] at H;exact H
   clear H
   have H:=H1
   clear H1
   replace H:=Option.bind_eq_some_iff.mp H
   obtain ⟨t1019,A1040,H⟩:=H
   replace H : (if t1019 = true then (if x7_9.toList = ([] : List UInt8) then (some false) else (if x13_50 = true then (if (wrap64 ((x5_6.size : Int) + (x11_47.size : Int))) > 120 then ((impl_DepthOf.f kj60 x5_6).bind fun t1020 => (if t1020 > 0 then (some true) else (some (x7_9.toList == x5_6.toList)))) else (if (wrap64 ((x7_9.size : Int) + (x12_50.size : Int))) > 1000 then ((impl_DepthOf.f kj60 x5_6).bind fun t1021 => (if t1021 > 0 then (some true) else (some (x7_9.toList == x5_6.toList)))) else (if x15_53 = true then (if x7_9.size + x12_50.size ≤ 9223372036854775807 then (if x14_53.toList = (x7_9 ++ x12_50).toList then ((impl_DepthOf.f kj60 x5_6).bind fun t1022 => (if t1022 > 0 then (some true) else (some (x7_9.toList == x5_6.toList)))) else (some false)) else (none)) else (some false)))) else ((impl_DepthOf.f kj60 x5_6).bind fun t1023 => (if t1023 > 0 then (some true) else (some (x7_9.toList == x5_6.toList)))))) else (some false)) = some r:=H
   have A104:=Aside0.mk A1040
   clear A1040
   by_cases c105 : t1019 = true
   ·subst c105
    have H1 : (if x7_9.toList = ([] : List UInt8) then (some false) else (if x13_50 = true then (if (wrap64 ((x5_6.size : Int) + (x11_47.size : Int))) > 120 then ((impl_DepthOf.f kj60 x5_6).bind fun t1020 => (if t1020 > 0 then (some true) else (some (x7_9.toList == x5_6.toList)))) else (if (wrap64 ((x7_9.size : Int) + (x12_50.size : Int))) > 1000 then ((impl_DepthOf.f kj60 x5_6).bind fun t1021 => (if t1021 > 0 then (some true) else (some (x7_9.toList == x5_6.toList)))) else (if x15_53 = true then (if x7_9.size + x12_50.size ≤ 9223372036854775807 then (if x14_53.toList = (x7_9 ++ x12_50).toList then ((impl_DepthOf.f kj60 x5_6).bind fun t1022 => (if t1022 > 0 then (some true) else (some (x7_9.toList == x5_6.toList)))) else (some false)) else (none)) else (some false)))) else ((impl_DepthOf.f kj60 x5_6).bind fun t1023 => (if t1023 > 0 then (some true) else (some (x7_9.toList == x5_6.toList)))))) = some r:=by rw [if_pos rfl] at H;exact H
    clear H
    have H:=H1
    clear H1
    by_cases c106 : x7_9.toList = ([] : List UInt8)
    ·rw [if_pos c106] at H
     have c106b0 : (x7_9.toList == ([] : List UInt8)) = true:=beq_iff_eq.mpr c106
     have c106b1 : (x7_9.toList != ([] : List UInt8)) = false:=bne_eq_false_iff_eq.mpr c106
     clear c106
     obtain rfl:=Option.some.inj H
     go_wp2_with (first|((with_reducible refine gate_callee (f:=50) rfl ?_);refine goesL_ (some 155) rfl rfl Try.func50 (by kernel_rfl) rfl #[.string x7_9] rfl lp_ ?_;(with_reducible refine (impl_WordValid.calls kj60 x7_9 true _ A104.out).mono ?_);rintro e w' ⟨rfl,⟨nd,rfl⟩⟩;refine ⟨_,rfl,?_⟩))
     go_ret
     exact ⟨by first|rfl|(simp [errW_none,errW_some] <;> rfl)|(simp [*,errW_none,errW_some] <;> rfl),be0_ HB.out⟩
    ·rw [if_neg c106] at H
     have c106b0 : (x7_9.toList == ([] : List UInt8)) = false:=beq_eq_false_iff_ne.mpr c106
     have c106b1 : (x7_9.toList != ([] : List UInt8)) = true:=bne_iff_ne.mpr c106
     by_cases c107 : x13_50 = true
     ·subst c107
      have H1 : (if (wrap64 ((x5_6.size : Int) + (x11_47.size : Int))) > 120 then ((impl_DepthOf.f kj60 x5_6).bind fun t1020 => (if t1020 > 0 then (some true) else (some (x7_9.toList == x5_6.toList)))) else (if (wrap64 ((x7_9.size : Int) + (x12_50.size : Int))) > 1000 then ((impl_DepthOf.f kj60 x5_6).bind fun t1021 => (if t1021 > 0 then (some true) else (some (x7_9.toList == x5_6.toList)))) else (if x15_53 = true then (if x7_9.size + x12_50.size ≤ 9223372036854775807 then (if x14_53.toList = (x7_9 ++ x12_50).toList then ((impl_DepthOf.f kj60 x5_6).bind fun t1022 => (if t1022 > 0 then (some true) else (some (x7_9.toList == x5_6.toList)))) else (some false)) else (none)) else (some false)))) = some r:=by rw [if_pos rfl] at H;exact H
      clear H
      have H:=H1
      clear H1
      by_cases c108 : (wrap64 ((x5_6.size : Int) + (x11_47.size : Int))) > 120
      ·rw [if_pos c108] at H
       have c108b0 : decide (120 < (wrap64 ((x5_6.size : Int) + (x11_47.size : Int)))) = true:=decide_eq_true c108
       clear c108
       replace H:=Option.bind_eq_some_iff.mp H
       obtain ⟨t1020,A1090,H⟩:=H
       replace H : (if t1020 > 0 then (some true) else (some (x7_9.toList == x5_6.toList))) = some r:=H
       have A109:=Aside0.mk A1090
       clear A1090
       by_cases c110 : t1020 > 0
       ·rw [if_pos c110] at H
        have c110b0 : decide (0 < t1020) = true:=decide_eq_true c110
        clear c110
        obtain rfl:=Option.some.inj H
        go_wp2_with (first|((with_reducible refine gate_callee (f:=50) rfl ?_);refine goesL_ (some 155) rfl rfl Try.func50 (by kernel_rfl) rfl #[.string x7_9] rfl lp_ ?_;(with_reducible refine (impl_WordValid.calls kj60 x7_9 true _ A104.out).mono ?_);rintro e w' ⟨rfl,⟨nd,rfl⟩⟩;refine ⟨_,rfl,?_⟩)|(go_at_call 46;(with_reducible refine (impl_DepthOf.calls kj60 x5_6 t1020 _ A109.out).mono ?_);rintro e w111 ⟨rfl,hb⟩;have n0_:=Aside0.mk (below_step (be0_ HB.out) hb);clear HB;have HB:=n0_;clear n0_;(try clear hb);(try clear hb2);(try clear hk);(try clear hi)))
        go_ret
        exact ⟨by first|rfl|(simp [errW_none,errW_some] <;> rfl)|(simp [*,errW_none,errW_some] <;> rfl),be0_ HB.out⟩
       ·rw [if_neg c110] at H
        have c110b0 : decide (0 < t1020) = false:=decide_eq_false c110
        clear c110
        obtain rfl:=Option.some.inj H
        go_wp2_with (first|((with_reducible refine gate_callee (f:=50) rfl ?_);refine goesL_ (some 155) rfl rfl Try.func50 (by kernel_rfl) rfl #[.string x7_9] rfl lp_ ?_;(with_reducible refine (impl_WordValid.calls kj60 x7_9 true _ A104.out).mono ?_);rintro e w' ⟨rfl,⟨nd,rfl⟩⟩;refine ⟨_,rfl,?_⟩)|(go_at_call 46;(with_reducible refine (impl_DepthOf.calls kj60 x5_6 t1020 _ A109.out).mono ?_);rintro e w112 ⟨rfl,hb⟩;have n0_:=Aside0.mk (below_step (be0_ HB.out) hb);clear HB;have HB:=n0_;clear n0_;(try clear hb);(try clear hb2);(try clear hk);(try clear hi)))
        go_ret
        exact ⟨by first|rfl|(simp [errW_none,errW_some] <;> rfl)|(simp [*,errW_none,errW_some] <;> rfl),be0_ HB.out⟩
      ·rw [if_neg c108] at H
       have c108b0 : decide (120 < (wrap64 ((x5_6.size : Int) + (x11_47.size : Int)))) = false:=decide_eq_false c108
       clear c108
       by_cases c113 : (wrap64 ((x7_9.size : Int) + (x12_50.size : Int))) > 1000
       ·rw [if_pos c113] at H
        have c113b0 : decide (1000 < (wrap64 ((x7_9.size : Int) + (x12_50.size : Int)))) = true:=decide_eq_true c113
        clear c113
        replace H:=Option.bind_eq_some_iff.mp H
        obtain ⟨t1021,A1140,H⟩:=H
        replace H : (if t1021 > 0 then (some true) else (some (x7_9.toList == x5_6.toList))) = some r:=H
        have A114:=Aside0.mk A1140
        clear A1140
        by_cases c115 : t1021 > 0
        ·rw [if_pos c115] at H
         have c115b0 : decide (0 < t1021) = true:=decide_eq_true c115
         clear c115
         obtain rfl:=Option.some.inj H
         go_wp2_with (first|((with_reducible refine gate_callee (f:=50) rfl ?_);refine goesL_ (some 155) rfl rfl Try.func50 (by kernel_rfl) rfl #[.string x7_9] rfl lp_ ?_;(with_reducible refine (impl_WordValid.calls kj60 x7_9 true _ A104.out).mono ?_);rintro e w' ⟨rfl,⟨nd,rfl⟩⟩;refine ⟨_,rfl,?_⟩)|(go_at_call 46;(with_reducible refine (impl_DepthOf.calls kj60 x5_6 t1021 _ A114.out).mono ?_);rintro e w116 ⟨rfl,hb⟩;have n0_:=Aside0.mk (below_step (be0_ HB.out) hb);clear HB;have HB:=n0_;clear n0_;(try clear hb);(try clear hb2);(try clear hk);(try clear hi)))
         go_ret
         exact ⟨by first|rfl|(simp [errW_none,errW_some] <;> rfl)|(simp [*,errW_none,errW_some] <;> rfl),be0_ HB.out⟩
        ·rw [if_neg c115] at H
         have c115b0 : decide (0 < t1021) = false:=decide_eq_false c115
         clear c115
         obtain rfl:=Option.some.inj H
         go_wp2_with (first|((with_reducible refine gate_callee (f:=50) rfl ?_);refine goesL_ (some 155) rfl rfl Try.func50 (by kernel_rfl) rfl #[.string x7_9] rfl lp_ ?_;(with_reducible refine (impl_WordValid.calls kj60 x7_9 true _ A104.out).mono ?_);rintro e w' ⟨rfl,⟨nd,rfl⟩⟩;refine ⟨_,rfl,?_⟩)|(go_at_call 46;(with_reducible refine (impl_DepthOf.calls kj60 x5_6 t1021 _ A114.out).mono ?_);rintro e w117 ⟨rfl,hb⟩;have n0_:=Aside0.mk (below_step (be0_ HB.out) hb);clear HB;have HB:=n0_;clear n0_;(try clear hb);(try clear hb2);(try clear hk);(try clear hi)))
         go_ret
         exact ⟨by first|rfl|(simp [errW_none,errW_some] <;> rfl)|(simp [*,errW_none,errW_some] <;> rfl),be0_ HB.out⟩
       ·rw [if_neg c113] at H
        have c113b0 : decide (1000 < (wrap64 ((x7_9.size : Int) + (x12_50.size : Int)))) = false:=decide_eq_false c113
        clear c113
        by_cases c118 : x15_53 = true
        ·subst c118
         have H1 : (if x7_9.size + x12_50.size ≤ 9223372036854775807 then (if x14_53.toList = (x7_9 ++ x12_50).toList then ((impl_DepthOf.f kj60 x5_6).bind fun t1022 => (if t1022 > 0 then (some true) else (some (x7_9.toList == x5_6.toList)))) else (some false)) else (none)) = some r:=by rw [if_pos rfl] at H;exact H
         clear H
         have H:=H1
         clear H1
         by_cases c119 : x7_9.size + x12_50.size ≤ 9223372036854775807
         ·rw [if_pos c119] at H
          have c119b0:=eq_true c119
          have c119b1 : decide (x7_9.size + x12_50.size ≤ 9223372036854775807) = true:=decide_eq_true c119
          try have c119b2 : (9223372036854775807 < x7_9.size + x12_50.size) = False:=eq_false (Nat.not_lt.2 c119)
          try have c108b0_c119 : decide (120 < (((x5_6.size : Int) + (x11_47.size : Int)))) = false:=by rw [wrap_sum_ x5_6.size x11_47.size (by assumption)] at c108b0;exact c108b0
          try have c113b0_c119 : decide (1000 < (((x7_9.size : Int) + (x12_50.size : Int)))) = false:=by rw [wrap_sum_ x7_9.size x12_50.size (by assumption)] at c113b0;exact c113b0
          by_cases c120 : x14_53.toList = (x7_9 ++ x12_50).toList
          ·rw [if_pos c120] at H
           have c120b0 : (x14_53.toList == (x7_9 ++ x12_50).toList) = true:=beq_iff_eq.mpr c120
           have c120b1 : (x14_53.toList != (x7_9 ++ x12_50).toList) = false:=bne_eq_false_iff_eq.mpr c120
           clear c120
           replace H:=Option.bind_eq_some_iff.mp H
           obtain ⟨t1022,A1210,H⟩:=H
           replace H : (if t1022 > 0 then (some true) else (some (x7_9.toList == x5_6.toList))) = some r:=H
           have A121:=Aside0.mk A1210
           clear A1210
           by_cases c122 : t1022 > 0
           ·rw [if_pos c122] at H
            have c122b0 : decide (0 < t1022) = true:=decide_eq_true c122
            clear c122
            obtain rfl:=Option.some.inj H
            go_wp2_with (first|((with_reducible refine gate_callee (f:=50) rfl ?_);refine goesL_ (some 155) rfl rfl Try.func50 (by kernel_rfl) rfl #[.string x7_9] rfl lp_ ?_;(with_reducible refine (impl_WordValid.calls kj60 x7_9 true _ A104.out).mono ?_);rintro e w' ⟨rfl,⟨nd,rfl⟩⟩;refine ⟨_,rfl,?_⟩)|(go_at_call 46;(with_reducible refine (impl_DepthOf.calls kj60 x5_6 t1022 _ A121.out).mono ?_);rintro e w123 ⟨rfl,hb⟩;have n0_:=Aside0.mk (below_step (be0_ HB.out) hb);clear HB;have HB:=n0_;clear n0_;(try clear hb);(try clear hb2);(try clear hk);(try clear hi)))
            go_ret
            exact ⟨by first|rfl|(simp [errW_none,errW_some] <;> rfl)|(simp [*,errW_none,errW_some] <;> rfl),be0_ HB.out⟩
           ·rw [if_neg c122] at H
            have c122b0 : decide (0 < t1022) = false:=decide_eq_false c122
            clear c122
            obtain rfl:=Option.some.inj H
            go_wp2_with (first|((with_reducible refine gate_callee (f:=50) rfl ?_);refine goesL_ (some 155) rfl rfl Try.func50 (by kernel_rfl) rfl #[.string x7_9] rfl lp_ ?_;(with_reducible refine (impl_WordValid.calls kj60 x7_9 true _ A104.out).mono ?_);rintro e w' ⟨rfl,⟨nd,rfl⟩⟩;refine ⟨_,rfl,?_⟩)|(go_at_call 46;(with_reducible refine (impl_DepthOf.calls kj60 x5_6 t1022 _ A121.out).mono ?_);rintro e w124 ⟨rfl,hb⟩;have n0_:=Aside0.mk (below_step (be0_ HB.out) hb);clear HB;have HB:=n0_;clear n0_;(try clear hb);(try clear hb2);(try clear hk);(try clear hi)))
            go_ret
            exact ⟨by first|rfl|(simp [errW_none,errW_some] <;> rfl)|(simp [*,errW_none,errW_some] <;> rfl),be0_ HB.out⟩
          ·rw [if_neg c120] at H
           have c120b0 : (x14_53.toList == (x7_9 ++ x12_50).toList) = false:=beq_eq_false_iff_ne.mpr c120
           have c120b1 : (x14_53.toList != (x7_9 ++ x12_50).toList) = true:=bne_iff_ne.mpr c120
           obtain rfl:=Option.some.inj H
           go_wp2_with (first|((with_reducible refine gate_callee (f:=50) rfl ?_);refine goesL_ (some 155) rfl rfl Try.func50 (by kernel_rfl) rfl #[.string x7_9] rfl lp_ ?_;(with_reducible refine (impl_WordValid.calls kj60 x7_9 true _ A104.out).mono ?_);rintro e w' ⟨rfl,⟨nd,rfl⟩⟩;refine ⟨_,rfl,?_⟩))
           go_ret
           exact ⟨by first|rfl|(simp [errW_none,errW_some] <;> rfl)|(simp [*,errW_none,errW_some] <;> rfl),be0_ HB.out⟩
         ·rw [if_neg c119] at H
          exact absurd H (by simp)
        ·replace c118:=Bool.eq_false_iff.mpr c118
         subst c118
         have H1 : (some false) = some r:=by rw [if_neg (show ¬ (false = true) by decide)] at H;exact H
         clear H
         have H:=H1
         clear H1
         obtain rfl:=Option.some.inj H
         go_wp2_with (first|((with_reducible refine gate_callee (f:=50) rfl ?_);refine goesL_ (some 155) rfl rfl Try.func50 (by kernel_rfl) rfl #[.string x7_9] rfl lp_ ?_;(with_reducible refine (impl_WordValid.calls kj60 x7_9 true _ A104.out).mono ?_);rintro e w' ⟨rfl,⟨nd,rfl⟩⟩;refine ⟨_,rfl,?_⟩))
         go_ret
         exact ⟨by first|rfl|(simp [errW_none,errW_some] <;> rfl)|(simp [*,errW_none,errW_some] <;> rfl),be0_ HB.out⟩
     ·replace c107:=Bool.eq_false_iff.mpr c107
      subst c107
      have H1 : ((impl_DepthOf.f kj60 x5_6).bind fun t1023 => (if t1023 > 0 then (some true) else (some (x7_9.toList == x5_6.toList)))) = some r:=by rw [if_neg (show ¬ (false = true) by decide)] at H;exact H
      clear H
      have H:=H1
      clear H1
      replace H:=Option.bind_eq_some_iff.mp H
      obtain ⟨t1023,A1250,H⟩:=H
      replace H : (if t1023 > 0 then (some true) else (some (x7_9.toList == x5_6.toList))) = some r:=H
      have A125:=Aside0.mk A1250
      clear A1250
      by_cases c126 : t1023 > 0
      ·rw [if_pos c126] at H
       have c126b0 : decide (0 < t1023) = true:=decide_eq_true c126
       clear c126
       obtain rfl:=Option.some.inj H
       go_wp2_with (first|((with_reducible refine gate_callee (f:=50) rfl ?_);refine goesL_ (some 155) rfl rfl Try.func50 (by kernel_rfl) rfl #[.string x7_9] rfl lp_ ?_;(with_reducible refine (impl_WordValid.calls kj60 x7_9 true _ A104.out).mono ?_);rintro e w' ⟨rfl,⟨nd,rfl⟩⟩;refine ⟨_,rfl,?_⟩)|(go_at_call 46;(with_reducible refine (impl_DepthOf.calls kj60 x5_6 t1023 _ A125.out).mono ?_);rintro e w127 ⟨rfl,hb⟩;have n0_:=Aside0.mk (below_step (be0_ HB.out) hb);clear HB;have HB:=n0_;clear n0_;(try clear hb);(try clear hb2);(try clear hk);(try clear hi)))
       go_ret
       exact ⟨by first|rfl|(simp [errW_none,errW_some] <;> rfl)|(simp [*,errW_none,errW_some] <;> rfl),be0_ HB.out⟩
      ·rw [if_neg c126] at H
       have c126b0 : decide (0 < t1023) = false:=decide_eq_false c126
       clear c126
       obtain rfl:=Option.some.inj H
       go_wp2_with (first|((with_reducible refine gate_callee (f:=50) rfl ?_);refine goesL_ (some 155) rfl rfl Try.func50 (by kernel_rfl) rfl #[.string x7_9] rfl lp_ ?_;(with_reducible refine (impl_WordValid.calls kj60 x7_9 true _ A104.out).mono ?_);rintro e w' ⟨rfl,⟨nd,rfl⟩⟩;refine ⟨_,rfl,?_⟩)|(go_at_call 46;(with_reducible refine (impl_DepthOf.calls kj60 x5_6 t1023 _ A125.out).mono ?_);rintro e w128 ⟨rfl,hb⟩;have n0_:=Aside0.mk (below_step (be0_ HB.out) hb);clear HB;have HB:=n0_;clear n0_;(try clear hb);(try clear hb2);(try clear hk);(try clear hi)))
       go_ret
       exact ⟨by first|rfl|(simp [errW_none,errW_some] <;> rfl)|(simp [*,errW_none,errW_some] <;> rfl),be0_ HB.out⟩
   ·replace c105:=Bool.eq_false_iff.mpr c105
    subst c105
    have H1 : (some false) = some r:=by rw [if_neg (show ¬ (false = true) by decide)] at H;exact H
    clear H
    have H:=H1
    clear H1
    obtain rfl:=Option.some.inj H
    go_wp2_with (first|((with_reducible refine gate_callee (f:=50) rfl ?_);refine goesL_ (some 155) rfl rfl Try.func50 (by kernel_rfl) rfl #[.string x7_9] rfl lp_ ?_;(with_reducible refine (impl_WordValid.calls kj60 x7_9 false _ A104.out).mono ?_);rintro e w' ⟨rfl,⟨nd,rfl⟩⟩;refine ⟨_,rfl,?_⟩))
    go_ret
    exact ⟨by first|rfl|(simp [errW_none,errW_some] <;> rfl)|(simp [*,errW_none,errW_some] <;> rfl),be0_ HB.out⟩
theorem laws_FnExpand.calls (k : Nat) (A0 : Option Addr) (c0 : Nat) (l0 : List Int) (A1 : Option Addr) (c1 : Nat) (l1 : List Int) (r : Bool) (w : World) (hr0 : Kd.C (Kd.int .u8) w A0 l0.length l0) (hc0 : l0.length ≤ c0) (hr1 : Kd.C (Kd.int .u8) w A1 l1.length l1) (hc1 : l1.length ≤ c1) (h : laws_FnExpand.f k l0 l1 = some r) :
  Calls Try.prog 14 #[.slice A0 l0.length c0,.slice A1 l1.length c1] w fun e w' => e = .returned (.bool r) ∧ Below w.heap.size w w':=(laws_FnExpand.p0 k A0 c0 l0 A1 c1 l1 r w).2 hr0 hc0 hr1 hc1 h ⟨(laws_FnExpand.p1 k A0 c0 l0 A1 c1 l1 r w).2 ⟨(laws_FnExpand.p2 k A0 c0 l0 A1 c1 l1 r w).2 ⟨(laws_FnExpand.p3 k A0 c0 l0 A1 c1 l1 r w).2 ⟨(laws_FnExpand.p4 k A0 c0 l0 A1 c1 l1 r w).2 ⟨(laws_FnExpand.p5 k A0 c0 l0 A1 c1 l1 r w).2 ⟨(laws_FnExpand.p6 k A0 c0 l0 A1 c1 l1 r w).2 ⟨laws_FnExpand.p7 k A0 c0 l0 A1 c1 l1 r w⟩⟩⟩⟩⟩⟩⟩
def laws_FnExpand.Pure : Prop := ∀ (l0 : List Int) (l1 : List Int),l0.length ≤ maxLen → l0.length * 1 ≤ 140737488351232 → (∀ x ∈ l0,(Lit.int .u8 x).wf = true) → l1.length ≤ maxLen → l1.length * 1 ≤ 140737488351232 → (∀ x ∈ l1,(Lit.int .u8 x).wf = true) → ∃ k,laws_FnExpand.f k l0 l1 = some true
theorem laws_FnExpand.walk (P : laws_FnExpand.Pure) (a0 : Option Addr) (len0 cap0 : Nat) (z0 : List Int) (a1 : Option Addr) (len1 cap1 : Nat) (z1 : List Int) (w : World) (w0 : (a0 = none ∧ len0 = 0 ∧ cap0 = 0 ∧ z0 = []) ∨ ∃ x,a0 = some x ∧ len0 ≤ cap0 ∧ cap0 ≤ maxLen ∧ z0.length = cap0 ∧ (∀ i,i < z0.length → w.cell? (x.add i) = some (.int .u8 (z0.getD i 0))) ∧ ∀ n ∈ z0,(Lit.int .u8 n).wf = true) (y0 : len0 * 1 ≤ 140737488351232) (w1 : (a1 = none ∧ len1 = 0 ∧ cap1 = 0 ∧ z1 = []) ∨ ∃ x,a1 = some x ∧ len1 ≤ cap1 ∧ cap1 ≤ maxLen ∧ z1.length = cap1 ∧ (∀ i,i < z1.length → w.cell? (x.add i) = some (.int .u8 (z1.getD i 0))) ∧ ∀ n ∈ z1,(Lit.int .u8 n).wf = true) (y1 : len1 * 1 ≤ 140737488351232) :
  Calls Try.prog 14 #[.slice a0 len0 cap0,.slice a1 len1 cap1] w fun e w' => e = .returned (.bool true) ∧ Below w.heap.size w w':=by
 obtain ⟨l0,rfl,hr0,hm0,hw0,hc0⟩:=ReadsInt.ofRowC w0
 obtain ⟨l1,rfl,hr1,hm1,hw1,hc1⟩:=ReadsInt.ofRowC w1
 obtain ⟨k,h⟩:=P l0 l1 hm0 y0 hw0 hm1 y1 hw1
 refine (laws_FnExpand.calls k _ _ l0 _ _ l1 true w (Kd.C_of_reads (d:=(0 : Int)) (h1:=fun _ => rfl) hr0) hc0 (Kd.C_of_reads (d:=(0 : Int)) (h1:=fun _ => rfl) hr1) hc1 h).mono ?_
 rintro e w' ⟨rfl,hd⟩
 exact ⟨rfl,hd⟩
end Go.Proofs.Ytengegdaiphfeaa.X
end
section
namespace Go.Proofs.Ytengegdaiphfeaa.Y
open Go.RowKit Go.Proofs.Ytengegdaiphfeaa.X Go.Proofs.YtengegdaiphfeaaW.PrintWords Go.Proofs.YtengegdaiphfeaaW.PrintLast Go.Proofs.YtengegdaiphfeaaW.PrintMore
set_option linter.unusedVariables false
set_option linter.unusedSimpArgs false
def L (s : ByteArray) : List UInt8:=s.data.toList
theorem L_size (s : ByteArray) : s.size = (L s).length:=by simp [L]
theorem L_mk (l : List UInt8) : L ⟨l.toArray⟩ = l:=by simp [L]
theorem L_inj {s t : ByteArray} (h : L s = L t) : s = t:=by
 cases s;cases t;simp [L] at h;subst h;rfl
theorem toList_L (s : ByteArray) : s.toList = L s:=ByteArray.toList_eq s
theorem L_extract (s : ByteArray) (a b : Nat) : L (s.extract a b) = ((L s).take b).drop a:=by
 simp [L,ByteArray.data_extract,Array.toList_extract,List.extract,List.drop_take]
theorem L_append (s t : ByteArray) : L (s ++ t) = L s ++ L t:=by simp [L,ByteArray.data_append]
theorem L_nil {s : ByteArray} : s.toList = ([] : List UInt8) ↔ L s = []:=by rw [toList_L]
theorem bt_L (s : ByteArray) (i : Int) : bt s i = (((L s).getD i.toNat 0).toNat : Int):=by
 unfold bt L
 split
 ·next h =>
  have h' : i.toNat < s.data.toList.length:=by simpa using h
  rw [List.getD_eq_getElem?_getD,List.getElem?_eq_getElem h']
  simp;rfl
 ·next h =>
  have h' : s.data.toList.length ≤ i.toNat:=by simpa using h
  rw [List.getD_eq_getElem?_getD,List.getElem?_eq_none h'];rfl
theorem w64 {x : Int} (h0 : -9223372036854775808 ≤ x) (h1 : x ≤ 9223372036854775807) : wrap64 x = x:=by unfold wrap64;omega
theorem _root_.Go.Proofs.YtengegdaiphfeaaW.PrintWords.Ev.is {α : Type} {g : Nat → Option α} {r r' : α} (h : Ev g r) (e : r = r') : Ev g r':=e ▸ h
theorem bt_suffix {s : ByteArray} {u : List UInt8} {c : UInt8} {e : List UInt8} (h : L s = u ++ c :: e) : bt s u.length = (c.toNat : Int):=by
 rw [bt_L,h];simp [List.getD_eq_getElem?_getD]
theorem size_suffix {s : ByteArray} {u e : List UInt8} (h : L s = u ++ e) : s.size = u.length + e.length:=by rw [L_size,h];simp
theorem u8_ne {c d : UInt8} (h : c ≠ d) : ¬ ((c.toNat : Int) = (d.toNat : Int)):=by
 intro e;exact h (UInt8.toNat.inj (by exact_mod_cast e))
end Go.Proofs.Ytengegdaiphfeaa.Y
end
section
namespace Go.Proofs.Ytengegdaiphfeaa.Y
open Go.RowKit Go.Proofs.Ytengegdaiphfeaa.X Go.Proofs.YtengegdaiphfeaaW.PrintWords Go.Proofs.YtengegdaiphfeaaW.PrintLast Go.Proofs.YtengegdaiphfeaaW.PrintMore
set_option linter.unusedVariables false
set_option linter.unusedSimpArgs false
def B (l : List UInt8) : ByteArray:=⟨l.toArray⟩
theorem B_add (a b : List UInt8) : B a ++ B b = B (a ++ b):=L_inj (by rw [L_append];unfold B;rw [L_mk,L_mk,L_mk])
theorem B_size (a : List UInt8) : (B a).size = a.length:=by rw [L_size];unfold B;rw [L_mk]
theorem B_toList (a : List UInt8) : (B a).data.toList = a:=by unfold B;simp
theorem B_L (x : ByteArray) : B (L x) = x:=L_inj (by unfold B;rw [L_mk])
end Go.Proofs.Ytengegdaiphfeaa.Y
end
section
namespace Go.Proofs.Ytengegdaiphfeaa.X
open Go.RowKit Go.Proofs.YtengegdaiphfeaaW.PrintWords Go.Proofs.YtengegdaiphfeaaW.PrintLast Go.Proofs.YtengegdaiphfeaaW.PrintMore
attribute [local go_sem] max2_int min2_int max_two min_two max_three min_three max_four min_four
set_option linter.unusedVariables false
set_option linter.unusedSimpArgs false
def laws_eqIntS.l0 : Nat → List Int → List Int → Int → Option (Bool)
 | 0,_,_,_ => none
 | k + 1,x0,x1,x5 => if x5 < (x0.length : Int) then (if 0 ≤ x5 then (if x5 < (x1.length : Int) then (if (rd x0 x5) = (rd x1 x5) then (laws_eqIntS.l0 k x0 x1 (wrap64 (x5 + 1))) else (some false)) else (none)) else (none)) else (some true)
def laws_eqIntS.f (k : Nat) (l0 : List Int) (l1 : List Int) : Option (Bool):=if (l0.length : Int) = (l1.length : Int) then (laws_eqIntS.l0 k l0 l1 0) else (some false)
theorem laws_eqIntS.mono_l : ∀ k,(∀ y0 y1 y2,LeO (laws_eqIntS.l0 k y0 y1 y2) (laws_eqIntS.l0 (k + 1) y0 y1 y2))
 | 0 => fun _ _ _ r h => by simp [laws_eqIntS.l0] at h
 | k + 1 => by
  have ih0:=laws_eqIntS.mono_l k
  ·intro y0 y1 y2
   unfold laws_eqIntS.l0
   repeat' first
   | (with_reducible exact ih0 _ _ _)
   | (with_reducible exact LeO.refl _)
   | (with_reducible exact LeO.none _)
   | (with_reducible refine LeO.ite ?_ ?_)
   | (with_reducible refine LeO.bind ?_ (fun _ => ?_))
   | exact ih0 _ _ _
   | exact LeO.none _
   | refine LeO.ite ?_ ?_
   | refine LeO.bind ?_ (fun _ => ?_)
theorem laws_eqIntS.mono : ∀ a0 a1 k,LeO (laws_eqIntS.f k a0 a1) (laws_eqIntS.f (k + 1) a0 a1):=by
 intro a0 a1 k
 have ih0:=laws_eqIntS.mono_l k
 unfold laws_eqIntS.f
 repeat' first
   | (with_reducible exact ih0 _ _ _)
   | (with_reducible exact LeO.refl _)
   | (with_reducible exact LeO.none _)
   | (with_reducible refine LeO.ite ?_ ?_)
   | (with_reducible refine LeO.bind ?_ (fun _ => ?_))
   | exact ih0 _ _ _
   | exact LeO.none _
   | refine LeO.ite ?_ ?_
   | refine LeO.bind ?_ (fun _ => ?_)
set_option maxHeartbeats 8000000 in
set_option maxRecDepth 100000 in
theorem laws_eqIntS.calls (k : Nat) (A0 : Option Addr) (c0 : Nat) (l0 : List Int) (A1 : Option Addr) (c1 : Nat) (l1 : List Int) (r : Bool) (w : World) (hr0 : Kd.C (Kd.int .i64) w A0 l0.length l0) (hc0 : l0.length ≤ c0) (hr1 : Kd.C (Kd.int .i64) w A1 l1.length l1) (hc1 : l1.length ≤ c1) (h : laws_eqIntS.f k l0 l1 = some r) :
  Calls Try.prog 62 #[.slice A0 l0.length c0,.slice A1 l1.length c1] w fun e w' => e = .returned (.bool r) ∧ Drawn0 w w':=by
 have HR0:=Aside0.mk hr0
 have HC0:=Aside0.mk hc0
 clear hr0 hc0
 have HR1:=Aside0.mk hr1
 have HC1:=Aside0.mk hc1
 clear hr1 hc1
 have H : (if (l0.length : Int) = (l1.length : Int) then (laws_eqIntS.l0 k l0 l1 0) else (some false)) = some r:=h
 clear h
 by_cases c3 : (l0.length : Int) = (l1.length : Int)
 ·rw [if_pos c3] at H
  have c3b0 : ((l0.length : Int) == (l1.length : Int)) = true:=beq_iff_eq.mpr c3
  have c3b1 : ((l0.length : Int) != (l1.length : Int)) = false:=bne_eq_false_iff_eq.mpr c3
  have c3b2 : (l0.length == l1.length) = true:=by first|simpa using c3|(simp at c3 ⊢;omega)
  clear c3
  have H':=Aside0.mk H
  clear H
  go_enter Try.func62,Try.ntmps62
  go_wp2
  repeat (go_quiet (fail);try go_wp2)
  go_loopg [5] k (fun kq v5 w' => ∃ (x5_1 : Int),v5 = .int .i64 x5_1 ∧ Aside0 (laws_eqIntS.l0 kq l0 l1 x5_1 = some r) ∧ Aside0 (kq ≤ k) ∧ Drawn0 w w')
  case atStart => exact ⟨(0),(by first|rfl|(simp;done)|(simp [*];done)),H',⟨Nat.le_refl _⟩,by repeat (first|exact Drawn0.refl _|apply Drawn0.step)⟩
  case round =>
   clear H'
   try clear c1
   try clear p2
   try clear c3
   try clear c3b0
   try clear c3b1
   try clear c3b2
   obtain ⟨x5_1,rfl,HA,HK1,⟨m1,rfl⟩⟩:=hrel
   cases gk with
   | zero => exact absurd HA.out (by simp [laws_eqIntS.l0])
   | succ k1 =>
    have H:=HA.out
    clear HA
    simp only [laws_eqIntS.l0] at H
    by_cases c4 : x5_1 < (l0.length : Int)
    ·rw [if_pos c4] at H
     have c4b0 : decide (x5_1 < (l0.length : Int)) = true:=decide_eq_true c4
     clear c4
     by_cases c5 : 0 ≤ x5_1
     ·rw [if_pos c5] at H
      have c5b0 : decide (0 ≤ x5_1) = true:=decide_eq_true c5
      clear c5
      by_cases c6 : x5_1 < (l1.length : Int)
      ·rw [if_pos c6] at H
       have c6b0 : decide (x5_1 < (l1.length : Int)) = true:=decide_eq_true c6
       clear c6
       by_cases c7 : (rd l0 x5_1) = (rd l1 x5_1)
       ·rw [if_pos c7] at H
        have c7b0 : ((rd l0 x5_1) == (rd l1 x5_1)) = true:=beq_iff_eq.mpr c7
        have c7b1 : ((rd l0 x5_1) != (rd l1 x5_1)) = false:=bne_eq_false_iff_eq.mpr c7
        clear c7
        have H':=Aside0.mk H
        clear H
        have p210 : 0 ≤ (x5_1 : Int):=of_decide_eq_true (by first|(with_reducible assumption)|assumption)
        have q210 : x5_1 < (l0.length : Int):=of_decide_eq_true (by first|(with_reducible assumption)|assumption)
        obtain ⟨ad210,e210,hx210_0⟩:=Kd.at_int HR0.out x5_1 p210 q210
        cases e210
        replace p210:=eq_true p210
        replace q210:=eq_true q210
        have p211 : 0 ≤ (x5_1 : Int):=of_decide_eq_true (by first|(with_reducible assumption)|assumption)
        have q211 : x5_1 < (l1.length : Int):=of_decide_eq_true (by first|(with_reducible assumption)|assumption)
        obtain ⟨ad211,e211,hx211_0⟩:=Kd.at_int HR1.out x5_1 p211 q211
        cases e211
        replace p211:=eq_true p211
        replace q211:=eq_true q211
        go_wp2
        repeat (go_quiet (fail);try go_wp2)
        go_roundg k1
        case measure => have:=HK1.out;omega
        case rel => exact ⟨(wrap64 (x5_1 + 1)),(by first|rfl|(simp;done)|(simp [*];done)),H',⟨by have:=HK1.out;omega⟩,by repeat (first|exact Drawn0.refl _|apply Drawn0.step)⟩
       ·rw [if_neg c7] at H
        have c7b0 : ((rd l0 x5_1) == (rd l1 x5_1)) = false:=beq_eq_false_iff_ne.mpr c7
        have c7b1 : ((rd l0 x5_1) != (rd l1 x5_1)) = true:=bne_iff_ne.mpr c7
        obtain rfl:=Option.some.inj H
        have p210 : 0 ≤ (x5_1 : Int):=of_decide_eq_true (by first|(with_reducible assumption)|assumption)
        have q210 : x5_1 < (l0.length : Int):=of_decide_eq_true (by first|(with_reducible assumption)|assumption)
        obtain ⟨ad210,e210,hx210_0⟩:=Kd.at_int HR0.out x5_1 p210 q210
        cases e210
        replace p210:=eq_true p210
        replace q210:=eq_true q210
        have p211 : 0 ≤ (x5_1 : Int):=of_decide_eq_true (by first|(with_reducible assumption)|assumption)
        have q211 : x5_1 < (l1.length : Int):=of_decide_eq_true (by first|(with_reducible assumption)|assumption)
        obtain ⟨ad211,e211,hx211_0⟩:=Kd.at_int HR1.out x5_1 p211 q211
        cases e211
        replace p211:=eq_true p211
        replace q211:=eq_true q211
        go_wp2
        repeat (go_quiet (fail);try go_wp2)
        go_ret
        exact ⟨by first|rfl|(simp;done)|(simp [*];done),by repeat (first|exact Drawn0.refl _|apply Drawn0.step)⟩
      ·rw [if_neg c6] at H
       exact absurd H (by simp)
     ·rw [if_neg c5] at H
      exact absurd H (by simp)
    ·rw [if_neg c4] at H
     have c4b0 : decide (x5_1 < (l0.length : Int)) = false:=decide_eq_false c4
     clear c4
     obtain rfl:=Option.some.inj H
     go_wp2
     repeat (go_quiet (fail);try go_wp2)
     go_ret
     exact ⟨by first|rfl|(simp;done)|(simp [*];done),by repeat (first|exact Drawn0.refl _|apply Drawn0.step)⟩
 ·rw [if_neg c3] at H
  have c3b0 : ((l0.length : Int) == (l1.length : Int)) = false:=beq_eq_false_iff_ne.mpr c3
  have c3b1 : ((l0.length : Int) != (l1.length : Int)) = true:=bne_iff_ne.mpr c3
  have c3b2 : (l0.length == l1.length) = false:=by first|simpa using c3|(simp at c3 ⊢;omega)
  obtain rfl:=Option.some.inj H
  go_enter Try.func62,Try.ntmps62
  go_wp2
  repeat (go_quiet (fail);try go_wp2)
  go_ret
  exact ⟨by first|rfl|(simp;done)|(simp [*];done),by repeat (first|exact Drawn0.refl _|apply Drawn0.step)⟩
end Go.Proofs.Ytengegdaiphfeaa.X
end
section
namespace Go.Proofs.Ytengegdaiphfeaa.X
open Go.RowKit Go.Proofs.YtengegdaiphfeaaW.PrintWords Go.Proofs.YtengegdaiphfeaaW.PrintLast Go.Proofs.YtengegdaiphfeaaW.PrintMore
attribute [local go_sem] max2_int min2_int max_two min_two max_three min_three max_four min_four
set_option linter.unusedVariables false
set_option linter.unusedSimpArgs false
def laws_eqMatrix.f (k : Nat) (a0_0 : Int) (l0_1 : List Int) (a1_0 : Int) (l1_1 : List Int) : Option (Bool):=if a0_0 = a1_0 then ((laws_eqIntS.f k l0_1 l1_1).bind fun t214 => (if t214 = true then (some true) else (some false))) else (some false)
theorem laws_eqMatrix.mono : ∀ a0 a1 a2 a3 k,LeO (laws_eqMatrix.f k a0 a1 a2 a3) (laws_eqMatrix.f (k + 1) a0 a1 a2 a3):=by
 intro a0 a1 a2 a3 k
 unfold laws_eqMatrix.f
 repeat' first
   | (with_reducible exact laws_eqIntS.mono _ _ _)
   | (with_reducible exact LeO.refl _)
   | (with_reducible exact LeO.none _)
   | (with_reducible refine LeO.ite ?_ ?_)
   | (with_reducible refine LeO.bind ?_ (fun _ => ?_))
   | exact laws_eqIntS.mono _ _ _
   | exact LeO.none _
   | refine LeO.ite ?_ ?_
   | refine LeO.bind ?_ (fun _ => ?_)
set_option maxHeartbeats 8000000 in
set_option maxRecDepth 100000 in
theorem laws_eqMatrix.calls (k : Nat) (a0_0 : Int) (A0_1 : Option Addr) (c0_1 : Nat) (l0_1 : List Int) (a1_0 : Int) (A1_1 : Option Addr) (c1_1 : Nat) (l1_1 : List Int) (r : Bool) (w : World) (hr0_1 : Kd.C (Kd.int .i64) w A0_1 l0_1.length l0_1) (hc0_1 : l0_1.length ≤ c0_1) (hr1_1 : Kd.C (Kd.int .i64) w A1_1 l1_1.length l1_1) (hc1_1 : l1_1.length ≤ c1_1) (h : laws_eqMatrix.f k a0_0 l0_1 a1_0 l1_1 = some r) :
  Calls Try.prog 21 #[.agg #[.int .i64 a0_0,.slice A0_1 l0_1.length c0_1],.agg #[.int .i64 a1_0,.slice A1_1 l1_1.length c1_1]] w fun e w' => e = .returned (.bool r) ∧ Below w.heap.size w w':=by
 have hu28:=Try.underlying28
 have HR0_1:=Aside0.mk hr0_1
 have HC0_1:=Aside0.mk hc0_1
 clear hr0_1 hc0_1
 have HR1_1:=Aside0.mk hr1_1
 have HC1_1:=Aside0.mk hc1_1
 clear hr1_1 hc1_1
 have HB:=Aside0.mk (Below.refl w.heap.size w)
 have H : (if a0_0 = a1_0 then ((laws_eqIntS.f k l0_1 l1_1).bind fun t214 => (if t214 = true then (some true) else (some false))) else (some false)) = some r:=h
 clear h
 by_cases c3 : a0_0 = a1_0
 ·rw [if_pos c3] at H
  have c3b0 : (a0_0 == a1_0) = true:=beq_iff_eq.mpr c3
  have c3b1 : (a0_0 != a1_0) = false:=bne_eq_false_iff_eq.mpr c3
  clear c3
  replace H:=Option.bind_eq_some_iff.mp H
  obtain ⟨t214,A40,H⟩:=H
  replace H : (if t214 = true then (some true) else (some false)) = some r:=H
  have A4:=Aside0.mk A40
  clear A40
  by_cases c5 : t214 = true
  ·subst c5
   have H1 : (some true) = some r:=by rw [if_pos rfl] at H;exact H
   clear H
   have H:=H1
   clear H1
   obtain rfl:=Option.some.inj H
   go_enter Try.func21,Try.ntmps21
   go_wp2_with (first|((with_reducible refine gate_dst (N:=2) rfl ?_);refine box_event ?hg (N:=2) ?hd (cs:=#[.int .i64 a0_0,.slice A0_1 l0_1.length c0_1]) (t:=28) ?hr ?_;(case hd => rfl);(case hg => rfl);(case hr => first|(go_simp;done)|(go_simp;rfl));intro gb212 hg w6 hbox hb;have n0_:=Aside0.mk (below_step (be0_ HB.out) hb);have n1_:=Aside0.mk (hbox);have n2_:=Aside0.mk ((by rw [hg];exact (below_size (be0_ HB.out)) : w.heap.size ≤ gb212));have n3_:=Aside0.mk ((by rw [hg];exact (below_size (be0_ HB.out)) : w.heap.size ≤ gb212));clear HB;have HB:=n0_;have BK212:=n1_;have GW212:=n2_;have GE212:=n3_;clear n0_ n1_ n2_ n3_;clear hb hbox hg)|((with_reducible refine gate_dst (N:=3) rfl ?_);refine box_event ?hg (N:=3) ?hd (cs:=#[.int .i64 a1_0,.slice A1_1 l1_1.length c1_1]) (t:=28) ?hr ?_;(case hd => rfl);(case hg => rfl);(case hr => first|(go_simp;done)|(go_simp;rfl));intro gb213 hg w7 hbox hb;have n0_:=Aside0.mk (blk_below (g:=gb212) (o:=.cells #[.int .i64 a0_0,.slice A0_1 l0_1.length c0_1] 28 (0,0)) (pe_ BK212.out) hb);have n1_:=Aside0.mk (below_step (be1_ HB.out GE212.out) hb);have n2_:=Aside0.mk (hbox);have n3_:=Aside0.mk ((by rw [hg];exact (below_size (be1_ HB.out GE212.out)) : w.heap.size ≤ gb213));have n4_:=Aside0.mk ((by rw [hg];exact (below_size (be1_ HB.out GE212.out)) : w.heap.size ≤ gb213));have n5_:=Aside0.mk ((by rw [hg];exact Nat.ne_of_lt (blk_lt (g:=gb212) (o:=.cells #[.int .i64 a0_0,.slice A0_1 l0_1.length c0_1] 28 (0,0)) (pe_ BK212.out)) : gb212 ≠ gb213));have n6_:=Aside0.mk ((by rw [hg];exact Nat.ne_of_gt (blk_lt (g:=gb212) (o:=.cells #[.int .i64 a0_0,.slice A0_1 l0_1.length c0_1] 28 (0,0)) (pe_ BK212.out)) : gb213 ≠ gb212));clear BK212;clear HB;have BK212:=n0_;have HB:=n1_;have BK213:=n2_;have GW213:=n3_;have GE213:=n4_;have NB212_213:=n5_;have NB213_212:=n6_;clear n0_ n1_ n2_ n3_ n4_ n5_ n6_;clear hb hbox hg;have hnb8:=NB212_213.out;have hnc8:=NB213_212.out;have hcz9_0 : w7.cell? ⟨gb212,0,none⟩ = some (.int .i64 a0_0):=(blk_cell BK212.out 0).trans rfl;have hcz9_1 : w7.cell? ⟨gb212,1,none⟩ = some (.slice A0_1 l0_1.length c0_1):=(blk_cell BK212.out 1).trans rfl;have hfz9_0:=blk_frozen BK212.out 0;have hfz9_1:=blk_frozen BK212.out 1;have hcz10_0 : w7.cell? ⟨gb213,0,none⟩ = some (.int .i64 a1_0):=(blk_cell BK213.out 0).trans rfl;have hcz10_1 : w7.cell? ⟨gb213,1,none⟩ = some (.slice A1_1 l1_1.length c1_1):=(blk_cell BK213.out 1).trans rfl;have hfz10_0:=blk_frozen BK213.out 0;have hfz10_1:=blk_frozen BK213.out 1)|((with_reducible refine gate_callee (f:=62) rfl ?_);refine goesL_ (some 14) rfl rfl Try.func62 (by kernel_rfl) rfl #[.slice A0_1 l0_1.length c0_1,.slice A1_1 l1_1.length c1_1] rfl lp_ ?_;(with_reducible refine (laws_eqIntS.calls k _ _ l0_1 _ _ l1_1 true _ ?side1 ?side2 ?side3 ?side4 A4.out).mono ?_);(case side1 => repeat (first|exact (Kd.C_below HR0_1.out HB.out)|(with_reducible refine Kd.C_alloc ?_ _)|(with_reducible refine Kd.C_drewN ?_ _)|(with_reducible refine Kd.C_drew ?_)));(case side2 => exact HC0_1.out);(case side3 => repeat (first|exact (Kd.C_below HR1_1.out HB.out)|(with_reducible refine Kd.C_alloc ?_ _)|(with_reducible refine Kd.C_drewN ?_ _)|(with_reducible refine Kd.C_drew ?_)));(case side4 => exact HC1_1.out);rintro e w' ⟨rfl,⟨nd,rfl⟩⟩;refine ⟨_,rfl,?_⟩))
   go_ret
   exact ⟨by first|rfl|(simp [errW_none,errW_some] <;> rfl)|(simp [*,errW_none,errW_some] <;> rfl),be2_ HB.out GE212.out GE213.out⟩
  ·replace c5:=Bool.eq_false_iff.mpr c5
   subst c5
   have H1 : (some false) = some r:=by rw [if_neg (show ¬ (false = true) by decide)] at H;exact H
   clear H
   have H:=H1
   clear H1
   obtain rfl:=Option.some.inj H
   go_enter Try.func21,Try.ntmps21
   go_wp2_with (first|((with_reducible refine gate_dst (N:=2) rfl ?_);refine box_event ?hg (N:=2) ?hd (cs:=#[.int .i64 a0_0,.slice A0_1 l0_1.length c0_1]) (t:=28) ?hr ?_;(case hd => rfl);(case hg => rfl);(case hr => first|(go_simp;done)|(go_simp;rfl));intro gb212 hg w11 hbox hb;have n0_:=Aside0.mk (below_step (be0_ HB.out) hb);have n1_:=Aside0.mk (hbox);have n2_:=Aside0.mk ((by rw [hg];exact (below_size (be0_ HB.out)) : w.heap.size ≤ gb212));have n3_:=Aside0.mk ((by rw [hg];exact (below_size (be0_ HB.out)) : w.heap.size ≤ gb212));clear HB;have HB:=n0_;have BK212:=n1_;have GW212:=n2_;have GE212:=n3_;clear n0_ n1_ n2_ n3_;clear hb hbox hg)|((with_reducible refine gate_dst (N:=3) rfl ?_);refine box_event ?hg (N:=3) ?hd (cs:=#[.int .i64 a1_0,.slice A1_1 l1_1.length c1_1]) (t:=28) ?hr ?_;(case hd => rfl);(case hg => rfl);(case hr => first|(go_simp;done)|(go_simp;rfl));intro gb213 hg w12 hbox hb;have n0_:=Aside0.mk (blk_below (g:=gb212) (o:=.cells #[.int .i64 a0_0,.slice A0_1 l0_1.length c0_1] 28 (0,0)) (pe_ BK212.out) hb);have n1_:=Aside0.mk (below_step (be1_ HB.out GE212.out) hb);have n2_:=Aside0.mk (hbox);have n3_:=Aside0.mk ((by rw [hg];exact (below_size (be1_ HB.out GE212.out)) : w.heap.size ≤ gb213));have n4_:=Aside0.mk ((by rw [hg];exact (below_size (be1_ HB.out GE212.out)) : w.heap.size ≤ gb213));have n5_:=Aside0.mk ((by rw [hg];exact Nat.ne_of_lt (blk_lt (g:=gb212) (o:=.cells #[.int .i64 a0_0,.slice A0_1 l0_1.length c0_1] 28 (0,0)) (pe_ BK212.out)) : gb212 ≠ gb213));have n6_:=Aside0.mk ((by rw [hg];exact Nat.ne_of_gt (blk_lt (g:=gb212) (o:=.cells #[.int .i64 a0_0,.slice A0_1 l0_1.length c0_1] 28 (0,0)) (pe_ BK212.out)) : gb213 ≠ gb212));clear BK212;clear HB;have BK212:=n0_;have HB:=n1_;have BK213:=n2_;have GW213:=n3_;have GE213:=n4_;have NB212_213:=n5_;have NB213_212:=n6_;clear n0_ n1_ n2_ n3_ n4_ n5_ n6_;clear hb hbox hg;have hnb13:=NB212_213.out;have hnc13:=NB213_212.out;have hcz14_0 : w12.cell? ⟨gb212,0,none⟩ = some (.int .i64 a0_0):=(blk_cell BK212.out 0).trans rfl;have hcz14_1 : w12.cell? ⟨gb212,1,none⟩ = some (.slice A0_1 l0_1.length c0_1):=(blk_cell BK212.out 1).trans rfl;have hfz14_0:=blk_frozen BK212.out 0;have hfz14_1:=blk_frozen BK212.out 1;have hcz15_0 : w12.cell? ⟨gb213,0,none⟩ = some (.int .i64 a1_0):=(blk_cell BK213.out 0).trans rfl;have hcz15_1 : w12.cell? ⟨gb213,1,none⟩ = some (.slice A1_1 l1_1.length c1_1):=(blk_cell BK213.out 1).trans rfl;have hfz15_0:=blk_frozen BK213.out 0;have hfz15_1:=blk_frozen BK213.out 1)|((with_reducible refine gate_callee (f:=62) rfl ?_);refine goesL_ (some 14) rfl rfl Try.func62 (by kernel_rfl) rfl #[.slice A0_1 l0_1.length c0_1,.slice A1_1 l1_1.length c1_1] rfl lp_ ?_;(with_reducible refine (laws_eqIntS.calls k _ _ l0_1 _ _ l1_1 false _ ?side1 ?side2 ?side3 ?side4 A4.out).mono ?_);(case side1 => repeat (first|exact (Kd.C_below HR0_1.out HB.out)|(with_reducible refine Kd.C_alloc ?_ _)|(with_reducible refine Kd.C_drewN ?_ _)|(with_reducible refine Kd.C_drew ?_)));(case side2 => exact HC0_1.out);(case side3 => repeat (first|exact (Kd.C_below HR1_1.out HB.out)|(with_reducible refine Kd.C_alloc ?_ _)|(with_reducible refine Kd.C_drewN ?_ _)|(with_reducible refine Kd.C_drew ?_)));(case side4 => exact HC1_1.out);rintro e w' ⟨rfl,⟨nd,rfl⟩⟩;refine ⟨_,rfl,?_⟩))
   go_ret
   exact ⟨by first|rfl|(simp [errW_none,errW_some] <;> rfl)|(simp [*,errW_none,errW_some] <;> rfl),be2_ HB.out GE212.out GE213.out⟩
 ·rw [if_neg c3] at H
  have c3b0 : (a0_0 == a1_0) = false:=beq_eq_false_iff_ne.mpr c3
  have c3b1 : (a0_0 != a1_0) = true:=bne_iff_ne.mpr c3
  obtain rfl:=Option.some.inj H
  go_enter Try.func21,Try.ntmps21
  go_wp2_with (first|((with_reducible refine gate_dst (N:=2) rfl ?_);refine box_event ?hg (N:=2) ?hd (cs:=#[.int .i64 a0_0,.slice A0_1 l0_1.length c0_1]) (t:=28) ?hr ?_;(case hd => rfl);(case hg => rfl);(case hr => first|(go_simp;done)|(go_simp;rfl));intro gb212 hg w16 hbox hb;have n0_:=Aside0.mk (below_step (be0_ HB.out) hb);have n1_:=Aside0.mk (hbox);have n2_:=Aside0.mk ((by rw [hg];exact (below_size (be0_ HB.out)) : w.heap.size ≤ gb212));have n3_:=Aside0.mk ((by rw [hg];exact (below_size (be0_ HB.out)) : w.heap.size ≤ gb212));clear HB;have HB:=n0_;have BK212:=n1_;have GW212:=n2_;have GE212:=n3_;clear n0_ n1_ n2_ n3_;clear hb hbox hg)|((with_reducible refine gate_dst (N:=3) rfl ?_);refine box_event ?hg (N:=3) ?hd (cs:=#[.int .i64 a1_0,.slice A1_1 l1_1.length c1_1]) (t:=28) ?hr ?_;(case hd => rfl);(case hg => rfl);(case hr => first|(go_simp;done)|(go_simp;rfl));intro gb213 hg w17 hbox hb;have n0_:=Aside0.mk (blk_below (g:=gb212) (o:=.cells #[.int .i64 a0_0,.slice A0_1 l0_1.length c0_1] 28 (0,0)) (pe_ BK212.out) hb);have n1_:=Aside0.mk (below_step (be1_ HB.out GE212.out) hb);have n2_:=Aside0.mk (hbox);have n3_:=Aside0.mk ((by rw [hg];exact (below_size (be1_ HB.out GE212.out)) : w.heap.size ≤ gb213));have n4_:=Aside0.mk ((by rw [hg];exact (below_size (be1_ HB.out GE212.out)) : w.heap.size ≤ gb213));have n5_:=Aside0.mk ((by rw [hg];exact Nat.ne_of_lt (blk_lt (g:=gb212) (o:=.cells #[.int .i64 a0_0,.slice A0_1 l0_1.length c0_1] 28 (0,0)) (pe_ BK212.out)) : gb212 ≠ gb213));have n6_:=Aside0.mk ((by rw [hg];exact Nat.ne_of_gt (blk_lt (g:=gb212) (o:=.cells #[.int .i64 a0_0,.slice A0_1 l0_1.length c0_1] 28 (0,0)) (pe_ BK212.out)) : gb213 ≠ gb212));clear BK212;clear HB;have BK212:=n0_;have HB:=n1_;have BK213:=n2_;have GW213:=n3_;have GE213:=n4_;have NB212_213:=n5_;have NB213_212:=n6_;clear n0_ n1_ n2_ n3_ n4_ n5_ n6_;clear hb hbox hg;have hnb18:=NB212_213.out;have hnc18:=NB213_212.out;have hcz19_0 : w17.cell? ⟨gb212,0,none⟩ = some (.int .i64 a0_0):=(blk_cell BK212.out 0).trans rfl;have hcz19_1 : w17.cell? ⟨gb212,1,none⟩ = some (.slice A0_1 l0_1.length c0_1):=(blk_cell BK212.out 1).trans rfl;have hfz19_0:=blk_frozen BK212.out 0;have hfz19_1:=blk_frozen BK212.out 1;have hcz20_0 : w17.cell? ⟨gb213,0,none⟩ = some (.int .i64 a1_0):=(blk_cell BK213.out 0).trans rfl;have hcz20_1 : w17.cell? ⟨gb213,1,none⟩ = some (.slice A1_1 l1_1.length c1_1):=(blk_cell BK213.out 1).trans rfl;have hfz20_0:=blk_frozen BK213.out 0;have hfz20_1:=blk_frozen BK213.out 1))
  go_ret
  exact ⟨by first|rfl|(simp [errW_none,errW_some] <;> rfl)|(simp [*,errW_none,errW_some] <;> rfl),be2_ HB.out GE212.out GE213.out⟩
end Go.Proofs.Ytengegdaiphfeaa.X
end
section
namespace Go.Proofs.Ytengegdaiphfeaa.X
open Go.RowKit Go.Proofs.YtengegdaiphfeaaW.PrintWords Go.Proofs.YtengegdaiphfeaaW.PrintLast Go.Proofs.YtengegdaiphfeaaW.PrintMore
attribute [local go_sem] max2_int min2_int max_two min_two max_three min_three max_four min_four
set_option linter.unusedVariables false
set_option linter.unusedSimpArgs false
def laws_szIntS.f (l0 : List Int) (a1 : Int) : Option (Int):=if (wrap64 (a1 - (l0.length : Int))) < 0 then (some (-1)) else (some (wrap64 (a1 - (l0.length : Int))))
set_option maxHeartbeats 8000000 in
set_option maxRecDepth 100000 in
theorem laws_szIntS.calls (A0 : Option Addr) (c0 : Nat) (l0 : List Int) (a1 : Int) (r : Int) (w : World) (hr0 : Kd.C (Kd.int .i64) w A0 l0.length l0) (hc0 : l0.length ≤ c0) (h : laws_szIntS.f l0 a1 = some r) :
  Calls Try.prog 54 #[.slice A0 l0.length c0,.int .i64 a1] w fun e w' => e = .returned (.int .i64 r) ∧ Drawn0 w w':=by
 have HR0:=Aside0.mk hr0
 have HC0:=Aside0.mk hc0
 clear hr0 hc0
 have H : (if (wrap64 (a1 - (l0.length : Int))) < 0 then (some (-1)) else (some (wrap64 (a1 - (l0.length : Int))))) = some r:=h
 clear h
 by_cases c3 : (wrap64 (a1 - (l0.length : Int))) < 0
 ·rw [if_pos c3] at H
  have c3b0 : decide ((wrap64 (a1 - (l0.length : Int))) < 0) = true:=decide_eq_true c3
  clear c3
  obtain rfl:=Option.some.inj H
  go_enter Try.func54,Try.ntmps54
  go_wp2
  go_ret
  exact ⟨by first|rfl|(simp;done)|(simp [*];done),by repeat (first|exact Drawn0.refl _|apply Drawn0.step)⟩
 ·rw [if_neg c3] at H
  have c3b0 : decide ((wrap64 (a1 - (l0.length : Int))) < 0) = false:=decide_eq_false c3
  clear c3
  obtain rfl:=Option.some.inj H
  go_enter Try.func54,Try.ntmps54
  go_wp2
  go_ret
  exact ⟨by first|rfl|(simp;done)|(simp [*];done),by repeat (first|exact Drawn0.refl _|apply Drawn0.step)⟩
end Go.Proofs.Ytengegdaiphfeaa.X
end
section
namespace Go.Proofs.Ytengegdaiphfeaa.X
open Go.RowKit Go.Proofs.YtengegdaiphfeaaW.PrintWords Go.Proofs.YtengegdaiphfeaaW.PrintLast Go.Proofs.YtengegdaiphfeaaW.PrintMore
attribute [local go_sem] max2_int min2_int max_two min_two max_three min_three max_four min_four
set_option linter.unusedVariables false
set_option linter.unusedSimpArgs false
def laws_szMatrix.f (a0_0 : Int) (l0_1 : List Int) (a1 : Int) : Option (Int):=(laws_szIntS.f l0_1 a1).bind fun t152 => (if t152 < 0 then (some (-1)) else (some t152))
set_option maxHeartbeats 8000000 in
set_option maxRecDepth 100000 in
theorem laws_szMatrix.calls (a0_0 : Int) (A0_1 : Option Addr) (c0_1 : Nat) (l0_1 : List Int) (a1 : Int) (r : Int) (w : World) (hr0_1 : Kd.C (Kd.int .i64) w A0_1 l0_1.length l0_1) (hc0_1 : l0_1.length ≤ c0_1) (h : laws_szMatrix.f a0_0 l0_1 a1 = some r) :
  Calls Try.prog 17 #[.agg #[.int .i64 a0_0,.slice A0_1 l0_1.length c0_1],.int .i64 a1] w fun e w' => e = .returned (.int .i64 r) ∧ Below w.heap.size w w':=by
 have hu26:=Try.underlying26
 have HR0_1:=Aside0.mk hr0_1
 have HC0_1:=Aside0.mk hc0_1
 clear hr0_1 hc0_1
 have HB:=Aside0.mk (Below.refl w.heap.size w)
 have H : ((laws_szIntS.f l0_1 a1).bind fun t152 => (if t152 < 0 then (some (-1)) else (some t152))) = some r:=h
 clear h
 replace H:=Option.bind_eq_some_iff.mp H
 obtain ⟨t152,A30,H⟩:=H
 replace H : (if t152 < 0 then (some (-1)) else (some t152)) = some r:=H
 have A3:=Aside0.mk A30
 clear A30
 by_cases c4 : t152 < 0
 ·rw [if_pos c4] at H
  have c4b0 : decide (t152 < 0) = true:=decide_eq_true c4
  clear c4
  obtain rfl:=Option.some.inj H
  go_enter Try.func17,Try.ntmps17
  go_wp2_with (first|((with_reducible refine gate_dst (N:=2) rfl ?_);refine box_event ?hg (N:=2) ?hd (cs:=#[.int .i64 a0_0,.slice A0_1 l0_1.length c0_1]) (t:=26) ?hr ?_;(case hd => rfl);(case hg => rfl);(case hr => first|(go_simp;done)|(go_simp;rfl));intro gb151 hg w5 hbox hb;have n0_:=Aside0.mk (below_step (be0_ HB.out) hb);have n1_:=Aside0.mk (hbox);have n2_:=Aside0.mk ((by rw [hg];exact (below_size (be0_ HB.out)) : w.heap.size ≤ gb151));have n3_:=Aside0.mk ((by rw [hg];exact (below_size (be0_ HB.out)) : w.heap.size ≤ gb151));clear HB;have HB:=n0_;have BK151:=n1_;have GW151:=n2_;have GE151:=n3_;clear n0_ n1_ n2_ n3_;clear hb hbox hg;have hcz6_0 : w5.cell? ⟨gb151,0,none⟩ = some (.int .i64 a0_0):=(blk_cell BK151.out 0).trans rfl;have hcz6_1 : w5.cell? ⟨gb151,1,none⟩ = some (.slice A0_1 l0_1.length c0_1):=(blk_cell BK151.out 1).trans rfl;have hfz6_0:=blk_frozen BK151.out 0;have hfz6_1:=blk_frozen BK151.out 1)|((with_reducible refine gate_callee (f:=54) rfl ?_);refine goesL_ (some 8) rfl rfl Try.func54 (by kernel_rfl) rfl #[.slice A0_1 l0_1.length c0_1,.int .i64 a1] rfl lp_ ?_;(with_reducible refine (laws_szIntS.calls _ _ l0_1 a1 t152 _ ?side1 ?side2 A3.out).mono ?_);(case side1 => repeat (first|exact (Kd.C_below HR0_1.out HB.out)|(with_reducible refine Kd.C_alloc ?_ _)|(with_reducible refine Kd.C_drewN ?_ _)|(with_reducible refine Kd.C_drew ?_)));(case side2 => exact HC0_1.out);rintro e w' ⟨rfl,⟨nd,rfl⟩⟩;refine ⟨_,rfl,?_⟩))
  go_ret
  exact ⟨by first|rfl|(simp [errW_none,errW_some] <;> rfl)|(simp [*,errW_none,errW_some] <;> rfl),be1_ HB.out GE151.out⟩
 ·rw [if_neg c4] at H
  have c4b0 : decide (t152 < 0) = false:=decide_eq_false c4
  clear c4
  obtain rfl:=Option.some.inj H
  go_enter Try.func17,Try.ntmps17
  go_wp2_with (first|((with_reducible refine gate_dst (N:=2) rfl ?_);refine box_event ?hg (N:=2) ?hd (cs:=#[.int .i64 a0_0,.slice A0_1 l0_1.length c0_1]) (t:=26) ?hr ?_;(case hd => rfl);(case hg => rfl);(case hr => first|(go_simp;done)|(go_simp;rfl));intro gb151 hg w7 hbox hb;have n0_:=Aside0.mk (below_step (be0_ HB.out) hb);have n1_:=Aside0.mk (hbox);have n2_:=Aside0.mk ((by rw [hg];exact (below_size (be0_ HB.out)) : w.heap.size ≤ gb151));have n3_:=Aside0.mk ((by rw [hg];exact (below_size (be0_ HB.out)) : w.heap.size ≤ gb151));clear HB;have HB:=n0_;have BK151:=n1_;have GW151:=n2_;have GE151:=n3_;clear n0_ n1_ n2_ n3_;clear hb hbox hg;have hcz8_0 : w7.cell? ⟨gb151,0,none⟩ = some (.int .i64 a0_0):=(blk_cell BK151.out 0).trans rfl;have hcz8_1 : w7.cell? ⟨gb151,1,none⟩ = some (.slice A0_1 l0_1.length c0_1):=(blk_cell BK151.out 1).trans rfl;have hfz8_0:=blk_frozen BK151.out 0;have hfz8_1:=blk_frozen BK151.out 1)|((with_reducible refine gate_callee (f:=54) rfl ?_);refine goesL_ (some 8) rfl rfl Try.func54 (by kernel_rfl) rfl #[.slice A0_1 l0_1.length c0_1,.int .i64 a1] rfl lp_ ?_;(with_reducible refine (laws_szIntS.calls _ _ l0_1 a1 t152 _ ?side1 ?side2 A3.out).mono ?_);(case side1 => repeat (first|exact (Kd.C_below HR0_1.out HB.out)|(with_reducible refine Kd.C_alloc ?_ _)|(with_reducible refine Kd.C_drewN ?_ _)|(with_reducible refine Kd.C_drew ?_)));(case side2 => exact HC0_1.out);rintro e w' ⟨rfl,⟨nd,rfl⟩⟩;refine ⟨_,rfl,?_⟩))
  go_ret
  exact ⟨by first|rfl|(simp [errW_none,errW_some] <;> rfl)|(simp [*,errW_none,errW_some] <;> rfl),be1_ HB.out GE151.out⟩
end Go.Proofs.Ytengegdaiphfeaa.X
end
section
namespace Go.Proofs.Ytengegdaiphfeaa.X
open Go.RowKit Go.Proofs.YtengegdaiphfeaaW.PrintWords Go.Proofs.YtengegdaiphfeaaW.PrintLast Go.Proofs.YtengegdaiphfeaaW.PrintMore
attribute [local go_sem] max2_int min2_int max_two min_two max_three min_three max_four min_four
set_option linter.unusedVariables false
set_option linter.unusedSimpArgs false
def laws_toIntS.l0 : Nat → List Int → List Int → Int → Option (List Int)
 | 0,_,_,_ => none
 | k + 1,x0,x3,x4 => if x4 < (x0.length : Int) then (if 0 ≤ x4 then (if x4 < (x3.length : Int) then (laws_toIntS.l0 k x0 (x3.set (x4 : Int).toNat (rd x0 x4)) (wrap64 (x4 + 1))) else (none)) else (none)) else (some x3)
def laws_toIntS.f (k : Nat) (l0 : List Int) : Option (List Int):=if 0 ≤ (l0.length : Int) then (if ((l0.length : Int) : Int).toNat ≤ 35184372088832 then (laws_toIntS.l0 k l0 (List.replicate ((l0.length : Int) : Int).toNat 0) 0) else (none)) else (none)
theorem laws_toIntS.mono_l : ∀ k,(∀ y0 y1 y2,LeO (laws_toIntS.l0 k y0 y1 y2) (laws_toIntS.l0 (k + 1) y0 y1 y2))
 | 0 => fun _ _ _ r h => by simp [laws_toIntS.l0] at h
 | k + 1 => by
  have ih0:=laws_toIntS.mono_l k
  ·intro y0 y1 y2
   unfold laws_toIntS.l0
   repeat' first
   | (with_reducible exact ih0 _ _ _)
   | (with_reducible exact LeO.refl _)
   | (with_reducible exact LeO.none _)
   | (with_reducible refine LeO.ite ?_ ?_)
   | (with_reducible refine LeO.bind ?_ (fun _ => ?_))
   | exact ih0 _ _ _
   | exact LeO.none _
   | refine LeO.ite ?_ ?_
   | refine LeO.bind ?_ (fun _ => ?_)
theorem laws_toIntS.mono : ∀ a0 k,LeO (laws_toIntS.f k a0) (laws_toIntS.f (k + 1) a0):=by
 intro a0 k
 have ih0:=laws_toIntS.mono_l k
 unfold laws_toIntS.f
 repeat' first
   | (with_reducible exact ih0 _ _ _)
   | (with_reducible exact LeO.refl _)
   | (with_reducible exact LeO.none _)
   | (with_reducible refine LeO.ite ?_ ?_)
   | (with_reducible refine LeO.bind ?_ (fun _ => ?_))
   | exact ih0 _ _ _
   | exact LeO.none _
   | refine LeO.ite ?_ ?_
   | refine LeO.bind ?_ (fun _ => ?_)
set_option maxHeartbeats 8000000 in
set_option maxRecDepth 100000 in
theorem laws_toIntS.calls (k : Nat) (A0 : Option Addr) (c0 : Nat) (l0 : List Int) (r : List Int) (w : World) (hr0 : Kd.C (Kd.int .i64) w A0 l0.length l0) (hc0 : l0.length ≤ c0) (h : laws_toIntS.f k l0 = some r) :
  Calls Try.prog 57 #[.slice A0 l0.length c0] w fun e w' => ∃ v0_ : Value,e = .returned (v0_) ∧ Kd.R (Kd.int .i64) 3 w' w.heap.size (fun _ => True) v0_ r ∧ Below w.heap.size w w':=by
 have HR0:=Aside0.mk hr0
 have HC0:=Aside0.mk hc0
 clear hr0 hc0
 have HB:=Aside0.mk (Below.refl w.heap.size w)
 have H : (if 0 ≤ (l0.length : Int) then (if ((l0.length : Int) : Int).toNat ≤ 35184372088832 then (laws_toIntS.l0 k l0 (List.replicate ((l0.length : Int) : Int).toNat 0) 0) else (none)) else (none)) = some r:=h
 clear h
 by_cases c2 : 0 ≤ (l0.length : Int)
 ·rw [if_pos c2] at H
  have c2b0:=eq_true c2
  have c2b1 : decide (0 ≤ (l0.length : Int)) = true:=decide_eq_true c2
  clear c2
  by_cases c3 : ((l0.length : Int) : Int).toNat ≤ 35184372088832
  ·rw [if_pos c3] at H
   have c3b0:=eq_true c3
   have c3b1 : decide (((l0.length : Int) : Int).toNat ≤ 35184372088832) = true:=decide_eq_true c3
   clear c3
   obtain ⟨y178,hy178⟩ : ∃ y_ : List Int,y_ = (List.replicate ((l0.length : Int) : Int).toNat 0):=⟨_,rfl⟩
   replace H : (laws_toIntS.l0 k l0 y178 0) = some r:=by first|(rw [hy178];with_reducible exact H)|(have H2_:=(Option.bind_some _ _).symm.trans H;rw [hy178];with_reducible exact H2_)|(have H2_:=(Option.bind_some _ _).symm.trans H;with_reducible exact H2_)|with_reducible exact H|(rw [hy178];exact H)|exact H
   have Ny178:=Aside0.mk hy178
   clear hy178
   have H':=Aside0.mk H
   clear H
   go_enter Try.func57,Try.ntmps57
   go_wp2_with (first|((with_reducible refine gate_dst (N:=7) rfl ?_);refine Kd.R_make (Kd.int .i64) _ 3 rfl (N:=7) rfl 24 _ _ rfl (l0.length : Int) rfl rfl Try.underlying24 (.int .i64 0) 8 info3 rfl (by decide) (by omega) 0 (ok:=fun _ => True) (okp:=fun _ => True) rfl (fun _ hk => hk) trivial (of_decide_eq_true (by first|(with_reducible assumption)|assumption)) (Nat.le_trans (Nat.mul_le_mul_right _ (of_decide_eq_true (by first|(with_reducible assumption)|assumption) : (l0.length : Int).toNat ≤ 35184372088832)) (by omega)) (Below.refl _ _) (Nat.le_refl _) ?_;intro v179 w4 ho5 hb hg_ hnew_;clear hg_ hnew_;(first|rw [← Ny178.out] at ho5|(simp only [Int.reduceToNat] at ho5;rw [← Ny178.out] at ho5));have n0_:=Aside0.mk (Kd.R_lower ho5 (below_size (be0_ HB.out)));have n1_:=Aside0.mk (below_step (be0_ HB.out) hb);clear HB;have HO180:=n0_;have HB:=n1_;clear n0_ n1_;clear hb ho5))
   go_loopg [4] k (fun kq v4 w' => ∃ (x3_1 : List Int) (x4_1 : Int),v4 = .int .i64 x4_1 ∧ Aside0 (laws_toIntS.l0 kq l0 x3_1 x4_1 = some r) ∧ Aside0 (kq ≤ k) ∧ Aside0 (Kd.R (Kd.int .i64) 3 w' w.heap.size (fun _ => True) v179 x3_1) ∧ Aside0 (Below w.heap.size w w'))
   case atStart => exact ⟨(y178),(0),(by first|rfl|(simp;done)|(simp [*];done)),H',⟨Nat.le_refl _⟩,⟨pr_ HO180.out⟩,⟨be0_ HB.out⟩⟩
   case round =>
    clear H'
    try clear c2
    try clear c2b0
    try clear c2b1
    try clear p2
    try clear c3
    try clear c3b0
    try clear c3b1
    try clear c5
    obtain ⟨x3_1,x4_1,rfl,HA,HK1,HO_3,HB⟩:=hrel
    cases gk with
    | zero => exact absurd HA.out (by simp [laws_toIntS.l0])
    | succ k1 =>
     have H:=HA.out
     clear HA
     simp only [laws_toIntS.l0] at H
     by_cases c6 : x4_1 < (l0.length : Int)
     ·rw [if_pos c6] at H
      have c6b0 : decide (x4_1 < (l0.length : Int)) = true:=decide_eq_true c6
      clear c6
      by_cases c7 : 0 ≤ x4_1
      ·rw [if_pos c7] at H
       have c7b0 : decide (0 ≤ x4_1) = true:=decide_eq_true c7
       clear c7
       by_cases c8 : x4_1 < (x3_1.length : Int)
       ·rw [if_pos c8] at H
        have c8b0 : decide (x4_1 < (x3_1.length : Int)) = true:=decide_eq_true c8
        clear c8
        obtain ⟨y182,hy182⟩ : ∃ y_ : List Int,y_ = (x3_1.set (x4_1 : Int).toNat (rd l0 x4_1)):=⟨_,rfl⟩
        replace H : (laws_toIntS.l0 k1 l0 y182 (wrap64 (x4_1 + 1))) = some r:=by first|(rw [hy182];with_reducible exact H)|(have H2_:=(Option.bind_some _ _).symm.trans H;rw [hy182];with_reducible exact H2_)|(have H2_:=(Option.bind_some _ _).symm.trans H;with_reducible exact H2_)|with_reducible exact H|(rw [hy182];exact H)|exact H
        have Ny182:=Aside0.mk hy182
        clear hy182
        have H':=Aside0.mk H
        clear H
        have p181 : 0 ≤ (x4_1 : Int):=of_decide_eq_true (by first|(with_reducible assumption)|assumption)
        have q181 : x4_1 < (l0.length : Int):=of_decide_eq_true (by first|(with_reducible assumption)|assumption)
        obtain ⟨ad181,e181,hx181_0⟩:=Kd.at_int HR0.out x4_1 p181 q181
        cases e181
        replace hx181_0:=(HB.out.cell (World.block_lt_of_cell? w _ hx181_0)).trans hx181_0
        replace p181:=eq_true p181
        replace q181:=eq_true q181
        have p9 : 0 ≤ (x4_1 : Int):=of_decide_eq_true (by first|(with_reducible assumption)|assumption)
        have q9 : (x4_1 : Int) < ((x3_1.length : Int) : Int):=of_decide_eq_true (by first|(with_reducible assumption)|assumption)
        obtain ⟨go9,co9,eo9,gb9,gl9,cl9,HG9⟩:=Kd.R_form HO_3.out (by omega)
        (first|cases eo9|(injection eo9 with ea_ en_ ec_;(first|subst ea_|(injection ea_ with ea_;subst ea_));subst ec_;clear en_))
        have GB9:=Aside0.mk gb9
        have GG9:=Aside0.mk HG9
        clear gb9 gl9 HG9
        obtain ⟨hx9_0,hf9_0⟩:=Kd.R_celln 0 HO_3.out (x4_1 : Int) p9 q9
        replace p9:=eq_true p9
        replace q9:=eq_true q9
        have HP10:=Kd.R_putg HO_3.out (x4_1 : Int) (rd l0 x4_1)
        go_wp2_with (first|((with_reducible refine gate_store (t:=3) (p:=20) rfl ?_);refine store_event (t:=3) (p:=20) (v:=?vo_w11) (w1:=(wr.setCell ⟨go9,(x4_1 : Int).toNat,none⟩ (.int .i64 (rd l0 x4_1)))) ?hg ?ho ?hn ?hr ?_;(case ho => rfl);(case hg => rfl);(case hn => rfl);(case hr => first|(go_simp;done)|(go_simp;rfl));intro w11 hw;have hg : wr.grownBy w11 (some go9):=(by rw [hw];exact HP10.2);have hp_ : Kd.R (Kd.int .i64) 3 w11 w.heap.size (fun _ => True) (.slice (some ⟨go9,0,none⟩) x3_1.length co9) y182:=(by rw [hw,Ny182.out];exact HP10.1);clear HP10;have n0_:=Aside0.mk (hp_);have n1_:=Aside0.mk ((by rw [hw];exact below_set (HB.out) GB9.out : Below w.heap.size w w11));clear HO_3;clear HB;have HO_3:=n0_;have HB:=n1_;clear n0_ n1_;clear hg hw hp_))
        go_roundg k1
        case measure => have:=HK1.out;omega
        case rel => exact ⟨(y182),(wrap64 (x4_1 + 1)),(by first|rfl|(simp;done)|(simp [*];done)),H',⟨by have:=HK1.out;omega⟩,⟨pr_ HO_3.out⟩,⟨be0_ HB.out⟩⟩
       ·rw [if_neg c8] at H
        exact absurd H (by simp)
      ·rw [if_neg c7] at H
       exact absurd H (by simp)
     ·rw [if_neg c6] at H
      have c6b0 : decide (x4_1 < (l0.length : Int)) = false:=decide_eq_false c6
      clear c6
      obtain rfl:=Option.some.inj H
      go_wp2
      go_ret
      exact ⟨_,by first|rfl|(simp [errW_none,errW_some] <;> rfl)|(simp [*,errW_none,errW_some] <;> rfl),pr_ HO_3.out,be0_ HB.out⟩
  ·rw [if_neg c3] at H
   exact absurd H (by simp)
 ·rw [if_neg c2] at H
  exact absurd H (by simp)
end Go.Proofs.Ytengegdaiphfeaa.X
end
section
namespace Go.Proofs.Ytengegdaiphfeaa.X
open Go.RowKit Go.Proofs.YtengegdaiphfeaaW.PrintWords Go.Proofs.YtengegdaiphfeaaW.PrintLast Go.Proofs.YtengegdaiphfeaaW.PrintMore
attribute [local go_sem] max2_int min2_int max_two min_two max_three min_three max_four min_four
set_option linter.unusedVariables false
set_option linter.unusedSimpArgs false
def laws_toMatrix.f (k : Nat) (a0_0 : Int) (l0_1 : List Int) : Option (Int × List Int):=(laws_toIntS.f k l0_1).bind fun t186 => (some (a0_0,t186))
theorem laws_toMatrix.mono : ∀ a0 a1 k,LeO (laws_toMatrix.f k a0 a1) (laws_toMatrix.f (k + 1) a0 a1):=by
 intro a0 a1 k
 unfold laws_toMatrix.f
 repeat' first
   | (with_reducible exact laws_toIntS.mono _ _)
   | (with_reducible exact LeO.refl _)
   | (with_reducible exact LeO.none _)
   | (with_reducible refine LeO.ite ?_ ?_)
   | (with_reducible refine LeO.bind ?_ (fun _ => ?_))
   | exact laws_toIntS.mono _ _
   | exact LeO.none _
   | refine LeO.ite ?_ ?_
   | refine LeO.bind ?_ (fun _ => ?_)
set_option maxHeartbeats 8000000 in
set_option maxRecDepth 100000 in
theorem laws_toMatrix.calls (k : Nat) (a0_0 : Int) (A0_1 : Option Addr) (c0_1 : Nat) (l0_1 : List Int) (r1 : Int) (r2 : List Int) (w : World) (hr0_1 : Kd.C (Kd.int .i64) w A0_1 l0_1.length l0_1) (hc0_1 : l0_1.length ≤ c0_1) (h : laws_toMatrix.f k a0_0 l0_1 = some (r1,r2)) :
  Calls Try.prog 19 #[.agg #[.int .i64 a0_0,.slice A0_1 l0_1.length c0_1]] w fun e w' => ∃ v1_ : Value,e = .returned (.agg #[.int .i64 r1,v1_]) ∧ Kd.R (Kd.int .i64) 3 w' w.heap.size (fun _ => True) v1_ r2 ∧ Below w.heap.size w w':=by
 have hu26:=Try.underlying26
 have hu28:=Try.underlying28
 have HR0_1:=Aside0.mk hr0_1
 have HC0_1:=Aside0.mk hc0_1
 clear hr0_1 hc0_1
 have HB:=Aside0.mk (Below.refl w.heap.size w)
 have H : ((laws_toIntS.f k l0_1).bind fun t186 => (some (a0_0,t186))) = some (r1,r2):=h
 clear h
 replace H:=Option.bind_eq_some_iff.mp H
 obtain ⟨t186,A20,H⟩:=H
 replace H : (some (a0_0,t186)) = some (r1,r2):=H
 have A2:=Aside0.mk A20
 clear A20
 simp only [Option.some.injEq,Prod.mk.injEq] at H
 obtain ⟨rfl,rfl⟩:=H
 go_enter Try.func19,Try.ntmps19
 go_wp2_with (first|((with_reducible refine gate_dst (N:=1) rfl ?_);refine box_event ?hg (N:=1) ?hd (cs:=#[.int .i64 a0_0,.slice A0_1 l0_1.length c0_1]) (t:=26) ?hr ?_;(case hd => rfl);(case hg => rfl);(case hr => first|(go_simp;done)|(go_simp;rfl));intro gb183 hg w3 hbox hb;have n0_:=Aside0.mk (below_step (be0_ HB.out) hb);have n1_:=Aside0.mk (hbox);have n2_:=Aside0.mk ((by rw [hg];exact (below_size (be0_ HB.out)) : w.heap.size ≤ gb183));have n3_:=Aside0.mk ((by rw [hg];exact (below_size (be0_ HB.out)) : w.heap.size ≤ gb183));clear HB;have HB:=n0_;have BK183:=n1_;have GW183:=n2_;have GE183:=n3_;clear n0_ n1_ n2_ n3_;clear hb hbox hg)|((with_reducible refine gate_dst (N:=2) rfl ?_);refine box_event ?hg (N:=2) ?hd (cs:=#[.int .i64 0,.slice none 0 0]) (t:=28) ?hr ?_;(case hd => rfl);(case hg => rfl);(case hr => first|(go_simp;done)|(go_simp;rfl));intro gb184 hg w4 hbox hb;have n0_:=Aside0.mk (blk_below (g:=gb183) (o:=.cells #[.int .i64 a0_0,.slice A0_1 l0_1.length c0_1] 26 (0,0)) (pe_ BK183.out) hb);have n1_:=Aside0.mk (below_step (be1_ HB.out GE183.out) hb);have n2_:=Aside0.mk (hbox);have n3_:=Aside0.mk ((by rw [hg];exact (below_size (be1_ HB.out GE183.out)) : w.heap.size ≤ gb184));have n4_:=Aside0.mk ((by rw [hg];exact (below_size (be1_ HB.out GE183.out)) : w.heap.size ≤ gb184));have n5_:=Aside0.mk ((by rw [hg];exact Nat.ne_of_lt (blk_lt (g:=gb183) (o:=.cells #[.int .i64 a0_0,.slice A0_1 l0_1.length c0_1] 26 (0,0)) (pe_ BK183.out)) : gb183 ≠ gb184));have n6_:=Aside0.mk ((by rw [hg];exact Nat.ne_of_gt (blk_lt (g:=gb183) (o:=.cells #[.int .i64 a0_0,.slice A0_1 l0_1.length c0_1] 26 (0,0)) (pe_ BK183.out)) : gb184 ≠ gb183));clear BK183;clear HB;have BK183:=n0_;have HB:=n1_;have BK184:=n2_;have GW184:=n3_;have GE184:=n4_;have NB183_184:=n5_;have NB184_183:=n6_;clear n0_ n1_ n2_ n3_ n4_ n5_ n6_;clear hb hbox hg)|((with_reducible refine gate_dst (N:=3) rfl ?_);refine box_event ?hg (N:=3) ?hd (cs:=#[.int .i64 0,.slice none 0 0]) (t:=28) ?hr ?_;(case hd => rfl);(case hg => rfl);(case hr => first|(go_simp;done)|(go_simp;rfl));intro gb185 hg w5 hbox hb;have n0_:=Aside0.mk (blk_below (g:=gb183) (o:=.cells #[.int .i64 a0_0,.slice A0_1 l0_1.length c0_1] 26 (0,0)) (pe_ BK183.out) hb);have n1_:=Aside0.mk (blk_below (g:=gb184) (o:=.cells #[.int .i64 0,.slice none 0 0] 28 (0,0)) (pe_ BK184.out) hb);have n2_:=Aside0.mk (below_step (be2_ HB.out GE183.out GE184.out) hb);have n3_:=Aside0.mk (hbox);have n4_:=Aside0.mk ((by rw [hg];exact (below_size (be2_ HB.out GE183.out GE184.out)) : w.heap.size ≤ gb185));have n5_:=Aside0.mk ((by rw [hg];exact (below_size (be2_ HB.out GE183.out GE184.out)) : w.heap.size ≤ gb185));have n6_:=Aside0.mk ((by rw [hg];exact Nat.ne_of_lt (blk_lt (g:=gb183) (o:=.cells #[.int .i64 a0_0,.slice A0_1 l0_1.length c0_1] 26 (0,0)) (pe_ BK183.out)) : gb183 ≠ gb185));have n7_:=Aside0.mk ((by rw [hg];exact Nat.ne_of_gt (blk_lt (g:=gb183) (o:=.cells #[.int .i64 a0_0,.slice A0_1 l0_1.length c0_1] 26 (0,0)) (pe_ BK183.out)) : gb185 ≠ gb183));have n8_:=Aside0.mk ((by rw [hg];exact Nat.ne_of_lt (blk_lt (g:=gb184) (o:=.cells #[.int .i64 0,.slice none 0 0] 28 (0,0)) (pe_ BK184.out)) : gb184 ≠ gb185));have n9_:=Aside0.mk ((by rw [hg];exact Nat.ne_of_gt (blk_lt (g:=gb184) (o:=.cells #[.int .i64 0,.slice none 0 0] 28 (0,0)) (pe_ BK184.out)) : gb185 ≠ gb184));clear BK183;clear BK184;clear HB;have BK183:=n0_;have BK184:=n1_;have HB:=n2_;have BK185:=n3_;have GW185:=n4_;have GE185:=n5_;have NB183_185:=n6_;have NB185_183:=n7_;have NB184_185:=n8_;have NB185_184:=n9_;clear n0_ n1_ n2_ n3_ n4_ n5_ n6_ n7_ n8_ n9_;clear hb hbox hg;have hnb6:=NB183_184.out;have hnc6:=NB184_183.out;have hnb7:=NB183_185.out;have hnc7:=NB185_183.out;have hcz8_0 : w5.cell? ⟨gb183,0,none⟩ = some (.int .i64 a0_0):=(blk_cell BK183.out 0).trans rfl;have hcz8_1 : w5.cell? ⟨gb183,1,none⟩ = some (.slice A0_1 l0_1.length c0_1):=(blk_cell BK183.out 1).trans rfl;have hfz8_0:=blk_frozen BK183.out 0;have hfz8_1:=blk_frozen BK183.out 1;have hnb9:=NB185_184.out;have hnc9:=NB184_185.out;have hcz10_0 : w5.cell? ⟨gb185,0,none⟩ = some (.int .i64 0):=(blk_cell BK185.out 0).trans rfl;have hcz10_1 : w5.cell? ⟨gb185,1,none⟩ = some (.slice none 0 0):=(blk_cell BK185.out 1).trans rfl;have hfz10_0:=blk_frozen BK185.out 0;have hfz10_1:=blk_frozen BK185.out 1)|((with_reducible refine gate_callee (f:=57) rfl ?_);refine goesL_ (some 9) rfl rfl Try.func57 (by kernel_rfl) rfl #[.slice A0_1 l0_1.length c0_1] rfl lp_ ?_;(with_reducible refine (laws_toIntS.calls k _ _ l0_1 t186 _ ?side1 ?side2 A2.out).mono ?_);(case side1 => exact Kd.C_below HR0_1.out (be3_ HB.out GE183.out GE184.out GE185.out));(case side2 => exact HC0_1.out);rintro e w11 ⟨v187,rfl,ho0,hb⟩;refine ⟨_,rfl,?_⟩;have n0_:=Aside0.mk (Kd.R_lower ho0 (below_size (be3_ HB.out GE183.out GE184.out GE185.out)));have n1_:=Aside0.mk (blk_below (g:=gb183) (o:=.cells #[.int .i64 a0_0,.slice A0_1 l0_1.length c0_1] 26 (0,0)) (by refine pe_ ?_;refine blk_far ?_ NB183_185.out _;refine pe_ ?_;exact BK183.out) hb);have n2_:=Aside0.mk (blk_below (g:=gb184) (o:=.cells #[.int .i64 0,.slice none 0 0] 28 (0,0)) (by refine pe_ ?_;refine blk_far ?_ NB184_185.out _;refine pe_ ?_;exact BK184.out) hb);have n3_:=Aside0.mk (blk_below (g:=gb185) (o:=.cells #[.int .i64 a0_0,.slice none 0 0] 28 (0,0)) (by refine pe_ ?_;refine blk_put (cs:=#[.int .i64 0,.slice none 0 0]) ?_ 0 _ rfl;refine pe_ ?_;exact BK185.out) hb);have n4_:=Aside0.mk (below_step (be3_ HB.out GE183.out GE184.out GE185.out) hb);clear BK183;clear BK184;clear BK185;clear HB;have HO188:=n0_;have BK183:=n1_;have BK184:=n2_;have BK185:=n3_;have HB:=n4_;clear n0_ n1_ n2_ n3_ n4_;(try clear hb);(try clear hb2);(try clear hk);(try clear hi);(try clear ho0);obtain ⟨Ao12,co12,eo12⟩:=Kd.R_slice HO188.out;subst eo12;have hcz13_0 : w11.cell? ⟨gb185,0,none⟩ = some (.int .i64 a0_0):=(blk_cell BK185.out 0).trans rfl;have hcz13_1 : w11.cell? ⟨gb185,1,none⟩ = some (.slice none 0 0):=(blk_cell BK185.out 1).trans rfl;have hfz13_0:=blk_frozen BK185.out 0;have hfz13_1:=blk_frozen BK185.out 1;have hcz14_0 : w11.cell? ⟨gb184,0,none⟩ = some (.int .i64 0):=(blk_cell BK184.out 0).trans rfl;have hcz14_1 : w11.cell? ⟨gb184,1,none⟩ = some (.slice none 0 0):=(blk_cell BK184.out 1).trans rfl;have hfz14_0:=blk_frozen BK184.out 0;have hfz14_1:=blk_frozen BK184.out 1))
 refine bodyPost_ret (results_cell_row rfl _ _ gb184 28 #[.int .i64 a0_0,.slice Ao12 t186.length co12] (0,0) _ rfl (by refine pe_ ?_;refine blk_put (cs:=#[.int .i64 a0_0,.slice none 0 0]) ?_ 1 _ rfl;refine pe_ ?_;refine blk_put (cs:=#[.int .i64 0,.slice none 0 0]) ?_ 0 _ rfl;refine pe_ ?_;refine blk_far ?_ NB184_185.out _;refine pe_ ?_;exact BK184.out) Try.underlying28 rfl (by kernel_rfl)) rfl ?_
 exact ⟨_,by first|rfl|(simp [errW_none,errW_some] <;> rfl)|(simp [*,errW_none,errW_some] <;> rfl),by refine pr_ ?_;exact Kd.R_mono (Kd.R_far (p:=⟨gb184,1,none⟩) (Kd.R_far (p:=⟨gb184,0,none⟩) (Kd.R_far (p:=⟨gb185,1,none⟩) (Kd.R_types (Kd.R_types HO188.out BK185.out (by decide)) BK184.out (by decide)) (fun _ hk => hk.1.2) (.slice Ao12 t186.length co12)) (fun _ hk => hk.2) (.int .i64 a0_0)) (fun _ hk => hk.2) (.slice Ao12 t186.length co12)) (fun _ hk => trivial),be3_ HB.out GE183.out GE184.out GE185.out⟩
end Go.Proofs.Ytengegdaiphfeaa.X
end
section
namespace Go.Proofs.Ytengegdaiphfeaa.Y
open Go.RowKit Go.Proofs.Ytengegdaiphfeaa.X Go.Proofs.YtengegdaiphfeaaW.PrintWords Go.Proofs.YtengegdaiphfeaaW.PrintLast Go.Proofs.YtengegdaiphfeaaW.PrintMore
set_option linter.unusedVariables false
set_option linter.unusedSimpArgs false
theorem rd_mid (pre : List Int) (x : Int) (t : List Int) : rd (pre ++ x :: t) (pre.length : Int) = x:=by simp [rd,List.getD_eq_getElem?_getD]
theorem rd_nat (l : List Int) (i : Nat) : rd l (i : Int) = l.getD i 0:=by simp [rd]
theorem snoc_len (pre : List Int) (x : Int) : (((pre ++ [x]).length : Nat) : Int) = (pre.length : Int) + 1:=by simp
theorem wf_in {n : Int} (h : (Lit.int .i64 n).wf = true) : -9223372036854775808 ≤ n ∧ n ≤ 9223372036854775807:=by
 have hmin : IntKind.i64.min = -9223372036854775808:=rfl
 have hmax : IntKind.i64.max = 9223372036854775807:=rfl
 simp only [Lit.wf,Bool.and_eq_true,decide_eq_true_eq] at h
 omega
theorem maxLen_eq : maxLen = 9223372036854775807:=rfl
theorem ev_all {α : Type} {f : Nat → Nat → Option α} {g : Nat → α} (n : Nat) (h : ∀ i,i < n → Ev (f i) (g i)) : ∃ K0,∀ K,K0 ≤ K → ∀ i,i < n → f i K = some (g i):=by
 induction n with
 | zero => exact ⟨0,fun _ _ i hi => by omega⟩
 | succ n ih =>
  obtain ⟨K0,h0⟩:=ih (fun i hi => h i (by omega))
  obtain ⟨K1,h1⟩:=h n (by omega)
  refine ⟨max K0 K1,fun K hK i hi => ?_⟩
  by_cases e : i = n
  ·subst e;exact h1 K (by omega)
  ·exact h0 K (by omega) i (by omega)
theorem ev_up {α : Type} {f : Nat → Option α} {p : Nat → Nat → Option α} {r : α} (h : Ev f r) (hp : ∃ K0,∀ K,K0 ≤ K → ∀ j,LeO (f j) (p K (j + 1))) (hm : ∀ K j,LeO (p K j) (p K (j + 1))) : Ev (fun K => p K K) r:=by
 obtain ⟨K1,h1⟩:=h
 obtain ⟨K0,h0⟩:=hp
 refine ⟨max K0 (K1 + 1),fun K hK => ?_⟩
 have a:=h0 K (by omega) K1 r (h1 K1 (Nat.le_refl _))
 exact at_rounds (g:=p K) (hm K) (show K1 + 1 ≤ K by omega) a
theorem ev_some {α : Type} {f : Nat → Option α} {r : α} (h : ∀ k,f k = some r) : Ev f r:=⟨0,fun k _ => h k⟩
theorem up_loop {β : Type} (n : Nat) (L : Nat → Nat → Option β) (r : β) (step : ∀ i,i < n → Ev (L (i + 1)) r → Ev (L i) r) (h : Ev (L n) r) : Ev (L 0) r:=by
 have go : ∀ d,d ≤ n → Ev (L (n - d)) r:=by
  intro d
  induction d with
  | zero => intro _;exact h
  | succ d ih =>
   intro hd
   have e : n - (d + 1) + 1 = n - d:=by omega
   exact step (n - (d + 1)) (by omega) (by rw [e];exact ih (by omega))
 have:=go n (Nat.le_refl _)
 rwa [Nat.sub_self] at this
def tab (N : Nat) (F : Nat → Int) : List Int:=(List.range N).map F
theorem tab_length (N : Nat) (F : Nat → Int) : (tab N F).length = N:=by simp [tab]
theorem tab_snoc (N : Nat) (F : Nat → Int) : tab N F ++ [F N] = tab (N + 1) F:=by simp [tab,List.range_succ]
theorem tab_get (N : Nat) (F : Nat → Int) (j : Nat) (h : j < N) : (tab N F).getD j 0 = F j:=by
 simp [tab,List.getD_eq_getElem?_getD,List.getElem?_map,List.getElem?_range h]
theorem tab_congr (N : Nat) (F G : Nat → Int) (h : ∀ j,j < N → F j = G j) : tab N F = tab N G:=by
 unfold tab
 exact List.map_congr_left (fun j hj => h j (List.mem_range.mp hj))
theorem mem_tab {N : Nat} {F : Nat → Int} {x : Int} : x ∈ tab N F ↔ ∃ j,j < N ∧ F j = x:=by simp [tab]
theorem eq_tab (l : List Int) (N : Nat) (h : l.length = N) : l = tab N (fun j => l.getD j 0):=by
 apply List.ext_getElem
 ·simp [tab,h]
 ·intro i h1 h2
  simp [tab,List.getD_eq_getElem?_getD,List.getElem?_eq_getElem h1]
theorem fold_snoc {β : Type} (n : Nat) (f : β → Nat → β) (b : β) : (List.range (n + 1)).foldl f b = f ((List.range n).foldl f b) n:=by simp [List.range_succ]
end Go.Proofs.Ytengegdaiphfeaa.Y
end
section
namespace Go.Proofs.Ytengegdaiphfeaa.Y
open Go.RowKit Go.Proofs.Ytengegdaiphfeaa.X Go.Proofs.YtengegdaiphfeaaW.PrintWords Go.Proofs.YtengegdaiphfeaaW.PrintLast Go.Proofs.YtengegdaiphfeaaW.PrintMore
set_option linter.unusedVariables false
set_option linter.unusedSimpArgs false
theorem toIntS_ev (l : List Int) (h : l.length ≤ 1048576) : Ev (fun k => laws_toIntS.f k l) l:=by
 have go : ∀ (t pre : List Int),l = pre ++ t → Ev (fun k => laws_toIntS.l0 k l (pre ++ List.replicate t.length 0) (pre.length : Int)) l:=by
  intro t
  induction t with
  | nil =>
   intro pre hl
   refine Ev.step (f:=fun _ => some l) (fun k => ?_) (Ev.now _)
   simp only [laws_toIntS.l0]
   rw [if_neg (by rw [hl];simp)]
   simp [hl]
  | cons x t ih =>
   intro pre hl
   have hlen : l.length = pre.length + (t.length + 1):=by rw [hl];simp
   refine Ev.step (fun k => ?_) (ih (pre ++ [x]) (by simp [hl]))
   simp only [laws_toIntS.l0]
   rw [if_pos (by omega),if_pos (by omega),if_pos (by simp;omega),w64 (by omega) (by omega),hl,rd_mid,snoc_len,← hl]
   congr 1
   simp [List.replicate_succ,List.set_append]
 refine Ev.congr (fun k => ?_) (go l [] rfl)
 unfold laws_toIntS.f
 rw [if_pos (by omega),if_pos (by omega)]
 simp
theorem eqIntS_ev (a b : List Int) (h : a.length ≤ 1000000000) : Ev (fun k => laws_eqIntS.f k a b) (decide (a = b)):=by
 by_cases hl : a.length = b.length
 ·have go : ∀ (t u pre : List Int),a = pre ++ t → b = pre ++ u → Ev (fun k => laws_eqIntS.l0 k a b (pre.length : Int)) (decide (a = b)):=by
   intro t
   induction t with
   | nil =>
    intro u pre ha hb
    have hu : u = []:=by
     have h1:=congrArg List.length ha
     have h2:=congrArg List.length hb
     simp at h1 h2
     exact List.length_eq_zero_iff.mp (by omega)
    subst hu
    have hab : a = b:=by rw [ha,hb]
    refine Ev.step (f:=fun _ => some true) (fun k => ?_) ((Ev.now _).is (by rw [decide_eq_true hab]))
    simp only [laws_eqIntS.l0]
    rw [if_neg (by rw [ha];simp)]
   | cons x t ih =>
    intro u pre ha hb
    have hla : a.length = pre.length + (t.length + 1):=by rw [ha];simp
    cases u with
    | nil => have h2:=congrArg List.length hb;simp at h2;omega
    | cons y u =>
     by_cases hxy : x = y
     ·subst hxy
      refine Ev.step (fun k => ?_) (ih u (pre ++ [x]) (by simp [ha]) (by simp [hb]))
      simp only [laws_eqIntS.l0]
      rw [if_pos (by omega),if_pos (by omega),if_pos (by omega),w64 (by omega) (by omega),snoc_len,if_pos (by rw [ha,hb,rd_mid,rd_mid])]
     ·have hab : ¬ a = b:=by
       intro e
       rw [ha,hb] at e
       have:=List.append_cancel_left e
       simp at this
       exact hxy this.1
      refine Ev.step (f:=fun _ => some false) (fun k => ?_) ((Ev.now _).is (by rw [decide_eq_false hab]))
      simp only [laws_eqIntS.l0]
      rw [if_pos (by omega),if_pos (by omega),if_pos (by omega),if_neg (by rw [ha,hb,rd_mid,rd_mid];exact hxy)]
  refine Ev.congr (fun k => ?_) (go a b [] rfl rfl)
  unfold laws_eqIntS.f
  rw [if_pos (by omega)];rfl
 ·have hab : ¬ a = b:=fun e => hl (by rw [e])
  refine Ev.congr (f:=fun _ => some false) (fun k => ?_) ((Ev.now _).is (by rw [decide_eq_false hab]))
  unfold laws_eqIntS.f
  rw [if_neg (by omega)]
theorem toMatrix_ev (n : Int) (l : List Int) (h : l.length ≤ 1048576) : Ev (fun k => laws_toMatrix.f k n l) (n,l):=by
 refine Ev.congr (f:=?f1) (fun k => ?h1) ?k1
 case h1 => unfold laws_toMatrix.f;exact rfl
 exact Ev.bind (toIntS_ev l h) (Ev.now _)
theorem eqMatrix_ev (n : Int) (l : List Int) (h : l.length ≤ 1000000000) : Ev (fun k => laws_eqMatrix.f k n l n l) true:=by
 refine Ev.congr (f:=?f2) (fun k => ?h2) ?k2
 case h2 => unfold laws_eqMatrix.f;rw [if_pos rfl] <;> exact rfl
 exact Ev.bind (eqIntS_ev l l h) (Ev.congr (f:=fun _ => some true) (fun k => by simp) (Ev.now _))
theorem szMatrix_eq (n : Int) (l : List Int) (z : Int) (h : l.length ≤ maxLen) (h0 : 0 ≤ z) (h1 : z ≤ 1048576) : laws_szMatrix.f n l z = some (if (l.length : Int) ≤ z then z - l.length else -1):=by
 rw [maxLen_eq] at h
 unfold laws_szMatrix.f laws_szIntS.f
 rw [w64 (by omega) (by omega)]
 by_cases hl : (l.length : Int) ≤ z
 ·rw [if_neg (by omega),if_pos hl,Option.bind_some,if_neg (by omega)]
 ·rw [if_pos (by omega),if_neg hl];rfl
theorem Ev_t {α : Type} {f g : Nat → Option α} {r : α} {c : Prop} [Decidable c] (h : c) (k : Ev f r) : Ev (fun n => if c then f n else g n) r:=Ev.congr (fun n => if_pos h) k
theorem Ev_f {α : Type} {f g : Nat → Option α} {r : α} {c : Prop} [Decidable c] (h : ¬ c) (k : Ev g r) : Ev (fun n => if c then f n else g n) r:=Ev.congr (fun n => if_neg h) k
theorem Ev_sz {α : Type} {o : Option Int} {z : Int} {g : Nat → Int → Option α} {r : α} (h : o = some z) (k : Ev (fun n => g n z) r) : Ev (fun n => o.bind (g n)) r:=Ev.congr (fun n => by rw [h];rfl) k
end Go.Proofs.Ytengegdaiphfeaa.Y
end
section
namespace Go.Proofs.Ytengegdaiphfeaa.Y
open Go.RowKit Go.Proofs.Ytengegdaiphfeaa.X Go.Proofs.YtengegdaiphfeaaW.PrintWords Go.Proofs.YtengegdaiphfeaaW.PrintLast Go.Proofs.YtengegdaiphfeaaW.PrintMore
set_option linter.unusedVariables false
set_option linter.unusedSimpArgs false
inductive Reads : List UInt8 → List S86 → List UInt8 → Prop
 | done : Reads [] [] []
 | letter (c : UInt8) (e : List UInt8) (ps : List S86) (r : List UInt8) : (c = 97 ∨ c = 98) → Reads e ps r → Reads (c :: e) ((⟨⟨#[c]⟩,[]⟩ : S86) :: ps) r
 | again (e : List UInt8) (w : List S86) (e2 : List UInt8) (ps : List S86) (r : List UInt8) : Reads e w (41 :: 35 :: e2) → w ≠ [] → Reads e2 ps r → Reads (40 :: e) ((⟨⟨#[]⟩,w⟩ : S86) :: ps) r
 | other (c : UInt8) (e : List UInt8) : c ≠ 97 → c ≠ 98 → c ≠ 40 → Reads (c :: e) [] (c :: e)
 | bad (e : List UInt8) (w : List S86) (r1 : List UInt8) : Reads e w r1 → (w = [] ∨ ∀ e2,r1 ≠ 41 :: 35 :: e2) → Reads (40 :: e) [] (40 :: e)
theorem Reads.suffix {e ps r} (h : Reads e ps r) : ∃ v,e = v ++ r:=by
 induction h with
 | done => exact ⟨[],rfl⟩
 | letter c e ps r _ _ ih => obtain ⟨v,rfl⟩:=ih;exact ⟨c :: v,rfl⟩
 | again e w e2 ps r _ _ _ ih1 ih2 =>
  obtain ⟨v1,rfl⟩:=ih1;obtain ⟨v2,rfl⟩:=ih2
  exact ⟨40 :: (v1 ++ 41 :: 35 :: v2),by simp⟩
 | other c e => exact ⟨[],rfl⟩
 | bad e w r1 => exact ⟨[],rfl⟩
theorem Reads.none {e r} (h : Reads e [] r) : r = e:=by cases h <;> rfl
theorem Reads.some {e ps r} (h : Reads e ps r) (hp : ps ≠ []) : r.length < e.length:=by
 cases h with
 | done => exact absurd rfl hp
 | letter c e ps r _ h => obtain ⟨v,rfl⟩:=h.suffix;simp;omega
 | again e w e2 ps r h1 _ h2 => obtain ⟨v1,rfl⟩:=h1.suffix;obtain ⟨v2,rfl⟩:=h2.suffix;simp;omega
 | other c e => exact absurd rfl hp
 | bad e w r1 => exact absurd rfl hp
theorem Reads.le {e ps r} (h : Reads e ps r) : r.length ≤ e.length:=by obtain ⟨v,rfl⟩:=h.suffix;simp
theorem Reads.parts {e ps r} (h : Reads e ps r) : ps.length + r.length ≤ e.length:=by
 induction h with
 | done => simp
 | letter c e ps r _ _ ih => simp;omega
 | again e w e2 ps r h1 _ _ ih1 ih2 => have:=h1.le;simp at *;omega
 | other c e => simp
 | bad e w r1 => simp
theorem reads_all (n : Nat) : ∀ e : List UInt8,e.length ≤ n → ∃ ps r,Reads e ps r:=by
 induction n with
 | zero => intro e h;cases e with
  | nil => exact ⟨[],[],.done⟩
  | cons c e => simp at h
 | succ n ih =>
  intro e h
  cases e with
  | nil => exact ⟨[],[],.done⟩
  | cons c e =>
   simp at h
   by_cases h1 : c = 97 ∨ c = 98
   ·obtain ⟨ps,r,hr⟩:=ih e h;exact ⟨_,_,.letter c e ps r h1 hr⟩
   ·by_cases h2 : c = 40
    ·subst h2
     obtain ⟨w,r1,hw⟩:=ih e h
     by_cases h3 : w = [] ∨ ∀ e2,r1 ≠ 41 :: 35 :: e2
     ·exact ⟨_,_,.bad e w r1 hw h3⟩
     ·obtain ⟨h4,h5⟩:=not_or.mp h3
      obtain ⟨e2,h6⟩:=Classical.not_forall.mp h5
      have h6:=Classical.not_not.mp h6
      subst h6
      have:=hw.le
      obtain ⟨ps,r,hr⟩:=ih e2 (by simp at this;omega)
      exact ⟨_,_,.again e w e2 ps r hw h4 hr⟩
    ·exact ⟨_,_,.other c e (fun h => h1 (.inl h)) (fun h => h1 (.inr h)) h2⟩
def endv (s : ByteArray) (r : List UInt8) (b : Int) : Int :=
 if r = [] ∨ r.head? = some 41 then (if (s.size : Int) - r.length = b then -1 else (s.size : Int) - r.length) else -1
theorem end_stop (s : ByteArray) (u : List UInt8) (b : Int) (x : Bool) (j : Int) (hj : j = u.length) (hx : x = false) :
  Ev (fun k => spec_l7End.j1 k s j b x) (if j = b then -1 else j):=by
 subst hx
 refine Ev.step (f:=fun _ => some (if j = b then -1 else j)) (fun k => ?_) (Ev.now _)
 simp only [spec_l7End.j1]
 rw [if_neg (by simp)]
 split <;> rfl
set_option maxHeartbeats 1000000 in
theorem end_reads {e ps r} (h : Reads e ps r) : ∀ (s : ByteArray) (u : List UInt8) (b : Int),L s = u ++ e → s.size ≤ 1000000 → 0 ≤ b → b ≤ u.length →
  Ev (fun k => spec_l7End.l0 k s u.length b) (endv s r b):=by
 induction h with
 | done =>
  intro s u b hs hn hb0 hb
  have hz:=size_suffix hs
  refine Ev.step (f:=fun k => spec_l7End.j1 k s u.length b false) (fun k => ?_) ?_
  ·simp only [spec_l7End.l0];rw [if_neg (by simp at hz;omega)]
  ·refine (end_stop s u b false _ rfl rfl).is ?_
   simp [endv];simp at hz;rw [hz]
 | letter c e ps r hc h ih =>
  intro s u b hs hn hb0 hb
  have hz:=size_suffix hs
  have hbt:=bt_suffix hs
  simp at hz
  have h41 : ((bt s u.length) != 41) = true:=by rw [hbt];rcases hc with rfl|rfl <;> decide
  refine Ev.step (f:=fun k => spec_l7End.j1 k s u.length b true) (fun k => ?_) ?_
  ·simp only [spec_l7End.l0];rw [if_pos (by omega),if_pos (by omega),h41]
  refine Ev.step (f:=fun k => spec_l7End.j2 k s u.length b true) (fun k => ?_) ?_
  ·simp only [spec_l7End.j1,if_true];rw [if_pos (by omega),if_pos (by omega)]
   rcases hc with rfl|rfl
   ·rw [if_pos (by rw [hbt];rfl)]
   ·rw [if_neg (by rw [hbt];decide),show ((bt s u.length) == 98) = true by rw [hbt];rfl]
  refine Ev.step (f:=fun k => spec_l7End.l0 k s (u ++ [c]).length b) (fun k => ?_) ?_
  ·simp only [spec_l7End.j2,if_true];rw [w64 (by omega) (by omega)];simp
  ·exact ih s (u ++ [c]) b (by simp [hs]) hn hb0 (by simp;omega)
 | again e w e2 ps r h1 hw h2 ih1 ih2 =>
  intro s u b hs hn hb0 hb
  have hz:=size_suffix hs
  have hbt:=bt_suffix hs
  simp at hz
  obtain ⟨v,hv⟩:=h1.suffix
  have hlt:=h1.some hw
  have hs1 : L s = (u ++ [40]) ++ e:=by simp [hs]
  have hs2 : L s = (u ++ 40 :: v) ++ 41 :: (35 :: e2):=by rw [hs,hv];simp
  have hs3 : L s = (u ++ 40 :: v ++ [41]) ++ 35 :: e2:=by rw [hs,hv];simp
  have hs4 : L s = (u ++ 40 :: v ++ [41,35]) ++ e2:=by rw [hs,hv];simp
  have b2:=bt_suffix hs2
  have b3:=bt_suffix hs3
  have z2:=size_suffix hs2
  simp at z2 hlt
  have i1:=ih1 s (u ++ [40]) ((u ++ [40]).length) hs1 hn (by omega) (by omega)
  have he : endv s (41 :: 35 :: e2) ((u ++ [40]).length) = ((u ++ 40 :: v).length : Int):=by
   have hvl : 0 < v.length:=by rw [hv] at hlt;simp at hlt;omega
   unfold endv;rw [if_pos (by simp),if_neg (by simp;omega)];simp;omega
  rw [he] at i1
  have h41 : ((bt s u.length) != 41) = true:=by rw [hbt];rfl
  refine Ev.step (f:=fun k => spec_l7End.j1 k s u.length b true) (fun k => ?_) ?_
  ·simp only [spec_l7End.l0];rw [if_pos (by omega),if_pos (by omega),h41]
  refine Ev.step (f:=fun k => spec_l7End.j2 k s u.length b false) (fun k => ?_) ?_
  ·simp only [spec_l7End.j1,if_true];rw [if_pos (by omega),if_pos (by omega),if_neg (by rw [hbt];decide),show ((bt s u.length) == 98) = false by rw [hbt];rfl]
  have hw1 : wrap64 ((u.length : Int) + 1) = ((u ++ [40]).length : Int):=by rw [w64 (by omega) (by omega)];simp
  refine Ev.step (f:=?f1) (fun k => ?h1) ?k1
  case h1 =>
   simp only [spec_l7End.j2]
   rw [if_neg (by simp),if_pos (by omega),if_pos (by omega),if_pos (by rw [hbt];rfl),hw1] <;> exact rfl
  refine Ev.bind (a:=((u ++ 40 :: v).length : Int)) (Ev.step (fun k => by simp only [spec_l7End.f]) i1) ?_
  simp only [List.length_append,List.length_cons]
  have i2:=ih2 s (u ++ 40 :: v ++ [41,35]) b hs4 hn hb0 (by simp;omega)
  refine Ev.congr (fun k => ?_) i2
  have e1 : wrap64 (((u.length + (v.length + 1) : Nat) : Int) + 1) = (((u ++ 40 :: v ++ [41]).length : Nat) : Int):=by rw [w64 (by omega) (by omega)];simp;omega
  have e2 : wrap64 (((u.length + (v.length + 1) : Nat) : Int) + 2) = (((u ++ 40 :: v ++ [41,35]).length : Nat) : Int):=by rw [w64 (by omega) (by omega)];simp;omega
  rw [e1,e2]
  simp only [List.length_append,List.length_cons,List.length_nil] at b2 b3 ⊢
  rw [if_neg (by omega),if_neg (by omega),if_pos (by omega),if_pos (by omega),if_pos (by rw [b2] <;> rfl),if_pos (by omega),if_pos (by omega),if_pos (by rw [b3] <;> rfl)]
 | other c e c1 c2 c3 =>
  intro s u b hs hn hb0 hb
  have hz:=size_suffix hs
  have hbt:=bt_suffix hs
  simp at hz
  by_cases h41 : c = 41
  ·subst h41
   refine Ev.step (f:=fun k => spec_l7End.j1 k s u.length b false) (fun k => ?_) ?_
   ·simp only [spec_l7End.l0];rw [if_pos (by omega),if_pos (by omega),show ((bt s u.length) != 41) = false by rw [hbt];rfl]
   ·refine (end_stop s u b false _ rfl rfl).is ?_
    have h2 : (s.size : Int) - ((41 :: e : List UInt8).length : Int) = u.length:=by simp only [List.length_cons];omega
    unfold endv;rw [if_pos (c:=(41 :: e : List UInt8) = [] ∨ (41 :: e : List UInt8).head? = some 41) (.inr rfl),h2]
  ·refine Ev.step (f:=fun k => spec_l7End.j1 k s u.length b true) (fun k => ?_) ?_
   ·simp only [spec_l7End.l0];rw [if_pos (by omega),if_pos (by omega),show ((bt s u.length) != 41) = true by rw [hbt];simpa using u8_ne h41]
   refine Ev.step (f:=fun k => spec_l7End.j2 k s u.length b false) (fun k => ?_) ?_
   ·simp only [spec_l7End.j1,if_true];rw [if_pos (by omega),if_pos (by omega),if_neg (by rw [hbt];exact u8_ne c1),show ((bt s u.length) == 98) = false by rw [hbt];simpa using u8_ne c2]
   refine Ev.step (f:=fun _ => some (-1)) (fun k => ?_) ((Ev.now _).is ?_)
   ·simp only [spec_l7End.j2];rw [if_neg (by simp),if_pos (by omega),if_pos (by omega),if_neg (by rw [hbt];exact u8_ne c3)]
   ·unfold endv;rw [if_neg (by simp [h41])]
 | bad e w r1 h1 hw ih =>
  intro s u b hs hn hb0 hb
  have hz:=size_suffix hs
  have hbt:=bt_suffix hs
  simp at hz
  obtain ⟨v,hv⟩:=h1.suffix
  have hs1 : L s = (u ++ [40]) ++ e:=by simp [hs]
  have hs2 : L s = (u ++ 40 :: v) ++ r1:=by rw [hs,hv];simp
  have z2:=size_suffix hs2
  simp at z2
  have i1:=ih s (u ++ [40]) ((u ++ [40]).length) hs1 hn (by omega) (by omega)
  have h41 : ((bt s u.length) != 41) = true:=by rw [hbt];rfl
  refine Ev.step (f:=fun k => spec_l7End.j1 k s u.length b true) (fun k => ?_) ?_
  ·simp only [spec_l7End.l0];rw [if_pos (by omega),if_pos (by omega),h41]
  refine Ev.step (f:=fun k => spec_l7End.j2 k s u.length b false) (fun k => ?_) ?_
  ·simp only [spec_l7End.j1,if_true];rw [if_pos (by omega),if_pos (by omega),if_neg (by rw [hbt];decide),show ((bt s u.length) == 98) = false by rw [hbt];rfl]
  have hw1 : wrap64 ((u.length : Int) + 1) = ((u ++ [40]).length : Int):=by rw [w64 (by omega) (by omega)];simp
  have hend : endv s (40 :: e) b = -1:=by unfold endv;rw [if_neg (by simp)]
  rw [hend]
  refine Ev.step (f:=?f2) (fun k => ?h2) ?k2
  case h2 =>
   simp only [spec_l7End.j2]
   rw [if_neg (by simp),if_pos (by omega),if_pos (by omega),if_pos (by rw [hbt];rfl),hw1] <;> exact rfl
  refine Ev.bind (a:=endv s r1 ((u ++ [40]).length)) (Ev.step (fun k => by simp only [spec_l7End.f]) i1) ?_
  refine Ev.congr (f:=fun _ => some (-1)) (fun k => ?_) (Ev.now _)
  unfold endv
  by_cases hr : r1 = [] ∨ r1.head? = some 41
  ·rw [if_pos hr]
   by_cases hb1 : (s.size : Int) - r1.length = ((u ++ [40]).length : Int)
   ·rw [if_pos hb1,if_pos (by omega)]
   ·rw [if_neg hb1,if_neg (by omega)]
    have e1 : wrap64 ((s.size : Int) - r1.length + 1) = (s.size : Int) - r1.length + 1:=w64 (by omega) (by omega)
    rw [e1]
    rcases hr with rfl|hr
    ·rw [if_pos (by simp;omega)]
    ·cases r1 with
     | nil => simp at hr
     | cons c r2 =>
      simp at hr;subst hr
      cases r2 with
      | nil => rw [if_pos (by simp)]
      | cons c2 r3 =>
       have hs3 : L s = (u ++ 40 :: v ++ [41]) ++ c2 :: r3:=by rw [hs2];simp
       have b2:=bt_suffix hs2
       have b3:=bt_suffix hs3
       simp at z2 b2 b3
       have hj : (s.size : Int) - ((41 :: c2 :: r3 : List UInt8).length : Int) = (u.length : Int) + (v.length + 1):=by simp;omega
       have hwn : w ≠ []:=by
        rintro rfl
        have:=h1.none
        apply hb1
        have hl : e.length = r3.length + 2:=by rw [← this];simp
        simp;omega
       have hc : c2 ≠ 35:=by
        rintro rfl
        rcases hw with h|h
        ·exact hwn h
        ·exact h r3 rfl
       rw [hj,if_neg (by omega),if_pos (by omega),if_pos (by omega),if_pos (by rw [b2] <;> rfl),if_pos (by omega),if_pos (by omega),if_neg (by rw [show (u.length : Int) + (v.length + 1) + 1 = u.length + (v.length + 1 + 1) by omega,b3];exact u8_ne hc)]
  ·rw [if_neg hr,if_pos (by omega)]
end Go.Proofs.Ytengegdaiphfeaa.Y
end
section
namespace Go.Proofs.Ytengegdaiphfeaa.Y
open Go.RowKit Go.Proofs.Ytengegdaiphfeaa.X Go.Proofs.YtengegdaiphfeaaW.PrintWords Go.Proofs.YtengegdaiphfeaaW.PrintLast Go.Proofs.YtengegdaiphfeaaW.PrintMore
set_option linter.unusedVariables false
set_option linter.unusedSimpArgs false
theorem rd_at (pre : List S86) (p : S86) (ps : List S86) : rd_T86 (pre ++ p :: ps) (pre.length : Int) = p:=by
 simp [rd_T86,List.getD_eq_getElem?_getD]
theorem next_letter (x : ByteArray) (c : UInt8) (e : List UInt8) (hx : L x = c :: e) (hc : c = 97 ∨ c = 98) : Ev (fun k => spec_l7Next.f k x) (⟨#[c]⟩,false,⟨e.toArray⟩):=by
 have hz : x.size = e.length + 1:=by rw [L_size,hx];simp
 have hbt : bt x 0 = (c.toNat : Int):=by rw [bt_L,hx];simp
 have h0 : x.extract 0 1 = ⟨#[c]⟩:=L_inj (by rw [L_extract,hx];simp [L])
 have h1 : x.extract 1 x.size = ⟨e.toArray⟩:=L_inj (by rw [L_extract,hx,L_mk,L_size,hx];simp)
 refine Ev.congr (f:=fun _ => some (⟨#[c]⟩,false,⟨e.toArray⟩)) (fun k => ?_) (Ev.now _)
 unfold spec_l7Next.f
 rw [if_pos (by omega),if_neg (by rw [hbt];rcases hc with rfl|rfl <;> decide),if_pos (by omega),if_pos (by omega),h0,h1]
theorem next_again (x : ByteArray) (e v e2 : List UInt8) (w : List S86) (hx : L x = 40 :: e) (hv : e = v ++ 41 :: 35 :: e2) (h : Reads e w (41 :: 35 :: e2)) (hw : w ≠ []) (hn : x.size ≤ 1000000) :
  Ev (fun k => spec_l7Next.f k x) (⟨v.toArray⟩,true,⟨e2.toArray⟩):=by
 have hz : x.size = e.length + 1:=by rw [L_size,hx];simp
 have hel : e.length = v.length + 2 + e2.length:=by rw [hv];simp;omega
 have hbt : bt x 0 = 40:=by rw [bt_L,hx];rfl
 have hlt:=h.some hw
 simp only [List.length_cons] at hlt
 have h1:=end_reads h x [40] 1 (by simp [hx]) hn (by omega) (by simp)
 have he : endv x (41 :: 35 :: e2) 1 = ((v.length + 1 : Nat) : Int):=by
  unfold endv;rw [if_pos (.inr rfl),if_neg (by simp only [List.length_cons];omega)];simp only [List.length_cons];omega
 rw [he] at h1
 refine Ev.congr (f:=?f1) (fun k => ?h1) ?k1
 case h1 => unfold spec_l7Next.f;rw [if_pos (by omega),if_pos hbt] <;> exact rfl
 refine Ev.bind (Ev.step (fun k => by simp only [spec_l7End.f];rfl) h1) ?_
 have e1 : x.extract 1 (v.length + 1) = ⟨v.toArray⟩:=L_inj (by rw [L_extract,hx,L_mk,hv];simp)
 have e2' : x.extract (v.length + 3) x.size = ⟨e2.toArray⟩:=L_inj (by rw [L_extract,hx,L_mk e2,List.take_of_length_le (by rw [List.length_cons,hz];exact Nat.le_refl _),hv,show (40 :: (v ++ 41 :: 35 :: e2) : List UInt8) = (40 :: v ++ [41,35]) ++ e2 by simp,List.drop_left' (by simp)])
 refine Ev.congr (f:=fun _ => some (⟨v.toArray⟩,true,⟨e2.toArray⟩)) (fun k => ?_) (Ev.now _)
 rw [w64 (by omega) (by omega),if_pos (by omega),if_pos (by omega),if_pos (by omega),if_pos (by omega)]
 rw [show (((v.length + 1 : Nat) : Int) + 2).toNat = v.length + 3 by omega,Int.toNat_natCast,e1,e2']
theorem reads_cut {e w r} (h : Reads e w r) : (r = [] ∨ r.head? = some 41) → ∀ v,e = v ++ r → ∀ r',(r' = [] ∨ r'.head? = some 41) → Reads (v ++ r') w r':=by
 have stop : ∀ r' : List UInt8,(r' = [] ∨ r'.head? = some 41) → Reads r' [] r':=by
  intro r' h
  rcases h with rfl|h
  ·exact .done
  ·cases r' with
   | nil => simp at h
   | cons c t => simp at h;subst h;exact .other 41 t (by decide) (by decide) (by decide)
 have self : ∀ (e v : List UInt8),e = v ++ e → v = []:=by
  intro e v h
  have h3:=congrArg List.length h
  simp at h3
  exact h3
 induction h with
 | done => intro _ v hv r' hr';rw [self _ _ hv];exact stop r' hr'
 | other c e => intro _ v hv r' hr';rw [self _ _ hv];exact stop r' hr'
 | bad e w r1 => intro hr v hv r' hr';simp at hr
 | letter c e ps r hc h ih =>
  intro hr v hv r' hr'
  cases v with
  | nil =>
   have h3:=congrArg List.length hv
   have:=h.le
   simp at h3
   omega
  | cons d v =>
   simp at hv
   obtain ⟨rfl,hv⟩:=hv
   exact .letter c (v ++ r') ps r' hc (ih hr v hv r' hr')
 | again e w e2 ps r h1 hw h2 ih1 ih2 =>
  intro hr v hv r' hr'
  obtain ⟨t1,ht1⟩:=h1.suffix
  obtain ⟨t2,ht2⟩:=h2.suffix
  have hvv : v = 40 :: (t1 ++ 41 :: 35 :: t2):=by
   have : 40 :: (t1 ++ 41 :: 35 :: t2) ++ r = v ++ r:=by rw [← hv,ht1,ht2];simp
   exact (List.append_cancel_right this).symm
  subst hvv
  have a:=ih1 (.inr rfl) t1 ht1 (41 :: 35 :: (t2 ++ r')) (.inr rfl)
  have b:=ih2 hr t2 ht2 r' hr'
  simpa using Reads.again (t1 ++ 41 :: 35 :: (t2 ++ r')) w (t2 ++ r') ps r' a hw b
theorem reads_inner {e t1 e2 : List UInt8} {w} (h : Reads e w (41 :: 35 :: e2)) (hv : e = t1 ++ 41 :: 35 :: e2) : Reads t1 w []:=by
 simpa using reads_cut h (.inr rfl) t1 hv [] (.inl rfl)
end Go.Proofs.Ytengegdaiphfeaa.Y
end
section
namespace Go.Proofs.Ytengegdaiphfeaa.Y
open Go.RowKit Go.Proofs.Ytengegdaiphfeaa.X Go.Proofs.YtengegdaiphfeaaW.PrintWords Go.Proofs.YtengegdaiphfeaaW.PrintLast Go.Proofs.YtengegdaiphfeaaW.PrintMore
set_option linter.unusedVariables false
set_option linter.unusedSimpArgs false
theorem mx_nat (a b : Nat) : mx (a : Int) (b : Int) = ((max a b : Nat) : Int):=by unfold mx;omega
theorem rdepth_step (s : ByteArray) (u e : List UInt8) (c : UInt8) (dp m : Int) (hs : L s = u ++ c :: e) (hn : s.size ≤ 1000000) (h0 : 0 ≤ dp) (h1 : dp ≤ 1000000) (dp' m' : Int)
  (hc : dp' = (if c = 40 then dp + 1 else if c = 41 then dp - 1 else dp)) (hm : m' = (if c = 40 then mx m (dp + 1) else m)) {res : Int}
  (h : Ev (fun k => spec_DepthOf.l0 k s dp' m' s.size ((u ++ [c]).length)) res) : Ev (fun k => spec_DepthOf.l0 k s dp m s.size u.length) res:=by
 have hz:=size_suffix hs
 have hbt:=bt_suffix hs
 simp at hz
 refine Ev.step (fun k => ?_) h
 simp only [spec_DepthOf.l0]
 rw [if_pos (by omega),if_pos (by omega),if_pos (by omega),w64 (x:=(u.length : Int) + 1) (by omega) (by omega),w64 (x:=dp + 1) (by omega) (by omega),w64 (x:=dp - 1) (by omega) (by omega),hbt,hc,hm]
 have hl : (((u ++ [c]).length : Nat) : Int) = (u.length : Int) + 1:=by simp
 rw [hl]
 by_cases h40 : c = 40
 ·subst h40;rw [if_pos (show (((40 : UInt8).toNat : Nat) : Int) = 40 from rfl),if_pos rfl,if_pos rfl]
 ·rw [if_neg (show ¬ ((c.toNat : Int) = 40) from u8_ne h40),if_neg h40,if_neg h40]
  by_cases h41 : c = 41
  ·subst h41;rw [if_pos (show (((41 : UInt8).toNat : Nat) : Int) = 41 from rfl),if_pos rfl]
  ·rw [if_neg (show ¬ ((c.toNat : Int) = 41) from u8_ne h41),if_neg h41]
inductive DP : List S86 → Nat → Prop
 | nil : DP [] 0
 | cons (p : S86) (ps : List S86) (a b : Nat) : DP p.f1 a → DP ps b → DP (p :: ps) (if L p.f0 = [] then max (a + 1) b else b)
theorem DP.fn {ps : List S86} {d : Nat} (h : DP ps d) : ∀ {d' : Nat},DP ps d' → d = d':=by
 induction h with
 | nil => intro X' h';cases h';rfl
 | cons p ps Y X _ _ ih1 ih2 =>
  intro X' h'
  cases h' with
  | cons _ _ Y' X2 h1 h2 => rw [ih1 h1,ih2 h2]
theorem DP.letter (c : UInt8) (ps : List S86) (b : Nat) (h : DP ps b) : DP ((⟨⟨#[c]⟩,[]⟩ : S86) :: ps) b:=DP.cons (⟨⟨#[c]⟩,[]⟩ : S86) ps 0 b DP.nil h
theorem DP.again (w ps : List S86) (a b : Nat) (h1 : DP w a) (h2 : DP ps b) : DP ((⟨⟨#[]⟩,w⟩ : S86) :: ps) (max (a + 1) b):=DP.cons (⟨⟨#[]⟩,w⟩ : S86) ps a b h1 h2
theorem depth_reads {e ps r} (h : Reads e ps r) : e.length ≤ 1000000 → ∃ d : Nat,DP ps d ∧ d ≤ e.length ∧
  (∀ (pre : List S86) (m : Nat),pre.length + ps.length ≤ 1000000 → Ev (fun k => impl_depth.l0 k m (pre ++ ps) ((pre ++ ps).length) pre.length) (((max m d : Nat)) : Int)) ∧
  (∀ (s : ByteArray) (u t : List UInt8),L s = u ++ e → e = t ++ r → s.size ≤ 1000000 → ∀ (dp m : Int),0 ≤ dp → dp ≤ u.length → dp ≤ m → ∀ res,
   Ev (fun k => spec_DepthOf.l0 k s dp (mx m (dp + d)) s.size ((u ++ t).length)) res → Ev (fun k => spec_DepthOf.l0 k s dp m s.size u.length) res):=by
 have stop : ∀ (pre : List S86) (m : Nat),Ev (fun k => impl_depth.l0 k m (pre ++ []) ((pre ++ []).length) pre.length) (((max m 0 : Nat)) : Int):=by
  intro pre m
  refine Ev.step (f:=fun _ => some (m : Int)) (fun k => ?_) ((Ev.now _).is (by simp))
  simp only [impl_depth.l0];rw [if_neg (by simp)]
 have still : ∀ (e : List UInt8) (s : ByteArray) (u t : List UInt8),L s = u ++ e → e = t ++ e → s.size ≤ 1000000 → ∀ (dp m : Int),0 ≤ dp → dp ≤ u.length → dp ≤ m → ∀ res,
   Ev (fun k => spec_DepthOf.l0 k s dp (mx m (dp + (0 : Nat))) s.size ((u ++ t).length)) res → Ev (fun k => spec_DepthOf.l0 k s dp m s.size u.length) res:=by
  intro e s u t hs ht hn dp m h0 h1 h2 res hr
  have : t = []:=by
   have:=congrArg List.length ht
   simp at this
   exact this
  subst this
  rwa [show mx m (dp + (0 : Nat)) = m by unfold mx;omega,List.append_nil] at hr
 induction h with
 | done => intro _;exact ⟨0,DP.nil,by simp,fun pre m _ => stop pre m,still []⟩
 | other c e => intro _;exact ⟨0,DP.nil,by simp,fun pre m _ => stop pre m,still _⟩
 | bad e w r1 => intro _;exact ⟨0,DP.nil,by simp,fun pre m _ => stop pre m,still _⟩
 | letter c e ps r hc h ih =>
  intro hle
  simp at hle
  obtain ⟨d,dp_,hd,i1,i2⟩:=ih (by omega)
  refine ⟨d,DP.letter c ps d dp_,by simp;omega,?_,?_⟩
  ·intro pre m hp
   simp at hp
   have j:=i1 (pre ++ [(⟨⟨#[c]⟩,[]⟩ : S86)]) m (by simp;omega)
   refine Ev.step (fun k => ?_) j
   simp only [impl_depth.l0]
   rw [if_pos (by simp;omega),if_pos (by omega),if_pos (by simp;omega),rd_at,if_neg (by rw [toList_L];simp [L]),w64 (by omega) (by omega)]
   simp
  ·intro s u t hs ht hn dp m h0 h1 h2 res hr
   have hz:=size_suffix hs
   simp at hz
   cases t with
   | nil =>
    have h3:=congrArg List.length ht
    have:=h.le
    simp at h3
    omega
   | cons c' t =>
    simp at ht
    obtain ⟨rfl,ht⟩:=ht
    refine rdepth_step s u e c dp m hs hn h0 (by omega) dp m (by rcases hc with rfl|rfl <;> rfl) (by rcases hc with rfl|rfl <;> rfl) ?_
    exact i2 s (u ++ [c]) t (by simp [hs]) ht hn dp m h0 (by simp;omega) h2 res (by simpa using hr)
 | again e w e2 ps r h1 hw h2 ih1 ih2 =>
  intro hle
  simp at hle
  have hl1:=h1.le
  have hl2:=h1.parts
  simp at hl1 hl2
  obtain ⟨d1,dp1_,hd1,i1,i2⟩:=ih1 (by omega)
  obtain ⟨d2,dp2_,hd2,j1,j2⟩:=ih2 (by omega)
  refine ⟨max (d1 + 1) d2,DP.again w ps d1 d2 dp1_ dp2_,by simp;omega,?_,?_⟩
  ·intro pre m hp
   simp at hp
   have a:=i1 [] 0 (by simp;omega)
   have b:=j1 (pre ++ [(⟨⟨#[]⟩,w⟩ : S86)]) (max m (d1 + 1)) (by simp;omega)
   refine Ev.step (f:=?f1) (fun k => ?h1) ?k1
   case h1 =>
    simp only [impl_depth.l0]
    rw [if_pos (by simp;omega),if_pos (by omega),if_pos (by simp;omega),rd_at,if_pos (by rw [toList_L];simp [L]),w64 (x:=(pre.length : Int) + 1) (by omega) (by omega)] <;> exact rfl
   refine Ev.bind (a:=((max 0 d1 : Nat) : Int)) (Ev.step (fun k => by first|(simp only [impl_depth.f];done)|(simp only [impl_depth.f];simp)) a) ?_
   refine Ev.congr (fun k => ?_) (b.is (by omega))
   rw [w64 (by omega) (by omega),show ((max 0 d1 : Nat) : Int) + 1 = ((d1 + 1 : Nat) : Int) by omega,mx_nat]
   simp
  ·intro s u t hs ht hn dp m h0 h1' h2' res hr
   have hz:=size_suffix hs
   simp at hz
   obtain ⟨t1,ht1⟩:=h1.suffix
   obtain ⟨t2,ht2⟩:=h2.suffix
   have htt : t = 40 :: (t1 ++ 41 :: 35 :: t2):=by
    have : 40 :: (t1 ++ 41 :: 35 :: t2) ++ r = t ++ r:=by rw [← ht,ht1,ht2];simp
    exact (List.append_cancel_right this).symm
   subst htt
   refine rdepth_step s u e 40 dp m hs hn h0 (by omega) (dp + 1) (mx m (dp + 1)) rfl rfl ?_
   refine i2 s (u ++ [40]) t1 (by simp [hs]) ht1 hn (dp + 1) (mx m (dp + 1)) (by omega) (by simp;omega) (by unfold mx;omega) res ?_
   refine rdepth_step s (u ++ [40] ++ t1) (35 :: e2) 41 (dp + 1) _ (by simp [hs,ht1]) hn (by omega) (by omega) dp _ (by rw [if_neg (by decide),if_pos rfl];omega) rfl ?_
   refine rdepth_step s (u ++ [40] ++ t1 ++ [41]) e2 35 dp _ (by simp [hs,ht1]) hn (by omega) (by omega) dp _ rfl rfl ?_
   refine j2 s (u ++ [40] ++ t1 ++ [41] ++ [35]) t2 (by simp [hs,ht1]) ht2 hn dp _ (by omega) (by simp;omega) (by unfold mx;omega) res ?_
   have e1 : mx (mx (mx m (dp + 1)) (dp + 1 + d1)) (dp + d2) = mx m (dp + (max (d1 + 1) d2 : Nat)):=by unfold mx;omega
   simp only [show ¬ (35 : UInt8) = 40 by decide,show ¬ (41 : UInt8) = 40 by decide,if_false]
   rw [e1]
   simpa using hr
end Go.Proofs.Ytengegdaiphfeaa.Y
end
