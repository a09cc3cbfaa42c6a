import Derived.Test.YtfmbpoojpnoafaaKFnExactGradeOf1
section
namespace Go.Proofs.Ytfmbpoojpnoafaa.X
open Go.RowKit Go.Proofs.YtfmbpoojpnoafaaW.PrintWords Go.Proofs.YtfmbpoojpnoafaaW.PrintLast Go.Proofs.YtfmbpoojpnoafaaW.PrintMore
attribute [local go_sem] max2_int min2_int max_two min_two max_three min_three max_four min_four
set_option linter.unusedVariables false
set_option linter.unusedSimpArgs false
mutual
def impl_readParts.l0 : Nat → ByteArray → List (S136) → Option ((List (S136)) × ByteArray)
 | 0,_,_ => none
 | k + 1,x0,x4 => if x0.toList = ([] : List UInt8) then (some (x4,x0)) else (if 0 < (x0.size : Int) then (if (bt x0 0) = 97 then (impl_readParts.j1 k x0 x4 (bt x0 0) ((bt x0 0) == 97)) else (impl_readParts.j1 k x0 x4 (bt x0 0) ((bt x0 0) == 98))) else (none))
def impl_readParts.j1 : Nat → ByteArray → List (S136) → Int → Bool → Option ((List (S136)) × ByteArray)
 | 0,_,_,_,_ => none
 | k + 1,x0,x4,x11,x12 => if x12 = true then (if 0 ≤ 1 then (if 1 ≤ (x0.size : Int) then (if x4.length < 3518437208883 then (impl_readParts.l0 k (x0.extract 1 x0.size) (x4 ++ [(⟨x0.extract 0 1,([] : List (S136))⟩ : S136)])) else (none)) else (none)) else (none)) else (if x11 = 40 then (if 1 ≤ (x0.size : Int) then ((impl_readParts.f k (x0.extract 1 x0.size)).bind fun bt706 => (if (bt706.1.length : Int) > 0 then ((strings_HasPrefix.f bt706.2 (⟨#[41,35]⟩ : ByteArray)).bind fun t710 => (if t710 = true then (if x4.length < 3518437208883 then (if 2 ≤ (bt706.2.size : Int) then (impl_readParts.l0 k (bt706.2.extract 2 bt706.2.size) (x4 ++ [(⟨(⟨#[]⟩ : ByteArray),bt706.1⟩ : S136)])) else (none)) else (none)) else (some (x4,x0)))) else (some (x4,x0)))) else (none)) else (some (x4,x0)))
def impl_readParts.f : Nat → ByteArray → Option ((List (S136)) × ByteArray)
 | 0,_ => none
 | k + 1,a0 => impl_readParts.l0 k a0 (([] : List (S136)))
end
theorem impl_readParts.mono_l : ∀ k,(∀ y0,LeO (impl_readParts.f k y0) (impl_readParts.f (k + 1) y0)) ∧ (∀ y0 y1,LeO (impl_readParts.l0 k y0 y1) (impl_readParts.l0 (k + 1) y0 y1)) ∧ (∀ y0 y1 y2 y3,LeO (impl_readParts.j1 k y0 y1 y2 y3) (impl_readParts.j1 (k + 1) y0 y1 y2 y3))
 | 0 => ⟨fun _ r h => by simp [impl_readParts.f] at h,fun _ _ r h => by simp [impl_readParts.l0] at h,fun _ _ _ _ r h => by simp [impl_readParts.j1] at h⟩
 | k + 1 => by
  obtain ⟨ih0,ih1,ih2⟩:=impl_readParts.mono_l k
  refine ⟨?_,?_,?_⟩
  ·intro y0
   unfold impl_readParts.f
   repeat' first
   | (with_reducible exact ih0 _)
   | (with_reducible exact ih1 _ _)
   | (with_reducible exact ih2 _ _ _ _)
   | (with_reducible first|exact LeO.refl _|exact LeO.none _|refine LeO.ite ?_ ?_|refine LeO.bind ?_ (fun _ => ?_))
   | exact ih0 _
   | exact ih1 _ _
   | exact ih2 _ _ _ _
   | exact LeO.none _
   | refine LeO.ite ?_ ?_
   | refine LeO.bind ?_ (fun _ => ?_)
  ·intro y0 y1
   unfold impl_readParts.l0
   repeat' first
   | (with_reducible exact ih0 _)
   | (with_reducible exact ih1 _ _)
   | (with_reducible exact ih2 _ _ _ _)
   | (with_reducible first|exact LeO.refl _|exact LeO.none _|refine LeO.ite ?_ ?_|refine LeO.bind ?_ (fun _ => ?_))
   | exact ih0 _
   | exact ih1 _ _
   | exact ih2 _ _ _ _
   | exact LeO.none _
   | refine LeO.ite ?_ ?_
   | refine LeO.bind ?_ (fun _ => ?_)
  ·intro y0 y1 y2 y3
   unfold impl_readParts.j1
   repeat' first
   | (with_reducible exact ih0 _)
   | (with_reducible exact ih1 _ _)
   | (with_reducible exact ih2 _ _ _ _)
   | (with_reducible first|exact LeO.refl _|exact LeO.none _|refine LeO.ite ?_ ?_|refine LeO.bind ?_ (fun _ => ?_))
   | exact ih0 _
   | exact ih1 _ _
   | exact ih2 _ _ _ _
   | exact LeO.none _
   | refine LeO.ite ?_ ?_
   | refine LeO.bind ?_ (fun _ => ?_)
theorem impl_readParts.mono : ∀ a0 k,LeO (impl_readParts.f k a0) (impl_readParts.f (k + 1) a0):=by
 intro a0 k
 obtain ⟨ih0,ih1,ih2⟩:=impl_readParts.mono_l k
 exact ih0 a0
set_option maxHeartbeats 8000000 in
set_option maxRecDepth 100000 in
theorem impl_readParts.calls (k : Nat) : ∀ (a0 : ByteArray) (r1 : List (S136)) (r2 : ByteArray) (w : World) (h : impl_readParts.f k a0 = some (r1,r2)),
  Calls Try.prog 145 #[.string a0] w fun e w' => ∃ v0_ : Value,e = .returned (.tuple #[v0_,.string r2]) ∧ Kd.R k136 136 w' w.heap.size (fun _ => True) v0_ r1 ∧ Below w.heap.size w w':=by
 induction k using Nat.strongRecOn with
 | _ k ih =>
 intro a0 r1 r2 w h
 cases k with
 | zero => exact absurd h (by simp [impl_readParts.f])
 | succ k =>
 simp only [impl_readParts.f] at h
 have hu136:=Try.underlying136
 have HB:=Aside0.mk (Below.refl w.heap.size w)
 have H : (impl_readParts.l0 k a0 (([] : List (S136)))) = some (r1,r2):=h
 clear h
 obtain ⟨y700,hy700⟩ : ∃ y_ : List (S136),y_ = (([] : List (S136))):=⟨_,rfl⟩
 replace H : (impl_readParts.l0 k a0 y700) = some (r1,r2):=by first|(rw [hy700];with_reducible exact H)|(have H2_:=(Option.bind_some _ _).symm.trans H;rw [hy700];with_reducible exact H2_)|(have H2_:=(Option.bind_some _ _).symm.trans H;with_reducible exact H2_)|with_reducible exact H|(rw [hy700];exact H)|exact H
 have Ny700:=Aside0.mk hy700
 clear hy700
 have H':=Aside0.mk H
 clear H
 go_enter Try.func145,Try.ntmps145
 go_wp2_with (first|((with_reducible refine gate_dst (N:=7) rfl ?_);refine Kd.R_lit k136 _ 136 ?hg (N:=7) ?hd (xs:=([] : List (S136))) (inner:=[]) (ok:=fun _ => True) (okp:=fun _ => True) ?hr ?hp (fun _ hk => hk) trivial (Below.refl _ _) (Nat.le_refl _) (by simp) ?_;(case hd => rfl);(case hg => rfl);(case hr => first|(go_simp;done)|(go_simp;rfl));(case hp => exact (Reps.none _ _));intro v701 w2 ho3 hb hg_ hnew_;clear hg_ hnew_;(first|rw [← Ny700.out] at ho3|(simp only [Int.reduceToNat] at ho3;rw [← Ny700.out] at ho3));have HO702:=Aside0.mk (Kd.R_lower ho3 (below_size (be0_ HB.out)));replace HB:=Aside0.mk (below_step (be0_ HB.out) hb);clear hb ho3))
 go_loopg [0,4] k (fun kq v0 v4 w' => ∃ (x0_1 : ByteArray) (x4_1 : List (S136)),v0 = .string x0_1 ∧ Aside0 (impl_readParts.l0 kq x0_1 x4_1 = some (r1,r2)) ∧ Aside0 (kq ≤ k) ∧ Aside0 (Kd.R k136 136 w' w.heap.size (fun _ => True) v4 x4_1) ∧ Aside0 (Below w.heap.size w w'))
 case atStart => exact ⟨(a0),(y700),rs_,H',⟨Nat.le_refl _⟩,⟨pr_ HO702.out⟩,⟨be0_ HB.out⟩⟩
 case round =>
  clear H'
  try clear c1
  try clear p2
  obtain ⟨x0_1,x4_1,rfl,HA,HK1,HO_4,HB⟩:=hrel
  cases gk with
  | zero => exact absurd HA.out (by simp [impl_readParts.l0])
  | succ k1 =>
   have H:=HA.out
   clear HA
   simp only [impl_readParts.l0] at H
   by_cases c4 : x0_1.toList = ([] : List UInt8)
   ·rw [if_pos c4] at H
    have c4b0 : (x0_1.toList == ([] : List UInt8)) = true:=beq_iff_eq.mpr c4
    have c4b1 : (x0_1.toList != ([] : List UInt8)) = false:=bne_eq_false_iff_eq.mpr c4
    clear c4
    simp only [Option.some.injEq,Prod.mk.injEq] at H
    obtain ⟨rfl,rfl⟩:=H
    go_wp2
    go_ret2
    exact ⟨_,er_,pr_ HO_4.out,be0_ HB.out⟩
   ·rw [if_neg c4] at H
    have c4b0 : (x0_1.toList == ([] : List UInt8)) = false:=beq_eq_false_iff_ne.mpr c4
    have c4b1 : (x0_1.toList != ([] : List UInt8)) = true:=bne_iff_ne.mpr c4
    by_cases c5 : 0 < (x0_1.size : Int)
    ·rw [if_pos c5] at H
     have c5b0 : decide (0 < (x0_1.size : Int)) = true:=decide_eq_true c5
     have c5b1 : decide (0 < x0_1.size) = true:=decide_eq_true (by omega)
     clear c5
     have HC7:=Aside0.mk H
     clear H
     have p6 : 0 ≤ (0 : Int):=(by omega)
     have q6 : 0 < x0_1.size:=(by have : (0 : Int) < (x0_1.size : Int):=od_;omega)
     have hx6 : ∀ h : 0 < x0_1.size,((x0_1[0]'h).toNat : Int) = bt x0_1 0:=bt_at x0_1 0
     clear p6
     have qi6 : (0 < (x0_1.size : Int)) = True:=eq_true (od_)
     replace q6:=eq_true q6
     go_upto_if 12 with (fail)
     go_cut [12] (fun v12 wc => ∃ (kq : Nat) (x12_6 : Bool),v12 = .bool x12_6 ∧ Aside0 (impl_readParts.j1 kq x0_1 x4_1 (bt x0_1 0) x12_6 = some (r1,r2)) ∧ Aside0 (kq ≤ k1) ∧ Aside0 (Kd.R k136 136 wc w.heap.size (fun _ => True) u4 x4_1) ∧ Aside0 (Below w.heap.size w wc))
     case first =>
      have H:=HC7.out
      clear HC7
      by_cases c8 : (bt x0_1 0) = 97
      ·rw [if_pos c8] at H
       have c8b0 : ((bt x0_1 0) == 97) = true:=beq_iff_eq.mpr c8
       have c8b1 : ((bt x0_1 0) != 97) = false:=bne_eq_false_iff_eq.mpr c8
       clear c8
       (first|rw [c8b0]|(simp only [i64_w,i32_w];rw [c8b0])|skip)
       have H':=Aside0.mk H
       clear H
       go_wp2
       go_meet
       case rel => exact ⟨_,(((bt x0_1 0) == 97)),rs_,H',⟨by have:=HK1.out;first|omega|exact Nat.le_refl _⟩,⟨pr_ HO_4.out⟩,⟨be0_ HB.out⟩⟩
      ·rw [if_neg c8] at H
       have c8b0 : ((bt x0_1 0) == 97) = false:=beq_eq_false_iff_ne.mpr c8
       have c8b1 : ((bt x0_1 0) != 97) = true:=bne_iff_ne.mpr c8
       (first|rw [c8b0]|(simp only [i64_w,i32_w];rw [c8b0])|skip)
       have H':=Aside0.mk H
       clear H
       go_wp2
       go_meet
       case rel => exact ⟨_,(((bt x0_1 0) == 98)),rs_,H',⟨by have:=HK1.out;first|omega|exact Nat.le_refl _⟩,⟨pr_ HO_4.out⟩,⟨be0_ HB.out⟩⟩
     case rest =>
      clear HC7
      try clear c1
      try clear p2
      try clear c4
      try clear c4b0
      try clear c4b1
      try clear c5
      try clear c5b0
      try clear c5b1
      try clear p6
      try clear q6
      try clear hx6
      try clear qi6
      try clear c8
      try clear c8b0
      try clear c8b1
      try clear p2
      try clear p6
      try clear q6
      obtain ⟨kq,x12_6,rfl,HA,HJ6,HO_4,HB⟩:=hcut
      cases kq with
      | zero => exact absurd HA.out (by simp [impl_readParts.j1])
      | succ kj6 =>
       have H:=HA.out
       clear HA
       simp only [impl_readParts.j1] at H
       by_cases c9 : x12_6 = true
       ·subst c9
        have H1 : (if 0 ≤ 1 then (if 1 ≤ (x0_1.size : Int) then (if x4_1.length < 3518437208883 then (impl_readParts.l0 kj6 (x0_1.extract 1 x0_1.size) (x4_1 ++ [(⟨x0_1.extract 0 1,([] : List (S136))⟩ : S136)])) else (none)) else (none)) else (none)) = some (r1,r2):=by rw [if_pos rfl] at H;exact H
        clear H
        have H:=H1
        clear H1
        by_cases c10 : 0 ≤ 1
        ·rw [if_pos c10] at H
         have c10b0:=eq_true c10
         have c10b1 : decide (0 ≤ 1) = true:=decide_eq_true c10
         clear c10
         by_cases c11 : 1 ≤ (x0_1.size : Int)
         ·rw [if_pos c11] at H
          have c11b0:=eq_true c11
          have c11b1 : decide (1 ≤ (x0_1.size : Int)) = true:=decide_eq_true c11
          clear c11
          by_cases c12 : x4_1.length < 3518437208883
          ·rw [if_pos c12] at H
           have LMc12:=Aside0.mk c12
           clear c12
           obtain ⟨y703,hy703⟩ : ∃ y_ : List (S136),y_ = (x4_1 ++ [(⟨x0_1.extract 0 1,([] : List (S136))⟩ : S136)]):=⟨_,rfl⟩
           replace H : (impl_readParts.l0 kj6 (x0_1.extract 1 x0_1.size) y703) = some (r1,r2):=by first|(rw [hy703];with_reducible exact H)|(have H2_:=(Option.bind_some _ _).symm.trans H;rw [hy703];with_reducible exact H2_)|(have H2_:=(Option.bind_some _ _).symm.trans H;with_reducible exact H2_)|with_reducible exact H|(rw [hy703];exact H)|exact H
           have Ny703:=Aside0.mk hy703
           clear hy703
           have c13b0:=eq_true (od_ : 1 ≤ (x0_1.size : Int))
           have H':=Aside0.mk H
           clear H
           go_wp2_with (first|((with_reducible refine gate_builtin (b:=.append) (xs:=#[.tmp 15,.tmp 19]) rfl ?_);at_builtin;refine Kd.R_append k136 (w0:=w) w.heap.size rfl (.tmp 15) (.tmp 19) 95 136 (.agg #[(.string ⟨#[]⟩),(.slice none 0 0)]) 40 rfl Try.underlying95 info136 rfl (by decide) (by omega) u4 x4_1 (⟨x0_1.extract 0 1,([] : List (S136))⟩ : S136) [.string (x0_1.extract 0 1),.slice none 0 0] (fun _ => True) (fun k_ => ((fun _ => True)) k_ ∧ some k_ ≠ (u4 : Value).ownBlock) rfl rfl ?aP (fun _ hk => hk) ?aF ?aO ?aB ?aS ?aL ?_;(case aP => exact k136_mkM _ _ _ (⟨x0_1.extract 0 1,([] : List (S136))⟩ : S136) (Kd.R_nil _ _ _ _ _));(case aB => exact (be0_ HB.out));(case aF => exact (fun _ _ => trivial));(case aO => exact (pr_ HO_4.out));(case aS => exact (below_size (be0_ HB.out)));(case aL => have:=LMc12.out;omega);intro v704 w14 ho hb hg hat;rw [← Ny703.out] at ho;replace HB:=Aside0.mk (hb);have HO705:=Aside0.mk (ho);clear HO_4;clear ho hb hg hat))
           go_roundg kj6
           case measure => have:=HK1.out;have:=HJ6.out;omega
           case rel => exact ⟨(x0_1.extract 1 x0_1.size),(y703),rs_,H',⟨by have:=HK1.out;have:=HJ6.out;omega⟩,⟨pr_ HO705.out⟩,⟨be0_ HB.out⟩⟩
          ·rw [if_neg c12] at H
           exact absurd H (by simp)
         ·rw [if_neg c11] at H
          exact absurd H (by simp)
        ·rw [if_neg c10] at H
         exact absurd H (by simp)
       ·replace c9:=Bool.eq_false_iff.mpr c9
        subst c9
        have H1 : (if (bt x0_1 0) = 40 then (if 1 ≤ (x0_1.size : Int) then ((impl_readParts.f kj6 (x0_1.extract 1 x0_1.size)).bind fun bt706 => (if (bt706.1.length : Int) > 0 then ((strings_HasPrefix.f bt706.2 (⟨#[41,35]⟩ : ByteArray)).bind fun t710 => (if t710 = true then (if x4_1.length < 3518437208883 then (if 2 ≤ (bt706.2.size : Int) then (impl_readParts.l0 kj6 (bt706.2.extract 2 bt706.2.size) (x4_1 ++ [(⟨(⟨#[]⟩ : ByteArray),bt706.1⟩ : S136)])) else (none)) else (none)) else (some (x4_1,x0_1)))) else (some (x4_1,x0_1)))) else (none)) else (some (x4_1,x0_1))) = some (r1,r2):=by rw [if_neg (show ¬ (false = true) by decide)] at H;exact H
        clear H
        have H:=H1
        clear H1
        by_cases c15 : (bt x0_1 0) = 40
        ·rw [if_pos c15] at H
         have c15b0 : ((bt x0_1 0) == 40) = true:=beq_iff_eq.mpr c15
         have c15b1 : ((bt x0_1 0) != 40) = false:=bne_eq_false_iff_eq.mpr c15
         clear c15
         by_cases c16 : 1 ≤ (x0_1.size : Int)
         ·rw [if_pos c16] at H
          have c16b0:=eq_true c16
          have c16b1 : decide (1 ≤ (x0_1.size : Int)) = true:=decide_eq_true c16
          clear c16
          replace H:=Option.bind_eq_some_iff.mp H
          obtain ⟨⟨t706,t707⟩,A170,H⟩:=H
          replace H : (if (t706.length : Int) > 0 then ((strings_HasPrefix.f t707 (⟨#[41,35]⟩ : ByteArray)).bind fun t710 => (if t710 = true then (if x4_1.length < 3518437208883 then (if 2 ≤ (t707.size : Int) then (impl_readParts.l0 kj6 (t707.extract 2 t707.size) (x4_1 ++ [(⟨(⟨#[]⟩ : ByteArray),t706⟩ : S136)])) else (none)) else (none)) else (some (x4_1,x0_1)))) else (some (x4_1,x0_1))) = some (r1,r2):=H
          have A17:=Aside0.mk A170
          clear A170
          by_cases c18 : (t706.length : Int) > 0
          ·rw [if_pos c18] at H
           have c18b0 : decide (0 < (t706.length : Int)) = true:=decide_eq_true c18
           have c18b1 : decide (0 < t706.length) = true:=decide_eq_true (by omega)
           clear c18
           replace H:=Option.bind_eq_some_iff.mp H
           obtain ⟨t710,A190,H⟩:=H
           replace H : (if t710 = true then (if x4_1.length < 3518437208883 then (if 2 ≤ (t707.size : Int) then (impl_readParts.l0 kj6 (t707.extract 2 t707.size) (x4_1 ++ [(⟨(⟨#[]⟩ : ByteArray),t706⟩ : S136)])) else (none)) else (none)) else (some (x4_1,x0_1))) = some (r1,r2):=H
           have A19:=Aside0.mk A190
           clear A190
           by_cases c20 : t710 = true
           ·subst c20
            have H1 : (if x4_1.length < 3518437208883 then (if 2 ≤ (t707.size : Int) then (impl_readParts.l0 kj6 (t707.extract 2 t707.size) (x4_1 ++ [(⟨(⟨#[]⟩ : ByteArray),t706⟩ : S136)])) else (none)) else (none)) = some (r1,r2):=by rw [if_pos rfl] at H;exact H
            clear H
            have H:=H1
            clear H1
            by_cases c21 : x4_1.length < 3518437208883
            ·rw [if_pos c21] at H
             have LMc21:=Aside0.mk c21
             clear c21
             obtain ⟨y711,hy711⟩ : ∃ y_ : List (S136),y_ = (x4_1 ++ [(⟨(⟨#[]⟩ : ByteArray),t706⟩ : S136)]):=⟨_,rfl⟩
             replace H : (if 2 ≤ (t707.size : Int) then (impl_readParts.l0 kj6 (t707.extract 2 t707.size) y711) else (none)) = some (r1,r2):=by first|(rw [hy711];with_reducible exact H)|(have H2_:=(Option.bind_some _ _).symm.trans H;rw [hy711];with_reducible exact H2_)|(have H2_:=(Option.bind_some _ _).symm.trans H;with_reducible exact H2_)|with_reducible exact H|(rw [hy711];exact H)|exact H
             have Ny711:=Aside0.mk hy711
             clear hy711
             by_cases c22 : 2 ≤ (t707.size : Int)
             ·rw [if_pos c22] at H
              have c22b0:=eq_true c22
              have c22b1 : decide (2 ≤ (t707.size : Int)) = true:=decide_eq_true c22
              clear c22
              have H':=Aside0.mk H
              clear H
              go_wp2_with (first|((with_reducible refine gate_callee (f:=145) rfl ?_);refine goesL_ (some 28) rfl rfl Try.func145 (by kernel_rfl) rfl #[.string (x0_1.extract 1 x0_1.size)] rfl lp_ ?_;(with_reducible refine (ih kj6 (by have:=HK1.out;have:=HJ6.out;omega) (x0_1.extract 1 x0_1.size) t706 t707 _ A17.out).mono ?_);rintro e w23 ⟨v708,rfl,ho0,hb⟩;refine ⟨_,rfl,?_⟩;have HO709:=Aside0.mk (Kd.R_lower (Kd.R_new' ho0 (Kd.R_lt (pr_ HO_4.out))) (below_size (be0_ HB.out)));replace HO_4:=Aside0.mk (Kd.R_elder' (pr_ HO_4.out) (Kd.R_base ho0) hb);replace HB:=Aside0.mk (below_step (be0_ HB.out) hb);(try clear hb);(try clear hb2);(try clear hk);(try clear hi);(try clear ho0);obtain ⟨Ao24,co24,eo24⟩:=Kd.R_slice HO709.out;subst eo24)|(go_at_call 168;(with_reducible refine (strings_HasPrefix.calls t707 (⟨#[41,35]⟩ : ByteArray) true _ A19.out).mono ?_);rintro e w' ⟨rfl,⟨nd,rfl⟩⟩)|((with_reducible refine gate_builtin (b:=.append) (xs:=#[.tmp 38,.tmp 41]) rfl ?_);at_builtin;refine Kd.R_append k136 (w0:=w) w.heap.size rfl (.tmp 38) (.tmp 41) 95 136 (.agg #[(.string ⟨#[]⟩),(.slice none 0 0)]) 40 rfl Try.underlying95 info136 rfl (by decide) (by omega) u4 x4_1 (⟨(⟨#[]⟩ : ByteArray),t706⟩ : S136) [.string (⟨#[]⟩ : ByteArray),.slice Ao24 t706.length co24] (fun _ => True) (fun k_ => ((fun _ => True)) k_ ∧ some k_ ≠ (u4 : Value).ownBlock) rfl rfl ?aP (fun _ hk => hk) ?aF ?aO ?aB ?aS ?aL ?_;(case aP => first|exact k136_mkM _ _ _ (⟨(⟨#[]⟩ : ByteArray),t706⟩ : S136) (Kd.R_mono (HO709.out) (fun k_ hk => ⟨trivial,hk.2⟩))|exact k136_mkM _ _ _ (⟨(⟨#[]⟩ : ByteArray),t706⟩ : S136) (Kd.R_mono (Kd.R_drewN HO709.out _) (fun k_ hk => ⟨trivial,hk.2⟩))|exact k136_mkM _ _ _ (⟨(⟨#[]⟩ : ByteArray),t706⟩ : S136) (Kd.R_mono (Kd.R_drewN (Kd.R_drewN HO709.out _) _) (fun k_ hk => ⟨trivial,hk.2⟩)));(case aB => exact (be0_ HB.out));(case aF => exact (fun _ _ => trivial));(case aO => exact (by refine pr_ ?_;exact Kd.R_mono HO_4.out (fun _ hk => trivial)));(case aS => exact (below_size (be0_ HB.out)));(case aL => have:=LMc21.out;omega);intro v712 w25 ho hb hg hat;rw [← Ny711.out] at ho;replace HB:=Aside0.mk (hb);have HO713:=Aside0.mk (ho);clear HO_4;clear HO709;clear ho hb hg hat))
              go_roundg kj6
              case measure => have:=HK1.out;have:=HJ6.out;omega
              case rel => exact ⟨(t707.extract 2 t707.size),(y711),rs_,H',⟨by have:=HK1.out;have:=HJ6.out;omega⟩,⟨pr_ HO713.out⟩,⟨be0_ HB.out⟩⟩
             ·rw [if_neg c22] at H
              exact absurd H (by simp)
            ·rw [if_neg c21] at H
             exact absurd H (by simp)
           ·replace c20:=Bool.eq_false_iff.mpr c20
            subst c20
            have H1 : (some (x4_1,x0_1)) = some (r1,r2):=by rw [if_neg (show ¬ (false = true) by decide)] at H;exact H
            clear H
            have H:=H1
            clear H1
            simp only [Option.some.injEq,Prod.mk.injEq] at H
            obtain ⟨rfl,rfl⟩:=H
            go_wp2_with (first|((with_reducible refine gate_callee (f:=145) rfl ?_);refine goesL_ (some 28) rfl rfl Try.func145 (by kernel_rfl) rfl #[.string (x0_1.extract 1 x0_1.size)] rfl lp_ ?_;(with_reducible refine (ih kj6 (by have:=HK1.out;have:=HJ6.out;omega) (x0_1.extract 1 x0_1.size) t706 t707 _ A17.out).mono ?_);rintro e w26 ⟨v708,rfl,ho0,hb⟩;refine ⟨_,rfl,?_⟩;have HO709:=Aside0.mk (Kd.R_lower (Kd.R_new' ho0 (Kd.R_lt (pr_ HO_4.out))) (below_size (be0_ HB.out)));replace HO_4:=Aside0.mk (Kd.R_elder' (pr_ HO_4.out) (Kd.R_base ho0) hb);replace HB:=Aside0.mk (below_step (be0_ HB.out) hb);(try clear hb);(try clear hb2);(try clear hk);(try clear hi);(try clear ho0);obtain ⟨Ao27,co27,eo27⟩:=Kd.R_slice HO709.out;subst eo27)|(go_at_call 168;(with_reducible refine (strings_HasPrefix.calls t707 (⟨#[41,35]⟩ : ByteArray) false _ A19.out).mono ?_);rintro e w' ⟨rfl,⟨nd,rfl⟩⟩))
            go_ret2
            exact ⟨_,er_,by refine pr_ ?_;exact Kd.R_mono HO_4.out (fun _ hk => trivial),be0_ HB.out⟩
          ·rw [if_neg c18] at H
           have c18b0 : decide (0 < (t706.length : Int)) = false:=decide_eq_false c18
           have c18b1 : decide (0 < t706.length) = false:=decide_eq_false (by omega)
           clear c18
           simp only [Option.some.injEq,Prod.mk.injEq] at H
           obtain ⟨rfl,rfl⟩:=H
           go_wp2_with (first|((with_reducible refine gate_callee (f:=145) rfl ?_);refine goesL_ (some 28) rfl rfl Try.func145 (by kernel_rfl) rfl #[.string (x0_1.extract 1 x0_1.size)] rfl lp_ ?_;(with_reducible refine (ih kj6 (by have:=HK1.out;have:=HJ6.out;omega) (x0_1.extract 1 x0_1.size) t706 t707 _ A17.out).mono ?_);rintro e w28 ⟨v708,rfl,ho0,hb⟩;refine ⟨_,rfl,?_⟩;have HO709:=Aside0.mk (Kd.R_lower (Kd.R_new' ho0 (Kd.R_lt (pr_ HO_4.out))) (below_size (be0_ HB.out)));replace HO_4:=Aside0.mk (Kd.R_elder' (pr_ HO_4.out) (Kd.R_base ho0) hb);replace HB:=Aside0.mk (below_step (be0_ HB.out) hb);(try clear hb);(try clear hb2);(try clear hk);(try clear hi);(try clear ho0);obtain ⟨Ao29,co29,eo29⟩:=Kd.R_slice HO709.out;subst eo29))
           go_ret2
           exact ⟨_,er_,by refine pr_ ?_;exact Kd.R_mono HO_4.out (fun _ hk => trivial),be0_ HB.out⟩
         ·rw [if_neg c16] at H
          exact absurd H (by simp)
        ·rw [if_neg c15] at H
         have c15b0 : ((bt x0_1 0) == 40) = false:=beq_eq_false_iff_ne.mpr c15
         have c15b1 : ((bt x0_1 0) != 40) = true:=bne_iff_ne.mpr c15
         simp only [Option.some.injEq,Prod.mk.injEq] at H
         obtain ⟨rfl,rfl⟩:=H
         go_wp2
         go_ret2
         exact ⟨_,er_,pr_ HO_4.out,be0_ HB.out⟩
    ·rw [if_neg c5] at H
     exact absurd H (by simp)
def impl_parts.f (k : Nat) (a0 : ByteArray) : Option ((List (S136)) × Bool):=if (a0.size : Int) > 120 then (some (([] : List (S136)),false)) else ((impl_readParts.f k a0).bind fun bt714 => (if (bt714.1.length : Int) > 0 then (some (bt714.1,(bt714.2.toList == ([] : List UInt8)))) else (some (bt714.1,false))))
theorem impl_parts.mono : ∀ a0 k,LeO (impl_parts.f k a0) (impl_parts.f (k + 1) a0):=by
 intro a0 k
 unfold impl_parts.f
 repeat' first
   | (with_reducible exact impl_readParts.mono _ _)
   | (with_reducible first|exact LeO.refl _|exact LeO.none _|refine LeO.ite ?_ ?_|refine LeO.bind ?_ (fun _ => ?_))
   | exact impl_readParts.mono _ _
   | exact LeO.none _
   | refine LeO.ite ?_ ?_
   | refine LeO.bind ?_ (fun _ => ?_)
set_option maxHeartbeats 8000000 in
set_option maxRecDepth 100000 in
theorem impl_parts.calls (k : Nat) (a0 : ByteArray) (r1 : List (S136)) (r2 : Bool) (w : World) (h : impl_parts.f k a0 = some (r1,r2)) :
  Calls Try.prog 88 #[.string a0] w fun e w' => ∃ v0_ : Value,e = .returned (.tuple #[v0_,.bool r2]) ∧ Kd.R k136 136 w' w.heap.size (fun _ => True) v0_ r1 ∧ Below w.heap.size w w':=by
 have HB:=Aside0.mk (Below.refl w.heap.size w)
 have H : (if (a0.size : Int) > 120 then (some (([] : List (S136)),false)) else ((impl_readParts.f k a0).bind fun bt714 => (if (bt714.1.length : Int) > 0 then (some (bt714.1,(bt714.2.toList == ([] : List UInt8)))) else (some (bt714.1,false))))) = some (r1,r2):=h
 clear h
 by_cases c2 : (a0.size : Int) > 120
 ·rw [if_pos c2] at H
  have c2b0 : decide (120 < (a0.size : Int)) = true:=decide_eq_true c2
  have c2b1 : decide (120 < a0.size) = true:=decide_eq_true (by omega)
  clear c2
  simp only [Option.some.injEq,Prod.mk.injEq] at H
  obtain ⟨rfl,rfl⟩:=H
  go_enter Try.func88,Try.ntmps88
  go_wp2
  go_ret2
  exact ⟨_,er_,by first|exact Kd.R_nil _ _ _ _ _|exact Kd.N_nil _ _ _ _ _|exact Kd.V_nil _ _ _ _ _|exact Kd.Q_nil _ _ _ _ _|exact Kd.S_nil _ _ _ _ _,be0_ HB.out⟩
 ·rw [if_neg c2] at H
  have c2b0 : decide (120 < (a0.size : Int)) = false:=decide_eq_false c2
  have c2b1 : decide (120 < a0.size) = false:=decide_eq_false (by omega)
  clear c2
  replace H:=Option.bind_eq_some_iff.mp H
  obtain ⟨⟨t714,t715⟩,A30,H⟩:=H
  replace H : (if (t714.length : Int) > 0 then (some (t714,(t715.toList == ([] : List UInt8)))) else (some (t714,false))) = some (r1,r2):=H
  have A3:=Aside0.mk A30
  clear A30
  by_cases c4 : (t714.length : Int) > 0
  ·rw [if_pos c4] at H
   have c4b0 : decide (0 < (t714.length : Int)) = true:=decide_eq_true c4
   have c4b1 : decide (0 < t714.length) = true:=decide_eq_true (by omega)
   clear c4
   simp only [Option.some.injEq,Prod.mk.injEq] at H
   obtain ⟨rfl,rfl⟩:=H
   go_enter Try.func88,Try.ntmps88
   go_wp2_with (first|((with_reducible refine gate_callee (f:=145) rfl ?_);refine goesL_ (some 11) rfl rfl Try.func145 (by kernel_rfl) rfl #[.string a0] rfl lp_ ?_;(with_reducible refine (impl_readParts.calls k a0 t714 t715 _ A3.out).mono ?_);rintro e w5 ⟨v716,rfl,ho0,hb⟩;refine ⟨_,rfl,?_⟩;have HO717:=Aside0.mk (Kd.R_lower ho0 (below_size (be0_ HB.out)));replace HB:=Aside0.mk (below_step (be0_ HB.out) hb);(try clear hb);(try clear hb2);(try clear hk);(try clear hi);(try clear ho0);obtain ⟨Ao6,co6,eo6⟩:=Kd.R_slice HO717.out;subst eo6))
   go_ret2
   exact ⟨_,er_,pr_ HO717.out,be0_ HB.out⟩
  ·rw [if_neg c4] at H
   have c4b0 : decide (0 < (t714.length : Int)) = false:=decide_eq_false c4
   have c4b1 : decide (0 < t714.length) = false:=decide_eq_false (by omega)
   clear c4
   simp only [Option.some.injEq,Prod.mk.injEq] at H
   obtain ⟨rfl,rfl⟩:=H
   go_enter Try.func88,Try.ntmps88
   go_wp2_with (first|((with_reducible refine gate_callee (f:=145) rfl ?_);refine goesL_ (some 11) rfl rfl Try.func145 (by kernel_rfl) rfl #[.string a0] rfl lp_ ?_;(with_reducible refine (impl_readParts.calls k a0 t714 t715 _ A3.out).mono ?_);rintro e w7 ⟨v716,rfl,ho0,hb⟩;refine ⟨_,rfl,?_⟩;have HO717:=Aside0.mk (Kd.R_lower ho0 (below_size (be0_ HB.out)));replace HB:=Aside0.mk (below_step (be0_ HB.out) hb);(try clear hb);(try clear hb2);(try clear hk);(try clear hi);(try clear ho0);obtain ⟨Ao8,co8,eo8⟩:=Kd.R_slice HO717.out;subst eo8))
   go_ret2
   exact ⟨_,er_,pr_ HO717.out,be0_ HB.out⟩
mutual
def impl_filled.l0 (p1 : Int → Int → Option (Int)) : Nat → Int → Int → Int → Int → List Int → Option (Int × List Int)
 | 0,_,_,_,_,_ => none
 | k + 1,x0,x10,x11,x355000,x355001 => if x11 < x10 then (impl_filled.l1 p1 k x0 x11 x10 x11 x0 0 x355000 x355001) else (some (x355000,x355001))
def impl_filled.l1 (p1 : Int → Int → Option (Int)) : Nat → Int → Int → Int → Int → Int → Int → Int → List Int → Option (Int × List Int)
 | 0,_,_,_,_,_,_,_,_ => none
 | k + 1,x0,x6,x10,x11,x14,x15,x355000,x355001 => if x15 < x14 then ((p1 x6 x15).bind fun t355 => (if x355001.length < 17592186044416 then (impl_filled.l1 p1 k x0 x6 x10 x11 x14 (wrap64 (x15 + 1)) x355000 (x355001 ++ [t355])) else (none))) else (impl_filled.l0 p1 k x0 x10 (wrap64 (x11 + 1)) x355000 x355001)
end
def impl_filled.f (p1 : Int → Int → Option (Int)) (k : Nat) (a0 : Int)  : Option (Int × List Int):=impl_filled.l0 p1 k a0 a0 0 a0 ([] : List Int)
theorem impl_filled.mono_l (p1 : Int → Int → Option (Int)) : ∀ k,(∀ y0 y1 y2 y3 y4,LeO (impl_filled.l0 p1 k y0 y1 y2 y3 y4) (impl_filled.l0 p1 (k + 1) y0 y1 y2 y3 y4)) ∧ (∀ y0 y1 y2 y3 y4 y5 y6 y7,LeO (impl_filled.l1 p1 k y0 y1 y2 y3 y4 y5 y6 y7) (impl_filled.l1 p1 (k + 1) y0 y1 y2 y3 y4 y5 y6 y7))
 | 0 => ⟨fun _ _ _ _ _ r h => by simp [impl_filled.l0] at h,fun _ _ _ _ _ _ _ _ r h => by simp [impl_filled.l1] at h⟩
 | k + 1 => by
  obtain ⟨ih0,ih1⟩:=impl_filled.mono_l p1 k
  refine ⟨?_,?_⟩
  ·intro y0 y1 y2 y3 y4
   unfold impl_filled.l0
   repeat' first
   | (with_reducible exact ih0 _ _ _ _ _)
   | (with_reducible exact ih1 _ _ _ _ _ _ _ _)
   | (with_reducible first|exact LeO.refl _|exact LeO.none _|refine LeO.ite ?_ ?_|refine LeO.bind ?_ (fun _ => ?_))
   | exact ih0 _ _ _ _ _
   | exact ih1 _ _ _ _ _ _ _ _
   | exact LeO.none _
   | refine LeO.ite ?_ ?_
   | refine LeO.bind ?_ (fun _ => ?_)
  ·intro y0 y1 y2 y3 y4 y5 y6 y7
   unfold impl_filled.l1
   repeat' first
   | (with_reducible exact ih0 _ _ _ _ _)
   | (with_reducible exact ih1 _ _ _ _ _ _ _ _)
   | (with_reducible first|exact LeO.refl _|exact LeO.none _|refine LeO.ite ?_ ?_|refine LeO.bind ?_ (fun _ => ?_))
   | exact ih0 _ _ _ _ _
   | exact ih1 _ _ _ _ _ _ _ _
   | exact LeO.none _
   | refine LeO.ite ?_ ?_
   | refine LeO.bind ?_ (fun _ => ?_)
theorem impl_filled.mono (p1 : Int → Int → Option (Int)) : ∀ a0 k,LeO (impl_filled.f p1 k a0) (impl_filled.f p1 (k + 1) a0):=by
 intro a0 k
 obtain ⟨ih0,ih1⟩:=impl_filled.mono_l p1 k
 unfold impl_filled.f
 repeat' first
   | (with_reducible exact ih0 _ _ _ _ _)
   | (with_reducible exact ih1 _ _ _ _ _ _ _ _)
   | (with_reducible first|exact LeO.refl _|exact LeO.none _|refine LeO.ite ?_ ?_|refine LeO.bind ?_ (fun _ => ?_))
   | exact ih0 _ _ _ _ _
   | exact ih1 _ _ _ _ _ _ _ _
   | exact LeO.none _
   | refine LeO.ite ?_ ?_
   | refine LeO.bind ?_ (fun _ => ?_)
def impl_filled.T8 : Bool × List (List Nat × List Nat):=(true,[([],[]),([0],[0]),([],[]),([],[]),([],[]),([2,3,4],[2,3,4]),([5],[5]),([1,6,5],[1,6]),([0,1,2,3,4,5,6,7],[]),([8,7,7,0,1,2,3,4,5,6,7],[7,8])])
def impl_filled.B8 : List Nat:=[0,1,0,0,0,28,60,127,255,511]
theorem impl_filled.tab8 : rtab .any (opsOf Try.f112 8) = impl_filled.T8:=by kernel_rfl
theorem impl_filled.bits8 : waitsOk impl_filled.T8.2 impl_filled.B8 = true:=by kernel_rfl
set_option maxHeartbeats 8000000 in
set_option maxRecDepth 100000 in
theorem impl_filled.calls (k : Nat) (a0 : Int) (q1 : FuncId) (F1 C1 : Array Value) (p1 : Int → Int → Option (Int)) (r1 : Int) (r2 : List Int) (w : World) (hq1 : FnAt Try.prog q1) (hp1 : ∀ (ay0 : Int) (ay1 : Int) (z0 : Int) (W_ : World),Below w.heap.size w W_ → p1 ay0 ay1 = some z0 → Calls Try.prog q1 (F1 ++ #[.int .i64 ay0,.int .i64 ay1] ++ C1) W_ fun e w' => e = .returned (.int .i64 z0) ∧ Below W_.heap.size W_ w') (h : impl_filled.f p1 k a0 = some (r1,r2)) :
  Calls Try.prog 112 #[.int .i64 a0,.func (.func q1) F1 C1] w fun e w' => ∃ v1_ : Value,e = .returned (.agg #[.int .i64 r1,v1_]) ∧ Kd.R (Kd.int .i64) 3 w' w.heap.size (fun _ => True) v1_ r2 ∧ Below w.heap.size w w':=by
 have hu35:=Try.underlying35
 have HQ1:=Aside0.mk hq1
 have HP1:=Aside0.mk hp1
 clear hq1 hp1
 have HB:=Aside0.mk (Below.refl w.heap.size w)
 have H : (impl_filled.l0 p1 k a0 a0 0 a0 ([] : List Int)) = some (r1,r2):=h
 clear h
 have H':=Aside0.mk H
 clear H
 go_enter Try.func112,Try.ntmps112
 go_wp2_with (first|((with_reducible refine bev_ (N:=4) rfl rfl (cs:=#[.int .i64 0,.slice none 0 0]) (t:=35) ?hr ?_);(case hr => first|(go_simp;done)|(go_simp;rfl));intro gb353 hg w3 hbox hb;have BK353:=Aside0.mk (hbox);have GW353:=Aside0.mk (szg_ hg (below_size (be0_ HB.out)));have GE353:=GW353;replace HB:=Aside0.mk (below_step (be0_ HB.out) hb);clear hb hbox hg)|((with_reducible refine bev_ (N:=5) rfl rfl (cs:=#[.int .i64 0,.slice none 0 0]) (t:=35) ?hr ?_);(case hr => first|(go_simp;done)|(go_simp;rfl));intro gb354 hg w4 hbox hb;have BK354:=Aside0.mk (hbox);have GW354:=Aside0.mk (szg_ hg (below_size (be1_ HB.out GE353.out)));have GE354:=GW354;replace HB:=Aside0.mk (below_step (be1_ HB.out GE353.out) hb);have NB353_354:=nm_ hg BK353;have NB354_353:=nn_ hg BK353;replace BK353:=kc_ BK353 hb;clear hb hbox hg;have hnb5:=NB354_353.out;have hnc5:=NB353_354.out;obtain ⟨hcz6_0,hcz6_1,hfz6_0,hfz6_1⟩:=cf2_ BK354.out))
 go_loopg [11] k (fun kq v11 w' => ∃ (x11_1 : Int) (x355001_1 : List Int) (u355001 : Value),v11 = .int .i64 x11_1 ∧ Aside0 (impl_filled.l0 p1 kq a0 a0 x11_1 a0 x355001_1 = some (r1,r2)) ∧ Aside0 (kq ≤ k) ∧ Aside0 (Kd.R (Kd.int .i64) 3 w' w.heap.size (fun _ => True) u355001 x355001_1) ∧ Aside0 (w'.heap[gb353]? = some (.cells #[.int .i64 0,(.slice none 0 0)] 35 (0,0))) ∧ Aside0 (w'.heap[gb354]? = some (.cells #[.int .i64 a0,u355001] 35 (0,0))) ∧ Aside0 (Below w.heap.size w w'))
 case atStart => exact ⟨(0),(([] : List Int)),(.slice none 0 0),rs_,H',⟨Nat.le_refl _⟩,⟨by first|exact Kd.R_nil _ _ _ _ _|exact Kd.N_nil _ _ _ _ _|exact Kd.V_nil _ _ _ _ _|exact Kd.Q_nil _ _ _ _ _|exact Kd.S_nil _ _ _ _ _⟩,⟨bf1_ BK353.out NB353_354.out⟩,⟨by refine pe_ ?_;refine blk_put (cs:=#[.int .i64 a0,.slice none 0 0]) ?_ 1 _ rfl;refine pe_ ?_;refine blk_put (cs:=#[.int .i64 0,.slice none 0 0]) ?_ 0 _ rfl;refine pe_ ?_;exact BK354.out⟩,⟨be2_ HB.out GE353.out GE354.out⟩⟩
 case round =>
  clear H'
  try clear c1
  try clear p1
  try clear q1
  try clear p2
  try clear c5
  obtain ⟨x11_1,x355001_1,u355001,rfl,HA,HK1,HO_355001,BK353,BK354,HB⟩:=hrel
  cases gk with
  | zero => exact absurd HA.out (by simp [impl_filled.l0])
  | succ k1 =>
   have H:=HA.out
   clear HA
   simp only [impl_filled.l0] at H
   by_cases c7 : x11_1 < a0
   ·rw [if_pos c7] at H
    have c7b0 : decide (x11_1 < a0) = true:=decide_eq_true c7
    clear c7
    have H':=Aside0.mk H
    clear H
    go_wp2
    go_loopg [15] k1 (fun kq v15 w' => ∃ (x15_2 : Int) (x355001_2 : List Int) (u355001 : Value),v15 = .int .i64 x15_2 ∧ Aside0 (impl_filled.l1 p1 kq a0 x11_1 a0 x11_1 a0 x15_2 a0 x355001_2 = some (r1,r2)) ∧ Aside0 (kq ≤ k1) ∧ Aside0 (Kd.R (Kd.int .i64) 3 w' w.heap.size (fun _ => True) u355001 x355001_2) ∧ Aside0 (w'.heap[gb353]? = some (.cells #[.int .i64 0,(.slice none 0 0)] 35 (0,0))) ∧ Aside0 (w'.heap[gb354]? = some (.cells #[.int .i64 a0,u355001] 35 (0,0))) ∧ Aside0 (Below w.heap.size w w'))
    case atStart => exact ⟨(0),(x355001_1),(u355001),rs_,H',⟨Nat.le_refl _⟩,⟨pr_ HO_355001.out⟩,⟨pe_ BK353.out⟩,⟨pe_ BK354.out⟩,⟨be2_ HB.out GE353.out GE354.out⟩⟩
    case round =>
     clear H'
     try clear c1
     try clear p1
     try clear q1
     try clear p2
     try clear c5
     try clear c7
     try clear c7b0
     try clear p1
     try clear p2
     try clear q1
     obtain ⟨x15_2,x355001_2,u355001,rfl,HA,HK2,HO_355001,BK353,BK354,HB⟩:=hrel
     cases gk with
     | zero => exact absurd HA.out (by simp [impl_filled.l1])
     | succ k2 =>
      have H:=HA.out
      clear HA
      simp only [impl_filled.l1] at H
      by_cases c8 : x15_2 < a0
      ·rw [if_pos c8] at H
       have c8b0 : decide (x15_2 < a0) = true:=decide_eq_true c8
       clear c8
       replace H:=Option.bind_eq_some_iff.mp H
       obtain ⟨t355,A90,H⟩:=H
       replace H : (if x355001_2.length < 17592186044416 then (impl_filled.l1 p1 k2 a0 x11_1 a0 x11_1 a0 (wrap64 (x15_2 + 1)) a0 (x355001_2 ++ [t355])) else (none)) = some (r1,r2):=H
       have A9:=Aside0.mk A90
       clear A90
       by_cases c10 : x355001_2.length < 17592186044416
       ·rw [if_pos c10] at H
        have LMc10:=Aside0.mk c10
        clear c10
        obtain ⟨y356,hy356⟩ : ∃ y_ : List Int,y_ = (x355001_2 ++ [t355]):=⟨_,rfl⟩
        replace H : (impl_filled.l1 p1 k2 a0 x11_1 a0 x11_1 a0 (wrap64 (x15_2 + 1)) a0 y356) = some (r1,r2):=by first|(rw [hy356];with_reducible exact H)|(have H2_:=(Option.bind_some _ _).symm.trans H;rw [hy356];with_reducible exact H2_)|(have H2_:=(Option.bind_some _ _).symm.trans H;with_reducible exact H2_)|with_reducible exact H|(rw [hy356];exact H)|exact H
        have Ny356:=Aside0.mk hy356
        clear hy356
        have H':=Aside0.mk H
        clear H
        try go_wp2
        replace HO_355001:=Aside0.mk (Kd.R_drew HO_355001.out)
        replace BK353:=Aside0.mk (blk_drew BK353.out)
        replace BK354:=Aside0.mk (blk_drew BK354.out)
        replace HB:=Aside0.mk (below_drew1 HB.out)
        refine start_ (n:=10) (S:=fun w' => w'.cell? ⟨gb354,0,none⟩ = some (.int .i64 a0) ∧ w'.cell? ⟨gb354,1,none⟩ = some (u355001)) (ds:=[9]) #[false,false,false,false,false,false,false,false,false,false] (by kernel_rfl) rfl rfl ⟨bc_ BK354 0,bc_ BK354 1⟩ (fun hHeld => ?_);refine with_tabW impl_filled.tab8 impl_filled.bits8 (fun HT_ HW_ => ?_)
        generalize wr.drew = w11 at HO_355001 BK353 BK354 HB hHeld ⊢
        refine pure_ (i:=0) (N:=some 18) (v:=?_) (a':=?_) #[true,false,false,false,false,false,false,false,false,false] rfl rfl (any_of HT_.out (by kernel_rfl)) (fun _ _ _ h => h) (Or.inl ⟨by rfl,?_⟩) ?_ ?_
        rotate_left
        ·intro w'
         go_simp
         with_reducible rfl
        rotate_left
        ·simp only [Act.put,List.setIfInBounds_toArray,List.set_cons_zero,List.set_cons_succ,i64_w,i32_w]
         rfl
        refine pure_ (i:=2) (N:=some 20) (v:=?_) (a':=?_) #[true,false,true,false,false,false,false,false,false,false] rfl rfl (any_of HT_.out (by kernel_rfl)) (fun _ _ _ h => h) (Or.inl ⟨by rfl,?_⟩) ?_ ?_
        rotate_left
        ·intro w'
         go_simp
         with_reducible rfl
        rotate_left
        ·simp only [Act.put,List.setIfInBounds_toArray,List.set_cons_zero,List.set_cons_succ,i64_w,i32_w]
         rfl
        refine pure_ (i:=3) (N:=some 21) (v:=?_) (a':=?_) #[true,false,true,true,false,false,false,false,false,false] rfl rfl (any_of HT_.out (by kernel_rfl)) (fun _ _ _ h => h) (Or.inl ⟨by rfl,?_⟩) ?_ ?_
        rotate_left
        ·intro w'
         go_simp
         with_reducible rfl
        rotate_left
        ·simp only [Act.put,List.setIfInBounds_toArray,List.set_cons_zero,List.set_cons_succ,i64_w,i32_w]
         rfl
        refine pure_ (i:=4) (N:=some 22) (v:=?_) (a':=?_) #[true,false,true,true,true,false,false,false,false,false] rfl rfl (any_of HT_.out (by kernel_rfl)) (fun _ _ _ h => h) (Or.inl ⟨by rfl,?_⟩) ?_ ?_
        rotate_left
        ·intro w'
         go_simp
         with_reducible rfl
        rotate_left
        ·simp only [Act.put,List.setIfInBounds_toArray,List.set_cons_zero,List.set_cons_succ,i64_w,i32_w]
         rfl
        refine take_ (i:=1) (N:=some 19) (v:=?_) (a':=?_) #[true,true,true,true,true,false,false,false,false,false] rfl rfl (take_ofW HT_.out HW_.out (by kernel_rfl)) (fun _ _ _ h => h) (Or.inl ⟨by rfl,?_⟩) hHeld ?_ ?_
        rotate_left
        ·rintro w' ⟨s0,s1⟩
         go_simp
         with_reducible rfl
        rotate_left
        ·simp only [Act.put,List.setIfInBounds_toArray,List.set_cons_zero,List.set_cons_succ,i64_w,i32_w]
         rfl
        refine one_ (i:=5) (N:=some 23) #[true,true,true,true,true,true,false,false,false,false] rfl rfl (one_of HT_.out (by kernel_rfl)) (by decide) (fun K hK => ?_)
        refine goesD_ HQ1.out #[.int .i64 x11_1,.int .i64 x15_2] (by rfl) rfl rfl rfl lp_ ?_
        with_reducible refine (HP1.out x11_1 x15_2 t355 _ ?side1 A9.out).mono ?_
        (case side1 => repeat (first|(with_reducible first|exact HB.out|apply below_alloc|apply pw_below_drewN|apply below_drew1|refine below_set ?_ GE353.out|refine below_set ?_ GE354.out)|exact HB.out))
        rintro e w12 ⟨rfl,hb⟩
        refine ⟨_,rfl,?_⟩
        replace HO_355001:=Aside0.mk (Kd.R_below (pr_ HO_355001.out) hb)
        replace BK353:=kc_ BK353 hb
        replace BK354:=kc_ BK354 hb
        replace HB:=Aside0.mk (below_step (be2_ HB.out GE353.out GE354.out) hb)
        (try clear hb)
        (try clear hb2)
        (try clear hk)
        (try clear hi)
        refine hK.out _ _ ⟨bc_ BK354 0,bc_ BK354 1⟩ (fun hHeld => ?_)
        clear hK K
        refine norm_ (a':=?_) ?_ ?_
        rotate_left
        ·show Act.put _ (some 23) _ = _
         simp only [Act.put,List.setIfInBounds_toArray,List.set_cons_zero,List.set_cons_succ,i64_w,i32_w]
         rfl
        refine one_ (i:=6) (N:=some 24) #[true,true,true,true,true,true,true,false,false,false] rfl rfl (one_of HT_.out (by kernel_rfl)) (by decide) (fun K hK => ?_)
        refine value_ (w1:=?_) (v:=?_) (by rfl) rfl ?_ ?_
        rotate_left 2
        ·go_simp
         constructor
         ·rfl
         ·rfl
        refine hK.out _ _ ⟨(blk_cell (blk_alloc BK354.out _) 0).trans rfl,(blk_cell (blk_alloc BK354.out _) 1).trans rfl⟩ (fun hHeld => ?_)
        clear hK K
        refine norm_ (a':=?_) ?_ ?_
        rotate_left
        ·show Act.put _ (some 24) _ = _
         simp only [Act.put,List.setIfInBounds_toArray,List.set_cons_zero,List.set_cons_succ,i64_w,i32_w]
         rfl
        refine one_ (i:=7) (N:=some 25) #[true,true,true,true,true,true,true,true,false,false] rfl rfl (one_of HT_.out (by kernel_rfl)) (by decide) (fun K hK => ?_)
        refine Kd.R_append_step (Kd.int .i64) (w0:=w) w.heap.size (by rfl) (.tmp 19) (.tmp 24) 22 3 (.int .i64 0) 8 rfl Try.underlying22 info3 rfl (by decide) (by omega) u355001 x355001_2 t355 [.int .i64 t355] (fun _ => True) (fun _ => False) rfl rfl ?aP (fun _ hk => hk.elim) ?aF ?aO ?aB ?aS ?aL ?_
        (case aP => exact rfl)
        (case aB => exact (be2_ HB.out GE353.out GE354.out))
        (case aF => exact (fun _ _ => trivial))
        (case aO => exact (pr_ HO_355001.out))
        (case aS => exact (below_size (be2_ HB.out GE353.out GE354.out)))
        (case aL => have:=LMc10.out;omega)
        intro v357 w13 ho hb hg hat
        rw [← Ny356.out] at ho
        replace BK353:=Aside0.mk (blk_grown (g:=gb353) (o:=.cells #[.int .i64 0,.slice none 0 0] 35 (0,0)) (pe_ BK353.out) hg (Kd.R_ne HO_355001.out BK353.out (by decide)))
        replace BK354:=Aside0.mk (blk_grown (g:=gb354) (o:=.cells #[.int .i64 a0,u355001] 35 (0,0)) (pe_ BK354.out) hg (Kd.R_ne HO_355001.out BK354.out (by decide)))
        replace HB:=Aside0.mk (hb)
        have HO358:=Aside0.mk (ho)
        clear HO_355001
        clear ho hb hg hat
        obtain ⟨Ao14,co14,eo14⟩:=Kd.R_slice HO358.out
        (first|subst eo14|(injection eo14 with f1_ f2_ f3_;have f4_:=f1_.symm;have f5_:=f3_.symm;clear f1_ f2_ f3_;subst f4_;subst f5_))
        refine hK.out _ _ ⟨bc_ BK354 0,bc_ BK354 1⟩ (fun hHeld => ?_)
        clear hK K
        refine norm_ (a':=?_) ?_ ?_
        rotate_left
        ·show Act.put _ (some 25) _ = _
         simp only [Act.put,List.setIfInBounds_toArray,List.set_cons_zero,List.set_cons_succ,i64_w,i32_w]
         rfl
        refine pure_ (i:=8) (N:=some 26) (v:=?_) (a':=?_) #[true,true,true,true,true,true,true,true,true,false] rfl rfl (any_of HT_.out (by kernel_rfl)) (fun _ _ _ h => h) (Or.inl ⟨by rfl,?_⟩) ?_ ?_
        rotate_left
        ·intro w'
         go_simp
         with_reducible rfl
        rotate_left
        ·simp only [Act.put,List.setIfInBounds_toArray,List.set_cons_zero,List.set_cons_succ,i64_w,i32_w]
         rfl
        refine last_ (i:=9) (N:=none) #[true,true,true,true,true,true,true,true,true,true] rfl rfl (one_of HT_.out (by kernel_rfl)) (by decide) (fun K hK => ?_)
        have hs15 : w13.cell? ⟨gb354,1,none⟩ = some (u355001):=bc_ BK354 1
        have hfs15:=blk_frozen BK354.out 1
        have hns15_0:=NB353_354.out
        have hms15_0:=NB354_353.out
        refine skip_ (w1:=?_) (by rfl) rfl ?_ ?_
        rotate_left
        ·go_simp
         rfl
        refine hK.out _ _ ?_
        clear hK K
        refine done_ (done_of HT_.out (by kernel_rfl)) ?_
        try go_wp2
        go_roundg k2
        case measure => have:=HK1.out;have:=HK2.out;omega
        case rel => exact ⟨(wrap64 (x15_2 + 1)),(y356),(.slice Ao14 y356.length co14),rs_,H',⟨by have:=HK1.out;have:=HK2.out;omega⟩,⟨by refine pr_ ?_;exact Kd.R_mono (Kd.R_far (p:=⟨gb354,1,none⟩) (Kd.R_types HO358.out BK354.out (by decide)) (fun _ hk => hk.2) (.slice Ao14 y356.length co14)) (fun _ hk => trivial)⟩,⟨bf1_ BK353.out NB353_354.out⟩,⟨by refine pe_ ?_;refine blk_put (cs:=#[.int .i64 a0,u355001]) ?_ 1 _ rfl;refine pe_ ?_;exact BK354.out⟩,⟨be2_ HB.out GE353.out GE354.out⟩⟩
       ·rw [if_neg c10] at H
        exact absurd H (by simp)
      ·rw [if_neg c8] at H
       have c8b0 : decide (x15_2 < a0) = false:=decide_eq_false c8
       clear c8
       have H':=Aside0.mk H
       clear H
       go_wp2
       go_roundg k2
       case measure => have:=HK1.out;have:=HK2.out;omega
       case rel => exact ⟨(wrap64 (x11_1 + 1)),(x355001_2),(u355001),rs_,H',⟨by have:=HK1.out;have:=HK2.out;omega⟩,⟨pr_ HO_355001.out⟩,⟨pe_ BK353.out⟩,⟨pe_ BK354.out⟩,⟨be2_ HB.out GE353.out GE354.out⟩⟩
   ·rw [if_neg c7] at H
    have c7b0 : decide (x11_1 < a0) = false:=decide_eq_false c7
    clear c7
    simp only [Option.some.injEq,Prod.mk.injEq] at H
    obtain ⟨rfl,rfl⟩:=H
    have hnb16:=NB354_353.out
    have hnc16:=NB353_354.out
    obtain ⟨hcz17_0,hcz17_1,hfz17_0,hfz17_1⟩:=cf2_ BK354.out
    obtain ⟨hcz18_0,hcz18_1,hfz18_0,hfz18_1⟩:=cf2_ BK353.out
    obtain ⟨Ao19,co19,eo19⟩:=Kd.R_slice HO_355001.out
    subst eo19
    go_wp2
    refine bodyPost_ret (results_cell_row rfl _ _ gb353 35 #[.int .i64 a0,.slice Ao19 x355001_1.length co19] (0,0) _ rfl (by refine pe_ ?_;refine blk_put (cs:=#[.int .i64 a0,.slice none 0 0]) ?_ 1 _ rfl;refine pe_ ?_;refine blk_put (cs:=#[.int .i64 0,.slice none 0 0]) ?_ 0 _ rfl;refine pe_ ?_;exact BK353.out) Try.underlying35 rfl (by kernel_rfl)) rfl ?_
    exact ⟨_,er_,by refine pr_ ?_;exact Kd.R_mono (Kd.R_far (p:=⟨gb353,1,none⟩) (Kd.R_far (p:=⟨gb353,0,none⟩) (Kd.R_types HO_355001.out BK353.out (by decide)) (fun _ hk => hk.2) (.int .i64 a0)) (fun _ hk => hk.2) (.slice Ao19 x355001_1.length co19)) (fun _ hk => trivial),be2_ HB.out GE353.out GE354.out⟩
theorem impl_filled.monoP_l {p p' : Int → Int → Option (Int)} (hp : ∀ y0 y1,LeO (p y0 y1) (p' y0 y1)) : ∀ k,(∀ y0 y1 y2 y3 y4,LeO (impl_filled.l0 p k y0 y1 y2 y3 y4) (impl_filled.l0 p' k y0 y1 y2 y3 y4)) ∧ (∀ y0 y1 y2 y3 y4 y5 y6 y7,LeO (impl_filled.l1 p k y0 y1 y2 y3 y4 y5 y6 y7) (impl_filled.l1 p' k y0 y1 y2 y3 y4 y5 y6 y7))
 | 0 => by
  refine ⟨?_,?_⟩
  all_goals (intros;intro r h;first|(simp [impl_filled.l0,impl_filled.l1] at h;done)|(unfold impl_filled.l0 at h;simp at h;done))
 | k + 1 => by
  have ih:=impl_filled.monoP_l hp k
  obtain ⟨ih0,ih1⟩:=ih
  refine ⟨?_,?_⟩
  ·intro y0 y1 y2 y3 y4
   unfold impl_filled.l0
   repeat'
    first
    | (with_reducible exact ih0 _ _ _ _ _)
    | (with_reducible exact ih1 _ _ _ _ _ _ _ _)
    | (with_reducible exact hp _ _)
    | (with_reducible first|exact LeO.refl _|exact LeO.none _|refine LeO.ite ?_ ?_|refine LeO.bind ?_ (fun _ => ?_))
    | exact hp _ _
    | exact LeO.refl _
  ·intro y0 y1 y2 y3 y4 y5 y6 y7
   unfold impl_filled.l1
   repeat'
    first
    | (with_reducible exact ih0 _ _ _ _ _)
    | (with_reducible exact ih1 _ _ _ _ _ _ _ _)
    | (with_reducible exact hp _ _)
    | (with_reducible first|exact LeO.refl _|exact LeO.none _|refine LeO.ite ?_ ?_|refine LeO.bind ?_ (fun _ => ?_))
    | exact hp _ _
    | exact LeO.refl _
theorem impl_filled.monoP {p p' : Int → Int → Option (Int)} (hp : ∀ y0 y1,LeO (p y0 y1) (p' y0 y1)) : ∀ a0 k,LeO (impl_filled.f p k a0) (impl_filled.f p' (k + 1) a0):=by
 intro a0 k
 refine LeO.trans ?_ (impl_filled.mono p' a0 k)
 have ih:=impl_filled.monoP_l hp k
 obtain ⟨ih0,ih1⟩:=ih
 unfold impl_filled.f
 repeat'
  first
  | (with_reducible exact ih0 _ _ _ _ _)
  | (with_reducible exact ih1 _ _ _ _ _ _ _ _)
  | (with_reducible exact hp _ _)
  | (with_reducible first|exact LeO.refl _|exact LeO.none _|refine LeO.ite ?_ ?_|refine LeO.bind ?_ (fun _ => ?_))
  | exact hp _ _
  | exact LeO.refl _
def impl_GradesOf_1.f (a0 : Int) (a1 : Int) (a2_0 : Int) (l2_1 : List Int) : Option (Int):=(impl_Matrix_at.f a2_0 l2_1 a0 a1).bind fun t754 => (if t754 = 0 then (some 0) else (if t754 = 1000000 then (some 3) else (some 1)))
set_option maxHeartbeats 8000000 in
set_option maxRecDepth 100000 in
theorem impl_GradesOf_1.calls (a0 : Int) (a1 : Int) (g2 : Nat) (a2_0 : Int) (A2_1 : Option Addr) (c2_1 : Nat) (l2_1 : List Int) (r : Int) (w : World) (hr2_1 : Kd.C (Kd.int .i64) w A2_1 l2_1.length l2_1) (hc2_1 : l2_1.length ≤ c2_1) (hb2 : w.heap[g2]? = some (.cells #[.int .i64 a2_0,.slice A2_1 l2_1.length c2_1] 35 (0,0))) (h : impl_GradesOf_1.f a0 a1 a2_0 l2_1 = some r) :
  Calls Try.prog 169 #[.int .i64 a0,.int .i64 a1,.pointer (some ⟨g2,0,none⟩)] w fun e w' => e = .returned (.int .i64 r) ∧ Below w.heap.size w w':=by
 have hu35:=Try.underlying35
 have HR2_1:=Aside0.mk hr2_1
 have HC2_1:=Aside0.mk hc2_1
 clear hr2_1 hc2_1
 have BK2:=Aside0.mk hb2
 clear hb2
 have HB:=Aside0.mk (Below.refl w.heap.size w)
 have H : ((impl_Matrix_at.f a2_0 l2_1 a0 a1).bind fun t754 => (if t754 = 0 then (some 0) else (if t754 = 1000000 then (some 3) else (some 1)))) = some r:=h
 clear h
 replace H:=Option.bind_eq_some_iff.mp H
 obtain ⟨t754,A40,H⟩:=H
 replace H : (if t754 = 0 then (some 0) else (if t754 = 1000000 then (some 3) else (some 1))) = some r:=H
 have A4:=Aside0.mk A40
 clear A40
 by_cases c5 : t754 = 0
 ·rw [if_pos c5] at H
  have c5b0 : (t754 == 0) = true:=beq_iff_eq.mpr c5
  have c5b1 : (t754 != 0) = false:=bne_eq_false_iff_eq.mpr c5
  clear c5
  obtain rfl:=Option.some.inj H
  obtain ⟨hcz6_0,hcz6_1,hfz6_0,hfz6_1⟩:=cf2_ BK2.out
  go_enter Try.func169,Try.ntmps169
  go_wp2_with (first|((with_reducible refine gate_callee (f:=74) rfl ?_);refine goesL_ (some 9) rfl rfl Try.func74 (by kernel_rfl) rfl #[.agg #[.int .i64 a2_0,.slice A2_1 l2_1.length c2_1],.int .i64 a0,.int .i64 a1] rfl lp_ ?_;(with_reducible refine (impl_Matrix_at.calls a2_0 _ _ l2_1 a0 a1 t754 _ ?side1 ?side2 A4.out).mono ?_);(case side1 => repeat (first|exact HR2_1.out|(with_reducible refine Kd.C_alloc ?_ _)|(with_reducible refine Kd.C_drewN ?_ _)|(with_reducible refine Kd.C_drew ?_)));(case side2 => exact HC2_1.out);rintro e w7 ⟨rfl,hb⟩;refine ⟨_,rfl,?_⟩;replace BK2:=kc_ BK2 hb;replace HB:=Aside0.mk (below_step (be0_ HB.out) hb);(try clear hb);(try clear hb2);(try clear hk);(try clear hi)))
  go_ret
  exact ⟨er_,be0_ HB.out⟩
 ·rw [if_neg c5] at H
  have c5b0 : (t754 == 0) = false:=beq_eq_false_iff_ne.mpr c5
  have c5b1 : (t754 != 0) = true:=bne_iff_ne.mpr c5
  by_cases c8 : t754 = 1000000
  ·rw [if_pos c8] at H
   have c8b0 : (t754 == 1000000) = true:=beq_iff_eq.mpr c8
   have c8b1 : (t754 != 1000000) = false:=bne_eq_false_iff_eq.mpr c8
   clear c8
   obtain rfl:=Option.some.inj H
   obtain ⟨hcz9_0,hcz9_1,hfz9_0,hfz9_1⟩:=cf2_ BK2.out
   go_enter Try.func169,Try.ntmps169
   go_wp2_with (first|((with_reducible refine gate_callee (f:=74) rfl ?_);refine goesL_ (some 9) rfl rfl Try.func74 (by kernel_rfl) rfl #[.agg #[.int .i64 a2_0,.slice A2_1 l2_1.length c2_1],.int .i64 a0,.int .i64 a1] rfl lp_ ?_;(with_reducible refine (impl_Matrix_at.calls a2_0 _ _ l2_1 a0 a1 t754 _ ?side1 ?side2 A4.out).mono ?_);(case side1 => repeat (first|exact HR2_1.out|(with_reducible refine Kd.C_alloc ?_ _)|(with_reducible refine Kd.C_drewN ?_ _)|(with_reducible refine Kd.C_drew ?_)));(case side2 => exact HC2_1.out);rintro e w10 ⟨rfl,hb⟩;refine ⟨_,rfl,?_⟩;replace BK2:=kc_ BK2 hb;replace HB:=Aside0.mk (below_step (be0_ HB.out) hb);(try clear hb);(try clear hb2);(try clear hk);(try clear hi)))
   go_ret
   exact ⟨er_,be0_ HB.out⟩
  ·rw [if_neg c8] at H
   have c8b0 : (t754 == 1000000) = false:=beq_eq_false_iff_ne.mpr c8
   have c8b1 : (t754 != 1000000) = true:=bne_iff_ne.mpr c8
   obtain rfl:=Option.some.inj H
   obtain ⟨hcz11_0,hcz11_1,hfz11_0,hfz11_1⟩:=cf2_ BK2.out
   go_enter Try.func169,Try.ntmps169
   go_wp2_with (first|((with_reducible refine gate_callee (f:=74) rfl ?_);refine goesL_ (some 9) rfl rfl Try.func74 (by kernel_rfl) rfl #[.agg #[.int .i64 a2_0,.slice A2_1 l2_1.length c2_1],.int .i64 a0,.int .i64 a1] rfl lp_ ?_;(with_reducible refine (impl_Matrix_at.calls a2_0 _ _ l2_1 a0 a1 t754 _ ?side1 ?side2 A4.out).mono ?_);(case side1 => repeat (first|exact HR2_1.out|(with_reducible refine Kd.C_alloc ?_ _)|(with_reducible refine Kd.C_drewN ?_ _)|(with_reducible refine Kd.C_drew ?_)));(case side2 => exact HC2_1.out);rintro e w12 ⟨rfl,hb⟩;refine ⟨_,rfl,?_⟩;replace BK2:=kc_ BK2 hb;replace HB:=Aside0.mk (below_step (be0_ HB.out) hb);(try clear hb);(try clear hb2);(try clear hk);(try clear hi)))
   go_ret
   exact ⟨er_,be0_ HB.out⟩
def impl_filled__impl_GradesOf_1.f (k : Nat) (a0 : Int) (a1_0 : Int) (l1_1 : List Int) : Option (Int × List Int):=impl_filled.f (fun y0 y1 => impl_GradesOf_1.f  y0 y1 a1_0 l1_1) k a0
theorem impl_filled__impl_GradesOf_1.mono : ∀ b0 b1 b2 k,LeO (impl_filled__impl_GradesOf_1.f k b0 b1 b2) (impl_filled__impl_GradesOf_1.f (k + 1) b0 b1 b2):=by
 intro b0 b1 b2 k
 exact impl_filled.monoP (fun _ _ => LeO.refl _) _ k
set_option maxHeartbeats 2000000 in
theorem impl_filled__impl_GradesOf_1.calls (k : Nat) (a0 : Int) (g1 : Nat) (a1_0 : Int) (A1_1 : Option Addr) (c1_1 : Nat) (l1_1 : List Int) (r1 : Int) (r2 : List Int) (w : World) (hr1_1 : Kd.C (Kd.int .i64) w A1_1 l1_1.length l1_1) (hc1_1 : l1_1.length ≤ c1_1) (hb1 : w.heap[g1]? = some (.cells #[.int .i64 a1_0,.slice A1_1 l1_1.length c1_1] 35 (0,0))) (h : impl_filled__impl_GradesOf_1.f k a0 a1_0 l1_1 = some (r1,r2)) :
  Calls Try.prog 112 #[.int .i64 a0,.func (.func 169) #[] #[.pointer (some ⟨g1,0,none⟩)]] w fun e w' => ∃ v1_ : Value,e = .returned (.agg #[.int .i64 r1,v1_]) ∧ Kd.R (Kd.int .i64) 3 w' w.heap.size (fun _ => True) v1_ r2 ∧ Below w.heap.size w w':=by
 refine impl_filled.calls k a0 169 #[] #[.pointer (some ⟨g1,0,none⟩)] (fun y0 y1 => impl_GradesOf_1.f  y0 y1 a1_0 l1_1) r1 r2 w  ⟨_,Try.func169,rfl,rfl⟩ ?_ h
 intro ay0 ay1 z0 W_ hB_  h_
 refine calls_of_args (args':=#[.int .i64 ay0,.int .i64 ay1,.pointer (some ⟨g1,0,none⟩)]) (by simp) ?_
 refine (impl_GradesOf_1.calls ay0 ay1 g1 a1_0 A1_1 c1_1 l1_1 z0 W_ (Kd.C_below hr1_1 hB_) hc1_1 (blk_below hb1 hB_) h_).mono ?_
 exact fun e w' h => h
def impl_GradesOf.f (k : Nat) (a0_0 : Int) (l0_1 : List Int) : Option (Int × List Int × Bool):=(impl_MatrixValid.f k a0_0 l0_1).bind fun t757 => (if t757 = true then ((impl_filled__impl_GradesOf_1.f k a0_0 a0_0 l0_1).bind fun bt758 => (some (bt758.1,bt758.2,true))) else (some (0,([] : List Int),false)))
theorem impl_GradesOf.mono : ∀ a0 a1 k,LeO (impl_GradesOf.f k a0 a1) (impl_GradesOf.f (k + 1) a0 a1):=by
 intro a0 a1 k
 unfold impl_GradesOf.f
 repeat' first
   | (with_reducible exact impl_MatrixValid.mono _ _ _)
   | (with_reducible exact impl_filled__impl_GradesOf_1.mono _ _ _ _)
   | (with_reducible first|exact LeO.refl _|exact LeO.none _|refine LeO.ite ?_ ?_|refine LeO.bind ?_ (fun _ => ?_))
   | exact impl_MatrixValid.mono _ _ _
   | exact impl_filled__impl_GradesOf_1.mono _ _ _ _
   | exact LeO.none _
   | refine LeO.ite ?_ ?_
   | refine LeO.bind ?_ (fun _ => ?_)
set_option maxHeartbeats 8000000 in
set_option maxRecDepth 100000 in
theorem impl_GradesOf.calls (k : Nat) (a0_0 : Int) (A0_1 : Option Addr) (c0_1 : Nat) (l0_1 : List Int) (r1 : Int) (r2 : List Int) (r3 : Bool) (w : World) (hr0_1 : Kd.C (Kd.int .i64) w A0_1 l0_1.length l0_1) (hc0_1 : l0_1.length ≤ c0_1) (h : impl_GradesOf.f k a0_0 l0_1 = some (r1,r2,r3)) :
  Calls Try.prog 146 #[.agg #[.int .i64 a0_0,.slice A0_1 l0_1.length c0_1]] w fun e w' => ∃ v1_ : Value,e = .returned (.tuple #[.agg #[.int .i64 r1,v1_],.bool r3]) ∧ Kd.R (Kd.int .i64) 3 w' w.heap.size (fun _ => True) v1_ r2 ∧ Below w.heap.size w w':=by
 have hu35:=Try.underlying35
 have HR0_1:=Aside0.mk hr0_1
 have HC0_1:=Aside0.mk hc0_1
 clear hr0_1 hc0_1
 have HB:=Aside0.mk (Below.refl w.heap.size w)
 have H : ((impl_MatrixValid.f k a0_0 l0_1).bind fun t757 => (if t757 = true then ((impl_filled__impl_GradesOf_1.f k a0_0 a0_0 l0_1).bind fun bt758 => (some (bt758.1,bt758.2,true))) else (some (0,([] : List Int),false)))) = some (r1,r2,r3):=h
 clear h
 replace H:=Option.bind_eq_some_iff.mp H
 obtain ⟨t757,A20,H⟩:=H
 replace H : (if t757 = true then ((impl_filled__impl_GradesOf_1.f k a0_0 a0_0 l0_1).bind fun bt758 => (some (bt758.1,bt758.2,true))) else (some (0,([] : List Int),false))) = some (r1,r2,r3):=H
 have A2:=Aside0.mk A20
 clear A20
 by_cases c3 : t757 = true
 ·subst c3
  have H1 : ((impl_filled__impl_GradesOf_1.f k a0_0 a0_0 l0_1).bind fun bt758 => (some (bt758.1,bt758.2,true))) = some (r1,r2,r3):=by rw [if_pos rfl] at H;exact H
  clear H
  have H:=H1
  clear H1
  replace H:=Option.bind_eq_some_iff.mp H
  obtain ⟨⟨t758,t759⟩,A40,H⟩:=H
  replace H : (some (t758,t759,true)) = some (r1,r2,r3):=H
  have A4:=Aside0.mk A40
  clear A40
  simp only [Option.some.injEq,Prod.mk.injEq] at H
  obtain ⟨rfl,rfl,rfl⟩:=H
  go_enter Try.func146,Try.ntmps146
  go_wp2_with (first|((with_reducible refine bev_ (N:=1) rfl rfl (cs:=#[.int .i64 a0_0,.slice A0_1 l0_1.length c0_1]) (t:=35) ?hr ?_);(case hr => first|(go_simp;done)|(go_simp;rfl));intro gb755 hg w5 hbox hb;have BK755:=Aside0.mk (hbox);have GW755:=Aside0.mk (szg_ hg (below_size (be0_ HB.out)));have GE755:=GW755;replace HB:=Aside0.mk (below_step (be0_ HB.out) hb);clear hb hbox hg)|((with_reducible refine bev_ (N:=2) rfl rfl (cs:=#[.int .i64 0,.slice none 0 0]) (t:=35) ?hr ?_);(case hr => first|(go_simp;done)|(go_simp;rfl));intro gb756 hg w6 hbox hb;have BK756:=Aside0.mk (hbox);have GW756:=Aside0.mk (szg_ hg (below_size (be1_ HB.out GE755.out)));have GE756:=GW756;replace HB:=Aside0.mk (below_step (be1_ HB.out GE755.out) hb);have NB755_756:=nm_ hg BK755;have NB756_755:=nn_ hg BK755;replace BK755:=kc_ BK755 hb;clear hb hbox hg;have hnb7:=NB755_756.out;have hnc7:=NB756_755.out;obtain ⟨hcz8_0,hcz8_1,hfz8_0,hfz8_1⟩:=cf2_ BK755.out)|((with_reducible refine gate_callee (f:=126) rfl ?_);refine goesL_ (some 5) rfl rfl Try.func126 (by kernel_rfl) rfl #[.agg #[.int .i64 a0_0,.slice A0_1 l0_1.length c0_1]] rfl lp_ ?_;(with_reducible refine (impl_MatrixValid.calls k a0_0 _ _ l0_1 true _ ?side1 ?side2 A2.out).mono ?_);(case side1 => exact cr_ (Kd.C_below HR0_1.out HB.out));(case side2 => exact HC0_1.out);rintro e w9 ⟨rfl,hb⟩;refine ⟨_,rfl,?_⟩;replace BK755:=kc_ BK755 hb;replace BK756:=kc_ BK756 hb;replace HB:=Aside0.mk (below_step (be2_ HB.out GE755.out GE756.out) hb);(try clear hb);(try clear hb2);(try clear hk);(try clear hi);obtain ⟨hcz10_0,hcz10_1,hfz10_0,hfz10_1⟩:=cf2_ BK755.out)|((with_reducible refine gate_callee (f:=112) rfl ?_);refine goesL_ (some 11) rfl rfl Try.func112 (by kernel_rfl) rfl #[.int .i64 a0_0,.func (.func 169) #[] #[.pointer (some ⟨gb755,0,none⟩)]] rfl lp_ ?_;(with_reducible refine (impl_filled__impl_GradesOf_1.calls k a0_0 gb755 a0_0 A0_1 c0_1 l0_1 t758 t759 _ ?side1 ?side2 ?side3 A4.out).mono ?_);(case side1 => exact cr_ (Kd.C_below HR0_1.out HB.out));(case side2 => exact HC0_1.out);(case side3 => refine pe_ ?_;exact BK755.out);rintro e w11 ⟨v760,rfl,ho0,hb⟩;refine ⟨_,rfl,?_⟩;have HO761:=Aside0.mk (Kd.R_lower ho0 (below_size (be2_ HB.out GE755.out GE756.out)));replace BK755:=kc_ BK755 hb;replace BK756:=kc_ BK756 hb;replace HB:=Aside0.mk (below_step (be2_ HB.out GE755.out GE756.out) hb);(try clear hb);(try clear hb2);(try clear hk);(try clear hi);(try clear ho0);obtain ⟨hcz12_0,hcz12_1,hfz12_0,hfz12_1⟩:=cf2_ BK756.out;obtain ⟨Ao13,co13,eo13⟩:=Kd.R_slice HO761.out;subst eo13))
  refine bodyPost_ret (results_ct rfl _ _ gb756 35 #[.int .i64 t758,.slice Ao13 t759.length co13] (0,0) _ rfl (by refine pe_ ?_;refine blk_put (cs:=#[.int .i64 t758,.slice none 0 0]) ?_ 1 _ rfl;refine pe_ ?_;refine blk_put (cs:=#[.int .i64 0,.slice none 0 0]) ?_ 0 _ rfl;refine pe_ ?_;exact BK756.out) Try.underlying35 rfl (by kernel_rfl)) rfl ?_
  exact ⟨_,er_,by refine pr_ ?_;exact Kd.R_mono (Kd.R_far (p:=⟨gb756,1,none⟩) (Kd.R_far (p:=⟨gb756,0,none⟩) (Kd.R_types HO761.out BK756.out (by decide)) (fun _ hk => hk.2) (.int .i64 t758)) (fun _ hk => hk.2) (.slice Ao13 t759.length co13)) (fun _ hk => trivial),be2_ HB.out GE755.out GE756.out⟩
 ·replace c3:=Bool.eq_false_iff.mpr c3
  subst c3
  have H1 : (some (0,([] : List Int),false)) = some (r1,r2,r3):=by rw [if_neg (show ¬ (false = true) by decide)] at H;exact H
  clear H
  have H:=H1
  clear H1
  simp only [Option.some.injEq,Prod.mk.injEq] at H
  obtain ⟨rfl,rfl,rfl⟩:=H
  go_enter Try.func146,Try.ntmps146
  go_wp2_with (first|((with_reducible refine bev_ (N:=1) rfl rfl (cs:=#[.int .i64 a0_0,.slice A0_1 l0_1.length c0_1]) (t:=35) ?hr ?_);(case hr => first|(go_simp;done)|(go_simp;rfl));intro gb755 hg w14 hbox hb;have BK755:=Aside0.mk (hbox);have GW755:=Aside0.mk (szg_ hg (below_size (be0_ HB.out)));have GE755:=GW755;replace HB:=Aside0.mk (below_step (be0_ HB.out) hb);clear hb hbox hg)|((with_reducible refine bev_ (N:=2) rfl rfl (cs:=#[.int .i64 0,.slice none 0 0]) (t:=35) ?hr ?_);(case hr => first|(go_simp;done)|(go_simp;rfl));intro gb756 hg w15 hbox hb;have BK756:=Aside0.mk (hbox);have GW756:=Aside0.mk (szg_ hg (below_size (be1_ HB.out GE755.out)));have GE756:=GW756;replace HB:=Aside0.mk (below_step (be1_ HB.out GE755.out) hb);have NB755_756:=nm_ hg BK755;have NB756_755:=nn_ hg BK755;replace BK755:=kc_ BK755 hb;clear hb hbox hg;have hnb16:=NB755_756.out;have hnc16:=NB756_755.out;obtain ⟨hcz17_0,hcz17_1,hfz17_0,hfz17_1⟩:=cf2_ BK755.out)|((with_reducible refine gate_callee (f:=126) rfl ?_);refine goesL_ (some 5) rfl rfl Try.func126 (by kernel_rfl) rfl #[.agg #[.int .i64 a0_0,.slice A0_1 l0_1.length c0_1]] rfl lp_ ?_;(with_reducible refine (impl_MatrixValid.calls k a0_0 _ _ l0_1 false _ ?side1 ?side2 A2.out).mono ?_);(case side1 => exact cr_ (Kd.C_below HR0_1.out HB.out));(case side2 => exact HC0_1.out);rintro e w18 ⟨rfl,hb⟩;refine ⟨_,rfl,?_⟩;replace BK755:=kc_ BK755 hb;replace BK756:=kc_ BK756 hb;replace HB:=Aside0.mk (below_step (be2_ HB.out GE755.out GE756.out) hb);(try clear hb);(try clear hb2);(try clear hk);(try clear hi);obtain ⟨hcz19_0,hcz19_1,hfz19_0,hfz19_1⟩:=cf2_ BK756.out))
  refine bodyPost_ret (results_ct rfl _ _ gb756 35 #[.int .i64 0,.slice none 0 0] (0,0) _ rfl (by refine pe_ ?_;refine blk_put (cs:=#[.int .i64 0,.slice none 0 0]) ?_ 1 _ rfl;refine pe_ ?_;refine blk_put (cs:=#[.int .i64 0,.slice none 0 0]) ?_ 0 _ rfl;refine pe_ ?_;exact BK756.out) Try.underlying35 rfl (by kernel_rfl)) rfl ?_
  exact ⟨_,er_,by first|exact Kd.R_nil _ _ _ _ _|exact Kd.N_nil _ _ _ _ _|exact Kd.V_nil _ _ _ _ _|exact Kd.Q_nil _ _ _ _ _|exact Kd.S_nil _ _ _ _ _,be2_ HB.out GE755.out GE756.out⟩
def impl_MulGrades_1.l0 : Nat → Int → Int → Int → Int → Int → Int → List Int → Int → List Int → Option (Int)
 | 0,_,_,_,_,_,_,_,_,_ => none
 | k + 1,x0,x1,x7,x10,x11,x3000,x3001,x4000,x4001 => if x11 < x10 then ((impl_Matrix_at.f x3000 x3001 x0 x11).bind fun t718 => ((impl_Matrix_at.f x4000 x4001 x11 x1).bind fun t719 => (impl_MulGrades_1.l0 k x0 x1 (mn x7 (mx t718 t719)) x10 (wrap64 (x11 + 1)) x3000 x3001 x4000 x4001))) else (some x7)
def impl_MulGrades_1.f (k : Nat) (a0 : Int) (a1 : Int) (a2_0 : Int) (l2_1 : List Int) (a3_0 : Int) (l3_1 : List Int) : Option (Int):=impl_MulGrades_1.l0 k a0 a1 3 a2_0 0 a2_0 l2_1 a3_0 l3_1
theorem impl_MulGrades_1.mono_l : ∀ k,(∀ y0 y1 y2 y3 y4 y5 y6 y7 y8,LeO (impl_MulGrades_1.l0 k y0 y1 y2 y3 y4 y5 y6 y7 y8) (impl_MulGrades_1.l0 (k + 1) y0 y1 y2 y3 y4 y5 y6 y7 y8))
 | 0 => fun _ _ _ _ _ _ _ _ _ r h => by simp [impl_MulGrades_1.l0] at h
 | k + 1 => by
  have ih0:=impl_MulGrades_1.mono_l k
  ·intro y0 y1 y2 y3 y4 y5 y6 y7 y8
   unfold impl_MulGrades_1.l0
   repeat' first
   | (with_reducible exact ih0 _ _ _ _ _ _ _ _ _)
   | (with_reducible first|exact LeO.refl _|exact LeO.none _|refine LeO.ite ?_ ?_|refine LeO.bind ?_ (fun _ => ?_))
   | exact ih0 _ _ _ _ _ _ _ _ _
   | exact LeO.none _
   | refine LeO.ite ?_ ?_
   | refine LeO.bind ?_ (fun _ => ?_)
theorem impl_MulGrades_1.mono : ∀ a0 a1 a2 a3 a4 a5 k,LeO (impl_MulGrades_1.f k a0 a1 a2 a3 a4 a5) (impl_MulGrades_1.f (k + 1) a0 a1 a2 a3 a4 a5):=by
 intro a0 a1 a2 a3 a4 a5 k
 have ih0:=impl_MulGrades_1.mono_l k
 unfold impl_MulGrades_1.f
 repeat' first
   | (with_reducible exact ih0 _ _ _ _ _ _ _ _ _)
   | (with_reducible first|exact LeO.refl _|exact LeO.none _|refine LeO.ite ?_ ?_|refine LeO.bind ?_ (fun _ => ?_))
   | exact ih0 _ _ _ _ _ _ _ _ _
   | exact LeO.none _
   | refine LeO.ite ?_ ?_
   | refine LeO.bind ?_ (fun _ => ?_)
def impl_MulGrades_1.T5 : Bool × List (List Nat × List Nat):=(true,[([],[]),([],[]),([],[]),([],[]),([1,2,3],[1,2,3]),([],[]),([],[]),([],[]),([5,6,7,4],[5,6,7]),([4,8],[4,8]),([0,9],[0,9]),([10,8,0,1,2,3,4,5,6,7,8,9,10],[0,10])])
def impl_MulGrades_1.B5 : List Nat:=[0,0,0,0,14,0,0,0,254,510,1023,2047]
theorem impl_MulGrades_1.tab5 : rtab .any (opsOf Try.f114 5) = impl_MulGrades_1.T5:=by kernel_rfl
theorem impl_MulGrades_1.bits5 : waitsOk impl_MulGrades_1.T5.2 impl_MulGrades_1.B5 = true:=by kernel_rfl
set_option maxHeartbeats 8000000 in
set_option maxRecDepth 100000 in
theorem impl_MulGrades_1.calls (k : Nat) (a0 : Int) (a1 : Int) (g2 : Nat) (a2_0 : Int) (A2_1 : Option Addr) (c2_1 : Nat) (l2_1 : List Int) (g3 : Nat) (a3_0 : Int) (A3_1 : Option Addr) (c3_1 : Nat) (l3_1 : List Int) (r : Int) (w : World) (hr2_1 : Kd.C (Kd.int .i64) w A2_1 l2_1.length l2_1) (hc2_1 : l2_1.length ≤ c2_1) (hr3_1 : Kd.C (Kd.int .i64) w A3_1 l3_1.length l3_1) (hc3_1 : l3_1.length ≤ c3_1) (hb2 : w.heap[g2]? = some (.cells #[.int .i64 a2_0,.slice A2_1 l2_1.length c2_1] 35 (0,0))) (hb3 : w.heap[g3]? = some (.cells #[.int .i64 a3_0,.slice A3_1 l3_1.length c3_1] 35 (0,0))) (h : impl_MulGrades_1.f k a0 a1 a2_0 l2_1 a3_0 l3_1 = some r) :
  Calls Try.prog 114 #[.int .i64 a0,.int .i64 a1,.pointer (some ⟨g2,0,none⟩),.pointer (some ⟨g3,0,none⟩)] w fun e w' => e = .returned (.int .i64 r) ∧ Below w.heap.size w w':=by
 have hu35:=Try.underlying35
 have HR2_1:=Aside0.mk hr2_1
 have HC2_1:=Aside0.mk hc2_1
 clear hr2_1 hc2_1
 have HR3_1:=Aside0.mk hr3_1
 have HC3_1:=Aside0.mk hc3_1
 clear hr3_1 hc3_1
 have BK2:=Aside0.mk hb2
 clear hb2
 have BK3:=Aside0.mk hb3
 clear hb3
 have HB:=Aside0.mk (Below.refl w.heap.size w)
 have H : (impl_MulGrades_1.l0 k a0 a1 3 a2_0 0 a2_0 l2_1 a3_0 l3_1) = some r:=h
 clear h
 have H':=Aside0.mk H
 clear H
 obtain ⟨hcz5_0,hcz5_1,hfz5_0,hfz5_1⟩:=cf2_ BK2.out
 go_enter Try.func114,Try.ntmps114
 go_wp2
 go_loopg [7,11] k (fun kq v7 v11 w' => ∃ (x7_1 : Int) (x11_1 : Int),v7 = .int .i64 x7_1 ∧ v11 = .int .i64 x11_1 ∧ Aside0 (impl_MulGrades_1.l0 kq a0 a1 x7_1 a2_0 x11_1 a2_0 l2_1 a3_0 l3_1 = some r) ∧ Aside0 (kq ≤ k) ∧ Aside0 (w'.heap[g2]? = some (.cells #[.int .i64 a2_0,(.slice A2_1 l2_1.length c2_1)] 35 (0,0))) ∧ Aside0 (w'.heap[g3]? = some (.cells #[.int .i64 a3_0,(.slice A3_1 l3_1.length c3_1)] 35 (0,0))) ∧ Aside0 (Below w.heap.size w w'))
 case atStart => exact ⟨(3),(0),rs_,rs_,H',⟨Nat.le_refl _⟩,⟨pe_ BK2.out⟩,⟨pe_ BK3.out⟩,⟨be0_ HB.out⟩⟩
 case round =>
  clear H'
  try clear c1
  try clear c2
  try clear p2
  try clear c3
  obtain ⟨x7_1,x11_1,rfl,rfl,HA,HK1,BK2,BK3,HB⟩:=hrel
  cases gk with
  | zero => exact absurd HA.out (by simp [impl_MulGrades_1.l0])
  | succ k1 =>
   have H:=HA.out
   clear HA
   simp only [impl_MulGrades_1.l0] at H
   by_cases c6 : x11_1 < a2_0
   ·rw [if_pos c6] at H
    have c6b0 : decide (x11_1 < a2_0) = true:=decide_eq_true c6
    clear c6
    replace H:=Option.bind_eq_some_iff.mp H
    obtain ⟨t718,A70,H⟩:=H
    replace H : ((impl_Matrix_at.f a3_0 l3_1 x11_1 a1).bind fun t719 => (impl_MulGrades_1.l0 k1 a0 a1 (mn x7_1 (mx t718 t719)) a2_0 (wrap64 (x11_1 + 1)) a2_0 l2_1 a3_0 l3_1)) = some r:=H
    have A7:=Aside0.mk A70
    clear A70
    replace H:=Option.bind_eq_some_iff.mp H
    obtain ⟨t719,A80,H⟩:=H
    replace H : (impl_MulGrades_1.l0 k1 a0 a1 (mn x7_1 (mx t718 t719)) a2_0 (wrap64 (x11_1 + 1)) a2_0 l2_1 a3_0 l3_1) = some r:=H
    have A8:=Aside0.mk A80
    clear A80
    obtain ⟨ji9,hji9⟩ : ∃ j_ : Int,(mx t718 t719) = j_:=⟨_,rfl⟩
    replace H : (impl_MulGrades_1.l0 k1 a0 a1 (mn x7_1 (ji9)) a2_0 (wrap64 (x11_1 + 1)) a2_0 l2_1 a3_0 l3_1) = some r:=by first|(rw [hji9] at H;exact H)|(simp only [hji9] at H ⊢;exact H)
    (try rw [hji9] at A7)
    (try rw [hji9] at A8)
    have hji9_ : (if t718 < t719 then t719 else t718) = ji9:=hji9
    obtain ⟨ji10,hji10⟩ : ∃ j_ : Int,(mn x7_1 (ji9)) = j_:=⟨_,rfl⟩
    replace H : (impl_MulGrades_1.l0 k1 a0 a1 ji10 a2_0 (wrap64 (x11_1 + 1)) a2_0 l2_1 a3_0 l3_1) = some r:=by first|(rw [hji10] at H;exact H)|(simp only [hji10] at H ⊢;exact H)
    (try rw [hji10] at A7)
    (try rw [hji10] at A8)
    have hji10_ : (if (ji9) < x7_1 then (ji9) else x7_1) = ji10:=hji10
    have H':=Aside0.mk H
    clear H
    try go_wp2
    replace BK2:=Aside0.mk (blk_drew BK2.out)
    replace BK3:=Aside0.mk (blk_drew BK3.out)
    replace HB:=Aside0.mk (below_drew1 HB.out)
    refine start_ (n:=12) (S:=fun w' => w'.cell? ⟨g2,0,none⟩ = some (.int .i64 a2_0) ∧ w'.cell? ⟨g2,1,none⟩ = some (.slice A2_1 l2_1.length c2_1) ∧ w'.cell? ⟨g3,0,none⟩ = some (.int .i64 a3_0) ∧ w'.cell? ⟨g3,1,none⟩ = some (.slice A3_1 l3_1.length c3_1)) (ds:=[]) #[false,false,false,false,false,false,false,false,false,false,false,false] (by kernel_rfl) rfl rfl ⟨bc_ BK2 0,bc_ BK2 1,bc_ BK3 0,bc_ BK3 1⟩ (fun hHeld => ?_);refine with_tabW impl_MulGrades_1.tab5 impl_MulGrades_1.bits5 (fun HT_ HW_ => ?_)
    generalize wr.drew = w11 at BK2 BK3 HB hHeld ⊢
    refine pure_ (i:=0) (N:=some 14) (v:=?_) (a':=?_) #[true,false,false,false,false,false,false,false,false,false,false,false] rfl rfl (any_of HT_.out (by kernel_rfl)) (fun _ _ _ h => h) (Or.inl ⟨by rfl,?_⟩) ?_ ?_
    rotate_left
    ·intro w'
     go_simp
     with_reducible rfl
    rotate_left
    ·simp only [Act.put,List.setIfInBounds_toArray,List.set_cons_zero,List.set_cons_succ,i64_w,i32_w]
     rfl
    refine pure_ (i:=2) (N:=some 16) (v:=?_) (a':=?_) #[true,false,true,false,false,false,false,false,false,false,false,false] rfl rfl (any_of HT_.out (by kernel_rfl)) (fun _ _ _ h => h) (Or.inl ⟨by rfl,?_⟩) ?_ ?_
    rotate_left
    ·intro w'
     go_simp
     with_reducible rfl
    rotate_left
    ·simp only [Act.put,List.setIfInBounds_toArray,List.set_cons_zero,List.set_cons_succ,i64_w,i32_w]
     rfl
    refine pure_ (i:=3) (N:=some 17) (v:=?_) (a':=?_) #[true,false,true,true,false,false,false,false,false,false,false,false] rfl rfl (any_of HT_.out (by kernel_rfl)) (fun _ _ _ h => h) (Or.inl ⟨by rfl,?_⟩) ?_ ?_
    rotate_left
    ·intro w'
     go_simp
     with_reducible rfl
    rotate_left
    ·simp only [Act.put,List.setIfInBounds_toArray,List.set_cons_zero,List.set_cons_succ,i64_w,i32_w]
     rfl
    refine pure_ (i:=6) (N:=some 20) (v:=?_) (a':=?_) #[true,false,true,true,false,false,true,false,false,false,false,false] rfl rfl (any_of HT_.out (by kernel_rfl)) (fun _ _ _ h => h) (Or.inl ⟨by rfl,?_⟩) ?_ ?_
    rotate_left
    ·intro w'
     go_simp
     with_reducible rfl
    rotate_left
    ·simp only [Act.put,List.setIfInBounds_toArray,List.set_cons_zero,List.set_cons_succ,i64_w,i32_w]
     rfl
    refine pure_ (i:=7) (N:=some 21) (v:=?_) (a':=?_) #[true,false,true,true,false,false,true,true,false,false,false,false] rfl rfl (any_of HT_.out (by kernel_rfl)) (fun _ _ _ h => h) (Or.inl ⟨by rfl,?_⟩) ?_ ?_
    rotate_left
    ·intro w'
     go_simp
     with_reducible rfl
    rotate_left
    ·simp only [Act.put,List.setIfInBounds_toArray,List.set_cons_zero,List.set_cons_succ,i64_w,i32_w]
     rfl
    refine take_ (i:=1) (N:=some 15) (v:=?_) (a':=?_) #[true,true,true,true,false,false,true,true,false,false,false,false] rfl rfl (take_ofW HT_.out HW_.out (by kernel_rfl)) (fun _ _ _ h => h) (Or.inl ⟨by rfl,?_⟩) hHeld ?_ ?_
    rotate_left
    ·rintro w' ⟨s0,s1,s2,s3⟩
     go_simp
     with_reducible rfl
    rotate_left
    ·simp only [Act.put,List.setIfInBounds_toArray,List.set_cons_zero,List.set_cons_succ,i64_w,i32_w]
     rfl
    refine take_ (i:=5) (N:=some 19) (v:=?_) (a':=?_) #[true,true,true,true,false,true,true,true,false,false,false,false] rfl rfl (take_ofW HT_.out HW_.out (by kernel_rfl)) (fun _ _ _ h => h) (Or.inl ⟨by rfl,?_⟩) hHeld ?_ ?_
    rotate_left
    ·rintro w' ⟨s0,s1,s2,s3⟩
     go_simp
     with_reducible rfl
    rotate_left
    ·simp only [Act.put,List.setIfInBounds_toArray,List.set_cons_zero,List.set_cons_succ,i64_w,i32_w]
     rfl
    refine one_ (i:=4) (N:=some 18) #[true,true,true,true,true,true,true,true,false,false,false,false] rfl rfl (one_of HT_.out (by kernel_rfl)) (by decide) (fun K hK => ?_)
    refine goes_ Try.func74 (by kernel_rfl) rfl #[.agg #[.int .i64 a2_0,.slice A2_1 l2_1.length c2_1],.int .i64 a0,.int .i64 x11_1] (by rfl) rfl rfl lp_ ?_
    with_reducible refine (impl_Matrix_at.calls a2_0 _ _ l2_1 a0 x11_1 t718 _ ?side1 ?side2 A7.out).mono ?_
    (case side1 => exact cr_ (Kd.C_below HR2_1.out HB.out))
    (case side2 => exact HC2_1.out)
    rintro e w12 ⟨rfl,hb⟩
    refine ⟨_,rfl,?_⟩
    replace BK2:=kc_ BK2 hb
    replace BK3:=kc_ BK3 hb
    replace HB:=Aside0.mk (below_step (be0_ HB.out) hb)
    (try clear hb)
    (try clear hb2)
    (try clear hk)
    (try clear hi)
    refine hK.out _ _ ⟨bc_ BK2 0,bc_ BK2 1,bc_ BK3 0,bc_ BK3 1⟩ (fun hHeld => ?_)
    clear hK K
    refine norm_ (a':=?_) ?_ ?_
    rotate_left
    ·show Act.put _ (some 18) _ = _
     simp only [Act.put,List.setIfInBounds_toArray,List.set_cons_zero,List.set_cons_succ,i64_w,i32_w]
     rfl
    refine one_ (i:=8) (N:=some 22) #[true,true,true,true,true,true,true,true,true,false,false,false] rfl rfl (one_of HT_.out (by kernel_rfl)) (by decide) (fun K hK => ?_)
    refine goes_ Try.func74 (by kernel_rfl) rfl #[.agg #[.int .i64 a3_0,.slice A3_1 l3_1.length c3_1],.int .i64 x11_1,.int .i64 a1] (by rfl) rfl rfl lp_ ?_
    with_reducible refine (impl_Matrix_at.calls a3_0 _ _ l3_1 x11_1 a1 t719 _ ?side1 ?side2 A8.out).mono ?_
    (case side1 => exact cr_ (Kd.C_below HR3_1.out HB.out))
    (case side2 => exact HC3_1.out)
    rintro e w13 ⟨rfl,hb⟩
    refine ⟨_,rfl,?_⟩
    replace BK2:=kc_ BK2 hb
    replace BK3:=kc_ BK3 hb
    replace HB:=Aside0.mk (below_step (be0_ HB.out) hb)
    (try clear hb)
    (try clear hb2)
    (try clear hk)
    (try clear hi)
    refine hK.out _ _ ⟨bc_ BK2 0,bc_ BK2 1,bc_ BK3 0,bc_ BK3 1⟩ (fun hHeld => ?_)
    clear hK K
    refine norm_ (a':=?_) ?_ ?_
    rotate_left
    ·show Act.put _ (some 22) _ = _
     simp only [Act.put,List.setIfInBounds_toArray,List.set_cons_zero,List.set_cons_succ,i64_w,i32_w]
     rfl
    refine pure_ (i:=9) (N:=some 23) (v:=?_) (a':=?_) #[true,true,true,true,true,true,true,true,true,true,false,false] rfl rfl (any_of HT_.out (by kernel_rfl)) (fun _ _ _ h => h) (Or.inl ⟨by rfl,?_⟩) ?_ ?_
    rotate_left
    ·intro w'
     go_simp
     with_reducible rfl
    rotate_left
    ·simp only [Act.put,List.setIfInBounds_toArray,List.set_cons_zero,List.set_cons_succ,i64_w,i32_w]
     rfl
    refine pure_ (i:=10) (N:=some 24) (v:=?_) (a':=?_) #[true,true,true,true,true,true,true,true,true,true,true,false] rfl rfl (any_of HT_.out (by kernel_rfl)) (fun _ _ _ h => h) (Or.inl ⟨by rfl,?_⟩) ?_ ?_
    rotate_left
    ·intro w'
     go_simp
     with_reducible rfl
    rotate_left
    ·simp only [Act.put,List.setIfInBounds_toArray,List.set_cons_zero,List.set_cons_succ,i64_w,i32_w]
     rfl
    refine pure_ (i:=11) (N:=some 7) (v:=?_) (a':=?_) #[true,true,true,true,true,true,true,true,true,true,true,true] rfl rfl (any_of HT_.out (by kernel_rfl)) (fun _ _ _ h => h) (Or.inl ⟨by rfl,?_⟩) ?_ ?_
    rotate_left
    ·intro w'
     go_simp
     with_reducible rfl
    rotate_left
    ·simp only [Act.put,List.setIfInBounds_toArray,List.set_cons_zero,List.set_cons_succ,i64_w,i32_w]
     rfl
    refine done_ (done_of HT_.out (by kernel_rfl)) ?_
    try go_wp2
    go_roundg k1
    case measure => have:=HK1.out;omega
    case rel => exact ⟨(ji10),(wrap64 (x11_1 + 1)),(by first|rfl|(simp;done)|(simp only [← hji10] <;> (first|rfl|simp))|(simp [*];done)),rs_,H',⟨by have:=HK1.out;omega⟩,⟨pe_ BK2.out⟩,⟨pe_ BK3.out⟩,⟨be0_ HB.out⟩⟩
   ·rw [if_neg c6] at H
    have c6b0 : decide (x11_1 < a2_0) = false:=decide_eq_false c6
    clear c6
    obtain rfl:=Option.some.inj H
    go_wp2
    go_ret
    exact ⟨er_,be0_ HB.out⟩
def impl_filled__impl_MulGrades_1.f (k : Nat) (a0 : Int) (a1_0 : Int) (l1_1 : List Int) (a2_0 : Int) (l2_1 : List Int) : Option (Int × List Int):=impl_filled.f (fun y0 y1 => impl_MulGrades_1.f k  y0 y1 a1_0 l1_1 a2_0 l2_1) k a0
theorem impl_filled__impl_MulGrades_1.mono : ∀ b0 b1 b2 b3 b4 k,LeO (impl_filled__impl_MulGrades_1.f k b0 b1 b2 b3 b4) (impl_filled__impl_MulGrades_1.f (k + 1) b0 b1 b2 b3 b4):=by
 intro b0 b1 b2 b3 b4 k
 exact impl_filled.monoP (fun _ _ => impl_MulGrades_1.mono _ _ _ _ _ _ _) _ k
set_option maxHeartbeats 2000000 in
theorem impl_filled__impl_MulGrades_1.calls (k : Nat) (a0 : Int) (g1 : Nat) (a1_0 : Int) (A1_1 : Option Addr) (c1_1 : Nat) (l1_1 : List Int) (g2 : Nat) (a2_0 : Int) (A2_1 : Option Addr) (c2_1 : Nat) (l2_1 : List Int) (r1 : Int) (r2 : List Int) (w : World) (hr1_1 : Kd.C (Kd.int .i64) w A1_1 l1_1.length l1_1) (hc1_1 : l1_1.length ≤ c1_1) (hr2_1 : Kd.C (Kd.int .i64) w A2_1 l2_1.length l2_1) (hc2_1 : l2_1.length ≤ c2_1) (hb1 : w.heap[g1]? = some (.cells #[.int .i64 a1_0,.slice A1_1 l1_1.length c1_1] 35 (0,0))) (hb2 : w.heap[g2]? = some (.cells #[.int .i64 a2_0,.slice A2_1 l2_1.length c2_1] 35 (0,0))) (h : impl_filled__impl_MulGrades_1.f k a0 a1_0 l1_1 a2_0 l2_1 = some (r1,r2)) :
  Calls Try.prog 112 #[.int .i64 a0,.func (.func 114) #[] #[.pointer (some ⟨g1,0,none⟩),.pointer (some ⟨g2,0,none⟩)]] w fun e w' => ∃ v1_ : Value,e = .returned (.agg #[.int .i64 r1,v1_]) ∧ Kd.R (Kd.int .i64) 3 w' w.heap.size (fun _ => True) v1_ r2 ∧ Below w.heap.size w w':=by
 refine impl_filled.calls k a0 114 #[] #[.pointer (some ⟨g1,0,none⟩),.pointer (some ⟨g2,0,none⟩)] (fun y0 y1 => impl_MulGrades_1.f k  y0 y1 a1_0 l1_1 a2_0 l2_1) r1 r2 w  ⟨_,Try.func114,rfl,rfl⟩ ?_ h
 intro ay0 ay1 z0 W_ hB_  h_
 refine calls_of_args (args':=#[.int .i64 ay0,.int .i64 ay1,.pointer (some ⟨g1,0,none⟩),.pointer (some ⟨g2,0,none⟩)]) (by simp) ?_
 refine (impl_MulGrades_1.calls k ay0 ay1 g1 a1_0 A1_1 c1_1 l1_1 g2 a2_0 A2_1 c2_1 l2_1 z0 W_ (Kd.C_below hr1_1 hB_) hc1_1 (Kd.C_below hr2_1 hB_) hc2_1 (blk_below hb1 hB_) (blk_below hb2 hB_) h_).mono ?_
 exact fun e w' h => h
def impl_MulGrades.f (k : Nat) (a0_0 : Int) (l0_1 : List Int) (a1_0 : Int) (l1_1 : List Int) : Option (Int × List Int × Bool):=(impl_GradesValid.f k a0_0 l0_1).bind fun t723 => (if t723 = true then ((impl_GradesValid.f k a1_0 l1_1).bind fun t724 => (if t724 = true then (if a0_0 = a1_0 then ((impl_filled__impl_MulGrades_1.f k a0_0 a0_0 l0_1 a1_0 l1_1).bind fun bt725 => (some (bt725.1,bt725.2,true))) else (some (0,([] : List Int),false))) else (some (0,([] : List Int),false)))) else (some (0,([] : List Int),false)))
theorem impl_MulGrades.mono : ∀ a0 a1 a2 a3 k,LeO (impl_MulGrades.f k a0 a1 a2 a3) (impl_MulGrades.f (k + 1) a0 a1 a2 a3):=by
 intro a0 a1 a2 a3 k
 unfold impl_MulGrades.f
 repeat' first
   | (with_reducible exact impl_GradesValid.mono _ _ _)
   | (with_reducible exact impl_filled__impl_MulGrades_1.mono _ _ _ _ _ _)
   | (with_reducible first|exact LeO.refl _|exact LeO.none _|refine LeO.ite ?_ ?_|refine LeO.bind ?_ (fun _ => ?_))
   | exact impl_GradesValid.mono _ _ _
   | exact impl_filled__impl_MulGrades_1.mono _ _ _ _ _ _
   | exact LeO.none _
   | refine LeO.ite ?_ ?_
   | refine LeO.bind ?_ (fun _ => ?_)
set_option maxHeartbeats 8000000 in
set_option maxRecDepth 100000 in
theorem impl_MulGrades.calls (k : Nat) (a0_0 : Int) (A0_1 : Option Addr) (c0_1 : Nat) (l0_1 : List Int) (a1_0 : Int) (A1_1 : Option Addr) (c1_1 : Nat) (l1_1 : List Int) (r1 : Int) (r2 : List Int) (r3 : Bool) (w : World) (hr0_1 : Kd.C (Kd.int .i64) w A0_1 l0_1.length l0_1) (hc0_1 : l0_1.length ≤ c0_1) (hr1_1 : Kd.C (Kd.int .i64) w A1_1 l1_1.length l1_1) (hc1_1 : l1_1.length ≤ c1_1) (h : impl_MulGrades.f k a0_0 l0_1 a1_0 l1_1 = some (r1,r2,r3)) :
  Calls Try.prog 56 #[.agg #[.int .i64 a0_0,.slice A0_1 l0_1.length c0_1],.agg #[.int .i64 a1_0,.slice A1_1 l1_1.length c1_1]] w fun e w' => ∃ v1_ : Value,e = .returned (.tuple #[.agg #[.int .i64 r1,v1_],.bool r3]) ∧ Kd.R (Kd.int .i64) 3 w' w.heap.size (fun _ => True) v1_ r2 ∧ Below w.heap.size w w':=by
 have hu35:=Try.underlying35
 have HR0_1:=Aside0.mk hr0_1
 have HC0_1:=Aside0.mk hc0_1
 clear hr0_1 hc0_1
 have HR1_1:=Aside0.mk hr1_1
 have HC1_1:=Aside0.mk hc1_1
 clear hr1_1 hc1_1
 have HB:=Aside0.mk (Below.refl w.heap.size w)
 have H : ((impl_GradesValid.f k a0_0 l0_1).bind fun t723 => (if t723 = true then ((impl_GradesValid.f k a1_0 l1_1).bind fun t724 => (if t724 = true then (if a0_0 = a1_0 then ((impl_filled__impl_MulGrades_1.f k a0_0 a0_0 l0_1 a1_0 l1_1).bind fun bt725 => (some (bt725.1,bt725.2,true))) else (some (0,([] : List Int),false))) else (some (0,([] : List Int),false)))) else (some (0,([] : List Int),false)))) = some (r1,r2,r3):=h
 clear h
 replace H:=Option.bind_eq_some_iff.mp H
 obtain ⟨t723,A30,H⟩:=H
 replace H : (if t723 = true then ((impl_GradesValid.f k a1_0 l1_1).bind fun t724 => (if t724 = true then (if a0_0 = a1_0 then ((impl_filled__impl_MulGrades_1.f k a0_0 a0_0 l0_1 a1_0 l1_1).bind fun bt725 => (some (bt725.1,bt725.2,true))) else (some (0,([] : List Int),false))) else (some (0,([] : List Int),false)))) else (some (0,([] : List Int),false))) = some (r1,r2,r3):=H
 have A3:=Aside0.mk A30
 clear A30
 by_cases c4 : t723 = true
 ·subst c4
  have H1 : ((impl_GradesValid.f k a1_0 l1_1).bind fun t724 => (if t724 = true then (if a0_0 = a1_0 then ((impl_filled__impl_MulGrades_1.f k a0_0 a0_0 l0_1 a1_0 l1_1).bind fun bt725 => (some (bt725.1,bt725.2,true))) else (some (0,([] : List Int),false))) else (some (0,([] : List Int),false)))) = some (r1,r2,r3):=by rw [if_pos rfl] at H;exact H
  clear H
  have H:=H1
  clear H1
  replace H:=Option.bind_eq_some_iff.mp H
  obtain ⟨t724,A50,H⟩:=H
  replace H : (if t724 = true then (if a0_0 = a1_0 then ((impl_filled__impl_MulGrades_1.f k a0_0 a0_0 l0_1 a1_0 l1_1).bind fun bt725 => (some (bt725.1,bt725.2,true))) else (some (0,([] : List Int),false))) else (some (0,([] : List Int),false))) = some (r1,r2,r3):=H
  have A5:=Aside0.mk A50
  clear A50
  by_cases c6 : t724 = true
  ·subst c6
   have H1 : (if a0_0 = a1_0 then ((impl_filled__impl_MulGrades_1.f k a0_0 a0_0 l0_1 a1_0 l1_1).bind fun bt725 => (some (bt725.1,bt725.2,true))) else (some (0,([] : List Int),false))) = some (r1,r2,r3):=by rw [if_pos rfl] at H;exact H
   clear H
   have H:=H1
   clear H1
   by_cases c7 : a0_0 = a1_0
   ·rw [if_pos c7] at H
    have c7b0 : (a0_0 == a1_0) = true:=beq_iff_eq.mpr c7
    have c7b1 : (a0_0 != a1_0) = false:=bne_eq_false_iff_eq.mpr c7
    clear c7
    replace H:=Option.bind_eq_some_iff.mp H
    obtain ⟨⟨t725,t726⟩,A80,H⟩:=H
    replace H : (some (t725,t726,true)) = some (r1,r2,r3):=H
    have A8:=Aside0.mk A80
    clear A80
    simp only [Option.some.injEq,Prod.mk.injEq] at H
    obtain ⟨rfl,rfl,rfl⟩:=H
    go_enter Try.func56,Try.ntmps56
    go_wp2_with (first|((with_reducible refine bev_ (N:=2) rfl rfl (cs:=#[.int .i64 a0_0,.slice A0_1 l0_1.length c0_1]) (t:=35) ?hr ?_);(case hr => first|(go_simp;done)|(go_simp;rfl));intro gb720 hg w9 hbox hb;have BK720:=Aside0.mk (hbox);have GW720:=Aside0.mk (szg_ hg (below_size (be0_ HB.out)));have GE720:=GW720;replace HB:=Aside0.mk (below_step (be0_ HB.out) hb);clear hb hbox hg)|((with_reducible refine bev_ (N:=3) rfl rfl (cs:=#[.int .i64 a1_0,.slice A1_1 l1_1.length c1_1]) (t:=35) ?hr ?_);(case hr => first|(go_simp;done)|(go_simp;rfl));intro gb721 hg w10 hbox hb;have BK721:=Aside0.mk (hbox);have GW721:=Aside0.mk (szg_ hg (below_size (be1_ HB.out GE720.out)));have GE721:=GW721;replace HB:=Aside0.mk (below_step (be1_ HB.out GE720.out) hb);have NB720_721:=nm_ hg BK720;have NB721_720:=nn_ hg BK720;replace BK720:=kc_ BK720 hb;clear hb hbox hg)|((with_reducible refine bev_ (N:=4) rfl rfl (cs:=#[.int .i64 0,.slice none 0 0]) (t:=35) ?hr ?_);(case hr => first|(go_simp;done)|(go_simp;rfl));intro gb722 hg w11 hbox hb;have BK722:=Aside0.mk (hbox);have GW722:=Aside0.mk (szg_ hg (below_size (be2_ HB.out GE720.out GE721.out)));have GE722:=GW722;replace HB:=Aside0.mk (below_step (be2_ HB.out GE720.out GE721.out) hb);have NB720_722:=nm_ hg BK720;have NB722_720:=nn_ hg BK720;replace BK720:=kc_ BK720 hb;have NB721_722:=nm_ hg BK721;have NB722_721:=nn_ hg BK721;replace BK721:=kc_ BK721 hb;clear hb hbox hg;have hnb12:=NB720_721.out;have hnc12:=NB721_720.out;have hnb13:=NB720_722.out;have hnc13:=NB722_720.out;obtain ⟨hcz14_0,hcz14_1,hfz14_0,hfz14_1⟩:=cf2_ BK720.out)|((with_reducible refine gate_callee (f:=73) rfl ?_);refine goesL_ (some 7) rfl rfl Try.func73 (by kernel_rfl) rfl #[.agg #[.int .i64 a0_0,.slice A0_1 l0_1.length c0_1]] rfl lp_ ?_;(with_reducible refine (impl_GradesValid.calls k a0_0 _ _ l0_1 true _ ?side1 ?side2 A3.out).mono ?_);(case side1 => exact cr_ (Kd.C_below HR0_1.out HB.out));(case side2 => exact HC0_1.out);rintro e w15 ⟨rfl,hb⟩;refine ⟨_,rfl,?_⟩;replace BK720:=kc_ BK720 hb;replace BK721:=kc_ BK721 hb;replace BK722:=kc_ BK722 hb;replace HB:=Aside0.mk (below_step (be3_ HB.out GE720.out GE721.out GE722.out) hb);(try clear hb);(try clear hb2);(try clear hk);(try clear hi);have hnb16:=NB721_722.out;have hnc16:=NB722_721.out;obtain ⟨hcz17_0,hcz17_1,hfz17_0,hfz17_1⟩:=cf2_ BK721.out)|(go_at_call 73;(with_reducible refine (impl_GradesValid.calls k a1_0 _ _ l1_1 true _ ?side1 ?side2 A5.out).mono ?_);(case side1 => exact cr_ (Kd.C_below HR1_1.out HB.out));(case side2 => exact HC1_1.out);rintro e w18 ⟨rfl,hb⟩;replace BK720:=kc_ BK720 hb;replace BK721:=kc_ BK721 hb;replace BK722:=kc_ BK722 hb;replace HB:=Aside0.mk (below_step (be3_ HB.out GE720.out GE721.out GE722.out) hb);(try clear hb);(try clear hb2);(try clear hk);(try clear hi);obtain ⟨hcz19_0,hcz19_1,hfz19_0,hfz19_1⟩:=cf2_ BK720.out;obtain ⟨hcz20_0,hcz20_1,hfz20_0,hfz20_1⟩:=cf2_ BK721.out)|((with_reducible refine gate_callee (f:=112) rfl ?_);refine goesL_ (some 25) rfl rfl Try.func112 (by kernel_rfl) rfl #[.int .i64 a0_0,.func (.func 114) #[] #[.pointer (some ⟨gb720,0,none⟩),.pointer (some ⟨gb721,0,none⟩)]] rfl lp_ ?_;(with_reducible refine (impl_filled__impl_MulGrades_1.calls k a0_0 gb720 a0_0 A0_1 c0_1 l0_1 gb721 a1_0 A1_1 c1_1 l1_1 t725 t726 _ ?side1 ?side2 ?side3 ?side4 ?side5 ?side6 A8.out).mono ?_);(case side1 => exact cr_ (Kd.C_below HR0_1.out HB.out));(case side2 => exact HC0_1.out);(case side3 => exact cr_ (Kd.C_below HR1_1.out HB.out));(case side4 => exact HC1_1.out);(case side5 => refine pe_ ?_;exact BK720.out);(case side6 => refine pe_ ?_;exact BK721.out);rintro e w21 ⟨v727,rfl,ho0,hb⟩;refine ⟨_,rfl,?_⟩;have HO728:=Aside0.mk (Kd.R_lower ho0 (below_size (be3_ HB.out GE720.out GE721.out GE722.out)));replace BK720:=kc_ BK720 hb;replace BK721:=kc_ BK721 hb;replace BK722:=kc_ BK722 hb;replace HB:=Aside0.mk (below_step (be3_ HB.out GE720.out GE721.out GE722.out) hb);(try clear hb);(try clear hb2);(try clear hk);(try clear hi);(try clear ho0);obtain ⟨hcz22_0,hcz22_1,hfz22_0,hfz22_1⟩:=cf2_ BK722.out;obtain ⟨Ao23,co23,eo23⟩:=Kd.R_slice HO728.out;subst eo23))
    refine bodyPost_ret (results_ct rfl _ _ gb722 35 #[.int .i64 t725,.slice Ao23 t726.length co23] (0,0) _ rfl (by refine pe_ ?_;refine blk_put (cs:=#[.int .i64 t725,.slice none 0 0]) ?_ 1 _ rfl;refine pe_ ?_;refine blk_put (cs:=#[.int .i64 0,.slice none 0 0]) ?_ 0 _ rfl;refine pe_ ?_;exact BK722.out) Try.underlying35 rfl (by kernel_rfl)) rfl ?_
    exact ⟨_,er_,by refine pr_ ?_;exact Kd.R_mono (Kd.R_far (p:=⟨gb722,1,none⟩) (Kd.R_far (p:=⟨gb722,0,none⟩) (Kd.R_types HO728.out BK722.out (by decide)) (fun _ hk => hk.2) (.int .i64 t725)) (fun _ hk => hk.2) (.slice Ao23 t726.length co23)) (fun _ hk => trivial),be3_ HB.out GE720.out GE721.out GE722.out⟩
   ·rw [if_neg c7] at H
    have c7b0 : (a0_0 == a1_0) = false:=beq_eq_false_iff_ne.mpr c7
    have c7b1 : (a0_0 != a1_0) = true:=bne_iff_ne.mpr c7
    simp only [Option.some.injEq,Prod.mk.injEq] at H
    obtain ⟨rfl,rfl,rfl⟩:=H
    go_enter Try.func56,Try.ntmps56
    go_wp2_with (first|((with_reducible refine bev_ (N:=2) rfl rfl (cs:=#[.int .i64 a0_0,.slice A0_1 l0_1.length c0_1]) (t:=35) ?hr ?_);(case hr => first|(go_simp;done)|(go_simp;rfl));intro gb720 hg w24 hbox hb;have BK720:=Aside0.mk (hbox);have GW720:=Aside0.mk (szg_ hg (below_size (be0_ HB.out)));have GE720:=GW720;replace HB:=Aside0.mk (below_step (be0_ HB.out) hb);clear hb hbox hg)|((with_reducible refine bev_ (N:=3) rfl rfl (cs:=#[.int .i64 a1_0,.slice A1_1 l1_1.length c1_1]) (t:=35) ?hr ?_);(case hr => first|(go_simp;done)|(go_simp;rfl));intro gb721 hg w25 hbox hb;have BK721:=Aside0.mk (hbox);have GW721:=Aside0.mk (szg_ hg (below_size (be1_ HB.out GE720.out)));have GE721:=GW721;replace HB:=Aside0.mk (below_step (be1_ HB.out GE720.out) hb);have NB720_721:=nm_ hg BK720;have NB721_720:=nn_ hg BK720;replace BK720:=kc_ BK720 hb;clear hb hbox hg)|((with_reducible refine bev_ (N:=4) rfl rfl (cs:=#[.int .i64 0,.slice none 0 0]) (t:=35) ?hr ?_);(case hr => first|(go_simp;done)|(go_simp;rfl));intro gb722 hg w26 hbox hb;have BK722:=Aside0.mk (hbox);have GW722:=Aside0.mk (szg_ hg (below_size (be2_ HB.out GE720.out GE721.out)));have GE722:=GW722;replace HB:=Aside0.mk (below_step (be2_ HB.out GE720.out GE721.out) hb);have NB720_722:=nm_ hg BK720;have NB722_720:=nn_ hg BK720;replace BK720:=kc_ BK720 hb;have NB721_722:=nm_ hg BK721;have NB722_721:=nn_ hg BK721;replace BK721:=kc_ BK721 hb;clear hb hbox hg;have hnb27:=NB720_721.out;have hnc27:=NB721_720.out;have hnb28:=NB720_722.out;have hnc28:=NB722_720.out;obtain ⟨hcz29_0,hcz29_1,hfz29_0,hfz29_1⟩:=cf2_ BK720.out)|((with_reducible refine gate_callee (f:=73) rfl ?_);refine goesL_ (some 7) rfl rfl Try.func73 (by kernel_rfl) rfl #[.agg #[.int .i64 a0_0,.slice A0_1 l0_1.length c0_1]] rfl lp_ ?_;(with_reducible refine (impl_GradesValid.calls k a0_0 _ _ l0_1 true _ ?side1 ?side2 A3.out).mono ?_);(case side1 => exact cr_ (Kd.C_below HR0_1.out HB.out));(case side2 => exact HC0_1.out);rintro e w30 ⟨rfl,hb⟩;refine ⟨_,rfl,?_⟩;replace BK720:=kc_ BK720 hb;replace BK721:=kc_ BK721 hb;replace BK722:=kc_ BK722 hb;replace HB:=Aside0.mk (below_step (be3_ HB.out GE720.out GE721.out GE722.out) hb);(try clear hb);(try clear hb2);(try clear hk);(try clear hi);have hnb31:=NB721_722.out;have hnc31:=NB722_721.out;obtain ⟨hcz32_0,hcz32_1,hfz32_0,hfz32_1⟩:=cf2_ BK721.out)|(go_at_call 73;(with_reducible refine (impl_GradesValid.calls k a1_0 _ _ l1_1 true _ ?side1 ?side2 A5.out).mono ?_);(case side1 => exact cr_ (Kd.C_below HR1_1.out HB.out));(case side2 => exact HC1_1.out);rintro e w33 ⟨rfl,hb⟩;replace BK720:=kc_ BK720 hb;replace BK721:=kc_ BK721 hb;replace BK722:=kc_ BK722 hb;replace HB:=Aside0.mk (below_step (be3_ HB.out GE720.out GE721.out GE722.out) hb);(try clear hb);(try clear hb2);(try clear hk);(try clear hi);obtain ⟨hcz34_0,hcz34_1,hfz34_0,hfz34_1⟩:=cf2_ BK720.out;obtain ⟨hcz35_0,hcz35_1,hfz35_0,hfz35_1⟩:=cf2_ BK721.out;obtain ⟨hcz36_0,hcz36_1,hfz36_0,hfz36_1⟩:=cf2_ BK722.out))
    refine bodyPost_ret (results_ct rfl _ _ gb722 35 #[.int .i64 0,.slice none 0 0] (0,0) _ rfl (by refine pe_ ?_;refine blk_put (cs:=#[.int .i64 0,.slice none 0 0]) ?_ 1 _ rfl;refine pe_ ?_;refine blk_put (cs:=#[.int .i64 0,.slice none 0 0]) ?_ 0 _ rfl;refine pe_ ?_;exact BK722.out) Try.underlying35 rfl (by kernel_rfl)) rfl ?_
    exact ⟨_,er_,by first|exact Kd.R_nil _ _ _ _ _|exact Kd.N_nil _ _ _ _ _|exact Kd.V_nil _ _ _ _ _|exact Kd.Q_nil _ _ _ _ _|exact Kd.S_nil _ _ _ _ _,be3_ HB.out GE720.out GE721.out GE722.out⟩
  ·replace c6:=Bool.eq_false_iff.mpr c6
   subst c6
   have H1 : (some (0,([] : List Int),false)) = some (r1,r2,r3):=by rw [if_neg (show ¬ (false = true) by decide)] at H;exact H
   clear H
   have H:=H1
   clear H1
   simp only [Option.some.injEq,Prod.mk.injEq] at H
   obtain ⟨rfl,rfl,rfl⟩:=H
   go_enter Try.func56,Try.ntmps56
   go_wp2_with (first|((with_reducible refine bev_ (N:=2) rfl rfl (cs:=#[.int .i64 a0_0,.slice A0_1 l0_1.length c0_1]) (t:=35) ?hr ?_);(case hr => first|(go_simp;done)|(go_simp;rfl));intro gb720 hg w37 hbox hb;have BK720:=Aside0.mk (hbox);have GW720:=Aside0.mk (szg_ hg (below_size (be0_ HB.out)));have GE720:=GW720;replace HB:=Aside0.mk (below_step (be0_ HB.out) hb);clear hb hbox hg)|((with_reducible refine bev_ (N:=3) rfl rfl (cs:=#[.int .i64 a1_0,.slice A1_1 l1_1.length c1_1]) (t:=35) ?hr ?_);(case hr => first|(go_simp;done)|(go_simp;rfl));intro gb721 hg w38 hbox hb;have BK721:=Aside0.mk (hbox);have GW721:=Aside0.mk (szg_ hg (below_size (be1_ HB.out GE720.out)));have GE721:=GW721;replace HB:=Aside0.mk (below_step (be1_ HB.out GE720.out) hb);have NB720_721:=nm_ hg BK720;have NB721_720:=nn_ hg BK720;replace BK720:=kc_ BK720 hb;clear hb hbox hg)|((with_reducible refine bev_ (N:=4) rfl rfl (cs:=#[.int .i64 0,.slice none 0 0]) (t:=35) ?hr ?_);(case hr => first|(go_simp;done)|(go_simp;rfl));intro gb722 hg w39 hbox hb;have BK722:=Aside0.mk (hbox);have GW722:=Aside0.mk (szg_ hg (below_size (be2_ HB.out GE720.out GE721.out)));have GE722:=GW722;replace HB:=Aside0.mk (below_step (be2_ HB.out GE720.out GE721.out) hb);have NB720_722:=nm_ hg BK720;have NB722_720:=nn_ hg BK720;replace BK720:=kc_ BK720 hb;have NB721_722:=nm_ hg BK721;have NB722_721:=nn_ hg BK721;replace BK721:=kc_ BK721 hb;clear hb hbox hg;have hnb40:=NB720_721.out;have hnc40:=NB721_720.out;have hnb41:=NB720_722.out;have hnc41:=NB722_720.out;obtain ⟨hcz42_0,hcz42_1,hfz42_0,hfz42_1⟩:=cf2_ BK720.out)|((with_reducible refine gate_callee (f:=73) rfl ?_);refine goesL_ (some 7) rfl rfl Try.func73 (by kernel_rfl) rfl #[.agg #[.int .i64 a0_0,.slice A0_1 l0_1.length c0_1]] rfl lp_ ?_;(with_reducible refine (impl_GradesValid.calls k a0_0 _ _ l0_1 true _ ?side1 ?side2 A3.out).mono ?_);(case side1 => exact cr_ (Kd.C_below HR0_1.out HB.out));(case side2 => exact HC0_1.out);rintro e w43 ⟨rfl,hb⟩;refine ⟨_,rfl,?_⟩;replace BK720:=kc_ BK720 hb;replace BK721:=kc_ BK721 hb;replace BK722:=kc_ BK722 hb;replace HB:=Aside0.mk (below_step (be3_ HB.out GE720.out GE721.out GE722.out) hb);(try clear hb);(try clear hb2);(try clear hk);(try clear hi);have hnb44:=NB721_722.out;have hnc44:=NB722_721.out;obtain ⟨hcz45_0,hcz45_1,hfz45_0,hfz45_1⟩:=cf2_ BK721.out)|(go_at_call 73;(with_reducible refine (impl_GradesValid.calls k a1_0 _ _ l1_1 false _ ?side1 ?side2 A5.out).mono ?_);(case side1 => exact cr_ (Kd.C_below HR1_1.out HB.out));(case side2 => exact HC1_1.out);rintro e w46 ⟨rfl,hb⟩;replace BK720:=kc_ BK720 hb;replace BK721:=kc_ BK721 hb;replace BK722:=kc_ BK722 hb;replace HB:=Aside0.mk (below_step (be3_ HB.out GE720.out GE721.out GE722.out) hb);(try clear hb);(try clear hb2);(try clear hk);(try clear hi);obtain ⟨hcz47_0,hcz47_1,hfz47_0,hfz47_1⟩:=cf2_ BK722.out))
   refine bodyPost_ret (results_ct rfl _ _ gb722 35 #[.int .i64 0,.slice none 0 0] (0,0) _ rfl (by refine pe_ ?_;refine blk_put (cs:=#[.int .i64 0,.slice none 0 0]) ?_ 1 _ rfl;refine pe_ ?_;refine blk_put (cs:=#[.int .i64 0,.slice none 0 0]) ?_ 0 _ rfl;refine pe_ ?_;exact BK722.out) Try.underlying35 rfl (by kernel_rfl)) rfl ?_
   exact ⟨_,er_,by first|exact Kd.R_nil _ _ _ _ _|exact Kd.N_nil _ _ _ _ _|exact Kd.V_nil _ _ _ _ _|exact Kd.Q_nil _ _ _ _ _|exact Kd.S_nil _ _ _ _ _,be3_ HB.out GE720.out GE721.out GE722.out⟩
 ·replace c4:=Bool.eq_false_iff.mpr c4
  subst c4
  have H1 : (some (0,([] : List Int),false)) = some (r1,r2,r3):=by rw [if_neg (show ¬ (false = true) by decide)] at H;exact H
  clear H
  have H:=H1
  clear H1
  simp only [Option.some.injEq,Prod.mk.injEq] at H
  obtain ⟨rfl,rfl,rfl⟩:=H
  go_enter Try.func56,Try.ntmps56
  go_wp2_with (first|((with_reducible refine bev_ (N:=2) rfl rfl (cs:=#[.int .i64 a0_0,.slice A0_1 l0_1.length c0_1]) (t:=35) ?hr ?_);(case hr => first|(go_simp;done)|(go_simp;rfl));intro gb720 hg w48 hbox hb;have BK720:=Aside0.mk (hbox);have GW720:=Aside0.mk (szg_ hg (below_size (be0_ HB.out)));have GE720:=GW720;replace HB:=Aside0.mk (below_step (be0_ HB.out) hb);clear hb hbox hg)|((with_reducible refine bev_ (N:=3) rfl rfl (cs:=#[.int .i64 a1_0,.slice A1_1 l1_1.length c1_1]) (t:=35) ?hr ?_);(case hr => first|(go_simp;done)|(go_simp;rfl));intro gb721 hg w49 hbox hb;have BK721:=Aside0.mk (hbox);have GW721:=Aside0.mk (szg_ hg (below_size (be1_ HB.out GE720.out)));have GE721:=GW721;replace HB:=Aside0.mk (below_step (be1_ HB.out GE720.out) hb);have NB720_721:=nm_ hg BK720;have NB721_720:=nn_ hg BK720;replace BK720:=kc_ BK720 hb;clear hb hbox hg)|((with_reducible refine bev_ (N:=4) rfl rfl (cs:=#[.int .i64 0,.slice none 0 0]) (t:=35) ?hr ?_);(case hr => first|(go_simp;done)|(go_simp;rfl));intro gb722 hg w50 hbox hb;have BK722:=Aside0.mk (hbox);have GW722:=Aside0.mk (szg_ hg (below_size (be2_ HB.out GE720.out GE721.out)));have GE722:=GW722;replace HB:=Aside0.mk (below_step (be2_ HB.out GE720.out GE721.out) hb);have NB720_722:=nm_ hg BK720;have NB722_720:=nn_ hg BK720;replace BK720:=kc_ BK720 hb;have NB721_722:=nm_ hg BK721;have NB722_721:=nn_ hg BK721;replace BK721:=kc_ BK721 hb;clear hb hbox hg;have hnb51:=NB720_721.out;have hnc51:=NB721_720.out;have hnb52:=NB720_722.out;have hnc52:=NB722_720.out;obtain ⟨hcz53_0,hcz53_1,hfz53_0,hfz53_1⟩:=cf2_ BK720.out)|((with_reducible refine gate_callee (f:=73) rfl ?_);refine goesL_ (some 7) rfl rfl Try.func73 (by kernel_rfl) rfl #[.agg #[.int .i64 a0_0,.slice A0_1 l0_1.length c0_1]] rfl lp_ ?_;(with_reducible refine (impl_GradesValid.calls k a0_0 _ _ l0_1 false _ ?side1 ?side2 A3.out).mono ?_);(case side1 => exact cr_ (Kd.C_below HR0_1.out HB.out));(case side2 => exact HC0_1.out);rintro e w54 ⟨rfl,hb⟩;refine ⟨_,rfl,?_⟩;replace BK720:=kc_ BK720 hb;replace BK721:=kc_ BK721 hb;replace BK722:=kc_ BK722 hb;replace HB:=Aside0.mk (below_step (be3_ HB.out GE720.out GE721.out GE722.out) hb);(try clear hb);(try clear hb2);(try clear hk);(try clear hi);have hnb55:=NB722_721.out;have hnc55:=NB721_722.out;obtain ⟨hcz56_0,hcz56_1,hfz56_0,hfz56_1⟩:=cf2_ BK722.out))
  refine bodyPost_ret (results_ct rfl _ _ gb722 35 #[.int .i64 0,.slice none 0 0] (0,0) _ rfl (by refine pe_ ?_;refine blk_put (cs:=#[.int .i64 0,.slice none 0 0]) ?_ 1 _ rfl;refine pe_ ?_;refine blk_put (cs:=#[.int .i64 0,.slice none 0 0]) ?_ 0 _ rfl;refine pe_ ?_;exact BK722.out) Try.underlying35 rfl (by kernel_rfl)) rfl ?_
  exact ⟨_,er_,by first|exact Kd.R_nil _ _ _ _ _|exact Kd.N_nil _ _ _ _ _|exact Kd.V_nil _ _ _ _ _|exact Kd.Q_nil _ _ _ _ _|exact Kd.S_nil _ _ _ _ _,be3_ HB.out GE720.out GE721.out GE722.out⟩
def impl_Stabilise_1.l0 : Nat → Int → Int → Int → Int → Int → Int → List Int → Option (Int)
 | 0,_,_,_,_,_,_,_ => none
 | k + 1,x0,x1,x6,x10,x11,x3000,x3001 => if x11 < x10 then ((impl_Matrix_at.f x3000 x3001 x11 x11).bind fun t742 => (if t742 = 1 then ((impl_Matrix_at.f x3000 x3001 x0 x11).bind fun t743 => ((impl_Matrix_at.f x3000 x3001 x11 x1).bind fun t744 => (impl_Stabilise_1.l0 k x0 x1 (mn x6 (mx (mx t743 2) t744)) x10 (wrap64 (x11 + 1)) x3000 x3001))) else ((impl_Matrix_at.f x3000 x3001 x0 x11).bind fun t745 => ((impl_Matrix_at.f x3000 x3001 x11 x1).bind fun t746 => (impl_Stabilise_1.l0 k x0 x1 (mn x6 (mx (mx t745 t742) t746)) x10 (wrap64 (x11 + 1)) x3000 x3001))))) else (some x6)
def impl_Stabilise_1.f (k : Nat) (a0 : Int) (a1 : Int) (a2_0 : Int) (l2_1 : List Int) : Option (Int):=impl_Stabilise_1.l0 k a0 a1 3 a2_0 0 a2_0 l2_1
theorem impl_Stabilise_1.mono_l : ∀ k,(∀ y0 y1 y2 y3 y4 y5 y6,LeO (impl_Stabilise_1.l0 k y0 y1 y2 y3 y4 y5 y6) (impl_Stabilise_1.l0 (k + 1) y0 y1 y2 y3 y4 y5 y6))
 | 0 => fun _ _ _ _ _ _ _ r h => by simp [impl_Stabilise_1.l0] at h
 | k + 1 => by
  have ih0:=impl_Stabilise_1.mono_l k
  ·intro y0 y1 y2 y3 y4 y5 y6
   unfold impl_Stabilise_1.l0
   repeat' first
   | (with_reducible exact ih0 _ _ _ _ _ _ _)
   | (with_reducible first|exact LeO.refl _|exact LeO.none _|refine LeO.ite ?_ ?_|refine LeO.bind ?_ (fun _ => ?_))
   | exact ih0 _ _ _ _ _ _ _
   | exact LeO.none _
   | refine LeO.ite ?_ ?_
   | refine LeO.bind ?_ (fun _ => ?_)
theorem impl_Stabilise_1.mono : ∀ a0 a1 a2 a3 k,LeO (impl_Stabilise_1.f k a0 a1 a2 a3) (impl_Stabilise_1.f (k + 1) a0 a1 a2 a3):=by
 intro a0 a1 a2 a3 k
 have ih0:=impl_Stabilise_1.mono_l k
 unfold impl_Stabilise_1.f
 repeat' first
   | (with_reducible exact ih0 _ _ _ _ _ _ _)
   | (with_reducible first|exact LeO.refl _|exact LeO.none _|refine LeO.ite ?_ ?_|refine LeO.bind ?_ (fun _ => ?_))
   | exact ih0 _ _ _ _ _ _ _
   | exact LeO.none _
   | refine LeO.ite ?_ ?_
   | refine LeO.bind ?_ (fun _ => ?_)
def impl_Stabilise_1.T8 : Bool × List (List Nat × List Nat):=(true,[([],[]),([],[]),([],[]),([],[]),([1,2,3],[1,2,3]),([],[]),([],[]),([],[]),([],[]),([6,7,8,4],[6,7,8]),([4,5,9],[4,5,9]),([0,10],[0,10]),([11,9,0,1,2,3,4,5,6,7,8,9,10,11],[0,11])])
def impl_Stabilise_1.B8 : List Nat:=[0,0,0,0,14,0,0,0,0,478,1022,2047,4095]
theorem impl_Stabilise_1.tab8 : rtab .any (opsOf Try.f113 8) = impl_Stabilise_1.T8:=by kernel_rfl
theorem impl_Stabilise_1.bits8 : waitsOk impl_Stabilise_1.T8.2 impl_Stabilise_1.B8 = true:=by kernel_rfl
set_option maxHeartbeats 8000000 in
set_option maxRecDepth 100000 in
theorem impl_Stabilise_1.calls (k : Nat) (a0 : Int) (a1 : Int) (g2 : Nat) (a2_0 : Int) (A2_1 : Option Addr) (c2_1 : Nat) (l2_1 : List Int) (r : Int) (w : World) (hr2_1 : Kd.C (Kd.int .i64) w A2_1 l2_1.length l2_1) (hc2_1 : l2_1.length ≤ c2_1) (hb2 : w.heap[g2]? = some (.cells #[.int .i64 a2_0,.slice A2_1 l2_1.length c2_1] 35 (0,0))) (h : impl_Stabilise_1.f k a0 a1 a2_0 l2_1 = some r) :
  Calls Try.prog 113 #[.int .i64 a0,.int .i64 a1,.pointer (some ⟨g2,0,none⟩)] w fun e w' => e = .returned (.int .i64 r) ∧ Below w.heap.size w w':=by
 have hu35:=Try.underlying35
 have HR2_1:=Aside0.mk hr2_1
 have HC2_1:=Aside0.mk hc2_1
 clear hr2_1 hc2_1
 have BK2:=Aside0.mk hb2
 clear hb2
 have HB:=Aside0.mk (Below.refl w.heap.size w)
 have H : (impl_Stabilise_1.l0 k a0 a1 3 a2_0 0 a2_0 l2_1) = some r:=h
 clear h
 have H':=Aside0.mk H
 clear H
 obtain ⟨hcz4_0,hcz4_1,hfz4_0,hfz4_1⟩:=cf2_ BK2.out
 go_enter Try.func113,Try.ntmps113
 go_wp2
 go_loopg [6,11] k (fun kq v6 v11 w' => ∃ (x6_1 : Int) (x11_1 : Int),v6 = .int .i64 x6_1 ∧ v11 = .int .i64 x11_1 ∧ Aside0 (impl_Stabilise_1.l0 kq a0 a1 x6_1 a2_0 x11_1 a2_0 l2_1 = some r) ∧ Aside0 (kq ≤ k) ∧ Aside0 (w'.heap[g2]? = some (.cells #[.int .i64 a2_0,(.slice A2_1 l2_1.length c2_1)] 35 (0,0))) ∧ Aside0 (Below w.heap.size w w'))
 case atStart => exact ⟨(3),(0),rs_,rs_,H',⟨Nat.le_refl _⟩,⟨pe_ BK2.out⟩,⟨be0_ HB.out⟩⟩
 case round =>
  clear H'
  try clear c1
  try clear c2
  try clear p2
  obtain ⟨x6_1,x11_1,rfl,rfl,HA,HK1,BK2,HB⟩:=hrel
  cases gk with
  | zero => exact absurd HA.out (by simp [impl_Stabilise_1.l0])
  | succ k1 =>
   have H:=HA.out
   clear HA
   simp only [impl_Stabilise_1.l0] at H
   by_cases c5 : x11_1 < a2_0
   ·rw [if_pos c5] at H
    have c5b0 : decide (x11_1 < a2_0) = true:=decide_eq_true c5
    clear c5
    replace H:=Option.bind_eq_some_iff.mp H
    obtain ⟨t742,A60,H⟩:=H
    replace H : (if t742 = 1 then ((impl_Matrix_at.f a2_0 l2_1 a0 x11_1).bind fun t743 => ((impl_Matrix_at.f a2_0 l2_1 x11_1 a1).bind fun t744 => (impl_Stabilise_1.l0 k1 a0 a1 (mn x6_1 (mx (mx t743 2) t744)) a2_0 (wrap64 (x11_1 + 1)) a2_0 l2_1))) else ((impl_Matrix_at.f a2_0 l2_1 a0 x11_1).bind fun t745 => ((impl_Matrix_at.f a2_0 l2_1 x11_1 a1).bind fun t746 => (impl_Stabilise_1.l0 k1 a0 a1 (mn x6_1 (mx (mx t745 t742) t746)) a2_0 (wrap64 (x11_1 + 1)) a2_0 l2_1)))) = some r:=H
    have A6:=Aside0.mk A60
    clear A60
    by_cases c7 : t742 = 1
    ·rw [if_pos c7] at H
     have c7b0 : (t742 == 1) = true:=beq_iff_eq.mpr c7
     have c7b1 : (t742 != 1) = false:=bne_eq_false_iff_eq.mpr c7
     clear c7
     replace H:=Option.bind_eq_some_iff.mp H
     obtain ⟨t743,A80,H⟩:=H
     replace H : ((impl_Matrix_at.f a2_0 l2_1 x11_1 a1).bind fun t744 => (impl_Stabilise_1.l0 k1 a0 a1 (mn x6_1 (mx (mx t743 2) t744)) a2_0 (wrap64 (x11_1 + 1)) a2_0 l2_1)) = some r:=H
     have A8:=Aside0.mk A80
     clear A80
     replace H:=Option.bind_eq_some_iff.mp H
     obtain ⟨t744,A90,H⟩:=H
     replace H : (impl_Stabilise_1.l0 k1 a0 a1 (mn x6_1 (mx (mx t743 2) t744)) a2_0 (wrap64 (x11_1 + 1)) a2_0 l2_1) = some r:=H
     have A9:=Aside0.mk A90
     clear A90
     obtain ⟨ji10,hji10⟩ : ∃ j_ : Int,(mx t743 2) = j_:=⟨_,rfl⟩
     replace H : (impl_Stabilise_1.l0 k1 a0 a1 (mn x6_1 (mx (ji10) t744)) a2_0 (wrap64 (x11_1 + 1)) a2_0 l2_1) = some r:=by first|(rw [hji10] at H;exact H)|(simp only [hji10] at H ⊢;exact H)
     (try rw [hji10] at A6)
     (try rw [hji10] at A8)
     (try rw [hji10] at A9)
     (try (have hji10l : 2 ≤ ji10:=by (rw [← hji10];unfold mx;(repeat' split) <;> omega)))
     (try (have hji10m : 0 ≤ ji10:=by omega))
     have hji10_ : (if t743 < 2 then 2 else t743) = ji10:=hji10
     obtain ⟨ji11,hji11⟩ : ∃ j_ : Int,(mx (ji10) t744) = j_:=⟨_,rfl⟩
     replace H : (impl_Stabilise_1.l0 k1 a0 a1 (mn x6_1 (ji11)) a2_0 (wrap64 (x11_1 + 1)) a2_0 l2_1) = some r:=by first|(rw [hji11] at H;exact H)|(simp only [hji11] at H ⊢;exact H)
     (try rw [hji11] at A6)
     (try rw [hji11] at A8)
     (try rw [hji11] at A9)
     have hji11_ : (if (ji10) < t744 then t744 else (ji10)) = ji11:=hji11
     obtain ⟨ji12,hji12⟩ : ∃ j_ : Int,(mn x6_1 (ji11)) = j_:=⟨_,rfl⟩
     replace H : (impl_Stabilise_1.l0 k1 a0 a1 ji12 a2_0 (wrap64 (x11_1 + 1)) a2_0 l2_1) = some r:=by first|(rw [hji12] at H;exact H)|(simp only [hji12] at H ⊢;exact H)
     (try rw [hji12] at A6)
     (try rw [hji12] at A8)
     (try rw [hji12] at A9)
     have hji12_ : (if (ji11) < x6_1 then (ji11) else x6_1) = ji12:=hji12
     have H':=Aside0.mk H
     clear H
     obtain ⟨hcz13_0,hcz13_1,hfz13_0,hfz13_1⟩:=cf2_ BK2.out
     try go_wp2_with (first|((with_reducible refine gate_callee (f:=74) rfl ?_);refine goesL_ (some 17) rfl rfl Try.func74 (by kernel_rfl) rfl #[.agg #[.int .i64 a2_0,.slice A2_1 l2_1.length c2_1],.int .i64 x11_1,.int .i64 x11_1] rfl lp_ ?_;(with_reducible refine (impl_Matrix_at.calls a2_0 _ _ l2_1 x11_1 x11_1 t742 _ ?side1 ?side2 A6.out).mono ?_);(case side1 => exact cr_ (Kd.C_below HR2_1.out HB.out));(case side2 => exact HC2_1.out);rintro e w14 ⟨rfl,hb⟩;refine ⟨_,rfl,?_⟩;replace BK2:=kc_ BK2 hb;replace HB:=Aside0.mk (below_step (be0_ HB.out) hb);(try clear hb);(try clear hb2);(try clear hk);(try clear hi)))
     replace BK2:=Aside0.mk (blk_drew BK2.out)
     replace HB:=Aside0.mk (below_drew1 HB.out)
     refine start_ (n:=13) (S:=fun w' => w'.cell? ⟨g2,0,none⟩ = some (.int .i64 a2_0) ∧ w'.cell? ⟨g2,1,none⟩ = some (.slice A2_1 l2_1.length c2_1)) (ds:=[]) #[false,false,false,false,false,false,false,false,false,false,false,false,false] (by kernel_rfl) rfl rfl ⟨bc_ BK2 0,bc_ BK2 1⟩ (fun hHeld => ?_);refine with_tabW impl_Stabilise_1.tab8 impl_Stabilise_1.bits8 (fun HT_ HW_ => ?_)
     generalize w14.drew = w15 at BK2 HB hHeld ⊢
     refine stW_ [.p 0 20,.p 2 22,.p 3 23,.p 5 25,.p 7 27,.p 8 28,.t 1 21,.t 6 26] 8 495 13 HT_.out HW_.out hHeld (a':=?_) ?_ rfl (by kernel_rfl) (fun _ _ _ _ h => h) ?_
     rotate_left
     ·repeat (first|exact Steps.nil|(refine Steps.p (oi:=?_) (v:=?_) (a1:=?_) ?_ ?_ ?_ ?_ ?_;rotate_left 2;rfl;rfl;(refine Or.inl ⟨by rfl,?_⟩;intro w';go_simp;with_reducible rfl);rotate_left;exact ap_)|(refine Steps.t (oi:=?_) (v:=?_) (a1:=?_) ?_ ?_ ?_ ?_ ?_;rotate_left 2;rfl;rfl;(refine Or.inl ⟨by rfl,?_⟩;rintro w' ⟨s0,s1⟩;go_simp;with_reducible rfl);rotate_left;exact ap_))
     refine one_ (i:=4) (N:=some 24) #[true,true,true,true,true,true,true,true,true,false,false,false,false] rfl rfl (one_of HT_.out (by kernel_rfl)) (by decide) (fun K hK => ?_)
     refine goes_ Try.func74 (by kernel_rfl) rfl #[.agg #[.int .i64 a2_0,.slice A2_1 l2_1.length c2_1],.int .i64 a0,.int .i64 x11_1] (by rfl) rfl rfl lp_ ?_
     with_reducible refine (impl_Matrix_at.calls a2_0 _ _ l2_1 a0 x11_1 t743 _ ?side1 ?side2 A8.out).mono ?_
     (case side1 => exact cr_ (Kd.C_below HR2_1.out HB.out))
     (case side2 => exact HC2_1.out)
     rintro e w16 ⟨rfl,hb⟩
     refine ⟨_,rfl,?_⟩
     replace BK2:=kc_ BK2 hb
     replace HB:=Aside0.mk (below_step (be0_ HB.out) hb)
     (try clear hb)
     (try clear hb2)
     (try clear hk)
     (try clear hi)
     refine hK.out _ _ ⟨bc_ BK2 0,bc_ BK2 1⟩ (fun hHeld => ?_)
     clear hK K
     refine norm_ (a':=?_) ?_ ?_
     rotate_left
     ·show Act.put _ (some 24) _ = _
      simp only [Act.put,List.setIfInBounds_toArray,List.set_cons_zero,List.set_cons_succ,i64_w,i32_w]
      rfl
     refine one_ (i:=9) (N:=some 29) #[true,true,true,true,true,true,true,true,true,true,false,false,false] rfl rfl (one_of HT_.out (by kernel_rfl)) (by decide) (fun K hK => ?_)
     refine goes_ Try.func74 (by kernel_rfl) rfl #[.agg #[.int .i64 a2_0,.slice A2_1 l2_1.length c2_1],.int .i64 x11_1,.int .i64 a1] (by rfl) rfl rfl lp_ ?_
     with_reducible refine (impl_Matrix_at.calls a2_0 _ _ l2_1 x11_1 a1 t744 _ ?side1 ?side2 A9.out).mono ?_
     (case side1 => exact cr_ (Kd.C_below HR2_1.out HB.out))
     (case side2 => exact HC2_1.out)
     rintro e w17 ⟨rfl,hb⟩
     refine ⟨_,rfl,?_⟩
     replace BK2:=kc_ BK2 hb
     replace HB:=Aside0.mk (below_step (be0_ HB.out) hb)
     (try clear hb)
     (try clear hb2)
     (try clear hk)
     (try clear hi)
     refine hK.out _ _ ⟨bc_ BK2 0,bc_ BK2 1⟩ (fun hHeld => ?_)
     clear hK K
     refine norm_ (a':=?_) ?_ ?_
     rotate_left
     ·show Act.put _ (some 29) _ = _
      simp only [Act.put,List.setIfInBounds_toArray,List.set_cons_zero,List.set_cons_succ,i64_w,i32_w]
      rfl
     refine stW_ [.p 10 30,.p 11 31,.p 12 6] 3 8191 13 HT_.out HW_.out hHeld (a':=?_) ?_ rfl (by kernel_rfl) (fun _ _ _ _ h => h) ?_
     rotate_left
     ·repeat (first|exact Steps.nil|(refine Steps.p (oi:=?_) (v:=?_) (a1:=?_) ?_ ?_ ?_ ?_ ?_;rotate_left 2;rfl;rfl;(refine Or.inl ⟨by rfl,?_⟩;intro w';go_simp;with_reducible rfl);rotate_left;exact ap_))
     refine done_ (done_of HT_.out (by kernel_rfl)) ?_
     try go_wp2
     go_roundg k1
     case measure => have:=HK1.out;omega
     case rel => exact ⟨(ji12),(wrap64 (x11_1 + 1)),(by first|rfl|(simp;done)|(simp only [← hji12] <;> (first|rfl|simp))|(simp [*];done)),rs_,H',⟨by have:=HK1.out;omega⟩,⟨pe_ BK2.out⟩,⟨be0_ HB.out⟩⟩
    ·rw [if_neg c7] at H
     have c7b0 : (t742 == 1) = false:=beq_eq_false_iff_ne.mpr c7
     have c7b1 : (t742 != 1) = true:=bne_iff_ne.mpr c7
     replace H:=Option.bind_eq_some_iff.mp H
     obtain ⟨t745,A180,H⟩:=H
     replace H : ((impl_Matrix_at.f a2_0 l2_1 x11_1 a1).bind fun t746 => (impl_Stabilise_1.l0 k1 a0 a1 (mn x6_1 (mx (mx t745 t742) t746)) a2_0 (wrap64 (x11_1 + 1)) a2_0 l2_1)) = some r:=H
     have A18:=Aside0.mk A180
     clear A180
     replace H:=Option.bind_eq_some_iff.mp H
     obtain ⟨t746,A190,H⟩:=H
     replace H : (impl_Stabilise_1.l0 k1 a0 a1 (mn x6_1 (mx (mx t745 t742) t746)) a2_0 (wrap64 (x11_1 + 1)) a2_0 l2_1) = some r:=H
     have A19:=Aside0.mk A190
     clear A190
     obtain ⟨ji20,hji20⟩ : ∃ j_ : Int,(mx t745 t742) = j_:=⟨_,rfl⟩
     replace H : (impl_Stabilise_1.l0 k1 a0 a1 (mn x6_1 (mx (ji20) t746)) a2_0 (wrap64 (x11_1 + 1)) a2_0 l2_1) = some r:=by first|(rw [hji20] at H;exact H)|(simp only [hji20] at H ⊢;exact H)
     (try rw [hji20] at A6)
     (try rw [hji20] at A18)
     (try rw [hji20] at A19)
     have hji20_ : (if t745 < t742 then t742 else t745) = ji20:=hji20
     obtain ⟨ji21,hji21⟩ : ∃ j_ : Int,(mx (ji20) t746) = j_:=⟨_,rfl⟩
     replace H : (impl_Stabilise_1.l0 k1 a0 a1 (mn x6_1 (ji21)) a2_0 (wrap64 (x11_1 + 1)) a2_0 l2_1) = some r:=by first|(rw [hji21] at H;exact H)|(simp only [hji21] at H ⊢;exact H)
     (try rw [hji21] at A6)
     (try rw [hji21] at A18)
     (try rw [hji21] at A19)
     have hji21_ : (if (ji20) < t746 then t746 else (ji20)) = ji21:=hji21
     obtain ⟨ji22,hji22⟩ : ∃ j_ : Int,(mn x6_1 (ji21)) = j_:=⟨_,rfl⟩
     replace H : (impl_Stabilise_1.l0 k1 a0 a1 ji22 a2_0 (wrap64 (x11_1 + 1)) a2_0 l2_1) = some r:=by first|(rw [hji22] at H;exact H)|(simp only [hji22] at H ⊢;exact H)
     (try rw [hji22] at A6)
     (try rw [hji22] at A18)
     (try rw [hji22] at A19)
     have hji22_ : (if (ji21) < x6_1 then (ji21) else x6_1) = ji22:=hji22
     have H':=Aside0.mk H
     clear H
     obtain ⟨hcz23_0,hcz23_1,hfz23_0,hfz23_1⟩:=cf2_ BK2.out
     try go_wp2_with (first|((with_reducible refine gate_callee (f:=74) rfl ?_);refine goesL_ (some 17) rfl rfl Try.func74 (by kernel_rfl) rfl #[.agg #[.int .i64 a2_0,.slice A2_1 l2_1.length c2_1],.int .i64 x11_1,.int .i64 x11_1] rfl lp_ ?_;(with_reducible refine (impl_Matrix_at.calls a2_0 _ _ l2_1 x11_1 x11_1 t742 _ ?side1 ?side2 A6.out).mono ?_);(case side1 => exact cr_ (Kd.C_below HR2_1.out HB.out));(case side2 => exact HC2_1.out);rintro e w24 ⟨rfl,hb⟩;refine ⟨_,rfl,?_⟩;replace BK2:=kc_ BK2 hb;replace HB:=Aside0.mk (below_step (be0_ HB.out) hb);(try clear hb);(try clear hb2);(try clear hk);(try clear hi)))
     replace BK2:=Aside0.mk (blk_drew BK2.out)
     replace HB:=Aside0.mk (below_drew1 HB.out)
     refine start_ (n:=13) (S:=fun w' => w'.cell? ⟨g2,0,none⟩ = some (.int .i64 a2_0) ∧ w'.cell? ⟨g2,1,none⟩ = some (.slice A2_1 l2_1.length c2_1)) (ds:=[]) #[false,false,false,false,false,false,false,false,false,false,false,false,false] (by kernel_rfl) rfl rfl ⟨bc_ BK2 0,bc_ BK2 1⟩ (fun hHeld => ?_);refine with_tabW impl_Stabilise_1.tab8 impl_Stabilise_1.bits8 (fun HT_ HW_ => ?_)
     generalize w24.drew = w25 at BK2 HB hHeld ⊢
     refine stW_ [.p 0 20,.p 2 22,.p 3 23,.p 5 25,.p 7 27,.p 8 28,.t 1 21,.t 6 26] 8 495 13 HT_.out HW_.out hHeld (a':=?_) ?_ rfl (by kernel_rfl) (fun _ _ _ _ h => h) ?_
     rotate_left
     ·repeat (first|exact Steps.nil|(refine Steps.p (oi:=?_) (v:=?_) (a1:=?_) ?_ ?_ ?_ ?_ ?_;rotate_left 2;rfl;rfl;(refine Or.inl ⟨by rfl,?_⟩;intro w';go_simp;with_reducible rfl);rotate_left;exact ap_)|(refine Steps.t (oi:=?_) (v:=?_) (a1:=?_) ?_ ?_ ?_ ?_ ?_;rotate_left 2;rfl;rfl;(refine Or.inl ⟨by rfl,?_⟩;rintro w' ⟨s0,s1⟩;go_simp;with_reducible rfl);rotate_left;exact ap_))
     refine one_ (i:=4) (N:=some 24) #[true,true,true,true,true,true,true,true,true,false,false,false,false] rfl rfl (one_of HT_.out (by kernel_rfl)) (by decide) (fun K hK => ?_)
     refine goes_ Try.func74 (by kernel_rfl) rfl #[.agg #[.int .i64 a2_0,.slice A2_1 l2_1.length c2_1],.int .i64 a0,.int .i64 x11_1] (by rfl) rfl rfl lp_ ?_
     with_reducible refine (impl_Matrix_at.calls a2_0 _ _ l2_1 a0 x11_1 t745 _ ?side1 ?side2 A18.out).mono ?_
     (case side1 => exact cr_ (Kd.C_below HR2_1.out HB.out))
     (case side2 => exact HC2_1.out)
     rintro e w26 ⟨rfl,hb⟩
     refine ⟨_,rfl,?_⟩
     replace BK2:=kc_ BK2 hb
     replace HB:=Aside0.mk (below_step (be0_ HB.out) hb)
     (try clear hb)
     (try clear hb2)
     (try clear hk)
     (try clear hi)
     refine hK.out _ _ ⟨bc_ BK2 0,bc_ BK2 1⟩ (fun hHeld => ?_)
     clear hK K
     refine norm_ (a':=?_) ?_ ?_
     rotate_left
     ·show Act.put _ (some 24) _ = _
      simp only [Act.put,List.setIfInBounds_toArray,List.set_cons_zero,List.set_cons_succ,i64_w,i32_w]
      rfl
     refine one_ (i:=9) (N:=some 29) #[true,true,true,true,true,true,true,true,true,true,false,false,false] rfl rfl (one_of HT_.out (by kernel_rfl)) (by decide) (fun K hK => ?_)
     refine goes_ Try.func74 (by kernel_rfl) rfl #[.agg #[.int .i64 a2_0,.slice A2_1 l2_1.length c2_1],.int .i64 x11_1,.int .i64 a1] (by rfl) rfl rfl lp_ ?_
     with_reducible refine (impl_Matrix_at.calls a2_0 _ _ l2_1 x11_1 a1 t746 _ ?side1 ?side2 A19.out).mono ?_
     (case side1 => exact cr_ (Kd.C_below HR2_1.out HB.out))
     (case side2 => exact HC2_1.out)
     rintro e w27 ⟨rfl,hb⟩
     refine ⟨_,rfl,?_⟩
     replace BK2:=kc_ BK2 hb
     replace HB:=Aside0.mk (below_step (be0_ HB.out) hb)
     (try clear hb)
     (try clear hb2)
     (try clear hk)
     (try clear hi)
     refine hK.out _ _ ⟨bc_ BK2 0,bc_ BK2 1⟩ (fun hHeld => ?_)
     clear hK K
     refine norm_ (a':=?_) ?_ ?_
     rotate_left
     ·show Act.put _ (some 29) _ = _
      simp only [Act.put,List.setIfInBounds_toArray,List.set_cons_zero,List.set_cons_succ,i64_w,i32_w]
      rfl
     refine stW_ [.p 10 30,.p 11 31,.p 12 6] 3 8191 13 HT_.out HW_.out hHeld (a':=?_) ?_ rfl (by kernel_rfl) (fun _ _ _ _ h => h) ?_
     rotate_left
     ·repeat (first|exact Steps.nil|(refine Steps.p (oi:=?_) (v:=?_) (a1:=?_) ?_ ?_ ?_ ?_ ?_;rotate_left 2;rfl;rfl;(refine Or.inl ⟨by rfl,?_⟩;intro w';go_simp;with_reducible rfl);rotate_left;exact ap_))
     refine done_ (done_of HT_.out (by kernel_rfl)) ?_
     try go_wp2
     go_roundg k1
     case measure => have:=HK1.out;omega
     case rel => exact ⟨(ji22),(wrap64 (x11_1 + 1)),(by first|rfl|(simp;done)|(simp only [← hji22] <;> (first|rfl|simp))|(simp [*];done)),rs_,H',⟨by have:=HK1.out;omega⟩,⟨pe_ BK2.out⟩,⟨be0_ HB.out⟩⟩
   ·rw [if_neg c5] at H
    have c5b0 : decide (x11_1 < a2_0) = false:=decide_eq_false c5
    clear c5
    obtain rfl:=Option.some.inj H
    go_wp2
    go_ret
    exact ⟨er_,be0_ HB.out⟩
def impl_filled__impl_Stabilise_1.f (k : Nat) (a0 : Int) (a1_0 : Int) (l1_1 : List Int) : Option (Int × List Int):=impl_filled.f (fun y0 y1 => impl_Stabilise_1.f k  y0 y1 a1_0 l1_1) k a0
theorem impl_filled__impl_Stabilise_1.mono : ∀ b0 b1 b2 k,LeO (impl_filled__impl_Stabilise_1.f k b0 b1 b2) (impl_filled__impl_Stabilise_1.f (k + 1) b0 b1 b2):=by
 intro b0 b1 b2 k
 exact impl_filled.monoP (fun _ _ => impl_Stabilise_1.mono _ _ _ _ _) _ k
set_option maxHeartbeats 2000000 in
theorem impl_filled__impl_Stabilise_1.calls (k : Nat) (a0 : Int) (g1 : Nat) (a1_0 : Int) (A1_1 : Option Addr) (c1_1 : Nat) (l1_1 : List Int) (r1 : Int) (r2 : List Int) (w : World) (hr1_1 : Kd.C (Kd.int .i64) w A1_1 l1_1.length l1_1) (hc1_1 : l1_1.length ≤ c1_1) (hb1 : w.heap[g1]? = some (.cells #[.int .i64 a1_0,.slice A1_1 l1_1.length c1_1] 35 (0,0))) (h : impl_filled__impl_Stabilise_1.f k a0 a1_0 l1_1 = some (r1,r2)) :
  Calls Try.prog 112 #[.int .i64 a0,.func (.func 113) #[] #[.pointer (some ⟨g1,0,none⟩)]] w fun e w' => ∃ v1_ : Value,e = .returned (.agg #[.int .i64 r1,v1_]) ∧ Kd.R (Kd.int .i64) 3 w' w.heap.size (fun _ => True) v1_ r2 ∧ Below w.heap.size w w':=by
 refine impl_filled.calls k a0 113 #[] #[.pointer (some ⟨g1,0,none⟩)] (fun y0 y1 => impl_Stabilise_1.f k  y0 y1 a1_0 l1_1) r1 r2 w  ⟨_,Try.func113,rfl,rfl⟩ ?_ h
 intro ay0 ay1 z0 W_ hB_  h_
 refine calls_of_args (args':=#[.int .i64 ay0,.int .i64 ay1,.pointer (some ⟨g1,0,none⟩)]) (by simp) ?_
 refine (impl_Stabilise_1.calls k ay0 ay1 g1 a1_0 A1_1 c1_1 l1_1 z0 W_ (Kd.C_below hr1_1 hB_) hc1_1 (blk_below hb1 hB_) h_).mono ?_
 exact fun e w' h => h
def slices_Equal_int_int.l0 : Nat → List Int → List Int → Int → Int → Option (Bool)
 | 0,_,_,_,_ => none
 | k + 1,x0,x1,x12,x13 => if x13 < x12 then (if 0 ≤ x13 then (if x13 < (x0.length : Int) then (if x13 < (x1.length : Int) then (if (rd x0 x13) = (rd x1 x13) then (slices_Equal_int_int.l0 k x0 x1 x12 (wrap64 (x13 + 1))) else (some false)) else (none)) else (none)) else (none)) else (some true)
def slices_Equal_int_int.f (k : Nat) (l0 : List Int) (l1 : List Int) : Option (Bool):=if (l0.length : Int) = (l1.length : Int) then (slices_Equal_int_int.l0 k l0 l1 (l0.length : Int) 0) else (some false)
theorem slices_Equal_int_int.mono_l : ∀ k,(∀ y0 y1 y2 y3,LeO (slices_Equal_int_int.l0 k y0 y1 y2 y3) (slices_Equal_int_int.l0 (k + 1) y0 y1 y2 y3))
 | 0 => fun _ _ _ _ r h => by simp [slices_Equal_int_int.l0] at h
 | k + 1 => by
  have ih0:=slices_Equal_int_int.mono_l k
  ·intro y0 y1 y2 y3
   unfold slices_Equal_int_int.l0
   repeat' first
   | (with_reducible exact ih0 _ _ _ _)
   | (with_reducible first|exact LeO.refl _|exact LeO.none _|refine LeO.ite ?_ ?_|refine LeO.bind ?_ (fun _ => ?_))
   | exact ih0 _ _ _ _
   | exact LeO.none _
   | refine LeO.ite ?_ ?_
   | refine LeO.bind ?_ (fun _ => ?_)
theorem slices_Equal_int_int.mono : ∀ a0 a1 k,LeO (slices_Equal_int_int.f k a0 a1) (slices_Equal_int_int.f (k + 1) a0 a1):=by
 intro a0 a1 k
 have ih0:=slices_Equal_int_int.mono_l k
 unfold slices_Equal_int_int.f
 repeat' first
   | (with_reducible exact ih0 _ _ _ _)
   | (with_reducible first|exact LeO.refl _|exact LeO.none _|refine LeO.ite ?_ ?_|refine LeO.bind ?_ (fun _ => ?_))
   | exact ih0 _ _ _ _
   | exact LeO.none _
   | refine LeO.ite ?_ ?_
   | refine LeO.bind ?_ (fun _ => ?_)
set_option maxHeartbeats 8000000 in
set_option maxRecDepth 100000 in
theorem slices_Equal_int_int.calls (k : Nat) (A0 : Option Addr) (c0 : Nat) (l0 : List Int) (A1 : Option Addr) (c1 : Nat) (l1 : List Int) (r : Bool) (w : World) (hr0 : Kd.C (Kd.int .i64) w A0 l0.length l0) (hc0 : l0.length ≤ c0) (hr1 : Kd.C (Kd.int .i64) w A1 l1.length l1) (hc1 : l1.length ≤ c1) (h : slices_Equal_int_int.f k l0 l1 = some r) :
  Calls Try.prog 149 #[.slice A0 l0.length c0,.slice A1 l1.length c1] w fun e w' => e = .returned (.bool r) ∧ Drawn0 w w':=by
 have HR0:=Aside0.mk hr0
 have HC0:=Aside0.mk hc0
 clear hr0 hc0
 have HR1:=Aside0.mk hr1
 have HC1:=Aside0.mk hc1
 clear hr1 hc1
 have H : (if (l0.length : Int) = (l1.length : Int) then (slices_Equal_int_int.l0 k l0 l1 (l0.length : Int) 0) else (some false)) = some r:=h
 clear h
 by_cases c3 : (l0.length : Int) = (l1.length : Int)
 ·rw [if_pos c3] at H
  have c3b0 : ((l0.length : Int) == (l1.length : Int)) = true:=beq_iff_eq.mpr c3
  have c3b1 : ((l0.length : Int) != (l1.length : Int)) = false:=bne_eq_false_iff_eq.mpr c3
  have c3b2 : (l0.length == l1.length) = true:=by first|simpa using c3|(simp at c3 ⊢;omega)
  clear c3
  have H':=Aside0.mk H
  clear H
  go_enter Try.func149,Try.ntmps149
  go_wp2
  repeat (go_quiet (fail);try go_wp2)
  go_loopg [13] k (fun kq v13 w' => ∃ (x13_1 : Int),v13 = .int .i64 x13_1 ∧ Aside0 (slices_Equal_int_int.l0 kq l0 l1 (l0.length : Int) x13_1 = some r) ∧ Aside0 (kq ≤ k) ∧ Drawn0 w w')
  case atStart => exact ⟨(0),rs_,H',⟨Nat.le_refl _⟩,by repeat (first|exact Drawn0.refl _|apply Drawn0.step)⟩
  case round =>
   clear H'
   try clear c1
   try clear p2
   try clear c3
   try clear c3b0
   try clear c3b1
   try clear c3b2
   obtain ⟨x13_1,rfl,HA,HK1,⟨m1,rfl⟩⟩:=hrel
   cases gk with
   | zero => exact absurd HA.out (by simp [slices_Equal_int_int.l0])
   | succ k1 =>
    have H:=HA.out
    clear HA
    simp only [slices_Equal_int_int.l0] at H
    by_cases c4 : x13_1 < (l0.length : Int)
    ·rw [if_pos c4] at H
     have c4b0 : decide (x13_1 < (l0.length : Int)) = true:=decide_eq_true c4
     clear c4
     by_cases c5 : 0 ≤ x13_1
     ·rw [if_pos c5] at H
      have c5b0 : decide (0 ≤ x13_1) = true:=decide_eq_true c5
      clear c5
      by_cases c6 : x13_1 < (l0.length : Int)
      ·rw [if_pos c6] at H
       have c6b0 : decide (x13_1 < (l0.length : Int)) = true:=decide_eq_true c6
       clear c6
       by_cases c7 : x13_1 < (l1.length : Int)
       ·rw [if_pos c7] at H
        have c7b0 : decide (x13_1 < (l1.length : Int)) = true:=decide_eq_true c7
        clear c7
        by_cases c8 : (rd l0 x13_1) = (rd l1 x13_1)
        ·rw [if_pos c8] at H
         have c8b0 : ((rd l0 x13_1) == (rd l1 x13_1)) = true:=beq_iff_eq.mpr c8
         have c8b1 : ((rd l0 x13_1) != (rd l1 x13_1)) = false:=bne_eq_false_iff_eq.mpr c8
         clear c8
         have H':=Aside0.mk H
         clear H
         have p729 : 0 ≤ (x13_1 : Int):=od_
         have q729 : x13_1 < (l0.length : Int):=od_
         obtain ⟨ad729,e729,hx729_0⟩:=Kd.at_int HR0.out x13_1 p729 q729
         cases e729
         replace p729:=eq_true p729
         replace q729:=eq_true q729
         have p730 : 0 ≤ (x13_1 : Int):=od_
         have q730 : x13_1 < (l1.length : Int):=od_
         obtain ⟨ad730,e730,hx730_0⟩:=Kd.at_int HR1.out x13_1 p730 q730
         cases e730
         replace p730:=eq_true p730
         replace q730:=eq_true q730
         go_wp2
         repeat (go_quiet (fail);try go_wp2)
         go_roundg k1
         case measure => have:=HK1.out;omega
         case rel => exact ⟨(wrap64 (x13_1 + 1)),rs_,H',⟨by have:=HK1.out;omega⟩,by repeat (first|exact Drawn0.refl _|apply Drawn0.step)⟩
        ·rw [if_neg c8] at H
         have c8b0 : ((rd l0 x13_1) == (rd l1 x13_1)) = false:=beq_eq_false_iff_ne.mpr c8
         have c8b1 : ((rd l0 x13_1) != (rd l1 x13_1)) = true:=bne_iff_ne.mpr c8
         obtain rfl:=Option.some.inj H
         have p729 : 0 ≤ (x13_1 : Int):=od_
         have q729 : x13_1 < (l0.length : Int):=od_
         obtain ⟨ad729,e729,hx729_0⟩:=Kd.at_int HR0.out x13_1 p729 q729
         cases e729
         replace p729:=eq_true p729
         replace q729:=eq_true q729
         have p730 : 0 ≤ (x13_1 : Int):=od_
         have q730 : x13_1 < (l1.length : Int):=od_
         obtain ⟨ad730,e730,hx730_0⟩:=Kd.at_int HR1.out x13_1 p730 q730
         cases e730
         replace p730:=eq_true p730
         replace q730:=eq_true q730
         go_wp2
         repeat (go_quiet (fail);try go_wp2)
         go_ret
         exact ⟨by first|rfl|(simp;done)|(simp [*];done),by repeat (first|exact Drawn0.refl _|apply Drawn0.step)⟩
       ·rw [if_neg c7] at H
        exact absurd H (by simp)
      ·rw [if_neg c6] at H
       exact absurd H (by simp)
     ·rw [if_neg c5] at H
      exact absurd H (by simp)
    ·rw [if_neg c4] at H
     have c4b0 : decide (x13_1 < (l0.length : Int)) = false:=decide_eq_false c4
     clear c4
     obtain rfl:=Option.some.inj H
     go_wp2
     repeat (go_quiet (fail);try go_wp2)
     go_ret
     exact ⟨by first|rfl|(simp;done)|(simp [*];done),by repeat (first|exact Drawn0.refl _|apply Drawn0.step)⟩
 ·rw [if_neg c3] at H
  have c3b0 : ((l0.length : Int) == (l1.length : Int)) = false:=beq_eq_false_iff_ne.mpr c3
  have c3b1 : ((l0.length : Int) != (l1.length : Int)) = true:=bne_iff_ne.mpr c3
  have c3b2 : (l0.length == l1.length) = false:=by first|simpa using c3|(simp at c3 ⊢;omega)
  obtain rfl:=Option.some.inj H
  go_enter Try.func149,Try.ntmps149
  go_wp2
  repeat (go_quiet (fail);try go_wp2)
  go_ret
  exact ⟨by first|rfl|(simp;done)|(simp [*];done),by repeat (first|exact Drawn0.refl _|apply Drawn0.step)⟩
def impl_SameMatrix.f (k : Nat) (a0_0 : Int) (l0_1 : List Int) (a1_0 : Int) (l1_1 : List Int) : Option (Bool):=if a0_0 = a1_0 then ((slices_Equal_int_int.f k l0_1 l1_1).bind fun t733 => (some t733)) else (some false)
theorem impl_SameMatrix.mono : ∀ a0 a1 a2 a3 k,LeO (impl_SameMatrix.f k a0 a1 a2 a3) (impl_SameMatrix.f (k + 1) a0 a1 a2 a3):=by
 intro a0 a1 a2 a3 k
 unfold impl_SameMatrix.f
 repeat' first
   | (with_reducible exact slices_Equal_int_int.mono _ _ _)
   | (with_reducible first|exact LeO.refl _|exact LeO.none _|refine LeO.ite ?_ ?_|refine LeO.bind ?_ (fun _ => ?_))
   | exact slices_Equal_int_int.mono _ _ _
   | exact LeO.none _
   | refine LeO.ite ?_ ?_
   | refine LeO.bind ?_ (fun _ => ?_)
set_option maxHeartbeats 8000000 in
set_option maxRecDepth 100000 in
theorem impl_SameMatrix.calls (k : Nat) (a0_0 : Int) (A0_1 : Option Addr) (c0_1 : Nat) (l0_1 : List Int) (a1_0 : Int) (A1_1 : Option Addr) (c1_1 : Nat) (l1_1 : List Int) (r : Bool) (w : World) (hr0_1 : Kd.C (Kd.int .i64) w A0_1 l0_1.length l0_1) (hc0_1 : l0_1.length ≤ c0_1) (hr1_1 : Kd.C (Kd.int .i64) w A1_1 l1_1.length l1_1) (hc1_1 : l1_1.length ≤ c1_1) (h : impl_SameMatrix.f k a0_0 l0_1 a1_0 l1_1 = some r) :
  Calls Try.prog 95 #[.agg #[.int .i64 a0_0,.slice A0_1 l0_1.length c0_1],.agg #[.int .i64 a1_0,.slice A1_1 l1_1.length c1_1]] w fun e w' => e = .returned (.bool r) ∧ Below w.heap.size w w':=by
 have hu35:=Try.underlying35
 have HR0_1:=Aside0.mk hr0_1
 have HC0_1:=Aside0.mk hc0_1
 clear hr0_1 hc0_1
 have HR1_1:=Aside0.mk hr1_1
 have HC1_1:=Aside0.mk hc1_1
 clear hr1_1 hc1_1
 have HB:=Aside0.mk (Below.refl w.heap.size w)
 have H : (if a0_0 = a1_0 then ((slices_Equal_int_int.f k l0_1 l1_1).bind fun t733 => (some t733)) else (some false)) = some r:=h
 clear h
 by_cases c3 : a0_0 = a1_0
 ·rw [if_pos c3] at H
  have c3b0 : (a0_0 == a1_0) = true:=beq_iff_eq.mpr c3
  have c3b1 : (a0_0 != a1_0) = false:=bne_eq_false_iff_eq.mpr c3
  clear c3
  replace H:=Option.bind_eq_some_iff.mp H
  obtain ⟨t733,A40,H⟩:=H
  replace H : (some t733) = some r:=H
  have A4:=Aside0.mk A40
  clear A40
  obtain rfl:=Option.some.inj H
  go_enter Try.func95,Try.ntmps95
  go_wp2_with (first|((with_reducible refine bev_ (N:=2) rfl rfl (cs:=#[.int .i64 a0_0,.slice A0_1 l0_1.length c0_1]) (t:=35) ?hr ?_);(case hr => first|(go_simp;done)|(go_simp;rfl));intro gb731 hg w5 hbox hb;have BK731:=Aside0.mk (hbox);have GW731:=Aside0.mk (szg_ hg (below_size (be0_ HB.out)));have GE731:=GW731;replace HB:=Aside0.mk (below_step (be0_ HB.out) hb);clear hb hbox hg)|((with_reducible refine bev_ (N:=3) rfl rfl (cs:=#[.int .i64 a1_0,.slice A1_1 l1_1.length c1_1]) (t:=35) ?hr ?_);(case hr => first|(go_simp;done)|(go_simp;rfl));intro gb732 hg w6 hbox hb;have BK732:=Aside0.mk (hbox);have GW732:=Aside0.mk (szg_ hg (below_size (be1_ HB.out GE731.out)));have GE732:=GW732;replace HB:=Aside0.mk (below_step (be1_ HB.out GE731.out) hb);have NB731_732:=nm_ hg BK731;have NB732_731:=nn_ hg BK731;replace BK731:=kc_ BK731 hb;clear hb hbox hg;have hnb7:=NB731_732.out;have hnc7:=NB732_731.out;obtain ⟨hcz8_0,hcz8_1,hfz8_0,hfz8_1⟩:=cf2_ BK731.out;obtain ⟨hcz9_0,hcz9_1,hfz9_0,hfz9_1⟩:=cf2_ BK732.out)|(go_at_call 149;(with_reducible refine (slices_Equal_int_int.calls k _ _ l0_1 _ _ l1_1 t733 _ ?side1 ?side2 ?side3 ?side4 A4.out).mono ?_);(case side1 => exact cr_ (Kd.C_below HR0_1.out HB.out));(case side2 => exact HC0_1.out);(case side3 => exact cr_ (Kd.C_below HR1_1.out HB.out));(case side4 => exact HC1_1.out);rintro e w' ⟨rfl,⟨nd,rfl⟩⟩))
  go_ret
  exact ⟨er_,be2_ HB.out GE731.out GE732.out⟩
 ·rw [if_neg c3] at H
  have c3b0 : (a0_0 == a1_0) = false:=beq_eq_false_iff_ne.mpr c3
  have c3b1 : (a0_0 != a1_0) = true:=bne_iff_ne.mpr c3
  obtain rfl:=Option.some.inj H
  go_enter Try.func95,Try.ntmps95
  go_wp2_with (first|((with_reducible refine bev_ (N:=2) rfl rfl (cs:=#[.int .i64 a0_0,.slice A0_1 l0_1.length c0_1]) (t:=35) ?hr ?_);(case hr => first|(go_simp;done)|(go_simp;rfl));intro gb731 hg w10 hbox hb;have BK731:=Aside0.mk (hbox);have GW731:=Aside0.mk (szg_ hg (below_size (be0_ HB.out)));have GE731:=GW731;replace HB:=Aside0.mk (below_step (be0_ HB.out) hb);clear hb hbox hg)|((with_reducible refine bev_ (N:=3) rfl rfl (cs:=#[.int .i64 a1_0,.slice A1_1 l1_1.length c1_1]) (t:=35) ?hr ?_);(case hr => first|(go_simp;done)|(go_simp;rfl));intro gb732 hg w11 hbox hb;have BK732:=Aside0.mk (hbox);have GW732:=Aside0.mk (szg_ hg (below_size (be1_ HB.out GE731.out)));have GE732:=GW732;replace HB:=Aside0.mk (below_step (be1_ HB.out GE731.out) hb);have NB731_732:=nm_ hg BK731;have NB732_731:=nn_ hg BK731;replace BK731:=kc_ BK731 hb;clear hb hbox hg;have hnb12:=NB731_732.out;have hnc12:=NB732_731.out;obtain ⟨hcz13_0,hcz13_1,hfz13_0,hfz13_1⟩:=cf2_ BK731.out;obtain ⟨hcz14_0,hcz14_1,hfz14_0,hfz14_1⟩:=cf2_ BK732.out))
  go_ret
  exact ⟨er_,be2_ HB.out GE731.out GE732.out⟩
def impl_IsIdempotent.f (k : Nat) (a0_0 : Int) (l0_1 : List Int) : Option (Bool):=(impl_MulGrades.f k a0_0 l0_1 a0_0 l0_1).bind fun bt735 => (if bt735.2.2 = true then ((impl_SameMatrix.f k bt735.1 bt735.2.1 a0_0 l0_1).bind fun t741 => (some t741)) else (some false))
theorem impl_IsIdempotent.mono : ∀ a0 a1 k,LeO (impl_IsIdempotent.f k a0 a1) (impl_IsIdempotent.f (k + 1) a0 a1):=by
 intro a0 a1 k
 unfold impl_IsIdempotent.f
 repeat' first
   | (with_reducible exact impl_MulGrades.mono _ _ _ _ _)
   | (with_reducible exact impl_SameMatrix.mono _ _ _ _ _)
   | (with_reducible first|exact LeO.refl _|exact LeO.none _|refine LeO.ite ?_ ?_|refine LeO.bind ?_ (fun _ => ?_))
   | exact impl_MulGrades.mono _ _ _ _ _
   | exact impl_SameMatrix.mono _ _ _ _ _
   | exact LeO.none _
   | refine LeO.ite ?_ ?_
   | refine LeO.bind ?_ (fun _ => ?_)
set_option maxHeartbeats 8000000 in
set_option maxRecDepth 100000 in
theorem impl_IsIdempotent.calls (k : Nat) (a0_0 : Int) (A0_1 : Option Addr) (c0_1 : Nat) (l0_1 : List Int) (r : Bool) (w : World) (hr0_1 : Kd.C (Kd.int .i64) w A0_1 l0_1.length l0_1) (hc0_1 : l0_1.length ≤ c0_1) (h : impl_IsIdempotent.f k a0_0 l0_1 = some r) :
  Calls Try.prog 111 #[.agg #[.int .i64 a0_0,.slice A0_1 l0_1.length c0_1]] w fun e w' => e = .returned (.bool r) ∧ Below w.heap.size w w':=by
 have hu35:=Try.underlying35
 have HR0_1:=Aside0.mk hr0_1
 have HC0_1:=Aside0.mk hc0_1
 clear hr0_1 hc0_1
 have HB:=Aside0.mk (Below.refl w.heap.size w)
 have H : ((impl_MulGrades.f k a0_0 l0_1 a0_0 l0_1).bind fun bt735 => (if bt735.2.2 = true then ((impl_SameMatrix.f k bt735.1 bt735.2.1 a0_0 l0_1).bind fun t741 => (some t741)) else (some false))) = some r:=h
 clear h
 replace H:=Option.bind_eq_some_iff.mp H
 obtain ⟨⟨t735,t736,t739⟩,A20,H⟩:=H
 replace H : (if t739 = true then ((impl_SameMatrix.f k t735 t736 a0_0 l0_1).bind fun t741 => (some t741)) else (some false)) = some r:=H
 have A2:=Aside0.mk A20
 clear A20
 by_cases c3 : t739 = true
 ·subst c3
  have H1 : ((impl_SameMatrix.f k t735 t736 a0_0 l0_1).bind fun t741 => (some t741)) = some r:=by rw [if_pos rfl] at H;exact H
  clear H
  have H:=H1
  clear H1
  replace H:=Option.bind_eq_some_iff.mp H
  obtain ⟨t741,A40,H⟩:=H
  replace H : (some t741) = some r:=H
  have A4:=Aside0.mk A40
  clear A40
  obtain rfl:=Option.some.inj H
  go_enter Try.func111,Try.ntmps111
  go_wp2_with (first|((with_reducible refine bev_ (N:=1) rfl rfl (cs:=#[.int .i64 a0_0,.slice A0_1 l0_1.length c0_1]) (t:=35) ?hr ?_);(case hr => first|(go_simp;done)|(go_simp;rfl));intro gb734 hg w5 hbox hb;have BK734:=Aside0.mk (hbox);have GW734:=Aside0.mk (szg_ hg (below_size (be0_ HB.out)));have GE734:=GW734;replace HB:=Aside0.mk (below_step (be0_ HB.out) hb);clear hb hbox hg;obtain ⟨hcz6_0,hcz6_1,hfz6_0,hfz6_1⟩:=cf2_ BK734.out)|((with_reducible refine gate_callee (f:=56) rfl ?_);refine goesL_ (some 8) rfl rfl Try.func56 (by kernel_rfl) rfl #[.agg #[.int .i64 a0_0,.slice A0_1 l0_1.length c0_1],.agg #[.int .i64 a0_0,.slice A0_1 l0_1.length c0_1]] rfl lp_ ?_;(with_reducible refine (impl_MulGrades.calls k a0_0 _ _ l0_1 a0_0 _ _ l0_1 t735 t736 true _ ?side1 ?side2 ?side3 ?side4 A2.out).mono ?_);(case side1 => exact cr_ (Kd.C_below HR0_1.out HB.out));(case side2 => exact HC0_1.out);(case side3 => exact cr_ (Kd.C_below HR0_1.out HB.out));(case side4 => exact HC0_1.out);rintro e w7 ⟨v737,rfl,ho0,hb⟩;refine ⟨_,rfl,?_⟩;have HO738:=Aside0.mk (Kd.R_lower ho0 (below_size (be1_ HB.out GE734.out)));replace BK734:=kc_ BK734 hb;replace HB:=Aside0.mk (below_step (be1_ HB.out GE734.out) hb);(try clear hb);(try clear hb2);(try clear hk);(try clear hi);(try clear ho0))|((with_reducible refine bev_ (N:=3) rfl rfl (cs:=#[.int .i64 0,.slice none 0 0]) (t:=35) ?hr ?_);(case hr => first|(go_simp;done)|(go_simp;rfl));intro gb740 hg w8 hbox hb;replace HO738:=Aside0.mk (Kd.R_below (pr_ HO738.out) hb);have BK740:=Aside0.mk (hbox);have GW740:=Aside0.mk (szg_ hg (below_size (be1_ HB.out GE734.out)));have GE740:=GW740;replace HB:=Aside0.mk (below_step (be1_ HB.out GE734.out) hb);have NB734_740:=nm_ hg BK734;have NB740_734:=nn_ hg BK734;replace BK734:=kc_ BK734 hb;clear hb hbox hg;have hnb9:=NB740_734.out;have hnc9:=NB734_740.out;obtain ⟨hcz10_0,hcz10_1,hfz10_0,hfz10_1⟩:=cf2_ BK740.out;obtain ⟨Ao11,co11,eo11⟩:=Kd.R_slice HO738.out;subst eo11;obtain ⟨hcz12_0,hcz12_1,hfz12_0,hfz12_1⟩:=cf2_ BK734.out)|(go_at_call 95;(with_reducible refine (impl_SameMatrix.calls k t735 _ _ t736 a0_0 _ _ l0_1 t741 _ ?side1 ?side2 ?side3 ?side4 A4.out).mono ?_);(case side1 => refine (Kd.R_reads' (e:=3) (base:=w.heap.size) (ok:=fun k_ => True) (n:=t736.length) (c:=co11) ?_).2.2;exact (by refine pr_ ?_;exact (Kd.R_mono (Kd.R_far (p:=⟨gb740,1,none⟩) (Kd.R_far (p:=⟨gb740,0,none⟩) (Kd.R_types HO738.out BK740.out (by decide)) (fun _ hk => hk.2) (.int .i64 t735)) (fun _ hk => hk.2) (.slice Ao11 t736.length co11)) (fun _ h_ => h_.1))));(case side2 => exact (Kd.R_reads' HO738.out).2.1);(case side3 => exact Kd.C_below HR0_1.out (be2_ HB.out GE734.out GE740.out));(case side4 => exact HC0_1.out);rintro e w13 ⟨rfl,hb⟩;replace HO738:=Aside0.mk (Kd.R_below (by refine pr_ ?_;exact (Kd.R_mono (Kd.R_far (p:=⟨gb740,1,none⟩) (Kd.R_far (p:=⟨gb740,0,none⟩) (Kd.R_types HO738.out BK740.out (by decide)) (fun _ hk => hk.2) (.int .i64 t735)) (fun _ hk => hk.2) (.slice Ao11 t736.length co11)) (fun _ h_ => h_.1))) hb);replace BK734:=Aside0.mk (blk_below (g:=gb734) (o:=.cells #[.int .i64 a0_0,.slice A0_1 l0_1.length c0_1] 35 (0,0)) (bf1_ BK734.out NB734_740.out) hb);replace BK740:=Aside0.mk (blk_below (g:=gb740) (o:=.cells #[.int .i64 t735,.slice Ao11 t736.length co11] 35 (0,0)) (by refine pe_ ?_;refine blk_put (cs:=#[.int .i64 t735,.slice none 0 0]) ?_ 1 _ rfl;refine pe_ ?_;refine blk_put (cs:=#[.int .i64 0,.slice none 0 0]) ?_ 0 _ rfl;refine pe_ ?_;exact BK740.out) hb);replace HB:=Aside0.mk (below_step (be2_ HB.out GE734.out GE740.out) hb);(try clear hb);(try clear hb2);(try clear hk);(try clear hi)))
  go_ret
  exact ⟨er_,be2_ HB.out GE734.out GE740.out⟩
 ·replace c3:=Bool.eq_false_iff.mpr c3
  subst c3
  have H1 : (some false) = some r:=by rw [if_neg (show ¬ (false = true) by decide)] at H;exact H
  clear H
  have H:=H1
  clear H1
  obtain rfl:=Option.some.inj H
  go_enter Try.func111,Try.ntmps111
  go_wp2_with (first|((with_reducible refine bev_ (N:=1) rfl rfl (cs:=#[.int .i64 a0_0,.slice A0_1 l0_1.length c0_1]) (t:=35) ?hr ?_);(case hr => first|(go_simp;done)|(go_simp;rfl));intro gb734 hg w14 hbox hb;have BK734:=Aside0.mk (hbox);have GW734:=Aside0.mk (szg_ hg (below_size (be0_ HB.out)));have GE734:=GW734;replace HB:=Aside0.mk (below_step (be0_ HB.out) hb);clear hb hbox hg;obtain ⟨hcz15_0,hcz15_1,hfz15_0,hfz15_1⟩:=cf2_ BK734.out)|((with_reducible refine gate_callee (f:=56) rfl ?_);refine goesL_ (some 8) rfl rfl Try.func56 (by kernel_rfl) rfl #[.agg #[.int .i64 a0_0,.slice A0_1 l0_1.length c0_1],.agg #[.int .i64 a0_0,.slice A0_1 l0_1.length c0_1]] rfl lp_ ?_;(with_reducible refine (impl_MulGrades.calls k a0_0 _ _ l0_1 a0_0 _ _ l0_1 t735 t736 false _ ?side1 ?side2 ?side3 ?side4 A2.out).mono ?_);(case side1 => exact cr_ (Kd.C_below HR0_1.out HB.out));(case side2 => exact HC0_1.out);(case side3 => exact cr_ (Kd.C_below HR0_1.out HB.out));(case side4 => exact HC0_1.out);rintro e w16 ⟨v737,rfl,ho0,hb⟩;refine ⟨_,rfl,?_⟩;have HO738:=Aside0.mk (Kd.R_lower ho0 (below_size (be1_ HB.out GE734.out)));replace BK734:=kc_ BK734 hb;replace HB:=Aside0.mk (below_step (be1_ HB.out GE734.out) hb);(try clear hb);(try clear hb2);(try clear hk);(try clear hi);(try clear ho0))|((with_reducible refine bev_ (N:=3) rfl rfl (cs:=#[.int .i64 0,.slice none 0 0]) (t:=35) ?hr ?_);(case hr => first|(go_simp;done)|(go_simp;rfl));intro gb740 hg w17 hbox hb;replace HO738:=Aside0.mk (Kd.R_below (pr_ HO738.out) hb);have BK740:=Aside0.mk (hbox);have GW740:=Aside0.mk (szg_ hg (below_size (be1_ HB.out GE734.out)));have GE740:=GW740;replace HB:=Aside0.mk (below_step (be1_ HB.out GE734.out) hb);have NB734_740:=nm_ hg BK734;have NB740_734:=nn_ hg BK734;replace BK734:=kc_ BK734 hb;clear hb hbox hg;have hnb18:=NB740_734.out;have hnc18:=NB734_740.out;obtain ⟨hcz19_0,hcz19_1,hfz19_0,hfz19_1⟩:=cf2_ BK740.out;obtain ⟨Ao20,co20,eo20⟩:=Kd.R_slice HO738.out;subst eo20))
  go_ret
  exact ⟨er_,be2_ HB.out GE734.out GE740.out⟩
def impl_Stabilise.f (k : Nat) (a0_0 : Int) (l0_1 : List Int) : Option (Int × List Int × Bool):=(impl_IsIdempotent.f k a0_0 l0_1).bind fun t749 => (if t749 = true then ((impl_filled__impl_Stabilise_1.f k a0_0 a0_0 l0_1).bind fun bt750 => (some (bt750.1,bt750.2,true))) else (some (0,([] : List Int),false)))
theorem impl_Stabilise.mono : ∀ a0 a1 k,LeO (impl_Stabilise.f k a0 a1) (impl_Stabilise.f (k + 1) a0 a1):=by
 intro a0 a1 k
 unfold impl_Stabilise.f
 repeat' first
   | (with_reducible exact impl_IsIdempotent.mono _ _ _)
   | (with_reducible exact impl_filled__impl_Stabilise_1.mono _ _ _ _)
   | (with_reducible first|exact LeO.refl _|exact LeO.none _|refine LeO.ite ?_ ?_|refine LeO.bind ?_ (fun _ => ?_))
   | exact impl_IsIdempotent.mono _ _ _
   | exact impl_filled__impl_Stabilise_1.mono _ _ _ _
   | exact LeO.none _
   | refine LeO.ite ?_ ?_
   | refine LeO.bind ?_ (fun _ => ?_)
set_option maxHeartbeats 8000000 in
set_option maxRecDepth 100000 in
theorem impl_Stabilise.calls (k : Nat) (a0_0 : Int) (A0_1 : Option Addr) (c0_1 : Nat) (l0_1 : List Int) (r1 : Int) (r2 : List Int) (r3 : Bool) (w : World) (hr0_1 : Kd.C (Kd.int .i64) w A0_1 l0_1.length l0_1) (hc0_1 : l0_1.length ≤ c0_1) (h : impl_Stabilise.f k a0_0 l0_1 = some (r1,r2,r3)) :
  Calls Try.prog 54 #[.agg #[.int .i64 a0_0,.slice A0_1 l0_1.length c0_1]] w fun e w' => ∃ v1_ : Value,e = .returned (.tuple #[.agg #[.int .i64 r1,v1_],.bool r3]) ∧ Kd.R (Kd.int .i64) 3 w' w.heap.size (fun _ => True) v1_ r2 ∧ Below w.heap.size w w':=by
 have hu35:=Try.underlying35
 have HR0_1:=Aside0.mk hr0_1
 have HC0_1:=Aside0.mk hc0_1
 clear hr0_1 hc0_1
 have HB:=Aside0.mk (Below.refl w.heap.size w)
 have H : ((impl_IsIdempotent.f k a0_0 l0_1).bind fun t749 => (if t749 = true then ((impl_filled__impl_Stabilise_1.f k a0_0 a0_0 l0_1).bind fun bt750 => (some (bt750.1,bt750.2,true))) else (some (0,([] : List Int),false)))) = some (r1,r2,r3):=h
 clear h
 replace H:=Option.bind_eq_some_iff.mp H
 obtain ⟨t749,A20,H⟩:=H
 replace H : (if t749 = true then ((impl_filled__impl_Stabilise_1.f k a0_0 a0_0 l0_1).bind fun bt750 => (some (bt750.1,bt750.2,true))) else (some (0,([] : List Int),false))) = some (r1,r2,r3):=H
 have A2:=Aside0.mk A20
 clear A20
 by_cases c3 : t749 = true
 ·subst c3
  have H1 : ((impl_filled__impl_Stabilise_1.f k a0_0 a0_0 l0_1).bind fun bt750 => (some (bt750.1,bt750.2,true))) = some (r1,r2,r3):=by rw [if_pos rfl] at H;exact H
  clear H
  have H:=H1
  clear H1
  replace H:=Option.bind_eq_some_iff.mp H
  obtain ⟨⟨t750,t751⟩,A40,H⟩:=H
  replace H : (some (t750,t751,true)) = some (r1,r2,r3):=H
  have A4:=Aside0.mk A40
  clear A40
  simp only [Option.some.injEq,Prod.mk.injEq] at H
  obtain ⟨rfl,rfl,rfl⟩:=H
  go_enter Try.func54,Try.ntmps54
  go_wp2_with (first|((with_reducible refine bev_ (N:=1) rfl rfl (cs:=#[.int .i64 a0_0,.slice A0_1 l0_1.length c0_1]) (t:=35) ?hr ?_);(case hr => first|(go_simp;done)|(go_simp;rfl));intro gb747 hg w5 hbox hb;have BK747:=Aside0.mk (hbox);have GW747:=Aside0.mk (szg_ hg (below_size (be0_ HB.out)));have GE747:=GW747;replace HB:=Aside0.mk (below_step (be0_ HB.out) hb);clear hb hbox hg)|((with_reducible refine bev_ (N:=2) rfl rfl (cs:=#[.int .i64 0,.slice none 0 0]) (t:=35) ?hr ?_);(case hr => first|(go_simp;done)|(go_simp;rfl));intro gb748 hg w6 hbox hb;have BK748:=Aside0.mk (hbox);have GW748:=Aside0.mk (szg_ hg (below_size (be1_ HB.out GE747.out)));have GE748:=GW748;replace HB:=Aside0.mk (below_step (be1_ HB.out GE747.out) hb);have NB747_748:=nm_ hg BK747;have NB748_747:=nn_ hg BK747;replace BK747:=kc_ BK747 hb;clear hb hbox hg;have hnb7:=NB747_748.out;have hnc7:=NB748_747.out;obtain ⟨hcz8_0,hcz8_1,hfz8_0,hfz8_1⟩:=cf2_ BK747.out)|((with_reducible refine gate_callee (f:=111) rfl ?_);refine goesL_ (some 5) rfl rfl Try.func111 (by kernel_rfl) rfl #[.agg #[.int .i64 a0_0,.slice A0_1 l0_1.length c0_1]] rfl lp_ ?_;(with_reducible refine (impl_IsIdempotent.calls k a0_0 _ _ l0_1 true _ ?side1 ?side2 A2.out).mono ?_);(case side1 => exact cr_ (Kd.C_below HR0_1.out HB.out));(case side2 => exact HC0_1.out);rintro e w9 ⟨rfl,hb⟩;refine ⟨_,rfl,?_⟩;replace BK747:=kc_ BK747 hb;replace BK748:=kc_ BK748 hb;replace HB:=Aside0.mk (below_step (be2_ HB.out GE747.out GE748.out) hb);(try clear hb);(try clear hb2);(try clear hk);(try clear hi);obtain ⟨hcz10_0,hcz10_1,hfz10_0,hfz10_1⟩:=cf2_ BK747.out)|((with_reducible refine gate_callee (f:=112) rfl ?_);refine goesL_ (some 11) rfl rfl Try.func112 (by kernel_rfl) rfl #[.int .i64 a0_0,.func (.func 113) #[] #[.pointer (some ⟨gb747,0,none⟩)]] rfl lp_ ?_;(with_reducible refine (impl_filled__impl_Stabilise_1.calls k a0_0 gb747 a0_0 A0_1 c0_1 l0_1 t750 t751 _ ?side1 ?side2 ?side3 A4.out).mono ?_);(case side1 => exact cr_ (Kd.C_below HR0_1.out HB.out));(case side2 => exact HC0_1.out);(case side3 => refine pe_ ?_;exact BK747.out);rintro e w11 ⟨v752,rfl,ho0,hb⟩;refine ⟨_,rfl,?_⟩;have HO753:=Aside0.mk (Kd.R_lower ho0 (below_size (be2_ HB.out GE747.out GE748.out)));replace BK747:=kc_ BK747 hb;replace BK748:=kc_ BK748 hb;replace HB:=Aside0.mk (below_step (be2_ HB.out GE747.out GE748.out) hb);(try clear hb);(try clear hb2);(try clear hk);(try clear hi);(try clear ho0);obtain ⟨hcz12_0,hcz12_1,hfz12_0,hfz12_1⟩:=cf2_ BK748.out;obtain ⟨Ao13,co13,eo13⟩:=Kd.R_slice HO753.out;subst eo13))
  refine bodyPost_ret (results_ct rfl _ _ gb748 35 #[.int .i64 t750,.slice Ao13 t751.length co13] (0,0) _ rfl (by refine pe_ ?_;refine blk_put (cs:=#[.int .i64 t750,.slice none 0 0]) ?_ 1 _ rfl;refine pe_ ?_;refine blk_put (cs:=#[.int .i64 0,.slice none 0 0]) ?_ 0 _ rfl;refine pe_ ?_;exact BK748.out) Try.underlying35 rfl (by kernel_rfl)) rfl ?_
  exact ⟨_,er_,by refine pr_ ?_;exact Kd.R_mono (Kd.R_far (p:=⟨gb748,1,none⟩) (Kd.R_far (p:=⟨gb748,0,none⟩) (Kd.R_types HO753.out BK748.out (by decide)) (fun _ hk => hk.2) (.int .i64 t750)) (fun _ hk => hk.2) (.slice Ao13 t751.length co13)) (fun _ hk => trivial),be2_ HB.out GE747.out GE748.out⟩
 ·replace c3:=Bool.eq_false_iff.mpr c3
  subst c3
  have H1 : (some (0,([] : List Int),false)) = some (r1,r2,r3):=by rw [if_neg (show ¬ (false = true) by decide)] at H;exact H
  clear H
  have H:=H1
  clear H1
  simp only [Option.some.injEq,Prod.mk.injEq] at H
  obtain ⟨rfl,rfl,rfl⟩:=H
  go_enter Try.func54,Try.ntmps54
  go_wp2_with (first|((with_reducible refine bev_ (N:=1) rfl rfl (cs:=#[.int .i64 a0_0,.slice A0_1 l0_1.length c0_1]) (t:=35) ?hr ?_);(case hr => first|(go_simp;done)|(go_simp;rfl));intro gb747 hg w14 hbox hb;have BK747:=Aside0.mk (hbox);have GW747:=Aside0.mk (szg_ hg (below_size (be0_ HB.out)));have GE747:=GW747;replace HB:=Aside0.mk (below_step (be0_ HB.out) hb);clear hb hbox hg)|((with_reducible refine bev_ (N:=2) rfl rfl (cs:=#[.int .i64 0,.slice none 0 0]) (t:=35) ?hr ?_);(case hr => first|(go_simp;done)|(go_simp;rfl));intro gb748 hg w15 hbox hb;have BK748:=Aside0.mk (hbox);have GW748:=Aside0.mk (szg_ hg (below_size (be1_ HB.out GE747.out)));have GE748:=GW748;replace HB:=Aside0.mk (below_step (be1_ HB.out GE747.out) hb);have NB747_748:=nm_ hg BK747;have NB748_747:=nn_ hg BK747;replace BK747:=kc_ BK747 hb;clear hb hbox hg;have hnb16:=NB747_748.out;have hnc16:=NB748_747.out;obtain ⟨hcz17_0,hcz17_1,hfz17_0,hfz17_1⟩:=cf2_ BK747.out)|((with_reducible refine gate_callee (f:=111) rfl ?_);refine goesL_ (some 5) rfl rfl Try.func111 (by kernel_rfl) rfl #[.agg #[.int .i64 a0_0,.slice A0_1 l0_1.length c0_1]] rfl lp_ ?_;(with_reducible refine (impl_IsIdempotent.calls k a0_0 _ _ l0_1 false _ ?side1 ?side2 A2.out).mono ?_);(case side1 => exact cr_ (Kd.C_below HR0_1.out HB.out));(case side2 => exact HC0_1.out);rintro e w18 ⟨rfl,hb⟩;refine ⟨_,rfl,?_⟩;replace BK747:=kc_ BK747 hb;replace BK748:=kc_ BK748 hb;replace HB:=Aside0.mk (below_step (be2_ HB.out GE747.out GE748.out) hb);(try clear hb);(try clear hb2);(try clear hk);(try clear hi);obtain ⟨hcz19_0,hcz19_1,hfz19_0,hfz19_1⟩:=cf2_ BK748.out))
  refine bodyPost_ret (results_ct rfl _ _ gb748 35 #[.int .i64 0,.slice none 0 0] (0,0) _ rfl (by refine pe_ ?_;refine blk_put (cs:=#[.int .i64 0,.slice none 0 0]) ?_ 1 _ rfl;refine pe_ ?_;refine blk_put (cs:=#[.int .i64 0,.slice none 0 0]) ?_ 0 _ rfl;refine pe_ ?_;exact BK748.out) Try.underlying35 rfl (by kernel_rfl)) rfl ?_
  exact ⟨_,er_,by first|exact Kd.R_nil _ _ _ _ _|exact Kd.N_nil _ _ _ _ _|exact Kd.V_nil _ _ _ _ _|exact Kd.Q_nil _ _ _ _ _|exact Kd.S_nil _ _ _ _ _,be2_ HB.out GE747.out GE748.out⟩
def impl_StepMatrix_1.f (a0 : Int) (a1 : Int) : Option (Int):=some 1000000
set_option maxHeartbeats 8000000 in
set_option maxRecDepth 100000 in
theorem impl_StepMatrix_1.calls (a0 : Int) (a1 : Int) (r : Int) (w : World) (h : impl_StepMatrix_1.f a0 a1 = some r) :
  Calls Try.prog 135 #[.int .i64 a0,.int .i64 a1] w fun e w' => e = .returned (.int .i64 r) ∧ Drawn0 w w':=by
 have H : (some 1000000) = some r:=h
 clear h
 obtain rfl:=Option.some.inj H
 go_enter Try.func135,Try.ntmps135
 go_wp2
 go_ret
 exact ⟨by first|rfl|(simp;done)|(simp [*];done),by repeat (first|exact Drawn0.refl _|apply Drawn0.step)⟩
def impl_filled__impl_StepMatrix_1.f (k : Nat) (a0 : Int) : Option (Int × List Int):=impl_filled.f (fun y0 y1 => impl_StepMatrix_1.f  y0 y1 ) k a0
theorem impl_filled__impl_StepMatrix_1.mono : ∀ b0 k,LeO (impl_filled__impl_StepMatrix_1.f k b0) (impl_filled__impl_StepMatrix_1.f (k + 1) b0):=by
 intro b0 k
 exact impl_filled.monoP (fun _ _ => LeO.refl _) _ k
set_option maxHeartbeats 2000000 in
theorem impl_filled__impl_StepMatrix_1.calls (k : Nat) (a0 : Int) (r1 : Int) (r2 : List Int) (w : World) (h : impl_filled__impl_StepMatrix_1.f k a0 = some (r1,r2)) :
  Calls Try.prog 112 #[.int .i64 a0,.func (.func 135) #[] #[]] w fun e w' => ∃ v1_ : Value,e = .returned (.agg #[.int .i64 r1,v1_]) ∧ Kd.R (Kd.int .i64) 3 w' w.heap.size (fun _ => True) v1_ r2 ∧ Below w.heap.size w w':=by
 refine impl_filled.calls k a0 135 #[] #[] (fun y0 y1 => impl_StepMatrix_1.f  y0 y1 ) r1 r2 w  ⟨_,Try.func135,rfl,rfl⟩ ?_ h
 intro ay0 ay1 z0 W_ hB_  h_
 refine calls_of_args (args':=#[.int .i64 ay0,.int .i64 ay1]) (by simp) ?_
 refine (impl_StepMatrix_1.calls ay0 ay1 z0 W_  h_).mono ?_
 rintro e w' ⟨rfl,hd⟩
 exact ⟨rfl,hd.below⟩
mutual
def impl_StepMatrix.j0 : Nat → ByteArray → Bool → Int → List Int → List Int → List (S92) → Option (Int × List Int × Bool)
 | 0,_,_,_,_,_,_ => none
 | k + 1,x1,x19,x365000,x365001,x365002,x365003 => if x19 = true then (some (0,([] : List Int),false)) else ((impl_filled__impl_StepMatrix_1.f k x365000).bind fun bt367 => (impl_StepMatrix.l0 k x1 x365003 (x365003.length : Int) 0 bt367.1 bt367.2))
def impl_StepMatrix.l0 : Nat → ByteArray → List (S92) → Int → Int → Int → List Int → Option (Int × List Int × Bool)
 | 0,_,_,_,_,_,_ => none
 | k + 1,x1,x25,x26,x27,x372000,x372001 => if x27 < x26 then (if 0 ≤ x27 then (if x27 < (x25.length : Int) then (if ((rd_T92 x25 x27).f1).toList = x1.toList then (if 0 ≤ (wrap64 ((wrap64 (((rd_T92 x25 x27).f0) * x372000)) + ((rd_T92 x25 x27).f2))) then (if (wrap64 ((wrap64 (((rd_T92 x25 x27).f0) * x372000)) + ((rd_T92 x25 x27).f2))) < (x372001.length : Int) then (impl_StepMatrix.l0 k x1 x25 x26 (wrap64 (x27 + 1)) x372000 (x372001.set ((wrap64 ((wrap64 (((rd_T92 x25 x27).f0) * x372000)) + ((rd_T92 x25 x27).f2))) : Int).toNat ((rd_T92 x25 x27).f3))) else (none)) else (none)) else (impl_StepMatrix.l0 k x1 x25 x26 (wrap64 (x27 + 1)) x372000 x372001)) else (none)) else (none)) else (some (x372000,x372001,true))
end
def impl_StepMatrix.f (k : Nat) (a0_0 : Int) (l0_1 : List Int) (l0_2 : List Int) (l0_3 : List (S92)) (a1 : ByteArray) : Option (Int × List Int × Bool):=(impl_AutomatonValid.f k a0_0 l0_1 l0_2 l0_3).bind fun t366 => (if t366 = true then (if a1.toList = ([97] : List UInt8) then (impl_StepMatrix.j0 k a1 false a0_0 l0_1 l0_2 l0_3) else (impl_StepMatrix.j0 k a1 (a1.toList != ([98] : List UInt8)) a0_0 l0_1 l0_2 l0_3)) else (impl_StepMatrix.j0 k a1 true a0_0 l0_1 l0_2 l0_3))
theorem impl_StepMatrix.mono_l : ∀ k,(∀ y0 y1 y2 y3 y4 y5,LeO (impl_StepMatrix.j0 k y0 y1 y2 y3 y4 y5) (impl_StepMatrix.j0 (k + 1) y0 y1 y2 y3 y4 y5)) ∧ (∀ y0 y1 y2 y3 y4 y5,LeO (impl_StepMatrix.l0 k y0 y1 y2 y3 y4 y5) (impl_StepMatrix.l0 (k + 1) y0 y1 y2 y3 y4 y5))
 | 0 => ⟨fun _ _ _ _ _ _ r h => by simp [impl_StepMatrix.j0] at h,fun _ _ _ _ _ _ r h => by simp [impl_StepMatrix.l0] at h⟩
 | k + 1 => by
  obtain ⟨ih0,ih1⟩:=impl_StepMatrix.mono_l k
  refine ⟨?_,?_⟩
  ·intro y0 y1 y2 y3 y4 y5
   unfold impl_StepMatrix.j0
   repeat' first
   | (with_reducible exact ih0 _ _ _ _ _ _)
   | (with_reducible exact ih1 _ _ _ _ _ _)
   | (with_reducible exact impl_AutomatonValid.mono _ _ _ _ _)
   | (with_reducible exact impl_filled__impl_StepMatrix_1.mono _ _)
   | (with_reducible first|exact LeO.refl _|exact LeO.none _|refine LeO.ite ?_ ?_|refine LeO.bind ?_ (fun _ => ?_))
   | exact ih0 _ _ _ _ _ _
   | exact ih1 _ _ _ _ _ _
   | exact impl_AutomatonValid.mono _ _ _ _ _
   | exact impl_filled__impl_StepMatrix_1.mono _ _
   | exact LeO.none _
   | refine LeO.ite ?_ ?_
   | refine LeO.bind ?_ (fun _ => ?_)
  ·intro y0 y1 y2 y3 y4 y5
   unfold impl_StepMatrix.l0
   repeat' first
   | (with_reducible exact ih0 _ _ _ _ _ _)
   | (with_reducible exact ih1 _ _ _ _ _ _)
   | (with_reducible exact impl_AutomatonValid.mono _ _ _ _ _)
   | (with_reducible exact impl_filled__impl_StepMatrix_1.mono _ _)
   | (with_reducible first|exact LeO.refl _|exact LeO.none _|refine LeO.ite ?_ ?_|refine LeO.bind ?_ (fun _ => ?_))
   | exact ih0 _ _ _ _ _ _
   | exact ih1 _ _ _ _ _ _
   | exact impl_AutomatonValid.mono _ _ _ _ _
   | exact impl_filled__impl_StepMatrix_1.mono _ _
   | exact LeO.none _
   | refine LeO.ite ?_ ?_
   | refine LeO.bind ?_ (fun _ => ?_)
theorem impl_StepMatrix.mono : ∀ a0 a1 a2 a3 a4 k,LeO (impl_StepMatrix.f k a0 a1 a2 a3 a4) (impl_StepMatrix.f (k + 1) a0 a1 a2 a3 a4):=by
 intro a0 a1 a2 a3 a4 k
 obtain ⟨ih0,ih1⟩:=impl_StepMatrix.mono_l k
 unfold impl_StepMatrix.f
 repeat' first
   | (with_reducible exact ih0 _ _ _ _ _ _)
   | (with_reducible exact ih1 _ _ _ _ _ _)
   | (with_reducible exact impl_AutomatonValid.mono _ _ _ _ _)
   | (with_reducible exact impl_filled__impl_StepMatrix_1.mono _ _)
   | (with_reducible first|exact LeO.refl _|exact LeO.none _|refine LeO.ite ?_ ?_|refine LeO.bind ?_ (fun _ => ?_))
   | exact ih0 _ _ _ _ _ _
   | exact ih1 _ _ _ _ _ _
   | exact impl_AutomatonValid.mono _ _ _ _ _
   | exact impl_filled__impl_StepMatrix_1.mono _ _
   | exact LeO.none _
   | refine LeO.ite ?_ ?_
   | refine LeO.bind ?_ (fun _ => ?_)
set_option maxHeartbeats 8000000 in
set_option maxRecDepth 100000 in
theorem impl_StepMatrix.calls (k : Nat) (a0_0 : Int) (A0_1 : Option Addr) (c0_1 : Nat) (l0_1 : List Int) (A0_2 : Option Addr) (c0_2 : Nat) (l0_2 : List Int) (A0_3 : Option Addr) (c0_3 : Nat) (l0_3 : List (S92)) (a1 : ByteArray) (r1 : Int) (r2 : List Int) (r3 : Bool) (w : World) (hr0_1 : Kd.C (Kd.int .i64) w A0_1 l0_1.length l0_1) (hc0_1 : l0_1.length ≤ c0_1) (hr0_2 : Kd.C (Kd.int .i64) w A0_2 l0_2.length l0_2) (hc0_2 : l0_2.length ≤ c0_2) (hr0_3 : Kd.C k92 w A0_3 l0_3.length l0_3) (hc0_3 : l0_3.length ≤ c0_3) (h : impl_StepMatrix.f k a0_0 l0_1 l0_2 l0_3 a1 = some (r1,r2,r3)) :
  Calls Try.prog 80 #[.agg #[.int .i64 a0_0,.slice A0_1 l0_1.length c0_1,.slice A0_2 l0_2.length c0_2,.slice A0_3 l0_3.length c0_3],.string a1] w fun e w' => ∃ v1_ : Value,e = .returned (.tuple #[.agg #[.int .i64 r1,v1_],.bool r3]) ∧ Kd.R (Kd.int .i64) 3 w' w.heap.size (fun _ => True) v1_ r2 ∧ Below w.heap.size w w':=by
 have hu33:=Try.underlying33
 have hu35:=Try.underlying35
 have hu92:=Try.underlying92
 have HR0_1:=Aside0.mk hr0_1
 have HC0_1:=Aside0.mk hc0_1
 clear hr0_1 hc0_1
 have HR0_2:=Aside0.mk hr0_2
 have HC0_2:=Aside0.mk hc0_2
 clear hr0_2 hc0_2
 have HR0_3:=Aside0.mk hr0_3
 have HC0_3:=Aside0.mk hc0_3
 clear hr0_3 hc0_3
 have HB:=Aside0.mk (Below.refl w.heap.size w)
 have H : ((impl_AutomatonValid.f k a0_0 l0_1 l0_2 l0_3).bind fun t366 => (if t366 = true then (if a1.toList = ([97] : List UInt8) then (impl_StepMatrix.j0 k a1 false a0_0 l0_1 l0_2 l0_3) else (impl_StepMatrix.j0 k a1 (a1.toList != ([98] : List UInt8)) a0_0 l0_1 l0_2 l0_3)) else (impl_StepMatrix.j0 k a1 true a0_0 l0_1 l0_2 l0_3))) = some (r1,r2,r3):=h
 clear h
 have HC3:=Aside0.mk H
 clear H
 go_enter Try.func80,Try.ntmps80
 go_upto_region 1 with (first|((with_reducible refine bev_ (N:=2) rfl rfl (cs:=#[.int .i64 a0_0,.slice A0_1 l0_1.length c0_1,.slice A0_2 l0_2.length c0_2,.slice A0_3 l0_3.length c0_3]) (t:=33) ?hr ?_);(case hr => first|(go_simp;done)|(go_simp;rfl));intro gb364 hg w4 hbox hb;have BK364:=Aside0.mk (hbox);have GW364:=Aside0.mk (szg_ hg (below_size (be0_ HB.out)));have GE364:=GW364;replace HB:=Aside0.mk (below_step (be0_ HB.out) hb);clear hb hbox hg)|((with_reducible refine bev_ (N:=4) rfl rfl (cs:=#[.int .i64 0,.slice none 0 0]) (t:=35) ?hr ?_);(case hr => first|(go_simp;done)|(go_simp;rfl));intro gb365 hg w5 hbox hb;have BK365:=Aside0.mk (hbox);have GW365:=Aside0.mk (szg_ hg (below_size (be1_ HB.out GE364.out)));have GE365:=GW365;replace HB:=Aside0.mk (below_step (be1_ HB.out GE364.out) hb);have NB364_365:=nm_ hg BK364;have NB365_364:=nn_ hg BK364;replace BK364:=kc_ BK364 hb;clear hb hbox hg))
 (try simp only [Act.put,List.setIfInBounds_toArray,List.set_cons_zero,List.set_cons_succ])
 go_cut [19] (fun v19 wc => ∃ (kq : Nat) (x19_2 : Bool),v19 = .bool x19_2 ∧ Aside0 (impl_StepMatrix.j0 kq a1 x19_2 a0_0 l0_1 l0_2 l0_3 = some (r1,r2,r3)) ∧ Aside0 (kq ≤ k) ∧ Aside0 (wc.heap[gb364]? = some (.cells #[.int .i64 a0_0,(.slice A0_1 l0_1.length c0_1),(.slice A0_2 l0_2.length c0_2),(.slice A0_3 l0_3.length c0_3)] 33 (0,0))) ∧ Aside0 (wc.heap[gb365]? = some (.cells #[.int .i64 0,(.slice none 0 0)] 35 (0,0))) ∧ Aside0 (Below w.heap.size w wc))
 case first =>
  have H:=HC3.out
  clear HC3
  replace H:=Option.bind_eq_some_iff.mp H
  obtain ⟨t366,A60,H⟩:=H
  replace H : (if t366 = true then (if a1.toList = ([97] : List UInt8) then (impl_StepMatrix.j0 k a1 false a0_0 l0_1 l0_2 l0_3) else (impl_StepMatrix.j0 k a1 (a1.toList != ([98] : List UInt8)) a0_0 l0_1 l0_2 l0_3)) else (impl_StepMatrix.j0 k a1 true a0_0 l0_1 l0_2 l0_3)) = some (r1,r2,r3):=H
  have A6:=Aside0.mk A60
  clear A60
  by_cases c7 : t366 = true
  ·subst c7
   have H1 : (if a1.toList = ([97] : List UInt8) then (impl_StepMatrix.j0 k a1 false a0_0 l0_1 l0_2 l0_3) else (impl_StepMatrix.j0 k a1 (a1.toList != ([98] : List UInt8)) a0_0 l0_1 l0_2 l0_3)) = some (r1,r2,r3):=by rw [if_pos rfl] at H;exact H
   clear H
   have H:=H1
   clear H1
   by_cases c8 : a1.toList = ([97] : List UInt8)
   ·rw [if_pos c8] at H
    have c8b0 : (a1.toList == ([97] : List UInt8)) = true:=beq_iff_eq.mpr c8
    have c8b1 : (a1.toList != ([97] : List UInt8)) = false:=bne_eq_false_iff_eq.mpr c8
    clear c8
    (first|rw [c8b0]|(simp only [i64_w,i32_w];rw [c8b0])|skip)
    have H':=Aside0.mk H
    clear H
    have hnb9:=NB364_365.out
    have hnc9:=NB365_364.out
    obtain ⟨hcz10_0,hcz10_1,hcz10_2,hcz10_3,hfz10_0,hfz10_1,hfz10_2,hfz10_3⟩:=cf4_ BK364.out
    go_wp2_with (first|((with_reducible refine gate_callee (f:=72) rfl ?_);refine goesL_ (some 10) rfl rfl Try.func72 (by kernel_rfl) rfl #[.agg #[.int .i64 a0_0,.slice A0_1 l0_1.length c0_1,.slice A0_2 l0_2.length c0_2,.slice A0_3 l0_3.length c0_3]] rfl lp_ ?_;(with_reducible refine (impl_AutomatonValid.calls k a0_0 _ _ l0_1 _ _ l0_2 _ _ l0_3 true _ ?side1 ?side2 ?side3 ?side4 ?side5 ?side6 A6.out).mono ?_);(case side1 => exact cr_ (Kd.C_below HR0_1.out HB.out));(case side2 => exact HC0_1.out);(case side3 => exact cr_ (Kd.C_below HR0_2.out HB.out));(case side4 => exact HC0_2.out);(case side5 => exact cr_ (Kd.C_below HR0_3.out HB.out));(case side6 => exact HC0_3.out);rintro e w11 ⟨rfl,hb⟩;refine ⟨_,rfl,?_⟩;replace BK364:=kc_ BK364 hb;replace BK365:=kc_ BK365 hb;replace HB:=Aside0.mk (below_step (be2_ HB.out GE364.out GE365.out) hb);(try clear hb);(try clear hb2);(try clear hk);(try clear hi)))
    go_meet
    case rel => exact ⟨_,(false),rs_,H',⟨by first|omega|exact Nat.le_refl _⟩,⟨pe_ BK364.out⟩,⟨pe_ BK365.out⟩,⟨be2_ HB.out GE364.out GE365.out⟩⟩
   ·rw [if_neg c8] at H
    have c8b0 : (a1.toList == ([97] : List UInt8)) = false:=beq_eq_false_iff_ne.mpr c8
    have c8b1 : (a1.toList != ([97] : List UInt8)) = true:=bne_iff_ne.mpr c8
    (first|rw [c8b0]|(simp only [i64_w,i32_w];rw [c8b0])|skip)
    have H':=Aside0.mk H
    clear H
    have hnb12:=NB364_365.out
    have hnc12:=NB365_364.out
    obtain ⟨hcz13_0,hcz13_1,hcz13_2,hcz13_3,hfz13_0,hfz13_1,hfz13_2,hfz13_3⟩:=cf4_ BK364.out
    go_wp2_with (first|((with_reducible refine gate_callee (f:=72) rfl ?_);refine goesL_ (some 10) rfl rfl Try.func72 (by kernel_rfl) rfl #[.agg #[.int .i64 a0_0,.slice A0_1 l0_1.length c0_1,.slice A0_2 l0_2.length c0_2,.slice A0_3 l0_3.length c0_3]] rfl lp_ ?_;(with_reducible refine (impl_AutomatonValid.calls k a0_0 _ _ l0_1 _ _ l0_2 _ _ l0_3 true _ ?side1 ?side2 ?side3 ?side4 ?side5 ?side6 A6.out).mono ?_);(case side1 => exact cr_ (Kd.C_below HR0_1.out HB.out));(case side2 => exact HC0_1.out);(case side3 => exact cr_ (Kd.C_below HR0_2.out HB.out));(case side4 => exact HC0_2.out);(case side5 => exact cr_ (Kd.C_below HR0_3.out HB.out));(case side6 => exact HC0_3.out);rintro e w14 ⟨rfl,hb⟩;refine ⟨_,rfl,?_⟩;replace BK364:=kc_ BK364 hb;replace BK365:=kc_ BK365 hb;replace HB:=Aside0.mk (below_step (be2_ HB.out GE364.out GE365.out) hb);(try clear hb);(try clear hb2);(try clear hk);(try clear hi)))
    go_meet
    case rel => exact ⟨_,((a1.toList != ([98] : List UInt8))),rs_,H',⟨by first|omega|exact Nat.le_refl _⟩,⟨pe_ BK364.out⟩,⟨pe_ BK365.out⟩,⟨be2_ HB.out GE364.out GE365.out⟩⟩
  ·replace c7:=Bool.eq_false_iff.mpr c7
   subst c7
   have H1 : (impl_StepMatrix.j0 k a1 true a0_0 l0_1 l0_2 l0_3) = some (r1,r2,r3):=by rw [if_neg (show ¬ (false = true) by decide)] at H;exact H
   clear H
   have H:=H1
   clear H1
   have H':=Aside0.mk H
   clear H
   have hnb15:=NB364_365.out
   have hnc15:=NB365_364.out
   obtain ⟨hcz16_0,hcz16_1,hcz16_2,hcz16_3,hfz16_0,hfz16_1,hfz16_2,hfz16_3⟩:=cf4_ BK364.out
   go_wp2_with (first|((with_reducible refine gate_callee (f:=72) rfl ?_);refine goesL_ (some 10) rfl rfl Try.func72 (by kernel_rfl) rfl #[.agg #[.int .i64 a0_0,.slice A0_1 l0_1.length c0_1,.slice A0_2 l0_2.length c0_2,.slice A0_3 l0_3.length c0_3]] rfl lp_ ?_;(with_reducible refine (impl_AutomatonValid.calls k a0_0 _ _ l0_1 _ _ l0_2 _ _ l0_3 false _ ?side1 ?side2 ?side3 ?side4 ?side5 ?side6 A6.out).mono ?_);(case side1 => exact cr_ (Kd.C_below HR0_1.out HB.out));(case side2 => exact HC0_1.out);(case side3 => exact cr_ (Kd.C_below HR0_2.out HB.out));(case side4 => exact HC0_2.out);(case side5 => exact cr_ (Kd.C_below HR0_3.out HB.out));(case side6 => exact HC0_3.out);rintro e w17 ⟨rfl,hb⟩;refine ⟨_,rfl,?_⟩;replace BK364:=kc_ BK364 hb;replace BK365:=kc_ BK365 hb;replace HB:=Aside0.mk (below_step (be2_ HB.out GE364.out GE365.out) hb);(try clear hb);(try clear hb2);(try clear hk);(try clear hi)))
   go_meet
   case rel => exact ⟨_,(true),rs_,H',⟨by first|omega|exact Nat.le_refl _⟩,⟨pe_ BK364.out⟩,⟨pe_ BK365.out⟩,⟨be2_ HB.out GE364.out GE365.out⟩⟩
 case rest =>
  clear HC3
  try clear c1
  try clear p2
  try clear c7
  try clear c8
  try clear c8b0
  try clear c8b1
  try clear c9
  try clear c12
  try clear c15
  obtain ⟨kq,x19_2,rfl,HA,HJ2,BK364,BK365,HB⟩:=hcut
  cases kq with
  | zero => exact absurd HA.out (by simp [impl_StepMatrix.j0])
  | succ kj2 =>
   have H:=HA.out
   clear HA
   simp only [impl_StepMatrix.j0] at H
   by_cases c18 : x19_2 = true
   ·subst c18
    have H1 : (some (0,([] : List Int),false)) = some (r1,r2,r3):=by rw [if_pos rfl] at H;exact H
    clear H
    have H:=H1
    clear H1
    simp only [Option.some.injEq,Prod.mk.injEq] at H
    obtain ⟨rfl,rfl,rfl⟩:=H
    have hnb19:=NB365_364.out
    have hnc19:=NB364_365.out
    obtain ⟨hcz20_0,hcz20_1,hfz20_0,hfz20_1⟩:=cf2_ BK365.out
    go_wp2
    refine bodyPost_ret (results_ct rfl _ _ gb365 35 #[.int .i64 0,.slice none 0 0] (0,0) _ rfl (by refine pe_ ?_;refine blk_put (cs:=#[.int .i64 0,.slice none 0 0]) ?_ 1 _ rfl;refine pe_ ?_;refine blk_put (cs:=#[.int .i64 0,.slice none 0 0]) ?_ 0 _ rfl;refine pe_ ?_;exact BK365.out) Try.underlying35 rfl (by kernel_rfl)) rfl ?_
    exact ⟨_,er_,by first|exact Kd.R_nil _ _ _ _ _|exact Kd.N_nil _ _ _ _ _|exact Kd.V_nil _ _ _ _ _|exact Kd.Q_nil _ _ _ _ _|exact Kd.S_nil _ _ _ _ _,be2_ HB.out GE364.out GE365.out⟩
   ·replace c18:=Bool.eq_false_iff.mpr c18
    subst c18
    have H1 : ((impl_filled__impl_StepMatrix_1.f kj2 a0_0).bind fun bt367 => (impl_StepMatrix.l0 kj2 a1 l0_3 (l0_3.length : Int) 0 bt367.1 bt367.2)) = some (r1,r2,r3):=by rw [if_neg (show ¬ (false = true) by decide)] at H;exact H
    clear H
    have H:=H1
    clear H1
    replace H:=Option.bind_eq_some_iff.mp H
    obtain ⟨⟨t367,t368⟩,A210,H⟩:=H
    replace H : (impl_StepMatrix.l0 kj2 a1 l0_3 (l0_3.length : Int) 0 t367 t368) = some (r1,r2,r3):=H
    have A21:=Aside0.mk A210
    clear A210
    have H':=Aside0.mk H
    clear H
    have hnb22:=NB364_365.out
    have hnc22:=NB365_364.out
    obtain ⟨hcz23_0,hcz23_1,hcz23_2,hcz23_3,hfz23_0,hfz23_1,hfz23_2,hfz23_3⟩:=cf4_ BK364.out
    go_wp2_with (first|((with_reducible refine gate_callee (f:=112) rfl ?_);refine goesL_ (some 23) rfl rfl Try.func112 (by kernel_rfl) rfl #[.int .i64 a0_0,.func (.func 135) #[] #[]] rfl lp_ ?_;(with_reducible refine (impl_filled__impl_StepMatrix_1.calls kj2 a0_0 t367 t368 _ A21.out).mono ?_);rintro e w24 ⟨v369,rfl,ho0,hb⟩;refine ⟨_,rfl,?_⟩;have HO370:=Aside0.mk (Kd.R_lower ho0 (below_size (be2_ HB.out GE364.out GE365.out)));replace BK364:=kc_ BK364 hb;replace BK365:=kc_ BK365 hb;replace HB:=Aside0.mk (below_step (be2_ HB.out GE364.out GE365.out) hb);(try clear hb);(try clear hb2);(try clear hk);(try clear hi);(try clear ho0))|((with_reducible refine bev_ (N:=6) rfl rfl (cs:=#[.int .i64 0,.slice none 0 0]) (t:=35) ?hr ?_);(case hr => first|(go_simp;done)|(go_simp;rfl));intro gb371 hg w25 hbox hb;replace HO370:=Aside0.mk (Kd.R_below (pr_ HO370.out) hb);have BK371:=Aside0.mk (hbox);have GW371:=Aside0.mk (szg_ hg (below_size (be2_ HB.out GE364.out GE365.out)));have GE371:=GW371;replace HB:=Aside0.mk (below_step (be2_ HB.out GE364.out GE365.out) hb);have NB364_371:=nm_ hg BK364;have NB371_364:=nn_ hg BK364;replace BK364:=kc_ BK364 hb;have NB365_371:=nm_ hg BK365;have NB371_365:=nn_ hg BK365;replace BK365:=kc_ BK365 hb;clear hb hbox hg;have hnb26:=NB371_364.out;have hnc26:=NB364_371.out;have hnb27:=NB371_365.out;have hnc27:=NB365_371.out;obtain ⟨hcz28_0,hcz28_1,hfz28_0,hfz28_1⟩:=cf2_ BK371.out;obtain ⟨Ao29,co29,eo29⟩:=Kd.R_slice HO370.out;subst eo29;obtain ⟨hcz30_0,hcz30_1,hcz30_2,hcz30_3,hfz30_0,hfz30_1,hfz30_2,hfz30_3⟩:=cf4_ BK364.out))
    go_loopg [27] kj2 (fun kq v27 w' => ∃ (x27_2 : Int) (x372001_2 : List Int) (u372001 : Value),v27 = .int .i64 x27_2 ∧ Aside0 (impl_StepMatrix.l0 kq a1 l0_3 (l0_3.length : Int) x27_2 t367 x372001_2 = some (r1,r2,r3)) ∧ Aside0 (kq ≤ kj2) ∧ Aside0 (Kd.R (Kd.int .i64) 3 w' w.heap.size (fun _ => True) u372001 x372001_2) ∧ Aside0 (w'.heap[gb364]? = some (.cells #[.int .i64 a0_0,(.slice A0_1 l0_1.length c0_1),(.slice A0_2 l0_2.length c0_2),(.slice A0_3 l0_3.length c0_3)] 33 (0,0))) ∧ Aside0 (w'.heap[gb365]? = some (.cells #[.int .i64 0,(.slice none 0 0)] 35 (0,0))) ∧ Aside0 (w'.heap[gb371]? = some (.cells #[.int .i64 t367,u372001] 35 (0,0))) ∧ Aside0 (Below w.heap.size w w'))
    case atStart => exact ⟨(0),(t368),(.slice Ao29 t368.length co29),rs_,H',⟨Nat.le_refl _⟩,⟨by refine pr_ ?_;exact Kd.R_mono (Kd.R_far (p:=⟨gb371,1,none⟩) (Kd.R_far (p:=⟨gb371,0,none⟩) (Kd.R_types HO370.out BK371.out (by decide)) (fun _ hk => hk.2) (.int .i64 t367)) (fun _ hk => hk.2) (.slice Ao29 t368.length co29)) (fun _ hk => trivial)⟩,⟨bf1_ BK364.out NB364_371.out⟩,⟨bf1_ BK365.out NB365_371.out⟩,⟨by refine pe_ ?_;refine blk_put (cs:=#[.int .i64 t367,.slice none 0 0]) ?_ 1 _ rfl;refine pe_ ?_;refine blk_put (cs:=#[.int .i64 0,.slice none 0 0]) ?_ 0 _ rfl;refine pe_ ?_;exact BK371.out⟩,⟨be3_ HB.out GE364.out GE365.out GE371.out⟩⟩
    case round =>
     clear H'
     try clear c1
     try clear c2
     try clear p2
     try clear c7
     try clear c8
     try clear c8b0
     try clear c8b1
     try clear c9
     try clear c11
     try clear c12
     try clear c15
     try clear c18
     try clear c19
     try clear c22
     try clear c26
     try clear c27
     try clear p2
     obtain ⟨x27_2,x372001_2,u372001,rfl,HA,HK2,HO_372001,BK364,BK365,BK371,HB⟩:=hrel
     cases gk with
     | zero => exact absurd HA.out (by simp [impl_StepMatrix.l0])
     | succ k2 =>
      have H:=HA.out
      clear HA
      simp only [impl_StepMatrix.l0] at H
      by_cases c31 : x27_2 < (l0_3.length : Int)
      ·rw [if_pos c31] at H
       have c31b0 : decide (x27_2 < (l0_3.length : Int)) = true:=decide_eq_true c31
       clear c31
       by_cases c32 : 0 ≤ x27_2
       ·rw [if_pos c32] at H
        have c32b0 : decide (0 ≤ x27_2) = true:=decide_eq_true c32
        clear c32
        by_cases c33 : x27_2 < (l0_3.length : Int)
        ·rw [if_pos c33] at H
         have c33b0 : decide (x27_2 < (l0_3.length : Int)) = true:=decide_eq_true c33
         clear c33
         by_cases c34 : ((rd_T92 l0_3 x27_2).f1).toList = a1.toList
         ·rw [if_pos c34] at H
          have c34b0 : (((rd_T92 l0_3 x27_2).f1).toList == a1.toList) = true:=beq_iff_eq.mpr c34
          have c34b1 : (((rd_T92 l0_3 x27_2).f1).toList != a1.toList) = false:=bne_eq_false_iff_eq.mpr c34
          clear c34
          obtain ⟨ji35,hji35⟩ : ∃ j_ : Int,(wrap64 ((wrap64 (((rd_T92 l0_3 x27_2).f0) * t367)) + ((rd_T92 l0_3 x27_2).f2))) = j_:=⟨_,rfl⟩
          replace H : (if 0 ≤ (ji35) then (if (ji35) < (x372001_2.length : Int) then (impl_StepMatrix.l0 k2 a1 l0_3 (l0_3.length : Int) (wrap64 (x27_2 + 1)) t367 (x372001_2.set ((ji35) : Int).toNat ((rd_T92 l0_3 x27_2).f3))) else (none)) else (none)) = some (r1,r2,r3):=by first|(rw [hji35] at H;exact H)|(simp only [hji35] at H ⊢;exact H)
          have hji35w : (IntKind.i64.wrap ((wrap64 (((rd_T92 l0_3 x27_2).f0) * t367)) + ((rd_T92 l0_3 x27_2).f2))) = ji35:=(i64_w _).trans hji35
          by_cases c36 : 0 ≤ (ji35)
          ·rw [if_pos c36] at H
           have c36b0 : decide (0 ≤ (ji35)) = true:=decide_eq_true c36
           clear c36
           by_cases c37 : (ji35) < (x372001_2.length : Int)
           ·rw [if_pos c37] at H
            have c37b0 : decide ((ji35) < (x372001_2.length : Int)) = true:=decide_eq_true c37
            clear c37
            obtain ⟨y374,hy374⟩ : ∃ y_ : List Int,y_ = (x372001_2.set ((ji35) : Int).toNat ((rd_T92 l0_3 x27_2).f3)):=⟨_,rfl⟩
            replace H : (impl_StepMatrix.l0 k2 a1 l0_3 (l0_3.length : Int) (wrap64 (x27_2 + 1)) t367 y374) = some (r1,r2,r3):=by first|(rw [hy374];with_reducible exact H)|(have H2_:=(Option.bind_some _ _).symm.trans H;rw [hy374];with_reducible exact H2_)|(have H2_:=(Option.bind_some _ _).symm.trans H;with_reducible exact H2_)|with_reducible exact H|(rw [hy374];exact H)|exact H
            have Ny374:=Aside0.mk hy374
            clear hy374
            have H':=Aside0.mk H
            clear H
            have p372 : 0 ≤ (x27_2 : Int):=od_
            have q372 : x27_2 < (l0_3.length : Int):=od_
            obtain ⟨ad372,e372,hx372_0,hx372_1,hx372_2,hx372_3⟩:=at_T92 HR0_3.out x27_2 p372 q372
            cases e372
            replace hx372_0:=hbc_ HB.out hx372_0
            replace hx372_1:=hbc_ HB.out hx372_1
            replace hx372_2:=hbc_ HB.out hx372_2
            replace hx372_3:=hbc_ HB.out hx372_3
            replace p372:=eq_true p372
            replace q372:=eq_true q372
            go_wp2_with (first|((with_reducible refine bev_ (N:=8) rfl rfl (cs:=#[.int .i64 0,.string (⟨#[]⟩ : ByteArray),.int .i64 0,.int .i64 0]) (t:=92) ?hr ?_);(case hr => first|(go_simp;done)|(go_simp;rfl));intro gb373 hg w39 hbox hb;replace HO_372001:=Aside0.mk (Kd.R_below (pr_ HO_372001.out) hb);have BK373:=Aside0.mk (hbox);have GW373:=Aside0.mk (szg_ hg (below_size (be3_ HB.out GE364.out GE365.out GE371.out)));have GE373:=GW373;replace HB:=Aside0.mk (below_step (be3_ HB.out GE364.out GE365.out GE371.out) hb);have NB364_373:=nm_ hg BK364;have NB373_364:=nn_ hg BK364;replace BK364:=kc_ BK364 hb;have NB365_373:=nm_ hg BK365;have NB373_365:=nn_ hg BK365;replace BK365:=kc_ BK365 hb;have NB371_373:=nm_ hg BK371;have NB373_371:=nn_ hg BK371;replace BK371:=kc_ BK371 hb;clear hb hbox hg;have hnb40:=NB373_364.out;have hnc40:=NB364_373.out;have hnb41:=NB373_365.out;have hnc41:=NB365_373.out;have hnb42:=NB373_371.out;have hnc42:=NB371_373.out;obtain ⟨hcz43_0,hcz43_1,hcz43_2,hcz43_3,hfz43_0,hfz43_1,hfz43_2,hfz43_3⟩:=cf4_ BK373.out)|((with_reducible refine gate_store (t:=92) (p:=8) rfl ?_);refine store_event (t:=92) (p:=8) (v:=?vo_w44) (w1:=((((w39.setCell ⟨gb373,0,none⟩ (.int .i64 ((rd_T92 l0_3 x27_2).f0))).setCell ⟨gb373,1,none⟩ (.string ((rd_T92 l0_3 x27_2).f1))).setCell ⟨gb373,2,none⟩ (.int .i64 ((rd_T92 l0_3 x27_2).f2))).setCell ⟨gb373,3,none⟩ (.int .i64 ((rd_T92 l0_3 x27_2).f3)))) ?hg ?ho ?hn ?hr ?_;(case ho => rfl);(case hg => rfl);(case hn => rfl);(case hr => first|(go_simp;done)|(go_simp;rfl));intro w44 hw;have n0_ : Aside0 (Kd.R (Kd.int .i64) 3 w44 w.heap.size (fun _ => True) u372001 x372001_2):=⟨(by rw [hw];exact (by refine pr_ ?_;exact Kd.R_mono (Kd.R_far (p:=⟨gb373,3,none⟩) (Kd.R_far (p:=⟨gb373,2,none⟩) (Kd.R_far (p:=⟨gb373,1,none⟩) (Kd.R_far (p:=⟨gb373,0,none⟩) (Kd.R_types HO_372001.out BK373.out (by decide)) (fun _ hk => hk.2) (.int .i64 ((rd_T92 l0_3 x27_2).f0))) (fun _ hk => hk.2) (.string ((rd_T92 l0_3 x27_2).f1))) (fun _ hk => hk.2) (.int .i64 ((rd_T92 l0_3 x27_2).f2))) (fun _ hk => hk.2) (.int .i64 ((rd_T92 l0_3 x27_2).f3))) (fun _ hk => trivial)))⟩;have n1_ : Aside0 (w44.heap[gb364]? = some (.cells #[.int .i64 a0_0,.slice A0_1 l0_1.length c0_1,.slice A0_2 l0_2.length c0_2,.slice (some ad372) l0_3.length c0_3] 33 (0,0))):=⟨(by rw [hw];exact (bf1_ BK364.out NB364_373.out))⟩;have n2_ : Aside0 (w44.heap[gb365]? = some (.cells #[.int .i64 0,.slice none 0 0] 35 (0,0))):=⟨(by rw [hw];exact (bf1_ BK365.out NB365_373.out))⟩;have n3_ : Aside0 (w44.heap[gb371]? = some (.cells #[.int .i64 t367,u372001] 35 (0,0))):=⟨(by rw [hw];exact (bf1_ BK371.out NB371_373.out))⟩;have n4_ : Aside0 (w44.heap[gb373]? = some (.cells #[.int .i64 ((rd_T92 l0_3 x27_2).f0),.string ((rd_T92 l0_3 x27_2).f1),.int .i64 ((rd_T92 l0_3 x27_2).f2),.int .i64 ((rd_T92 l0_3 x27_2).f3)] 92 (0,0))):=⟨(by rw [hw];exact (by refine pe_ ?_;refine blk_put (cs:=#[.int .i64 ((rd_T92 l0_3 x27_2).f0),.string ((rd_T92 l0_3 x27_2).f1),.int .i64 ((rd_T92 l0_3 x27_2).f2),.int .i64 0]) ?_ 3 _ rfl;refine pe_ ?_;refine blk_put (cs:=#[.int .i64 ((rd_T92 l0_3 x27_2).f0),.string ((rd_T92 l0_3 x27_2).f1),.int .i64 0,.int .i64 0]) ?_ 2 _ rfl;refine pe_ ?_;refine blk_put (cs:=#[.int .i64 ((rd_T92 l0_3 x27_2).f0),.string (⟨#[]⟩ : ByteArray),.int .i64 0,.int .i64 0]) ?_ 1 _ rfl;refine pe_ ?_;refine blk_put (cs:=#[.int .i64 0,.string (⟨#[]⟩ : ByteArray),.int .i64 0,.int .i64 0]) ?_ 0 _ rfl;refine pe_ ?_;exact BK373.out))⟩;have n5_ : Aside0 (Below w.heap.size w w44):=⟨(by rw [hw];exact (be4_ HB.out GE364.out GE365.out GE371.out GE373.out))⟩;clear hw;clear HO_372001;clear BK364;clear BK365;clear BK371;clear BK373;clear HB;have HO_372001:=n0_;have BK364:=n1_;have BK365:=n2_;have BK371:=n3_;have BK373:=n4_;have HB:=n5_;clear n0_ n1_ n2_ n3_ n4_ n5_;obtain ⟨hcz45_0,hcz45_1,hcz45_2,hcz45_3,hfz45_0,hfz45_1,hfz45_2,hfz45_3⟩:=cf4_ BK373.out;have hnb46:=NB371_364.out;have hnc46:=NB364_371.out;have hnb47:=NB371_365.out;have hnc47:=NB365_371.out;obtain ⟨hcz48_0,hcz48_1,hfz48_0,hfz48_1⟩:=cf2_ BK371.out;have p38 : 0 ≤ ((ji35) : Int):=od_;have q38 : ((ji35) : Int) < ((x372001_2.length : Int) : Int):=od_;obtain ⟨go38,co38,eo38,gb38,gl38,cl38,HG38⟩:=Kd.R_form HO_372001.out (by omega);(first|cases eo38|(injection eo38 with ea_ en_ ec_;(first|subst ea_|(injection ea_ with ea_;subst ea_));subst ec_;clear en_));have GB38:=Aside0.mk gb38;have GG38:=Aside0.mk HG38;clear gb38 gl38 HG38;obtain ⟨hx38_0,hf38_0⟩:=Kd.R_celln 0 HO_372001.out ((ji35) : Int) p38 q38;replace p38:=eq_true p38;replace q38:=eq_true q38;obtain ⟨hy49_,hz49_⟩:=Kd.R_celln 0 HO_372001.out ((ji35) : Int) (od_) (od_);have HP49:=Kd.R_putg HO_372001.out ((ji35) : Int) ((rd_T92 l0_3 x27_2).f3))|((with_reducible refine gate_store (t:=3) (p:=47) rfl ?_);refine store_event (t:=3) (p:=47) (v:=?vo_w50) (w1:=(w44.setCell ⟨go38,((ji35) : Int).toNat,none⟩ (.int .i64 ((rd_T92 l0_3 x27_2).f3)))) ?hg ?ho ?hn ?hr ?_;(case ho => rfl);(case hg => rfl);(case hn => rfl);(case hr => first|(go_simp;done)|(go_simp;rfl));intro w50 hw;have hg : w44.grownBy w50 (some go38):=(by rw [hw];exact HP49.2);have hp_ : Kd.R (Kd.int .i64) 3 w50 w.heap.size (fun _ => True) (.slice (some ⟨go38,0,none⟩) x372001_2.length co38) y374:=(by rw [hw,Ny374.out];exact HP49.1);clear HP49;replace BK364:=Aside0.mk (blk_grown (g:=gb364) (o:=.cells #[.int .i64 a0_0,.slice A0_1 l0_1.length c0_1,.slice A0_2 l0_2.length c0_2,.slice (some ad372) l0_3.length c0_3] 33 (0,0)) (pe_ BK364.out) hg (Kd.R_ne HO_372001.out BK364.out (by decide)));replace BK365:=Aside0.mk (blk_grown (g:=gb365) (o:=.cells #[.int .i64 0,.slice none 0 0] 35 (0,0)) (pe_ BK365.out) hg (Kd.R_ne HO_372001.out BK365.out (by decide)));replace BK371:=Aside0.mk (blk_grown (g:=gb371) (o:=.cells #[.int .i64 t367,.slice (some ⟨go38,0,none⟩) x372001_2.length co38] 35 (0,0)) (pe_ BK371.out) hg (Kd.R_ne HO_372001.out BK371.out (by decide)));replace BK373:=Aside0.mk (blk_grown (g:=gb373) (o:=.cells #[.int .i64 ((rd_T92 l0_3 x27_2).f0),.string ((rd_T92 l0_3 x27_2).f1),.int .i64 ((rd_T92 l0_3 x27_2).f2),.int .i64 ((rd_T92 l0_3 x27_2).f3)] 92 (0,0)) (pe_ BK373.out) hg (Kd.R_ne HO_372001.out BK373.out (by decide)));replace HO_372001:=Aside0.mk (hp_);replace HB:=Aside0.mk ((by rw [hw];exact below_set (HB.out) GB38.out : Below w.heap.size w w50));clear hg hw hp_))
            go_roundg k2
            case measure => have:=HJ2.out;have:=HK2.out;omega
            case rel => exact ⟨(wrap64 (x27_2 + 1)),(y374),(.slice (some ⟨go38,0,none⟩) x372001_2.length co38),rs_,H',⟨by have:=HJ2.out;have:=HK2.out;omega⟩,⟨pr_ HO_372001.out⟩,⟨pe_ BK364.out⟩,⟨pe_ BK365.out⟩,⟨pe_ BK371.out⟩,⟨be4_ HB.out GE364.out GE365.out GE371.out GE373.out⟩⟩
           ·rw [if_neg c37] at H
            exact absurd H (by simp)
          ·rw [if_neg c36] at H
           exact absurd H (by simp)
         ·rw [if_neg c34] at H
          have c34b0 : (((rd_T92 l0_3 x27_2).f1).toList == a1.toList) = false:=beq_eq_false_iff_ne.mpr c34
          have c34b1 : (((rd_T92 l0_3 x27_2).f1).toList != a1.toList) = true:=bne_iff_ne.mpr c34
          have H':=Aside0.mk H
          clear H
          have p372 : 0 ≤ (x27_2 : Int):=od_
          have q372 : x27_2 < (l0_3.length : Int):=od_
          obtain ⟨ad372,e372,hx372_0,hx372_1,hx372_2,hx372_3⟩:=at_T92 HR0_3.out x27_2 p372 q372
          cases e372
          replace hx372_0:=hbc_ HB.out hx372_0
          replace hx372_1:=hbc_ HB.out hx372_1
          replace hx372_2:=hbc_ HB.out hx372_2
          replace hx372_3:=hbc_ HB.out hx372_3
          replace p372:=eq_true p372
          replace q372:=eq_true q372
          go_wp2_with (first|((with_reducible refine bev_ (N:=8) rfl rfl (cs:=#[.int .i64 0,.string (⟨#[]⟩ : ByteArray),.int .i64 0,.int .i64 0]) (t:=92) ?hr ?_);(case hr => first|(go_simp;done)|(go_simp;rfl));intro gb373 hg w51 hbox hb;replace HO_372001:=Aside0.mk (Kd.R_below (pr_ HO_372001.out) hb);have BK373:=Aside0.mk (hbox);have GW373:=Aside0.mk (szg_ hg (below_size (be3_ HB.out GE364.out GE365.out GE371.out)));have GE373:=GW373;replace HB:=Aside0.mk (below_step (be3_ HB.out GE364.out GE365.out GE371.out) hb);have NB364_373:=nm_ hg BK364;have NB373_364:=nn_ hg BK364;replace BK364:=kc_ BK364 hb;have NB365_373:=nm_ hg BK365;have NB373_365:=nn_ hg BK365;replace BK365:=kc_ BK365 hb;have NB371_373:=nm_ hg BK371;have NB373_371:=nn_ hg BK371;replace BK371:=kc_ BK371 hb;clear hb hbox hg;have hnb52:=NB373_364.out;have hnc52:=NB364_373.out;have hnb53:=NB373_365.out;have hnc53:=NB365_373.out;have hnb54:=NB373_371.out;have hnc54:=NB371_373.out;obtain ⟨hcz55_0,hcz55_1,hcz55_2,hcz55_3,hfz55_0,hfz55_1,hfz55_2,hfz55_3⟩:=cf4_ BK373.out))
          go_roundg k2
          case measure => have:=HJ2.out;have:=HK2.out;omega
          case rel => exact ⟨(wrap64 (x27_2 + 1)),(x372001_2),(u372001),rs_,H',⟨by have:=HJ2.out;have:=HK2.out;omega⟩,⟨by refine pr_ ?_;exact Kd.R_mono (Kd.R_far (p:=⟨gb373,3,none⟩) (Kd.R_far (p:=⟨gb373,2,none⟩) (Kd.R_far (p:=⟨gb373,1,none⟩) (Kd.R_far (p:=⟨gb373,0,none⟩) (Kd.R_types HO_372001.out BK373.out (by decide)) (fun _ hk => hk.2) (.int .i64 ((rd_T92 l0_3 x27_2).f0))) (fun _ hk => hk.2) (.string ((rd_T92 l0_3 x27_2).f1))) (fun _ hk => hk.2) (.int .i64 ((rd_T92 l0_3 x27_2).f2))) (fun _ hk => hk.2) (.int .i64 ((rd_T92 l0_3 x27_2).f3))) (fun _ hk => trivial)⟩,⟨bf1_ BK364.out NB364_373.out⟩,⟨bf1_ BK365.out NB365_373.out⟩,⟨bf1_ BK371.out NB371_373.out⟩,⟨be4_ HB.out GE364.out GE365.out GE371.out GE373.out⟩⟩
        ·rw [if_neg c33] at H
         exact absurd H (by simp)
       ·rw [if_neg c32] at H
        exact absurd H (by simp)
      ·rw [if_neg c31] at H
       have c31b0 : decide (x27_2 < (l0_3.length : Int)) = false:=decide_eq_false c31
       clear c31
       simp only [Option.some.injEq,Prod.mk.injEq] at H
       obtain ⟨rfl,rfl,rfl⟩:=H
       have hnb56:=NB371_364.out
       have hnc56:=NB364_371.out
       have hnb57:=NB371_365.out
       have hnc57:=NB365_371.out
       obtain ⟨hcz58_0,hcz58_1,hfz58_0,hfz58_1⟩:=cf2_ BK371.out
       have hnb59:=NB365_364.out
       have hnc59:=NB364_365.out
       obtain ⟨hcz60_0,hcz60_1,hfz60_0,hfz60_1⟩:=cf2_ BK365.out
       obtain ⟨Ao61,co61,eo61⟩:=Kd.R_slice HO_372001.out
       subst eo61
       go_wp2
       refine bodyPost_ret (results_ct rfl _ _ gb365 35 #[.int .i64 t367,.slice Ao61 x372001_2.length co61] (0,0) _ rfl (by refine pe_ ?_;refine blk_put (cs:=#[.int .i64 t367,.slice none 0 0]) ?_ 1 _ rfl;refine pe_ ?_;refine blk_put (cs:=#[.int .i64 0,.slice none 0 0]) ?_ 0 _ rfl;refine pe_ ?_;exact BK365.out) Try.underlying35 rfl (by kernel_rfl)) rfl ?_
       exact ⟨_,er_,by refine pr_ ?_;exact Kd.R_mono (Kd.R_far (p:=⟨gb365,1,none⟩) (Kd.R_far (p:=⟨gb365,0,none⟩) (Kd.R_types HO_372001.out BK365.out (by decide)) (fun _ hk => hk.2) (.int .i64 t367)) (fun _ hk => hk.2) (.slice Ao61 x372001_2.length co61)) (fun _ hk => trivial),be3_ HB.out GE364.out GE365.out GE371.out⟩
mutual
def impl_value.l0 : Nat → List (S136) → Int → Int → Int → List Int → List Int → List (S92) → Int → List Int → Option (Int × List Int × Bool)
 | 0,_,_,_,_,_,_,_,_,_ => none
 | k + 1,x13,x14,x15,x763000,x763001,x763002,x763003,x765000,x765001 => if x15 < x14 then (if 0 ≤ x15 then (if x15 < (x13.length : Int) then (if ((rd_T136 x13 x15).f0).toList = ([] : List UInt8) then ((impl_value.f k x763000 x763001 x763002 x763003 ((rd_T136 x13 x15).f1)).bind fun bt768 => (if bt768.2.2 = true then ((impl_Stabilise.f k bt768.1 bt768.2.1).bind fun bt773 => (impl_value.j1 k x15 bt773.2.2 x13 x14 x15 x763000 x763001 x763002 x763003 x765000 x765001 bt773.1 bt773.2.1)) else (impl_value.j1 k x15 bt768.2.2 x13 x14 x15 x763000 x763001 x763002 x763003 x765000 x765001 bt768.1 bt768.2.1))) else ((impl_StepMatrix.f k x763000 x763001 x763002 x763003 ((rd_T136 x13 x15).f0)).bind fun bt778 => ((impl_GradesOf.f k bt778.1 bt778.2.1).bind fun bt784 => (impl_value.j1 k x15 true x13 x14 x15 x763000 x763001 x763002 x763003 x765000 x765001 bt784.1 bt784.2.1)))) else (none)) else (none)) else (some (x765000,x765001,true))
def impl_value.j1 : Nat → Int → Bool → List (S136) → Int → Int → Int → List Int → List Int → List (S92) → Int → List Int → Int → List Int → Option (Int × List Int × Bool)
 | 0,_,_,_,_,_,_,_,_,_,_,_,_,_ => none
 | k + 1,x7,x10,x13,x14,x15,x763000,x763001,x763002,x763003,x765000,x765001,x768000,x768001 => if x10 = true then (if x7 > 0 then ((impl_MulGrades.f k x765000 x765001 x768000 x768001).bind fun bt789 => (impl_value.l0 k x13 x14 (wrap64 (x15 + 1)) x763000 x763001 x763002 x763003 bt789.1 bt789.2.1)) else (impl_value.l0 k x13 x14 (wrap64 (x15 + 1)) x763000 x763001 x763002 x763003 x768000 x768001)) else (some (0,([] : List Int),false))
def impl_value.f : Nat → Int → List Int → List Int → List (S92) → List (S136) → Option (Int × List Int × Bool)
 | 0,_,_,_,_,_ => none
 | k + 1,a0_0,l0_1,l0_2,l0_3,l1 => impl_value.l0 k l1 (l1.length : Int) 0 a0_0 l0_1 l0_2 l0_3 0 ([] : List Int)
end
theorem impl_value.mono_l : ∀ k,(∀ y0 y1 y2 y3 y4,LeO (impl_value.f k y0 y1 y2 y3 y4) (impl_value.f (k + 1) y0 y1 y2 y3 y4)) ∧ (∀ y0 y1 y2 y3 y4 y5 y6 y7 y8,LeO (impl_value.l0 k y0 y1 y2 y3 y4 y5 y6 y7 y8) (impl_value.l0 (k + 1) y0 y1 y2 y3 y4 y5 y6 y7 y8)) ∧ (∀ y0 y1 y2 y3 y4 y5 y6 y7 y8 y9 y10 y11 y12,LeO (impl_value.j1 k y0 y1 y2 y3 y4 y5 y6 y7 y8 y9 y10 y11 y12) (impl_value.j1 (k + 1) y0 y1 y2 y3 y4 y5 y6 y7 y8 y9 y10 y11 y12))
 | 0 => ⟨fun _ _ _ _ _ r h => by simp [impl_value.f] at h,fun _ _ _ _ _ _ _ _ _ r h => by simp [impl_value.l0] at h,fun _ _ _ _ _ _ _ _ _ _ _ _ _ r h => by simp [impl_value.j1] at h⟩
 | k + 1 => by
  obtain ⟨ih0,ih1,ih2⟩:=impl_value.mono_l k
  refine ⟨?_,?_,?_⟩
  ·intro y0 y1 y2 y3 y4
   unfold impl_value.f
   repeat' first
   | (with_reducible exact ih0 _ _ _ _ _)
   | (with_reducible exact ih1 _ _ _ _ _ _ _ _ _)
   | (with_reducible exact ih2 _ _ _ _ _ _ _ _ _ _ _ _ _)
   | (with_reducible exact impl_GradesOf.mono _ _ _)
   | (with_reducible exact impl_MulGrades.mono _ _ _ _ _)
   | (with_reducible exact impl_Stabilise.mono _ _ _)
   | (with_reducible exact impl_StepMatrix.mono _ _ _ _ _ _)
   | (with_reducible first|exact LeO.refl _|exact LeO.none _|refine LeO.ite ?_ ?_|refine LeO.bind ?_ (fun _ => ?_))
   | exact ih0 _ _ _ _ _
   | exact ih1 _ _ _ _ _ _ _ _ _
   | exact ih2 _ _ _ _ _ _ _ _ _ _ _ _ _
   | exact impl_GradesOf.mono _ _ _
   | exact impl_MulGrades.mono _ _ _ _ _
   | exact impl_Stabilise.mono _ _ _
   | exact impl_StepMatrix.mono _ _ _ _ _ _
   | exact LeO.none _
   | refine LeO.ite ?_ ?_
   | refine LeO.bind ?_ (fun _ => ?_)
  ·intro y0 y1 y2 y3 y4 y5 y6 y7 y8
   unfold impl_value.l0
   repeat' first
   | (with_reducible exact ih0 _ _ _ _ _)
   | (with_reducible exact ih1 _ _ _ _ _ _ _ _ _)
   | (with_reducible exact ih2 _ _ _ _ _ _ _ _ _ _ _ _ _)
   | (with_reducible exact impl_GradesOf.mono _ _ _)
   | (with_reducible exact impl_MulGrades.mono _ _ _ _ _)
   | (with_reducible exact impl_Stabilise.mono _ _ _)
   | (with_reducible exact impl_StepMatrix.mono _ _ _ _ _ _)
   | (with_reducible first|exact LeO.refl _|exact LeO.none _|refine LeO.ite ?_ ?_|refine LeO.bind ?_ (fun _ => ?_))
   | exact ih0 _ _ _ _ _
   | exact ih1 _ _ _ _ _ _ _ _ _
   | exact ih2 _ _ _ _ _ _ _ _ _ _ _ _ _
   | exact impl_GradesOf.mono _ _ _
   | exact impl_MulGrades.mono _ _ _ _ _
   | exact impl_Stabilise.mono _ _ _
   | exact impl_StepMatrix.mono _ _ _ _ _ _
   | exact LeO.none _
   | refine LeO.ite ?_ ?_
   | refine LeO.bind ?_ (fun _ => ?_)
  ·intro y0 y1 y2 y3 y4 y5 y6 y7 y8 y9 y10 y11 y12
   unfold impl_value.j1
   repeat' first
   | (with_reducible exact ih0 _ _ _ _ _)
   | (with_reducible exact ih1 _ _ _ _ _ _ _ _ _)
   | (with_reducible exact ih2 _ _ _ _ _ _ _ _ _ _ _ _ _)
   | (with_reducible exact impl_GradesOf.mono _ _ _)
   | (with_reducible exact impl_MulGrades.mono _ _ _ _ _)
   | (with_reducible exact impl_Stabilise.mono _ _ _)
   | (with_reducible exact impl_StepMatrix.mono _ _ _ _ _ _)
   | (with_reducible first|exact LeO.refl _|exact LeO.none _|refine LeO.ite ?_ ?_|refine LeO.bind ?_ (fun _ => ?_))
   | exact ih0 _ _ _ _ _
   | exact ih1 _ _ _ _ _ _ _ _ _
   | exact ih2 _ _ _ _ _ _ _ _ _ _ _ _ _
   | exact impl_GradesOf.mono _ _ _
   | exact impl_MulGrades.mono _ _ _ _ _
   | exact impl_Stabilise.mono _ _ _
   | exact impl_StepMatrix.mono _ _ _ _ _ _
   | exact LeO.none _
   | refine LeO.ite ?_ ?_
   | refine LeO.bind ?_ (fun _ => ?_)
theorem impl_value.mono : ∀ a0 a1 a2 a3 a4 k,LeO (impl_value.f k a0 a1 a2 a3 a4) (impl_value.f (k + 1) a0 a1 a2 a3 a4):=by
 intro a0 a1 a2 a3 a4 k
 obtain ⟨ih0,ih1,ih2⟩:=impl_value.mono_l k
 exact ih0 a0 a1 a2 a3 a4
set_option maxHeartbeats 8000000 in
set_option maxRecDepth 100000 in
theorem impl_value.calls (k : Nat) : ∀ (a0_0 : Int) (A0_1 : Option Addr) (c0_1 : Nat) (l0_1 : List Int) (A0_2 : Option Addr) (c0_2 : Nat) (l0_2 : List Int) (A0_3 : Option Addr) (c0_3 : Nat) (l0_3 : List (S92)) (A1 : Option Addr) (c1 : Nat) (l1 : List (S136)) (r1 : Int) (r2 : List Int) (r3 : Bool) (w : World) (hr0_1 : Kd.C (Kd.int .i64) w A0_1 l0_1.length l0_1) (hc0_1 : l0_1.length ≤ c0_1) (hr0_2 : Kd.C (Kd.int .i64) w A0_2 l0_2.length l0_2) (hc0_2 : l0_2.length ≤ c0_2) (hr0_3 : Kd.C k92 w A0_3 l0_3.length l0_3) (hc0_3 : l0_3.length ≤ c0_3) (hr1 : Kd.C k136 w A1 l1.length l1) (hc1 : l1.length ≤ c1) (h : impl_value.f k a0_0 l0_1 l0_2 l0_3 l1 = some (r1,r2,r3)),
  Calls Try.prog 89 #[.agg #[.int .i64 a0_0,.slice A0_1 l0_1.length c0_1,.slice A0_2 l0_2.length c0_2,.slice A0_3 l0_3.length c0_3],.slice A1 l1.length c1] w fun e w' => ∃ v1_ : Value,e = .returned (.tuple #[.agg #[.int .i64 r1,v1_],.bool r3]) ∧ Kd.R (Kd.int .i64) 3 w' w.heap.size (fun _ => True) v1_ r2 ∧ Below w.heap.size w w':=by
 induction k using Nat.strongRecOn with
 | _ k ih =>
 intro a0_0 A0_1 c0_1 l0_1 A0_2 c0_2 l0_2 A0_3 c0_3 l0_3 A1 c1 l1 r1 r2 r3 w hr0_1 hc0_1 hr0_2 hc0_2 hr0_3 hc0_3 hr1 hc1 h
 cases k with
 | zero => exact absurd h (by simp [impl_value.f])
 | succ k =>
 simp only [impl_value.f] at h
 have hu33:=Try.underlying33
 have hu35:=Try.underlying35
 have hu136:=Try.underlying136
 have HR0_1:=Aside0.mk hr0_1
 have HC0_1:=Aside0.mk hc0_1
 clear hr0_1 hc0_1
 have HR0_2:=Aside0.mk hr0_2
 have HC0_2:=Aside0.mk hc0_2
 clear hr0_2 hc0_2
 have HR0_3:=Aside0.mk hr0_3
 have HC0_3:=Aside0.mk hc0_3
 clear hr0_3 hc0_3
 have HR1:=Aside0.mk hr1
 have HC1:=Aside0.mk hc1
 clear hr1 hc1
 have HB:=Aside0.mk (Below.refl w.heap.size w)
 have H : (impl_value.l0 k l1 (l1.length : Int) 0 a0_0 l0_1 l0_2 l0_3 0 ([] : List Int)) = some (r1,r2,r3):=h
 clear h
 have H':=Aside0.mk H
 clear H
 go_enter Try.func89,Try.ntmps89
 go_wp2_with (first|((with_reducible refine bev_ (N:=2) rfl rfl (cs:=#[.int .i64 a0_0,.slice A0_1 l0_1.length c0_1,.slice A0_2 l0_2.length c0_2,.slice A0_3 l0_3.length c0_3]) (t:=33) ?hr ?_);(case hr => first|(go_simp;done)|(go_simp;rfl));intro gb762 hg w3 hbox hb;have BK762:=Aside0.mk (hbox);have GW762:=Aside0.mk (szg_ hg (below_size (be0_ HB.out)));have GE762:=GW762;replace HB:=Aside0.mk (below_step (be0_ HB.out) hb);clear hb hbox hg)|((with_reducible refine bev_ (N:=4) rfl rfl (cs:=#[.int .i64 0,.slice none 0 0]) (t:=35) ?hr ?_);(case hr => first|(go_simp;done)|(go_simp;rfl));intro gb763 hg w4 hbox hb;have BK763:=Aside0.mk (hbox);have GW763:=Aside0.mk (szg_ hg (below_size (be1_ HB.out GE762.out)));have GE763:=GW763;replace HB:=Aside0.mk (below_step (be1_ HB.out GE762.out) hb);have NB762_763:=nm_ hg BK762;have NB763_762:=nn_ hg BK762;replace BK762:=kc_ BK762 hb;clear hb hbox hg)|((with_reducible refine bev_ (N:=6) rfl rfl (cs:=#[.int .i64 0,.slice none 0 0]) (t:=35) ?hr ?_);(case hr => first|(go_simp;done)|(go_simp;rfl));intro gb764 hg w5 hbox hb;have BK764:=Aside0.mk (hbox);have GW764:=Aside0.mk (szg_ hg (below_size (be2_ HB.out GE762.out GE763.out)));have GE764:=GW764;replace HB:=Aside0.mk (below_step (be2_ HB.out GE762.out GE763.out) hb);have NB762_764:=nm_ hg BK762;have NB764_762:=nn_ hg BK762;replace BK762:=kc_ BK762 hb;have NB763_764:=nm_ hg BK763;have NB764_763:=nn_ hg BK763;replace BK763:=kc_ BK763 hb;clear hb hbox hg))
 go_loopg [15] k (fun kq v15 w' => ∃ (x15_1 : Int) (x764000_1 : Int) (x765000_1 : Int) (x765001_1 : List Int) (u765001 : Value),v15 = .int .i64 x15_1 ∧ Aside0 (impl_value.l0 kq l1 (l1.length : Int) x15_1 a0_0 l0_1 l0_2 l0_3 x765000_1 x765001_1 = some (r1,r2,r3)) ∧ Aside0 (kq ≤ k) ∧ Aside0 (Kd.R (Kd.int .i64) 3 w' w.heap.size (fun _ => True) u765001 x765001_1) ∧ Aside0 (w'.heap[gb762]? = some (.cells #[.int .i64 a0_0,(.slice A0_1 l0_1.length c0_1),(.slice A0_2 l0_2.length c0_2),(.slice A0_3 l0_3.length c0_3)] 33 (0,0))) ∧ Aside0 (w'.heap[gb763]? = some (.cells #[.int .i64 x764000_1,(.slice none 0 0)] 35 (0,0))) ∧ Aside0 (w'.heap[gb764]? = some (.cells #[.int .i64 x765000_1,u765001] 35 (0,0))) ∧ Aside0 (Below w.heap.size w w'))
 case atStart => exact ⟨(0),(0),(0),(([] : List Int)),(.slice none 0 0),rs_,H',⟨Nat.le_refl _⟩,⟨by first|exact Kd.R_nil _ _ _ _ _|exact Kd.N_nil _ _ _ _ _|exact Kd.V_nil _ _ _ _ _|exact Kd.Q_nil _ _ _ _ _|exact Kd.S_nil _ _ _ _ _⟩,⟨pe_ BK762.out⟩,⟨pe_ BK763.out⟩,⟨pe_ BK764.out⟩,⟨be3_ HB.out GE762.out GE763.out GE764.out⟩⟩
 case round =>
  clear H'
  try clear c1
  try clear p2
  obtain ⟨x15_1,x764000_1,x765000_1,x765001_1,u765001,rfl,HA,HK1,HO_765001,BK762,BK763,BK764,HB⟩:=hrel
  cases gk with
  | zero => exact absurd HA.out (by simp [impl_value.l0])
  | succ k1 =>
   have H:=HA.out
   clear HA
   simp only [impl_value.l0] at H
   by_cases c6 : x15_1 < (l1.length : Int)
   ·rw [if_pos c6] at H
    have c6b0 : decide (x15_1 < (l1.length : Int)) = true:=decide_eq_true c6
    clear c6
    by_cases c7 : 0 ≤ x15_1
    ·rw [if_pos c7] at H
     have c7b0 : decide (0 ≤ x15_1) = true:=decide_eq_true c7
     clear c7
     by_cases c8 : x15_1 < (l1.length : Int)
     ·rw [if_pos c8] at H
      have c8b0 : decide (x15_1 < (l1.length : Int)) = true:=decide_eq_true c8
      clear c8
      have HC9:=Aside0.mk H
      clear H
      have p765 : 0 ≤ (x15_1 : Int):=od_
      have q765 : x15_1 < (l1.length : Int):=od_
      obtain ⟨ad765,A765_1,c765_1,e765,hx765_0,hx765_1,hl765_1,hi765_1⟩:=at_T136 HR1.out x15_1 p765 q765
      cases e765
      replace hx765_0:=hbc_ HB.out hx765_0
      replace hx765_1:=hbc_ HB.out hx765_1
      have HR765_1:=Aside0.mk hi765_1
      have HC765_1:=Aside0.mk hl765_1
      clear hi765_1 hl765_1
      replace p765:=eq_true p765
      replace q765:=eq_true q765
      go_upto_if 22 with (first|((with_reducible refine bev_ (N:=8) rfl rfl (cs:=#[.string (⟨#[]⟩ : ByteArray),.slice none 0 0]) (t:=136) ?hr ?_);(case hr => first|(go_simp;done)|(go_simp;rfl));intro gb766 hg w10 hbox hb;replace HO_765001:=Aside0.mk (Kd.R_below (pr_ HO_765001.out) hb);have BK766:=Aside0.mk (hbox);have GW766:=Aside0.mk (szg_ hg (below_size (be3_ HB.out GE762.out GE763.out GE764.out)));have GE766:=GW766;replace HB:=Aside0.mk (below_step (be3_ HB.out GE762.out GE763.out GE764.out) hb);have NB762_766:=nm_ hg BK762;have NB766_762:=nn_ hg BK762;replace BK762:=kc_ BK762 hb;have NB763_766:=nm_ hg BK763;have NB766_763:=nn_ hg BK763;replace BK763:=kc_ BK763 hb;have NB764_766:=nm_ hg BK764;have NB766_764:=nn_ hg BK764;replace BK764:=kc_ BK764 hb;clear hb hbox hg;have hnb11:=NB766_762.out;have hnc11:=NB762_766.out;have hnb12:=NB766_763.out;have hnc12:=NB763_766.out;have hnb13:=NB766_764.out;have hnc13:=NB764_766.out;obtain ⟨hcz14_0,hcz14_1,hfz14_0,hfz14_1⟩:=cf2_ BK766.out)|((with_reducible refine bev_ (N:=9) rfl rfl (cs:=#[.int .i64 0,.slice none 0 0]) (t:=35) ?hr ?_);(case hr => first|(go_simp;done)|(go_simp;rfl));intro gb767 hg w15 hbox hb;replace HO_765001:=Aside0.mk (Kd.R_below (by refine pr_ ?_;exact (Kd.R_mono (Kd.R_far (p:=⟨gb766,1,none⟩) (Kd.R_far (p:=⟨gb766,0,none⟩) (Kd.R_types HO_765001.out BK766.out (by decide)) (fun _ hk => hk.2) (.string ((rd_T136 l1 x15_1).f0))) (fun _ hk => hk.2) (.slice A765_1 ((rd_T136 l1 x15_1).f1).length c765_1)) (fun _ h_ => h_.1))) hb);have BK767:=Aside0.mk (hbox);have GW767:=Aside0.mk (szg_ hg (below_size (be4_ HB.out GE762.out GE763.out GE764.out GE766.out)));have GE767:=GW767;replace HB:=Aside0.mk (below_step (be4_ HB.out GE762.out GE763.out GE764.out GE766.out) hb);have NB762_767:=Aside0.mk ((by rw [hg];exact Nat.ne_of_lt (blk_lt (g:=gb762) (o:=.cells #[.int .i64 a0_0,.slice A0_1 l0_1.length c0_1,.slice A0_2 l0_2.length c0_2,.slice A0_3 l0_3.length c0_3] 33 (0,0)) (bf1_ BK762.out NB762_766.out)) : gb762 ≠ gb767));have NB767_762:=Aside0.mk ((by rw [hg];exact Nat.ne_of_gt (blk_lt (g:=gb762) (o:=.cells #[.int .i64 a0_0,.slice A0_1 l0_1.length c0_1,.slice A0_2 l0_2.length c0_2,.slice A0_3 l0_3.length c0_3] 33 (0,0)) (bf1_ BK762.out NB762_766.out)) : gb767 ≠ gb762));replace BK762:=Aside0.mk (blk_below (g:=gb762) (o:=.cells #[.int .i64 a0_0,.slice A0_1 l0_1.length c0_1,.slice A0_2 l0_2.length c0_2,.slice A0_3 l0_3.length c0_3] 33 (0,0)) (bf1_ BK762.out NB762_766.out) hb);have NB763_767:=Aside0.mk ((by rw [hg];exact Nat.ne_of_lt (blk_lt (g:=gb763) (o:=.cells #[.int .i64 x764000_1,.slice none 0 0] 35 (0,0)) (bf1_ BK763.out NB763_766.out)) : gb763 ≠ gb767));have NB767_763:=Aside0.mk ((by rw [hg];exact Nat.ne_of_gt (blk_lt (g:=gb763) (o:=.cells #[.int .i64 x764000_1,.slice none 0 0] 35 (0,0)) (bf1_ BK763.out NB763_766.out)) : gb767 ≠ gb763));replace BK763:=Aside0.mk (blk_below (g:=gb763) (o:=.cells #[.int .i64 x764000_1,.slice none 0 0] 35 (0,0)) (bf1_ BK763.out NB763_766.out) hb);have NB764_767:=Aside0.mk ((by rw [hg];exact Nat.ne_of_lt (blk_lt (g:=gb764) (o:=.cells #[.int .i64 x765000_1,u765001] 35 (0,0)) (bf1_ BK764.out NB764_766.out)) : gb764 ≠ gb767));have NB767_764:=Aside0.mk ((by rw [hg];exact Nat.ne_of_gt (blk_lt (g:=gb764) (o:=.cells #[.int .i64 x765000_1,u765001] 35 (0,0)) (bf1_ BK764.out NB764_766.out)) : gb767 ≠ gb764));replace BK764:=Aside0.mk (blk_below (g:=gb764) (o:=.cells #[.int .i64 x765000_1,u765001] 35 (0,0)) (bf1_ BK764.out NB764_766.out) hb);have NB766_767:=Aside0.mk ((by rw [hg];exact Nat.ne_of_lt (blk_lt (g:=gb766) (o:=.cells #[.string ((rd_T136 l1 x15_1).f0),.slice A765_1 ((rd_T136 l1 x15_1).f1).length c765_1] 136 (0,0)) (by refine pe_ ?_;refine blk_put (cs:=#[.string ((rd_T136 l1 x15_1).f0),.slice none 0 0]) ?_ 1 _ rfl;refine pe_ ?_;refine blk_put (cs:=#[.string (⟨#[]⟩ : ByteArray),.slice none 0 0]) ?_ 0 _ rfl;refine pe_ ?_;exact BK766.out)) : gb766 ≠ gb767));have NB767_766:=Aside0.mk ((by rw [hg];exact Nat.ne_of_gt (blk_lt (g:=gb766) (o:=.cells #[.string ((rd_T136 l1 x15_1).f0),.slice A765_1 ((rd_T136 l1 x15_1).f1).length c765_1] 136 (0,0)) (by refine pe_ ?_;refine blk_put (cs:=#[.string ((rd_T136 l1 x15_1).f0),.slice none 0 0]) ?_ 1 _ rfl;refine pe_ ?_;refine blk_put (cs:=#[.string (⟨#[]⟩ : ByteArray),.slice none 0 0]) ?_ 0 _ rfl;refine pe_ ?_;exact BK766.out)) : gb767 ≠ gb766));replace BK766:=Aside0.mk (blk_below (g:=gb766) (o:=.cells #[.string ((rd_T136 l1 x15_1).f0),.slice A765_1 ((rd_T136 l1 x15_1).f1).length c765_1] 136 (0,0)) (by refine pe_ ?_;refine blk_put (cs:=#[.string ((rd_T136 l1 x15_1).f0),.slice none 0 0]) ?_ 1 _ rfl;refine pe_ ?_;refine blk_put (cs:=#[.string (⟨#[]⟩ : ByteArray),.slice none 0 0]) ?_ 0 _ rfl;refine pe_ ?_;exact BK766.out) hb);clear hb hbox hg;have hnb16:=NB766_767.out;have hnc16:=NB767_766.out;obtain ⟨hcz17_0,hcz17_1,hfz17_0,hfz17_1⟩:=cf2_ BK766.out))
      (try simp only [Act.put,List.setIfInBounds_toArray,List.set_cons_zero,List.set_cons_succ])
      go_cut [10] (fun v10 wc => ∃ (kq : Nat) (x10_8 : Bool) (x768000_8 : Int) (x768001_8 : List Int) (u768001 : Value),v10 = .bool x10_8 ∧ Aside0 (impl_value.j1 kq x15_1 x10_8 l1 (l1.length : Int) x15_1 a0_0 l0_1 l0_2 l0_3 x765000_1 x765001_1 x768000_8 x768001_8 = some (r1,r2,r3)) ∧ Aside0 (kq ≤ k1) ∧ Aside0 (Kd.R (Kd.int .i64) 3 wc w.heap.size (fun k_ => some k_ ≠ (u768001 : Value).ownBlock) u765001 x765001_1) ∧ Aside0 (Kd.R (Kd.int .i64) 3 wc w.heap.size (fun k_ => some k_ ≠ (u765001 : Value).ownBlock) u768001 x768001_8) ∧ Aside0 (wc.heap[gb762]? = some (.cells #[.int .i64 a0_0,(.slice A0_1 l0_1.length c0_1),(.slice A0_2 l0_2.length c0_2),(.slice A0_3 l0_3.length c0_3)] 33 (0,0))) ∧ Aside0 (wc.heap[gb763]? = some (.cells #[.int .i64 x764000_1,(.slice none 0 0)] 35 (0,0))) ∧ Aside0 (wc.heap[gb764]? = some (.cells #[.int .i64 x765000_1,u765001] 35 (0,0))) ∧ Aside0 (wc.heap[gb766]? = some (.cells #[.string ((rd_T136 l1 x15_1).f0),(.slice A765_1 ((rd_T136 l1 x15_1).f1).length c765_1)] 136 (0,0))) ∧ Aside0 (wc.heap[gb767]? = some (.cells #[.int .i64 x768000_8,u768001] 35 (0,0))) ∧ Aside0 (Below w.heap.size w wc))
      case first =>
       have H:=HC9.out
       clear HC9
       by_cases c18 : ((rd_T136 l1 x15_1).f0).toList = ([] : List UInt8)
       ·rw [if_pos c18] at H
        have c18b0 : (((rd_T136 l1 x15_1).f0).toList == ([] : List UInt8)) = true:=beq_iff_eq.mpr c18
        have c18b9 : (((rd_T136 l1 x15_1).f0).toList).isEmpty = true:=List.isEmpty_iff.mpr c18
        have c18b1 : (((rd_T136 l1 x15_1).f0).toList != ([] : List UInt8)) = false:=bne_eq_false_iff_eq.mpr c18
        clear c18
        (first|rw [c18b0]|(simp only [i64_w,i32_w];rw [c18b0])|rw [c18b9]|skip)
        replace H:=Option.bind_eq_some_iff.mp H
        obtain ⟨⟨t768,t769,t772⟩,A190,H⟩:=H
        replace H : (if t772 = true then ((impl_Stabilise.f k1 t768 t769).bind fun bt773 => (impl_value.j1 k1 x15_1 bt773.2.2 l1 (l1.length : Int) x15_1 a0_0 l0_1 l0_2 l0_3 x765000_1 x765001_1 bt773.1 bt773.2.1)) else (impl_value.j1 k1 x15_1 t772 l1 (l1.length : Int) x15_1 a0_0 l0_1 l0_2 l0_3 x765000_1 x765001_1 t768 t769)) = some (r1,r2,r3):=H
        have A19:=Aside0.mk A190
        clear A190
        by_cases c20 : t772 = true
        ·subst c20
         have H1 : ((impl_Stabilise.f k1 t768 t769).bind fun bt773 => (impl_value.j1 k1 x15_1 bt773.2.2 l1 (l1.length : Int) x15_1 a0_0 l0_1 l0_2 l0_3 x765000_1 x765001_1 bt773.1 bt773.2.1)) = some (r1,r2,r3):=by rw [if_pos rfl] at H;exact H
         clear H
         have H:=H1
         clear H1
         replace H:=Option.bind_eq_some_iff.mp H
         obtain ⟨⟨t773,t774,t777⟩,A210,H⟩:=H
         replace H : (impl_value.j1 k1 x15_1 t777 l1 (l1.length : Int) x15_1 a0_0 l0_1 l0_2 l0_3 x765000_1 x765001_1 t773 t774) = some (r1,r2,r3):=H
         have A21:=Aside0.mk A210
         clear A210
         have H':=Aside0.mk H
         clear H
         have hnb22:=NB762_763.out
         have hnc22:=NB763_762.out
         have hnb23:=NB762_764.out
         have hnc23:=NB764_762.out
         have hnb24:=NB762_766.out
         have hnc24:=NB766_762.out
         have hnb25:=NB762_767.out
         have hnc25:=NB767_762.out
         obtain ⟨hcz26_0,hcz26_1,hcz26_2,hcz26_3,hfz26_0,hfz26_1,hfz26_2,hfz26_3⟩:=cf4_ BK762.out
         have hnb27:=NB766_763.out
         have hnc27:=NB763_766.out
         have hnb28:=NB766_764.out
         have hnc28:=NB764_766.out
         have hnb29:=NB766_767.out
         have hnc29:=NB767_766.out
         obtain ⟨hcz30_0,hcz30_1,hfz30_0,hfz30_1⟩:=cf2_ BK766.out
         go_wp2_with (first|((with_reducible refine gate_callee (f:=89) rfl ?_);refine goesL_ (some 39) rfl rfl Try.func89 (by kernel_rfl) rfl #[.agg #[.int .i64 a0_0,.slice A0_1 l0_1.length c0_1,.slice A0_2 l0_2.length c0_2,.slice A0_3 l0_3.length c0_3],.slice A765_1 ((rd_T136 l1 x15_1).f1).length c765_1] rfl lp_ ?_;(with_reducible refine (ih k1 (by have:=HK1.out;omega) a0_0 _ _ l0_1 _ _ l0_2 _ _ l0_3 _ _ ((rd_T136 l1 x15_1).f1) t768 t769 true _ ?side1 ?side2 ?side3 ?side4 ?side5 ?side6 ?side7 ?side8 A19.out).mono ?_);(case side1 => exact cr_ (Kd.C_below HR0_1.out HB.out));(case side2 => exact HC0_1.out);(case side3 => exact cr_ (Kd.C_below HR0_2.out HB.out));(case side4 => exact HC0_2.out);(case side5 => exact cr_ (Kd.C_below HR0_3.out HB.out));(case side6 => exact HC0_3.out);(case side7 => exact cr_ (Kd.C_below HR765_1.out HB.out));(case side8 => exact HC765_1.out);rintro e w31 ⟨v770,rfl,ho0,hb⟩;refine ⟨_,rfl,?_⟩;have HO771:=Aside0.mk (Kd.R_lower (Kd.R_new' ho0 (Kd.R_lt (pr_ HO_765001.out))) (below_size (be5_ HB.out GE762.out GE763.out GE764.out GE766.out GE767.out)));replace HO_765001:=Aside0.mk (Kd.R_elder' (pr_ HO_765001.out) (Kd.R_base ho0) hb);replace BK762:=kc_ BK762 hb;replace BK763:=kc_ BK763 hb;replace BK764:=kc_ BK764 hb;replace BK766:=kc_ BK766 hb;replace BK767:=kc_ BK767 hb;replace HB:=Aside0.mk (below_step (be5_ HB.out GE762.out GE763.out GE764.out GE766.out GE767.out) hb);(try clear hb);(try clear hb2);(try clear hk);(try clear hi);(try clear ho0);have hnb32:=NB767_763.out;have hnc32:=NB763_767.out;have hnb33:=NB767_764.out;have hnc33:=NB764_767.out;obtain ⟨hcz34_0,hcz34_1,hfz34_0,hfz34_1⟩:=cf2_ BK767.out;obtain ⟨Ao35,co35,eo35⟩:=Kd.R_slice HO771.out;subst eo35)|((with_reducible refine gate_callee (f:=54) rfl ?_);refine goesL_ (some 45) rfl rfl Try.func54 (by kernel_rfl) rfl #[.agg #[.int .i64 t768,.slice Ao35 t769.length co35]] rfl lp_ ?_;(with_reducible refine (impl_Stabilise.calls k1 t768 _ _ t769 t773 t774 t777 _ ?side1 ?side2 A21.out).mono ?_);(case side1 => refine (Kd.R_reads' (e:=3) (base:=w.heap.size) (ok:=fun k_ => (True ∧ some k_ ≠ (u765001 : Value).ownBlock)) (n:=t769.length) (c:=co35) ?_).2.2;exact (by refine pr_ ?_;exact (Kd.R_mono (Kd.R_far (p:=⟨gb767,1,none⟩) (Kd.R_far (p:=⟨gb767,0,none⟩) (Kd.R_types HO771.out BK767.out (by decide)) (fun _ hk => hk.2) (.int .i64 t768)) (fun _ hk => hk.2) (.slice Ao35 t769.length co35)) (fun _ h_ => h_.1))));(case side2 => exact (Kd.R_reads' HO771.out).2.1);rintro e w36 ⟨v775,rfl,ho0,hb⟩;refine ⟨_,rfl,?_⟩;have HO776:=Aside0.mk (Kd.R_lower (Kd.R_new' (Kd.R_new' ho0 (Kd.R_lt (by refine pr_ ?_;exact (Kd.R_mono (Kd.R_far (p:=⟨gb767,1,none⟩) (Kd.R_far (p:=⟨gb767,0,none⟩) (Kd.R_types HO_765001.out BK767.out (by decide)) (fun _ hk => hk.2) (.int .i64 t768)) (fun _ hk => hk.2) (.slice Ao35 t769.length co35)) (fun _ h_ => h_.1))))) (Kd.R_lt (by refine pr_ ?_;exact (Kd.R_mono (Kd.R_far (p:=⟨gb767,1,none⟩) (Kd.R_far (p:=⟨gb767,0,none⟩) (Kd.R_types HO771.out BK767.out (by decide)) (fun _ hk => hk.2) (.int .i64 t768)) (fun _ hk => hk.2) (.slice Ao35 t769.length co35)) (fun _ h_ => h_.1))))) (below_size (be5_ HB.out GE762.out GE763.out GE764.out GE766.out GE767.out)));replace HO_765001:=Aside0.mk (Kd.R_elder' (by refine pr_ ?_;exact (Kd.R_mono (Kd.R_far (p:=⟨gb767,1,none⟩) (Kd.R_far (p:=⟨gb767,0,none⟩) (Kd.R_types HO_765001.out BK767.out (by decide)) (fun _ hk => hk.2) (.int .i64 t768)) (fun _ hk => hk.2) (.slice Ao35 t769.length co35)) (fun _ h_ => h_.1))) (Kd.R_base ho0) hb);replace HO771:=Aside0.mk (Kd.R_elder' (by refine pr_ ?_;exact (Kd.R_mono (Kd.R_far (p:=⟨gb767,1,none⟩) (Kd.R_far (p:=⟨gb767,0,none⟩) (Kd.R_types HO771.out BK767.out (by decide)) (fun _ hk => hk.2) (.int .i64 t768)) (fun _ hk => hk.2) (.slice Ao35 t769.length co35)) (fun _ h_ => h_.1))) (Kd.R_base ho0) hb);replace BK762:=Aside0.mk (blk_below (g:=gb762) (o:=.cells #[.int .i64 a0_0,.slice A0_1 l0_1.length c0_1,.slice A0_2 l0_2.length c0_2,.slice A0_3 l0_3.length c0_3] 33 (0,0)) (bf1_ BK762.out NB762_767.out) hb);replace BK763:=Aside0.mk (blk_below (g:=gb763) (o:=.cells #[.int .i64 x764000_1,.slice none 0 0] 35 (0,0)) (bf1_ BK763.out NB763_767.out) hb);replace BK764:=Aside0.mk (blk_below (g:=gb764) (o:=.cells #[.int .i64 x765000_1,u765001] 35 (0,0)) (bf1_ BK764.out NB764_767.out) hb);replace BK766:=Aside0.mk (blk_below (g:=gb766) (o:=.cells #[.string ((rd_T136 l1 x15_1).f0),.slice A765_1 ((rd_T136 l1 x15_1).f1).length c765_1] 136 (0,0)) (bf1_ BK766.out NB766_767.out) hb);replace BK767:=Aside0.mk (blk_below (g:=gb767) (o:=.cells #[.int .i64 t768,.slice Ao35 t769.length co35] 35 (0,0)) (by refine pe_ ?_;refine blk_put (cs:=#[.int .i64 t768,.slice none 0 0]) ?_ 1 _ rfl;refine pe_ ?_;refine blk_put (cs:=#[.int .i64 0,.slice none 0 0]) ?_ 0 _ rfl;refine pe_ ?_;exact BK767.out) hb);replace HB:=Aside0.mk (below_step (be5_ HB.out GE762.out GE763.out GE764.out GE766.out GE767.out) hb);(try clear hb);(try clear hb2);(try clear hk);(try clear hi);(try clear ho0);obtain ⟨hcz37_0,hcz37_1,hfz37_0,hfz37_1⟩:=cf2_ BK767.out;obtain ⟨Ao38,co38,eo38⟩:=Kd.R_slice HO776.out;subst eo38))
         go_meet
         case rel => exact ⟨_,(t777),(t773),(t774),(.slice Ao38 t774.length co38),rs_,H',⟨by have:=HK1.out;first|omega|exact Nat.le_refl _⟩,⟨by refine pr_ ?_;exact Kd.R_mono (Kd.R_far (p:=⟨gb767,1,none⟩) (Kd.R_far (p:=⟨gb767,0,none⟩) (Kd.R_types HO_765001.out BK767.out (by decide)) (fun _ hk => hk.2) (.int .i64 t773)) (fun _ hk => hk.2) (.slice Ao38 t774.length co38)) (fun _ hk => (by first|exact hk.1.2|trivial))⟩,⟨by refine pr_ ?_;exact Kd.R_mono (Kd.R_far (p:=⟨gb767,1,none⟩) (Kd.R_far (p:=⟨gb767,0,none⟩) (Kd.R_types HO776.out BK767.out (by decide)) (fun _ hk => hk.2) (.int .i64 t773)) (fun _ hk => hk.2) (.slice Ao38 t774.length co38)) (fun _ hk => (by first|exact hk.1.1.2|trivial))⟩,⟨bf1_ BK762.out NB762_767.out⟩,⟨bf1_ BK763.out NB763_767.out⟩,⟨bf1_ BK764.out NB764_767.out⟩,⟨bf1_ BK766.out NB766_767.out⟩,⟨by refine pe_ ?_;refine blk_put (cs:=#[.int .i64 t773,.slice Ao35 t769.length co35]) ?_ 1 _ rfl;refine pe_ ?_;refine blk_put (cs:=#[.int .i64 t768,.slice Ao35 t769.length co35]) ?_ 0 _ rfl;refine pe_ ?_;exact BK767.out⟩,⟨be5_ HB.out GE762.out GE763.out GE764.out GE766.out GE767.out⟩⟩
        ·replace c20:=Bool.eq_false_iff.mpr c20
         subst c20
         have H1 : (impl_value.j1 k1 x15_1 false l1 (l1.length : Int) x15_1 a0_0 l0_1 l0_2 l0_3 x765000_1 x765001_1 t768 t769) = some (r1,r2,r3):=by rw [if_neg (show ¬ (false = true) by decide)] at H;exact H
         clear H
         have H:=H1
         clear H1
         have H':=Aside0.mk H
         clear H
         have hnb39:=NB762_763.out
         have hnc39:=NB763_762.out
         have hnb40:=NB762_764.out
         have hnc40:=NB764_762.out
         have hnb41:=NB762_766.out
         have hnc41:=NB766_762.out
         have hnb42:=NB762_767.out
         have hnc42:=NB767_762.out
         obtain ⟨hcz43_0,hcz43_1,hcz43_2,hcz43_3,hfz43_0,hfz43_1,hfz43_2,hfz43_3⟩:=cf4_ BK762.out
         have hnb44:=NB766_763.out
         have hnc44:=NB763_766.out
         have hnb45:=NB766_764.out
         have hnc45:=NB764_766.out
         have hnb46:=NB766_767.out
         have hnc46:=NB767_766.out
         obtain ⟨hcz47_0,hcz47_1,hfz47_0,hfz47_1⟩:=cf2_ BK766.out
         go_wp2_with (first|((with_reducible refine gate_callee (f:=89) rfl ?_);refine goesL_ (some 39) rfl rfl Try.func89 (by kernel_rfl) rfl #[.agg #[.int .i64 a0_0,.slice A0_1 l0_1.length c0_1,.slice A0_2 l0_2.length c0_2,.slice A0_3 l0_3.length c0_3],.slice A765_1 ((rd_T136 l1 x15_1).f1).length c765_1] rfl lp_ ?_;(with_reducible refine (ih k1 (by have:=HK1.out;omega) a0_0 _ _ l0_1 _ _ l0_2 _ _ l0_3 _ _ ((rd_T136 l1 x15_1).f1) t768 t769 false _ ?side1 ?side2 ?side3 ?side4 ?side5 ?side6 ?side7 ?side8 A19.out).mono ?_);(case side1 => exact cr_ (Kd.C_below HR0_1.out HB.out));(case side2 => exact HC0_1.out);(case side3 => exact cr_ (Kd.C_below HR0_2.out HB.out));(case side4 => exact HC0_2.out);(case side5 => exact cr_ (Kd.C_below HR0_3.out HB.out));(case side6 => exact HC0_3.out);(case side7 => exact cr_ (Kd.C_below HR765_1.out HB.out));(case side8 => exact HC765_1.out);rintro e w48 ⟨v770,rfl,ho0,hb⟩;refine ⟨_,rfl,?_⟩;have HO771:=Aside0.mk (Kd.R_lower (Kd.R_new' ho0 (Kd.R_lt (pr_ HO_765001.out))) (below_size (be5_ HB.out GE762.out GE763.out GE764.out GE766.out GE767.out)));replace HO_765001:=Aside0.mk (Kd.R_elder' (pr_ HO_765001.out) (Kd.R_base ho0) hb);replace BK762:=kc_ BK762 hb;replace BK763:=kc_ BK763 hb;replace BK764:=kc_ BK764 hb;replace BK766:=kc_ BK766 hb;replace BK767:=kc_ BK767 hb;replace HB:=Aside0.mk (below_step (be5_ HB.out GE762.out GE763.out GE764.out GE766.out GE767.out) hb);(try clear hb);(try clear hb2);(try clear hk);(try clear hi);(try clear ho0);have hnb49:=NB767_763.out;have hnc49:=NB763_767.out;have hnb50:=NB767_764.out;have hnc50:=NB764_767.out;obtain ⟨hcz51_0,hcz51_1,hfz51_0,hfz51_1⟩:=cf2_ BK767.out;obtain ⟨Ao52,co52,eo52⟩:=Kd.R_slice HO771.out;subst eo52))
         go_meet
         case rel => exact ⟨_,(false),(t768),(t769),(.slice Ao52 t769.length co52),rs_,H',⟨by have:=HK1.out;first|omega|exact Nat.le_refl _⟩,⟨by refine pr_ ?_;exact Kd.R_mono (Kd.R_far (p:=⟨gb767,1,none⟩) (Kd.R_far (p:=⟨gb767,0,none⟩) (Kd.R_types HO_765001.out BK767.out (by decide)) (fun _ hk => hk.2) (.int .i64 t768)) (fun _ hk => hk.2) (.slice Ao52 t769.length co52)) (fun _ hk => (by first|exact hk.1.2|trivial))⟩,⟨by refine pr_ ?_;exact Kd.R_mono (Kd.R_far (p:=⟨gb767,1,none⟩) (Kd.R_far (p:=⟨gb767,0,none⟩) (Kd.R_types HO771.out BK767.out (by decide)) (fun _ hk => hk.2) (.int .i64 t768)) (fun _ hk => hk.2) (.slice Ao52 t769.length co52)) (fun _ hk => (by first|exact hk.1.2|trivial))⟩,⟨bf1_ BK762.out NB762_767.out⟩,⟨bf1_ BK763.out NB763_767.out⟩,⟨bf1_ BK764.out NB764_767.out⟩,⟨bf1_ BK766.out NB766_767.out⟩,⟨by refine pe_ ?_;refine blk_put (cs:=#[.int .i64 t768,.slice none 0 0]) ?_ 1 _ rfl;refine pe_ ?_;refine blk_put (cs:=#[.int .i64 0,.slice none 0 0]) ?_ 0 _ rfl;refine pe_ ?_;exact BK767.out⟩,⟨be5_ HB.out GE762.out GE763.out GE764.out GE766.out GE767.out⟩⟩
       ·rw [if_neg c18] at H
        have c18b0 : (((rd_T136 l1 x15_1).f0).toList == ([] : List UInt8)) = false:=beq_eq_false_iff_ne.mpr c18
        have c18b9 : (((rd_T136 l1 x15_1).f0).toList).isEmpty = false:=Bool.eq_false_iff.mpr (fun h_ => c18 (List.isEmpty_iff.mp h_))
        have c18b1 : (((rd_T136 l1 x15_1).f0).toList != ([] : List UInt8)) = true:=bne_iff_ne.mpr c18
        (first|rw [c18b0]|(simp only [i64_w,i32_w];rw [c18b0])|rw [c18b9]|skip)
        replace H:=Option.bind_eq_some_iff.mp H
        obtain ⟨⟨t778,t779,t782⟩,A530,H⟩:=H
        replace H : ((impl_GradesOf.f k1 t778 t779).bind fun bt784 => (impl_value.j1 k1 x15_1 true l1 (l1.length : Int) x15_1 a0_0 l0_1 l0_2 l0_3 x765000_1 x765001_1 bt784.1 bt784.2.1)) = some (r1,r2,r3):=H
        have A53:=Aside0.mk A530
        clear A530
        replace H:=Option.bind_eq_some_iff.mp H
        obtain ⟨⟨t784,t785,t788⟩,A540,H⟩:=H
        replace H : (impl_value.j1 k1 x15_1 true l1 (l1.length : Int) x15_1 a0_0 l0_1 l0_2 l0_3 x765000_1 x765001_1 t784 t785) = some (r1,r2,r3):=H
        have A54:=Aside0.mk A540
        clear A540
        have H':=Aside0.mk H
        clear H
        have hnb55:=NB762_763.out
        have hnc55:=NB763_762.out
        have hnb56:=NB762_764.out
        have hnc56:=NB764_762.out
        have hnb57:=NB762_766.out
        have hnc57:=NB766_762.out
        have hnb58:=NB762_767.out
        have hnc58:=NB767_762.out
        obtain ⟨hcz59_0,hcz59_1,hcz59_2,hcz59_3,hfz59_0,hfz59_1,hfz59_2,hfz59_3⟩:=cf4_ BK762.out
        have hnb60:=NB766_763.out
        have hnc60:=NB763_766.out
        have hnb61:=NB766_764.out
        have hnc61:=NB764_766.out
        have hnb62:=NB766_767.out
        have hnc62:=NB767_766.out
        obtain ⟨hcz63_0,hcz63_1,hfz63_0,hfz63_1⟩:=cf2_ BK766.out
        go_wp2_with (first|((with_reducible refine gate_callee (f:=80) rfl ?_);refine goesL_ (some 27) rfl rfl Try.func80 (by kernel_rfl) rfl #[.agg #[.int .i64 a0_0,.slice A0_1 l0_1.length c0_1,.slice A0_2 l0_2.length c0_2,.slice A0_3 l0_3.length c0_3],.string ((rd_T136 l1 x15_1).f0)] rfl lp_ ?_;(with_reducible refine (impl_StepMatrix.calls k1 a0_0 _ _ l0_1 _ _ l0_2 _ _ l0_3 ((rd_T136 l1 x15_1).f0) t778 t779 t782 _ ?side1 ?side2 ?side3 ?side4 ?side5 ?side6 A53.out).mono ?_);(case side1 => exact cr_ (Kd.C_below HR0_1.out HB.out));(case side2 => exact HC0_1.out);(case side3 => exact cr_ (Kd.C_below HR0_2.out HB.out));(case side4 => exact HC0_2.out);(case side5 => exact cr_ (Kd.C_below HR0_3.out HB.out));(case side6 => exact HC0_3.out);rintro e w64 ⟨v780,rfl,ho0,hb⟩;refine ⟨_,rfl,?_⟩;have HO781:=Aside0.mk (Kd.R_lower (Kd.R_new' ho0 (Kd.R_lt (pr_ HO_765001.out))) (below_size (be5_ HB.out GE762.out GE763.out GE764.out GE766.out GE767.out)));replace HO_765001:=Aside0.mk (Kd.R_elder' (pr_ HO_765001.out) (Kd.R_base ho0) hb);replace BK762:=kc_ BK762 hb;replace BK763:=kc_ BK763 hb;replace BK764:=kc_ BK764 hb;replace BK766:=kc_ BK766 hb;replace BK767:=kc_ BK767 hb;replace HB:=Aside0.mk (below_step (be5_ HB.out GE762.out GE763.out GE764.out GE766.out GE767.out) hb);(try clear hb);(try clear hb2);(try clear hk);(try clear hi);(try clear ho0))|((with_reducible refine bev_ (N:=11) rfl rfl (cs:=#[.int .i64 0,.slice none 0 0]) (t:=35) ?hr ?_);(case hr => first|(go_simp;done)|(go_simp;rfl));intro gb783 hg w65 hbox hb;replace HO_765001:=Aside0.mk (Kd.R_below (pr_ HO_765001.out) hb);replace HO781:=Aside0.mk (Kd.R_below (pr_ HO781.out) hb);have BK783:=Aside0.mk (hbox);have GW783:=Aside0.mk (szg_ hg (below_size (be5_ HB.out GE762.out GE763.out GE764.out GE766.out GE767.out)));have GE783:=GW783;replace HB:=Aside0.mk (below_step (be5_ HB.out GE762.out GE763.out GE764.out GE766.out GE767.out) hb);have NB762_783:=nm_ hg BK762;have NB783_762:=nn_ hg BK762;replace BK762:=kc_ BK762 hb;have NB763_783:=nm_ hg BK763;have NB783_763:=nn_ hg BK763;replace BK763:=kc_ BK763 hb;have NB764_783:=nm_ hg BK764;have NB783_764:=nn_ hg BK764;replace BK764:=kc_ BK764 hb;have NB766_783:=nm_ hg BK766;have NB783_766:=nn_ hg BK766;replace BK766:=kc_ BK766 hb;have NB767_783:=nm_ hg BK767;have NB783_767:=nn_ hg BK767;replace BK767:=kc_ BK767 hb;clear hb hbox hg;have hnb66:=NB783_762.out;have hnc66:=NB762_783.out;have hnb67:=NB783_763.out;have hnc67:=NB763_783.out;have hnb68:=NB783_764.out;have hnc68:=NB764_783.out;have hnb69:=NB783_766.out;have hnc69:=NB766_783.out;have hnb70:=NB783_767.out;have hnc70:=NB767_783.out;obtain ⟨hcz71_0,hcz71_1,hfz71_0,hfz71_1⟩:=cf2_ BK783.out;obtain ⟨Ao72,co72,eo72⟩:=Kd.R_slice HO781.out;subst eo72)|((with_reducible refine gate_callee (f:=146) rfl ?_);refine goesL_ (some 32) rfl rfl Try.func146 (by kernel_rfl) rfl #[.agg #[.int .i64 t778,.slice Ao72 t779.length co72]] rfl lp_ ?_;(with_reducible refine (impl_GradesOf.calls k1 t778 _ _ t779 t784 t785 t788 _ ?side1 ?side2 A54.out).mono ?_);(case side1 => refine (Kd.R_reads' (e:=3) (base:=w.heap.size) (ok:=fun k_ => (True ∧ some k_ ≠ (u765001 : Value).ownBlock)) (n:=t779.length) (c:=co72) ?_).2.2;exact (by refine pr_ ?_;exact (Kd.R_mono (Kd.R_far (p:=⟨gb783,1,none⟩) (Kd.R_far (p:=⟨gb783,0,none⟩) (Kd.R_types HO781.out BK783.out (by decide)) (fun _ hk => hk.2) (.int .i64 t778)) (fun _ hk => hk.2) (.slice Ao72 t779.length co72)) (fun _ h_ => h_.1))));(case side2 => exact (Kd.R_reads' HO781.out).2.1);rintro e w73 ⟨v786,rfl,ho0,hb⟩;refine ⟨_,rfl,?_⟩;have HO787:=Aside0.mk (Kd.R_lower (Kd.R_new' (Kd.R_new' ho0 (Kd.R_lt (by refine pr_ ?_;exact (Kd.R_mono (Kd.R_far (p:=⟨gb783,1,none⟩) (Kd.R_far (p:=⟨gb783,0,none⟩) (Kd.R_types HO_765001.out BK783.out (by decide)) (fun _ hk => hk.2) (.int .i64 t778)) (fun _ hk => hk.2) (.slice Ao72 t779.length co72)) (fun _ h_ => h_.1))))) (Kd.R_lt (by refine pr_ ?_;exact (Kd.R_mono (Kd.R_far (p:=⟨gb783,1,none⟩) (Kd.R_far (p:=⟨gb783,0,none⟩) (Kd.R_types HO781.out BK783.out (by decide)) (fun _ hk => hk.2) (.int .i64 t778)) (fun _ hk => hk.2) (.slice Ao72 t779.length co72)) (fun _ h_ => h_.1))))) (below_size (be6_ HB.out GE762.out GE763.out GE764.out GE766.out GE767.out GE783.out)));replace HO_765001:=Aside0.mk (Kd.R_elder' (by refine pr_ ?_;exact (Kd.R_mono (Kd.R_far (p:=⟨gb783,1,none⟩) (Kd.R_far (p:=⟨gb783,0,none⟩) (Kd.R_types HO_765001.out BK783.out (by decide)) (fun _ hk => hk.2) (.int .i64 t778)) (fun _ hk => hk.2) (.slice Ao72 t779.length co72)) (fun _ h_ => h_.1))) (Kd.R_base ho0) hb);replace HO781:=Aside0.mk (Kd.R_elder' (by refine pr_ ?_;exact (Kd.R_mono (Kd.R_far (p:=⟨gb783,1,none⟩) (Kd.R_far (p:=⟨gb783,0,none⟩) (Kd.R_types HO781.out BK783.out (by decide)) (fun _ hk => hk.2) (.int .i64 t778)) (fun _ hk => hk.2) (.slice Ao72 t779.length co72)) (fun _ h_ => h_.1))) (Kd.R_base ho0) hb);replace BK762:=Aside0.mk (blk_below (g:=gb762) (o:=.cells #[.int .i64 a0_0,.slice A0_1 l0_1.length c0_1,.slice A0_2 l0_2.length c0_2,.slice A0_3 l0_3.length c0_3] 33 (0,0)) (bf1_ BK762.out NB762_783.out) hb);replace BK763:=Aside0.mk (blk_below (g:=gb763) (o:=.cells #[.int .i64 x764000_1,.slice none 0 0] 35 (0,0)) (bf1_ BK763.out NB763_783.out) hb);replace BK764:=Aside0.mk (blk_below (g:=gb764) (o:=.cells #[.int .i64 x765000_1,u765001] 35 (0,0)) (bf1_ BK764.out NB764_783.out) hb);replace BK766:=Aside0.mk (blk_below (g:=gb766) (o:=.cells #[.string ((rd_T136 l1 x15_1).f0),.slice A765_1 ((rd_T136 l1 x15_1).f1).length c765_1] 136 (0,0)) (bf1_ BK766.out NB766_783.out) hb);replace BK767:=Aside0.mk (blk_below (g:=gb767) (o:=.cells #[.int .i64 0,.slice none 0 0] 35 (0,0)) (bf1_ BK767.out NB767_783.out) hb);replace BK783:=Aside0.mk (blk_below (g:=gb783) (o:=.cells #[.int .i64 t778,.slice Ao72 t779.length co72] 35 (0,0)) (by refine pe_ ?_;refine blk_put (cs:=#[.int .i64 t778,.slice none 0 0]) ?_ 1 _ rfl;refine pe_ ?_;refine blk_put (cs:=#[.int .i64 0,.slice none 0 0]) ?_ 0 _ rfl;refine pe_ ?_;exact BK783.out) hb);replace HB:=Aside0.mk (below_step (be6_ HB.out GE762.out GE763.out GE764.out GE766.out GE767.out GE783.out) hb);(try clear hb);(try clear hb2);(try clear hk);(try clear hi);(try clear ho0);have hnb74:=NB767_763.out;have hnc74:=NB763_767.out;have hnb75:=NB767_764.out;have hnc75:=NB764_767.out;obtain ⟨hcz76_0,hcz76_1,hfz76_0,hfz76_1⟩:=cf2_ BK767.out;obtain ⟨Ao77,co77,eo77⟩:=Kd.R_slice HO787.out;subst eo77))
        go_meet
        case rel => exact ⟨_,(true),(t784),(t785),(.slice Ao77 t785.length co77),rs_,H',⟨by have:=HK1.out;first|omega|exact Nat.le_refl _⟩,⟨by refine pr_ ?_;exact Kd.R_mono (Kd.R_far (p:=⟨gb767,1,none⟩) (Kd.R_far (p:=⟨gb767,0,none⟩) (Kd.R_types HO_765001.out BK767.out (by decide)) (fun _ hk => hk.2) (.int .i64 t784)) (fun _ hk => hk.2) (.slice Ao77 t785.length co77)) (fun _ hk => (by first|exact hk.1.2|trivial))⟩,⟨by refine pr_ ?_;exact Kd.R_mono (Kd.R_far (p:=⟨gb767,1,none⟩) (Kd.R_far (p:=⟨gb767,0,none⟩) (Kd.R_types HO787.out BK767.out (by decide)) (fun _ hk => hk.2) (.int .i64 t784)) (fun _ hk => hk.2) (.slice Ao77 t785.length co77)) (fun _ hk => (by first|exact hk.1.1.2|trivial))⟩,⟨bf1_ BK762.out NB762_767.out⟩,⟨bf1_ BK763.out NB763_767.out⟩,⟨bf1_ BK764.out NB764_767.out⟩,⟨bf1_ BK766.out NB766_767.out⟩,⟨by refine pe_ ?_;refine blk_put (cs:=#[.int .i64 t784,.slice none 0 0]) ?_ 1 _ rfl;refine pe_ ?_;refine blk_put (cs:=#[.int .i64 0,.slice none 0 0]) ?_ 0 _ rfl;refine pe_ ?_;exact BK767.out⟩,⟨be6_ HB.out GE762.out GE763.out GE764.out GE766.out GE767.out GE783.out⟩⟩
      case rest =>
       clear HC9
       try clear c1
       try clear c2
       try clear p2
       try clear c3
       try clear c4
       try clear c5
       try clear c6
       try clear c6b0
       try clear c7
       try clear c7b0
       try clear p7
       try clear q7
       try clear hx7
       try clear c8
       try clear c8b0
       try clear c11
       try clear c12
       try clear c13
       try clear c14
       try clear c16
       try clear c18
       try clear c18b0
       try clear c18b1
       try clear c20
       try clear c22
       try clear c23
       try clear c24
       try clear c25
       try clear c27
       try clear c28
       try clear c29
       try clear c32
       try clear c33
       try clear c39
       try clear c40
       try clear c41
       try clear c42
       try clear c44
       try clear c45
       try clear c46
       try clear c49
       try clear c50
       try clear c54
       try clear c55
       try clear c56
       try clear c57
       try clear c58
       try clear c60
       try clear c61
       try clear c62
       try clear c66
       try clear c67
       try clear c68
       try clear c69
       try clear c70
       try clear c74
       try clear c75
       try clear c76
       try clear p76
       try clear q76
       try clear hx76
       try clear hx765_0
       try clear hx765_1
       try clear p2
       try clear p765
       try clear q765
       obtain ⟨kq,x10_8,x768000_8,x768001_8,u768001,rfl,HA,HJ8,HO_765001,HO_768001,BK762,BK763,BK764,BK766,BK767,HB⟩:=hcut
       cases kq with
       | zero => exact absurd HA.out (by simp [impl_value.j1])
       | succ kj8 =>
        have H:=HA.out
        clear HA
        simp only [impl_value.j1] at H
        by_cases c78 : x10_8 = true
        ·subst c78
         have H1 : (if x15_1 > 0 then ((impl_MulGrades.f kj8 x765000_1 x765001_1 x768000_8 x768001_8).bind fun bt789 => (impl_value.l0 kj8 l1 (l1.length : Int) (wrap64 (x15_1 + 1)) a0_0 l0_1 l0_2 l0_3 bt789.1 bt789.2.1)) else (impl_value.l0 kj8 l1 (l1.length : Int) (wrap64 (x15_1 + 1)) a0_0 l0_1 l0_2 l0_3 x768000_8 x768001_8)) = some (r1,r2,r3):=by rw [if_pos rfl] at H;exact H
         clear H
         have H:=H1
         clear H1
         by_cases c79 : x15_1 > 0
         ·rw [if_pos c79] at H
          have c79b0 : decide (0 < x15_1) = true:=decide_eq_true c79
          clear c79
          replace H:=Option.bind_eq_some_iff.mp H
          obtain ⟨⟨t789,t790,t793⟩,A800,H⟩:=H
          replace H : (impl_value.l0 kj8 l1 (l1.length : Int) (wrap64 (x15_1 + 1)) a0_0 l0_1 l0_2 l0_3 t789 t790) = some (r1,r2,r3):=H
          have A80:=Aside0.mk A800
          clear A800
          have H':=Aside0.mk H
          clear H
          have hnb81:=NB764_762.out
          have hnc81:=NB762_764.out
          have hnb82:=NB764_763.out
          have hnc82:=NB763_764.out
          have hnb83:=NB764_766.out
          have hnc83:=NB766_764.out
          have hnb84:=NB764_767.out
          have hnc84:=NB767_764.out
          obtain ⟨hcz85_0,hcz85_1,hfz85_0,hfz85_1⟩:=cf2_ BK764.out
          have hnb86:=NB767_762.out
          have hnc86:=NB762_767.out
          have hnb87:=NB767_763.out
          have hnc87:=NB763_767.out
          have hnb88:=NB767_766.out
          have hnc88:=NB766_767.out
          obtain ⟨hcz89_0,hcz89_1,hfz89_0,hfz89_1⟩:=cf2_ BK767.out
          obtain ⟨Ao90,co90,eo90⟩:=Kd.R_slice HO_765001.out
          subst eo90
          obtain ⟨Ao91,co91,eo91⟩:=Kd.R_slice HO_768001.out
          subst eo91
          go_wp2_with (first|((with_reducible refine gate_callee (f:=56) rfl ?_);refine goesL_ (some 56) rfl rfl Try.func56 (by kernel_rfl) rfl #[.agg #[.int .i64 x765000_1,.slice Ao90 x765001_1.length co90],.agg #[.int .i64 x768000_8,.slice Ao91 x768001_8.length co91]] rfl lp_ ?_;(with_reducible refine (impl_MulGrades.calls kj8 x765000_1 _ _ x765001_1 x768000_8 _ _ x768001_8 t789 t790 t793 _ ?side1 ?side2 ?side3 ?side4 A80.out).mono ?_);(case side1 => exact cr_ (Kd.R_reads' HO_765001.out).2.2);(case side2 => exact (Kd.R_reads' HO_765001.out).2.1);(case side3 => exact cr_ (Kd.R_reads' HO_768001.out).2.2);(case side4 => exact (Kd.R_reads' HO_768001.out).2.1);rintro e w92 ⟨v791,rfl,ho0,hb⟩;refine ⟨_,rfl,?_⟩;have HO792:=Aside0.mk (Kd.R_lower (Kd.R_new' (Kd.R_new' ho0 (Kd.R_lt (pr_ HO_765001.out))) (Kd.R_lt (pr_ HO_768001.out))) (below_size (be5_ HB.out GE762.out GE763.out GE764.out GE766.out GE767.out)));replace HO_765001:=Aside0.mk (Kd.R_elder' (pr_ HO_765001.out) (Kd.R_base ho0) hb);replace HO_768001:=Aside0.mk (Kd.R_elder' (pr_ HO_768001.out) (Kd.R_base ho0) hb);replace BK762:=kc_ BK762 hb;replace BK763:=kc_ BK763 hb;replace BK764:=kc_ BK764 hb;replace BK766:=kc_ BK766 hb;replace BK767:=kc_ BK767 hb;replace HB:=Aside0.mk (below_step (be5_ HB.out GE762.out GE763.out GE764.out GE766.out GE767.out) hb);(try clear hb);(try clear hb2);(try clear hk);(try clear hi);(try clear ho0);obtain ⟨hcz93_0,hcz93_1,hfz93_0,hfz93_1⟩:=cf2_ BK767.out;obtain ⟨Ao94,co94,eo94⟩:=Kd.R_slice HO792.out;subst eo94;obtain ⟨hcz95_0,hcz95_1,hfz95_0,hfz95_1⟩:=cf2_ BK764.out))
          go_roundg kj8
          case measure => have:=HK1.out;have:=HJ8.out;omega
          case rel => exact ⟨(wrap64 (x15_1 + 1)),(x764000_1),(t789),(t790),(.slice Ao94 t790.length co94),rs_,H',⟨by have:=HK1.out;have:=HJ8.out;omega⟩,⟨by refine pr_ ?_;exact Kd.R_mono (Kd.R_far (p:=⟨gb764,1,none⟩) (Kd.R_far (p:=⟨gb764,0,none⟩) (Kd.R_far (p:=⟨gb767,1,none⟩) (Kd.R_far (p:=⟨gb767,0,none⟩) (Kd.R_types (Kd.R_types HO792.out BK767.out (by decide)) BK764.out (by decide)) (fun _ hk => hk.1.2) (.int .i64 t789)) (fun _ hk => hk.1.2) (.slice Ao94 t790.length co94)) (fun _ hk => hk.2) (.int .i64 t789)) (fun _ hk => hk.2) (.slice Ao94 t790.length co94)) (fun _ hk => trivial)⟩,⟨bf2_ BK762.out NB762_764.out NB762_767.out⟩,⟨bf2_ BK763.out NB763_764.out NB763_767.out⟩,⟨by refine pe_ ?_;refine blk_put (cs:=#[.int .i64 t789,.slice Ao90 x765001_1.length co90]) ?_ 1 _ rfl;refine pe_ ?_;refine blk_put (cs:=#[.int .i64 x765000_1,.slice Ao90 x765001_1.length co90]) ?_ 0 _ rfl;refine pe_ ?_;refine blk_far ?_ NB764_767.out _;refine pe_ ?_;refine blk_far ?_ NB764_767.out _;refine pe_ ?_;exact BK764.out⟩,⟨be5_ HB.out GE762.out GE763.out GE764.out GE766.out GE767.out⟩⟩
         ·rw [if_neg c79] at H
          have c79b0 : decide (0 < x15_1) = false:=decide_eq_false c79
          clear c79
          have H':=Aside0.mk H
          clear H
          have hnb96:=NB767_762.out
          have hnc96:=NB762_767.out
          have hnb97:=NB767_763.out
          have hnc97:=NB763_767.out
          have hnb98:=NB767_764.out
          have hnc98:=NB764_767.out
          have hnb99:=NB767_766.out
          have hnc99:=NB766_767.out
          obtain ⟨hcz100_0,hcz100_1,hfz100_0,hfz100_1⟩:=cf2_ BK767.out
          have hnb101:=NB764_762.out
          have hnc101:=NB762_764.out
          have hnb102:=NB764_763.out
          have hnc102:=NB763_764.out
          have hnb103:=NB764_766.out
          have hnc103:=NB766_764.out
          obtain ⟨hcz104_0,hcz104_1,hfz104_0,hfz104_1⟩:=cf2_ BK764.out
          obtain ⟨Ao105,co105,eo105⟩:=Kd.R_slice HO_768001.out
          subst eo105
          go_wp2
          go_roundg kj8
          case measure => have:=HK1.out;have:=HJ8.out;omega
          case rel => exact ⟨(wrap64 (x15_1 + 1)),(x764000_1),(x768000_8),(x768001_8),(.slice Ao105 x768001_8.length co105),rs_,H',⟨by have:=HK1.out;have:=HJ8.out;omega⟩,⟨by refine pr_ ?_;exact Kd.R_mono (Kd.R_far (p:=⟨gb764,1,none⟩) (Kd.R_far (p:=⟨gb764,0,none⟩) (Kd.R_types HO_768001.out BK764.out (by decide)) (fun _ hk => hk.2) (.int .i64 x768000_8)) (fun _ hk => hk.2) (.slice Ao105 x768001_8.length co105)) (fun _ hk => trivial)⟩,⟨bf1_ BK762.out NB762_764.out⟩,⟨bf1_ BK763.out NB763_764.out⟩,⟨by refine pe_ ?_;refine blk_put (cs:=#[.int .i64 x768000_8,u765001]) ?_ 1 _ rfl;refine pe_ ?_;refine blk_put (cs:=#[.int .i64 x765000_1,u765001]) ?_ 0 _ rfl;refine pe_ ?_;exact BK764.out⟩,⟨be5_ HB.out GE762.out GE763.out GE764.out GE766.out GE767.out⟩⟩
        ·replace c78:=Bool.eq_false_iff.mpr c78
         subst c78
         have H1 : (some (0,([] : List Int),false)) = some (r1,r2,r3):=by rw [if_neg (show ¬ (false = true) by decide)] at H;exact H
         clear H
         have H:=H1
         clear H1
         simp only [Option.some.injEq,Prod.mk.injEq] at H
         obtain ⟨rfl,rfl,rfl⟩:=H
         have hnb106:=NB763_762.out
         have hnc106:=NB762_763.out
         have hnb107:=NB763_764.out
         have hnc107:=NB764_763.out
         have hnb108:=NB763_766.out
         have hnc108:=NB766_763.out
         have hnb109:=NB763_767.out
         have hnc109:=NB767_763.out
         obtain ⟨hcz110_0,hcz110_1,hfz110_0,hfz110_1⟩:=cf2_ BK763.out
         go_wp2
         refine bodyPost_ret (results_ct rfl _ _ gb763 35 #[.int .i64 0,.slice none 0 0] (0,0) _ rfl (by refine pe_ ?_;refine blk_put (cs:=#[.int .i64 0,.slice none 0 0]) ?_ 1 _ rfl;refine pe_ ?_;refine blk_put (cs:=#[.int .i64 x764000_1,.slice none 0 0]) ?_ 0 _ rfl;refine pe_ ?_;exact BK763.out) Try.underlying35 rfl (by kernel_rfl)) rfl ?_
         exact ⟨_,er_,by first|exact Kd.R_nil _ _ _ _ _|exact Kd.N_nil _ _ _ _ _|exact Kd.V_nil _ _ _ _ _|exact Kd.Q_nil _ _ _ _ _|exact Kd.S_nil _ _ _ _ _,be5_ HB.out GE762.out GE763.out GE764.out GE766.out GE767.out⟩
     ·rw [if_neg c8] at H
      exact absurd H (by simp)
    ·rw [if_neg c7] at H
     exact absurd H (by simp)
   ·rw [if_neg c6] at H
    have c6b0 : decide (x15_1 < (l1.length : Int)) = false:=decide_eq_false c6
    clear c6
    simp only [Option.some.injEq,Prod.mk.injEq] at H
    obtain ⟨rfl,rfl,rfl⟩:=H
    have hnb111:=NB764_762.out
    have hnc111:=NB762_764.out
    have hnb112:=NB764_763.out
    have hnc112:=NB763_764.out
    obtain ⟨hcz113_0,hcz113_1,hfz113_0,hfz113_1⟩:=cf2_ BK764.out
    have hnb114:=NB763_762.out
    have hnc114:=NB762_763.out
    obtain ⟨hcz115_0,hcz115_1,hfz115_0,hfz115_1⟩:=cf2_ BK763.out
    obtain ⟨Ao116,co116,eo116⟩:=Kd.R_slice HO_765001.out
    subst eo116
    go_wp2
    refine bodyPost_ret (results_ct rfl _ _ gb763 35 #[.int .i64 x765000_1,.slice Ao116 x765001_1.length co116] (0,0) _ rfl (by refine pe_ ?_;refine blk_put (cs:=#[.int .i64 x765000_1,.slice none 0 0]) ?_ 1 _ rfl;refine pe_ ?_;refine blk_put (cs:=#[.int .i64 x764000_1,.slice none 0 0]) ?_ 0 _ rfl;refine pe_ ?_;exact BK763.out) Try.underlying35 rfl (by kernel_rfl)) rfl ?_
    exact ⟨_,er_,by refine pr_ ?_;exact Kd.R_mono (Kd.R_far (p:=⟨gb763,1,none⟩) (Kd.R_far (p:=⟨gb763,0,none⟩) (Kd.R_types HO_765001.out BK763.out (by decide)) (fun _ hk => hk.2) (.int .i64 x765000_1)) (fun _ hk => hk.2) (.slice Ao116 x765001_1.length co116)) (fun _ hk => trivial),be3_ HB.out GE762.out GE763.out GE764.out⟩
end Go.Proofs.Ytfmbpoojpnoafaa.X
end
