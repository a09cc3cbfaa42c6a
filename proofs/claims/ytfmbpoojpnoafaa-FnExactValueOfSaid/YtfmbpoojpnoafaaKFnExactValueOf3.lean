import Derived.Test.YtfmbpoojpnoafaaKFnExactValueOf1
import Derived.Test.YtfmbpoojpnoafaaKFnExactValueOf2
section
namespace Go.Proofs.Ytfmbpoojpnoafaa.X
open Go.RowKit Go.Proofs.YtfmbpoojpnoafaaW.PrintWords Go.Proofs.YtfmbpoojpnoafaaW.PrintLast Go.Proofs.YtfmbpoojpnoafaaW.PrintMore
attribute [local go_sem] max2_int min2_int max_two min_two max_three min_three max_four min_four
set_option linter.unusedVariables false
set_option linter.unusedSimpArgs false
def laws_eqStepS.l0 : Nat → List (S92) → List (S92) → Int → Option (Bool)
 | 0,_,_,_ => none
 | k + 1,x0,x1,x5 => if x5 < (x0.length : Int) then (if 0 ≤ x5 then (if x5 < (x1.length : Int) then ((laws_eqStep.f ((rd_T92 x0 x5).f0) ((rd_T92 x0 x5).f1) ((rd_T92 x0 x5).f2) ((rd_T92 x0 x5).f3) ((rd_T92 x1 x5).f0) ((rd_T92 x1 x5).f1) ((rd_T92 x1 x5).f2) ((rd_T92 x1 x5).f3)).bind fun t230 => (if t230 = true then (laws_eqStepS.l0 k x0 x1 (wrap64 (x5 + 1))) else (some false))) else (none)) else (none)) else (some true)
def laws_eqStepS.f (k : Nat) (l0 : List (S92)) (l1 : List (S92)) : Option (Bool):=if (l0.length : Int) = (l1.length : Int) then (laws_eqStepS.l0 k l0 l1 0) else (some false)
theorem laws_eqStepS.mono_l : ∀ k,(∀ y0 y1 y2,LeO (laws_eqStepS.l0 k y0 y1 y2) (laws_eqStepS.l0 (k + 1) y0 y1 y2))
 | 0 => fun _ _ _ r h => by simp [laws_eqStepS.l0] at h
 | k + 1 => by
  have ih0:=laws_eqStepS.mono_l k
  ·intro y0 y1 y2
   unfold laws_eqStepS.l0
   repeat' first
   | (with_reducible exact ih0 _ _ _)
   | (with_reducible first|exact LeO.refl _|exact LeO.none _|refine LeO.ite ?_ ?_|refine LeO.bind ?_ (fun _ => ?_))
   | exact ih0 _ _ _
   | exact LeO.none _
   | refine LeO.ite ?_ ?_
   | refine LeO.bind ?_ (fun _ => ?_)
theorem laws_eqStepS.mono : ∀ a0 a1 k,LeO (laws_eqStepS.f k a0 a1) (laws_eqStepS.f (k + 1) a0 a1):=by
 intro a0 a1 k
 have ih0:=laws_eqStepS.mono_l k
 unfold laws_eqStepS.f
 repeat' first
   | (with_reducible exact ih0 _ _ _)
   | (with_reducible first|exact LeO.refl _|exact LeO.none _|refine LeO.ite ?_ ?_|refine LeO.bind ?_ (fun _ => ?_))
   | exact ih0 _ _ _
   | exact LeO.none _
   | refine LeO.ite ?_ ?_
   | refine LeO.bind ?_ (fun _ => ?_)
def laws_eqStepS.T6 : Bool × List (List Nat × List Nat):=(true,[([],[]),([],[]),([0,1],[0,1]),([2],[2]),([],[]),([],[]),([4,5],[4,5]),([6],[6]),([3,7],[3,7]),([8],[8])])
def laws_eqStepS.B6 : List Nat:=[0,0,3,7,0,0,48,112,255,511]
theorem laws_eqStepS.tab6 : rtab .any (opsOf Try.f75 6) = laws_eqStepS.T6:=by kernel_rfl
theorem laws_eqStepS.bits6 : waitsOk laws_eqStepS.T6.2 laws_eqStepS.B6 = true:=by kernel_rfl
set_option maxHeartbeats 8000000 in
set_option maxRecDepth 100000 in
theorem laws_eqStepS.calls (k : Nat) (A0 : Option Addr) (c0 : Nat) (l0 : List (S92)) (A1 : Option Addr) (c1 : Nat) (l1 : List (S92)) (r : Bool) (w : World) (hr0 : Kd.C k92 w A0 l0.length l0) (hc0 : l0.length ≤ c0) (hr1 : Kd.C k92 w A1 l1.length l1) (hc1 : l1.length ≤ c1) (h : laws_eqStepS.f k l0 l1 = some r) :
  Calls Try.prog 75 #[.slice A0 l0.length c0,.slice A1 l1.length c1] w fun e w' => e = .returned (.bool r) ∧ Below w.heap.size w w':=by
 have hu92:=Try.underlying92
 have HR0:=Aside0.mk hr0
 have HC0:=Aside0.mk hc0
 clear hr0 hc0
 have HR1:=Aside0.mk hr1
 have HC1:=Aside0.mk hc1
 clear hr1 hc1
 have HB:=Aside0.mk (Below.refl w.heap.size w)
 have H : (if (l0.length : Int) = (l1.length : Int) then (laws_eqStepS.l0 k l0 l1 0) else (some false)) = some r:=h
 clear h
 by_cases c3 : (l0.length : Int) = (l1.length : Int)
 ·rw [if_pos c3] at H
  have c3b0 : ((l0.length : Int) == (l1.length : Int)) = true:=beq_iff_eq.mpr c3
  have c3b1 : ((l0.length : Int) != (l1.length : Int)) = false:=bne_eq_false_iff_eq.mpr c3
  have c3b2 : (l0.length == l1.length) = true:=by first|simpa using c3|(simp at c3 ⊢;omega)
  clear c3
  have H':=Aside0.mk H
  clear H
  go_enter Try.func75,Try.ntmps75
  go_wp2
  go_loopg [5] k (fun kq v5 w' => ∃ (x5_1 : Int),v5 = .int .i64 x5_1 ∧ Aside0 (laws_eqStepS.l0 kq l0 l1 x5_1 = some r) ∧ Aside0 (kq ≤ k) ∧ Aside0 (Below w.heap.size w w'))
  case atStart => exact ⟨(0),rs_,H',⟨Nat.le_refl _⟩,⟨be0_ HB.out⟩⟩
  case round =>
   clear H'
   obtain ⟨x5_1,rfl,HA,HK1,HB⟩:=hrel
   cases gk with
   | zero => exact absurd HA.out (by simp [laws_eqStepS.l0])
   | succ k1 =>
    have H:=HA.out
    clear HA
    simp only [laws_eqStepS.l0] at H
    by_cases c4 : x5_1 < (l0.length : Int)
    ·rw [if_pos c4] at H
     have c4b0 : decide (x5_1 < (l0.length : Int)) = true:=decide_eq_true c4
     clear c4
     by_cases c5 : 0 ≤ x5_1
     ·rw [if_pos c5] at H
      have c5b0 : decide (0 ≤ x5_1) = true:=decide_eq_true c5
      clear c5
      by_cases c6 : x5_1 < (l1.length : Int)
      ·rw [if_pos c6] at H
       have c6b0 : decide (x5_1 < (l1.length : Int)) = true:=decide_eq_true c6
       clear c6
       replace H:=Option.bind_eq_some_iff.mp H
       obtain ⟨t230,A70,H⟩:=H
       replace H : (if t230 = true then (laws_eqStepS.l0 k1 l0 l1 (wrap64 (x5_1 + 1))) else (some false)) = some r:=H
       have A7:=Aside0.mk A70
       clear A70
       by_cases c8 : t230 = true
       ·subst c8
        have H1 : (laws_eqStepS.l0 k1 l0 l1 (wrap64 (x5_1 + 1))) = some r:=by rw [if_pos rfl] at H;exact H
        clear H
        have H:=H1
        clear H1
        have H':=Aside0.mk H
        clear H
        try go_wp2
        replace HB:=Aside0.mk (below_drew1 HB.out)
        have p228 : 0 ≤ (x5_1 : Int):=od_
        have q228 : x5_1 < (l0.length : Int):=od_
        obtain ⟨ad228,e228,hx228_0,hx228_1,hx228_2,hx228_3⟩:=at_T92 HR0.out x5_1 p228 q228
        have hw228_3:=hx228_3
        have hw228_2:=hx228_2
        have hw228_1:=hx228_1
        have hw228_0:=hx228_0
        cases e228
        replace hx228_0:=hbc_ HB.out hx228_0
        replace hx228_1:=hbc_ HB.out hx228_1
        replace hx228_2:=hbc_ HB.out hx228_2
        replace hx228_3:=hbc_ HB.out hx228_3
        replace p228:=eq_true p228
        replace q228:=eq_true q228
        have p229 : 0 ≤ (x5_1 : Int):=od_
        have q229 : x5_1 < (l1.length : Int):=od_
        obtain ⟨ad229,e229,hx229_0,hx229_1,hx229_2,hx229_3⟩:=at_T92 HR1.out x5_1 p229 q229
        have hw229_3:=hx229_3
        have hw229_2:=hx229_2
        have hw229_1:=hx229_1
        have hw229_0:=hx229_0
        cases e229
        replace hx229_0:=hbc_ HB.out hx229_0
        replace hx229_1:=hbc_ HB.out hx229_1
        replace hx229_2:=hbc_ HB.out hx229_2
        replace hx229_3:=hbc_ HB.out hx229_3
        replace p229:=eq_true p229
        replace q229:=eq_true q229
        refine start_ (n:=10) (S:=fun w' => w'.cell? (ad228.add ((x5_1).toNat * 4)) = some (.int .i64 ((rd_T92 l0 x5_1).f0)) ∧ w'.cell? ⟨(ad228.add ((x5_1).toNat * 4)).block,(ad228.add ((x5_1).toNat * 4)).off + 1,none⟩ = some (.string ((rd_T92 l0 x5_1).f1)) ∧ w'.cell? ⟨(ad228.add ((x5_1).toNat * 4)).block,(ad228.add ((x5_1).toNat * 4)).off + 2,none⟩ = some (.int .i64 ((rd_T92 l0 x5_1).f2)) ∧ w'.cell? ⟨(ad228.add ((x5_1).toNat * 4)).block,(ad228.add ((x5_1).toNat * 4)).off + 3,none⟩ = some (.int .i64 ((rd_T92 l0 x5_1).f3)) ∧ w'.cell? (ad229.add ((x5_1).toNat * 4)) = some (.int .i64 ((rd_T92 l1 x5_1).f0)) ∧ w'.cell? ⟨(ad229.add ((x5_1).toNat * 4)).block,(ad229.add ((x5_1).toNat * 4)).off + 1,none⟩ = some (.string ((rd_T92 l1 x5_1).f1)) ∧ w'.cell? ⟨(ad229.add ((x5_1).toNat * 4)).block,(ad229.add ((x5_1).toNat * 4)).off + 2,none⟩ = some (.int .i64 ((rd_T92 l1 x5_1).f2)) ∧ w'.cell? ⟨(ad229.add ((x5_1).toNat * 4)).block,(ad229.add ((x5_1).toNat * 4)).off + 3,none⟩ = some (.int .i64 ((rd_T92 l1 x5_1).f3))) (ds:=[]) #[false,false,false,false,false,false,false,false,false,false] (by kernel_rfl) rfl rfl ⟨(hbc_ HB.out hw228_0),(hbc_ HB.out hw228_1),(hbc_ HB.out hw228_2),(hbc_ HB.out hw228_3),(hbc_ HB.out hw229_0),(hbc_ HB.out hw229_1),(hbc_ HB.out hw229_2),(hbc_ HB.out hw229_3)⟩ (fun hHeld => ?_);refine with_tabW laws_eqStepS.tab6 laws_eqStepS.bits6 (fun HT_ HW_ => ?_)
        generalize wr.drew = w9 at HB hx228_0 hx228_1 hx228_2 hx228_3 hx229_0 hx229_1 hx229_2 hx229_3 hHeld ⊢
        refine stW_ [.p 0 17,.p 1 18,.p 2 19,.p 4 21,.p 5 22,.p 6 23,.t 3 20,.t 7 24] 8 255 10 HT_.out HW_.out hHeld (a':=?_) ?_ rfl (by kernel_rfl) (fun _ _ _ _ h => h) ?_
        rotate_left
        ·repeat (first|exact Steps.nil|(refine Steps.p (oi:=?_) (v:=?_) (a1:=?_) ?_ ?_ ?_ ?_ ?_;rotate_left 2;rfl;rfl;(refine Or.inl ⟨by rfl,?_⟩;intro w';go_simp;with_reducible rfl);rotate_left;exact ap_)|(refine Steps.t (oi:=?_) (v:=?_) (a1:=?_) ?_ ?_ ?_ ?_ ?_;rotate_left 2;rfl;rfl;(refine Or.inl ⟨by rfl,?_⟩;rintro w' ⟨s0,s1,s2,s3,s4,s5,s6,s7⟩;go_simp;with_reducible rfl);rotate_left;exact ap_))
        refine one_ (i:=8) (N:=some 25) #[true,true,true,true,true,true,true,true,true,false] rfl rfl (one_of HT_.out (by kernel_rfl)) (by decide) (fun K hK => ?_)
        refine goes_ Try.func129 (by kernel_rfl) rfl #[.agg #[.int .i64 ((rd_T92 l0 x5_1).f0),.string ((rd_T92 l0 x5_1).f1),.int .i64 ((rd_T92 l0 x5_1).f2),.int .i64 ((rd_T92 l0 x5_1).f3)],.agg #[.int .i64 ((rd_T92 l1 x5_1).f0),.string ((rd_T92 l1 x5_1).f1),.int .i64 ((rd_T92 l1 x5_1).f2),.int .i64 ((rd_T92 l1 x5_1).f3)]] (by rfl) rfl rfl lp_ ?_
        with_reducible refine (laws_eqStep.calls ((rd_T92 l0 x5_1).f0) ((rd_T92 l0 x5_1).f1) ((rd_T92 l0 x5_1).f2) ((rd_T92 l0 x5_1).f3) ((rd_T92 l1 x5_1).f0) ((rd_T92 l1 x5_1).f1) ((rd_T92 l1 x5_1).f2) ((rd_T92 l1 x5_1).f3) true _ A7.out).mono ?_
        rintro e w10 ⟨rfl,hb⟩
        refine ⟨_,rfl,?_⟩
        replace HB:=hs0_ HB hb
        (try clear hb)
        (try clear hb2)
        (try clear hk)
        (try clear hi)
        refine hK.out _ _ ⟨(hbc_ HB.out hw228_0),(hbc_ HB.out hw228_1),(hbc_ HB.out hw228_2),(hbc_ HB.out hw228_3),(hbc_ HB.out hw229_0),(hbc_ HB.out hw229_1),(hbc_ HB.out hw229_2),(hbc_ HB.out hw229_3)⟩ (fun hHeld => ?_)
        clear hK K
        refine norm_ (a':=?_) ?_ ?_
        rotate_left
        ·show Act.put _ (some 25) _ = _
         simp only [Act.put,List.setIfInBounds_toArray,List.set_cons_zero,List.set_cons_succ,i64_w,i32_w]
         rfl
        refine pure_ (i:=9) (N:=some 26) (v:=?_) (a':=?_) #[true,true,true,true,true,true,true,true,true,true] rfl rfl (any_of HT_.out (by kernel_rfl)) (fun _ _ _ h => h) (Or.inl ⟨by rfl,?_⟩) ?_ ?_
        rotate_left
        ·intro w'
         go_simp
         with_reducible rfl
        rotate_left
        ·simp only [Act.put,List.setIfInBounds_toArray,List.set_cons_zero,List.set_cons_succ,i64_w,i32_w]
         rfl
        refine done_ (done_of HT_.out (by kernel_rfl)) ?_
        try go_wp2
        go_roundg k1
        case measure => have:=HK1.out;omega
        case rel => exact ⟨(wrap64 (x5_1 + 1)),rs_,H',⟨by have:=HK1.out;omega⟩,⟨be0_ HB.out⟩⟩
       ·replace c8:=Bool.eq_false_iff.mpr c8
        subst c8
        have H1 : (some false) = some r:=by rw [if_neg (show ¬ (false = true) by decide)] at H;exact H
        clear H
        have H:=H1
        clear H1
        obtain rfl:=Option.some.inj H
        try go_wp2
        replace HB:=Aside0.mk (below_drew1 HB.out)
        have p228 : 0 ≤ (x5_1 : Int):=od_
        have q228 : x5_1 < (l0.length : Int):=od_
        obtain ⟨ad228,e228,hx228_0,hx228_1,hx228_2,hx228_3⟩:=at_T92 HR0.out x5_1 p228 q228
        have hw228_3:=hx228_3
        have hw228_2:=hx228_2
        have hw228_1:=hx228_1
        have hw228_0:=hx228_0
        cases e228
        replace hx228_0:=hbc_ HB.out hx228_0
        replace hx228_1:=hbc_ HB.out hx228_1
        replace hx228_2:=hbc_ HB.out hx228_2
        replace hx228_3:=hbc_ HB.out hx228_3
        replace p228:=eq_true p228
        replace q228:=eq_true q228
        have p229 : 0 ≤ (x5_1 : Int):=od_
        have q229 : x5_1 < (l1.length : Int):=od_
        obtain ⟨ad229,e229,hx229_0,hx229_1,hx229_2,hx229_3⟩:=at_T92 HR1.out x5_1 p229 q229
        have hw229_3:=hx229_3
        have hw229_2:=hx229_2
        have hw229_1:=hx229_1
        have hw229_0:=hx229_0
        cases e229
        replace hx229_0:=hbc_ HB.out hx229_0
        replace hx229_1:=hbc_ HB.out hx229_1
        replace hx229_2:=hbc_ HB.out hx229_2
        replace hx229_3:=hbc_ HB.out hx229_3
        replace p229:=eq_true p229
        replace q229:=eq_true q229
        refine start_ (n:=10) (S:=fun w' => w'.cell? (ad228.add ((x5_1).toNat * 4)) = some (.int .i64 ((rd_T92 l0 x5_1).f0)) ∧ w'.cell? ⟨(ad228.add ((x5_1).toNat * 4)).block,(ad228.add ((x5_1).toNat * 4)).off + 1,none⟩ = some (.string ((rd_T92 l0 x5_1).f1)) ∧ w'.cell? ⟨(ad228.add ((x5_1).toNat * 4)).block,(ad228.add ((x5_1).toNat * 4)).off + 2,none⟩ = some (.int .i64 ((rd_T92 l0 x5_1).f2)) ∧ w'.cell? ⟨(ad228.add ((x5_1).toNat * 4)).block,(ad228.add ((x5_1).toNat * 4)).off + 3,none⟩ = some (.int .i64 ((rd_T92 l0 x5_1).f3)) ∧ w'.cell? (ad229.add ((x5_1).toNat * 4)) = some (.int .i64 ((rd_T92 l1 x5_1).f0)) ∧ w'.cell? ⟨(ad229.add ((x5_1).toNat * 4)).block,(ad229.add ((x5_1).toNat * 4)).off + 1,none⟩ = some (.string ((rd_T92 l1 x5_1).f1)) ∧ w'.cell? ⟨(ad229.add ((x5_1).toNat * 4)).block,(ad229.add ((x5_1).toNat * 4)).off + 2,none⟩ = some (.int .i64 ((rd_T92 l1 x5_1).f2)) ∧ w'.cell? ⟨(ad229.add ((x5_1).toNat * 4)).block,(ad229.add ((x5_1).toNat * 4)).off + 3,none⟩ = some (.int .i64 ((rd_T92 l1 x5_1).f3))) (ds:=[]) #[false,false,false,false,false,false,false,false,false,false] (by kernel_rfl) rfl rfl ⟨(hbc_ HB.out hw228_0),(hbc_ HB.out hw228_1),(hbc_ HB.out hw228_2),(hbc_ HB.out hw228_3),(hbc_ HB.out hw229_0),(hbc_ HB.out hw229_1),(hbc_ HB.out hw229_2),(hbc_ HB.out hw229_3)⟩ (fun hHeld => ?_);refine with_tabW laws_eqStepS.tab6 laws_eqStepS.bits6 (fun HT_ HW_ => ?_)
        generalize wr.drew = w11 at HB hx228_0 hx228_1 hx228_2 hx228_3 hx229_0 hx229_1 hx229_2 hx229_3 hHeld ⊢
        refine stW_ [.p 0 17,.p 1 18,.p 2 19,.p 4 21,.p 5 22,.p 6 23,.t 3 20,.t 7 24] 8 255 10 HT_.out HW_.out hHeld (a':=?_) ?_ rfl (by kernel_rfl) (fun _ _ _ _ h => h) ?_
        rotate_left
        ·repeat (first|exact Steps.nil|(refine Steps.p (oi:=?_) (v:=?_) (a1:=?_) ?_ ?_ ?_ ?_ ?_;rotate_left 2;rfl;rfl;(refine Or.inl ⟨by rfl,?_⟩;intro w';go_simp;with_reducible rfl);rotate_left;exact ap_)|(refine Steps.t (oi:=?_) (v:=?_) (a1:=?_) ?_ ?_ ?_ ?_ ?_;rotate_left 2;rfl;rfl;(refine Or.inl ⟨by rfl,?_⟩;rintro w' ⟨s0,s1,s2,s3,s4,s5,s6,s7⟩;go_simp;with_reducible rfl);rotate_left;exact ap_))
        refine one_ (i:=8) (N:=some 25) #[true,true,true,true,true,true,true,true,true,false] rfl rfl (one_of HT_.out (by kernel_rfl)) (by decide) (fun K hK => ?_)
        refine goes_ Try.func129 (by kernel_rfl) rfl #[.agg #[.int .i64 ((rd_T92 l0 x5_1).f0),.string ((rd_T92 l0 x5_1).f1),.int .i64 ((rd_T92 l0 x5_1).f2),.int .i64 ((rd_T92 l0 x5_1).f3)],.agg #[.int .i64 ((rd_T92 l1 x5_1).f0),.string ((rd_T92 l1 x5_1).f1),.int .i64 ((rd_T92 l1 x5_1).f2),.int .i64 ((rd_T92 l1 x5_1).f3)]] (by rfl) rfl rfl lp_ ?_
        with_reducible refine (laws_eqStep.calls ((rd_T92 l0 x5_1).f0) ((rd_T92 l0 x5_1).f1) ((rd_T92 l0 x5_1).f2) ((rd_T92 l0 x5_1).f3) ((rd_T92 l1 x5_1).f0) ((rd_T92 l1 x5_1).f1) ((rd_T92 l1 x5_1).f2) ((rd_T92 l1 x5_1).f3) false _ A7.out).mono ?_
        rintro e w12 ⟨rfl,hb⟩
        refine ⟨_,rfl,?_⟩
        replace HB:=hs0_ HB hb
        (try clear hb)
        (try clear hb2)
        (try clear hk)
        (try clear hi)
        refine hK.out _ _ ⟨(hbc_ HB.out hw228_0),(hbc_ HB.out hw228_1),(hbc_ HB.out hw228_2),(hbc_ HB.out hw228_3),(hbc_ HB.out hw229_0),(hbc_ HB.out hw229_1),(hbc_ HB.out hw229_2),(hbc_ HB.out hw229_3)⟩ (fun hHeld => ?_)
        clear hK K
        refine norm_ (a':=?_) ?_ ?_
        rotate_left
        ·show Act.put _ (some 25) _ = _
         simp only [Act.put,List.setIfInBounds_toArray,List.set_cons_zero,List.set_cons_succ,i64_w,i32_w]
         rfl
        refine pure_ (i:=9) (N:=some 26) (v:=?_) (a':=?_) #[true,true,true,true,true,true,true,true,true,true] rfl rfl (any_of HT_.out (by kernel_rfl)) (fun _ _ _ h => h) (Or.inl ⟨by rfl,?_⟩) ?_ ?_
        rotate_left
        ·intro w'
         go_simp
         with_reducible rfl
        rotate_left
        ·simp only [Act.put,List.setIfInBounds_toArray,List.set_cons_zero,List.set_cons_succ,i64_w,i32_w]
         rfl
        refine done_ (done_of HT_.out (by kernel_rfl)) ?_
        try go_wp2
        go_ret
        exact ⟨er_,be0_ HB.out⟩
      ·rw [if_neg c6] at H
       exact absurd H (by simp)
     ·rw [if_neg c5] at H
      exact absurd H (by simp)
    ·rw [if_neg c4] at H
     have c4b0 : decide (x5_1 < (l0.length : Int)) = false:=decide_eq_false c4
     clear c4
     obtain rfl:=Option.some.inj H
     go_wp2
     go_ret
     exact ⟨er_,be0_ HB.out⟩
 ·rw [if_neg c3] at H
  have c3b0 : ((l0.length : Int) == (l1.length : Int)) = false:=beq_eq_false_iff_ne.mpr c3
  have c3b1 : ((l0.length : Int) != (l1.length : Int)) = true:=bne_iff_ne.mpr c3
  have c3b2 : (l0.length == l1.length) = false:=by first|simpa using c3|(simp at c3 ⊢;omega)
  obtain rfl:=Option.some.inj H
  go_enter Try.func75,Try.ntmps75
  go_wp2
  go_ret
  exact ⟨er_,be0_ HB.out⟩
def laws_eqAutomaton.f (k : Nat) (a0_0 : Int) (l0_1 : List Int) (l0_2 : List Int) (l0_3 : List (S92)) (a1_0 : Int) (l1_1 : List Int) (l1_2 : List Int) (l1_3 : List (S92)) : Option (Bool):=if a0_0 = a1_0 then ((laws_eqIntS.f k l0_1 l1_1).bind fun t233 => (if t233 = true then ((laws_eqIntS.f k l0_2 l1_2).bind fun t234 => (if t234 = true then ((laws_eqStepS.f k l0_3 l1_3).bind fun t235 => (if t235 = true then (some true) else (some false))) else (some false))) else (some false))) else (some false)
theorem laws_eqAutomaton.mono : ∀ a0 a1 a2 a3 a4 a5 a6 a7 k,LeO (laws_eqAutomaton.f k a0 a1 a2 a3 a4 a5 a6 a7) (laws_eqAutomaton.f (k + 1) a0 a1 a2 a3 a4 a5 a6 a7):=by
 intro a0 a1 a2 a3 a4 a5 a6 a7 k
 unfold laws_eqAutomaton.f
 repeat' first
   | (with_reducible exact laws_eqIntS.mono _ _ _)
   | (with_reducible exact laws_eqStepS.mono _ _ _)
   | (with_reducible first|exact LeO.refl _|exact LeO.none _|refine LeO.ite ?_ ?_|refine LeO.bind ?_ (fun _ => ?_))
   | exact laws_eqIntS.mono _ _ _
   | exact laws_eqStepS.mono _ _ _
   | exact LeO.none _
   | refine LeO.ite ?_ ?_
   | refine LeO.bind ?_ (fun _ => ?_)
set_option maxHeartbeats 8000000 in
set_option maxRecDepth 100000 in
theorem laws_eqAutomaton.calls (k : Nat) (a0_0 : Int) (A0_1 : Option Addr) (c0_1 : Nat) (l0_1 : List Int) (A0_2 : Option Addr) (c0_2 : Nat) (l0_2 : List Int) (A0_3 : Option Addr) (c0_3 : Nat) (l0_3 : List (S92)) (a1_0 : Int) (A1_1 : Option Addr) (c1_1 : Nat) (l1_1 : List Int) (A1_2 : Option Addr) (c1_2 : Nat) (l1_2 : List Int) (A1_3 : Option Addr) (c1_3 : Nat) (l1_3 : List (S92)) (r : Bool) (w : World) (hr0_1 : Kd.C (Kd.int .i64) w A0_1 l0_1.length l0_1) (hc0_1 : l0_1.length ≤ c0_1) (hr0_2 : Kd.C (Kd.int .i64) w A0_2 l0_2.length l0_2) (hc0_2 : l0_2.length ≤ c0_2) (hr0_3 : Kd.C k92 w A0_3 l0_3.length l0_3) (hc0_3 : l0_3.length ≤ c0_3) (hr1_1 : Kd.C (Kd.int .i64) w A1_1 l1_1.length l1_1) (hc1_1 : l1_1.length ≤ c1_1) (hr1_2 : Kd.C (Kd.int .i64) w A1_2 l1_2.length l1_2) (hc1_2 : l1_2.length ≤ c1_2) (hr1_3 : Kd.C k92 w A1_3 l1_3.length l1_3) (hc1_3 : l1_3.length ≤ c1_3) (h : laws_eqAutomaton.f k a0_0 l0_1 l0_2 l0_3 a1_0 l1_1 l1_2 l1_3 = some r) :
  Calls Try.prog 20 #[.agg #[.int .i64 a0_0,.slice A0_1 l0_1.length c0_1,.slice A0_2 l0_2.length c0_2,.slice A0_3 l0_3.length c0_3],.agg #[.int .i64 a1_0,.slice A1_1 l1_1.length c1_1,.slice A1_2 l1_2.length c1_2,.slice A1_3 l1_3.length c1_3]] w fun e w' => e = .returned (.bool r) ∧ Below w.heap.size w w':=by
 have hu33:=Try.underlying33
 have HR0_1:=Aside0.mk hr0_1
 have HC0_1:=Aside0.mk hc0_1
 clear hr0_1 hc0_1
 have HR0_2:=Aside0.mk hr0_2
 have HC0_2:=Aside0.mk hc0_2
 clear hr0_2 hc0_2
 have HR0_3:=Aside0.mk hr0_3
 have HC0_3:=Aside0.mk hc0_3
 clear hr0_3 hc0_3
 have HR1_1:=Aside0.mk hr1_1
 have HC1_1:=Aside0.mk hc1_1
 clear hr1_1 hc1_1
 have HR1_2:=Aside0.mk hr1_2
 have HC1_2:=Aside0.mk hc1_2
 clear hr1_2 hc1_2
 have HR1_3:=Aside0.mk hr1_3
 have HC1_3:=Aside0.mk hc1_3
 clear hr1_3 hc1_3
 have HB:=Aside0.mk (Below.refl w.heap.size w)
 have H : (if a0_0 = a1_0 then ((laws_eqIntS.f k l0_1 l1_1).bind fun t233 => (if t233 = true then ((laws_eqIntS.f k l0_2 l1_2).bind fun t234 => (if t234 = true then ((laws_eqStepS.f k l0_3 l1_3).bind fun t235 => (if t235 = true then (some true) else (some false))) else (some false))) else (some false))) else (some false)) = some r:=h
 clear h
 by_cases c3 : a0_0 = a1_0
 ·rw [if_pos c3] at H
  have c3b0 : (a0_0 == a1_0) = true:=beq_iff_eq.mpr c3
  have c3b1 : (a0_0 != a1_0) = false:=bne_eq_false_iff_eq.mpr c3
  clear c3
  replace H:=Option.bind_eq_some_iff.mp H
  obtain ⟨t233,A40,H⟩:=H
  replace H : (if t233 = true then ((laws_eqIntS.f k l0_2 l1_2).bind fun t234 => (if t234 = true then ((laws_eqStepS.f k l0_3 l1_3).bind fun t235 => (if t235 = true then (some true) else (some false))) else (some false))) else (some false)) = some r:=H
  have A4:=Aside0.mk A40
  clear A40
  by_cases c5 : t233 = true
  ·subst c5
   have H1 : ((laws_eqIntS.f k l0_2 l1_2).bind fun t234 => (if t234 = true then ((laws_eqStepS.f k l0_3 l1_3).bind fun t235 => (if t235 = true then (some true) else (some false))) else (some false))) = some r:=by rw [if_pos rfl] at H;exact H
   clear H
   have H:=H1
   clear H1
   replace H:=Option.bind_eq_some_iff.mp H
   obtain ⟨t234,A60,H⟩:=H
   replace H : (if t234 = true then ((laws_eqStepS.f k l0_3 l1_3).bind fun t235 => (if t235 = true then (some true) else (some false))) else (some false)) = some r:=H
   have A6:=Aside0.mk A60
   clear A60
   by_cases c7 : t234 = true
   ·subst c7
    have H1 : ((laws_eqStepS.f k l0_3 l1_3).bind fun t235 => (if t235 = true then (some true) else (some false))) = some r:=by rw [if_pos rfl] at H;exact H
    clear H
    have H:=H1
    clear H1
    replace H:=Option.bind_eq_some_iff.mp H
    obtain ⟨t235,A80,H⟩:=H
    replace H : (if t235 = true then (some true) else (some false)) = some r:=H
    have A8:=Aside0.mk A80
    clear A80
    by_cases c9 : t235 = true
    ·subst c9
     have H1 : (some true) = some r:=by rw [if_pos rfl] at H;exact H
     clear H
     have H:=H1
     clear H1
     obtain rfl:=Option.some.inj H
     go_enter Try.func20,Try.ntmps20
     go_wp2_with (first|((with_reducible refine bev_ (N:=2) rfl rfl (cs:=#[.int .i64 a0_0,.slice A0_1 l0_1.length c0_1,.slice A0_2 l0_2.length c0_2,.slice A0_3 l0_3.length c0_3]) (t:=33) ?hr ?_);(case hr => first|(go_simp;done)|(go_simp;rfl));intro gb231 hg w10 hbox hb;have BK231:=Aside0.mk (hbox);have GW231:=gw0_ hg HB;have GE231:=GW231;replace HB:=hs0_ HB hb;clear hb hbox hg)|((with_reducible refine bev_ (N:=3) rfl rfl (cs:=#[.int .i64 a1_0,.slice A1_1 l1_1.length c1_1,.slice A1_2 l1_2.length c1_2,.slice A1_3 l1_3.length c1_3]) (t:=33) ?hr ?_);(case hr => first|(go_simp;done)|(go_simp;rfl));intro gb232 hg w11 hbox hb;have BK232:=Aside0.mk (hbox);have GW232:=gw1_ hg HB GE231;have GE232:=GW232;replace HB:=hs1_ HB GE231 hb;have NB231_232:=nm_ hg BK231;have NB232_231:=nn_ hg BK231;replace BK231:=kc_ BK231 hb;clear hb hbox hg;have hnb12:=NB231_232.out;have hnc12:=NB232_231.out;obtain ⟨hcz13_0,hcz13_1,hcz13_2,hcz13_3,hfz13_0,hfz13_1,hfz13_2,hfz13_3⟩:=cf4_ BK231.out;obtain ⟨hcz14_0,hcz14_1,hcz14_2,hcz14_3,hfz14_0,hfz14_1,hfz14_2,hfz14_3⟩:=cf4_ BK232.out)|((with_reducible refine gate_callee (f:=29) rfl ?_);refine goesL_ (some 14) rfl rfl Try.func29 (by kernel_rfl) rfl #[.slice A0_1 l0_1.length c0_1,.slice A1_1 l1_1.length c1_1] rfl lp_ ?_;(with_reducible refine (laws_eqIntS.calls k _ _ l0_1 _ _ l1_1 true _ ?side1 ?side2 ?side3 ?side4 A4.out).mono ?_);(case side1 => exact cr_ (Kd.C_below HR0_1.out HB.out));(case side2 => exact HC0_1.out);(case side3 => exact cr_ (Kd.C_below HR1_1.out HB.out));(case side4 => exact HC1_1.out);rintro e w' ⟨rfl,⟨nd,rfl⟩⟩;refine ⟨_,rfl,?_⟩)|((with_reducible refine gate_callee (f:=29) rfl ?_);refine goesL_ (some 20) rfl rfl Try.func29 (by kernel_rfl) rfl #[.slice A0_2 l0_2.length c0_2,.slice A1_2 l1_2.length c1_2] rfl lp_ ?_;(with_reducible refine (laws_eqIntS.calls k _ _ l0_2 _ _ l1_2 true _ ?side1 ?side2 ?side3 ?side4 A6.out).mono ?_);(case side1 => exact cr_ (Kd.C_below HR0_2.out (be2_ HB.out GE231.out GE232.out)));(case side2 => exact HC0_2.out);(case side3 => exact cr_ (Kd.C_below HR1_2.out (be2_ HB.out GE231.out GE232.out)));(case side4 => exact HC1_2.out);rintro e w' ⟨rfl,⟨nd,rfl⟩⟩;refine ⟨_,rfl,?_⟩)|((with_reducible refine gate_callee (f:=75) rfl ?_);refine goesL_ (some 26) rfl rfl Try.func75 (by kernel_rfl) rfl #[.slice A0_3 l0_3.length c0_3,.slice A1_3 l1_3.length c1_3] rfl lp_ ?_;(with_reducible refine (laws_eqStepS.calls k _ _ l0_3 _ _ l1_3 true _ ?side1 ?side2 ?side3 ?side4 A8.out).mono ?_);(case side1 => exact cr_ (Kd.C_below HR0_3.out (be2_ HB.out GE231.out GE232.out)));(case side2 => exact HC0_3.out);(case side3 => exact cr_ (Kd.C_below HR1_3.out (be2_ HB.out GE231.out GE232.out)));(case side4 => exact HC1_3.out);rintro e w15 ⟨rfl,hb⟩;refine ⟨_,rfl,?_⟩;replace BK231:=kc_ BK231 hb;replace BK232:=kc_ BK232 hb;replace HB:=hs2_ HB GE231 GE232 hb;(try clear hb);(try clear hb2);(try clear hk);(try clear hi)))
     go_ret
     exact ⟨er_,be2_ HB.out GE231.out GE232.out⟩
    ·replace c9:=Bool.eq_false_iff.mpr c9
     subst c9
     have H1 : (some false) = some r:=by rw [if_neg (show ¬ (false = true) by decide)] at H;exact H
     clear H
     have H:=H1
     clear H1
     obtain rfl:=Option.some.inj H
     go_enter Try.func20,Try.ntmps20
     go_wp2_with (first|((with_reducible refine bev_ (N:=2) rfl rfl (cs:=#[.int .i64 a0_0,.slice A0_1 l0_1.length c0_1,.slice A0_2 l0_2.length c0_2,.slice A0_3 l0_3.length c0_3]) (t:=33) ?hr ?_);(case hr => first|(go_simp;done)|(go_simp;rfl));intro gb231 hg w16 hbox hb;have BK231:=Aside0.mk (hbox);have GW231:=gw0_ hg HB;have GE231:=GW231;replace HB:=hs0_ HB hb;clear hb hbox hg)|((with_reducible refine bev_ (N:=3) rfl rfl (cs:=#[.int .i64 a1_0,.slice A1_1 l1_1.length c1_1,.slice A1_2 l1_2.length c1_2,.slice A1_3 l1_3.length c1_3]) (t:=33) ?hr ?_);(case hr => first|(go_simp;done)|(go_simp;rfl));intro gb232 hg w17 hbox hb;have BK232:=Aside0.mk (hbox);have GW232:=gw1_ hg HB GE231;have GE232:=GW232;replace HB:=hs1_ HB GE231 hb;have NB231_232:=nm_ hg BK231;have NB232_231:=nn_ hg BK231;replace BK231:=kc_ BK231 hb;clear hb hbox hg;have hnb18:=NB231_232.out;have hnc18:=NB232_231.out;obtain ⟨hcz19_0,hcz19_1,hcz19_2,hcz19_3,hfz19_0,hfz19_1,hfz19_2,hfz19_3⟩:=cf4_ BK231.out;obtain ⟨hcz20_0,hcz20_1,hcz20_2,hcz20_3,hfz20_0,hfz20_1,hfz20_2,hfz20_3⟩:=cf4_ BK232.out)|((with_reducible refine gate_callee (f:=29) rfl ?_);refine goesL_ (some 14) rfl rfl Try.func29 (by kernel_rfl) rfl #[.slice A0_1 l0_1.length c0_1,.slice A1_1 l1_1.length c1_1] rfl lp_ ?_;(with_reducible refine (laws_eqIntS.calls k _ _ l0_1 _ _ l1_1 true _ ?side1 ?side2 ?side3 ?side4 A4.out).mono ?_);(case side1 => exact cr_ (Kd.C_below HR0_1.out HB.out));(case side2 => exact HC0_1.out);(case side3 => exact cr_ (Kd.C_below HR1_1.out HB.out));(case side4 => exact HC1_1.out);rintro e w' ⟨rfl,⟨nd,rfl⟩⟩;refine ⟨_,rfl,?_⟩)|((with_reducible refine gate_callee (f:=29) rfl ?_);refine goesL_ (some 20) rfl rfl Try.func29 (by kernel_rfl) rfl #[.slice A0_2 l0_2.length c0_2,.slice A1_2 l1_2.length c1_2] rfl lp_ ?_;(with_reducible refine (laws_eqIntS.calls k _ _ l0_2 _ _ l1_2 true _ ?side1 ?side2 ?side3 ?side4 A6.out).mono ?_);(case side1 => exact cr_ (Kd.C_below HR0_2.out (be2_ HB.out GE231.out GE232.out)));(case side2 => exact HC0_2.out);(case side3 => exact cr_ (Kd.C_below HR1_2.out (be2_ HB.out GE231.out GE232.out)));(case side4 => exact HC1_2.out);rintro e w' ⟨rfl,⟨nd,rfl⟩⟩;refine ⟨_,rfl,?_⟩)|((with_reducible refine gate_callee (f:=75) rfl ?_);refine goesL_ (some 26) rfl rfl Try.func75 (by kernel_rfl) rfl #[.slice A0_3 l0_3.length c0_3,.slice A1_3 l1_3.length c1_3] rfl lp_ ?_;(with_reducible refine (laws_eqStepS.calls k _ _ l0_3 _ _ l1_3 false _ ?side1 ?side2 ?side3 ?side4 A8.out).mono ?_);(case side1 => exact cr_ (Kd.C_below HR0_3.out (be2_ HB.out GE231.out GE232.out)));(case side2 => exact HC0_3.out);(case side3 => exact cr_ (Kd.C_below HR1_3.out (be2_ HB.out GE231.out GE232.out)));(case side4 => exact HC1_3.out);rintro e w21 ⟨rfl,hb⟩;refine ⟨_,rfl,?_⟩;replace BK231:=kc_ BK231 hb;replace BK232:=kc_ BK232 hb;replace HB:=hs2_ HB GE231 GE232 hb;(try clear hb);(try clear hb2);(try clear hk);(try clear hi)))
     go_ret
     exact ⟨er_,be2_ HB.out GE231.out GE232.out⟩
   ·replace c7:=Bool.eq_false_iff.mpr c7
    subst c7
    have H1 : (some false) = some r:=by rw [if_neg (show ¬ (false = true) by decide)] at H;exact H
    clear H
    have H:=H1
    clear H1
    obtain rfl:=Option.some.inj H
    go_enter Try.func20,Try.ntmps20
    go_wp2_with (first|((with_reducible refine bev_ (N:=2) rfl rfl (cs:=#[.int .i64 a0_0,.slice A0_1 l0_1.length c0_1,.slice A0_2 l0_2.length c0_2,.slice A0_3 l0_3.length c0_3]) (t:=33) ?hr ?_);(case hr => first|(go_simp;done)|(go_simp;rfl));intro gb231 hg w22 hbox hb;have BK231:=Aside0.mk (hbox);have GW231:=gw0_ hg HB;have GE231:=GW231;replace HB:=hs0_ HB hb;clear hb hbox hg)|((with_reducible refine bev_ (N:=3) rfl rfl (cs:=#[.int .i64 a1_0,.slice A1_1 l1_1.length c1_1,.slice A1_2 l1_2.length c1_2,.slice A1_3 l1_3.length c1_3]) (t:=33) ?hr ?_);(case hr => first|(go_simp;done)|(go_simp;rfl));intro gb232 hg w23 hbox hb;have BK232:=Aside0.mk (hbox);have GW232:=gw1_ hg HB GE231;have GE232:=GW232;replace HB:=hs1_ HB GE231 hb;have NB231_232:=nm_ hg BK231;have NB232_231:=nn_ hg BK231;replace BK231:=kc_ BK231 hb;clear hb hbox hg;have hnb24:=NB231_232.out;have hnc24:=NB232_231.out;obtain ⟨hcz25_0,hcz25_1,hcz25_2,hcz25_3,hfz25_0,hfz25_1,hfz25_2,hfz25_3⟩:=cf4_ BK231.out;obtain ⟨hcz26_0,hcz26_1,hcz26_2,hcz26_3,hfz26_0,hfz26_1,hfz26_2,hfz26_3⟩:=cf4_ BK232.out)|((with_reducible refine gate_callee (f:=29) rfl ?_);refine goesL_ (some 14) rfl rfl Try.func29 (by kernel_rfl) rfl #[.slice A0_1 l0_1.length c0_1,.slice A1_1 l1_1.length c1_1] rfl lp_ ?_;(with_reducible refine (laws_eqIntS.calls k _ _ l0_1 _ _ l1_1 true _ ?side1 ?side2 ?side3 ?side4 A4.out).mono ?_);(case side1 => exact cr_ (Kd.C_below HR0_1.out HB.out));(case side2 => exact HC0_1.out);(case side3 => exact cr_ (Kd.C_below HR1_1.out HB.out));(case side4 => exact HC1_1.out);rintro e w' ⟨rfl,⟨nd,rfl⟩⟩;refine ⟨_,rfl,?_⟩)|((with_reducible refine gate_callee (f:=29) rfl ?_);refine goesL_ (some 20) rfl rfl Try.func29 (by kernel_rfl) rfl #[.slice A0_2 l0_2.length c0_2,.slice A1_2 l1_2.length c1_2] rfl lp_ ?_;(with_reducible refine (laws_eqIntS.calls k _ _ l0_2 _ _ l1_2 false _ ?side1 ?side2 ?side3 ?side4 A6.out).mono ?_);(case side1 => exact cr_ (Kd.C_below HR0_2.out (be2_ HB.out GE231.out GE232.out)));(case side2 => exact HC0_2.out);(case side3 => exact cr_ (Kd.C_below HR1_2.out (be2_ HB.out GE231.out GE232.out)));(case side4 => exact HC1_2.out);rintro e w' ⟨rfl,⟨nd,rfl⟩⟩;refine ⟨_,rfl,?_⟩))
    go_ret
    exact ⟨er_,be2_ HB.out GE231.out GE232.out⟩
  ·replace c5:=Bool.eq_false_iff.mpr c5
   subst c5
   have H1 : (some false) = some r:=by rw [if_neg (show ¬ (false = true) by decide)] at H;exact H
   clear H
   have H:=H1
   clear H1
   obtain rfl:=Option.some.inj H
   go_enter Try.func20,Try.ntmps20
   go_wp2_with (first|((with_reducible refine bev_ (N:=2) rfl rfl (cs:=#[.int .i64 a0_0,.slice A0_1 l0_1.length c0_1,.slice A0_2 l0_2.length c0_2,.slice A0_3 l0_3.length c0_3]) (t:=33) ?hr ?_);(case hr => first|(go_simp;done)|(go_simp;rfl));intro gb231 hg w27 hbox hb;have BK231:=Aside0.mk (hbox);have GW231:=gw0_ hg HB;have GE231:=GW231;replace HB:=hs0_ HB hb;clear hb hbox hg)|((with_reducible refine bev_ (N:=3) rfl rfl (cs:=#[.int .i64 a1_0,.slice A1_1 l1_1.length c1_1,.slice A1_2 l1_2.length c1_2,.slice A1_3 l1_3.length c1_3]) (t:=33) ?hr ?_);(case hr => first|(go_simp;done)|(go_simp;rfl));intro gb232 hg w28 hbox hb;have BK232:=Aside0.mk (hbox);have GW232:=gw1_ hg HB GE231;have GE232:=GW232;replace HB:=hs1_ HB GE231 hb;have NB231_232:=nm_ hg BK231;have NB232_231:=nn_ hg BK231;replace BK231:=kc_ BK231 hb;clear hb hbox hg;have hnb29:=NB231_232.out;have hnc29:=NB232_231.out;obtain ⟨hcz30_0,hcz30_1,hcz30_2,hcz30_3,hfz30_0,hfz30_1,hfz30_2,hfz30_3⟩:=cf4_ BK231.out;obtain ⟨hcz31_0,hcz31_1,hcz31_2,hcz31_3,hfz31_0,hfz31_1,hfz31_2,hfz31_3⟩:=cf4_ BK232.out)|((with_reducible refine gate_callee (f:=29) rfl ?_);refine goesL_ (some 14) rfl rfl Try.func29 (by kernel_rfl) rfl #[.slice A0_1 l0_1.length c0_1,.slice A1_1 l1_1.length c1_1] rfl lp_ ?_;(with_reducible refine (laws_eqIntS.calls k _ _ l0_1 _ _ l1_1 false _ ?side1 ?side2 ?side3 ?side4 A4.out).mono ?_);(case side1 => exact cr_ (Kd.C_below HR0_1.out HB.out));(case side2 => exact HC0_1.out);(case side3 => exact cr_ (Kd.C_below HR1_1.out HB.out));(case side4 => exact HC1_1.out);rintro e w' ⟨rfl,⟨nd,rfl⟩⟩;refine ⟨_,rfl,?_⟩))
   go_ret
   exact ⟨er_,be2_ HB.out GE231.out GE232.out⟩
 ·rw [if_neg c3] at H
  have c3b0 : (a0_0 == a1_0) = false:=beq_eq_false_iff_ne.mpr c3
  have c3b1 : (a0_0 != a1_0) = true:=bne_iff_ne.mpr c3
  obtain rfl:=Option.some.inj H
  go_enter Try.func20,Try.ntmps20
  go_wp2_with (first|((with_reducible refine bev_ (N:=2) rfl rfl (cs:=#[.int .i64 a0_0,.slice A0_1 l0_1.length c0_1,.slice A0_2 l0_2.length c0_2,.slice A0_3 l0_3.length c0_3]) (t:=33) ?hr ?_);(case hr => first|(go_simp;done)|(go_simp;rfl));intro gb231 hg w32 hbox hb;have BK231:=Aside0.mk (hbox);have GW231:=gw0_ hg HB;have GE231:=GW231;replace HB:=hs0_ HB hb;clear hb hbox hg)|((with_reducible refine bev_ (N:=3) rfl rfl (cs:=#[.int .i64 a1_0,.slice A1_1 l1_1.length c1_1,.slice A1_2 l1_2.length c1_2,.slice A1_3 l1_3.length c1_3]) (t:=33) ?hr ?_);(case hr => first|(go_simp;done)|(go_simp;rfl));intro gb232 hg w33 hbox hb;have BK232:=Aside0.mk (hbox);have GW232:=gw1_ hg HB GE231;have GE232:=GW232;replace HB:=hs1_ HB GE231 hb;have NB231_232:=nm_ hg BK231;have NB232_231:=nn_ hg BK231;replace BK231:=kc_ BK231 hb;clear hb hbox hg;have hnb34:=NB231_232.out;have hnc34:=NB232_231.out;obtain ⟨hcz35_0,hcz35_1,hcz35_2,hcz35_3,hfz35_0,hfz35_1,hfz35_2,hfz35_3⟩:=cf4_ BK231.out;obtain ⟨hcz36_0,hcz36_1,hcz36_2,hcz36_3,hfz36_0,hfz36_1,hfz36_2,hfz36_3⟩:=cf4_ BK232.out))
  go_ret
  exact ⟨er_,be2_ HB.out GE231.out GE232.out⟩
def laws_eqMatrix.f (k : Nat) (a0_0 : Int) (l0_1 : List Int) (a1_0 : Int) (l1_1 : List Int) : Option (Bool):=if a0_0 = a1_0 then ((laws_eqIntS.f k l0_1 l1_1).bind fun t238 => (if t238 = true then (some true) else (some false))) else (some false)
theorem laws_eqMatrix.mono : ∀ a0 a1 a2 a3 k,LeO (laws_eqMatrix.f k a0 a1 a2 a3) (laws_eqMatrix.f (k + 1) a0 a1 a2 a3):=by
 intro a0 a1 a2 a3 k
 unfold laws_eqMatrix.f
 repeat' first
   | (with_reducible exact laws_eqIntS.mono _ _ _)
   | (with_reducible first|exact LeO.refl _|exact LeO.none _|refine LeO.ite ?_ ?_|refine LeO.bind ?_ (fun _ => ?_))
   | exact laws_eqIntS.mono _ _ _
   | exact LeO.none _
   | refine LeO.ite ?_ ?_
   | refine LeO.bind ?_ (fun _ => ?_)
set_option maxHeartbeats 8000000 in
set_option maxRecDepth 100000 in
theorem laws_eqMatrix.calls (k : Nat) (a0_0 : Int) (A0_1 : Option Addr) (c0_1 : Nat) (l0_1 : List Int) (a1_0 : Int) (A1_1 : Option Addr) (c1_1 : Nat) (l1_1 : List Int) (r : Bool) (w : World) (hr0_1 : Kd.C (Kd.int .i64) w A0_1 l0_1.length l0_1) (hc0_1 : l0_1.length ≤ c0_1) (hr1_1 : Kd.C (Kd.int .i64) w A1_1 l1_1.length l1_1) (hc1_1 : l1_1.length ≤ c1_1) (h : laws_eqMatrix.f k a0_0 l0_1 a1_0 l1_1 = some r) :
  Calls Try.prog 21 #[.agg #[.int .i64 a0_0,.slice A0_1 l0_1.length c0_1],.agg #[.int .i64 a1_0,.slice A1_1 l1_1.length c1_1]] w fun e w' => e = .returned (.bool r) ∧ Below w.heap.size w w':=by
 have hu35:=Try.underlying35
 have HR0_1:=Aside0.mk hr0_1
 have HC0_1:=Aside0.mk hc0_1
 clear hr0_1 hc0_1
 have HR1_1:=Aside0.mk hr1_1
 have HC1_1:=Aside0.mk hc1_1
 clear hr1_1 hc1_1
 have HB:=Aside0.mk (Below.refl w.heap.size w)
 have H : (if a0_0 = a1_0 then ((laws_eqIntS.f k l0_1 l1_1).bind fun t238 => (if t238 = true then (some true) else (some false))) else (some false)) = some r:=h
 clear h
 by_cases c3 : a0_0 = a1_0
 ·rw [if_pos c3] at H
  have c3b0 : (a0_0 == a1_0) = true:=beq_iff_eq.mpr c3
  have c3b1 : (a0_0 != a1_0) = false:=bne_eq_false_iff_eq.mpr c3
  clear c3
  replace H:=Option.bind_eq_some_iff.mp H
  obtain ⟨t238,A40,H⟩:=H
  replace H : (if t238 = true then (some true) else (some false)) = some r:=H
  have A4:=Aside0.mk A40
  clear A40
  by_cases c5 : t238 = true
  ·subst c5
   have H1 : (some true) = some r:=by rw [if_pos rfl] at H;exact H
   clear H
   have H:=H1
   clear H1
   obtain rfl:=Option.some.inj H
   go_enter Try.func21,Try.ntmps21
   go_wp2_with (first|((with_reducible refine bev_ (N:=2) rfl rfl (cs:=#[.int .i64 a0_0,.slice A0_1 l0_1.length c0_1]) (t:=35) ?hr ?_);(case hr => first|(go_simp;done)|(go_simp;rfl));intro gb236 hg w6 hbox hb;have BK236:=Aside0.mk (hbox);have GW236:=gw0_ hg HB;have GE236:=GW236;replace HB:=hs0_ HB hb;clear hb hbox hg)|((with_reducible refine bev_ (N:=3) rfl rfl (cs:=#[.int .i64 a1_0,.slice A1_1 l1_1.length c1_1]) (t:=35) ?hr ?_);(case hr => first|(go_simp;done)|(go_simp;rfl));intro gb237 hg w7 hbox hb;have BK237:=Aside0.mk (hbox);have GW237:=gw1_ hg HB GE236;have GE237:=GW237;replace HB:=hs1_ HB GE236 hb;have NB236_237:=nm_ hg BK236;have NB237_236:=nn_ hg BK236;replace BK236:=kc_ BK236 hb;clear hb hbox hg;have hnb8:=NB236_237.out;have hnc8:=NB237_236.out;obtain ⟨hcz9_0,hcz9_1,hfz9_0,hfz9_1⟩:=cf2_ BK236.out;obtain ⟨hcz10_0,hcz10_1,hfz10_0,hfz10_1⟩:=cf2_ BK237.out)|((with_reducible refine gate_callee (f:=29) rfl ?_);refine goesL_ (some 14) rfl rfl Try.func29 (by kernel_rfl) rfl #[.slice A0_1 l0_1.length c0_1,.slice A1_1 l1_1.length c1_1] rfl lp_ ?_;(with_reducible refine (laws_eqIntS.calls k _ _ l0_1 _ _ l1_1 true _ ?side1 ?side2 ?side3 ?side4 A4.out).mono ?_);(case side1 => exact cr_ (Kd.C_below HR0_1.out HB.out));(case side2 => exact HC0_1.out);(case side3 => exact cr_ (Kd.C_below HR1_1.out HB.out));(case side4 => exact HC1_1.out);rintro e w' ⟨rfl,⟨nd,rfl⟩⟩;refine ⟨_,rfl,?_⟩))
   go_ret
   exact ⟨er_,be2_ HB.out GE236.out GE237.out⟩
  ·replace c5:=Bool.eq_false_iff.mpr c5
   subst c5
   have H1 : (some false) = some r:=by rw [if_neg (show ¬ (false = true) by decide)] at H;exact H
   clear H
   have H:=H1
   clear H1
   obtain rfl:=Option.some.inj H
   go_enter Try.func21,Try.ntmps21
   go_wp2_with (first|((with_reducible refine bev_ (N:=2) rfl rfl (cs:=#[.int .i64 a0_0,.slice A0_1 l0_1.length c0_1]) (t:=35) ?hr ?_);(case hr => first|(go_simp;done)|(go_simp;rfl));intro gb236 hg w11 hbox hb;have BK236:=Aside0.mk (hbox);have GW236:=gw0_ hg HB;have GE236:=GW236;replace HB:=hs0_ HB hb;clear hb hbox hg)|((with_reducible refine bev_ (N:=3) rfl rfl (cs:=#[.int .i64 a1_0,.slice A1_1 l1_1.length c1_1]) (t:=35) ?hr ?_);(case hr => first|(go_simp;done)|(go_simp;rfl));intro gb237 hg w12 hbox hb;have BK237:=Aside0.mk (hbox);have GW237:=gw1_ hg HB GE236;have GE237:=GW237;replace HB:=hs1_ HB GE236 hb;have NB236_237:=nm_ hg BK236;have NB237_236:=nn_ hg BK236;replace BK236:=kc_ BK236 hb;clear hb hbox hg;have hnb13:=NB236_237.out;have hnc13:=NB237_236.out;obtain ⟨hcz14_0,hcz14_1,hfz14_0,hfz14_1⟩:=cf2_ BK236.out;obtain ⟨hcz15_0,hcz15_1,hfz15_0,hfz15_1⟩:=cf2_ BK237.out)|((with_reducible refine gate_callee (f:=29) rfl ?_);refine goesL_ (some 14) rfl rfl Try.func29 (by kernel_rfl) rfl #[.slice A0_1 l0_1.length c0_1,.slice A1_1 l1_1.length c1_1] rfl lp_ ?_;(with_reducible refine (laws_eqIntS.calls k _ _ l0_1 _ _ l1_1 false _ ?side1 ?side2 ?side3 ?side4 A4.out).mono ?_);(case side1 => exact cr_ (Kd.C_below HR0_1.out HB.out));(case side2 => exact HC0_1.out);(case side3 => exact cr_ (Kd.C_below HR1_1.out HB.out));(case side4 => exact HC1_1.out);rintro e w' ⟨rfl,⟨nd,rfl⟩⟩;refine ⟨_,rfl,?_⟩))
   go_ret
   exact ⟨er_,be2_ HB.out GE236.out GE237.out⟩
 ·rw [if_neg c3] at H
  have c3b0 : (a0_0 == a1_0) = false:=beq_eq_false_iff_ne.mpr c3
  have c3b1 : (a0_0 != a1_0) = true:=bne_iff_ne.mpr c3
  obtain rfl:=Option.some.inj H
  go_enter Try.func21,Try.ntmps21
  go_wp2_with (first|((with_reducible refine bev_ (N:=2) rfl rfl (cs:=#[.int .i64 a0_0,.slice A0_1 l0_1.length c0_1]) (t:=35) ?hr ?_);(case hr => first|(go_simp;done)|(go_simp;rfl));intro gb236 hg w16 hbox hb;have BK236:=Aside0.mk (hbox);have GW236:=gw0_ hg HB;have GE236:=GW236;replace HB:=hs0_ HB hb;clear hb hbox hg)|((with_reducible refine bev_ (N:=3) rfl rfl (cs:=#[.int .i64 a1_0,.slice A1_1 l1_1.length c1_1]) (t:=35) ?hr ?_);(case hr => first|(go_simp;done)|(go_simp;rfl));intro gb237 hg w17 hbox hb;have BK237:=Aside0.mk (hbox);have GW237:=gw1_ hg HB GE236;have GE237:=GW237;replace HB:=hs1_ HB GE236 hb;have NB236_237:=nm_ hg BK236;have NB237_236:=nn_ hg BK236;replace BK236:=kc_ BK236 hb;clear hb hbox hg;have hnb18:=NB236_237.out;have hnc18:=NB237_236.out;obtain ⟨hcz19_0,hcz19_1,hfz19_0,hfz19_1⟩:=cf2_ BK236.out;obtain ⟨hcz20_0,hcz20_1,hfz20_0,hfz20_1⟩:=cf2_ BK237.out))
  go_ret
  exact ⟨er_,be2_ HB.out GE236.out GE237.out⟩
def laws_heldIntS.l0 : Nat → List Int → Int → Int → Option (Int)
 | 0,_,_,_ => none
 | k + 1,x0,x1,x5 => if x5 < (x0.length : Int) then (if 0 ≤ x5 then (if (rd x0 x5) = x1 then (laws_heldIntS.l0 k x0 (wrap64 (x1 + 1)) (wrap64 (x5 + 1))) else (some (-1))) else (none)) else (some x1)
def laws_heldIntS.f (k : Nat) (l0 : List Int) (a1 : Int) : Option (Int):=laws_heldIntS.l0 k l0 a1 0
theorem laws_heldIntS.mono_l : ∀ k,(∀ y0 y1 y2,LeO (laws_heldIntS.l0 k y0 y1 y2) (laws_heldIntS.l0 (k + 1) y0 y1 y2))
 | 0 => fun _ _ _ r h => by simp [laws_heldIntS.l0] at h
 | k + 1 => by
  have ih0:=laws_heldIntS.mono_l k
  ·intro y0 y1 y2
   unfold laws_heldIntS.l0
   repeat' first
   | (with_reducible exact ih0 _ _ _)
   | (with_reducible first|exact LeO.refl _|exact LeO.none _|refine LeO.ite ?_ ?_|refine LeO.bind ?_ (fun _ => ?_))
   | exact ih0 _ _ _
   | exact LeO.none _
   | refine LeO.ite ?_ ?_
   | refine LeO.bind ?_ (fun _ => ?_)
theorem laws_heldIntS.mono : ∀ a0 a1 k,LeO (laws_heldIntS.f k a0 a1) (laws_heldIntS.f (k + 1) a0 a1):=by
 intro a0 a1 k
 have ih0:=laws_heldIntS.mono_l k
 unfold laws_heldIntS.f
 repeat' first
   | (with_reducible exact ih0 _ _ _)
   | (with_reducible first|exact LeO.refl _|exact LeO.none _|refine LeO.ite ?_ ?_|refine LeO.bind ?_ (fun _ => ?_))
   | exact ih0 _ _ _
   | exact LeO.none _
   | refine LeO.ite ?_ ?_
   | refine LeO.bind ?_ (fun _ => ?_)
set_option maxHeartbeats 8000000 in
set_option maxRecDepth 100000 in
theorem laws_heldIntS.calls (k : Nat) (A0 : Option Addr) (c0 : Nat) (l0 : List Int) (a1 : Int) (r : Int) (w : World) (hr0 : Kd.C (Kd.int .i64) w A0 l0.length l0) (hc0 : l0.length ≤ c0) (h : laws_heldIntS.f k l0 a1 = some r) :
  Calls Try.prog 31 #[.slice A0 l0.length c0,.int .i64 a1] w fun e w' => e = .returned (.int .i64 r) ∧ Drawn0 w w':=by
 have HR0:=Aside0.mk hr0
 have HC0:=Aside0.mk hc0
 clear hr0 hc0
 have H : (laws_heldIntS.l0 k l0 a1 0) = some r:=h
 clear h
 have H':=Aside0.mk H
 clear H
 go_enter Try.func31,Try.ntmps31
 go_wp2
 go_loopg [1,5] k (fun kq v1 v5 w' => ∃ (x1_1 : Int) (x5_1 : Int),v1 = .int .i64 x1_1 ∧ v5 = .int .i64 x5_1 ∧ Aside0 (laws_heldIntS.l0 kq l0 x1_1 x5_1 = some r) ∧ Aside0 (kq ≤ k) ∧ Drawn0 w w')
 case atStart => exact ⟨(a1),(0),rs_,rs_,H',⟨Nat.le_refl _⟩,by repeat (first|exact Drawn0.refl _|apply Drawn0.step)⟩
 case round =>
  clear H'
  obtain ⟨x1_1,x5_1,rfl,rfl,HA,HK1,⟨m1,rfl⟩⟩:=hrel
  cases gk with
  | zero => exact absurd HA.out (by simp [laws_heldIntS.l0])
  | succ k1 =>
   have H:=HA.out
   clear HA
   simp only [laws_heldIntS.l0] at H
   by_cases c3 : x5_1 < (l0.length : Int)
   ·rw [if_pos c3] at H
    have c3b0 : decide (x5_1 < (l0.length : Int)) = true:=decide_eq_true c3
    clear c3
    by_cases c4 : 0 ≤ x5_1
    ·rw [if_pos c4] at H
     have c4b0 : decide (0 ≤ x5_1) = true:=decide_eq_true c4
     clear c4
     by_cases c5 : (rd l0 x5_1) = x1_1
     ·rw [if_pos c5] at H
      have c5b0 : ((rd l0 x5_1) == x1_1) = true:=beq_iff_eq.mpr c5
      have c5b1 : ((rd l0 x5_1) != x1_1) = false:=bne_eq_false_iff_eq.mpr c5
      clear c5
      have H':=Aside0.mk H
      clear H
      have p432 : 0 ≤ (x5_1 : Int):=od_
      have q432 : x5_1 < (l0.length : Int):=od_
      obtain ⟨ad432,e432,hx432_0⟩:=Kd.at_int HR0.out x5_1 p432 q432
      cases e432
      replace p432:=eq_true p432
      replace q432:=eq_true q432
      go_wp2
      go_roundg k1
      case measure => have:=HK1.out;omega
      case rel => exact ⟨(wrap64 (x1_1 + 1)),(wrap64 (x5_1 + 1)),rs_,rs_,H',⟨by have:=HK1.out;omega⟩,by repeat (first|exact Drawn0.refl _|apply Drawn0.step)⟩
     ·rw [if_neg c5] at H
      have c5b0 : ((rd l0 x5_1) == x1_1) = false:=beq_eq_false_iff_ne.mpr c5
      have c5b1 : ((rd l0 x5_1) != x1_1) = true:=bne_iff_ne.mpr c5
      obtain rfl:=Option.some.inj H
      have p432 : 0 ≤ (x5_1 : Int):=od_
      have q432 : x5_1 < (l0.length : Int):=od_
      obtain ⟨ad432,e432,hx432_0⟩:=Kd.at_int HR0.out x5_1 p432 q432
      cases e432
      replace p432:=eq_true p432
      replace q432:=eq_true q432
      go_wp2
      go_ret
      exact ⟨by first|rfl|(simp;done)|(simp [*];done),by repeat (first|exact Drawn0.refl _|apply Drawn0.step)⟩
    ·rw [if_neg c4] at H
     exact absurd H (by simp)
   ·rw [if_neg c3] at H
    have c3b0 : decide (x5_1 < (l0.length : Int)) = false:=decide_eq_false c3
    clear c3
    obtain rfl:=Option.some.inj H
    go_wp2
    go_ret
    exact ⟨by first|rfl|(simp;done)|(simp [*];done),by repeat (first|exact Drawn0.refl _|apply Drawn0.step)⟩
def laws_heldMatrix.f (k : Nat) (a0_0 : Int) (l0_1 : List Int) (a1 : Int) : Option (Int):=(laws_heldIntS.f k l0_1 a1).bind fun t434 => (if t434 < 0 then (some (-1)) else (some t434))
theorem laws_heldMatrix.mono : ∀ a0 a1 a2 k,LeO (laws_heldMatrix.f k a0 a1 a2) (laws_heldMatrix.f (k + 1) a0 a1 a2):=by
 intro a0 a1 a2 k
 unfold laws_heldMatrix.f
 repeat' first
   | (with_reducible exact laws_heldIntS.mono _ _ _)
   | (with_reducible first|exact LeO.refl _|exact LeO.none _|refine LeO.ite ?_ ?_|refine LeO.bind ?_ (fun _ => ?_))
   | exact laws_heldIntS.mono _ _ _
   | exact LeO.none _
   | refine LeO.ite ?_ ?_
   | refine LeO.bind ?_ (fun _ => ?_)
set_option maxHeartbeats 8000000 in
set_option maxRecDepth 100000 in
theorem laws_heldMatrix.calls (k : Nat) (a0_0 : Int) (A0_1 : Option Addr) (c0_1 : Nat) (l0_1 : List Int) (a1 : Int) (r : Int) (w : World) (hr0_1 : Kd.C (Kd.int .i64) w A0_1 l0_1.length l0_1) (hc0_1 : l0_1.length ≤ c0_1) (h : laws_heldMatrix.f k a0_0 l0_1 a1 = some r) :
  Calls Try.prog 26 #[.agg #[.int .i64 a0_0,.slice A0_1 l0_1.length c0_1],.int .i64 a1] w fun e w' => e = .returned (.int .i64 r) ∧ Below w.heap.size w w':=by
 have hu35:=Try.underlying35
 have HR0_1:=Aside0.mk hr0_1
 have HC0_1:=Aside0.mk hc0_1
 clear hr0_1 hc0_1
 have HB:=Aside0.mk (Below.refl w.heap.size w)
 have H : ((laws_heldIntS.f k l0_1 a1).bind fun t434 => (if t434 < 0 then (some (-1)) else (some t434))) = some r:=h
 clear h
 replace H:=Option.bind_eq_some_iff.mp H
 obtain ⟨t434,A30,H⟩:=H
 replace H : (if t434 < 0 then (some (-1)) else (some t434)) = some r:=H
 have A3:=Aside0.mk A30
 clear A30
 by_cases c4 : t434 < 0
 ·rw [if_pos c4] at H
  have c4b0 : decide (t434 < 0) = true:=decide_eq_true c4
  clear c4
  obtain rfl:=Option.some.inj H
  go_enter Try.func26,Try.ntmps26
  go_wp2_with (first|((with_reducible refine bev_ (N:=2) rfl rfl (cs:=#[.int .i64 a0_0,.slice A0_1 l0_1.length c0_1]) (t:=35) ?hr ?_);(case hr => first|(go_simp;done)|(go_simp;rfl));intro gb433 hg w5 hbox hb;have BK433:=Aside0.mk (hbox);have GW433:=gw0_ hg HB;have GE433:=GW433;replace HB:=hs0_ HB hb;clear hb hbox hg;obtain ⟨hcz6_0,hcz6_1,hfz6_0,hfz6_1⟩:=cf2_ BK433.out)|((with_reducible refine gate_callee (f:=31) rfl ?_);refine goesL_ (some 8) rfl rfl Try.func31 (by kernel_rfl) rfl #[.slice A0_1 l0_1.length c0_1,.int .i64 a1] rfl lp_ ?_;(with_reducible refine (laws_heldIntS.calls k _ _ l0_1 a1 t434 _ ?side1 ?side2 A3.out).mono ?_);(case side1 => exact cr_ (Kd.C_below HR0_1.out HB.out));(case side2 => exact HC0_1.out);rintro e w' ⟨rfl,⟨nd,rfl⟩⟩;refine ⟨_,rfl,?_⟩))
  go_ret
  exact ⟨er_,be1_ HB.out GE433.out⟩
 ·rw [if_neg c4] at H
  have c4b0 : decide (t434 < 0) = false:=decide_eq_false c4
  clear c4
  obtain rfl:=Option.some.inj H
  go_enter Try.func26,Try.ntmps26
  go_wp2_with (first|((with_reducible refine bev_ (N:=2) rfl rfl (cs:=#[.int .i64 a0_0,.slice A0_1 l0_1.length c0_1]) (t:=35) ?hr ?_);(case hr => first|(go_simp;done)|(go_simp;rfl));intro gb433 hg w7 hbox hb;have BK433:=Aside0.mk (hbox);have GW433:=gw0_ hg HB;have GE433:=GW433;replace HB:=hs0_ HB hb;clear hb hbox hg;obtain ⟨hcz8_0,hcz8_1,hfz8_0,hfz8_1⟩:=cf2_ BK433.out)|((with_reducible refine gate_callee (f:=31) rfl ?_);refine goesL_ (some 8) rfl rfl Try.func31 (by kernel_rfl) rfl #[.slice A0_1 l0_1.length c0_1,.int .i64 a1] rfl lp_ ?_;(with_reducible refine (laws_heldIntS.calls k _ _ l0_1 a1 t434 _ ?side1 ?side2 A3.out).mono ?_);(case side1 => exact cr_ (Kd.C_below HR0_1.out HB.out));(case side2 => exact HC0_1.out);rintro e w' ⟨rfl,⟨nd,rfl⟩⟩;refine ⟨_,rfl,?_⟩))
  go_ret
  exact ⟨er_,be1_ HB.out GE433.out⟩
def laws_markIntS.l0 : Nat → List Int → Int → Int → Option (Int × List Int)
 | 0,_,_,_ => none
 | k + 1,x0,x1,x5 => if x5 < (x0.length : Int) then (if 0 ≤ x5 then (laws_markIntS.l0 k (x0.set (x5 : Int).toNat x1) (wrap64 (x1 + 1)) (wrap64 (x5 + 1))) else (none)) else (some (x1,x0))
def laws_markIntS.f (k : Nat) (l0 : List Int) (a1 : Int) : Option (Int × List Int):=laws_markIntS.l0 k l0 a1 0
theorem laws_markIntS.mono_l : ∀ k,(∀ y0 y1 y2,LeO (laws_markIntS.l0 k y0 y1 y2) (laws_markIntS.l0 (k + 1) y0 y1 y2))
 | 0 => fun _ _ _ r h => by simp [laws_markIntS.l0] at h
 | k + 1 => by
  have ih0:=laws_markIntS.mono_l k
  ·intro y0 y1 y2
   unfold laws_markIntS.l0
   repeat' first
   | (with_reducible exact ih0 _ _ _)
   | (with_reducible first|exact LeO.refl _|exact LeO.none _|refine LeO.ite ?_ ?_|refine LeO.bind ?_ (fun _ => ?_))
   | exact ih0 _ _ _
   | exact LeO.none _
   | refine LeO.ite ?_ ?_
   | refine LeO.bind ?_ (fun _ => ?_)
theorem laws_markIntS.mono : ∀ a0 a1 k,LeO (laws_markIntS.f k a0 a1) (laws_markIntS.f (k + 1) a0 a1):=by
 intro a0 a1 k
 have ih0:=laws_markIntS.mono_l k
 unfold laws_markIntS.f
 repeat' first
   | (with_reducible exact ih0 _ _ _)
   | (with_reducible first|exact LeO.refl _|exact LeO.none _|refine LeO.ite ?_ ?_|refine LeO.bind ?_ (fun _ => ?_))
   | exact ih0 _ _ _
   | exact LeO.none _
   | refine LeO.ite ?_ ?_
   | refine LeO.bind ?_ (fun _ => ?_)
set_option maxHeartbeats 8000000 in
set_option maxRecDepth 100000 in
theorem laws_markIntS.calls (k : Nat) (P0_ : Nat → Prop) (u9000_ : Value) (l0 : List Int) (a1 : Int) (r1 : Int) (r2 : List Int) (w0 w : World) (hB : Below w0.heap.size w0 w) (ho0 : Kd.R (Kd.int .i64) 3 w w0.heap.size P0_ u9000_ l0) (h : laws_markIntS.f k l0 a1 = some (r1,r2)) :
  Calls Try.prog 30 #[u9000_,.int .i64 a1] w fun e w' => e = .returned (.int .i64 r1) ∧ Kd.R (Kd.int .i64) 3 w' w0.heap.size (fun k_ => (P0_ k_ ∨ w.heap.size ≤ k_)) u9000_ r2 ∧ Below w0.heap.size w0 w' ∧ Kept w w' (fun k_ => P0_ k_):=by
 have HO0:=Aside0.mk (show Kd.R (Kd.int .i64) 3 w w0.heap.size (fun k_ => (P0_ k_ ∨ w.heap.size ≤ k_)) u9000_ l0 from Kd.R_mono ho0 (fun k_ hk => (.inl hk)))
 have HK:=Aside0.mk (Kept.refl w (fun k_ => P0_ k_))
 have HW0:=Aside0.mk hB.size
 have HB:=Aside0.mk hB
 clear hB
 have H : (laws_markIntS.l0 k l0 a1 0) = some (r1,r2):=h
 clear h
 have H':=Aside0.mk H
 clear H
 go_enter Try.func30,Try.ntmps30
 go_wp2
 go_loopg [1,5] k (fun kq v1 v5 w' => ∃ (x0_1 : List Int) (x1_1 : Int) (x5_1 : Int),v1 = .int .i64 x1_1 ∧ v5 = .int .i64 x5_1 ∧ Aside0 (laws_markIntS.l0 kq x0_1 x1_1 x5_1 = some (r1,r2)) ∧ Aside0 (kq ≤ k) ∧ Aside0 (Kd.R (Kd.int .i64) 3 w' w0.heap.size (fun k_ => (P0_ k_ ∨ w.heap.size ≤ k_)) u9000_ x0_1) ∧ Aside0 (Kept w w' (fun k_ => P0_ k_)) ∧ Aside0 (Below w0.heap.size w0 w'))
 case atStart => exact ⟨(l0),(a1),(0),rs_,rs_,H',⟨Nat.le_refl _⟩,⟨pr_ HO0.out⟩,⟨by repeat (first|(with_reducible first|exact HK.out|apply Kept.alloc|apply Kept.drewN|apply Kept.drew)|exact HK.out)⟩,⟨be0_ HB.out⟩⟩
 case round =>
  clear H'
  obtain ⟨x0_1,x1_1,x5_1,rfl,rfl,HA,HK1,HO_0,HK,HB⟩:=hrel
  cases gk with
  | zero => exact absurd HA.out (by simp [laws_markIntS.l0])
  | succ k1 =>
   have H:=HA.out
   clear HA
   simp only [laws_markIntS.l0] at H
   by_cases c3 : x5_1 < (x0_1.length : Int)
   ·rw [if_pos c3] at H
    have c3b0 : decide (x5_1 < (x0_1.length : Int)) = true:=decide_eq_true c3
    clear c3
    by_cases c4 : 0 ≤ x5_1
    ·rw [if_pos c4] at H
     have c4b0 : decide (0 ≤ x5_1) = true:=decide_eq_true c4
     clear c4
     obtain ⟨y413,hy413⟩ : ∃ y_ : List Int,y_ = (x0_1.set (x5_1 : Int).toNat x1_1):=⟨_,rfl⟩
     replace H : (laws_markIntS.l0 k1 y413 (wrap64 (x1_1 + 1)) (wrap64 (x5_1 + 1))) = some (r1,r2):=by first|(rw [hy413];with_reducible exact H)|(have H2_:=(Option.bind_some _ _).symm.trans H;rw [hy413];with_reducible exact H2_)|(have H2_:=(Option.bind_some _ _).symm.trans H;with_reducible exact H2_)|with_reducible exact H|(rw [hy413];exact H)|exact H
     have Ny413:=Aside0.mk hy413
     clear hy413
     have H':=Aside0.mk H
     clear H
     obtain ⟨Ao6,co6,eo6⟩:=Kd.R_slice HO_0.out
     subst eo6
     have p5 : 0 ≤ (x5_1 : Int):=od_
     have q5 : (x5_1 : Int) < ((x0_1.length : Int) : Int):=od_
     obtain ⟨go5,co5,eo5,gb5,gl5,cl5,HG5⟩:=Kd.R_form HO_0.out (by omega)
     (first|cases eo5|(injection eo5 with ea_ en_ ec_;(first|subst ea_|(injection ea_ with ea_;subst ea_));subst ec_;clear en_))
     have GB5:=Aside0.mk gb5
     have GG5:=Aside0.mk HG5
     clear gb5 gl5 HG5
     have HMgo5:=Aside0.mk (show (P0_ go5 ∨ w.heap.size ≤ go5) from (HO_0.out.1 _ rfl))
     obtain ⟨hx5_0,hf5_0⟩:=Kd.R_celln 0 HO_0.out (x5_1 : Int) p5 q5
     replace p5:=eq_true p5
     replace q5:=eq_true q5
     have HP7:=Kd.R_putg HO_0.out (x5_1 : Int) x1_1
     go_wp2_with (first|((with_reducible refine gate_store (t:=3) (p:=15) rfl ?_);refine store_event (t:=3) (p:=15) (v:=?vo_w8) (w1:=(wr.setCell ⟨go5,(x5_1 : Int).toNat,none⟩ (.int .i64 x1_1))) ?hg ?ho ?hn ?hr ?_;(case ho => rfl);(case hg => rfl);(case hn => rfl);(case hr => first|(go_simp;done)|(go_simp;rfl));intro w8 hw;have hg : wr.grownBy w8 (some go5):=(by rw [hw];exact HP7.2);have hp_ : Kd.R (Kd.int .i64) 3 w8 w0.heap.size (fun k_ => (P0_ k_ ∨ w.heap.size ≤ k_)) (.slice (some ⟨go5,0,none⟩) x0_1.length co6) y413:=(by rw [hw,Ny413.out];exact HP7.1);clear HP7;replace HB:=Aside0.mk ((by rw [hw];exact below_set (HB.out) GB5.out : Below w0.heap.size w0 w8));replace HK:=Aside0.mk (Kept.of_grown (S:=(fun k_ => P0_ k_)) hg (by repeat (first|(with_reducible first|exact HK.out|apply Kept.alloc|apply Kept.drewN|apply Kept.drew)|exact HK.out)) (fun k_ e_ => (HO_0.out.1 k_ e_)));replace HO_0:=Aside0.mk (hp_);clear hg hw hp_))
     go_roundg k1
     case measure => have:=HK1.out;omega
     case rel => exact ⟨(y413),(wrap64 (x1_1 + 1)),(wrap64 (x5_1 + 1)),rs_,rs_,H',⟨by have:=HK1.out;omega⟩,⟨pr_ HO_0.out⟩,⟨by repeat (first|(with_reducible first|exact HK.out|apply Kept.alloc|apply Kept.drewN|apply Kept.drew)|exact HK.out)⟩,⟨be0_ HB.out⟩⟩
    ·rw [if_neg c4] at H
     exact absurd H (by simp)
   ·rw [if_neg c3] at H
    have c3b0 : decide (x5_1 < (x0_1.length : Int)) = false:=decide_eq_false c3
    clear c3
    simp only [Option.some.injEq,Prod.mk.injEq] at H
    obtain ⟨rfl,rfl⟩:=H
    obtain ⟨Ao9,co9,eo9⟩:=Kd.R_slice HO_0.out
    subst eo9
    go_wp2
    go_ret
    exact ⟨er_,pr_ HO_0.out,be0_ HB.out,by repeat (first|(with_reducible first|exact HK.out|apply Kept.alloc|apply Kept.drewN|apply Kept.drew)|exact HK.out)⟩
def laws_markText.l0 : Nat → Int → ByteArray → Option (ByteArray)
 | 0,_,_ => none
 | k + 1,x0,x3 => if x0 > 0 then ((some (([(wrap64 (48 + (Int.tmod x0 10))) % 256] : List Int) : List Int)).bind fun y414 => (if (strOfNums y414).size + x3.size ≤ 9223372036854775807 then (laws_markText.l0 k (wrap64 (Int.tdiv x0 10)) ((strOfNums y414) ++ x3)) else (none))) else (if 1 + x3.size ≤ 9223372036854775807 then (some ((⟨#[109]⟩ : ByteArray) ++ x3)) else (none))
def laws_markText.f (k : Nat) (a0 : Int) : Option (ByteArray):=if a0 ≤ 0 then (some (⟨#[109,48]⟩ : ByteArray)) else (laws_markText.l0 k a0 (⟨#[]⟩ : ByteArray))
theorem laws_markText.mono_l : ∀ k,(∀ y0 y1,LeO (laws_markText.l0 k y0 y1) (laws_markText.l0 (k + 1) y0 y1))
 | 0 => fun _ _ r h => by simp [laws_markText.l0] at h
 | k + 1 => by
  have ih0:=laws_markText.mono_l k
  ·intro y0 y1
   unfold laws_markText.l0
   repeat' first
   | (with_reducible exact ih0 _ _)
   | (with_reducible first|exact LeO.refl _|exact LeO.none _|refine LeO.ite ?_ ?_|refine LeO.bind ?_ (fun _ => ?_))
   | exact ih0 _ _
   | exact LeO.none _
   | refine LeO.ite ?_ ?_
   | refine LeO.bind ?_ (fun _ => ?_)
theorem laws_markText.mono : ∀ a0 k,LeO (laws_markText.f k a0) (laws_markText.f (k + 1) a0):=by
 intro a0 k
 have ih0:=laws_markText.mono_l k
 unfold laws_markText.f
 repeat' first
   | (with_reducible exact ih0 _ _)
   | (with_reducible first|exact LeO.refl _|exact LeO.none _|refine LeO.ite ?_ ?_|refine LeO.bind ?_ (fun _ => ?_))
   | exact ih0 _ _
   | exact LeO.none _
   | refine LeO.ite ?_ ?_
   | refine LeO.bind ?_ (fun _ => ?_)
set_option maxHeartbeats 8000000 in
set_option maxRecDepth 100000 in
theorem laws_markText.calls (k : Nat) (a0 : Int) (r : ByteArray) (w : World) (h : laws_markText.f k a0 = some r) :
  Calls Try.prog 99 #[.int .i64 a0] w fun e w' => e = .returned (.string r) ∧ Below w.heap.size w w':=by
 have HB:=Aside0.mk (Below.refl w.heap.size w)
 have H : (if a0 ≤ 0 then (some (⟨#[109,48]⟩ : ByteArray)) else (laws_markText.l0 k a0 (⟨#[]⟩ : ByteArray))) = some r:=h
 clear h
 by_cases c2 : a0 ≤ 0
 ·rw [if_pos c2] at H
  have c2b0 : decide (a0 ≤ 0) = true:=decide_eq_true c2
  clear c2
  obtain rfl:=Option.some.inj H
  go_enter Try.func99,Try.ntmps99
  go_wp2
  go_ret
  exact ⟨er_,be0_ HB.out⟩
 ·rw [if_neg c2] at H
  have c2b0 : decide (a0 ≤ 0) = false:=decide_eq_false c2
  clear c2
  have H':=Aside0.mk H
  clear H
  go_enter Try.func99,Try.ntmps99
  go_wp2
  go_loopg [0,3] k (fun kq v0 v3 w' => ∃ (x0_1 : Int) (x3_1 : ByteArray),v0 = .int .i64 x0_1 ∧ v3 = .string x3_1 ∧ Aside0 (laws_markText.l0 kq x0_1 x3_1 = some r) ∧ Aside0 (kq ≤ k) ∧ Aside0 (Below w.heap.size w w'))
  case atStart => exact ⟨(a0),((⟨#[]⟩ : ByteArray)),rs_,rs_,H',⟨Nat.le_refl _⟩,⟨be0_ HB.out⟩⟩
  case round =>
   clear H'
   obtain ⟨x0_1,x3_1,rfl,rfl,HA,HK1,HB⟩:=hrel
   cases gk with
   | zero => exact absurd HA.out (by simp [laws_markText.l0])
   | succ k1 =>
    have H:=HA.out
    clear HA
    simp only [laws_markText.l0] at H
    by_cases c3 : x0_1 > 0
    ·rw [if_pos c3] at H
     have c3b0 : decide (0 < x0_1) = true:=decide_eq_true c3
     clear c3
     obtain ⟨y414,hy414⟩ : ∃ y_ : List Int,y_ = (([(wrap64 (48 + (Int.tmod x0_1 10))) % 256] : List Int)):=⟨_,rfl⟩
     replace H : (if (strOfNums y414).size + x3_1.size ≤ 9223372036854775807 then (laws_markText.l0 k1 (wrap64 (Int.tdiv x0_1 10)) ((strOfNums y414) ++ x3_1)) else (none)) = some r:=by first|(rw [hy414];with_reducible exact H)|(have H2_:=(Option.bind_some _ _).symm.trans H;rw [hy414];with_reducible exact H2_)|(have H2_:=(Option.bind_some _ _).symm.trans H;with_reducible exact H2_)|with_reducible exact H|(rw [hy414];exact H)|exact H
     have Ny414:=Aside0.mk hy414
     clear hy414
     by_cases c4 : (strOfNums y414).size + x3_1.size ≤ 9223372036854775807
     ·rw [if_pos c4] at H
      have c4b0:=eq_true c4
      have c4b1 : decide ((strOfNums y414).size + x3_1.size ≤ 9223372036854775807) = true:=decide_eq_true c4
      try have c4b2 : (9223372036854775807 < (strOfNums y414).size + x3_1.size) = False:=eq_false (Nat.not_lt.2 c4)
      have H':=Aside0.mk H
      clear H
      go_wp2_with (first|((with_reducible refine gate_dst (N:=12) rfl ?_);refine Kd.R_lit (Kd.int .u8) _ 5 ?hg (N:=12) ?hd (xs:=([(wrap64 (48 + (Int.tmod x0_1 10))) % 256] : List Int)) (inner:=[.int .u8 ((wrap64 (48 + (Int.tmod x0_1 10))) % 256)]) (ok:=fun _ => True) (okp:=fun _ => True) ?hr ?hp (fun _ hk => hk) trivial (Below.refl _ _) (Nat.le_refl _) (by simp) ?_;(case hd => rfl);(case hg => rfl);(case hr => first|(go_simp;done)|(go_simp;rfl));(case hp => exact (Reps.one (show Kd.M (Kd.int .u8) _ _ _ ((wrap64 (48 + (Int.tmod x0_1 10))) % 256) [.int .u8 ((wrap64 (48 + (Int.tmod x0_1 10))) % 256)] from rfl) (Reps.none _ _)));intro v415 w5 ho6 hb hg_ hnew_;clear hg_ hnew_;(first|rw [← Ny414.out] at ho6|(simp only [Int.reduceToNat] at ho6;rw [← Ny414.out] at ho6));have HO416:=Aside0.mk (Kd.R_lower ho6 (below_size (be0_ HB.out)));replace HB:=hs0_ HB hb;clear hb ho6;have hcv7:=own_string (P:=Try.prog) Try.underlying65 Try.underlying5 Try.underlying9 (Kd.own_of_R HO416.out)))
      go_roundg k1
      case measure => have:=HK1.out;omega
      case rel => exact ⟨(wrap64 (Int.tdiv x0_1 10)),((strOfNums y414) ++ x3_1),rs_,rs_,H',⟨by have:=HK1.out;omega⟩,⟨be0_ HB.out⟩⟩
     ·rw [if_neg c4] at H
      exact absurd H (by simp)
    ·rw [if_neg c3] at H
     have c3b0 : decide (0 < x0_1) = false:=decide_eq_false c3
     clear c3
     by_cases c8 : 1 + x3_1.size ≤ 9223372036854775807
     ·rw [if_pos c8] at H
      have c8b0:=eq_true c8
      have c8b1 : decide (1 + x3_1.size ≤ 9223372036854775807) = true:=decide_eq_true c8
      try have c8b2 : (9223372036854775807 < 1 + x3_1.size) = False:=eq_false (Nat.not_lt.2 c8)
      obtain rfl:=Option.some.inj H
      go_wp2
      go_ret
      exact ⟨er_,be0_ HB.out⟩
     ·rw [if_neg c8] at H
      exact absurd H (by simp)
def laws_markStepS.l0 : Nat → List (S92) → Int → Int → Option (Int × (List (S92)))
 | 0,_,_,_ => none
 | k + 1,x0,x1,x5 => if x5 < (x0.length : Int) then (if 0 ≤ x5 then ((some (x0.set (x5 : Int).toNat (⟨x1,(rd_T92 x0 x5).f1,(rd_T92 x0 x5).f2,(rd_T92 x0 x5).f3⟩ : S92) : List (S92))).bind fun y417 => ((laws_markText.f k (wrap64 (x1 + 1))).bind fun t418 => ((some (y417.set (x5 : Int).toNat (⟨(rd_T92 y417 x5).f0,t418,(rd_T92 y417 x5).f2,(rd_T92 y417 x5).f3⟩ : S92) : List (S92))).bind fun y419 => ((some (y419.set (x5 : Int).toNat (⟨(rd_T92 y419 x5).f0,(rd_T92 y419 x5).f1,wrap64 ((wrap64 (x1 + 1)) + 1),(rd_T92 y419 x5).f3⟩ : S92) : List (S92))).bind fun y420 => (laws_markStepS.l0 k (y420.set (x5 : Int).toNat (⟨(rd_T92 y420 x5).f0,(rd_T92 y420 x5).f1,(rd_T92 y420 x5).f2,wrap64 ((wrap64 ((wrap64 (x1 + 1)) + 1)) + 1)⟩ : S92)) (wrap64 ((wrap64 ((wrap64 ((wrap64 (x1 + 1)) + 1)) + 1)) + 1)) (wrap64 (x5 + 1))))))) else (none)) else (some (x1,x0))
def laws_markStepS.f (k : Nat) (l0 : List (S92)) (a1 : Int) : Option (Int × (List (S92))):=laws_markStepS.l0 k l0 a1 0
theorem laws_markStepS.mono_l : ∀ k,(∀ y0 y1 y2,LeO (laws_markStepS.l0 k y0 y1 y2) (laws_markStepS.l0 (k + 1) y0 y1 y2))
 | 0 => fun _ _ _ r h => by simp [laws_markStepS.l0] at h
 | k + 1 => by
  have ih0:=laws_markStepS.mono_l k
  ·intro y0 y1 y2
   unfold laws_markStepS.l0
   repeat' first
   | (with_reducible exact ih0 _ _ _)
   | (with_reducible exact laws_markText.mono _ _)
   | (with_reducible first|exact LeO.refl _|exact LeO.none _|refine LeO.ite ?_ ?_|refine LeO.bind ?_ (fun _ => ?_))
   | exact ih0 _ _ _
   | exact laws_markText.mono _ _
   | exact LeO.none _
   | refine LeO.ite ?_ ?_
   | refine LeO.bind ?_ (fun _ => ?_)
theorem laws_markStepS.mono : ∀ a0 a1 k,LeO (laws_markStepS.f k a0 a1) (laws_markStepS.f (k + 1) a0 a1):=by
 intro a0 a1 k
 have ih0:=laws_markStepS.mono_l k
 unfold laws_markStepS.f
 repeat' first
   | (with_reducible exact ih0 _ _ _)
   | (with_reducible exact laws_markText.mono _ _)
   | (with_reducible first|exact LeO.refl _|exact LeO.none _|refine LeO.ite ?_ ?_|refine LeO.bind ?_ (fun _ => ?_))
   | exact ih0 _ _ _
   | exact laws_markText.mono _ _
   | exact LeO.none _
   | refine LeO.ite ?_ ?_
   | refine LeO.bind ?_ (fun _ => ?_)
set_option maxHeartbeats 8000000 in
set_option maxRecDepth 100000 in
theorem laws_markStepS.calls (k : Nat) (P0_ : Nat → Prop) (u9000_ : Value) (l0 : List (S92)) (a1 : Int) (r1 : Int) (r2 : List (S92)) (w0 w : World) (hB : Below w0.heap.size w0 w) (ho0 : Kd.R k92 92 w w0.heap.size P0_ u9000_ l0) (h : laws_markStepS.f k l0 a1 = some (r1,r2)) :
  Calls Try.prog 82 #[u9000_,.int .i64 a1] w fun e w' => e = .returned (.int .i64 r1) ∧ Kd.R k92 92 w' w0.heap.size (fun k_ => (P0_ k_ ∨ w.heap.size ≤ k_)) u9000_ r2 ∧ Below w0.heap.size w0 w' ∧ Kept w w' (fun k_ => P0_ k_):=by
 have HO0:=Aside0.mk (show Kd.R k92 92 w w0.heap.size (fun k_ => (P0_ k_ ∨ w.heap.size ≤ k_)) u9000_ l0 from Kd.R_mono ho0 (fun k_ hk => (.inl hk)))
 have HK:=Aside0.mk (Kept.refl w (fun k_ => P0_ k_))
 have HW0:=Aside0.mk hB.size
 have HB:=Aside0.mk hB
 clear hB
 have H : (laws_markStepS.l0 k l0 a1 0) = some (r1,r2):=h
 clear h
 have H':=Aside0.mk H
 clear H
 go_enter Try.func82,Try.ntmps82
 go_wp2
 go_loopg [1,5] k (fun kq v1 v5 w' => ∃ (x0_1 : List (S92)) (x1_1 : Int) (x5_1 : Int),v1 = .int .i64 x1_1 ∧ v5 = .int .i64 x5_1 ∧ Aside0 (laws_markStepS.l0 kq x0_1 x1_1 x5_1 = some (r1,r2)) ∧ Aside0 (kq ≤ k) ∧ Aside0 (Kd.R k92 92 w' w0.heap.size (fun k_ => (P0_ k_ ∨ w.heap.size ≤ k_)) u9000_ x0_1) ∧ Aside0 (Kept w w' (fun k_ => P0_ k_)) ∧ Aside0 (Below w0.heap.size w0 w'))
 case atStart => exact ⟨(l0),(a1),(0),rs_,rs_,H',⟨Nat.le_refl _⟩,⟨pr_ HO0.out⟩,⟨by repeat (first|(with_reducible first|exact HK.out|apply Kept.alloc|apply Kept.drewN|apply Kept.drew)|exact HK.out)⟩,⟨be0_ HB.out⟩⟩
 case round =>
  clear H'
  obtain ⟨x0_1,x1_1,x5_1,rfl,rfl,HA,HK1,HO_0,HK,HB⟩:=hrel
  cases gk with
  | zero => exact absurd HA.out (by simp [laws_markStepS.l0])
  | succ k1 =>
   have H:=HA.out
   clear HA
   simp only [laws_markStepS.l0] at H
   by_cases c3 : x5_1 < (x0_1.length : Int)
   ·rw [if_pos c3] at H
    have c3b0 : decide (x5_1 < (x0_1.length : Int)) = true:=decide_eq_true c3
    clear c3
    by_cases c4 : 0 ≤ x5_1
    ·rw [if_pos c4] at H
     have c4b0 : decide (0 ≤ x5_1) = true:=decide_eq_true c4
     clear c4
     obtain ⟨y417,hy417⟩ : ∃ y_ : List (S92),y_ = (x0_1.set (x5_1 : Int).toNat (⟨x1_1,(rd_T92 x0_1 x5_1).f1,(rd_T92 x0_1 x5_1).f2,(rd_T92 x0_1 x5_1).f3⟩ : S92)):=⟨_,rfl⟩
     replace H : ((laws_markText.f k1 (wrap64 (x1_1 + 1))).bind fun t418 => ((some (y417.set (x5_1 : Int).toNat (⟨(rd_T92 y417 x5_1).f0,t418,(rd_T92 y417 x5_1).f2,(rd_T92 y417 x5_1).f3⟩ : S92) : List (S92))).bind fun y419 => ((some (y419.set (x5_1 : Int).toNat (⟨(rd_T92 y419 x5_1).f0,(rd_T92 y419 x5_1).f1,wrap64 ((wrap64 (x1_1 + 1)) + 1),(rd_T92 y419 x5_1).f3⟩ : S92) : List (S92))).bind fun y420 => (laws_markStepS.l0 k1 (y420.set (x5_1 : Int).toNat (⟨(rd_T92 y420 x5_1).f0,(rd_T92 y420 x5_1).f1,(rd_T92 y420 x5_1).f2,wrap64 ((wrap64 ((wrap64 (x1_1 + 1)) + 1)) + 1)⟩ : S92)) (wrap64 ((wrap64 ((wrap64 ((wrap64 (x1_1 + 1)) + 1)) + 1)) + 1)) (wrap64 (x5_1 + 1)))))) = some (r1,r2):=by first|(rw [hy417];with_reducible exact H)|(have H2_:=(Option.bind_some _ _).symm.trans H;rw [hy417];with_reducible exact H2_)|(have H2_:=(Option.bind_some _ _).symm.trans H;with_reducible exact H2_)|with_reducible exact H|(rw [hy417];exact H)|exact H
     have Ny417:=Aside0.mk hy417
     clear hy417
     replace H:=Option.bind_eq_some_iff.mp H
     obtain ⟨t418,A60,H⟩:=H
     replace H : ((some (y417.set (x5_1 : Int).toNat (⟨(rd_T92 y417 x5_1).f0,t418,(rd_T92 y417 x5_1).f2,(rd_T92 y417 x5_1).f3⟩ : S92) : List (S92))).bind fun y419 => ((some (y419.set (x5_1 : Int).toNat (⟨(rd_T92 y419 x5_1).f0,(rd_T92 y419 x5_1).f1,wrap64 ((wrap64 (x1_1 + 1)) + 1),(rd_T92 y419 x5_1).f3⟩ : S92) : List (S92))).bind fun y420 => (laws_markStepS.l0 k1 (y420.set (x5_1 : Int).toNat (⟨(rd_T92 y420 x5_1).f0,(rd_T92 y420 x5_1).f1,(rd_T92 y420 x5_1).f2,wrap64 ((wrap64 ((wrap64 (x1_1 + 1)) + 1)) + 1)⟩ : S92)) (wrap64 ((wrap64 ((wrap64 ((wrap64 (x1_1 + 1)) + 1)) + 1)) + 1)) (wrap64 (x5_1 + 1))))) = some (r1,r2):=H
     have A6:=Aside0.mk A60
     clear A60
     obtain ⟨y419,hy419⟩ : ∃ y_ : List (S92),y_ = (y417.set (x5_1 : Int).toNat (⟨(rd_T92 y417 x5_1).f0,t418,(rd_T92 y417 x5_1).f2,(rd_T92 y417 x5_1).f3⟩ : S92)):=⟨_,rfl⟩
     replace H : ((some (y419.set (x5_1 : Int).toNat (⟨(rd_T92 y419 x5_1).f0,(rd_T92 y419 x5_1).f1,wrap64 ((wrap64 (x1_1 + 1)) + 1),(rd_T92 y419 x5_1).f3⟩ : S92) : List (S92))).bind fun y420 => (laws_markStepS.l0 k1 (y420.set (x5_1 : Int).toNat (⟨(rd_T92 y420 x5_1).f0,(rd_T92 y420 x5_1).f1,(rd_T92 y420 x5_1).f2,wrap64 ((wrap64 ((wrap64 (x1_1 + 1)) + 1)) + 1)⟩ : S92)) (wrap64 ((wrap64 ((wrap64 ((wrap64 (x1_1 + 1)) + 1)) + 1)) + 1)) (wrap64 (x5_1 + 1)))) = some (r1,r2):=by first|(rw [hy419];with_reducible exact H)|(have H2_:=(Option.bind_some _ _).symm.trans H;rw [hy419];with_reducible exact H2_)|(have H2_:=(Option.bind_some _ _).symm.trans H;with_reducible exact H2_)|with_reducible exact H|(rw [hy419];exact H)|exact H
     have Ny419:=Aside0.mk hy419
     clear hy419
     obtain ⟨y420,hy420⟩ : ∃ y_ : List (S92),y_ = (y419.set (x5_1 : Int).toNat (⟨(rd_T92 y419 x5_1).f0,(rd_T92 y419 x5_1).f1,wrap64 ((wrap64 (x1_1 + 1)) + 1),(rd_T92 y419 x5_1).f3⟩ : S92)):=⟨_,rfl⟩
     replace H : (laws_markStepS.l0 k1 (y420.set (x5_1 : Int).toNat (⟨(rd_T92 y420 x5_1).f0,(rd_T92 y420 x5_1).f1,(rd_T92 y420 x5_1).f2,wrap64 ((wrap64 ((wrap64 (x1_1 + 1)) + 1)) + 1)⟩ : S92)) (wrap64 ((wrap64 ((wrap64 ((wrap64 (x1_1 + 1)) + 1)) + 1)) + 1)) (wrap64 (x5_1 + 1))) = some (r1,r2):=by first|(rw [hy420];with_reducible exact H)|(have H2_:=(Option.bind_some _ _).symm.trans H;rw [hy420];with_reducible exact H2_)|(have H2_:=(Option.bind_some _ _).symm.trans H;with_reducible exact H2_)|with_reducible exact H|(rw [hy420];exact H)|exact H
     have Ny420:=Aside0.mk hy420
     clear hy420
     obtain ⟨y421,hy421⟩ : ∃ y_ : List (S92),y_ = (y420.set (x5_1 : Int).toNat (⟨(rd_T92 y420 x5_1).f0,(rd_T92 y420 x5_1).f1,(rd_T92 y420 x5_1).f2,wrap64 ((wrap64 ((wrap64 (x1_1 + 1)) + 1)) + 1)⟩ : S92)):=⟨_,rfl⟩
     replace H : (laws_markStepS.l0 k1 y421 (wrap64 ((wrap64 ((wrap64 ((wrap64 (x1_1 + 1)) + 1)) + 1)) + 1)) (wrap64 (x5_1 + 1))) = some (r1,r2):=by first|(rw [hy421];with_reducible exact H)|(have H2_:=(Option.bind_some _ _).symm.trans H;rw [hy421];with_reducible exact H2_)|(have H2_:=(Option.bind_some _ _).symm.trans H;with_reducible exact H2_)|with_reducible exact H|(rw [hy421];exact H)|exact H
     have Ny421:=Aside0.mk hy421
     clear hy421
     have H':=Aside0.mk H
     clear H
     obtain ⟨Ao10,co10,eo10⟩:=Kd.R_slice HO_0.out
     subst eo10
     have p5 : 0 ≤ (x5_1 : Int):=od_
     have q5 : (x5_1 : Int) < ((x0_1.length : Int) : Int):=od_
     obtain ⟨go5,co5,eo5,gb5,gl5,cl5,HG5⟩:=Kd.R_form HO_0.out (by omega)
     (first|cases eo5|(injection eo5 with ea_ en_ ec_;(first|subst ea_|(injection ea_ with ea_;subst ea_));subst ec_;clear en_))
     have GB5:=Aside0.mk gb5
     have GG5:=Aside0.mk HG5
     clear gb5 gl5 HG5
     have HMgo5:=Aside0.mk (show (P0_ go5 ∨ w.heap.size ≤ go5) from (HO_0.out.1 _ rfl))
     obtain ⟨ce5,hcl5,hM5,hcc5,hfr5⟩:=Kd.R_elem HO_0.out z92 (x5_1 : Int) p5 q5
     obtain rfl:=k92_openM hM5
     have hx5_0 : wr.cell? ⟨go5,(x5_1 : Int).toNat * 4,none⟩ = some (.int .i64 ((rd_T92 x0_1 x5_1).f0)):=hcc5 0 _ rfl
     have hx5_1 : wr.cell? ⟨go5,(x5_1 : Int).toNat * 4 + 1,none⟩ = some (.string ((rd_T92 x0_1 x5_1).f1)):=hcc5 1 _ rfl
     have hx5_2 : wr.cell? ⟨go5,(x5_1 : Int).toNat * 4 + 2,none⟩ = some (.int .i64 ((rd_T92 x0_1 x5_1).f2)):=hcc5 2 _ rfl
     have hx5_3 : wr.cell? ⟨go5,(x5_1 : Int).toNat * 4 + 3,none⟩ = some (.int .i64 ((rd_T92 x0_1 x5_1).f3)):=hcc5 3 _ rfl
     have hf5_0 : wr.frozen? ⟨go5,(x5_1 : Int).toNat * 4,none⟩ = false:=hfr5 0
     have hf5_1 : wr.frozen? ⟨go5,(x5_1 : Int).toNat * 4 + 1,none⟩ = false:=hfr5 1
     have hf5_2 : wr.frozen? ⟨go5,(x5_1 : Int).toNat * 4 + 2,none⟩ = false:=hfr5 2
     have hf5_3 : wr.frozen? ⟨go5,(x5_1 : Int).toNat * 4 + 3,none⟩ = false:=hfr5 3
     clear hcl5 hcc5 hfr5 hM5
     replace p5:=eq_true p5
     replace q5:=eq_true q5
     have HX11:=Aside0.mk (show Kd.R k92 92 wr w0.heap.size (fun k_ => (P0_ k_ ∨ w.heap.size ≤ k_)) (.slice (some ⟨go5,0,none⟩) x0_1.length co10) x0_1 from (pr_ HO_0.out))
     obtain ⟨ce11,hcl11,hM11,hcc11,hfr11⟩:=Kd.R_elem HX11.out z92 (x5_1 : Int) (od_) (by have h_ : (x5_1 : Int) < ((x0_1.length : Int) : Int):=od_;first|exact h_|(have e_:=(Kd.R_reads' HO_0.out).1;omega)|simpa using h_)
     obtain rfl:=k92_openM hM11
     have HP11:=Kd.R_seg HX11.out (x5_1 : Int) (od_) (by have h_ : (x5_1 : Int) < ((x0_1.length : Int) : Int):=od_;first|exact h_|(have e_:=(Kd.R_reads' HO_0.out).1;omega)|simpa using h_) (seg:=[.int .i64 x1_1]) (j:=0) hcl11 hcc11 (show 1 ≤ 4 from by decide) (x':=(⟨x1_1,(rd_T92 x0_1 x5_1).f1,(rd_T92 x0_1 x5_1).f2,(rd_T92 x0_1 x5_1).f3⟩ : S92)) (k92_mkM _ _ _ (⟨x1_1,(rd_T92 x0_1 x5_1).f1,(rd_T92 x0_1 x5_1).f2,(rd_T92 x0_1 x5_1).f3⟩ : S92) ) (fun _ hk => hk)
     have hx11_0:=hcc11 0 _ rfl
     (try simp only [show (k92).sz = 4 from rfl,Nat.mul_one,Nat.add_zero] at hx11_0)
     have hf11_0:=hfr11 0
     (try simp only [show (k92).sz = 4 from rfl,Nat.mul_one,Nat.add_zero] at hf11_0)
     clear hcl11 hcc11 hfr11 hM11
     go_wp2_with (first|((with_reducible refine gate_store (t:=3) (p:=16) rfl ?_);refine store_event (t:=3) (p:=16) (v:=?vo_w12) (w1:=(wr.setCell ⟨go5,(x5_1 : Int).toNat * 4,none⟩ (.int .i64 x1_1))) ?hg ?ho ?hn ?hr ?_;(case ho => rfl);(case hg => rfl);(case hn => rfl);(case hr => first|(go_simp;done)|(go_simp;rfl));intro w12 hw;have hg : wr.grownBy w12 (some go5):=(by rw [hw];exact HP11.2);have hp_ : Kd.R k92 92 w12 w0.heap.size (fun k_ => (P0_ k_ ∨ w.heap.size ≤ k_)) (.slice (some ⟨go5,0,none⟩) x0_1.length co10) y417:=(by rw [hw,Ny417.out];exact HP11.1);clear HP11;replace HB:=Aside0.mk ((by rw [hw];exact below_set (HB.out) GB5.out : Below w0.heap.size w0 w12));replace HK:=Aside0.mk (Kept.of_grown (S:=(fun k_ => P0_ k_)) hg (by repeat (first|(with_reducible first|exact HK.out|apply Kept.alloc|apply Kept.drewN|apply Kept.drew)|exact HK.out)) (fun k_ e_ => (HO_0.out.1 k_ e_)));replace HO_0:=Aside0.mk (hp_);clear hg hw hp_)|((with_reducible refine gate_callee (f:=99) rfl ?_);refine goesL_ (some 22) rfl rfl Try.func99 (by kernel_rfl) rfl #[.int .i64 (wrap64 (x1_1 + 1))] rfl lp_ ?_;(with_reducible refine (laws_markText.calls k1 (wrap64 (x1_1 + 1)) t418 _ A6.out).mono ?_);rintro e w13 ⟨rfl,hb⟩;refine ⟨_,rfl,?_⟩;replace HO_0:=Aside0.mk (Kd.R_below (pr_ HO_0.out) hb);replace HK:=Aside0.mk (Kept.below (S:=(fun k_ => P0_ k_)) (by repeat (first|(with_reducible first|exact HK.out|apply Kept.alloc|apply Kept.drewN|apply Kept.drew)|exact HK.out)) hb);replace HB:=hs0_ HB hb;(try clear hb);(try clear hb2);(try clear hk);(try clear hi);have p7 : 0 ≤ (x5_1 : Int):=od_;have q7 : (x5_1 : Int) < ((x0_1.length : Int) : Int):=od_;obtain ⟨ce7,hcl7,hM7,hcc7,hfr7⟩:=Kd.R_elem HO_0.out z92 (x5_1 : Int) p7 q7;obtain rfl:=k92_openM hM7;have hx7_0 : w13.cell? ⟨go5,(x5_1 : Int).toNat * 4,none⟩ = some (.int .i64 ((rd_T92 y417 x5_1).f0)):=hcc7 0 _ rfl;have hx7_1 : w13.cell? ⟨go5,(x5_1 : Int).toNat * 4 + 1,none⟩ = some (.string ((rd_T92 y417 x5_1).f1)):=hcc7 1 _ rfl;have hx7_2 : w13.cell? ⟨go5,(x5_1 : Int).toNat * 4 + 2,none⟩ = some (.int .i64 ((rd_T92 y417 x5_1).f2)):=hcc7 2 _ rfl;have hx7_3 : w13.cell? ⟨go5,(x5_1 : Int).toNat * 4 + 3,none⟩ = some (.int .i64 ((rd_T92 y417 x5_1).f3)):=hcc7 3 _ rfl;have hf7_0 : w13.frozen? ⟨go5,(x5_1 : Int).toNat * 4,none⟩ = false:=hfr7 0;have hf7_1 : w13.frozen? ⟨go5,(x5_1 : Int).toNat * 4 + 1,none⟩ = false:=hfr7 1;have hf7_2 : w13.frozen? ⟨go5,(x5_1 : Int).toNat * 4 + 2,none⟩ = false:=hfr7 2;have hf7_3 : w13.frozen? ⟨go5,(x5_1 : Int).toNat * 4 + 3,none⟩ = false:=hfr7 3;clear hcl7 hcc7 hfr7 hM7;replace p7:=eq_true p7;replace q7:=eq_true q7;have HX14:=Aside0.mk (show Kd.R k92 92 w13 w0.heap.size (fun k_ => (P0_ k_ ∨ w.heap.size ≤ k_)) (.slice (some ⟨go5,0,none⟩) x0_1.length co10) y417 from (pr_ HO_0.out));obtain ⟨ce14,hcl14,hM14,hcc14,hfr14⟩:=Kd.R_elem HX14.out z92 (x5_1 : Int) (od_) (by have h_ : (x5_1 : Int) < ((x0_1.length : Int) : Int):=od_;first|exact h_|(have e_:=(Kd.R_reads' HO_0.out).1;omega)|simpa using h_);obtain rfl:=k92_openM hM14;have HP14:=Kd.R_seg HX14.out (x5_1 : Int) (od_) (by have h_ : (x5_1 : Int) < ((x0_1.length : Int) : Int):=od_;first|exact h_|(have e_:=(Kd.R_reads' HO_0.out).1;omega)|simpa using h_) (seg:=[.string t418]) (j:=1) hcl14 hcc14 (show 2 ≤ 4 from by decide) (x':=(⟨(rd_T92 y417 x5_1).f0,t418,(rd_T92 y417 x5_1).f2,(rd_T92 y417 x5_1).f3⟩ : S92)) (k92_mkM _ _ _ (⟨(rd_T92 y417 x5_1).f0,t418,(rd_T92 y417 x5_1).f2,(rd_T92 y417 x5_1).f3⟩ : S92) ) (fun _ hk => hk);have hx14_1:=hcc14 1 _ rfl;(try simp only [show (k92).sz = 4 from rfl,Nat.mul_one,Nat.add_zero] at hx14_1);have hf14_1:=hfr14 1;(try simp only [show (k92).sz = 4 from rfl,Nat.mul_one,Nat.add_zero] at hf14_1);clear hcl14 hcc14 hfr14 hM14)|((with_reducible refine gate_store (t:=9) (p:=24) rfl ?_);refine store_event (t:=9) (p:=24) (v:=?vo_w15) (w1:=(w13.setCell ⟨go5,(x5_1 : Int).toNat * 4 + 1,none⟩ (.string t418))) ?hg ?ho ?hn ?hr ?_;(case ho => rfl);(case hg => rfl);(case hn => rfl);(case hr => first|(go_simp;done)|(go_simp;rfl));intro w15 hw;have hg : w13.grownBy w15 (some go5):=(by rw [hw];exact HP14.2);have hp_ : Kd.R k92 92 w15 w0.heap.size (fun k_ => (P0_ k_ ∨ w.heap.size ≤ k_)) (.slice (some ⟨go5,0,none⟩) x0_1.length co10) y419:=(by rw [hw,Ny419.out];exact HP14.1);clear HP14;replace HB:=Aside0.mk ((by rw [hw];exact below_set (HB.out) GB5.out : Below w0.heap.size w0 w15));replace HK:=Aside0.mk (Kept.of_grown (S:=(fun k_ => P0_ k_)) hg (by repeat (first|(with_reducible first|exact HK.out|apply Kept.alloc|apply Kept.drewN|apply Kept.drew)|exact HK.out)) (fun k_ e_ => (HO_0.out.1 k_ e_)));replace HO_0:=Aside0.mk (hp_);clear hg hw hp_;have p8 : 0 ≤ (x5_1 : Int):=od_;have q8 : (x5_1 : Int) < ((x0_1.length : Int) : Int):=od_;obtain ⟨ce8,hcl8,hM8,hcc8,hfr8⟩:=Kd.R_elem HO_0.out z92 (x5_1 : Int) p8 q8;obtain rfl:=k92_openM hM8;have hx8_0 : w15.cell? ⟨go5,(x5_1 : Int).toNat * 4,none⟩ = some (.int .i64 ((rd_T92 y419 x5_1).f0)):=hcc8 0 _ rfl;have hx8_1 : w15.cell? ⟨go5,(x5_1 : Int).toNat * 4 + 1,none⟩ = some (.string ((rd_T92 y419 x5_1).f1)):=hcc8 1 _ rfl;have hx8_2 : w15.cell? ⟨go5,(x5_1 : Int).toNat * 4 + 2,none⟩ = some (.int .i64 ((rd_T92 y419 x5_1).f2)):=hcc8 2 _ rfl;have hx8_3 : w15.cell? ⟨go5,(x5_1 : Int).toNat * 4 + 3,none⟩ = some (.int .i64 ((rd_T92 y419 x5_1).f3)):=hcc8 3 _ rfl;have hf8_0 : w15.frozen? ⟨go5,(x5_1 : Int).toNat * 4,none⟩ = false:=hfr8 0;have hf8_1 : w15.frozen? ⟨go5,(x5_1 : Int).toNat * 4 + 1,none⟩ = false:=hfr8 1;have hf8_2 : w15.frozen? ⟨go5,(x5_1 : Int).toNat * 4 + 2,none⟩ = false:=hfr8 2;have hf8_3 : w15.frozen? ⟨go5,(x5_1 : Int).toNat * 4 + 3,none⟩ = false:=hfr8 3;clear hcl8 hcc8 hfr8 hM8;replace p8:=eq_true p8;replace q8:=eq_true q8;have HX16:=Aside0.mk (show Kd.R k92 92 w15 w0.heap.size (fun k_ => (P0_ k_ ∨ w.heap.size ≤ k_)) (.slice (some ⟨go5,0,none⟩) x0_1.length co10) y419 from (pr_ HO_0.out));obtain ⟨ce16,hcl16,hM16,hcc16,hfr16⟩:=Kd.R_elem HX16.out z92 (x5_1 : Int) (od_) (by have h_ : (x5_1 : Int) < ((x0_1.length : Int) : Int):=od_;first|exact h_|(have e_:=(Kd.R_reads' HO_0.out).1;omega)|simpa using h_);obtain rfl:=k92_openM hM16;have HP16:=Kd.R_seg HX16.out (x5_1 : Int) (od_) (by have h_ : (x5_1 : Int) < ((x0_1.length : Int) : Int):=od_;first|exact h_|(have e_:=(Kd.R_reads' HO_0.out).1;omega)|simpa using h_) (seg:=[.int .i64 (wrap64 ((wrap64 (x1_1 + 1)) + 1))]) (j:=2) hcl16 hcc16 (show 3 ≤ 4 from by decide) (x':=(⟨(rd_T92 y419 x5_1).f0,(rd_T92 y419 x5_1).f1,wrap64 ((wrap64 (x1_1 + 1)) + 1),(rd_T92 y419 x5_1).f3⟩ : S92)) (k92_mkM _ _ _ (⟨(rd_T92 y419 x5_1).f0,(rd_T92 y419 x5_1).f1,wrap64 ((wrap64 (x1_1 + 1)) + 1),(rd_T92 y419 x5_1).f3⟩ : S92) ) (fun _ hk => hk);have hx16_2:=hcc16 2 _ rfl;(try simp only [show (k92).sz = 4 from rfl,Nat.mul_one,Nat.add_zero] at hx16_2);have hf16_2:=hfr16 2;(try simp only [show (k92).sz = 4 from rfl,Nat.mul_one,Nat.add_zero] at hf16_2);clear hcl16 hcc16 hfr16 hM16)|((with_reducible refine gate_store (t:=3) (p:=31) rfl ?_);refine store_event (t:=3) (p:=31) (v:=?vo_w17) (w1:=(w15.setCell ⟨go5,(x5_1 : Int).toNat * 4 + 2,none⟩ (.int .i64 (wrap64 ((wrap64 (x1_1 + 1)) + 1))))) ?hg ?ho ?hn ?hr ?_;(case ho => rfl);(case hg => rfl);(case hn => rfl);(case hr => first|(go_simp;done)|(go_simp;rfl));intro w17 hw;have hg : w15.grownBy w17 (some go5):=(by rw [hw];exact HP16.2);have hp_ : Kd.R k92 92 w17 w0.heap.size (fun k_ => (P0_ k_ ∨ w.heap.size ≤ k_)) (.slice (some ⟨go5,0,none⟩) x0_1.length co10) y420:=(by rw [hw,Ny420.out];exact HP16.1);clear HP16;replace HB:=Aside0.mk ((by rw [hw];exact below_set (HB.out) GB5.out : Below w0.heap.size w0 w17));replace HK:=Aside0.mk (Kept.of_grown (S:=(fun k_ => P0_ k_)) hg (by repeat (first|(with_reducible first|exact HK.out|apply Kept.alloc|apply Kept.drewN|apply Kept.drew)|exact HK.out)) (fun k_ e_ => (HO_0.out.1 k_ e_)));replace HO_0:=Aside0.mk (hp_);clear hg hw hp_;have p9 : 0 ≤ (x5_1 : Int):=od_;have q9 : (x5_1 : Int) < ((x0_1.length : Int) : Int):=od_;obtain ⟨ce9,hcl9,hM9,hcc9,hfr9⟩:=Kd.R_elem HO_0.out z92 (x5_1 : Int) p9 q9;obtain rfl:=k92_openM hM9;have hx9_0 : w17.cell? ⟨go5,(x5_1 : Int).toNat * 4,none⟩ = some (.int .i64 ((rd_T92 y420 x5_1).f0)):=hcc9 0 _ rfl;have hx9_1 : w17.cell? ⟨go5,(x5_1 : Int).toNat * 4 + 1,none⟩ = some (.string ((rd_T92 y420 x5_1).f1)):=hcc9 1 _ rfl;have hx9_2 : w17.cell? ⟨go5,(x5_1 : Int).toNat * 4 + 2,none⟩ = some (.int .i64 ((rd_T92 y420 x5_1).f2)):=hcc9 2 _ rfl;have hx9_3 : w17.cell? ⟨go5,(x5_1 : Int).toNat * 4 + 3,none⟩ = some (.int .i64 ((rd_T92 y420 x5_1).f3)):=hcc9 3 _ rfl;have hf9_0 : w17.frozen? ⟨go5,(x5_1 : Int).toNat * 4,none⟩ = false:=hfr9 0;have hf9_1 : w17.frozen? ⟨go5,(x5_1 : Int).toNat * 4 + 1,none⟩ = false:=hfr9 1;have hf9_2 : w17.frozen? ⟨go5,(x5_1 : Int).toNat * 4 + 2,none⟩ = false:=hfr9 2;have hf9_3 : w17.frozen? ⟨go5,(x5_1 : Int).toNat * 4 + 3,none⟩ = false:=hfr9 3;clear hcl9 hcc9 hfr9 hM9;replace p9:=eq_true p9;replace q9:=eq_true q9;have HX18:=Aside0.mk (show Kd.R k92 92 w17 w0.heap.size (fun k_ => (P0_ k_ ∨ w.heap.size ≤ k_)) (.slice (some ⟨go5,0,none⟩) x0_1.length co10) y420 from (pr_ HO_0.out));obtain ⟨ce18,hcl18,hM18,hcc18,hfr18⟩:=Kd.R_elem HX18.out z92 (x5_1 : Int) (od_) (by have h_ : (x5_1 : Int) < ((x0_1.length : Int) : Int):=od_;first|exact h_|(have e_:=(Kd.R_reads' HO_0.out).1;omega)|simpa using h_);obtain rfl:=k92_openM hM18;have HP18:=Kd.R_seg HX18.out (x5_1 : Int) (od_) (by have h_ : (x5_1 : Int) < ((x0_1.length : Int) : Int):=od_;first|exact h_|(have e_:=(Kd.R_reads' HO_0.out).1;omega)|simpa using h_) (seg:=[.int .i64 (wrap64 ((wrap64 ((wrap64 (x1_1 + 1)) + 1)) + 1))]) (j:=3) hcl18 hcc18 (show 4 ≤ 4 from by decide) (x':=(⟨(rd_T92 y420 x5_1).f0,(rd_T92 y420 x5_1).f1,(rd_T92 y420 x5_1).f2,wrap64 ((wrap64 ((wrap64 (x1_1 + 1)) + 1)) + 1)⟩ : S92)) (k92_mkM _ _ _ (⟨(rd_T92 y420 x5_1).f0,(rd_T92 y420 x5_1).f1,(rd_T92 y420 x5_1).f2,wrap64 ((wrap64 ((wrap64 (x1_1 + 1)) + 1)) + 1)⟩ : S92) ) (fun _ hk => hk);have hx18_3:=hcc18 3 _ rfl;(try simp only [show (k92).sz = 4 from rfl,Nat.mul_one,Nat.add_zero] at hx18_3);have hf18_3:=hfr18 3;(try simp only [show (k92).sz = 4 from rfl,Nat.mul_one,Nat.add_zero] at hf18_3);clear hcl18 hcc18 hfr18 hM18)|((with_reducible refine gate_store (t:=3) (p:=38) rfl ?_);refine store_event (t:=3) (p:=38) (v:=?vo_w19) (w1:=(w17.setCell ⟨go5,(x5_1 : Int).toNat * 4 + 3,none⟩ (.int .i64 (wrap64 ((wrap64 ((wrap64 (x1_1 + 1)) + 1)) + 1))))) ?hg ?ho ?hn ?hr ?_;(case ho => rfl);(case hg => rfl);(case hn => rfl);(case hr => first|(go_simp;done)|(go_simp;rfl));intro w19 hw;have hg : w17.grownBy w19 (some go5):=(by rw [hw];exact HP18.2);have hp_ : Kd.R k92 92 w19 w0.heap.size (fun k_ => (P0_ k_ ∨ w.heap.size ≤ k_)) (.slice (some ⟨go5,0,none⟩) x0_1.length co10) y421:=(by rw [hw,Ny421.out];exact HP18.1);clear HP18;replace HB:=Aside0.mk ((by rw [hw];exact below_set (HB.out) GB5.out : Below w0.heap.size w0 w19));replace HK:=Aside0.mk (Kept.of_grown (S:=(fun k_ => P0_ k_)) hg (by repeat (first|(with_reducible first|exact HK.out|apply Kept.alloc|apply Kept.drewN|apply Kept.drew)|exact HK.out)) (fun k_ e_ => (HO_0.out.1 k_ e_)));replace HO_0:=Aside0.mk (hp_);clear hg hw hp_))
     go_roundg k1
     case measure => have:=HK1.out;omega
     case rel => exact ⟨(y421),(wrap64 ((wrap64 ((wrap64 ((wrap64 (x1_1 + 1)) + 1)) + 1)) + 1)),(wrap64 (x5_1 + 1)),rs_,rs_,H',⟨by have:=HK1.out;omega⟩,⟨pr_ HO_0.out⟩,⟨by repeat (first|(with_reducible first|exact HK.out|apply Kept.alloc|apply Kept.drewN|apply Kept.drew)|exact HK.out)⟩,⟨be0_ HB.out⟩⟩
    ·rw [if_neg c4] at H
     exact absurd H (by simp)
   ·rw [if_neg c3] at H
    have c3b0 : decide (x5_1 < (x0_1.length : Int)) = false:=decide_eq_false c3
    clear c3
    simp only [Option.some.injEq,Prod.mk.injEq] at H
    obtain ⟨rfl,rfl⟩:=H
    obtain ⟨Ao20,co20,eo20⟩:=Kd.R_slice HO_0.out
    subst eo20
    go_wp2
    go_ret
    exact ⟨er_,pr_ HO_0.out,be0_ HB.out,by repeat (first|(with_reducible first|exact HK.out|apply Kept.alloc|apply Kept.drewN|apply Kept.drew)|exact HK.out)⟩
def laws_markAutomaton.f (k : Nat) (a0_0 : Int) (l0_1 : List Int) (l0_2 : List Int) (l0_3 : List (S92)) (a1 : Int) : Option (Int × List Int × List Int × (List (S92))):=(laws_markIntS.f k l0_1 a1).bind fun bt423 => ((laws_markIntS.f k l0_2 bt423.1).bind fun bt425 => ((laws_markStepS.f k l0_3 bt425.1).bind fun bt427 => (some (bt427.1,bt423.2,bt425.2,bt427.2))))
theorem laws_markAutomaton.mono : ∀ a0 a1 a2 a3 a4 k,LeO (laws_markAutomaton.f k a0 a1 a2 a3 a4) (laws_markAutomaton.f (k + 1) a0 a1 a2 a3 a4):=by
 intro a0 a1 a2 a3 a4 k
 unfold laws_markAutomaton.f
 repeat' first
   | (with_reducible exact laws_markIntS.mono _ _ _)
   | (with_reducible exact laws_markStepS.mono _ _ _)
   | (with_reducible first|exact LeO.refl _|exact LeO.none _|refine LeO.ite ?_ ?_|refine LeO.bind ?_ (fun _ => ?_))
   | exact laws_markIntS.mono _ _ _
   | exact laws_markStepS.mono _ _ _
   | exact LeO.none _
   | refine LeO.ite ?_ ?_
   | refine LeO.bind ?_ (fun _ => ?_)
set_option maxHeartbeats 8000000 in
set_option maxRecDepth 100000 in
theorem laws_markAutomaton.calls (k : Nat) (a0_0 : Int) (P0_1_ : Nat → Prop) (u9000_ : Value) (l0_1 : List Int) (P0_2_ : Nat → Prop) (u9001_ : Value) (l0_2 : List Int) (P0_3_ : Nat → Prop) (u9002_ : Value) (l0_3 : List (S92)) (a1 : Int) (r1 : Int) (r2 : List Int) (r3 : List Int) (r4 : List (S92)) (w0 w : World) (hB : Below w0.heap.size w0 w) (ho0_1 : Kd.R (Kd.int .i64) 3 w w0.heap.size P0_1_ u9000_ l0_1) (hp0_1_0_2 : ∀ k_,P0_1_ k_ → ¬ P0_2_ k_) (ho0_2 : Kd.R (Kd.int .i64) 3 w w0.heap.size P0_2_ u9001_ l0_2) (hp0_2_0_1 : ∀ k_,P0_2_ k_ → ¬ P0_1_ k_) (ho0_3 : Kd.R k92 92 w w0.heap.size P0_3_ u9002_ l0_3) (h : laws_markAutomaton.f k a0_0 l0_1 l0_2 l0_3 a1 = some (r1,r2,r3,r4)) :
  Calls Try.prog 24 #[.agg #[.int .i64 a0_0,u9000_,u9001_,u9002_],.int .i64 a1] w fun e w' => e = .returned (.int .i64 r1) ∧ Kd.R (Kd.int .i64) 3 w' w0.heap.size (fun k_ => ((P0_1_ k_ ∨ P0_2_ k_ ∨ P0_3_ k_) ∨ w.heap.size ≤ k_)) u9000_ r2 ∧ Kd.R (Kd.int .i64) 3 w' w0.heap.size (fun k_ => ((P0_1_ k_ ∨ P0_2_ k_ ∨ P0_3_ k_) ∨ w.heap.size ≤ k_)) u9001_ r3 ∧ Kd.R k92 92 w' w0.heap.size (fun k_ => ((P0_1_ k_ ∨ P0_2_ k_ ∨ P0_3_ k_) ∨ w.heap.size ≤ k_)) u9002_ r4 ∧ Below w0.heap.size w0 w' ∧ Kept w w' (fun k_ => P0_1_ k_ ∨ P0_2_ k_ ∨ P0_3_ k_):=by
 have hu33:=Try.underlying33
 have HO0_1:=Aside0.mk (show Kd.R (Kd.int .i64) 3 w w0.heap.size (fun k_ => ((P0_1_ k_ ∨ P0_2_ k_ ∨ P0_3_ k_) ∨ w.heap.size ≤ k_) ∧ some k_ ≠ (u9001_ : Value).ownBlock) u9000_ l0_1 from Kd.R_mono ho0_1 (fun k_ hk => ⟨(.inl (.inl hk)),fun e_ => hp0_1_0_2 k_ hk (ho0_2.1 k_ e_.symm)⟩))
 have HO0_2:=Aside0.mk (show Kd.R (Kd.int .i64) 3 w w0.heap.size (fun k_ => ((P0_1_ k_ ∨ P0_2_ k_ ∨ P0_3_ k_) ∨ w.heap.size ≤ k_) ∧ some k_ ≠ (u9000_ : Value).ownBlock) u9001_ l0_2 from Kd.R_mono ho0_2 (fun k_ hk => ⟨(.inl (.inr (.inl hk))),fun e_ => hp0_2_0_1 k_ hk (ho0_1.1 k_ e_.symm)⟩))
 have HO0_3:=Aside0.mk (show Kd.R k92 92 w w0.heap.size (fun k_ => ((P0_1_ k_ ∨ P0_2_ k_ ∨ P0_3_ k_) ∨ w.heap.size ≤ k_)) u9002_ l0_3 from Kd.R_mono ho0_3 (fun k_ hk => (.inl (.inr (.inr hk)))))
 have HK:=Aside0.mk (Kept.refl w (fun k_ => P0_1_ k_ ∨ P0_2_ k_ ∨ P0_3_ k_))
 have HW0:=Aside0.mk hB.size
 have HB:=Aside0.mk hB
 clear hB
 have H : ((laws_markIntS.f k l0_1 a1).bind fun bt423 => ((laws_markIntS.f k l0_2 bt423.1).bind fun bt425 => ((laws_markStepS.f k l0_3 bt425.1).bind fun bt427 => (some (bt427.1,bt423.2,bt425.2,bt427.2))))) = some (r1,r2,r3,r4):=h
 clear h
 replace H:=Option.bind_eq_some_iff.mp H
 obtain ⟨⟨t423,t424⟩,A30,H⟩:=H
 replace H : ((laws_markIntS.f k l0_2 t423).bind fun bt425 => ((laws_markStepS.f k l0_3 bt425.1).bind fun bt427 => (some (bt427.1,t424,bt425.2,bt427.2)))) = some (r1,r2,r3,r4):=H
 have A3:=Aside0.mk A30
 clear A30
 replace H:=Option.bind_eq_some_iff.mp H
 obtain ⟨⟨t425,t426⟩,A40,H⟩:=H
 replace H : ((laws_markStepS.f k l0_3 t425).bind fun bt427 => (some (bt427.1,t424,t426,bt427.2))) = some (r1,r2,r3,r4):=H
 have A4:=Aside0.mk A40
 clear A40
 replace H:=Option.bind_eq_some_iff.mp H
 obtain ⟨⟨t427,t428⟩,A50,H⟩:=H
 replace H : (some (t427,t424,t426,t428)) = some (r1,r2,r3,r4):=H
 have A5:=Aside0.mk A50
 clear A50
 simp only [Option.some.injEq,Prod.mk.injEq] at H
 obtain ⟨rfl,rfl,rfl,rfl⟩:=H
 obtain ⟨Ao6,co6,eo6⟩:=Kd.R_slice HO0_1.out
 subst eo6
 obtain ⟨Ao7,co7,eo7⟩:=Kd.R_slice HO0_2.out
 subst eo7
 obtain ⟨Ao8,co8,eo8⟩:=Kd.R_slice HO0_3.out
 subst eo8
 go_enter Try.func24,Try.ntmps24
 go_wp2_with (first|((with_reducible refine bev_ (N:=2) rfl rfl (cs:=#[.int .i64 a0_0,.slice Ao6 l0_1.length co6,.slice Ao7 l0_2.length co7,.slice Ao8 l0_3.length co8]) (t:=33) ?hr ?_);(case hr => first|(go_simp;done)|(go_simp;rfl));intro gb422 hg w9 hbox hb;replace HO0_1:=Aside0.mk (Kd.R_below (pr_ HO0_1.out) hb);replace HO0_2:=Aside0.mk (Kd.R_below (pr_ HO0_2.out) hb);replace HO0_3:=Aside0.mk (Kd.R_below (pr_ HO0_3.out) hb);have BK422:=Aside0.mk (hbox);have GW422:=Aside0.mk ((by rw [hg];exact (by first|exact HK.out.1|exact (show Kept w _ (fun k_ => P0_1_ k_ ∨ P0_2_ k_ ∨ P0_3_ k_) from by repeat (first|(with_reducible first|exact HK.out|apply Kept.alloc|apply Kept.drewN|apply Kept.drew)|exact HK.out)).1) : w.heap.size ≤ gb422));replace HK:=Aside0.mk (Kept.below (S:=(fun k_ => P0_1_ k_ ∨ P0_2_ k_ ∨ P0_3_ k_)) (by repeat (first|(with_reducible first|exact HK.out|apply Kept.alloc|apply Kept.drewN|apply Kept.drew)|exact HK.out)) hb);have GE422:=Aside0.mk ((by rw [hg];exact (below_size (be0_ HB.out)) : w0.heap.size ≤ gb422));replace HB:=hs0_ HB hb;clear hb hbox hg;obtain ⟨hcz10_0,hcz10_1,hcz10_2,hcz10_3,hfz10_0,hfz10_1,hfz10_2,hfz10_3⟩:=cf4_ BK422.out)|((with_reducible refine gate_callee (f:=30) rfl ?_);refine goesL_ (some 8) rfl rfl Try.func30 (by kernel_rfl) rfl #[.slice Ao6 l0_1.length co6,.int .i64 a1] rfl lp_ ?_;(with_reducible refine (laws_markIntS.calls k (fun k_ => some k_ = (.slice Ao6 l0_1.length co6 : Value).ownBlock) (.slice Ao6 l0_1.length co6) l0_1 a1 t423 t424 w0 _ ?side1 ?side2 A3.out).mono ?_);(case side1 => repeat (first|(with_reducible first|exact HB.out|apply below_alloc|apply pw_below_drewN|apply below_drew1|refine below_set ?_ GE422.out)|exact HB.out));(case side2 => exact Kd.R_tight rfl HO0_1.out);rintro e w11 ⟨rfl,hy0,hb,hkp⟩;refine ⟨_,rfl,?_⟩;replace HO0_2:=Aside0.mk (Kd.R_mono (ok':=fun k_ => ((P0_1_ k_ ∨ P0_2_ k_ ∨ P0_3_ k_) ∨ w.heap.size ≤ k_) ∧ some k_ ≠ (.slice Ao6 l0_1.length co6 : Value).ownBlock) (Kd.R_keptB (HO0_2.out) hkp (fun k_ hk_ hs_ => (hk_.2) hs_)) (fun k_ hk_ => ⟨hk_.1.1,hk_.1.2⟩));replace HO0_3:=Aside0.mk (Kd.R_mono (ok':=fun k_ => ((P0_1_ k_ ∨ P0_2_ k_ ∨ P0_3_ k_) ∨ w.heap.size ≤ k_)) (Kd.R_keptB ((Kd.R_apart' HO0_3.out (Kd.R_typed HO0_1.out) (by decide))) hkp (fun k_ hk_ hs_ => (hk_.2) hs_)) (fun k_ hk_ => hk_.1.1));replace BK422:=Aside0.mk (blk_kept (pe_ BK422.out) hkp (fun hs_ => (fun e_ => (Kd.R_ne HO0_1.out BK422.out (by decide)) e_) hs_));replace HK:=Aside0.mk (Kept.then_ (S:=(fun k_ => P0_1_ k_ ∨ P0_2_ k_ ∨ P0_3_ k_)) (by repeat (first|(with_reducible first|exact HK.out|apply Kept.alloc|apply Kept.drewN|apply Kept.drew|refine Kept.setCell ?_ (.inr GW422.out) _)|exact HK.out)) hkp (fun k_ hs_ => (fun e_ => (HO0_1.out.1 k_ e_.symm).1) hs_));replace HO0_1:=Aside0.mk (Kd.R_reok rfl hy0 (fun k_ e_ => HO0_1.out.1 k_ e_));replace HB:=Aside0.mk (hb);(try clear hb);(try clear hkp);(try clear hy0);obtain ⟨hcz12_0,hcz12_1,hcz12_2,hcz12_3,hfz12_0,hfz12_1,hfz12_2,hfz12_3⟩:=cf4_ BK422.out)|((with_reducible refine gate_callee (f:=30) rfl ?_);refine goesL_ (some 12) rfl rfl Try.func30 (by kernel_rfl) rfl #[.slice Ao7 l0_2.length co7,.int .i64 t423] rfl lp_ ?_;(with_reducible refine (laws_markIntS.calls k (fun k_ => some k_ = (.slice Ao7 l0_2.length co7 : Value).ownBlock) (.slice Ao7 l0_2.length co7) l0_2 t423 t425 t426 w0 _ ?side1 ?side2 A4.out).mono ?_);(case side1 => repeat (first|(with_reducible first|exact HB.out|apply below_alloc|apply pw_below_drewN|apply below_drew1|refine below_set ?_ GE422.out)|exact HB.out));(case side2 => exact Kd.R_tight rfl HO0_2.out);rintro e w13 ⟨rfl,hy0,hb,hkp⟩;refine ⟨_,rfl,?_⟩;replace HO0_1:=Aside0.mk (Kd.R_mono (ok':=fun k_ => ((P0_1_ k_ ∨ P0_2_ k_ ∨ P0_3_ k_) ∨ w.heap.size ≤ k_) ∧ some k_ ≠ (.slice Ao7 l0_2.length co7 : Value).ownBlock) (Kd.R_keptB (HO0_1.out) hkp (fun k_ hk_ hs_ => (hk_.2) hs_)) (fun k_ hk_ => ⟨hk_.1.1,hk_.1.2⟩));replace HO0_3:=Aside0.mk (Kd.R_mono (ok':=fun k_ => ((P0_1_ k_ ∨ P0_2_ k_ ∨ P0_3_ k_) ∨ w.heap.size ≤ k_)) (Kd.R_keptB ((Kd.R_apart' HO0_3.out (Kd.R_typed HO0_2.out) (by decide))) hkp (fun k_ hk_ hs_ => (hk_.2) hs_)) (fun k_ hk_ => hk_.1.1));replace BK422:=Aside0.mk (blk_kept (pe_ BK422.out) hkp (fun hs_ => (fun e_ => (Kd.R_ne HO0_2.out BK422.out (by decide)) e_) hs_));replace HK:=Aside0.mk (Kept.then_ (S:=(fun k_ => P0_1_ k_ ∨ P0_2_ k_ ∨ P0_3_ k_)) (by repeat (first|(with_reducible first|exact HK.out|apply Kept.alloc|apply Kept.drewN|apply Kept.drew|refine Kept.setCell ?_ (.inr GW422.out) _)|exact HK.out)) hkp (fun k_ hs_ => (fun e_ => (HO0_2.out.1 k_ e_.symm).1) hs_));replace HO0_2:=Aside0.mk (Kd.R_reok rfl hy0 (fun k_ e_ => HO0_2.out.1 k_ e_));replace HB:=Aside0.mk (hb);(try clear hb);(try clear hkp);(try clear hy0);obtain ⟨hcz14_0,hcz14_1,hcz14_2,hcz14_3,hfz14_0,hfz14_1,hfz14_2,hfz14_3⟩:=cf4_ BK422.out)|((with_reducible refine gate_callee (f:=82) rfl ?_);refine goesL_ (some 16) rfl rfl Try.func82 (by kernel_rfl) rfl #[.slice Ao8 l0_3.length co8,.int .i64 t425] rfl lp_ ?_;(with_reducible refine (laws_markStepS.calls k (fun k_ => some k_ = (.slice Ao8 l0_3.length co8 : Value).ownBlock) (.slice Ao8 l0_3.length co8) l0_3 t425 t427 t428 w0 _ ?side1 ?side2 A5.out).mono ?_);(case side1 => repeat (first|(with_reducible first|exact HB.out|apply below_alloc|apply pw_below_drewN|apply below_drew1|refine below_set ?_ GE422.out)|exact HB.out));(case side2 => exact Kd.R_tight rfl HO0_3.out);rintro e w15 ⟨rfl,hy0,hb,hkp⟩;refine ⟨_,rfl,?_⟩;replace HO0_1:=Aside0.mk (Kd.R_mono (ok':=fun k_ => ((P0_1_ k_ ∨ P0_2_ k_ ∨ P0_3_ k_) ∨ w.heap.size ≤ k_) ∧ some k_ ≠ (.slice Ao7 l0_2.length co7 : Value).ownBlock) (Kd.R_keptB ((Kd.R_apart' HO0_1.out (Kd.R_typed HO0_3.out) (by decide))) hkp (fun k_ hk_ hs_ => (hk_.2) hs_)) (fun k_ hk_ => ⟨hk_.1.1.1,hk_.1.1.2⟩));replace HO0_2:=Aside0.mk (Kd.R_mono (ok':=fun k_ => ((P0_1_ k_ ∨ P0_2_ k_ ∨ P0_3_ k_) ∨ w.heap.size ≤ k_) ∧ some k_ ≠ (.slice Ao6 l0_1.length co6 : Value).ownBlock) (Kd.R_keptB ((Kd.R_apart' HO0_2.out (Kd.R_typed HO0_3.out) (by decide))) hkp (fun k_ hk_ hs_ => (hk_.2) hs_)) (fun k_ hk_ => ⟨hk_.1.1.1,hk_.1.1.2⟩));replace BK422:=Aside0.mk (blk_kept (pe_ BK422.out) hkp (fun hs_ => (fun e_ => (Kd.R_ne HO0_3.out BK422.out (by decide)) e_) hs_));replace HK:=Aside0.mk (Kept.then_ (S:=(fun k_ => P0_1_ k_ ∨ P0_2_ k_ ∨ P0_3_ k_)) (by repeat (first|(with_reducible first|exact HK.out|apply Kept.alloc|apply Kept.drewN|apply Kept.drew|refine Kept.setCell ?_ (.inr GW422.out) _)|exact HK.out)) hkp (fun k_ hs_ => (fun e_ => (HO0_3.out.1 k_ e_.symm)) hs_));replace HO0_3:=Aside0.mk (Kd.R_reok rfl hy0 (fun k_ e_ => HO0_3.out.1 k_ e_));replace HB:=Aside0.mk (hb);(try clear hb);(try clear hkp);(try clear hy0)))
 go_ret
 exact ⟨er_,by refine pr_ ?_;exact Kd.R_mono HO0_1.out (fun _ hk => hk.1),by refine pr_ ?_;exact Kd.R_mono HO0_2.out (fun _ hk => hk.1),pr_ HO0_3.out,be1_ HB.out GE422.out,by repeat (first|(with_reducible first|exact HK.out|apply Kept.alloc|apply Kept.drewN|apply Kept.drew|refine Kept.setCell ?_ (.inr GW422.out) _)|exact HK.out)⟩
def laws_markMatrix.f (k : Nat) (a0_0 : Int) (l0_1 : List Int) (a1 : Int) : Option (Int × List Int):=(laws_markIntS.f k l0_1 a1).bind fun bt430 => (some (bt430.1,bt430.2))
theorem laws_markMatrix.mono : ∀ a0 a1 a2 k,LeO (laws_markMatrix.f k a0 a1 a2) (laws_markMatrix.f (k + 1) a0 a1 a2):=by
 intro a0 a1 a2 k
 unfold laws_markMatrix.f
 repeat' first
   | (with_reducible exact laws_markIntS.mono _ _ _)
   | (with_reducible first|exact LeO.refl _|exact LeO.none _|refine LeO.ite ?_ ?_|refine LeO.bind ?_ (fun _ => ?_))
   | exact laws_markIntS.mono _ _ _
   | exact LeO.none _
   | refine LeO.ite ?_ ?_
   | refine LeO.bind ?_ (fun _ => ?_)
set_option maxHeartbeats 8000000 in
set_option maxRecDepth 100000 in
theorem laws_markMatrix.calls (k : Nat) (a0_0 : Int) (P0_1_ : Nat → Prop) (u9000_ : Value) (l0_1 : List Int) (a1 : Int) (r1 : Int) (r2 : List Int) (w0 w : World) (hB : Below w0.heap.size w0 w) (ho0_1 : Kd.R (Kd.int .i64) 3 w w0.heap.size P0_1_ u9000_ l0_1) (h : laws_markMatrix.f k a0_0 l0_1 a1 = some (r1,r2)) :
  Calls Try.prog 25 #[.agg #[.int .i64 a0_0,u9000_],.int .i64 a1] w fun e w' => e = .returned (.int .i64 r1) ∧ Kd.R (Kd.int .i64) 3 w' w0.heap.size (fun k_ => (P0_1_ k_ ∨ w.heap.size ≤ k_)) u9000_ r2 ∧ Below w0.heap.size w0 w' ∧ Kept w w' (fun k_ => P0_1_ k_):=by
 have hu35:=Try.underlying35
 have HO0_1:=Aside0.mk (show Kd.R (Kd.int .i64) 3 w w0.heap.size (fun k_ => (P0_1_ k_ ∨ w.heap.size ≤ k_)) u9000_ l0_1 from Kd.R_mono ho0_1 (fun k_ hk => (.inl hk)))
 have HK:=Aside0.mk (Kept.refl w (fun k_ => P0_1_ k_))
 have HW0:=Aside0.mk hB.size
 have HB:=Aside0.mk hB
 clear hB
 have H : ((laws_markIntS.f k l0_1 a1).bind fun bt430 => (some (bt430.1,bt430.2))) = some (r1,r2):=h
 clear h
 replace H:=Option.bind_eq_some_iff.mp H
 obtain ⟨⟨t430,t431⟩,A30,H⟩:=H
 replace H : (some (t430,t431)) = some (r1,r2):=H
 have A3:=Aside0.mk A30
 clear A30
 simp only [Option.some.injEq,Prod.mk.injEq] at H
 obtain ⟨rfl,rfl⟩:=H
 obtain ⟨Ao4,co4,eo4⟩:=Kd.R_slice HO0_1.out
 subst eo4
 go_enter Try.func25,Try.ntmps25
 go_wp2_with (first|((with_reducible refine bev_ (N:=2) rfl rfl (cs:=#[.int .i64 a0_0,.slice Ao4 l0_1.length co4]) (t:=35) ?hr ?_);(case hr => first|(go_simp;done)|(go_simp;rfl));intro gb429 hg w5 hbox hb;replace HO0_1:=Aside0.mk (Kd.R_below (pr_ HO0_1.out) hb);have BK429:=Aside0.mk (hbox);have GW429:=Aside0.mk ((by rw [hg];exact (by first|exact HK.out.1|exact (show Kept w _ (fun k_ => P0_1_ k_) from by repeat (first|(with_reducible first|exact HK.out|apply Kept.alloc|apply Kept.drewN|apply Kept.drew)|exact HK.out)).1) : w.heap.size ≤ gb429));replace HK:=Aside0.mk (Kept.below (S:=(fun k_ => P0_1_ k_)) (by repeat (first|(with_reducible first|exact HK.out|apply Kept.alloc|apply Kept.drewN|apply Kept.drew)|exact HK.out)) hb);have GE429:=Aside0.mk ((by rw [hg];exact (below_size (be0_ HB.out)) : w0.heap.size ≤ gb429));replace HB:=hs0_ HB hb;clear hb hbox hg;obtain ⟨hcz6_0,hcz6_1,hfz6_0,hfz6_1⟩:=cf2_ BK429.out)|((with_reducible refine gate_callee (f:=30) rfl ?_);refine goesL_ (some 8) rfl rfl Try.func30 (by kernel_rfl) rfl #[.slice Ao4 l0_1.length co4,.int .i64 a1] rfl lp_ ?_;(with_reducible refine (laws_markIntS.calls k (fun k_ => some k_ = (.slice Ao4 l0_1.length co4 : Value).ownBlock) (.slice Ao4 l0_1.length co4) l0_1 a1 t430 t431 w0 _ ?side1 ?side2 A3.out).mono ?_);(case side1 => repeat (first|(with_reducible first|exact HB.out|apply below_alloc|apply pw_below_drewN|apply below_drew1|refine below_set ?_ GE429.out)|exact HB.out));(case side2 => exact Kd.R_tight rfl HO0_1.out);rintro e w7 ⟨rfl,hy0,hb,hkp⟩;refine ⟨_,rfl,?_⟩;replace BK429:=Aside0.mk (blk_kept (pe_ BK429.out) hkp (fun hs_ => (fun e_ => (Kd.R_ne HO0_1.out BK429.out (by decide)) e_) hs_));replace HK:=Aside0.mk (Kept.then_ (S:=(fun k_ => P0_1_ k_)) (by repeat (first|(with_reducible first|exact HK.out|apply Kept.alloc|apply Kept.drewN|apply Kept.drew|refine Kept.setCell ?_ (.inr GW429.out) _)|exact HK.out)) hkp (fun k_ hs_ => (fun e_ => (HO0_1.out.1 k_ e_.symm)) hs_));replace HO0_1:=Aside0.mk (Kd.R_reok rfl hy0 (fun k_ e_ => HO0_1.out.1 k_ e_));replace HB:=Aside0.mk (hb);(try clear hb);(try clear hkp);(try clear hy0)))
 go_ret
 exact ⟨er_,pr_ HO0_1.out,be1_ HB.out GE429.out,by repeat (first|(with_reducible first|exact HK.out|apply Kept.alloc|apply Kept.drewN|apply Kept.drew|refine Kept.setCell ?_ (.inr GW429.out) _)|exact HK.out)⟩
def laws_szIntS.f (l0 : List Int) (a1 : Int) : Option (Int):=if (wrap64 (a1 - (l0.length : Int))) < 0 then (some (-1)) else (some (wrap64 (a1 - (l0.length : Int))))
set_option maxHeartbeats 8000000 in
set_option maxRecDepth 100000 in
theorem laws_szIntS.calls (A0 : Option Addr) (c0 : Nat) (l0 : List Int) (a1 : Int) (r : Int) (w : World) (hr0 : Kd.C (Kd.int .i64) w A0 l0.length l0) (hc0 : l0.length ≤ c0) (h : laws_szIntS.f l0 a1 = some r) :
  Calls Try.prog 65 #[.slice A0 l0.length c0,.int .i64 a1] w fun e w' => e = .returned (.int .i64 r) ∧ Drawn0 w w':=by
 have HR0:=Aside0.mk hr0
 have HC0:=Aside0.mk hc0
 clear hr0 hc0
 have H : (if (wrap64 (a1 - (l0.length : Int))) < 0 then (some (-1)) else (some (wrap64 (a1 - (l0.length : Int))))) = some r:=h
 clear h
 by_cases c3 : (wrap64 (a1 - (l0.length : Int))) < 0
 ·rw [if_pos c3] at H
  have c3b0 : decide ((wrap64 (a1 - (l0.length : Int))) < 0) = true:=decide_eq_true c3
  clear c3
  obtain rfl:=Option.some.inj H
  go_enter Try.func65,Try.ntmps65
  go_wp2
  go_ret
  exact ⟨by first|rfl|(simp;done)|(simp [*];done),by repeat (first|exact Drawn0.refl _|apply Drawn0.step)⟩
 ·rw [if_neg c3] at H
  have c3b0 : decide ((wrap64 (a1 - (l0.length : Int))) < 0) = false:=decide_eq_false c3
  clear c3
  obtain rfl:=Option.some.inj H
  go_enter Try.func65,Try.ntmps65
  go_wp2
  go_ret
  exact ⟨by first|rfl|(simp;done)|(simp [*];done),by repeat (first|exact Drawn0.refl _|apply Drawn0.step)⟩
def laws_szStep.f (a0_0 : Int) (a0_1 : ByteArray) (a0_2 : Int) (a0_3 : Int) (a1 : Int) : Option (Int):=if (wrap64 (a1 - (a0_1.size : Int))) < 0 then (some (-1)) else (some (wrap64 (a1 - (a0_1.size : Int))))
set_option maxHeartbeats 8000000 in
set_option maxRecDepth 100000 in
theorem laws_szStep.calls (a0_0 : Int) (a0_1 : ByteArray) (a0_2 : Int) (a0_3 : Int) (a1 : Int) (r : Int) (w : World) (h : laws_szStep.f a0_0 a0_1 a0_2 a0_3 a1 = some r) :
  Calls Try.prog 118 #[.agg #[.int .i64 a0_0,.string a0_1,.int .i64 a0_2,.int .i64 a0_3],.int .i64 a1] w fun e w' => e = .returned (.int .i64 r) ∧ Below w.heap.size w w':=by
 have hu118:=Try.underlying118
 have HB:=Aside0.mk (Below.refl w.heap.size w)
 have H : (if (wrap64 (a1 - (a0_1.size : Int))) < 0 then (some (-1)) else (some (wrap64 (a1 - (a0_1.size : Int))))) = some r:=h
 clear h
 by_cases c3 : (wrap64 (a1 - (a0_1.size : Int))) < 0
 ·rw [if_pos c3] at H
  have c3b0 : decide ((wrap64 (a1 - (a0_1.size : Int))) < 0) = true:=decide_eq_true c3
  clear c3
  obtain rfl:=Option.some.inj H
  go_enter Try.func118,Try.ntmps118
  go_wp2_with (first|((with_reducible refine bev_ (N:=2) rfl rfl (cs:=#[.int .i64 a0_0,.string a0_1,.int .i64 a0_2,.int .i64 a0_3]) (t:=118) ?hr ?_);(case hr => first|(go_simp;done)|(go_simp;rfl));intro gb101 hg w4 hbox hb;have BK101:=Aside0.mk (hbox);have GW101:=gw0_ hg HB;have GE101:=GW101;replace HB:=hs0_ HB hb;clear hb hbox hg;obtain ⟨hcz5_0,hcz5_1,hcz5_2,hcz5_3,hfz5_0,hfz5_1,hfz5_2,hfz5_3⟩:=cf4_ BK101.out))
  go_ret
  exact ⟨er_,be1_ HB.out GE101.out⟩
 ·rw [if_neg c3] at H
  have c3b0 : decide ((wrap64 (a1 - (a0_1.size : Int))) < 0) = false:=decide_eq_false c3
  clear c3
  obtain rfl:=Option.some.inj H
  go_enter Try.func118,Try.ntmps118
  go_wp2_with (first|((with_reducible refine bev_ (N:=2) rfl rfl (cs:=#[.int .i64 a0_0,.string a0_1,.int .i64 a0_2,.int .i64 a0_3]) (t:=118) ?hr ?_);(case hr => first|(go_simp;done)|(go_simp;rfl));intro gb101 hg w6 hbox hb;have BK101:=Aside0.mk (hbox);have GW101:=gw0_ hg HB;have GE101:=GW101;replace HB:=hs0_ HB hb;clear hb hbox hg;obtain ⟨hcz7_0,hcz7_1,hcz7_2,hcz7_3,hfz7_0,hfz7_1,hfz7_2,hfz7_3⟩:=cf4_ BK101.out))
  go_ret
  exact ⟨er_,be1_ HB.out GE101.out⟩
def laws_szStepS.l0 : Nat → List (S118) → Int → Int → Option (Int)
 | 0,_,_,_ => none
 | k + 1,x0,x1,x5 => if x5 < (x0.length : Int) then (if 0 ≤ x5 then ((laws_szStep.f ((rd_T118 x0 x5).f0) ((rd_T118 x0 x5).f1) ((rd_T118 x0 x5).f2) ((rd_T118 x0 x5).f3) x1).bind fun t103 => (if t103 < 0 then (some (-1)) else (laws_szStepS.l0 k x0 t103 (wrap64 (x5 + 1))))) else (none)) else (some x1)
def laws_szStepS.f (k : Nat) (l0 : List (S118)) (a1 : Int) : Option (Int):=if (wrap64 (a1 - (l0.length : Int))) < 0 then (some (-1)) else (laws_szStepS.l0 k l0 (wrap64 (a1 - (l0.length : Int))) 0)
theorem laws_szStepS.mono_l : ∀ k,(∀ y0 y1 y2,LeO (laws_szStepS.l0 k y0 y1 y2) (laws_szStepS.l0 (k + 1) y0 y1 y2))
 | 0 => fun _ _ _ r h => by simp [laws_szStepS.l0] at h
 | k + 1 => by
  have ih0:=laws_szStepS.mono_l k
  ·intro y0 y1 y2
   unfold laws_szStepS.l0
   repeat' first
   | (with_reducible exact ih0 _ _ _)
   | (with_reducible first|exact LeO.refl _|exact LeO.none _|refine LeO.ite ?_ ?_|refine LeO.bind ?_ (fun _ => ?_))
   | exact ih0 _ _ _
   | exact LeO.none _
   | refine LeO.ite ?_ ?_
   | refine LeO.bind ?_ (fun _ => ?_)
theorem laws_szStepS.mono : ∀ a0 a1 k,LeO (laws_szStepS.f k a0 a1) (laws_szStepS.f (k + 1) a0 a1):=by
 intro a0 a1 k
 have ih0:=laws_szStepS.mono_l k
 unfold laws_szStepS.f
 repeat' first
   | (with_reducible exact ih0 _ _ _)
   | (with_reducible first|exact LeO.refl _|exact LeO.none _|refine LeO.ite ?_ ?_|refine LeO.bind ?_ (fun _ => ?_))
   | exact ih0 _ _ _
   | exact LeO.none _
   | refine LeO.ite ?_ ?_
   | refine LeO.bind ?_ (fun _ => ?_)
set_option maxHeartbeats 8000000 in
set_option maxRecDepth 100000 in
theorem laws_szStepS.calls (k : Nat) (A0 : Option Addr) (c0 : Nat) (l0 : List (S118)) (a1 : Int) (r : Int) (w : World) (hr0 : Kd.C k118 w A0 l0.length l0) (hc0 : l0.length ≤ c0) (h : laws_szStepS.f k l0 a1 = some r) :
  Calls Try.prog 66 #[.slice A0 l0.length c0,.int .i64 a1] w fun e w' => e = .returned (.int .i64 r) ∧ Below w.heap.size w w':=by
 have hu118:=Try.underlying118
 have HR0:=Aside0.mk hr0
 have HC0:=Aside0.mk hc0
 clear hr0 hc0
 have HB:=Aside0.mk (Below.refl w.heap.size w)
 have H : (if (wrap64 (a1 - (l0.length : Int))) < 0 then (some (-1)) else (laws_szStepS.l0 k l0 (wrap64 (a1 - (l0.length : Int))) 0)) = some r:=h
 clear h
 by_cases c3 : (wrap64 (a1 - (l0.length : Int))) < 0
 ·rw [if_pos c3] at H
  have c3b0 : decide ((wrap64 (a1 - (l0.length : Int))) < 0) = true:=decide_eq_true c3
  clear c3
  obtain rfl:=Option.some.inj H
  go_enter Try.func66,Try.ntmps66
  go_wp2
  go_ret
  exact ⟨er_,be0_ HB.out⟩
 ·rw [if_neg c3] at H
  have c3b0 : decide ((wrap64 (a1 - (l0.length : Int))) < 0) = false:=decide_eq_false c3
  clear c3
  have H':=Aside0.mk H
  clear H
  go_enter Try.func66,Try.ntmps66
  go_wp2
  go_loopg [1,5] k (fun kq v1 v5 w' => ∃ (x1_1 : Int) (x5_1 : Int),v1 = .int .i64 x1_1 ∧ v5 = .int .i64 x5_1 ∧ Aside0 (laws_szStepS.l0 kq l0 x1_1 x5_1 = some r) ∧ Aside0 (kq ≤ k) ∧ Aside0 (Below w.heap.size w w'))
  case atStart => exact ⟨(wrap64 (a1 - (l0.length : Int))),(0),rs_,rs_,H',⟨Nat.le_refl _⟩,⟨be0_ HB.out⟩⟩
  case round =>
   clear H'
   obtain ⟨x1_1,x5_1,rfl,rfl,HA,HK1,HB⟩:=hrel
   cases gk with
   | zero => exact absurd HA.out (by simp [laws_szStepS.l0])
   | succ k1 =>
    have H:=HA.out
    clear HA
    simp only [laws_szStepS.l0] at H
    by_cases c4 : x5_1 < (l0.length : Int)
    ·rw [if_pos c4] at H
     have c4b0 : decide (x5_1 < (l0.length : Int)) = true:=decide_eq_true c4
     clear c4
     by_cases c5 : 0 ≤ x5_1
     ·rw [if_pos c5] at H
      have c5b0 : decide (0 ≤ x5_1) = true:=decide_eq_true c5
      clear c5
      replace H:=Option.bind_eq_some_iff.mp H
      obtain ⟨t103,A60,H⟩:=H
      replace H : (if t103 < 0 then (some (-1)) else (laws_szStepS.l0 k1 l0 t103 (wrap64 (x5_1 + 1)))) = some r:=H
      have A6:=Aside0.mk A60
      clear A60
      by_cases c7 : t103 < 0
      ·rw [if_pos c7] at H
       have c7b0 : decide (t103 < 0) = true:=decide_eq_true c7
       clear c7
       obtain rfl:=Option.some.inj H
       have p102 : 0 ≤ (x5_1 : Int):=od_
       have q102 : x5_1 < (l0.length : Int):=od_
       obtain ⟨ad102,e102,hx102_0,hx102_1,hx102_2,hx102_3⟩:=at_T118 HR0.out x5_1 p102 q102
       cases e102
       replace hx102_0:=hbc_ HB.out hx102_0
       replace hx102_1:=hbc_ HB.out hx102_1
       replace hx102_2:=hbc_ HB.out hx102_2
       replace hx102_3:=hbc_ HB.out hx102_3
       replace p102:=eq_true p102
       replace q102:=eq_true q102
       go_wp2_with (first|((with_reducible refine gate_callee (f:=118) rfl ?_);refine goesL_ (some 23) rfl rfl Try.func118 (by kernel_rfl) rfl #[.agg #[.int .i64 ((rd_T118 l0 x5_1).f0),.string ((rd_T118 l0 x5_1).f1),.int .i64 ((rd_T118 l0 x5_1).f2),.int .i64 ((rd_T118 l0 x5_1).f3)],.int .i64 x1_1] rfl lp_ ?_;(with_reducible refine (laws_szStep.calls ((rd_T118 l0 x5_1).f0) ((rd_T118 l0 x5_1).f1) ((rd_T118 l0 x5_1).f2) ((rd_T118 l0 x5_1).f3) x1_1 t103 _ A6.out).mono ?_);rintro e w8 ⟨rfl,hb⟩;refine ⟨_,rfl,?_⟩;replace HB:=hs0_ HB hb;(try clear hb);(try clear hb2);(try clear hk);(try clear hi)))
       go_ret
       exact ⟨er_,be0_ HB.out⟩
      ·rw [if_neg c7] at H
       have c7b0 : decide (t103 < 0) = false:=decide_eq_false c7
       clear c7
       have H':=Aside0.mk H
       clear H
       have p102 : 0 ≤ (x5_1 : Int):=od_
       have q102 : x5_1 < (l0.length : Int):=od_
       obtain ⟨ad102,e102,hx102_0,hx102_1,hx102_2,hx102_3⟩:=at_T118 HR0.out x5_1 p102 q102
       cases e102
       replace hx102_0:=hbc_ HB.out hx102_0
       replace hx102_1:=hbc_ HB.out hx102_1
       replace hx102_2:=hbc_ HB.out hx102_2
       replace hx102_3:=hbc_ HB.out hx102_3
       replace p102:=eq_true p102
       replace q102:=eq_true q102
       go_wp2_with (first|((with_reducible refine gate_callee (f:=118) rfl ?_);refine goesL_ (some 23) rfl rfl Try.func118 (by kernel_rfl) rfl #[.agg #[.int .i64 ((rd_T118 l0 x5_1).f0),.string ((rd_T118 l0 x5_1).f1),.int .i64 ((rd_T118 l0 x5_1).f2),.int .i64 ((rd_T118 l0 x5_1).f3)],.int .i64 x1_1] rfl lp_ ?_;(with_reducible refine (laws_szStep.calls ((rd_T118 l0 x5_1).f0) ((rd_T118 l0 x5_1).f1) ((rd_T118 l0 x5_1).f2) ((rd_T118 l0 x5_1).f3) x1_1 t103 _ A6.out).mono ?_);rintro e w9 ⟨rfl,hb⟩;refine ⟨_,rfl,?_⟩;replace HB:=hs0_ HB hb;(try clear hb);(try clear hb2);(try clear hk);(try clear hi)))
       go_roundg k1
       case measure => have:=HK1.out;omega
       case rel => exact ⟨(t103),(wrap64 (x5_1 + 1)),rs_,rs_,H',⟨by have:=HK1.out;omega⟩,⟨be0_ HB.out⟩⟩
     ·rw [if_neg c5] at H
      exact absurd H (by simp)
    ·rw [if_neg c4] at H
     have c4b0 : decide (x5_1 < (l0.length : Int)) = false:=decide_eq_false c4
     clear c4
     obtain rfl:=Option.some.inj H
     go_wp2
     go_ret
     exact ⟨er_,be0_ HB.out⟩
def laws_szAutomaton.f (k : Nat) (a0_0 : Int) (l0_1 : List Int) (l0_2 : List Int) (l0_3 : List (S118)) (a1 : Int) : Option (Int):=(laws_szIntS.f l0_1 a1).bind fun t105 => (if t105 < 0 then (some (-1)) else ((laws_szIntS.f l0_2 t105).bind fun t106 => (if t106 < 0 then (some (-1)) else ((laws_szStepS.f k l0_3 t106).bind fun t107 => (if t107 < 0 then (some (-1)) else (some t107))))))
theorem laws_szAutomaton.mono : ∀ a0 a1 a2 a3 a4 k,LeO (laws_szAutomaton.f k a0 a1 a2 a3 a4) (laws_szAutomaton.f (k + 1) a0 a1 a2 a3 a4):=by
 intro a0 a1 a2 a3 a4 k
 unfold laws_szAutomaton.f
 repeat' first
   | (with_reducible exact laws_szStepS.mono _ _ _)
   | (with_reducible first|exact LeO.refl _|exact LeO.none _|refine LeO.ite ?_ ?_|refine LeO.bind ?_ (fun _ => ?_))
   | exact laws_szStepS.mono _ _ _
   | exact LeO.none _
   | refine LeO.ite ?_ ?_
   | refine LeO.bind ?_ (fun _ => ?_)
set_option maxHeartbeats 8000000 in
set_option maxRecDepth 100000 in
theorem laws_szAutomaton.calls (k : Nat) (a0_0 : Int) (A0_1 : Option Addr) (c0_1 : Nat) (l0_1 : List Int) (A0_2 : Option Addr) (c0_2 : Nat) (l0_2 : List Int) (A0_3 : Option Addr) (c0_3 : Nat) (l0_3 : List (S118)) (a1 : Int) (r : Int) (w : World) (hr0_1 : Kd.C (Kd.int .i64) w A0_1 l0_1.length l0_1) (hc0_1 : l0_1.length ≤ c0_1) (hr0_2 : Kd.C (Kd.int .i64) w A0_2 l0_2.length l0_2) (hc0_2 : l0_2.length ≤ c0_2) (hr0_3 : Kd.C k118 w A0_3 l0_3.length l0_3) (hc0_3 : l0_3.length ≤ c0_3) (h : laws_szAutomaton.f k a0_0 l0_1 l0_2 l0_3 a1 = some r) :
  Calls Try.prog 14 #[.agg #[.int .i64 a0_0,.slice A0_1 l0_1.length c0_1,.slice A0_2 l0_2.length c0_2,.slice A0_3 l0_3.length c0_3],.int .i64 a1] w fun e w' => e = .returned (.int .i64 r) ∧ Below w.heap.size w w':=by
 have hu25:=Try.underlying25
 have HR0_1:=Aside0.mk hr0_1
 have HC0_1:=Aside0.mk hc0_1
 clear hr0_1 hc0_1
 have HR0_2:=Aside0.mk hr0_2
 have HC0_2:=Aside0.mk hc0_2
 clear hr0_2 hc0_2
 have HR0_3:=Aside0.mk hr0_3
 have HC0_3:=Aside0.mk hc0_3
 clear hr0_3 hc0_3
 have HB:=Aside0.mk (Below.refl w.heap.size w)
 have H : ((laws_szIntS.f l0_1 a1).bind fun t105 => (if t105 < 0 then (some (-1)) else ((laws_szIntS.f l0_2 t105).bind fun t106 => (if t106 < 0 then (some (-1)) else ((laws_szStepS.f k l0_3 t106).bind fun t107 => (if t107 < 0 then (some (-1)) else (some t107))))))) = some r:=h
 clear h
 replace H:=Option.bind_eq_some_iff.mp H
 obtain ⟨t105,A30,H⟩:=H
 replace H : (if t105 < 0 then (some (-1)) else ((laws_szIntS.f l0_2 t105).bind fun t106 => (if t106 < 0 then (some (-1)) else ((laws_szStepS.f k l0_3 t106).bind fun t107 => (if t107 < 0 then (some (-1)) else (some t107)))))) = some r:=H
 have A3:=Aside0.mk A30
 clear A30
 by_cases c4 : t105 < 0
 ·rw [if_pos c4] at H
  have c4b0 : decide (t105 < 0) = true:=decide_eq_true c4
  clear c4
  obtain rfl:=Option.some.inj H
  go_enter Try.func14,Try.ntmps14
  go_wp2_with (first|((with_reducible refine bev_ (N:=2) rfl rfl (cs:=#[.int .i64 a0_0,.slice A0_1 l0_1.length c0_1,.slice A0_2 l0_2.length c0_2,.slice A0_3 l0_3.length c0_3]) (t:=25) ?hr ?_);(case hr => first|(go_simp;done)|(go_simp;rfl));intro gb104 hg w5 hbox hb;have BK104:=Aside0.mk (hbox);have GW104:=gw0_ hg HB;have GE104:=GW104;replace HB:=hs0_ HB hb;clear hb hbox hg;obtain ⟨hcz6_0,hcz6_1,hcz6_2,hcz6_3,hfz6_0,hfz6_1,hfz6_2,hfz6_3⟩:=cf4_ BK104.out)|((with_reducible refine gate_callee (f:=65) rfl ?_);refine goesL_ (some 8) rfl rfl Try.func65 (by kernel_rfl) rfl #[.slice A0_1 l0_1.length c0_1,.int .i64 a1] rfl lp_ ?_;(with_reducible refine (laws_szIntS.calls _ _ l0_1 a1 t105 _ ?side1 ?side2 A3.out).mono ?_);(case side1 => exact cr_ (Kd.C_below HR0_1.out HB.out));(case side2 => exact HC0_1.out);rintro e w' ⟨rfl,⟨nd,rfl⟩⟩;refine ⟨_,rfl,?_⟩))
  go_ret
  exact ⟨er_,be1_ HB.out GE104.out⟩
 ·rw [if_neg c4] at H
  have c4b0 : decide (t105 < 0) = false:=decide_eq_false c4
  clear c4
  replace H:=Option.bind_eq_some_iff.mp H
  obtain ⟨t106,A70,H⟩:=H
  replace H : (if t106 < 0 then (some (-1)) else ((laws_szStepS.f k l0_3 t106).bind fun t107 => (if t107 < 0 then (some (-1)) else (some t107)))) = some r:=H
  have A7:=Aside0.mk A70
  clear A70
  by_cases c8 : t106 < 0
  ·rw [if_pos c8] at H
   have c8b0 : decide (t106 < 0) = true:=decide_eq_true c8
   clear c8
   obtain rfl:=Option.some.inj H
   go_enter Try.func14,Try.ntmps14
   go_wp2_with (first|((with_reducible refine bev_ (N:=2) rfl rfl (cs:=#[.int .i64 a0_0,.slice A0_1 l0_1.length c0_1,.slice A0_2 l0_2.length c0_2,.slice A0_3 l0_3.length c0_3]) (t:=25) ?hr ?_);(case hr => first|(go_simp;done)|(go_simp;rfl));intro gb104 hg w9 hbox hb;have BK104:=Aside0.mk (hbox);have GW104:=gw0_ hg HB;have GE104:=GW104;replace HB:=hs0_ HB hb;clear hb hbox hg;obtain ⟨hcz10_0,hcz10_1,hcz10_2,hcz10_3,hfz10_0,hfz10_1,hfz10_2,hfz10_3⟩:=cf4_ BK104.out)|((with_reducible refine gate_callee (f:=65) rfl ?_);refine goesL_ (some 8) rfl rfl Try.func65 (by kernel_rfl) rfl #[.slice A0_1 l0_1.length c0_1,.int .i64 a1] rfl lp_ ?_;(with_reducible refine (laws_szIntS.calls _ _ l0_1 a1 t105 _ ?side1 ?side2 A3.out).mono ?_);(case side1 => exact cr_ (Kd.C_below HR0_1.out HB.out));(case side2 => exact HC0_1.out);rintro e w' ⟨rfl,⟨nd,rfl⟩⟩;refine ⟨_,rfl,?_⟩)|((with_reducible refine gate_callee (f:=65) rfl ?_);refine goesL_ (some 14) rfl rfl Try.func65 (by kernel_rfl) rfl #[.slice A0_2 l0_2.length c0_2,.int .i64 t105] rfl lp_ ?_;(with_reducible refine (laws_szIntS.calls _ _ l0_2 t105 t106 _ ?side1 ?side2 A7.out).mono ?_);(case side1 => exact cr_ (Kd.C_below HR0_2.out (be1_ HB.out GE104.out)));(case side2 => exact HC0_2.out);rintro e w' ⟨rfl,⟨nd,rfl⟩⟩;refine ⟨_,rfl,?_⟩))
   go_ret
   exact ⟨er_,be1_ HB.out GE104.out⟩
  ·rw [if_neg c8] at H
   have c8b0 : decide (t106 < 0) = false:=decide_eq_false c8
   clear c8
   replace H:=Option.bind_eq_some_iff.mp H
   obtain ⟨t107,A110,H⟩:=H
   replace H : (if t107 < 0 then (some (-1)) else (some t107)) = some r:=H
   have A11:=Aside0.mk A110
   clear A110
   by_cases c12 : t107 < 0
   ·rw [if_pos c12] at H
    have c12b0 : decide (t107 < 0) = true:=decide_eq_true c12
    clear c12
    obtain rfl:=Option.some.inj H
    go_enter Try.func14,Try.ntmps14
    go_wp2_with (first|((with_reducible refine bev_ (N:=2) rfl rfl (cs:=#[.int .i64 a0_0,.slice A0_1 l0_1.length c0_1,.slice A0_2 l0_2.length c0_2,.slice A0_3 l0_3.length c0_3]) (t:=25) ?hr ?_);(case hr => first|(go_simp;done)|(go_simp;rfl));intro gb104 hg w13 hbox hb;have BK104:=Aside0.mk (hbox);have GW104:=gw0_ hg HB;have GE104:=GW104;replace HB:=hs0_ HB hb;clear hb hbox hg;obtain ⟨hcz14_0,hcz14_1,hcz14_2,hcz14_3,hfz14_0,hfz14_1,hfz14_2,hfz14_3⟩:=cf4_ BK104.out)|((with_reducible refine gate_callee (f:=65) rfl ?_);refine goesL_ (some 8) rfl rfl Try.func65 (by kernel_rfl) rfl #[.slice A0_1 l0_1.length c0_1,.int .i64 a1] rfl lp_ ?_;(with_reducible refine (laws_szIntS.calls _ _ l0_1 a1 t105 _ ?side1 ?side2 A3.out).mono ?_);(case side1 => exact cr_ (Kd.C_below HR0_1.out HB.out));(case side2 => exact HC0_1.out);rintro e w' ⟨rfl,⟨nd,rfl⟩⟩;refine ⟨_,rfl,?_⟩)|((with_reducible refine gate_callee (f:=65) rfl ?_);refine goesL_ (some 14) rfl rfl Try.func65 (by kernel_rfl) rfl #[.slice A0_2 l0_2.length c0_2,.int .i64 t105] rfl lp_ ?_;(with_reducible refine (laws_szIntS.calls _ _ l0_2 t105 t106 _ ?side1 ?side2 A7.out).mono ?_);(case side1 => exact cr_ (Kd.C_below HR0_2.out (be1_ HB.out GE104.out)));(case side2 => exact HC0_2.out);rintro e w' ⟨rfl,⟨nd,rfl⟩⟩;refine ⟨_,rfl,?_⟩)|((with_reducible refine gate_callee (f:=66) rfl ?_);refine goesL_ (some 20) rfl rfl Try.func66 (by kernel_rfl) rfl #[.slice A0_3 l0_3.length c0_3,.int .i64 t106] rfl lp_ ?_;(with_reducible refine (laws_szStepS.calls k _ _ l0_3 t106 t107 _ ?side1 ?side2 A11.out).mono ?_);(case side1 => exact cr_ (Kd.C_below HR0_3.out (be1_ HB.out GE104.out)));(case side2 => exact HC0_3.out);rintro e w15 ⟨rfl,hb⟩;refine ⟨_,rfl,?_⟩;replace BK104:=kc_ BK104 hb;replace HB:=hs1_ HB GE104 hb;(try clear hb);(try clear hb2);(try clear hk);(try clear hi)))
    go_ret
    exact ⟨er_,be1_ HB.out GE104.out⟩
   ·rw [if_neg c12] at H
    have c12b0 : decide (t107 < 0) = false:=decide_eq_false c12
    clear c12
    obtain rfl:=Option.some.inj H
    go_enter Try.func14,Try.ntmps14
    go_wp2_with (first|((with_reducible refine bev_ (N:=2) rfl rfl (cs:=#[.int .i64 a0_0,.slice A0_1 l0_1.length c0_1,.slice A0_2 l0_2.length c0_2,.slice A0_3 l0_3.length c0_3]) (t:=25) ?hr ?_);(case hr => first|(go_simp;done)|(go_simp;rfl));intro gb104 hg w16 hbox hb;have BK104:=Aside0.mk (hbox);have GW104:=gw0_ hg HB;have GE104:=GW104;replace HB:=hs0_ HB hb;clear hb hbox hg;obtain ⟨hcz17_0,hcz17_1,hcz17_2,hcz17_3,hfz17_0,hfz17_1,hfz17_2,hfz17_3⟩:=cf4_ BK104.out)|((with_reducible refine gate_callee (f:=65) rfl ?_);refine goesL_ (some 8) rfl rfl Try.func65 (by kernel_rfl) rfl #[.slice A0_1 l0_1.length c0_1,.int .i64 a1] rfl lp_ ?_;(with_reducible refine (laws_szIntS.calls _ _ l0_1 a1 t105 _ ?side1 ?side2 A3.out).mono ?_);(case side1 => exact cr_ (Kd.C_below HR0_1.out HB.out));(case side2 => exact HC0_1.out);rintro e w' ⟨rfl,⟨nd,rfl⟩⟩;refine ⟨_,rfl,?_⟩)|((with_reducible refine gate_callee (f:=65) rfl ?_);refine goesL_ (some 14) rfl rfl Try.func65 (by kernel_rfl) rfl #[.slice A0_2 l0_2.length c0_2,.int .i64 t105] rfl lp_ ?_;(with_reducible refine (laws_szIntS.calls _ _ l0_2 t105 t106 _ ?side1 ?side2 A7.out).mono ?_);(case side1 => exact cr_ (Kd.C_below HR0_2.out (be1_ HB.out GE104.out)));(case side2 => exact HC0_2.out);rintro e w' ⟨rfl,⟨nd,rfl⟩⟩;refine ⟨_,rfl,?_⟩)|((with_reducible refine gate_callee (f:=66) rfl ?_);refine goesL_ (some 20) rfl rfl Try.func66 (by kernel_rfl) rfl #[.slice A0_3 l0_3.length c0_3,.int .i64 t106] rfl lp_ ?_;(with_reducible refine (laws_szStepS.calls k _ _ l0_3 t106 t107 _ ?side1 ?side2 A11.out).mono ?_);(case side1 => exact cr_ (Kd.C_below HR0_3.out (be1_ HB.out GE104.out)));(case side2 => exact HC0_3.out);rintro e w18 ⟨rfl,hb⟩;refine ⟨_,rfl,?_⟩;replace BK104:=kc_ BK104 hb;replace HB:=hs1_ HB GE104 hb;(try clear hb);(try clear hb2);(try clear hk);(try clear hi)))
    go_ret
    exact ⟨er_,be1_ HB.out GE104.out⟩
def laws_toIntS.l0 : Nat → List Int → List Int → Int → Option (List Int)
 | 0,_,_,_ => none
 | k + 1,x0,x3,x4 => if x4 < (x0.length : Int) then (if 0 ≤ x4 then (if x4 < (x3.length : Int) then (laws_toIntS.l0 k x0 (x3.set (x4 : Int).toNat (rd x0 x4)) (wrap64 (x4 + 1))) else (none)) else (none)) else (some x3)
def laws_toIntS.f (k : Nat) (l0 : List Int) : Option (List Int):=if 0 ≤ (l0.length : Int) then (if ((l0.length : Int) : Int).toNat ≤ 35184372088832 then (laws_toIntS.l0 k l0 (List.replicate ((l0.length : Int) : Int).toNat 0) 0) else (none)) else (none)
theorem laws_toIntS.mono_l : ∀ k,(∀ y0 y1 y2,LeO (laws_toIntS.l0 k y0 y1 y2) (laws_toIntS.l0 (k + 1) y0 y1 y2))
 | 0 => fun _ _ _ r h => by simp [laws_toIntS.l0] at h
 | k + 1 => by
  have ih0:=laws_toIntS.mono_l k
  ·intro y0 y1 y2
   unfold laws_toIntS.l0
   repeat' first
   | (with_reducible exact ih0 _ _ _)
   | (with_reducible first|exact LeO.refl _|exact LeO.none _|refine LeO.ite ?_ ?_|refine LeO.bind ?_ (fun _ => ?_))
   | exact ih0 _ _ _
   | exact LeO.none _
   | refine LeO.ite ?_ ?_
   | refine LeO.bind ?_ (fun _ => ?_)
theorem laws_toIntS.mono : ∀ a0 k,LeO (laws_toIntS.f k a0) (laws_toIntS.f (k + 1) a0):=by
 intro a0 k
 have ih0:=laws_toIntS.mono_l k
 unfold laws_toIntS.f
 repeat' first
   | (with_reducible exact ih0 _ _ _)
   | (with_reducible first|exact LeO.refl _|exact LeO.none _|refine LeO.ite ?_ ?_|refine LeO.bind ?_ (fun _ => ?_))
   | exact ih0 _ _ _
   | exact LeO.none _
   | refine LeO.ite ?_ ?_
   | refine LeO.bind ?_ (fun _ => ?_)
set_option maxHeartbeats 8000000 in
set_option maxRecDepth 100000 in
theorem laws_toIntS.calls (k : Nat) (A0 : Option Addr) (c0 : Nat) (l0 : List Int) (r : List Int) (w : World) (hr0 : Kd.C (Kd.int .i64) w A0 l0.length l0) (hc0 : l0.length ≤ c0) (h : laws_toIntS.f k l0 = some r) :
  Calls Try.prog 70 #[.slice A0 l0.length c0] w fun e w' => ∃ v0_ : Value,e = .returned (v0_) ∧ Kd.R (Kd.int .i64) 3 w' w.heap.size (fun _ => True) v0_ r ∧ Below w.heap.size w w':=by
 have HR0:=Aside0.mk hr0
 have HC0:=Aside0.mk hc0
 clear hr0 hc0
 have HB:=Aside0.mk (Below.refl w.heap.size w)
 have H : (if 0 ≤ (l0.length : Int) then (if ((l0.length : Int) : Int).toNat ≤ 35184372088832 then (laws_toIntS.l0 k l0 (List.replicate ((l0.length : Int) : Int).toNat 0) 0) else (none)) else (none)) = some r:=h
 clear h
 by_cases c2 : 0 ≤ (l0.length : Int)
 ·rw [if_pos c2] at H
  have c2b0:=eq_true c2
  have c2b1 : decide (0 ≤ (l0.length : Int)) = true:=decide_eq_true c2
  clear c2
  by_cases c3 : ((l0.length : Int) : Int).toNat ≤ 35184372088832
  ·rw [if_pos c3] at H
   have c3b0:=eq_true c3
   have c3b1 : decide (((l0.length : Int) : Int).toNat ≤ 35184372088832) = true:=decide_eq_true c3
   clear c3
   obtain ⟨y148,hy148⟩ : ∃ y_ : List Int,y_ = (List.replicate ((l0.length : Int) : Int).toNat 0):=⟨_,rfl⟩
   replace H : (laws_toIntS.l0 k l0 y148 0) = some r:=by first|(rw [hy148];with_reducible exact H)|(have H2_:=(Option.bind_some _ _).symm.trans H;rw [hy148];with_reducible exact H2_)|(have H2_:=(Option.bind_some _ _).symm.trans H;with_reducible exact H2_)|with_reducible exact H|(rw [hy148];exact H)|exact H
   have Ny148:=Aside0.mk hy148
   clear hy148
   have H':=Aside0.mk H
   clear H
   go_enter Try.func70,Try.ntmps70
   go_wp2_with (first|((with_reducible refine gate_dst (N:=7) rfl ?_);refine Kd.R_make (Kd.int .i64) _ 3 rfl (N:=7) rfl 22 _ _ rfl (l0.length : Int) rfl rfl Try.underlying22 (.int .i64 0) 8 info3 rfl (by decide) (by omega) 0 (ok:=fun _ => True) (okp:=fun _ => True) rfl (fun _ hk => hk) trivial (od_) (Nat.le_trans (Nat.mul_le_mul_right _ (od_ : (l0.length : Int).toNat ≤ 35184372088832)) (by omega)) (Below.refl _ _) (Nat.le_refl _) ?_;intro v149 w4 ho5 hb hg_ hnew_;clear hg_ hnew_;(first|rw [← Ny148.out] at ho5|(simp only [Int.reduceToNat] at ho5;rw [← Ny148.out] at ho5));have HO150:=Aside0.mk (Kd.R_lower ho5 (below_size (be0_ HB.out)));replace HB:=hs0_ HB hb;clear hb ho5))
   go_loopg [4] k (fun kq v4 w' => ∃ (x3_1 : List Int) (x4_1 : Int),v4 = .int .i64 x4_1 ∧ Aside0 (laws_toIntS.l0 kq l0 x3_1 x4_1 = some r) ∧ Aside0 (kq ≤ k) ∧ Aside0 (Kd.R (Kd.int .i64) 3 w' w.heap.size (fun _ => True) v149 x3_1) ∧ Aside0 (Below w.heap.size w w'))
   case atStart => exact ⟨(y148),(0),rs_,H',⟨Nat.le_refl _⟩,⟨pr_ HO150.out⟩,⟨be0_ HB.out⟩⟩
   case round =>
    clear H'
    obtain ⟨x3_1,x4_1,rfl,HA,HK1,HO_3,HB⟩:=hrel
    cases gk with
    | zero => exact absurd HA.out (by simp [laws_toIntS.l0])
    | succ k1 =>
     have H:=HA.out
     clear HA
     simp only [laws_toIntS.l0] at H
     by_cases c6 : x4_1 < (l0.length : Int)
     ·rw [if_pos c6] at H
      have c6b0 : decide (x4_1 < (l0.length : Int)) = true:=decide_eq_true c6
      clear c6
      by_cases c7 : 0 ≤ x4_1
      ·rw [if_pos c7] at H
       have c7b0 : decide (0 ≤ x4_1) = true:=decide_eq_true c7
       clear c7
       by_cases c8 : x4_1 < (x3_1.length : Int)
       ·rw [if_pos c8] at H
        have c8b0 : decide (x4_1 < (x3_1.length : Int)) = true:=decide_eq_true c8
        clear c8
        obtain ⟨y152,hy152⟩ : ∃ y_ : List Int,y_ = (x3_1.set (x4_1 : Int).toNat (rd l0 x4_1)):=⟨_,rfl⟩
        replace H : (laws_toIntS.l0 k1 l0 y152 (wrap64 (x4_1 + 1))) = some r:=by first|(rw [hy152];with_reducible exact H)|(have H2_:=(Option.bind_some _ _).symm.trans H;rw [hy152];with_reducible exact H2_)|(have H2_:=(Option.bind_some _ _).symm.trans H;with_reducible exact H2_)|with_reducible exact H|(rw [hy152];exact H)|exact H
        have Ny152:=Aside0.mk hy152
        clear hy152
        have H':=Aside0.mk H
        clear H
        have p151 : 0 ≤ (x4_1 : Int):=od_
        have q151 : x4_1 < (l0.length : Int):=od_
        obtain ⟨ad151,e151,hx151_0⟩:=Kd.at_int HR0.out x4_1 p151 q151
        cases e151
        replace hx151_0:=hbc_ HB.out hx151_0
        replace p151:=eq_true p151
        replace q151:=eq_true q151
        have p9 : 0 ≤ (x4_1 : Int):=od_
        have q9 : (x4_1 : Int) < ((x3_1.length : Int) : Int):=od_
        obtain ⟨go9,co9,eo9,gb9,gl9,cl9,HG9⟩:=Kd.R_form HO_3.out (by omega)
        (first|cases eo9|(injection eo9 with ea_ en_ ec_;(first|subst ea_|(injection ea_ with ea_;subst ea_));subst ec_;clear en_))
        have GB9:=Aside0.mk gb9
        have GG9:=Aside0.mk HG9
        clear gb9 gl9 HG9
        obtain ⟨hx9_0,hf9_0⟩:=Kd.R_celln 0 HO_3.out (x4_1 : Int) p9 q9
        replace p9:=eq_true p9
        replace q9:=eq_true q9
        have HP10:=Kd.R_putg HO_3.out (x4_1 : Int) (rd l0 x4_1)
        go_wp2_with (first|((with_reducible refine gate_store (t:=3) (p:=20) rfl ?_);refine store_event (t:=3) (p:=20) (v:=?vo_w11) (w1:=(wr.setCell ⟨go9,(x4_1 : Int).toNat,none⟩ (.int .i64 (rd l0 x4_1)))) ?hg ?ho ?hn ?hr ?_;(case ho => rfl);(case hg => rfl);(case hn => rfl);(case hr => first|(go_simp;done)|(go_simp;rfl));intro w11 hw;have hg : wr.grownBy w11 (some go9):=(by rw [hw];exact HP10.2);have hp_ : Kd.R (Kd.int .i64) 3 w11 w.heap.size (fun _ => True) (.slice (some ⟨go9,0,none⟩) x3_1.length co9) y152:=(by rw [hw,Ny152.out];exact HP10.1);clear HP10;replace HO_3:=Aside0.mk (hp_);replace HB:=Aside0.mk ((by rw [hw];exact below_set (HB.out) GB9.out : Below w.heap.size w w11));clear hg hw hp_))
        go_roundg k1
        case measure => have:=HK1.out;omega
        case rel => exact ⟨(y152),(wrap64 (x4_1 + 1)),rs_,H',⟨by have:=HK1.out;omega⟩,⟨pr_ HO_3.out⟩,⟨be0_ HB.out⟩⟩
       ·rw [if_neg c8] at H
        exact absurd H (by simp)
      ·rw [if_neg c7] at H
       exact absurd H (by simp)
     ·rw [if_neg c6] at H
      have c6b0 : decide (x4_1 < (l0.length : Int)) = false:=decide_eq_false c6
      clear c6
      obtain rfl:=Option.some.inj H
      go_wp2
      go_ret
      exact ⟨_,er_,pr_ HO_3.out,be0_ HB.out⟩
  ·rw [if_neg c3] at H
   exact absurd H (by simp)
 ·rw [if_neg c2] at H
  exact absurd H (by simp)
def laws_toStep.f (a0_0 : Int) (a0_1 : ByteArray) (a0_2 : Int) (a0_3 : Int) : Option (Int × ByteArray × Int × Int):=some (a0_0,a0_1,a0_2,a0_3)
set_option maxHeartbeats 8000000 in
set_option maxRecDepth 100000 in
theorem laws_toStep.calls (a0_0 : Int) (a0_1 : ByteArray) (a0_2 : Int) (a0_3 : Int) (r1 : Int) (r2 : ByteArray) (r3 : Int) (r4 : Int) (w : World) (h : laws_toStep.f a0_0 a0_1 a0_2 a0_3 = some (r1,r2,r3,r4)) :
  Calls Try.prog 123 #[.agg #[.int .i64 a0_0,.string a0_1,.int .i64 a0_2,.int .i64 a0_3]] w fun e w' => e = .returned (.agg #[.int .i64 r1,.string r2,.int .i64 r3,.int .i64 r4]) ∧ Below w.heap.size w w':=by
 have hu118:=Try.underlying118
 have hu92:=Try.underlying92
 have HB:=Aside0.mk (Below.refl w.heap.size w)
 have H : (some (a0_0,a0_1,a0_2,a0_3)) = some (r1,r2,r3,r4):=h
 clear h
 simp only [Option.some.injEq,Prod.mk.injEq] at H
 obtain ⟨rfl,rfl,rfl,rfl⟩:=H
 go_enter Try.func123,Try.ntmps123
 go_wp2_with (first|((with_reducible refine bev_ (N:=1) rfl rfl (cs:=#[.int .i64 a0_0,.string a0_1,.int .i64 a0_2,.int .i64 a0_3]) (t:=118) ?hr ?_);(case hr => first|(go_simp;done)|(go_simp;rfl));intro gb153 hg w2 hbox hb;have BK153:=Aside0.mk (hbox);have GW153:=gw0_ hg HB;have GE153:=GW153;replace HB:=hs0_ HB hb;clear hb hbox hg)|((with_reducible refine bev_ (N:=2) rfl rfl (cs:=#[.int .i64 0,.string (⟨#[]⟩ : ByteArray),.int .i64 0,.int .i64 0]) (t:=92) ?hr ?_);(case hr => first|(go_simp;done)|(go_simp;rfl));intro gb154 hg w3 hbox hb;have BK154:=Aside0.mk (hbox);have GW154:=gw1_ hg HB GE153;have GE154:=GW154;replace HB:=hs1_ HB GE153 hb;have NB153_154:=nm_ hg BK153;have NB154_153:=nn_ hg BK153;replace BK153:=kc_ BK153 hb;clear hb hbox hg)|((with_reducible refine bev_ (N:=3) rfl rfl (cs:=#[.int .i64 0,.string (⟨#[]⟩ : ByteArray),.int .i64 0,.int .i64 0]) (t:=92) ?hr ?_);(case hr => first|(go_simp;done)|(go_simp;rfl));intro gb155 hg w4 hbox hb;have BK155:=Aside0.mk (hbox);have GW155:=gw2_ hg HB GE153 GE154;have GE155:=GW155;replace HB:=hs2_ HB GE153 GE154 hb;have NB153_155:=nm_ hg BK153;have NB155_153:=nn_ hg BK153;replace BK153:=kc_ BK153 hb;have NB154_155:=nm_ hg BK154;have NB155_154:=nn_ hg BK154;replace BK154:=kc_ BK154 hb;clear hb hbox hg;have hnb5:=NB153_154.out;have hnc5:=NB154_153.out;have hnb6:=NB153_155.out;have hnc6:=NB155_153.out;obtain ⟨hcz7_0,hcz7_1,hcz7_2,hcz7_3,hfz7_0,hfz7_1,hfz7_2,hfz7_3⟩:=cf4_ BK153.out;have hnb8:=NB155_154.out;have hnc8:=NB154_155.out;obtain ⟨hcz9_0,hcz9_1,hcz9_2,hcz9_3,hfz9_0,hfz9_1,hfz9_2,hfz9_3⟩:=cf4_ BK155.out;obtain ⟨hcz10_0,hcz10_1,hcz10_2,hcz10_3,hfz10_0,hfz10_1,hfz10_2,hfz10_3⟩:=cf4_ BK154.out))
 refine bodyPost_ret (results_cell_row rfl _ _ gb154 92 #[.int .i64 a0_0,.string a0_1,.int .i64 a0_2,.int .i64 a0_3] (0,0) _ rfl (by refine pe_ ?_;refine blk_put (cs:=#[.int .i64 a0_0,.string a0_1,.int .i64 a0_2,.int .i64 0]) ?_ 3 _ rfl;refine pe_ ?_;refine blk_put (cs:=#[.int .i64 a0_0,.string a0_1,.int .i64 0,.int .i64 0]) ?_ 2 _ rfl;refine pe_ ?_;refine blk_put (cs:=#[.int .i64 a0_0,.string (⟨#[]⟩ : ByteArray),.int .i64 0,.int .i64 0]) ?_ 1 _ rfl;refine pe_ ?_;refine blk_put (cs:=#[.int .i64 0,.string (⟨#[]⟩ : ByteArray),.int .i64 0,.int .i64 0]) ?_ 0 _ rfl;refine pe_ ?_;refine blk_far ?_ NB154_155.out _;refine pe_ ?_;refine blk_far ?_ NB154_155.out _;refine pe_ ?_;refine blk_far ?_ NB154_155.out _;refine pe_ ?_;refine blk_far ?_ NB154_155.out _;refine pe_ ?_;exact BK154.out) Try.underlying92 rfl (by kernel_rfl)) rfl ?_
 exact ⟨er_,be3_ HB.out GE153.out GE154.out GE155.out⟩
def laws_toStepS.l0 : Nat → List (S118) → List (S92) → Int → Option ((List (S92)))
 | 0,_,_,_ => none
 | k + 1,x0,x3,x4 => if x4 < (x0.length : Int) then (if 0 ≤ x4 then ((laws_toStep.f ((rd_T118 x0 x4).f0) ((rd_T118 x0 x4).f1) ((rd_T118 x0 x4).f2) ((rd_T118 x0 x4).f3)).bind fun bt160 => (if x4 < (x3.length : Int) then (laws_toStepS.l0 k x0 (x3.set (x4 : Int).toNat (⟨bt160.1,bt160.2.1,bt160.2.2.1,bt160.2.2.2⟩ : S92)) (wrap64 (x4 + 1))) else (none))) else (none)) else (some x3)
def laws_toStepS.f (k : Nat) (l0 : List (S118)) : Option ((List (S92))):=if 0 ≤ (l0.length : Int) then (if ((l0.length : Int) : Int).toNat ≤ 7036874417766 then (laws_toStepS.l0 k l0 (List.replicate ((l0.length : Int) : Int).toNat z92) 0) else (none)) else (none)
theorem laws_toStepS.mono_l : ∀ k,(∀ y0 y1 y2,LeO (laws_toStepS.l0 k y0 y1 y2) (laws_toStepS.l0 (k + 1) y0 y1 y2))
 | 0 => fun _ _ _ r h => by simp [laws_toStepS.l0] at h
 | k + 1 => by
  have ih0:=laws_toStepS.mono_l k
  ·intro y0 y1 y2
   unfold laws_toStepS.l0
   repeat' first
   | (with_reducible exact ih0 _ _ _)
   | (with_reducible first|exact LeO.refl _|exact LeO.none _|refine LeO.ite ?_ ?_|refine LeO.bind ?_ (fun _ => ?_))
   | exact ih0 _ _ _
   | exact LeO.none _
   | refine LeO.ite ?_ ?_
   | refine LeO.bind ?_ (fun _ => ?_)
theorem laws_toStepS.mono : ∀ a0 k,LeO (laws_toStepS.f k a0) (laws_toStepS.f (k + 1) a0):=by
 intro a0 k
 have ih0:=laws_toStepS.mono_l k
 unfold laws_toStepS.f
 repeat' first
   | (with_reducible exact ih0 _ _ _)
   | (with_reducible first|exact LeO.refl _|exact LeO.none _|refine LeO.ite ?_ ?_|refine LeO.bind ?_ (fun _ => ?_))
   | exact ih0 _ _ _
   | exact LeO.none _
   | refine LeO.ite ?_ ?_
   | refine LeO.bind ?_ (fun _ => ?_)
set_option maxHeartbeats 8000000 in
set_option maxRecDepth 100000 in
theorem laws_toStepS.calls (k : Nat) (A0 : Option Addr) (c0 : Nat) (l0 : List (S118)) (r : List (S92)) (w : World) (hr0 : Kd.C k118 w A0 l0.length l0) (hc0 : l0.length ≤ c0) (h : laws_toStepS.f k l0 = some r) :
  Calls Try.prog 71 #[.slice A0 l0.length c0] w fun e w' => ∃ v0_ : Value,e = .returned (v0_) ∧ Kd.R k92 92 w' w.heap.size (fun _ => True) v0_ r ∧ Below w.heap.size w w':=by
 have hu118:=Try.underlying118
 have hu92:=Try.underlying92
 have HR0:=Aside0.mk hr0
 have HC0:=Aside0.mk hc0
 clear hr0 hc0
 have HB:=Aside0.mk (Below.refl w.heap.size w)
 have H : (if 0 ≤ (l0.length : Int) then (if ((l0.length : Int) : Int).toNat ≤ 7036874417766 then (laws_toStepS.l0 k l0 (List.replicate ((l0.length : Int) : Int).toNat z92) 0) else (none)) else (none)) = some r:=h
 clear h
 by_cases c2 : 0 ≤ (l0.length : Int)
 ·rw [if_pos c2] at H
  have c2b0:=eq_true c2
  have c2b1 : decide (0 ≤ (l0.length : Int)) = true:=decide_eq_true c2
  clear c2
  by_cases c3 : ((l0.length : Int) : Int).toNat ≤ 7036874417766
  ·rw [if_pos c3] at H
   have c3b0:=eq_true c3
   have c3b1 : decide (((l0.length : Int) : Int).toNat ≤ 7036874417766) = true:=decide_eq_true c3
   clear c3
   obtain ⟨y156,hy156⟩ : ∃ y_ : List (S92),y_ = (List.replicate ((l0.length : Int) : Int).toNat z92):=⟨_,rfl⟩
   replace H : (laws_toStepS.l0 k l0 y156 0) = some r:=by first|(rw [hy156];with_reducible exact H)|(have H2_:=(Option.bind_some _ _).symm.trans H;rw [hy156];with_reducible exact H2_)|(have H2_:=(Option.bind_some _ _).symm.trans H;with_reducible exact H2_)|with_reducible exact H|(rw [hy156];exact H)|exact H
   have Ny156:=Aside0.mk hy156
   clear hy156
   have H':=Aside0.mk H
   clear H
   go_enter Try.func71,Try.ntmps71
   go_wp2_with (first|((with_reducible refine gate_dst (N:=7) rfl ?_);refine Kd.R_make k92 _ 92 rfl (N:=7) rfl 31 _ _ rfl (l0.length : Int) rfl rfl Try.underlying31 (.agg #[(.int .i64 0),(.string ⟨#[]⟩),(.int .i64 0),(.int .i64 0)]) 40 info92 rfl (by decide) (by omega) z92 (ok:=fun _ => True) (okp:=fun _ => True) (k92_mkM _ _ _ z92 ) (fun _ hk => hk) trivial (od_) (Nat.le_trans (Nat.mul_le_mul_right _ (od_ : (l0.length : Int).toNat ≤ 7036874417766)) (by omega)) (Below.refl _ _) (Nat.le_refl _) ?_;intro v157 w4 ho5 hb hg_ hnew_;clear hg_ hnew_;(first|rw [← Ny156.out] at ho5|(simp only [Int.reduceToNat] at ho5;rw [← Ny156.out] at ho5));have HO158:=Aside0.mk (Kd.R_lower ho5 (below_size (be0_ HB.out)));replace HB:=hs0_ HB hb;clear hb ho5))
   go_loopg [4] k (fun kq v4 w' => ∃ (x3_1 : List (S92)) (x4_1 : Int),v4 = .int .i64 x4_1 ∧ Aside0 (laws_toStepS.l0 kq l0 x3_1 x4_1 = some r) ∧ Aside0 (kq ≤ k) ∧ Aside0 (Kd.R k92 92 w' w.heap.size (fun _ => True) v157 x3_1) ∧ Aside0 (Below w.heap.size w w'))
   case atStart => exact ⟨(y156),(0),rs_,H',⟨Nat.le_refl _⟩,⟨pr_ HO158.out⟩,⟨be0_ HB.out⟩⟩
   case round =>
    clear H'
    obtain ⟨x3_1,x4_1,rfl,HA,HK1,HO_3,HB⟩:=hrel
    cases gk with
    | zero => exact absurd HA.out (by simp [laws_toStepS.l0])
    | succ k1 =>
     have H:=HA.out
     clear HA
     simp only [laws_toStepS.l0] at H
     by_cases c6 : x4_1 < (l0.length : Int)
     ·rw [if_pos c6] at H
      have c6b0 : decide (x4_1 < (l0.length : Int)) = true:=decide_eq_true c6
      clear c6
      by_cases c7 : 0 ≤ x4_1
      ·rw [if_pos c7] at H
       have c7b0 : decide (0 ≤ x4_1) = true:=decide_eq_true c7
       clear c7
       replace H:=Option.bind_eq_some_iff.mp H
       obtain ⟨⟨t160,t161,t162,t163⟩,A80,H⟩:=H
       replace H : (if x4_1 < (x3_1.length : Int) then (laws_toStepS.l0 k1 l0 (x3_1.set (x4_1 : Int).toNat (⟨t160,t161,t162,t163⟩ : S92)) (wrap64 (x4_1 + 1))) else (none)) = some r:=H
       have A8:=Aside0.mk A80
       clear A80
       by_cases c9 : x4_1 < (x3_1.length : Int)
       ·rw [if_pos c9] at H
        have c9b0 : decide (x4_1 < (x3_1.length : Int)) = true:=decide_eq_true c9
        clear c9
        obtain ⟨y164,hy164⟩ : ∃ y_ : List (S92),y_ = (x3_1.set (x4_1 : Int).toNat (⟨t160,t161,t162,t163⟩ : S92)):=⟨_,rfl⟩
        replace H : (laws_toStepS.l0 k1 l0 y164 (wrap64 (x4_1 + 1))) = some r:=by first|(rw [hy164];with_reducible exact H)|(have H2_:=(Option.bind_some _ _).symm.trans H;rw [hy164];with_reducible exact H2_)|(have H2_:=(Option.bind_some _ _).symm.trans H;with_reducible exact H2_)|with_reducible exact H|(rw [hy164];exact H)|exact H
        have Ny164:=Aside0.mk hy164
        clear hy164
        have H':=Aside0.mk H
        clear H
        have p159 : 0 ≤ (x4_1 : Int):=od_
        have q159 : x4_1 < (l0.length : Int):=od_
        obtain ⟨ad159,e159,hx159_0,hx159_1,hx159_2,hx159_3⟩:=at_T118 HR0.out x4_1 p159 q159
        cases e159
        replace hx159_0:=hbc_ HB.out hx159_0
        replace hx159_1:=hbc_ HB.out hx159_1
        replace hx159_2:=hbc_ HB.out hx159_2
        replace hx159_3:=hbc_ HB.out hx159_3
        replace p159:=eq_true p159
        replace q159:=eq_true q159
        go_wp2_with (first|((with_reducible refine gate_callee (f:=123) rfl ?_);refine goesL_ (some 20) rfl rfl Try.func123 (by kernel_rfl) rfl #[.agg #[.int .i64 ((rd_T118 l0 x4_1).f0),.string ((rd_T118 l0 x4_1).f1),.int .i64 ((rd_T118 l0 x4_1).f2),.int .i64 ((rd_T118 l0 x4_1).f3)]] rfl lp_ ?_;(with_reducible refine (laws_toStep.calls ((rd_T118 l0 x4_1).f0) ((rd_T118 l0 x4_1).f1) ((rd_T118 l0 x4_1).f2) ((rd_T118 l0 x4_1).f3) t160 t161 t162 t163 _ A8.out).mono ?_);rintro e w11 ⟨rfl,hb⟩;refine ⟨_,rfl,?_⟩;replace HO_3:=Aside0.mk (Kd.R_below (pr_ HO_3.out) hb);replace HB:=hs0_ HB hb;(try clear hb);(try clear hb2);(try clear hk);(try clear hi);have p10 : 0 ≤ (x4_1 : Int):=od_;have q10 : (x4_1 : Int) < ((x3_1.length : Int) : Int):=od_;obtain ⟨go10,co10,eo10,gb10,gl10,cl10,HG10⟩:=Kd.R_form HO_3.out (by omega);(first|cases eo10|(injection eo10 with ea_ en_ ec_;(first|subst ea_|(injection ea_ with ea_;subst ea_));subst ec_;clear en_));have GB10:=Aside0.mk gb10;have GG10:=Aside0.mk HG10;clear gb10 gl10 HG10;obtain ⟨ce10,hcl10,hM10,hcc10,hfr10⟩:=Kd.R_elem HO_3.out z92 (x4_1 : Int) p10 q10;obtain rfl:=k92_openM hM10;have hx10_0 : w11.cell? ⟨go10,(x4_1 : Int).toNat * 4,none⟩ = some (.int .i64 ((rd_T92 x3_1 x4_1).f0)):=hcc10 0 _ rfl;have hx10_1 : w11.cell? ⟨go10,(x4_1 : Int).toNat * 4 + 1,none⟩ = some (.string ((rd_T92 x3_1 x4_1).f1)):=hcc10 1 _ rfl;have hx10_2 : w11.cell? ⟨go10,(x4_1 : Int).toNat * 4 + 2,none⟩ = some (.int .i64 ((rd_T92 x3_1 x4_1).f2)):=hcc10 2 _ rfl;have hx10_3 : w11.cell? ⟨go10,(x4_1 : Int).toNat * 4 + 3,none⟩ = some (.int .i64 ((rd_T92 x3_1 x4_1).f3)):=hcc10 3 _ rfl;have hf10_0 : w11.frozen? ⟨go10,(x4_1 : Int).toNat * 4,none⟩ = false:=hfr10 0;have hf10_1 : w11.frozen? ⟨go10,(x4_1 : Int).toNat * 4 + 1,none⟩ = false:=hfr10 1;have hf10_2 : w11.frozen? ⟨go10,(x4_1 : Int).toNat * 4 + 2,none⟩ = false:=hfr10 2;have hf10_3 : w11.frozen? ⟨go10,(x4_1 : Int).toNat * 4 + 3,none⟩ = false:=hfr10 3;clear hcl10 hcc10 hfr10 hM10;replace p10:=eq_true p10;replace q10:=eq_true q10;have HX12:=Aside0.mk (show Kd.R k92 92 w11 w.heap.size (fun _ => True) (.slice (some ⟨go10,0,none⟩) x3_1.length co10) x3_1 from (pr_ HO_3.out));obtain ⟨ce12,hcl12,hM12,hcc12,hfr12⟩:=Kd.R_elem HX12.out z92 (x4_1 : Int) (od_) (by have h_ : (x4_1 : Int) < ((x3_1.length : Int) : Int):=od_;first|exact h_|(have e_:=(Kd.R_reads' HO_3.out).1;omega)|simpa using h_);obtain rfl:=k92_openM hM12;have HP12:=Kd.R_seg HX12.out (x4_1 : Int) (od_) (by have h_ : (x4_1 : Int) < ((x3_1.length : Int) : Int):=od_;first|exact h_|(have e_:=(Kd.R_reads' HO_3.out).1;omega)|simpa using h_) (seg:=[.int .i64 t160,.string t161,.int .i64 t162,.int .i64 t163]) (j:=0) hcl12 hcc12 (show 4 ≤ 4 from by decide) (x':=(⟨t160,t161,t162,t163⟩ : S92)) (k92_mkM _ _ _ (⟨t160,t161,t162,t163⟩ : S92) ) (fun _ hk => hk);have hx12_0:=hcc12 0 _ rfl;(try simp only [show (k92).sz = 4 from rfl,Nat.mul_one,Nat.add_zero] at hx12_0);have hf12_0:=hfr12 0;(try simp only [show (k92).sz = 4 from rfl,Nat.mul_one,Nat.add_zero] at hf12_0);have hx12_1:=hcc12 1 _ rfl;(try simp only [show (k92).sz = 4 from rfl,Nat.mul_one,Nat.add_zero] at hx12_1);have hf12_1:=hfr12 1;(try simp only [show (k92).sz = 4 from rfl,Nat.mul_one,Nat.add_zero] at hf12_1);have hx12_2:=hcc12 2 _ rfl;(try simp only [show (k92).sz = 4 from rfl,Nat.mul_one,Nat.add_zero] at hx12_2);have hf12_2:=hfr12 2;(try simp only [show (k92).sz = 4 from rfl,Nat.mul_one,Nat.add_zero] at hf12_2);have hx12_3:=hcc12 3 _ rfl;(try simp only [show (k92).sz = 4 from rfl,Nat.mul_one,Nat.add_zero] at hx12_3);have hf12_3:=hfr12 3;(try simp only [show (k92).sz = 4 from rfl,Nat.mul_one,Nat.add_zero] at hf12_3);clear hcl12 hcc12 hfr12 hM12)|((with_reducible refine gate_store (t:=92) (p:=21) rfl ?_);refine store_event (t:=92) (p:=21) (v:=?vo_w13) (w1:=((((w11.setCell ⟨go10,(x4_1 : Int).toNat * 4,none⟩ (.int .i64 t160)).setCell ⟨go10,(x4_1 : Int).toNat * 4 + 1,none⟩ (.string t161)).setCell ⟨go10,(x4_1 : Int).toNat * 4 + 2,none⟩ (.int .i64 t162)).setCell ⟨go10,(x4_1 : Int).toNat * 4 + 3,none⟩ (.int .i64 t163))) ?hg ?ho ?hn ?hr ?_;(case ho => rfl);(case hg => rfl);(case hn => rfl);(case hr => first|(go_simp;done)|(go_simp;rfl));intro w13 hw;have hg : w11.grownBy w13 (some go10):=(by rw [hw];exact HP12.2);have hp_ : Kd.R k92 92 w13 w.heap.size (fun _ => True) (.slice (some ⟨go10,0,none⟩) x3_1.length co10) y164:=(by rw [hw,Ny164.out];exact HP12.1);clear HP12;replace HO_3:=Aside0.mk (hp_);replace HB:=Aside0.mk ((by rw [hw];exact below_set (below_set (below_set (below_set (HB.out) GB10.out) GB10.out) GB10.out) GB10.out : Below w.heap.size w w13));clear hg hw hp_))
        go_roundg k1
        case measure => have:=HK1.out;omega
        case rel => exact ⟨(y164),(wrap64 (x4_1 + 1)),rs_,H',⟨by have:=HK1.out;omega⟩,⟨pr_ HO_3.out⟩,⟨be0_ HB.out⟩⟩
       ·rw [if_neg c9] at H
        exact absurd H (by simp)
      ·rw [if_neg c7] at H
       exact absurd H (by simp)
     ·rw [if_neg c6] at H
      have c6b0 : decide (x4_1 < (l0.length : Int)) = false:=decide_eq_false c6
      clear c6
      obtain rfl:=Option.some.inj H
      go_wp2
      go_ret
      exact ⟨_,er_,pr_ HO_3.out,be0_ HB.out⟩
  ·rw [if_neg c3] at H
   exact absurd H (by simp)
 ·rw [if_neg c2] at H
  exact absurd H (by simp)
def laws_toAutomaton.f (k : Nat) (a0_0 : Int) (l0_1 : List Int) (l0_2 : List Int) (l0_3 : List (S118)) : Option (Int × List Int × List Int × (List (S92))):=(laws_toIntS.f k l0_1).bind fun t168 => ((laws_toIntS.f k l0_2).bind fun t171 => ((laws_toStepS.f k l0_3).bind fun t174 => (some (a0_0,t168,t171,t174))))
theorem laws_toAutomaton.mono : ∀ a0 a1 a2 a3 k,LeO (laws_toAutomaton.f k a0 a1 a2 a3) (laws_toAutomaton.f (k + 1) a0 a1 a2 a3):=by
 intro a0 a1 a2 a3 k
 unfold laws_toAutomaton.f
 repeat' first
   | (with_reducible exact laws_toIntS.mono _ _)
   | (with_reducible exact laws_toStepS.mono _ _)
   | (with_reducible first|exact LeO.refl _|exact LeO.none _|refine LeO.ite ?_ ?_|refine LeO.bind ?_ (fun _ => ?_))
   | exact laws_toIntS.mono _ _
   | exact laws_toStepS.mono _ _
   | exact LeO.none _
   | refine LeO.ite ?_ ?_
   | refine LeO.bind ?_ (fun _ => ?_)
set_option maxHeartbeats 8000000 in
set_option maxRecDepth 100000 in
theorem laws_toAutomaton.calls (k : Nat) (a0_0 : Int) (A0_1 : Option Addr) (c0_1 : Nat) (l0_1 : List Int) (A0_2 : Option Addr) (c0_2 : Nat) (l0_2 : List Int) (A0_3 : Option Addr) (c0_3 : Nat) (l0_3 : List (S118)) (r1 : Int) (r2 : List Int) (r3 : List Int) (r4 : List (S92)) (w : World) (hr0_1 : Kd.C (Kd.int .i64) w A0_1 l0_1.length l0_1) (hc0_1 : l0_1.length ≤ c0_1) (hr0_2 : Kd.C (Kd.int .i64) w A0_2 l0_2.length l0_2) (hc0_2 : l0_2.length ≤ c0_2) (hr0_3 : Kd.C k118 w A0_3 l0_3.length l0_3) (hc0_3 : l0_3.length ≤ c0_3) (h : laws_toAutomaton.f k a0_0 l0_1 l0_2 l0_3 = some (r1,r2,r3,r4)) :
  Calls Try.prog 17 #[.agg #[.int .i64 a0_0,.slice A0_1 l0_1.length c0_1,.slice A0_2 l0_2.length c0_2,.slice A0_3 l0_3.length c0_3]] w fun e w' => ∃ v1_ v2_ v3_ : Value,e = .returned (.agg #[.int .i64 r1,v1_,v2_,v3_]) ∧ Kd.R (Kd.int .i64) 3 w' w.heap.size (fun k_ => some k_ ≠ (v2_ : Value).ownBlock) v1_ r2 ∧ Kd.R (Kd.int .i64) 3 w' w.heap.size (fun k_ => some k_ ≠ (v1_ : Value).ownBlock) v2_ r3 ∧ Kd.R k92 92 w' w.heap.size (fun _ => True) v3_ r4 ∧ Below w.heap.size w w':=by
 have hu25:=Try.underlying25
 have hu33:=Try.underlying33
 have HR0_1:=Aside0.mk hr0_1
 have HC0_1:=Aside0.mk hc0_1
 clear hr0_1 hc0_1
 have HR0_2:=Aside0.mk hr0_2
 have HC0_2:=Aside0.mk hc0_2
 clear hr0_2 hc0_2
 have HR0_3:=Aside0.mk hr0_3
 have HC0_3:=Aside0.mk hc0_3
 clear hr0_3 hc0_3
 have HB:=Aside0.mk (Below.refl w.heap.size w)
 have H : ((laws_toIntS.f k l0_1).bind fun t168 => ((laws_toIntS.f k l0_2).bind fun t171 => ((laws_toStepS.f k l0_3).bind fun t174 => (some (a0_0,t168,t171,t174))))) = some (r1,r2,r3,r4):=h
 clear h
 replace H:=Option.bind_eq_some_iff.mp H
 obtain ⟨t168,A20,H⟩:=H
 replace H : ((laws_toIntS.f k l0_2).bind fun t171 => ((laws_toStepS.f k l0_3).bind fun t174 => (some (a0_0,t168,t171,t174)))) = some (r1,r2,r3,r4):=H
 have A2:=Aside0.mk A20
 clear A20
 replace H:=Option.bind_eq_some_iff.mp H
 obtain ⟨t171,A30,H⟩:=H
 replace H : ((laws_toStepS.f k l0_3).bind fun t174 => (some (a0_0,t168,t171,t174))) = some (r1,r2,r3,r4):=H
 have A3:=Aside0.mk A30
 clear A30
 replace H:=Option.bind_eq_some_iff.mp H
 obtain ⟨t174,A40,H⟩:=H
 replace H : (some (a0_0,t168,t171,t174)) = some (r1,r2,r3,r4):=H
 have A4:=Aside0.mk A40
 clear A40
 simp only [Option.some.injEq,Prod.mk.injEq] at H
 obtain ⟨rfl,rfl,rfl,rfl⟩:=H
 go_enter Try.func17,Try.ntmps17
 go_wp2_with (first|((with_reducible refine bev_ (N:=1) rfl rfl (cs:=#[.int .i64 a0_0,.slice A0_1 l0_1.length c0_1,.slice A0_2 l0_2.length c0_2,.slice A0_3 l0_3.length c0_3]) (t:=25) ?hr ?_);(case hr => first|(go_simp;done)|(go_simp;rfl));intro gb165 hg w5 hbox hb;have BK165:=Aside0.mk (hbox);have GW165:=gw0_ hg HB;have GE165:=GW165;replace HB:=hs0_ HB hb;clear hb hbox hg)|((with_reducible refine bev_ (N:=2) rfl rfl (cs:=#[.int .i64 0,.slice none 0 0,.slice none 0 0,.slice none 0 0]) (t:=33) ?hr ?_);(case hr => first|(go_simp;done)|(go_simp;rfl));intro gb166 hg w6 hbox hb;have BK166:=Aside0.mk (hbox);have GW166:=gw1_ hg HB GE165;have GE166:=GW166;replace HB:=hs1_ HB GE165 hb;have NB165_166:=nm_ hg BK165;have NB166_165:=nn_ hg BK165;replace BK165:=kc_ BK165 hb;clear hb hbox hg)|((with_reducible refine bev_ (N:=3) rfl rfl (cs:=#[.int .i64 0,.slice none 0 0,.slice none 0 0,.slice none 0 0]) (t:=33) ?hr ?_);(case hr => first|(go_simp;done)|(go_simp;rfl));intro gb167 hg w7 hbox hb;have BK167:=Aside0.mk (hbox);have GW167:=gw2_ hg HB GE165 GE166;have GE167:=GW167;replace HB:=hs2_ HB GE165 GE166 hb;have NB165_167:=nm_ hg BK165;have NB167_165:=nn_ hg BK165;replace BK165:=kc_ BK165 hb;have NB166_167:=nm_ hg BK166;have NB167_166:=nn_ hg BK166;replace BK166:=kc_ BK166 hb;clear hb hbox hg;have hnb8:=NB165_166.out;have hnc8:=NB166_165.out;have hnb9:=NB165_167.out;have hnc9:=NB167_165.out;obtain ⟨hcz10_0,hcz10_1,hcz10_2,hcz10_3,hfz10_0,hfz10_1,hfz10_2,hfz10_3⟩:=cf4_ BK165.out;have hnb11:=NB167_166.out;have hnc11:=NB166_167.out;obtain ⟨hcz12_0,hcz12_1,hcz12_2,hcz12_3,hfz12_0,hfz12_1,hfz12_2,hfz12_3⟩:=cf4_ BK167.out)|((with_reducible refine gate_callee (f:=70) rfl ?_);refine goesL_ (some 9) rfl rfl Try.func70 (by kernel_rfl) rfl #[.slice A0_1 l0_1.length c0_1] rfl lp_ ?_;(with_reducible refine (laws_toIntS.calls k _ _ l0_1 t168 _ ?side1 ?side2 A2.out).mono ?_);(case side1 => exact Kd.C_below HR0_1.out (be3_ HB.out GE165.out GE166.out GE167.out));(case side2 => exact HC0_1.out);rintro e w13 ⟨v169,rfl,ho0,hb⟩;refine ⟨_,rfl,?_⟩;have HO170:=Aside0.mk (Kd.R_lower ho0 (below_size (be3_ HB.out GE165.out GE166.out GE167.out)));replace BK165:=Aside0.mk (blk_below (g:=gb165) (o:=.cells #[.int .i64 a0_0,.slice A0_1 l0_1.length c0_1,.slice A0_2 l0_2.length c0_2,.slice A0_3 l0_3.length c0_3] 25 (0,0)) (bf1_ BK165.out NB165_167.out) hb);replace BK166:=Aside0.mk (blk_below (g:=gb166) (o:=.cells #[.int .i64 0,.slice none 0 0,.slice none 0 0,.slice none 0 0] 33 (0,0)) (bf1_ BK166.out NB166_167.out) hb);replace BK167:=Aside0.mk (blk_below (g:=gb167) (o:=.cells #[.int .i64 a0_0,.slice none 0 0,.slice none 0 0,.slice none 0 0] 33 (0,0)) (by refine pe_ ?_;refine blk_put (cs:=#[.int .i64 0,.slice none 0 0,.slice none 0 0,.slice none 0 0]) ?_ 0 _ rfl;refine pe_ ?_;exact BK167.out) hb);replace HB:=hs3_ HB GE165 GE166 GE167 hb;(try clear hb);(try clear hb2);(try clear hk);(try clear hi);(try clear ho0);obtain ⟨Ao14,co14,eo14⟩:=Kd.R_slice HO170.out;subst eo14;obtain ⟨hcz15_0,hcz15_1,hcz15_2,hcz15_3,hfz15_0,hfz15_1,hfz15_2,hfz15_3⟩:=cf4_ BK167.out;obtain ⟨hcz16_0,hcz16_1,hcz16_2,hcz16_3,hfz16_0,hfz16_1,hfz16_2,hfz16_3⟩:=cf4_ BK165.out)|((with_reducible refine gate_callee (f:=70) rfl ?_);refine goesL_ (some 13) rfl rfl Try.func70 (by kernel_rfl) rfl #[.slice A0_2 l0_2.length c0_2] rfl lp_ ?_;(with_reducible refine (laws_toIntS.calls k _ _ l0_2 t171 _ ?side1 ?side2 A3.out).mono ?_);(case side1 => exact Kd.C_below HR0_2.out (be3_ HB.out GE165.out GE166.out GE167.out));(case side2 => exact HC0_2.out);rintro e w17 ⟨v172,rfl,ho0,hb⟩;refine ⟨_,rfl,?_⟩;have HO173:=Aside0.mk (Kd.R_lower (Kd.R_new' ho0 (Kd.R_lt (by refine pr_ ?_;exact (Kd.R_mono (Kd.R_far (p:=⟨gb167,1,none⟩) (Kd.R_types HO170.out BK167.out (by decide)) (fun _ hk => hk.2) (.slice Ao14 t168.length co14)) (fun _ h_ => h_.1))))) (below_size (be3_ HB.out GE165.out GE166.out GE167.out)));replace HO170:=Aside0.mk (Kd.R_elder' (by refine pr_ ?_;exact (Kd.R_mono (Kd.R_far (p:=⟨gb167,1,none⟩) (Kd.R_types HO170.out BK167.out (by decide)) (fun _ hk => hk.2) (.slice Ao14 t168.length co14)) (fun _ h_ => h_.1))) (Kd.R_base ho0) hb);replace BK165:=Aside0.mk (blk_below (g:=gb165) (o:=.cells #[.int .i64 a0_0,.slice A0_1 l0_1.length c0_1,.slice A0_2 l0_2.length c0_2,.slice A0_3 l0_3.length c0_3] 25 (0,0)) (bf1_ BK165.out NB165_167.out) hb);replace BK166:=Aside0.mk (blk_below (g:=gb166) (o:=.cells #[.int .i64 0,.slice none 0 0,.slice none 0 0,.slice none 0 0] 33 (0,0)) (bf1_ BK166.out NB166_167.out) hb);replace BK167:=Aside0.mk (blk_below (g:=gb167) (o:=.cells #[.int .i64 a0_0,.slice Ao14 t168.length co14,.slice none 0 0,.slice none 0 0] 33 (0,0)) (by refine pe_ ?_;refine blk_put (cs:=#[.int .i64 a0_0,.slice none 0 0,.slice none 0 0,.slice none 0 0]) ?_ 1 _ rfl;refine pe_ ?_;exact BK167.out) hb);replace HB:=hs3_ HB GE165 GE166 GE167 hb;(try clear hb);(try clear hb2);(try clear hk);(try clear hi);(try clear ho0);obtain ⟨Ao18,co18,eo18⟩:=Kd.R_slice HO173.out;subst eo18;obtain ⟨hcz19_0,hcz19_1,hcz19_2,hcz19_3,hfz19_0,hfz19_1,hfz19_2,hfz19_3⟩:=cf4_ BK167.out;obtain ⟨hcz20_0,hcz20_1,hcz20_2,hcz20_3,hfz20_0,hfz20_1,hfz20_2,hfz20_3⟩:=cf4_ BK165.out)|((with_reducible refine gate_callee (f:=71) rfl ?_);refine goesL_ (some 17) rfl rfl Try.func71 (by kernel_rfl) rfl #[.slice A0_3 l0_3.length c0_3] rfl lp_ ?_;(with_reducible refine (laws_toStepS.calls k _ _ l0_3 t174 _ ?side1 ?side2 A4.out).mono ?_);(case side1 => exact Kd.C_below HR0_3.out (be3_ HB.out GE165.out GE166.out GE167.out));(case side2 => exact HC0_3.out);rintro e w21 ⟨v175,rfl,ho0,hb⟩;refine ⟨_,rfl,?_⟩;replace HO170:=Aside0.mk (Kd.R_below (by refine pr_ ?_;exact (Kd.R_mono (Kd.R_far (p:=⟨gb167,2,none⟩) (Kd.R_types HO170.out BK167.out (by decide)) (fun _ hk => hk.2) (.slice Ao18 t171.length co18)) (fun _ h_ => h_.1))) hb);replace HO173:=Aside0.mk (Kd.R_below (by refine pr_ ?_;exact (Kd.R_mono (Kd.R_far (p:=⟨gb167,2,none⟩) (Kd.R_types HO173.out BK167.out (by decide)) (fun _ hk => hk.2) (.slice Ao18 t171.length co18)) (fun _ h_ => h_.1))) hb);have HO176:=Aside0.mk (Kd.R_lower ho0 (below_size (be3_ HB.out GE165.out GE166.out GE167.out)));replace BK165:=Aside0.mk (blk_below (g:=gb165) (o:=.cells #[.int .i64 a0_0,.slice A0_1 l0_1.length c0_1,.slice A0_2 l0_2.length c0_2,.slice A0_3 l0_3.length c0_3] 25 (0,0)) (bf1_ BK165.out NB165_167.out) hb);replace BK166:=Aside0.mk (blk_below (g:=gb166) (o:=.cells #[.int .i64 0,.slice none 0 0,.slice none 0 0,.slice none 0 0] 33 (0,0)) (bf1_ BK166.out NB166_167.out) hb);replace BK167:=Aside0.mk (blk_below (g:=gb167) (o:=.cells #[.int .i64 a0_0,.slice Ao14 t168.length co14,.slice Ao18 t171.length co18,.slice none 0 0] 33 (0,0)) (by refine pe_ ?_;refine blk_put (cs:=#[.int .i64 a0_0,.slice Ao14 t168.length co14,.slice none 0 0,.slice none 0 0]) ?_ 2 _ rfl;refine pe_ ?_;exact BK167.out) hb);replace HB:=hs3_ HB GE165 GE166 GE167 hb;(try clear hb);(try clear hb2);(try clear hk);(try clear hi);(try clear ho0);obtain ⟨Ao22,co22,eo22⟩:=Kd.R_slice HO176.out;subst eo22;obtain ⟨hcz23_0,hcz23_1,hcz23_2,hcz23_3,hfz23_0,hfz23_1,hfz23_2,hfz23_3⟩:=cf4_ BK167.out;obtain ⟨hcz24_0,hcz24_1,hcz24_2,hcz24_3,hfz24_0,hfz24_1,hfz24_2,hfz24_3⟩:=cf4_ BK166.out))
 refine bodyPost_ret (results_cell_row rfl _ _ gb166 33 #[.int .i64 a0_0,.slice Ao14 t168.length co14,.slice Ao18 t171.length co18,.slice Ao22 t174.length co22] (0,0) _ rfl (by refine pe_ ?_;refine blk_put (cs:=#[.int .i64 a0_0,.slice Ao14 t168.length co14,.slice Ao18 t171.length co18,.slice none 0 0]) ?_ 3 _ rfl;refine pe_ ?_;refine blk_put (cs:=#[.int .i64 a0_0,.slice Ao14 t168.length co14,.slice none 0 0,.slice none 0 0]) ?_ 2 _ rfl;refine pe_ ?_;refine blk_put (cs:=#[.int .i64 a0_0,.slice none 0 0,.slice none 0 0,.slice none 0 0]) ?_ 1 _ rfl;refine pe_ ?_;refine blk_put (cs:=#[.int .i64 0,.slice none 0 0,.slice none 0 0,.slice none 0 0]) ?_ 0 _ rfl;refine pe_ ?_;refine blk_far ?_ NB166_167.out _;refine pe_ ?_;exact BK166.out) Try.underlying33 rfl (by kernel_rfl)) rfl ?_
 exact ⟨_,_,_,er_,by refine pr_ ?_;exact Kd.R_mono (Kd.R_far (p:=⟨gb166,3,none⟩) (Kd.R_far (p:=⟨gb166,2,none⟩) (Kd.R_far (p:=⟨gb166,1,none⟩) (Kd.R_far (p:=⟨gb166,0,none⟩) (Kd.R_far (p:=⟨gb167,3,none⟩) (Kd.R_types (Kd.R_types HO170.out BK167.out (by decide)) BK166.out (by decide)) (fun _ hk => hk.1.2) (.slice Ao22 t174.length co22)) (fun _ hk => hk.2) (.int .i64 a0_0)) (fun _ hk => hk.2) (.slice Ao14 t168.length co14)) (fun _ hk => hk.2) (.slice Ao18 t171.length co18)) (fun _ hk => hk.2) (.slice Ao22 t174.length co22)) (fun _ hk => hk.1.1.2),by refine pr_ ?_;exact Kd.R_mono (Kd.R_far (p:=⟨gb166,3,none⟩) (Kd.R_far (p:=⟨gb166,2,none⟩) (Kd.R_far (p:=⟨gb166,1,none⟩) (Kd.R_far (p:=⟨gb166,0,none⟩) (Kd.R_far (p:=⟨gb167,3,none⟩) (Kd.R_types (Kd.R_types HO173.out BK167.out (by decide)) BK166.out (by decide)) (fun _ hk => hk.1.2) (.slice Ao22 t174.length co22)) (fun _ hk => hk.2) (.int .i64 a0_0)) (fun _ hk => hk.2) (.slice Ao14 t168.length co14)) (fun _ hk => hk.2) (.slice Ao18 t171.length co18)) (fun _ hk => hk.2) (.slice Ao22 t174.length co22)) (fun _ hk => hk.1.1.2),by refine pr_ ?_;exact Kd.R_mono (Kd.R_far (p:=⟨gb166,3,none⟩) (Kd.R_far (p:=⟨gb166,2,none⟩) (Kd.R_far (p:=⟨gb166,1,none⟩) (Kd.R_far (p:=⟨gb166,0,none⟩) (Kd.R_far (p:=⟨gb167,3,none⟩) (Kd.R_types (Kd.R_types HO176.out BK167.out (by decide)) BK166.out (by decide)) (fun _ hk => hk.1.2) (.slice Ao22 t174.length co22)) (fun _ hk => hk.2) (.int .i64 a0_0)) (fun _ hk => hk.2) (.slice Ao14 t168.length co14)) (fun _ hk => hk.2) (.slice Ao18 t171.length co18)) (fun _ hk => hk.2) (.slice Ao22 t174.length co22)) (fun _ hk => trivial),be3_ HB.out GE165.out GE166.out GE167.out⟩
def spec_l1In.f (a0 : Int) (a1 : Int) (a2 : Int) : Option (Bool):=if a0 ≥ a1 then (some (decide (a0 ≤ a2))) else (some false)
set_option maxHeartbeats 8000000 in
set_option maxRecDepth 100000 in
theorem spec_l1In.calls (a0 : Int) (a1 : Int) (a2 : Int) (r : Bool) (w : World) (h : spec_l1In.f a0 a1 a2 = some r) :
  Calls Try.prog 90 #[.int .i64 a0,.int .i64 a1,.int .i64 a2] w fun e w' => e = .returned (.bool r) ∧ Drawn0 w w':=by
 have H : (if a0 ≥ a1 then (some (decide (a0 ≤ a2))) else (some false)) = some r:=h
 clear h
 by_cases c4 : a0 ≥ a1
 ·rw [if_pos c4] at H
  have c4b0 : decide (a1 ≤ a0) = true:=decide_eq_true c4
  clear c4
  obtain rfl:=Option.some.inj H
  go_enter Try.func90,Try.ntmps90
  go_wp2
  go_ret
  exact ⟨by first|rfl|(simp;done)|(simp [*];done),by repeat (first|exact Drawn0.refl _|apply Drawn0.step)⟩
 ·rw [if_neg c4] at H
  have c4b0 : decide (a1 ≤ a0) = false:=decide_eq_false c4
  clear c4
  obtain rfl:=Option.some.inj H
  go_enter Try.func90,Try.ntmps90
  go_wp2
  go_ret
  exact ⟨by first|rfl|(simp;done)|(simp [*];done),by repeat (first|exact Drawn0.refl _|apply Drawn0.step)⟩
def spec_l3Before.f (a0_0 : Int) (a0_1 : ByteArray) (a0_2 : Int) (a0_3 : Int) (a1_0 : Int) (a1_1 : ByteArray) (a1_2 : Int) (a1_3 : Int) : Option (Bool):=if a0_0 = a1_0 then (if a0_1.toList = a1_1.toList then (some (decide (a0_2 < a1_2))) else (some (Op.bytesLess a0_1.toList a1_1.toList))) else (some (decide (a0_0 < a1_0)))
set_option maxHeartbeats 8000000 in
set_option maxRecDepth 100000 in
theorem spec_l3Before.calls (a0_0 : Int) (a0_1 : ByteArray) (a0_2 : Int) (a0_3 : Int) (a1_0 : Int) (a1_1 : ByteArray) (a1_2 : Int) (a1_3 : Int) (r : Bool) (w : World) (h : spec_l3Before.f a0_0 a0_1 a0_2 a0_3 a1_0 a1_1 a1_2 a1_3 = some r) :
  Calls Try.prog 121 #[.agg #[.int .i64 a0_0,.string a0_1,.int .i64 a0_2,.int .i64 a0_3],.agg #[.int .i64 a1_0,.string a1_1,.int .i64 a1_2,.int .i64 a1_3]] w fun e w' => e = .returned (.bool r) ∧ Below w.heap.size w w':=by
 have hu92:=Try.underlying92
 have HB:=Aside0.mk (Below.refl w.heap.size w)
 have H : (if a0_0 = a1_0 then (if a0_1.toList = a1_1.toList then (some (decide (a0_2 < a1_2))) else (some (Op.bytesLess a0_1.toList a1_1.toList))) else (some (decide (a0_0 < a1_0)))) = some r:=h
 clear h
 by_cases c3 : a0_0 = a1_0
 ·rw [if_pos c3] at H
  have c3b0 : (a0_0 == a1_0) = true:=beq_iff_eq.mpr c3
  have c3b1 : (a0_0 != a1_0) = false:=bne_eq_false_iff_eq.mpr c3
  clear c3
  by_cases c4 : a0_1.toList = a1_1.toList
  ·rw [if_pos c4] at H
   have c4b0 : (a0_1.toList == a1_1.toList) = true:=beq_iff_eq.mpr c4
   have c4b1 : (a0_1.toList != a1_1.toList) = false:=bne_eq_false_iff_eq.mpr c4
   clear c4
   obtain rfl:=Option.some.inj H
   go_enter Try.func121,Try.ntmps121
   go_wp2_with (first|((with_reducible refine bev_ (N:=2) rfl rfl (cs:=#[.int .i64 a0_0,.string a0_1,.int .i64 a0_2,.int .i64 a0_3]) (t:=92) ?hr ?_);(case hr => first|(go_simp;done)|(go_simp;rfl));intro gb117 hg w5 hbox hb;have BK117:=Aside0.mk (hbox);have GW117:=gw0_ hg HB;have GE117:=GW117;replace HB:=hs0_ HB hb;clear hb hbox hg)|((with_reducible refine bev_ (N:=3) rfl rfl (cs:=#[.int .i64 a1_0,.string a1_1,.int .i64 a1_2,.int .i64 a1_3]) (t:=92) ?hr ?_);(case hr => first|(go_simp;done)|(go_simp;rfl));intro gb118 hg w6 hbox hb;have BK118:=Aside0.mk (hbox);have GW118:=gw1_ hg HB GE117;have GE118:=GW118;replace HB:=hs1_ HB GE117 hb;have NB117_118:=nm_ hg BK117;have NB118_117:=nn_ hg BK117;replace BK117:=kc_ BK117 hb;clear hb hbox hg;have hnb7:=NB117_118.out;have hnc7:=NB118_117.out;obtain ⟨hcz8_0,hcz8_1,hcz8_2,hcz8_3,hfz8_0,hfz8_1,hfz8_2,hfz8_3⟩:=cf4_ BK117.out;obtain ⟨hcz9_0,hcz9_1,hcz9_2,hcz9_3,hfz9_0,hfz9_1,hfz9_2,hfz9_3⟩:=cf4_ BK118.out))
   go_ret
   exact ⟨er_,be2_ HB.out GE117.out GE118.out⟩
  ·rw [if_neg c4] at H
   have c4b0 : (a0_1.toList == a1_1.toList) = false:=beq_eq_false_iff_ne.mpr c4
   have c4b1 : (a0_1.toList != a1_1.toList) = true:=bne_iff_ne.mpr c4
   obtain rfl:=Option.some.inj H
   go_enter Try.func121,Try.ntmps121
   go_wp2_with (first|((with_reducible refine bev_ (N:=2) rfl rfl (cs:=#[.int .i64 a0_0,.string a0_1,.int .i64 a0_2,.int .i64 a0_3]) (t:=92) ?hr ?_);(case hr => first|(go_simp;done)|(go_simp;rfl));intro gb117 hg w10 hbox hb;have BK117:=Aside0.mk (hbox);have GW117:=gw0_ hg HB;have GE117:=GW117;replace HB:=hs0_ HB hb;clear hb hbox hg)|((with_reducible refine bev_ (N:=3) rfl rfl (cs:=#[.int .i64 a1_0,.string a1_1,.int .i64 a1_2,.int .i64 a1_3]) (t:=92) ?hr ?_);(case hr => first|(go_simp;done)|(go_simp;rfl));intro gb118 hg w11 hbox hb;have BK118:=Aside0.mk (hbox);have GW118:=gw1_ hg HB GE117;have GE118:=GW118;replace HB:=hs1_ HB GE117 hb;have NB117_118:=nm_ hg BK117;have NB118_117:=nn_ hg BK117;replace BK117:=kc_ BK117 hb;clear hb hbox hg;have hnb12:=NB117_118.out;have hnc12:=NB118_117.out;obtain ⟨hcz13_0,hcz13_1,hcz13_2,hcz13_3,hfz13_0,hfz13_1,hfz13_2,hfz13_3⟩:=cf4_ BK117.out;obtain ⟨hcz14_0,hcz14_1,hcz14_2,hcz14_3,hfz14_0,hfz14_1,hfz14_2,hfz14_3⟩:=cf4_ BK118.out))
   go_ret
   exact ⟨er_,be2_ HB.out GE117.out GE118.out⟩
 ·rw [if_neg c3] at H
  have c3b0 : (a0_0 == a1_0) = false:=beq_eq_false_iff_ne.mpr c3
  have c3b1 : (a0_0 != a1_0) = true:=bne_iff_ne.mpr c3
  obtain rfl:=Option.some.inj H
  go_enter Try.func121,Try.ntmps121
  go_wp2_with (first|((with_reducible refine bev_ (N:=2) rfl rfl (cs:=#[.int .i64 a0_0,.string a0_1,.int .i64 a0_2,.int .i64 a0_3]) (t:=92) ?hr ?_);(case hr => first|(go_simp;done)|(go_simp;rfl));intro gb117 hg w15 hbox hb;have BK117:=Aside0.mk (hbox);have GW117:=gw0_ hg HB;have GE117:=GW117;replace HB:=hs0_ HB hb;clear hb hbox hg)|((with_reducible refine bev_ (N:=3) rfl rfl (cs:=#[.int .i64 a1_0,.string a1_1,.int .i64 a1_2,.int .i64 a1_3]) (t:=92) ?hr ?_);(case hr => first|(go_simp;done)|(go_simp;rfl));intro gb118 hg w16 hbox hb;have BK118:=Aside0.mk (hbox);have GW118:=gw1_ hg HB GE117;have GE118:=GW118;replace HB:=hs1_ HB GE117 hb;have NB117_118:=nm_ hg BK117;have NB118_117:=nn_ hg BK117;replace BK117:=kc_ BK117 hb;clear hb hbox hg;have hnb17:=NB117_118.out;have hnc17:=NB118_117.out;obtain ⟨hcz18_0,hcz18_1,hcz18_2,hcz18_3,hfz18_0,hfz18_1,hfz18_2,hfz18_3⟩:=cf4_ BK117.out;obtain ⟨hcz19_0,hcz19_1,hcz19_2,hcz19_3,hfz19_0,hfz19_1,hfz19_2,hfz19_3⟩:=cf4_ BK118.out))
  go_ret
  exact ⟨er_,be2_ HB.out GE117.out GE118.out⟩
def spec_l3Marks.l0 : Nat → Int → List Int → List Int → Int → Int → Option (Bool)
 | 0,_,_,_,_,_ => none
 | k + 1,x0,x1,x7,x8,x9 => if x9 < x8 then (if 0 ≤ x9 then (if x9 < (x7.length : Int) then ((spec_l1In.f (rd x7 x9) 0 (wrap64 (x0 - 1))).bind fun t111 => (if t111 = true then (if x9 > 0 then (if 0 ≤ (wrap64 (x9 - 1)) then (if (wrap64 (x9 - 1)) < (x1.length : Int) then (if (rd x1 (wrap64 (x9 - 1))) ≥ (rd x7 x9) then (some false) else (spec_l3Marks.l0 k x0 x1 x7 x8 (wrap64 (x9 + 1)))) else (none)) else (none)) else (spec_l3Marks.l0 k x0 x1 x7 x8 (wrap64 (x9 + 1)))) else (some false))) else (none)) else (none)) else (some true)
def spec_l3Marks.f (k : Nat) (a0 : Int) (l1 : List Int) : Option (Bool):=spec_l3Marks.l0 k a0 l1 l1 (l1.length : Int) 0
theorem spec_l3Marks.mono_l : ∀ k,(∀ y0 y1 y2 y3 y4,LeO (spec_l3Marks.l0 k y0 y1 y2 y3 y4) (spec_l3Marks.l0 (k + 1) y0 y1 y2 y3 y4))
 | 0 => fun _ _ _ _ _ r h => by simp [spec_l3Marks.l0] at h
 | k + 1 => by
  have ih0:=spec_l3Marks.mono_l k
  ·intro y0 y1 y2 y3 y4
   unfold spec_l3Marks.l0
   repeat' first
   | (with_reducible exact ih0 _ _ _ _ _)
   | (with_reducible first|exact LeO.refl _|exact LeO.none _|refine LeO.ite ?_ ?_|refine LeO.bind ?_ (fun _ => ?_))
   | exact ih0 _ _ _ _ _
   | exact LeO.none _
   | refine LeO.ite ?_ ?_
   | refine LeO.bind ?_ (fun _ => ?_)
theorem spec_l3Marks.mono : ∀ a0 a1 k,LeO (spec_l3Marks.f k a0 a1) (spec_l3Marks.f (k + 1) a0 a1):=by
 intro a0 a1 k
 have ih0:=spec_l3Marks.mono_l k
 unfold spec_l3Marks.f
 repeat' first
   | (with_reducible exact ih0 _ _ _ _ _)
   | (with_reducible first|exact LeO.refl _|exact LeO.none _|refine LeO.ite ?_ ?_|refine LeO.bind ?_ (fun _ => ?_))
   | exact ih0 _ _ _ _ _
   | exact LeO.none _
   | refine LeO.ite ?_ ?_
   | refine LeO.bind ?_ (fun _ => ?_)
set_option maxHeartbeats 8000000 in
set_option maxRecDepth 100000 in
theorem spec_l3Marks.calls (k : Nat) (a0 : Int) (A1 : Option Addr) (c1 : Nat) (l1 : List Int) (r : Bool) (w : World) (hr1 : Kd.C (Kd.int .i64) w A1 l1.length l1) (hc1 : l1.length ≤ c1) (h : spec_l3Marks.f k a0 l1 = some r) :
  Calls Try.prog 119 #[.int .i64 a0,.slice A1 l1.length c1] w fun e w' => e = .returned (.bool r) ∧ Drawn0 w w':=by
 have HR1:=Aside0.mk hr1
 have HC1:=Aside0.mk hc1
 clear hr1 hc1
 have H : (spec_l3Marks.l0 k a0 l1 l1 (l1.length : Int) 0) = some r:=h
 clear h
 have H':=Aside0.mk H
 clear H
 go_enter Try.func119,Try.ntmps119
 go_wp2
 go_loopg [9] k (fun kq v9 w' => ∃ (x9_1 : Int),v9 = .int .i64 x9_1 ∧ Aside0 (spec_l3Marks.l0 kq a0 l1 l1 (l1.length : Int) x9_1 = some r) ∧ Aside0 (kq ≤ k) ∧ Drawn0 w w')
 case atStart => exact ⟨(0),rs_,H',⟨Nat.le_refl _⟩,by repeat (first|exact Drawn0.refl _|apply Drawn0.step)⟩
 case round =>
  clear H'
  obtain ⟨x9_1,rfl,HA,HK1,⟨m1,rfl⟩⟩:=hrel
  cases gk with
  | zero => exact absurd HA.out (by simp [spec_l3Marks.l0])
  | succ k1 =>
   have H:=HA.out
   clear HA
   simp only [spec_l3Marks.l0] at H
   by_cases c3 : x9_1 < (l1.length : Int)
   ·rw [if_pos c3] at H
    have c3b0 : decide (x9_1 < (l1.length : Int)) = true:=decide_eq_true c3
    clear c3
    by_cases c4 : 0 ≤ x9_1
    ·rw [if_pos c4] at H
     have c4b0 : decide (0 ≤ x9_1) = true:=decide_eq_true c4
     clear c4
     by_cases c5 : x9_1 < (l1.length : Int)
     ·rw [if_pos c5] at H
      have c5b0 : decide (x9_1 < (l1.length : Int)) = true:=decide_eq_true c5
      clear c5
      replace H:=Option.bind_eq_some_iff.mp H
      obtain ⟨t111,A60,H⟩:=H
      replace H : (if t111 = true then (if x9_1 > 0 then (if 0 ≤ (wrap64 (x9_1 - 1)) then (if (wrap64 (x9_1 - 1)) < (l1.length : Int) then (if (rd l1 (wrap64 (x9_1 - 1))) ≥ (rd l1 x9_1) then (some false) else (spec_l3Marks.l0 k1 a0 l1 l1 (l1.length : Int) (wrap64 (x9_1 + 1)))) else (none)) else (none)) else (spec_l3Marks.l0 k1 a0 l1 l1 (l1.length : Int) (wrap64 (x9_1 + 1)))) else (some false)) = some r:=H
      have A6:=Aside0.mk A60
      clear A60
      by_cases c7 : t111 = true
      ·subst c7
       have H1 : (if x9_1 > 0 then (if 0 ≤ (wrap64 (x9_1 - 1)) then (if (wrap64 (x9_1 - 1)) < (l1.length : Int) then (if (rd l1 (wrap64 (x9_1 - 1))) ≥ (rd l1 x9_1) then (some false) else (spec_l3Marks.l0 k1 a0 l1 l1 (l1.length : Int) (wrap64 (x9_1 + 1)))) else (none)) else (none)) else (spec_l3Marks.l0 k1 a0 l1 l1 (l1.length : Int) (wrap64 (x9_1 + 1)))) = some r:=by rw [if_pos rfl] at H;exact H
       clear H
       have H:=H1
       clear H1
       by_cases c8 : x9_1 > 0
       ·rw [if_pos c8] at H
        have c8b0 : decide (0 < x9_1) = true:=decide_eq_true c8
        clear c8
        obtain ⟨ji9,hji9⟩ : ∃ j_ : Int,(wrap64 (x9_1 - 1)) = j_:=⟨_,rfl⟩
        replace H : (if 0 ≤ (ji9) then (if (ji9) < (l1.length : Int) then (if (rd l1 (ji9)) ≥ (rd l1 x9_1) then (some false) else (spec_l3Marks.l0 k1 a0 l1 l1 (l1.length : Int) (wrap64 (x9_1 + 1)))) else (none)) else (none)) = some r:=by first|(rw [hji9] at H;exact H)|(simp only [hji9] at H ⊢;exact H)
        (try rw [hji9] at A6)
        have hji9w : (IntKind.i64.wrap (x9_1 - 1)) = ji9:=(i64_w _).trans hji9
        by_cases c10 : 0 ≤ (ji9)
        ·rw [if_pos c10] at H
         have c10b0 : decide (0 ≤ (ji9)) = true:=decide_eq_true c10
         clear c10
         by_cases c11 : (ji9) < (l1.length : Int)
         ·rw [if_pos c11] at H
          have c11b0 : decide ((ji9) < (l1.length : Int)) = true:=decide_eq_true c11
          clear c11
          by_cases c12 : (rd l1 (ji9)) ≥ (rd l1 x9_1)
          ·rw [if_pos c12] at H
           have c12b0 : decide ((rd l1 x9_1) ≤ (rd l1 (ji9))) = true:=decide_eq_true c12
           clear c12
           obtain rfl:=Option.some.inj H
           have p110 : 0 ≤ (x9_1 : Int):=od_
           have q110 : x9_1 < (l1.length : Int):=od_
           obtain ⟨ad110,e110,hx110_0⟩:=Kd.at_int HR1.out x9_1 p110 q110
           cases e110
           replace p110:=eq_true p110
           replace q110:=eq_true q110
           go_wp2_with (first|((with_reducible refine gate_callee (f:=90) rfl ?_);refine goesL_ (some 17) rfl rfl Try.func90 (by kernel_rfl) rfl #[.int .i64 (rd l1 x9_1),.int .i64 0,.int .i64 (wrap64 (a0 - 1))] rfl lp_ ?_;(with_reducible refine (spec_l1In.calls (rd l1 x9_1) 0 (wrap64 (a0 - 1)) true _ A6.out).mono ?_);rintro e w' ⟨rfl,⟨nd,rfl⟩⟩;refine ⟨_,rfl,?_⟩;have p112 : 0 ≤ ((ji9) : Int):=od_;have q112 : (ji9) < (l1.length : Int):=od_;obtain ⟨ad112,e112,hx112_0⟩:=Kd.at_int HR1.out (ji9) p112 q112;obtain rfl : ad110 = ad112:=(by injection e112);replace p112:=eq_true p112;replace q112:=eq_true q112))
           go_ret
           exact ⟨by first|rfl|(simp;done)|(simp only [← hji9] <;> (first|rfl|simp))|(simp [*];done),by repeat (first|exact Drawn0.refl _|apply Drawn0.step)⟩
          ·rw [if_neg c12] at H
           have c12b0 : decide ((rd l1 x9_1) ≤ (rd l1 (ji9))) = false:=decide_eq_false c12
           clear c12
           have H':=Aside0.mk H
           clear H
           have p110 : 0 ≤ (x9_1 : Int):=od_
           have q110 : x9_1 < (l1.length : Int):=od_
           obtain ⟨ad110,e110,hx110_0⟩:=Kd.at_int HR1.out x9_1 p110 q110
           cases e110
           replace p110:=eq_true p110
           replace q110:=eq_true q110
           go_wp2_with (first|((with_reducible refine gate_callee (f:=90) rfl ?_);refine goesL_ (some 17) rfl rfl Try.func90 (by kernel_rfl) rfl #[.int .i64 (rd l1 x9_1),.int .i64 0,.int .i64 (wrap64 (a0 - 1))] rfl lp_ ?_;(with_reducible refine (spec_l1In.calls (rd l1 x9_1) 0 (wrap64 (a0 - 1)) true _ A6.out).mono ?_);rintro e w' ⟨rfl,⟨nd,rfl⟩⟩;refine ⟨_,rfl,?_⟩;have p112 : 0 ≤ ((ji9) : Int):=od_;have q112 : (ji9) < (l1.length : Int):=od_;obtain ⟨ad112,e112,hx112_0⟩:=Kd.at_int HR1.out (ji9) p112 q112;obtain rfl : ad110 = ad112:=(by injection e112);replace p112:=eq_true p112;replace q112:=eq_true q112))
           go_roundg k1
           case measure => have:=HK1.out;omega
           case rel => exact ⟨(wrap64 (x9_1 + 1)),rs_,H',⟨by have:=HK1.out;omega⟩,by repeat (first|exact Drawn0.refl _|apply Drawn0.step)⟩
         ·rw [if_neg c11] at H
          exact absurd H (by simp)
        ·rw [if_neg c10] at H
         exact absurd H (by simp)
       ·rw [if_neg c8] at H
        have c8b0 : decide (0 < x9_1) = false:=decide_eq_false c8
        clear c8
        have H':=Aside0.mk H
        clear H
        have p110 : 0 ≤ (x9_1 : Int):=od_
        have q110 : x9_1 < (l1.length : Int):=od_
        obtain ⟨ad110,e110,hx110_0⟩:=Kd.at_int HR1.out x9_1 p110 q110
        cases e110
        replace p110:=eq_true p110
        replace q110:=eq_true q110
        go_wp2_with (first|((with_reducible refine gate_callee (f:=90) rfl ?_);refine goesL_ (some 17) rfl rfl Try.func90 (by kernel_rfl) rfl #[.int .i64 (rd l1 x9_1),.int .i64 0,.int .i64 (wrap64 (a0 - 1))] rfl lp_ ?_;(with_reducible refine (spec_l1In.calls (rd l1 x9_1) 0 (wrap64 (a0 - 1)) true _ A6.out).mono ?_);rintro e w' ⟨rfl,⟨nd,rfl⟩⟩;refine ⟨_,rfl,?_⟩))
        go_roundg k1
        case measure => have:=HK1.out;omega
        case rel => exact ⟨(wrap64 (x9_1 + 1)),rs_,H',⟨by have:=HK1.out;omega⟩,by repeat (first|exact Drawn0.refl _|apply Drawn0.step)⟩
      ·replace c7:=Bool.eq_false_iff.mpr c7
       subst c7
       have H1 : (some false) = some r:=by rw [if_neg (show ¬ (false = true) by decide)] at H;exact H
       clear H
       have H:=H1
       clear H1
       obtain rfl:=Option.some.inj H
       have p110 : 0 ≤ (x9_1 : Int):=od_
       have q110 : x9_1 < (l1.length : Int):=od_
       obtain ⟨ad110,e110,hx110_0⟩:=Kd.at_int HR1.out x9_1 p110 q110
       cases e110
       replace p110:=eq_true p110
       replace q110:=eq_true q110
       go_wp2_with (first|((with_reducible refine gate_callee (f:=90) rfl ?_);refine goesL_ (some 17) rfl rfl Try.func90 (by kernel_rfl) rfl #[.int .i64 (rd l1 x9_1),.int .i64 0,.int .i64 (wrap64 (a0 - 1))] rfl lp_ ?_;(with_reducible refine (spec_l1In.calls (rd l1 x9_1) 0 (wrap64 (a0 - 1)) false _ A6.out).mono ?_);rintro e w' ⟨rfl,⟨nd,rfl⟩⟩;refine ⟨_,rfl,?_⟩))
       go_ret
       exact ⟨by first|rfl|(simp;done)|(simp [*];done),by repeat (first|exact Drawn0.refl _|apply Drawn0.step)⟩
     ·rw [if_neg c5] at H
      exact absurd H (by simp)
    ·rw [if_neg c4] at H
     exact absurd H (by simp)
   ·rw [if_neg c3] at H
    have c3b0 : decide (x9_1 < (l1.length : Int)) = false:=decide_eq_false c3
    clear c3
    obtain rfl:=Option.some.inj H
    go_wp2
    go_ret
    exact ⟨by first|rfl|(simp;done)|(simp [*];done),by repeat (first|exact Drawn0.refl _|apply Drawn0.step)⟩
def spec_l3Step.f (a0 : Int) (a1_0 : Int) (a1_1 : ByteArray) (a1_2 : Int) (a1_3 : Int) : Option (Bool):=(spec_l1In.f a1_0 0 (wrap64 (a0 - 1))).bind fun t114 => (if t114 = true then ((spec_l1In.f a1_2 0 (wrap64 (a0 - 1))).bind fun t115 => (if t115 = true then ((spec_l1In.f a1_3 0 3).bind fun t116 => (if t116 = true then (if a1_1.toList = ([97] : List UInt8) then (some true) else (some (a1_1.toList == ([98] : List UInt8)))) else (some false))) else (some false))) else (some false))
set_option maxHeartbeats 8000000 in
set_option maxRecDepth 100000 in
theorem spec_l3Step.calls (a0 : Int) (a1_0 : Int) (a1_1 : ByteArray) (a1_2 : Int) (a1_3 : Int) (r : Bool) (w : World) (h : spec_l3Step.f a0 a1_0 a1_1 a1_2 a1_3 = some r) :
  Calls Try.prog 120 #[.int .i64 a0,.agg #[.int .i64 a1_0,.string a1_1,.int .i64 a1_2,.int .i64 a1_3]] w fun e w' => e = .returned (.bool r) ∧ Below w.heap.size w w':=by
 have hu92:=Try.underlying92
 have HB:=Aside0.mk (Below.refl w.heap.size w)
 have H : ((spec_l1In.f a1_0 0 (wrap64 (a0 - 1))).bind fun t114 => (if t114 = true then ((spec_l1In.f a1_2 0 (wrap64 (a0 - 1))).bind fun t115 => (if t115 = true then ((spec_l1In.f a1_3 0 3).bind fun t116 => (if t116 = true then (if a1_1.toList = ([97] : List UInt8) then (some true) else (some (a1_1.toList == ([98] : List UInt8)))) else (some false))) else (some false))) else (some false))) = some r:=h
 clear h
 replace H:=Option.bind_eq_some_iff.mp H
 obtain ⟨t114,A30,H⟩:=H
 replace H : (if t114 = true then ((spec_l1In.f a1_2 0 (wrap64 (a0 - 1))).bind fun t115 => (if t115 = true then ((spec_l1In.f a1_3 0 3).bind fun t116 => (if t116 = true then (if a1_1.toList = ([97] : List UInt8) then (some true) else (some (a1_1.toList == ([98] : List UInt8)))) else (some false))) else (some false))) else (some false)) = some r:=H
 have A3:=Aside0.mk A30
 clear A30
 by_cases c4 : t114 = true
 ·subst c4
  have H1 : ((spec_l1In.f a1_2 0 (wrap64 (a0 - 1))).bind fun t115 => (if t115 = true then ((spec_l1In.f a1_3 0 3).bind fun t116 => (if t116 = true then (if a1_1.toList = ([97] : List UInt8) then (some true) else (some (a1_1.toList == ([98] : List UInt8)))) else (some false))) else (some false))) = some r:=by rw [if_pos rfl] at H;exact H
  clear H
  have H:=H1
  clear H1
  replace H:=Option.bind_eq_some_iff.mp H
  obtain ⟨t115,A50,H⟩:=H
  replace H : (if t115 = true then ((spec_l1In.f a1_3 0 3).bind fun t116 => (if t116 = true then (if a1_1.toList = ([97] : List UInt8) then (some true) else (some (a1_1.toList == ([98] : List UInt8)))) else (some false))) else (some false)) = some r:=H
  have A5:=Aside0.mk A50
  clear A50
  by_cases c6 : t115 = true
  ·subst c6
   have H1 : ((spec_l1In.f a1_3 0 3).bind fun t116 => (if t116 = true then (if a1_1.toList = ([97] : List UInt8) then (some true) else (some (a1_1.toList == ([98] : List UInt8)))) else (some false))) = some r:=by rw [if_pos rfl] at H;exact H
   clear H
   have H:=H1
   clear H1
   replace H:=Option.bind_eq_some_iff.mp H
   obtain ⟨t116,A70,H⟩:=H
   replace H : (if t116 = true then (if a1_1.toList = ([97] : List UInt8) then (some true) else (some (a1_1.toList == ([98] : List UInt8)))) else (some false)) = some r:=H
   have A7:=Aside0.mk A70
   clear A70
   by_cases c8 : t116 = true
   ·subst c8
    have H1 : (if a1_1.toList = ([97] : List UInt8) then (some true) else (some (a1_1.toList == ([98] : List UInt8)))) = some r:=by rw [if_pos rfl] at H;exact H
    clear H
    have H:=H1
    clear H1
    by_cases c9 : a1_1.toList = ([97] : List UInt8)
    ·rw [if_pos c9] at H
     have c9b0 : (a1_1.toList == ([97] : List UInt8)) = true:=beq_iff_eq.mpr c9
     have c9b1 : (a1_1.toList != ([97] : List UInt8)) = false:=bne_eq_false_iff_eq.mpr c9
     clear c9
     obtain rfl:=Option.some.inj H
     go_enter Try.func120,Try.ntmps120
     go_wp2_with (first|((with_reducible refine bev_ (N:=3) rfl rfl (cs:=#[.int .i64 a1_0,.string a1_1,.int .i64 a1_2,.int .i64 a1_3]) (t:=92) ?hr ?_);(case hr => first|(go_simp;done)|(go_simp;rfl));intro gb113 hg w10 hbox hb;have BK113:=Aside0.mk (hbox);have GW113:=gw0_ hg HB;have GE113:=GW113;replace HB:=hs0_ HB hb;clear hb hbox hg;obtain ⟨hcz11_0,hcz11_1,hcz11_2,hcz11_3,hfz11_0,hfz11_1,hfz11_2,hfz11_3⟩:=cf4_ BK113.out)|((with_reducible refine gate_callee (f:=90) rfl ?_);refine goesL_ (some 9) rfl rfl Try.func90 (by kernel_rfl) rfl #[.int .i64 a1_0,.int .i64 0,.int .i64 (wrap64 (a0 - 1))] rfl lp_ ?_;(with_reducible refine (spec_l1In.calls a1_0 0 (wrap64 (a0 - 1)) true _ A3.out).mono ?_);rintro e w' ⟨rfl,⟨nd,rfl⟩⟩;refine ⟨_,rfl,?_⟩)|(go_at_call 90;(with_reducible refine (spec_l1In.calls a1_2 0 (wrap64 (a0 - 1)) true _ A5.out).mono ?_);rintro e w' ⟨rfl,⟨nd,rfl⟩⟩)|(go_at_call 90;(with_reducible refine (spec_l1In.calls a1_3 0 3 true _ A7.out).mono ?_);rintro e w' ⟨rfl,⟨nd,rfl⟩⟩))
     go_ret
     exact ⟨er_,be1_ HB.out GE113.out⟩
    ·rw [if_neg c9] at H
     have c9b0 : (a1_1.toList == ([97] : List UInt8)) = false:=beq_eq_false_iff_ne.mpr c9
     have c9b1 : (a1_1.toList != ([97] : List UInt8)) = true:=bne_iff_ne.mpr c9
     obtain rfl:=Option.some.inj H
     go_enter Try.func120,Try.ntmps120
     go_wp2_with (first|((with_reducible refine bev_ (N:=3) rfl rfl (cs:=#[.int .i64 a1_0,.string a1_1,.int .i64 a1_2,.int .i64 a1_3]) (t:=92) ?hr ?_);(case hr => first|(go_simp;done)|(go_simp;rfl));intro gb113 hg w12 hbox hb;have BK113:=Aside0.mk (hbox);have GW113:=gw0_ hg HB;have GE113:=GW113;replace HB:=hs0_ HB hb;clear hb hbox hg;obtain ⟨hcz13_0,hcz13_1,hcz13_2,hcz13_3,hfz13_0,hfz13_1,hfz13_2,hfz13_3⟩:=cf4_ BK113.out)|((with_reducible refine gate_callee (f:=90) rfl ?_);refine goesL_ (some 9) rfl rfl Try.func90 (by kernel_rfl) rfl #[.int .i64 a1_0,.int .i64 0,.int .i64 (wrap64 (a0 - 1))] rfl lp_ ?_;(with_reducible refine (spec_l1In.calls a1_0 0 (wrap64 (a0 - 1)) true _ A3.out).mono ?_);rintro e w' ⟨rfl,⟨nd,rfl⟩⟩;refine ⟨_,rfl,?_⟩)|(go_at_call 90;(with_reducible refine (spec_l1In.calls a1_2 0 (wrap64 (a0 - 1)) true _ A5.out).mono ?_);rintro e w' ⟨rfl,⟨nd,rfl⟩⟩)|(go_at_call 90;(with_reducible refine (spec_l1In.calls a1_3 0 3 true _ A7.out).mono ?_);rintro e w' ⟨rfl,⟨nd,rfl⟩⟩))
     go_ret
     exact ⟨er_,be1_ HB.out GE113.out⟩
   ·replace c8:=Bool.eq_false_iff.mpr c8
    subst c8
    have H1 : (some false) = some r:=by rw [if_neg (show ¬ (false = true) by decide)] at H;exact H
    clear H
    have H:=H1
    clear H1
    obtain rfl:=Option.some.inj H
    go_enter Try.func120,Try.ntmps120
    go_wp2_with (first|((with_reducible refine bev_ (N:=3) rfl rfl (cs:=#[.int .i64 a1_0,.string a1_1,.int .i64 a1_2,.int .i64 a1_3]) (t:=92) ?hr ?_);(case hr => first|(go_simp;done)|(go_simp;rfl));intro gb113 hg w14 hbox hb;have BK113:=Aside0.mk (hbox);have GW113:=gw0_ hg HB;have GE113:=GW113;replace HB:=hs0_ HB hb;clear hb hbox hg;obtain ⟨hcz15_0,hcz15_1,hcz15_2,hcz15_3,hfz15_0,hfz15_1,hfz15_2,hfz15_3⟩:=cf4_ BK113.out)|((with_reducible refine gate_callee (f:=90) rfl ?_);refine goesL_ (some 9) rfl rfl Try.func90 (by kernel_rfl) rfl #[.int .i64 a1_0,.int .i64 0,.int .i64 (wrap64 (a0 - 1))] rfl lp_ ?_;(with_reducible refine (spec_l1In.calls a1_0 0 (wrap64 (a0 - 1)) true _ A3.out).mono ?_);rintro e w' ⟨rfl,⟨nd,rfl⟩⟩;refine ⟨_,rfl,?_⟩)|(go_at_call 90;(with_reducible refine (spec_l1In.calls a1_2 0 (wrap64 (a0 - 1)) true _ A5.out).mono ?_);rintro e w' ⟨rfl,⟨nd,rfl⟩⟩)|(go_at_call 90;(with_reducible refine (spec_l1In.calls a1_3 0 3 false _ A7.out).mono ?_);rintro e w' ⟨rfl,⟨nd,rfl⟩⟩))
    go_ret
    exact ⟨er_,be1_ HB.out GE113.out⟩
  ·replace c6:=Bool.eq_false_iff.mpr c6
   subst c6
   have H1 : (some false) = some r:=by rw [if_neg (show ¬ (false = true) by decide)] at H;exact H
   clear H
   have H:=H1
   clear H1
   obtain rfl:=Option.some.inj H
   go_enter Try.func120,Try.ntmps120
   go_wp2_with (first|((with_reducible refine bev_ (N:=3) rfl rfl (cs:=#[.int .i64 a1_0,.string a1_1,.int .i64 a1_2,.int .i64 a1_3]) (t:=92) ?hr ?_);(case hr => first|(go_simp;done)|(go_simp;rfl));intro gb113 hg w16 hbox hb;have BK113:=Aside0.mk (hbox);have GW113:=gw0_ hg HB;have GE113:=GW113;replace HB:=hs0_ HB hb;clear hb hbox hg;obtain ⟨hcz17_0,hcz17_1,hcz17_2,hcz17_3,hfz17_0,hfz17_1,hfz17_2,hfz17_3⟩:=cf4_ BK113.out)|((with_reducible refine gate_callee (f:=90) rfl ?_);refine goesL_ (some 9) rfl rfl Try.func90 (by kernel_rfl) rfl #[.int .i64 a1_0,.int .i64 0,.int .i64 (wrap64 (a0 - 1))] rfl lp_ ?_;(with_reducible refine (spec_l1In.calls a1_0 0 (wrap64 (a0 - 1)) true _ A3.out).mono ?_);rintro e w' ⟨rfl,⟨nd,rfl⟩⟩;refine ⟨_,rfl,?_⟩)|(go_at_call 90;(with_reducible refine (spec_l1In.calls a1_2 0 (wrap64 (a0 - 1)) false _ A5.out).mono ?_);rintro e w' ⟨rfl,⟨nd,rfl⟩⟩))
   go_ret
   exact ⟨er_,be1_ HB.out GE113.out⟩
 ·replace c4:=Bool.eq_false_iff.mpr c4
  subst c4
  have H1 : (some false) = some r:=by rw [if_neg (show ¬ (false = true) by decide)] at H;exact H
  clear H
  have H:=H1
  clear H1
  obtain rfl:=Option.some.inj H
  go_enter Try.func120,Try.ntmps120
  go_wp2_with (first|((with_reducible refine bev_ (N:=3) rfl rfl (cs:=#[.int .i64 a1_0,.string a1_1,.int .i64 a1_2,.int .i64 a1_3]) (t:=92) ?hr ?_);(case hr => first|(go_simp;done)|(go_simp;rfl));intro gb113 hg w18 hbox hb;have BK113:=Aside0.mk (hbox);have GW113:=gw0_ hg HB;have GE113:=GW113;replace HB:=hs0_ HB hb;clear hb hbox hg;obtain ⟨hcz19_0,hcz19_1,hcz19_2,hcz19_3,hfz19_0,hfz19_1,hfz19_2,hfz19_3⟩:=cf4_ BK113.out)|((with_reducible refine gate_callee (f:=90) rfl ?_);refine goesL_ (some 9) rfl rfl Try.func90 (by kernel_rfl) rfl #[.int .i64 a1_0,.int .i64 0,.int .i64 (wrap64 (a0 - 1))] rfl lp_ ?_;(with_reducible refine (spec_l1In.calls a1_0 0 (wrap64 (a0 - 1)) false _ A3.out).mono ?_);rintro e w' ⟨rfl,⟨nd,rfl⟩⟩;refine ⟨_,rfl,?_⟩))
  go_ret
  exact ⟨er_,be1_ HB.out GE113.out⟩
end Go.Proofs.Ytfmbpoojpnoafaa.X
end
