import Derived.Test.YtfmbpoojpnoafaaKFnExactValueOf1
import Derived.Test.YtfmbpoojpnoafaaKFnExactValueOf2
import Derived.Test.YtfmbpoojpnoafaaKFnExactValueOf3
import Derived.Test.YtfmbpoojpnoafaaKFnExactValueOf5
import Derived.Test.YtfmbpoojpnoafaaKFnExactValueOf4
import Derived.Lib.Bytealg
section
namespace Go.Proofs.Ytfmbpoojpnoafaa.Y
open Go.RowKit Go.Proofs.Ytfmbpoojpnoafaa.X Go.Proofs.YtfmbpoojpnoafaaW.PrintWords Go.Proofs.YtfmbpoojpnoafaaW.PrintLast Go.Proofs.YtfmbpoojpnoafaaW.PrintMore
set_option linter.unusedVariables false
set_option linter.unusedSimpArgs false
def L (s : ByteArray) : List UInt8:=s.data.toList
theorem L_size (s : ByteArray) : s.size = (L s).length:=by simp [L]
theorem L_mk (l : List UInt8) : L ⟨l.toArray⟩ = l:=by simp [L]
theorem L_inj {s t : ByteArray} (h : L s = L t) : s = t:=by
 cases s;cases t;simp [L] at h;subst h;rfl
theorem toList_L (s : ByteArray) : s.toList = L s:=ByteArray.toList_eq s
theorem L_extract (s : ByteArray) (a b : Nat) : L (s.extract a b) = ((L s).take b).drop a:=by
 simp [L,ByteArray.data_extract,Array.toList_extract,List.extract,List.drop_take]
theorem L_append (s t : ByteArray) : L (s ++ t) = L s ++ L t:=by simp [L,ByteArray.data_append]
theorem L_nil {s : ByteArray} : s.toList = ([] : List UInt8) ↔ L s = []:=by rw [toList_L]
theorem bt_L (s : ByteArray) (i : Int) : bt s i = (((L s).getD i.toNat 0).toNat : Int):=by
 unfold bt L
 split
 ·next h =>
  have h' : i.toNat < s.data.toList.length:=by simpa using h
  rw [List.getD_eq_getElem?_getD,List.getElem?_eq_getElem h']
  simp;rfl
 ·next h =>
  have h' : s.data.toList.length ≤ i.toNat:=by simpa using h
  rw [List.getD_eq_getElem?_getD,List.getElem?_eq_none h'];rfl
theorem w64 {x : Int} (h0 : -9223372036854775808 ≤ x) (h1 : x ≤ 9223372036854775807) : wrap64 x = x:=by unfold wrap64;omega
theorem _root_.Go.Proofs.YtfmbpoojpnoafaaW.PrintWords.Ev.is {α : Type} {g : Nat → Option α} {r r' : α} (h : Ev g r) (e : r = r') : Ev g r':=e ▸ h
theorem bt_suffix {s : ByteArray} {u : List UInt8} {c : UInt8} {e : List UInt8} (h : L s = u ++ c :: e) : bt s u.length = (c.toNat : Int):=by
 rw [bt_L,h];simp [List.getD_eq_getElem?_getD]
theorem size_suffix {s : ByteArray} {u e : List UInt8} (h : L s = u ++ e) : s.size = u.length + e.length:=by rw [L_size,h];simp
theorem u8_ne {c d : UInt8} (h : c ≠ d) : ¬ ((c.toNat : Int) = (d.toNat : Int)):=by
 intro e;exact h (UInt8.toNat.inj (by exact_mod_cast e))
theorem rd_mid (pre : List Int) (x : Int) (t : List Int) : rd (pre ++ x :: t) (pre.length : Int) = x:=by simp [rd,List.getD_eq_getElem?_getD]
theorem rd_nat (l : List Int) (i : Nat) : rd l (i : Int) = l.getD i 0:=by simp [rd]
theorem snoc_len (pre : List Int) (x : Int) : (((pre ++ [x]).length : Nat) : Int) = (pre.length : Int) + 1:=by simp
theorem wf_in {n : Int} (h : (Lit.int .i64 n).wf = true) : -9223372036854775808 ≤ n ∧ n ≤ 9223372036854775807:=by
 have hmin : IntKind.i64.min = -9223372036854775808:=rfl
 have hmax : IntKind.i64.max = 9223372036854775807:=rfl
 simp only [Lit.wf,Bool.and_eq_true,decide_eq_true_eq] at h
 omega
theorem maxLen_eq : maxLen = 9223372036854775807:=rfl
theorem ev_all {α : Type} {f : Nat → Nat → Option α} {g : Nat → α} (n : Nat) (h : ∀ i,i < n → Ev (f i) (g i)) : ∃ K0,∀ K,K0 ≤ K → ∀ i,i < n → f i K = some (g i):=by
 induction n with
 | zero => exact ⟨0,fun _ _ i hi => by omega⟩
 | succ n ih =>
  obtain ⟨K0,h0⟩:=ih (fun i hi => h i (by omega))
  obtain ⟨K1,h1⟩:=h n (by omega)
  refine ⟨max K0 K1,fun K hK i hi => ?_⟩
  by_cases e : i = n
  ·subst e;exact h1 K (by omega)
  ·exact h0 K (by omega) i (by omega)
theorem ev_up {α : Type} {f : Nat → Option α} {p : Nat → Nat → Option α} {r : α} (h : Ev f r) (hp : ∃ K0,∀ K,K0 ≤ K → ∀ j,LeO (f j) (p K (j + 1))) (hm : ∀ K j,LeO (p K j) (p K (j + 1))) : Ev (fun K => p K K) r:=by
 obtain ⟨K1,h1⟩:=h
 obtain ⟨K0,h0⟩:=hp
 refine ⟨max K0 (K1 + 1),fun K hK => ?_⟩
 have a:=h0 K (by omega) K1 r (h1 K1 (Nat.le_refl _))
 exact at_rounds (g:=p K) (hm K) (show K1 + 1 ≤ K by omega) a
theorem ev_some {α : Type} {f : Nat → Option α} {r : α} (h : ∀ k,f k = some r) : Ev f r:=⟨0,fun k _ => h k⟩
theorem up_loop {β : Type} (n : Nat) (L : Nat → Nat → Option β) (r : β) (step : ∀ i,i < n → Ev (L (i + 1)) r → Ev (L i) r) (h : Ev (L n) r) : Ev (L 0) r:=by
 have go : ∀ d,d ≤ n → Ev (L (n - d)) r:=by
  intro d
  induction d with
  | zero => intro _;exact h
  | succ d ih =>
   intro hd
   have e : n - (d + 1) + 1 = n - d:=by omega
   exact step (n - (d + 1)) (by omega) (by rw [e];exact ih (by omega))
 have:=go n (Nat.le_refl _)
 rwa [Nat.sub_self] at this
def tab (N : Nat) (F : Nat → Int) : List Int:=(List.range N).map F
theorem tab_length (N : Nat) (F : Nat → Int) : (tab N F).length = N:=by simp [tab]
theorem tab_snoc (N : Nat) (F : Nat → Int) : tab N F ++ [F N] = tab (N + 1) F:=by simp [tab,List.range_succ]
theorem tab_get (N : Nat) (F : Nat → Int) (j : Nat) (h : j < N) : (tab N F).getD j 0 = F j:=by
 simp [tab,List.getD_eq_getElem?_getD,List.getElem?_map,List.getElem?_range h]
theorem tab_congr (N : Nat) (F G : Nat → Int) (h : ∀ j,j < N → F j = G j) : tab N F = tab N G:=by
 unfold tab
 exact List.map_congr_left (fun j hj => h j (List.mem_range.mp hj))
theorem mem_tab {N : Nat} {F : Nat → Int} {x : Int} : x ∈ tab N F ↔ ∃ j,j < N ∧ F j = x:=by simp [tab]
theorem eq_tab (l : List Int) (N : Nat) (h : l.length = N) : l = tab N (fun j => l.getD j 0):=by
 apply List.ext_getElem
 ·simp [tab,h]
 ·intro i h1 h2
  simp [tab,List.getD_eq_getElem?_getD,List.getElem?_eq_getElem h1]
theorem fold_snoc {β : Type} (n : Nat) (f : β → Nat → β) (b : β) : (List.range (n + 1)).foldl f b = f ((List.range n).foldl f b) n:=by simp [List.range_succ]
theorem toIntS_ev (l : List Int) (h : l.length ≤ 1048576) : Ev (fun k => laws_toIntS.f k l) l:=by
 have go : ∀ (t pre : List Int),l = pre ++ t → Ev (fun k => laws_toIntS.l0 k l (pre ++ List.replicate t.length 0) (pre.length : Int)) l:=by
  intro t
  induction t with
  | nil =>
   intro pre hl
   refine Ev.step (f:=fun _ => some l) (fun k => ?_) (Ev.now _)
   simp only [laws_toIntS.l0]
   rw [if_neg (by rw [hl];simp)]
   simp [hl]
  | cons x t ih =>
   intro pre hl
   have hlen : l.length = pre.length + (t.length + 1):=by rw [hl];simp
   refine Ev.step (fun k => ?_) (ih (pre ++ [x]) (by simp [hl]))
   simp only [laws_toIntS.l0]
   rw [if_pos (by omega),if_pos (by omega),if_pos (by simp;omega),w64 (by omega) (by omega),hl,rd_mid,snoc_len,← hl]
   congr 1
   simp [List.replicate_succ,List.set_append]
 refine Ev.congr (fun k => ?_) (go l [] rfl)
 unfold laws_toIntS.f
 rw [if_pos (by omega),if_pos (by omega)]
 simp
theorem eqIntS_ev (a b : List Int) (h : a.length ≤ 1000000000) : Ev (fun k => laws_eqIntS.f k a b) (decide (a = b)):=by
 by_cases hl : a.length = b.length
 ·have go : ∀ (t u pre : List Int),a = pre ++ t → b = pre ++ u → Ev (fun k => laws_eqIntS.l0 k a b (pre.length : Int)) (decide (a = b)):=by
   intro t
   induction t with
   | nil =>
    intro u pre ha hb
    have hu : u = []:=by
     have h1:=congrArg List.length ha
     have h2:=congrArg List.length hb
     simp at h1 h2
     exact List.length_eq_zero_iff.mp (by omega)
    subst hu
    have hab : a = b:=by rw [ha,hb]
    refine Ev.step (f:=fun _ => some true) (fun k => ?_) ((Ev.now _).is (by rw [decide_eq_true hab]))
    simp only [laws_eqIntS.l0]
    rw [if_neg (by rw [ha];simp)]
   | cons x t ih =>
    intro u pre ha hb
    have hla : a.length = pre.length + (t.length + 1):=by rw [ha];simp
    cases u with
    | nil => have h2:=congrArg List.length hb;simp at h2;omega
    | cons y u =>
     by_cases hxy : x = y
     ·subst hxy
      refine Ev.step (fun k => ?_) (ih u (pre ++ [x]) (by simp [ha]) (by simp [hb]))
      simp only [laws_eqIntS.l0]
      rw [if_pos (by omega),if_pos (by omega),if_pos (by omega),w64 (by omega) (by omega),snoc_len,if_pos (by rw [ha,hb,rd_mid,rd_mid])]
     ·have hab : ¬ a = b:=by
       intro e
       rw [ha,hb] at e
       have:=List.append_cancel_left e
       simp at this
       exact hxy this.1
      refine Ev.step (f:=fun _ => some false) (fun k => ?_) ((Ev.now _).is (by rw [decide_eq_false hab]))
      simp only [laws_eqIntS.l0]
      rw [if_pos (by omega),if_pos (by omega),if_pos (by omega),if_neg (by rw [ha,hb,rd_mid,rd_mid];exact hxy)]
  refine Ev.congr (fun k => ?_) (go a b [] rfl rfl)
  unfold laws_eqIntS.f
  rw [if_pos (by omega)];rfl
 ·have hab : ¬ a = b:=fun e => hl (by rw [e])
  refine Ev.congr (f:=fun _ => some false) (fun k => ?_) ((Ev.now _).is (by rw [decide_eq_false hab]))
  unfold laws_eqIntS.f
  rw [if_neg (by omega)]
theorem toMatrix_ev (n : Int) (l : List Int) (h : l.length ≤ 1048576) : Ev (fun k => laws_toMatrix.f k n l) (n,l):=by
 refine Ev.congr (f:=?f1) (fun k => ?h1) ?k1
 case h1 => unfold laws_toMatrix.f;exact rfl
 exact Ev.bind (toIntS_ev l h) (Ev.now _)
theorem eqMatrix_ev (n : Int) (l : List Int) (h : l.length ≤ 1000000000) : Ev (fun k => laws_eqMatrix.f k n l n l) true:=by
 refine Ev.congr (f:=?f2) (fun k => ?h2) ?k2
 case h2 => unfold laws_eqMatrix.f;rw [if_pos rfl] <;> exact rfl
 exact Ev.bind (eqIntS_ev l l h) (Ev.congr (f:=fun _ => some true) (fun k => by simp) (Ev.now _))
theorem szMatrix_eq (n : Int) (l : List Int) (z : Int) (h : l.length ≤ maxLen) (h0 : 0 ≤ z) (h1 : z ≤ 1048576) : laws_szMatrix.f n l z = some (if (l.length : Int) ≤ z then z - l.length else -1):=by
 rw [maxLen_eq] at h
 unfold laws_szMatrix.f laws_szIntS.f
 rw [w64 (by omega) (by omega)]
 by_cases hl : (l.length : Int) ≤ z
 ·rw [if_neg (by omega),if_pos hl,Option.bind_some,if_neg (by omega)]
 ·rw [if_pos (by omega),if_neg hl];rfl
theorem Ev_t {α : Type} {f g : Nat → Option α} {r : α} {c : Prop} [Decidable c] (h : c) (k : Ev f r) : Ev (fun n => if c then f n else g n) r:=Ev.congr (fun n => if_pos h) k
theorem Ev_f {α : Type} {f g : Nat → Option α} {r : α} {c : Prop} [Decidable c] (h : ¬ c) (k : Ev g r) : Ev (fun n => if c then f n else g n) r:=Ev.congr (fun n => if_neg h) k
theorem Ev_sz {α : Type} {o : Option Int} {z : Int} {g : Nat → Int → Option α} {r : α} (h : o = some z) (k : Ev (fun n => g n z) r) : Ev (fun n => o.bind (g n)) r:=Ev.congr (fun n => by rw [h];rfl) k
end Go.Proofs.Ytfmbpoojpnoafaa.Y
end
section
namespace Go.Proofs.Ytfmbpoojpnoafaa.X
open Go.RowKit Go.Proofs.YtfmbpoojpnoafaaW.PrintWords Go.Proofs.YtfmbpoojpnoafaaW.PrintLast Go.Proofs.YtfmbpoojpnoafaaW.PrintMore
attribute [local go_sem] max2_int min2_int max_two min_two max_three min_three max_four min_four
set_option linter.unusedVariables false
set_option linter.unusedSimpArgs false
def spec_CostValid.f (a0 : Int) : Option (Bool):=(spec_l1In.f a0 0 1000000).bind fun t128 => (some t128)
set_option maxHeartbeats 8000000 in
set_option maxRecDepth 100000 in
theorem spec_CostValid.calls (a0 : Int) (r : Bool) (w : World) (h : spec_CostValid.f a0 = some r) :
  Calls Try.prog 178 #[.int .i64 a0] w fun e w' => e = .returned (.bool r) ∧ Drawn0 w w':=by
 have H : ((spec_l1In.f a0 0 1000000).bind fun t128 => (some t128)) = some r:=h
 clear h
 replace H:=Option.bind_eq_some_iff.mp H
 obtain ⟨t128,A20,H⟩:=H
 replace H : (some t128) = some r:=H
 have A2:=Aside0.mk A20
 clear A20
 obtain rfl:=Option.some.inj H
 go_enter Try.func178,Try.ntmps178
 go_wp2_with (first|((with_reducible refine gate_callee (f:=90) rfl ?_);refine goesL_ (some 4) rfl rfl Try.func90 (by kernel_rfl) rfl #[.int .i64 a0,.int .i64 0,.int .i64 1000000] rfl lp_ ?_;(with_reducible refine (spec_l1In.calls a0 0 1000000 t128 _ A2.out).mono ?_);rintro e w' ⟨rfl,⟨nd,rfl⟩⟩;refine ⟨_,rfl,?_⟩))
 go_ret
 exact ⟨by first|rfl|(simp;done)|(simp [*];done),by repeat (first|exact Drawn0.refl _|apply Drawn0.step)⟩
def spec_l1All.l0 : Nat → List Int → Int → Int → Option (Bool)
 | 0,_,_,_ => none
 | k + 1,x5,x6,x7 => if x7 < x6 then (if 0 ≤ x7 then (if x7 < (x5.length : Int) then ((spec_CostValid.f (rd x5 x7)).bind fun t130 => (if t130 = true then (spec_l1All.l0 k x5 x6 (wrap64 (x7 + 1))) else (some false))) else (none)) else (none)) else (some true)
def spec_l1All.f (k : Nat) (l0 : List Int) : Option (Bool):=spec_l1All.l0 k l0 (l0.length : Int) 0
theorem spec_l1All.mono_l : ∀ k,(∀ y0 y1 y2,LeO (spec_l1All.l0 k y0 y1 y2) (spec_l1All.l0 (k + 1) y0 y1 y2))
 | 0 => fun _ _ _ r h => by simp [spec_l1All.l0] at h
 | k + 1 => by
  have ih0:=spec_l1All.mono_l k
  ·intro y0 y1 y2
   unfold spec_l1All.l0
   repeat' first
   | (with_reducible exact ih0 _ _ _)
   | (with_reducible first|exact LeO.refl _|exact LeO.none _|refine LeO.ite ?_ ?_|refine LeO.bind ?_ (fun _ => ?_))
   | exact ih0 _ _ _
   | exact LeO.none _
   | refine LeO.ite ?_ ?_
   | refine LeO.bind ?_ (fun _ => ?_)
theorem spec_l1All.mono : ∀ a0 k,LeO (spec_l1All.f k a0) (spec_l1All.f (k + 1) a0):=by
 intro a0 k
 have ih0:=spec_l1All.mono_l k
 unfold spec_l1All.f
 repeat' first
   | (with_reducible exact ih0 _ _ _)
   | (with_reducible first|exact LeO.refl _|exact LeO.none _|refine LeO.ite ?_ ?_|refine LeO.bind ?_ (fun _ => ?_))
   | exact ih0 _ _ _
   | exact LeO.none _
   | refine LeO.ite ?_ ?_
   | refine LeO.bind ?_ (fun _ => ?_)
set_option maxHeartbeats 8000000 in
set_option maxRecDepth 100000 in
theorem spec_l1All.calls (k : Nat) (A0 : Option Addr) (c0 : Nat) (l0 : List Int) (r : Bool) (w : World) (hr0 : Kd.C (Kd.int .i64) w A0 l0.length l0) (hc0 : l0.length ≤ c0) (h : spec_l1All.f k l0 = some r) :
  Calls Try.prog 159 #[.slice A0 l0.length c0] w fun e w' => e = .returned (.bool r) ∧ Drawn0 w w':=by
 have HR0:=Aside0.mk hr0
 have HC0:=Aside0.mk hc0
 clear hr0 hc0
 have H : (spec_l1All.l0 k l0 (l0.length : Int) 0) = some r:=h
 clear h
 have H':=Aside0.mk H
 clear H
 go_enter Try.func159,Try.ntmps159
 go_wp2
 go_loopg [7] k (fun kq v7 w' => ∃ (x7_1 : Int),v7 = .int .i64 x7_1 ∧ Aside0 (spec_l1All.l0 kq l0 (l0.length : Int) x7_1 = some r) ∧ Aside0 (kq ≤ k) ∧ Drawn0 w w')
 case atStart => exact ⟨(0),rs_,H',⟨Nat.le_refl _⟩,by repeat (first|exact Drawn0.refl _|apply Drawn0.step)⟩
 case round =>
  clear H'
  obtain ⟨x7_1,rfl,HA,HK1,⟨m1,rfl⟩⟩:=hrel
  cases gk with
  | zero => exact absurd HA.out (by simp [spec_l1All.l0])
  | succ k1 =>
   have H:=HA.out
   clear HA
   simp only [spec_l1All.l0] at H
   by_cases c2 : x7_1 < (l0.length : Int)
   ·rw [if_pos c2] at H
    have c2b0 : decide (x7_1 < (l0.length : Int)) = true:=decide_eq_true c2
    clear c2
    by_cases c3 : 0 ≤ x7_1
    ·rw [if_pos c3] at H
     have c3b0 : decide (0 ≤ x7_1) = true:=decide_eq_true c3
     clear c3
     by_cases c4 : x7_1 < (l0.length : Int)
     ·rw [if_pos c4] at H
      have c4b0 : decide (x7_1 < (l0.length : Int)) = true:=decide_eq_true c4
      clear c4
      replace H:=Option.bind_eq_some_iff.mp H
      obtain ⟨t130,A50,H⟩:=H
      replace H : (if t130 = true then (spec_l1All.l0 k1 l0 (l0.length : Int) (wrap64 (x7_1 + 1))) else (some false)) = some r:=H
      have A5:=Aside0.mk A50
      clear A50
      by_cases c6 : t130 = true
      ·subst c6
       have H1 : (spec_l1All.l0 k1 l0 (l0.length : Int) (wrap64 (x7_1 + 1))) = some r:=by rw [if_pos rfl] at H;exact H
       clear H
       have H:=H1
       clear H1
       have H':=Aside0.mk H
       clear H
       have p129 : 0 ≤ (x7_1 : Int):=od_
       have q129 : x7_1 < (l0.length : Int):=od_
       obtain ⟨ad129,e129,hx129_0⟩:=Kd.at_int HR0.out x7_1 p129 q129
       cases e129
       replace p129:=eq_true p129
       replace q129:=eq_true q129
       go_wp2_with (first|((with_reducible refine gate_callee (f:=178) rfl ?_);refine goesL_ (some 12) rfl rfl Try.func178 (by kernel_rfl) rfl #[.int .i64 (rd l0 x7_1)] rfl lp_ ?_;(with_reducible refine (spec_CostValid.calls (rd l0 x7_1) true _ A5.out).mono ?_);rintro e w' ⟨rfl,⟨nd,rfl⟩⟩;refine ⟨_,rfl,?_⟩))
       go_roundg k1
       case measure => have:=HK1.out;omega
       case rel => exact ⟨(wrap64 (x7_1 + 1)),rs_,H',⟨by have:=HK1.out;omega⟩,by repeat (first|exact Drawn0.refl _|apply Drawn0.step)⟩
      ·replace c6:=Bool.eq_false_iff.mpr c6
       subst c6
       have H1 : (some false) = some r:=by rw [if_neg (show ¬ (false = true) by decide)] at H;exact H
       clear H
       have H:=H1
       clear H1
       obtain rfl:=Option.some.inj H
       have p129 : 0 ≤ (x7_1 : Int):=od_
       have q129 : x7_1 < (l0.length : Int):=od_
       obtain ⟨ad129,e129,hx129_0⟩:=Kd.at_int HR0.out x7_1 p129 q129
       cases e129
       replace p129:=eq_true p129
       replace q129:=eq_true q129
       go_wp2_with (first|((with_reducible refine gate_callee (f:=178) rfl ?_);refine goesL_ (some 12) rfl rfl Try.func178 (by kernel_rfl) rfl #[.int .i64 (rd l0 x7_1)] rfl lp_ ?_;(with_reducible refine (spec_CostValid.calls (rd l0 x7_1) false _ A5.out).mono ?_);rintro e w' ⟨rfl,⟨nd,rfl⟩⟩;refine ⟨_,rfl,?_⟩))
       go_ret
       exact ⟨by first|rfl|(simp;done)|(simp [*];done),by repeat (first|exact Drawn0.refl _|apply Drawn0.step)⟩
     ·rw [if_neg c4] at H
      exact absurd H (by simp)
    ·rw [if_neg c3] at H
     exact absurd H (by simp)
   ·rw [if_neg c2] at H
    have c2b0 : decide (x7_1 < (l0.length : Int)) = false:=decide_eq_false c2
    clear c2
    obtain rfl:=Option.some.inj H
    go_wp2
    go_ret
    exact ⟨by first|rfl|(simp;done)|(simp [*];done),by repeat (first|exact Drawn0.refl _|apply Drawn0.step)⟩
def spec_MatrixValid.f (k : Nat) (a0_0 : Int) (l0_1 : List Int) : Option (Bool):=(spec_l1In.f a0_0 1 4).bind fun t132 => (if t132 = true then (if (l0_1.length : Int) = (wrap64 (a0_0 * a0_0)) then ((spec_l1All.f k l0_1).bind fun t133 => (some t133)) else (some false)) else (some false))
theorem spec_MatrixValid.mono : ∀ a0 a1 k,LeO (spec_MatrixValid.f k a0 a1) (spec_MatrixValid.f (k + 1) a0 a1):=by
 intro a0 a1 k
 unfold spec_MatrixValid.f
 repeat' first
   | (with_reducible exact spec_l1All.mono _ _)
   | (with_reducible first|exact LeO.refl _|exact LeO.none _|refine LeO.ite ?_ ?_|refine LeO.bind ?_ (fun _ => ?_))
   | exact spec_l1All.mono _ _
   | exact LeO.none _
   | refine LeO.ite ?_ ?_
   | refine LeO.bind ?_ (fun _ => ?_)
set_option maxHeartbeats 8000000 in
set_option maxRecDepth 100000 in
theorem spec_MatrixValid.calls (k : Nat) (a0_0 : Int) (A0_1 : Option Addr) (c0_1 : Nat) (l0_1 : List Int) (r : Bool) (w : World) (hr0_1 : Kd.C (Kd.int .i64) w A0_1 l0_1.length l0_1) (hc0_1 : l0_1.length ≤ c0_1) (h : spec_MatrixValid.f k a0_0 l0_1 = some r) :
  Calls Try.prog 122 #[.agg #[.int .i64 a0_0,.slice A0_1 l0_1.length c0_1]] w fun e w' => e = .returned (.bool r) ∧ Below w.heap.size w w':=by
 have hu35:=Try.underlying35
 have HR0_1:=Aside0.mk hr0_1
 have HC0_1:=Aside0.mk hc0_1
 clear hr0_1 hc0_1
 have HB:=Aside0.mk (Below.refl w.heap.size w)
 have H : ((spec_l1In.f a0_0 1 4).bind fun t132 => (if t132 = true then (if (l0_1.length : Int) = (wrap64 (a0_0 * a0_0)) then ((spec_l1All.f k l0_1).bind fun t133 => (some t133)) else (some false)) else (some false))) = some r:=h
 clear h
 replace H:=Option.bind_eq_some_iff.mp H
 obtain ⟨t132,A20,H⟩:=H
 replace H : (if t132 = true then (if (l0_1.length : Int) = (wrap64 (a0_0 * a0_0)) then ((spec_l1All.f k l0_1).bind fun t133 => (some t133)) else (some false)) else (some false)) = some r:=H
 have A2:=Aside0.mk A20
 clear A20
 by_cases c3 : t132 = true
 ·subst c3
  have H1 : (if (l0_1.length : Int) = (wrap64 (a0_0 * a0_0)) then ((spec_l1All.f k l0_1).bind fun t133 => (some t133)) else (some false)) = some r:=by rw [if_pos rfl] at H;exact H
  clear H
  have H:=H1
  clear H1
  by_cases c4 : (l0_1.length : Int) = (wrap64 (a0_0 * a0_0))
  ·rw [if_pos c4] at H
   have c4b0 : ((l0_1.length : Int) == (wrap64 (a0_0 * a0_0))) = true:=beq_iff_eq.mpr c4
   have c4b1 : ((l0_1.length : Int) != (wrap64 (a0_0 * a0_0))) = false:=bne_eq_false_iff_eq.mpr c4
   clear c4
   replace H:=Option.bind_eq_some_iff.mp H
   obtain ⟨t133,A50,H⟩:=H
   replace H : (some t133) = some r:=H
   have A5:=Aside0.mk A50
   clear A50
   obtain rfl:=Option.some.inj H
   go_enter Try.func122,Try.ntmps122
   go_wp2_with (first|((with_reducible refine gate_dst (N:=1) rfl ?_);(try (refine gate_guard (by rfl) ?_;dsimp only));refine box_event ?hg (N:=1) ?hd (cs:=#[.int .i64 a0_0,.slice A0_1 l0_1.length c0_1]) (t:=35) ?hr ?_;(case hd => rfl);(case hg => rfl);(case hr => first|(go_simp;done)|(go_simp;rfl));intro gb131 hg w6 hbox hb;have BK131:=Aside0.mk (hbox);have GW131:=gw0_ hg HB;have GE131:=GW131;replace HB:=hs0_ HB hb;clear hb hbox hg;obtain ⟨hcz7_0,hcz7_1,hfz7_0,hfz7_1⟩:=cf2_ BK131.out)|((with_reducible refine gate_callee (f:=90) rfl ?_);refine goesL_ (some 5) rfl rfl Try.func90 (by kernel_rfl) rfl #[.int .i64 a0_0,.int .i64 1,.int .i64 4] rfl lp_ ?_;(with_reducible refine (spec_l1In.calls a0_0 1 4 true _ A2.out).mono ?_);rintro e w' ⟨rfl,⟨nd,rfl⟩⟩;refine ⟨_,rfl,?_⟩)|(go_at_call 159;(with_reducible refine (spec_l1All.calls k _ _ l0_1 t133 _ ?side1 ?side2 A5.out).mono ?_);(case side1 => exact cr_ (Kd.C_below HR0_1.out (be1_ HB.out GE131.out)));(case side2 => exact HC0_1.out);rintro e w' ⟨rfl,⟨nd,rfl⟩⟩))
   go_ret
   exact ⟨er_,be1_ HB.out GE131.out⟩
  ·rw [if_neg c4] at H
   have c4b0 : ((l0_1.length : Int) == (wrap64 (a0_0 * a0_0))) = false:=beq_eq_false_iff_ne.mpr c4
   have c4b1 : ((l0_1.length : Int) != (wrap64 (a0_0 * a0_0))) = true:=bne_iff_ne.mpr c4
   obtain rfl:=Option.some.inj H
   go_enter Try.func122,Try.ntmps122
   go_wp2_with (first|((with_reducible refine gate_dst (N:=1) rfl ?_);(try (refine gate_guard (by rfl) ?_;dsimp only));refine box_event ?hg (N:=1) ?hd (cs:=#[.int .i64 a0_0,.slice A0_1 l0_1.length c0_1]) (t:=35) ?hr ?_;(case hd => rfl);(case hg => rfl);(case hr => first|(go_simp;done)|(go_simp;rfl));intro gb131 hg w8 hbox hb;have BK131:=Aside0.mk (hbox);have GW131:=gw0_ hg HB;have GE131:=GW131;replace HB:=hs0_ HB hb;clear hb hbox hg;obtain ⟨hcz9_0,hcz9_1,hfz9_0,hfz9_1⟩:=cf2_ BK131.out)|((with_reducible refine gate_callee (f:=90) rfl ?_);refine goesL_ (some 5) rfl rfl Try.func90 (by kernel_rfl) rfl #[.int .i64 a0_0,.int .i64 1,.int .i64 4] rfl lp_ ?_;(with_reducible refine (spec_l1In.calls a0_0 1 4 true _ A2.out).mono ?_);rintro e w' ⟨rfl,⟨nd,rfl⟩⟩;refine ⟨_,rfl,?_⟩))
   go_ret
   exact ⟨er_,be1_ HB.out GE131.out⟩
 ·replace c3:=Bool.eq_false_iff.mpr c3
  subst c3
  have H1 : (some false) = some r:=by rw [if_neg (show ¬ (false = true) by decide)] at H;exact H
  clear H
  have H:=H1
  clear H1
  obtain rfl:=Option.some.inj H
  go_enter Try.func122,Try.ntmps122
  go_wp2_with (first|((with_reducible refine gate_dst (N:=1) rfl ?_);(try (refine gate_guard (by rfl) ?_;dsimp only));refine box_event ?hg (N:=1) ?hd (cs:=#[.int .i64 a0_0,.slice A0_1 l0_1.length c0_1]) (t:=35) ?hr ?_;(case hd => rfl);(case hg => rfl);(case hr => first|(go_simp;done)|(go_simp;rfl));intro gb131 hg w10 hbox hb;have BK131:=Aside0.mk (hbox);have GW131:=gw0_ hg HB;have GE131:=GW131;replace HB:=hs0_ HB hb;clear hb hbox hg;obtain ⟨hcz11_0,hcz11_1,hfz11_0,hfz11_1⟩:=cf2_ BK131.out)|((with_reducible refine gate_callee (f:=90) rfl ?_);refine goesL_ (some 5) rfl rfl Try.func90 (by kernel_rfl) rfl #[.int .i64 a0_0,.int .i64 1,.int .i64 4] rfl lp_ ?_;(with_reducible refine (spec_l1In.calls a0_0 1 4 false _ A2.out).mono ?_);rintro e w' ⟨rfl,⟨nd,rfl⟩⟩;refine ⟨_,rfl,?_⟩))
  go_ret
  exact ⟨er_,be1_ HB.out GE131.out⟩
def spec_GradesValid.l0 : Nat → List Int → Int → Int → Int → List Int → Option (Bool)
 | 0,_,_,_,_,_ => none
 | k + 1,x6,x7,x8,x135000,x135001 => if x8 < x7 then (if 0 ≤ x8 then (if x8 < (x6.length : Int) then ((spec_l1In.f (rd x6 x8) 0 3).bind fun t136 => (if t136 = true then (spec_GradesValid.l0 k x6 x7 (wrap64 (x8 + 1)) x135000 x135001) else (some false))) else (none)) else (none)) else ((spec_MatrixValid.f k x135000 x135001).bind fun t137 => (some t137))
def spec_GradesValid.f (k : Nat) (a0_0 : Int) (l0_1 : List Int) : Option (Bool):=spec_GradesValid.l0 k l0_1 (l0_1.length : Int) 0 a0_0 l0_1
theorem spec_GradesValid.mono_l : ∀ k,(∀ y0 y1 y2 y3 y4,LeO (spec_GradesValid.l0 k y0 y1 y2 y3 y4) (spec_GradesValid.l0 (k + 1) y0 y1 y2 y3 y4))
 | 0 => fun _ _ _ _ _ r h => by simp [spec_GradesValid.l0] at h
 | k + 1 => by
  have ih0:=spec_GradesValid.mono_l k
  ·intro y0 y1 y2 y3 y4
   unfold spec_GradesValid.l0
   repeat' first
   | (with_reducible exact ih0 _ _ _ _ _)
   | (with_reducible exact spec_MatrixValid.mono _ _ _)
   | (with_reducible first|exact LeO.refl _|exact LeO.none _|refine LeO.ite ?_ ?_|refine LeO.bind ?_ (fun _ => ?_))
   | exact ih0 _ _ _ _ _
   | exact spec_MatrixValid.mono _ _ _
   | exact LeO.none _
   | refine LeO.ite ?_ ?_
   | refine LeO.bind ?_ (fun _ => ?_)
theorem spec_GradesValid.mono : ∀ a0 a1 k,LeO (spec_GradesValid.f k a0 a1) (spec_GradesValid.f (k + 1) a0 a1):=by
 intro a0 a1 k
 have ih0:=spec_GradesValid.mono_l k
 unfold spec_GradesValid.f
 repeat' first
   | (with_reducible exact ih0 _ _ _ _ _)
   | (with_reducible exact spec_MatrixValid.mono _ _ _)
   | (with_reducible first|exact LeO.refl _|exact LeO.none _|refine LeO.ite ?_ ?_|refine LeO.bind ?_ (fun _ => ?_))
   | exact ih0 _ _ _ _ _
   | exact spec_MatrixValid.mono _ _ _
   | exact LeO.none _
   | refine LeO.ite ?_ ?_
   | refine LeO.bind ?_ (fun _ => ?_)
set_option maxHeartbeats 8000000 in
set_option maxRecDepth 100000 in
theorem spec_GradesValid.calls (k : Nat) (a0_0 : Int) (A0_1 : Option Addr) (c0_1 : Nat) (l0_1 : List Int) (r : Bool) (w : World) (hr0_1 : Kd.C (Kd.int .i64) w A0_1 l0_1.length l0_1) (hc0_1 : l0_1.length ≤ c0_1) (h : spec_GradesValid.f k a0_0 l0_1 = some r) :
  Calls Try.prog 68 #[.agg #[.int .i64 a0_0,.slice A0_1 l0_1.length c0_1]] w fun e w' => e = .returned (.bool r) ∧ Below w.heap.size w w':=by
 have hu35:=Try.underlying35
 have HR0_1:=Aside0.mk hr0_1
 have HC0_1:=Aside0.mk hc0_1
 clear hr0_1 hc0_1
 have HB:=Aside0.mk (Below.refl w.heap.size w)
 have H : (spec_GradesValid.l0 k l0_1 (l0_1.length : Int) 0 a0_0 l0_1) = some r:=h
 clear h
 have H':=Aside0.mk H
 clear H
 go_enter Try.func68,Try.ntmps68
 go_wp2_with (first|((with_reducible refine bev_ (N:=1) rfl rfl (cs:=#[.int .i64 a0_0,.slice A0_1 l0_1.length c0_1]) (t:=35) ?hr ?_);(case hr => first|(go_simp;done)|(go_simp;rfl));intro gb134 hg w2 hbox hb;have BK134:=Aside0.mk (hbox);have GW134:=gw0_ hg HB;have GE134:=GW134;replace HB:=hs0_ HB hb;clear hb hbox hg;obtain ⟨hcz3_0,hcz3_1,hfz3_0,hfz3_1⟩:=cf2_ BK134.out))
 go_loopg [8] k (fun kq v8 w' => ∃ (x8_1 : Int),v8 = .int .i64 x8_1 ∧ Aside0 (spec_GradesValid.l0 kq l0_1 (l0_1.length : Int) x8_1 a0_0 l0_1 = some r) ∧ Aside0 (kq ≤ k) ∧ Aside0 (w'.heap[gb134]? = some (.cells #[.int .i64 a0_0,(.slice A0_1 l0_1.length c0_1)] 35 (0,0))) ∧ Aside0 (Below w.heap.size w w'))
 case atStart => exact ⟨(0),rs_,H',⟨Nat.le_refl _⟩,⟨pe_ BK134.out⟩,⟨be1_ HB.out GE134.out⟩⟩
 case round =>
  clear H'
  obtain ⟨x8_1,rfl,HA,HK1,BK134,HB⟩:=hrel
  cases gk with
  | zero => exact absurd HA.out (by simp [spec_GradesValid.l0])
  | succ k1 =>
   have H:=HA.out
   clear HA
   simp only [spec_GradesValid.l0] at H
   by_cases c4 : x8_1 < (l0_1.length : Int)
   ·rw [if_pos c4] at H
    have c4b0 : decide (x8_1 < (l0_1.length : Int)) = true:=decide_eq_true c4
    clear c4
    by_cases c5 : 0 ≤ x8_1
    ·rw [if_pos c5] at H
     have c5b0 : decide (0 ≤ x8_1) = true:=decide_eq_true c5
     clear c5
     by_cases c6 : x8_1 < (l0_1.length : Int)
     ·rw [if_pos c6] at H
      have c6b0 : decide (x8_1 < (l0_1.length : Int)) = true:=decide_eq_true c6
      clear c6
      replace H:=Option.bind_eq_some_iff.mp H
      obtain ⟨t136,A70,H⟩:=H
      replace H : (if t136 = true then (spec_GradesValid.l0 k1 l0_1 (l0_1.length : Int) (wrap64 (x8_1 + 1)) a0_0 l0_1) else (some false)) = some r:=H
      have A7:=Aside0.mk A70
      clear A70
      by_cases c8 : t136 = true
      ·subst c8
       have H1 : (spec_GradesValid.l0 k1 l0_1 (l0_1.length : Int) (wrap64 (x8_1 + 1)) a0_0 l0_1) = some r:=by rw [if_pos rfl] at H;exact H
       clear H
       have H:=H1
       clear H1
       have H':=Aside0.mk H
       clear H
       have p135 : 0 ≤ (x8_1 : Int):=od_
       have q135 : x8_1 < (l0_1.length : Int):=od_
       obtain ⟨ad135,e135,hx135_0⟩:=Kd.at_int HR0_1.out x8_1 p135 q135
       cases e135
       replace hx135_0:=hbc_ HB.out hx135_0
       replace p135:=eq_true p135
       replace q135:=eq_true q135
       go_wp2_with (first|((with_reducible refine gate_callee (f:=90) rfl ?_);refine goesL_ (some 13) rfl rfl Try.func90 (by kernel_rfl) rfl #[.int .i64 (rd l0_1 x8_1),.int .i64 0,.int .i64 3] rfl lp_ ?_;(with_reducible refine (spec_l1In.calls (rd l0_1 x8_1) 0 3 true _ A7.out).mono ?_);rintro e w' ⟨rfl,⟨nd,rfl⟩⟩;refine ⟨_,rfl,?_⟩))
       go_roundg k1
       case measure => have:=HK1.out;omega
       case rel => exact ⟨(wrap64 (x8_1 + 1)),rs_,H',⟨by have:=HK1.out;omega⟩,⟨pe_ BK134.out⟩,⟨be1_ HB.out GE134.out⟩⟩
      ·replace c8:=Bool.eq_false_iff.mpr c8
       subst c8
       have H1 : (some false) = some r:=by rw [if_neg (show ¬ (false = true) by decide)] at H;exact H
       clear H
       have H:=H1
       clear H1
       obtain rfl:=Option.some.inj H
       have p135 : 0 ≤ (x8_1 : Int):=od_
       have q135 : x8_1 < (l0_1.length : Int):=od_
       obtain ⟨ad135,e135,hx135_0⟩:=Kd.at_int HR0_1.out x8_1 p135 q135
       cases e135
       replace hx135_0:=hbc_ HB.out hx135_0
       replace p135:=eq_true p135
       replace q135:=eq_true q135
       go_wp2_with (first|((with_reducible refine gate_callee (f:=90) rfl ?_);refine goesL_ (some 13) rfl rfl Try.func90 (by kernel_rfl) rfl #[.int .i64 (rd l0_1 x8_1),.int .i64 0,.int .i64 3] rfl lp_ ?_;(with_reducible refine (spec_l1In.calls (rd l0_1 x8_1) 0 3 false _ A7.out).mono ?_);rintro e w' ⟨rfl,⟨nd,rfl⟩⟩;refine ⟨_,rfl,?_⟩))
       go_ret
       exact ⟨er_,be1_ HB.out GE134.out⟩
     ·rw [if_neg c6] at H
      exact absurd H (by simp)
    ·rw [if_neg c5] at H
     exact absurd H (by simp)
   ·rw [if_neg c4] at H
    have c4b0 : decide (x8_1 < (l0_1.length : Int)) = false:=decide_eq_false c4
    clear c4
    replace H:=Option.bind_eq_some_iff.mp H
    obtain ⟨t137,A90,H⟩:=H
    replace H : (some t137) = some r:=H
    have A9:=Aside0.mk A90
    clear A90
    obtain rfl:=Option.some.inj H
    obtain ⟨hcz10_0,hcz10_1,hfz10_0,hfz10_1⟩:=cf2_ BK134.out
    go_wp2_with (first|((with_reducible refine gate_callee (f:=122) rfl ?_);refine goesL_ (some 17) rfl rfl Try.func122 (by kernel_rfl) rfl #[.agg #[.int .i64 a0_0,.slice A0_1 l0_1.length c0_1]] rfl lp_ ?_;(with_reducible refine (spec_MatrixValid.calls k1 a0_0 _ _ l0_1 t137 _ ?side1 ?side2 A9.out).mono ?_);(case side1 => exact cr_ (Kd.C_below HR0_1.out HB.out));(case side2 => exact HC0_1.out);rintro e w11 ⟨rfl,hb⟩;refine ⟨_,rfl,?_⟩;replace BK134:=kc_ BK134 hb;replace HB:=hs1_ HB GE134 hb;(try clear hb);(try clear hb2);(try clear hk);(try clear hi)))
    go_ret
    exact ⟨er_,be1_ HB.out GE134.out⟩
end Go.Proofs.Ytfmbpoojpnoafaa.X
end
section
namespace Go.Proofs.Ytfmbpoojpnoafaa.Y
open Go.RowKit Go.Proofs.Ytfmbpoojpnoafaa.X Go.Proofs.YtfmbpoojpnoafaaW.PrintWords Go.Proofs.YtfmbpoojpnoafaaW.PrintLast Go.Proofs.YtfmbpoojpnoafaaW.PrintMore
set_option linter.unusedVariables false
set_option linter.unusedSimpArgs false
def okCost (x : Int) : Bool:=decide (0 ≤ x ∧ x ≤ 1000000)
def MV (n : Int) (l : List Int) : Prop:=1 ≤ n ∧ n ≤ 4 ∧ (l.length : Int) = n * n ∧ ∀ x ∈ l,0 ≤ x ∧ x ≤ 1000000
def GV (n : Int) (l : List Int) : Prop:=MV n l ∧ ∀ x ∈ l,x ≤ 3
instance (n : Int) (l : List Int) : Decidable (MV n l):=by unfold MV;infer_instance
instance (n : Int) (l : List Int) : Decidable (GV n l):=by unfold GV;infer_instance
theorem icost (a : Int) : impl_CostValid.f a = some (okCost a):=by
 unfold impl_CostValid.f okCost
 by_cases h : a ≥ 0
 ·rw [if_pos h];by_cases h2 : a ≤ 1000000 <;> simp [h2] <;> omega
 ·rw [if_neg h];simp;omega
theorem scost (a : Int) : spec_CostValid.f a = some (okCost a):=by
 unfold spec_CostValid.f spec_l1In.f okCost
 by_cases h : a ≥ 0
 ·rw [if_pos h];by_cases h2 : a ≤ 1000000 <;> simp [h2] <;> omega
 ·rw [if_neg h];simp;omega
theorem sIn (a lo hi : Int) : spec_l1In.f a lo hi = some (decide (lo ≤ a ∧ a ≤ hi)):=by
 unfold spec_l1In.f
 by_cases h : a ≥ lo
 ·rw [if_pos h];by_cases h2 : a ≤ hi <;> simp [h2] <;> omega
 ·rw [if_neg h];simp;omega
theorem index_ev (q : Int → Bool) (p : Int → Option Bool) (hp : ∀ x,p x = some (q x)) (l : List Int) (h : l.length ≤ maxLen) :
  Ev (fun k => slices_ContainsFunc_int_int.f p k l) (l.any q):=by
 rw [maxLen_eq] at h
 have go : ∀ (t pre : List Int),l = pre ++ t → ∃ z : Int,Ev (fun k => slices_IndexFunc_int_int.l0 p k l (l.length : Int) (pre.length : Int)) z ∧ decide (z ≥ 0) = t.any q:=by
  intro t
  induction t with
  | nil =>
   intro pre hl
   refine ⟨-1,?_,rfl⟩
   refine Ev.step (f:=fun _ => some (-1)) (fun k => ?_) (Ev.now _)
   simp only [slices_IndexFunc_int_int.l0]
   rw [if_neg (by rw [hl];simp)]
  | cons x t ih =>
   intro pre hl
   have hlen : l.length = pre.length + (t.length + 1):=by rw [hl];simp
   have hx : rd l (pre.length : Int) = x:=by rw [hl,rd_mid]
   cases hq : q x with
   | true =>
    refine ⟨pre.length,?_,by simp [hq]⟩
    refine Ev.step (f:=fun _ => some (pre.length : Int)) (fun k => ?_) (Ev.now _)
    simp only [slices_IndexFunc_int_int.l0]
    rw [if_pos (by omega),if_pos (by omega),if_pos (by omega),hx,hp,hq,Option.bind_some,if_pos rfl]
   | false =>
    obtain ⟨z,hz,hd⟩:=ih (pre ++ [x]) (by simp [hl])
    refine ⟨z,?_,by simp [hq,hd]⟩
    refine Ev.step (fun k => ?_) hz
    simp only [slices_IndexFunc_int_int.l0]
    rw [if_pos (by omega),if_pos (by omega),if_pos (by omega),hx,hp,hq,Option.bind_some,if_neg (by simp),w64 (by omega) (by omega),snoc_len]
 obtain ⟨z,hz,hd⟩:=go l [] rfl
 refine Ev.congr (f:=?f1) (fun k => ?h1) ?k1
 case h1 => unfold slices_ContainsFunc_int_int.f slices_IndexFunc_int_int.f;exact rfl
 exact Ev.bind hz (Ev.congr (f:=fun _ => some (l.any q)) (fun k => by rw [hd]) (Ev.now _))
theorem iMV (n : Int) (l : List Int) (hl : l.length ≤ maxLen) : Ev (fun k => impl_MatrixValid.f k n l) (decide (MV n l)):=by
 have no : ∀ f : Nat → Option Bool,(∀ k,f k = some false) → ¬ MV n l → Ev f (decide (MV n l)):=fun f h h2 => (ev_some h).is (by rw [decide_eq_false h2])
 by_cases h1 : n < 1
 ·exact no _ (fun k => by unfold impl_MatrixValid.f;rw [if_pos h1]) (fun h => by unfold MV at h;omega)
 by_cases h2 : n > 4
 ·exact no _ (fun k => by unfold impl_MatrixValid.f;rw [if_neg h1,if_pos h2]) (fun h => by unfold MV at h;omega)
 have hnn : 0 ≤ n * n ∧ n * n ≤ 16:=by
  have : n = 1 ∨ n = 2 ∨ n = 3 ∨ n = 4:=by omega
  rcases this with rfl|rfl|rfl|rfl <;> omega
 by_cases h3 : (l.length : Int) = wrap64 (n * n)
 ·rw [w64 (by omega) (by omega)] at h3
  refine Ev.congr (f:=?f2) (fun k => ?h2) ?k2
  case h2 => unfold impl_MatrixValid.f;rw [if_neg h1,if_neg h2,w64 (x:=n * n) (by omega) (by omega),if_pos h3] <;> exact rfl
  have hq : ∀ x,impl_MatrixValid_1.f x = some (!(okCost x)):=fun x => by unfold impl_MatrixValid_1.f;rw [icost];rfl
  refine Ev.bind (index_ev (fun x => !(okCost x)) _ hq l hl) ?_
  refine (ev_some (fun k => rfl)).is ?_
  rw [Bool.eq_iff_iff]
  simp only [Bool.not_eq_true',List.any_eq_false,Bool.not_eq_true',Bool.not_eq_false,decide_eq_true_eq]
  constructor
  ·intro h;exact ⟨by omega,by omega,h3,fun x hx => by simpa [okCost] using h x hx⟩
  ·intro h x hx;simpa [okCost] using h.2.2.2 x hx
 ·refine no _ (fun k => by unfold impl_MatrixValid.f;rw [if_neg h1,if_neg h2,if_neg h3]) (fun h => ?_)
  rw [w64 (by omega) (by omega)] at h3
  exact h3 h.2.2.1
theorem iGV (n : Int) (l : List Int) (hl : l.length ≤ maxLen) : Ev (fun k => impl_GradesValid.f k n l) (decide (GV n l)):=by
 refine Ev.congr (f:=?f3) (fun k => ?h3) ?k3
 case h3 => unfold impl_GradesValid.f;exact rfl
 refine Ev.bind (iMV n l hl) ?_
 by_cases h : MV n l
 ·refine Ev.congr (f:=?f4) (fun k => ?h4) ?k4
  case h4 => rw [decide_eq_true h,if_pos rfl] <;> exact rfl
  refine Ev.bind (index_ev (fun x => decide (x > 3)) _ (fun x => rfl) l hl) ?_
  refine (ev_some (fun k => rfl)).is ?_
  rw [Bool.eq_iff_iff]
  simp only [Bool.not_eq_true',List.any_eq_false,decide_eq_true_eq]
  exact ⟨fun g => ⟨h,fun x hx => by have:=g x hx;omega⟩,fun g x hx => by have:=g.2 x hx;omega⟩
 ·refine (ev_some (fun k => ?_)).is (by rw [decide_eq_false (fun g : GV n l => h g.1)])
  rw [decide_eq_false h];rfl
theorem sAll_ev (l : List Int) (h : l.length ≤ maxLen) : Ev (fun k => spec_l1All.f k l) (l.all okCost):=by
 rw [maxLen_eq] at h
 have go : ∀ (t pre : List Int),l = pre ++ t → Ev (fun k => spec_l1All.l0 k l (l.length : Int) (pre.length : Int)) (t.all okCost):=by
  intro t
  induction t with
  | nil =>
   intro pre hl
   refine Ev.step (f:=fun _ => some true) (fun k => ?_) (Ev.now _)
   simp only [spec_l1All.l0];rw [if_neg (by rw [hl];simp)]
  | cons x t ih =>
   intro pre hl
   have hlen : l.length = pre.length + (t.length + 1):=by rw [hl];simp
   have hx : rd l (pre.length : Int) = x:=by rw [hl,rd_mid]
   cases hq : okCost x with
   | true =>
    refine Ev.step (fun k => ?_) ((ih (pre ++ [x]) (by simp [hl])).is (by simp [hq]))
    simp only [spec_l1All.l0]
    rw [if_pos (by omega),if_pos (by omega),if_pos (by omega),hx,scost,hq,Option.bind_some,if_pos rfl,w64 (by omega) (by omega),snoc_len]
   | false =>
    refine Ev.step (f:=fun _ => some false) (fun k => ?_) ((Ev.now _).is (by simp [hq]))
    simp only [spec_l1All.l0]
    rw [if_pos (by omega),if_pos (by omega),if_pos (by omega),hx,scost,hq,Option.bind_some,if_neg (by simp)]
 exact go l [] rfl
theorem sMV (n : Int) (l : List Int) (hl : l.length ≤ maxLen) : Ev (fun k => spec_MatrixValid.f k n l) (decide (MV n l)):=by
 have no : ∀ f : Nat → Option Bool,(∀ k,f k = some false) → ¬ MV n l → Ev f (decide (MV n l)):=fun f h h2 => (ev_some h).is (by rw [decide_eq_false h2])
 by_cases h1 : 1 ≤ n ∧ n ≤ 4
 ·have hnn : 0 ≤ n * n ∧ n * n ≤ 16:=by
   have : n = 1 ∨ n = 2 ∨ n = 3 ∨ n = 4:=by omega
   rcases this with rfl|rfl|rfl|rfl <;> omega
  by_cases h3 : (l.length : Int) = n * n
  ·refine Ev.congr (f:=?f5) (fun k => ?h5) ?k5
   case h5 => unfold spec_MatrixValid.f;rw [sIn,decide_eq_true h1,Option.bind_some,if_pos rfl,w64 (x:=n * n) (by omega) (by omega),if_pos h3] <;> exact rfl
   refine Ev.bind (sAll_ev l hl) ((ev_some (fun k => rfl)).is ?_)
   rw [Bool.eq_iff_iff]
   simp only [List.all_eq_true,decide_eq_true_eq]
   exact ⟨fun g => ⟨h1.1,h1.2,h3,fun x hx => by simpa [okCost] using g x hx⟩,fun g x hx => by simpa [okCost] using g.2.2.2 x hx⟩
  ·exact no _ (fun k => by unfold spec_MatrixValid.f;rw [sIn,decide_eq_true h1,Option.bind_some,if_pos rfl,w64 (x:=n * n) (by omega) (by omega),if_neg h3]) (fun h => h3 h.2.2.1)
 ·exact no _ (fun k => by unfold spec_MatrixValid.f;rw [sIn,decide_eq_false h1];rfl) (fun h => h1 ⟨h.1,h.2.1⟩)
theorem sGV (n : Int) (l : List Int) (hl : l.length ≤ maxLen) : Ev (fun k => spec_GradesValid.f k n l) (decide (GV n l)):=by
 have hm:=hl
 rw [maxLen_eq] at hm
 have go : ∀ (t pre : List Int),l = pre ++ t → Ev (fun k => spec_GradesValid.l0 k l (l.length : Int) (pre.length : Int) n l) (decide ((∀ x ∈ t,0 ≤ x ∧ x ≤ 3) ∧ MV n l)):=by
  intro t
  induction t with
  | nil =>
   intro pre hp
   refine Ev.step (f:=?f6) (fun k => ?h6) ?k6
   case h6 => simp only [spec_GradesValid.l0];rw [if_neg (by rw [hp];simp)] <;> exact rfl
   exact Ev.bind (sMV n l hl) ((ev_some (fun k => rfl)).is (by simp))
  | cons x t ih =>
   intro pre hp
   have hlen : l.length = pre.length + (t.length + 1):=by rw [hp];simp
   have hx : rd l (pre.length : Int) = x:=by rw [hp,rd_mid]
   by_cases hq : 0 ≤ x ∧ x ≤ 3
   ·refine Ev.step (fun k => ?_) ((ih (pre ++ [x]) (by simp [hp])).is ?_)
    ·simp only [spec_GradesValid.l0]
     rw [if_pos (by omega),if_pos (by omega),if_pos (by omega),hx,sIn,decide_eq_true hq,Option.bind_some,if_pos rfl,w64 (by omega) (by omega),snoc_len]
    ·simp [hq.1,hq.2]
   ·refine Ev.step (f:=fun _ => some false) (fun k => ?_) ((Ev.now _).is ?_)
    ·simp only [spec_GradesValid.l0]
     rw [if_pos (by omega),if_pos (by omega),if_pos (by omega),hx,sIn,decide_eq_false hq,Option.bind_some,if_neg (by simp)]
    ·symm;rw [decide_eq_false_iff_not];intro h;exact hq (h.1 x (by simp))
 refine (go l [] rfl).is ?_
 rw [Bool.eq_iff_iff]
 simp only [decide_eq_true_eq]
 exact ⟨fun h => ⟨h.2,fun x hx => (h.1 x hx).2⟩,fun h => ⟨fun x hx => ⟨(h.1.2.2.2 x hx).1,h.2 x hx⟩,h.1⟩⟩
theorem rdS_mid (pre : List S92) (x : S92) (t : List S92) : rd_T92 (pre ++ x :: t) (pre.length : Int) = x:=by simp [rd_T92,List.getD_eq_getElem?_getD]
theorem snocA {α : Type} (pre : List α) (x : α) : (((pre ++ [x]).length : Nat) : Int) = (pre.length : Int) + 1:=by simp
def mrk (n : Int) : Option Int → List Int → Bool
 | _,[] => true
 | p,x :: t => decide (0 ≤ x ∧ x < n) && (match p with|none => true|some y => decide (y < x)) && mrk n (some x) t
def stepOk (n : Int) (s : S92) : Bool:=decide (0 ≤ s.f0 ∧ s.f0 < n ∧ 0 ≤ s.f2 ∧ s.f2 < n ∧ 0 ≤ s.f3 ∧ s.f3 ≤ 3 ∧ (s.f1.toList = ([97] : List UInt8) ∨ s.f1.toList = ([98] : List UInt8)))
def bef (s t : S92) : Bool:=if s.f0 = t.f0 then (if s.f1.toList = t.f1.toList then decide (s.f2 < t.f2) else Op.bytesLess s.f1.toList t.f1.toList) else decide (s.f0 < t.f0)
def stp (n : Int) : Option S92 → List S92 → Bool
 | _,[] => true
 | p,x :: t => stepOk n x && (match p with|none => true|some y => bef y x) && stp n (some x) t
def AV (n : Int) (s f : List Int) (t : List S92) : Bool:=decide (1 ≤ n ∧ n ≤ 4 ∧ t.length ≤ 24) && mrk n none s && mrk n none f && stp n none t
theorem iMarks (n : Int) (l : List Int) (h : l.length ≤ 1000000000) : Ev (fun k => impl_statesOk.f k l n) (mrk n none l):=by
 have go : ∀ (t pre : List Int),l = pre ++ t → Ev (fun k => impl_statesOk.l0 k l n l (l.length : Int) (pre.length : Int)) (mrk n pre.getLast? t):=by
  intro t
  induction t with
  | nil =>
   intro pre hl
   refine Ev.step (f:=fun _ => some true) (fun k => ?_) (Ev.now _)
   simp only [impl_statesOk.l0];rw [if_neg (by rw [hl];simp)]
  | cons x t ih =>
   intro pre hl
   have hlen : l.length = pre.length + (t.length + 1):=by rw [hl];simp
   have hx : rd l (pre.length : Int) = x:=by rw [hl,rd_mid]
   have i1:=ih (pre ++ [x]) (by simp [hl])
   rw [List.getLast?_concat,snoc_len] at i1
   by_cases h0 : x < 0
   ·refine Ev.step (f:=fun _ => some false) (fun k => ?_) ((Ev.now _).is ?_)
    ·simp only [impl_statesOk.l0];rw [if_pos (by omega),if_pos (by omega),if_pos (by omega),hx,if_pos h0]
    ·simp only [mrk];rw [decide_eq_false (by omega)];rfl
   by_cases h1 : x ≥ n
   ·refine Ev.step (f:=fun _ => some false) (fun k => ?_) ((Ev.now _).is ?_)
    ·simp only [impl_statesOk.l0];rw [if_pos (by omega),if_pos (by omega),if_pos (by omega),hx,if_neg h0,if_pos h1]
    ·simp only [mrk];rw [decide_eq_false (by omega)];rfl
   rcases List.eq_nil_or_concat pre with rfl | ⟨q,y,rfl⟩
   ·refine Ev.step (fun k => ?_) (i1.is ?_)
    ·simp only [impl_statesOk.l0];rw [if_pos (by omega),if_pos (by omega),if_pos (by omega),hx,if_neg h0,if_neg h1,if_neg (by simp),w64 (by omega) (by omega)]
    ·simp only [mrk,List.getLast?_nil];rw [decide_eq_true (by omega)];rfl
   ·rw [List.concat_eq_append] at *
    have e : wrap64 (((q ++ [y]).length : Int) - 1) = (q.length : Int):=by rw [snoc_len,w64 (by omega) (by rw [List.length_append] at hlen;omega)];omega
    have hy : rd l (q.length : Int) = y:=by rw [hl,List.append_assoc];exact rd_mid q y (x :: t)
    have hq:=hlen
    rw [List.length_append,List.length_singleton] at hq
    by_cases h2 : y ≥ x
    ·refine Ev.step (f:=fun _ => some false) (fun k => ?_) ((Ev.now _).is ?_)
     ·simp only [impl_statesOk.l0];rw [if_pos (by omega),if_pos (by omega),if_pos (by omega),hx,if_neg h0,if_neg h1,if_pos (by rw [snoc_len];omega),e,if_pos (by omega),if_pos (by omega),hy,if_pos h2]
     ·simp only [mrk,List.getLast?_concat];rw [decide_eq_false (p:=y < x) (by omega)];simp
    ·refine Ev.step (fun k => ?_) (i1.is ?_)
     ·simp only [impl_statesOk.l0];rw [if_pos (by omega),if_pos (by omega),if_pos (by omega),hx,if_neg h0,if_neg h1,if_pos (by rw [snoc_len];omega),e,if_pos (by omega),if_pos (by omega),hy,if_neg h2,w64 (by omega) (by omega)]
     ·simp only [mrk,List.getLast?_concat];rw [decide_eq_true (p:=y < x) (by omega),decide_eq_true (by omega)];rfl
 exact go l [] rfl
theorem sMarks (n : Int) (hn : 1 ≤ n ∧ n ≤ 4) (l : List Int) (h : l.length ≤ 1000000000) : Ev (fun k => spec_l3Marks.f k n l) (mrk n none l):=by
 have go : ∀ (t pre : List Int),l = pre ++ t → Ev (fun k => spec_l3Marks.l0 k n l l (l.length : Int) (pre.length : Int)) (mrk n pre.getLast? t):=by
  intro t
  induction t with
  | nil =>
   intro pre hl
   refine Ev.step (f:=fun _ => some true) (fun k => ?_) (Ev.now _)
   simp only [spec_l3Marks.l0];rw [if_neg (by rw [hl];simp)]
  | cons x t ih =>
   intro pre hl
   have hlen : l.length = pre.length + (t.length + 1):=by rw [hl];simp
   have hx : rd l (pre.length : Int) = x:=by rw [hl,rd_mid]
   have i1:=ih (pre ++ [x]) (by simp [hl])
   rw [List.getLast?_concat,snoc_len] at i1
   have hw : wrap64 (n - 1) = n - 1:=w64 (by omega) (by omega)
   by_cases h0 : 0 ≤ x ∧ x < n
   case neg =>
    refine Ev.step (f:=fun _ => some false) (fun k => ?_) ((Ev.now _).is ?_)
    ·simp only [spec_l3Marks.l0];rw [if_pos (by omega),if_pos (by omega),if_pos (by omega),hx,sIn,hw,decide_eq_false (by omega),Option.bind_some,if_neg (by simp)]
    ·simp only [mrk];rw [decide_eq_false h0];rfl
   have hd : decide (0 ≤ x ∧ x ≤ n - 1) = true:=decide_eq_true (by omega)
   rcases List.eq_nil_or_concat pre with rfl | ⟨q,y,rfl⟩
   ·refine Ev.step (fun k => ?_) (i1.is ?_)
    ·simp only [spec_l3Marks.l0];rw [if_pos (by omega),if_pos (by omega),if_pos (by omega),hx,sIn,hw,hd,Option.bind_some,if_pos rfl,if_neg (by simp),w64 (by omega) (by omega)]
    ·simp only [mrk,List.getLast?_nil];rw [decide_eq_true h0];rfl
   ·rw [List.concat_eq_append] at *
    have e : wrap64 (((q ++ [y]).length : Int) - 1) = (q.length : Int):=by rw [snoc_len,w64 (by omega) (by rw [List.length_append] at hlen;omega)];omega
    have hy : rd l (q.length : Int) = y:=by rw [hl,List.append_assoc];exact rd_mid q y (x :: t)
    have hq:=hlen
    rw [List.length_append,List.length_singleton] at hq
    by_cases h2 : y ≥ x
    ·refine Ev.step (f:=fun _ => some false) (fun k => ?_) ((Ev.now _).is ?_)
     ·simp only [spec_l3Marks.l0];rw [if_pos (by omega),if_pos (by omega),if_pos (by omega),hx,sIn,hw,hd,Option.bind_some,if_pos rfl,if_pos (by rw [snoc_len];omega),e,if_pos (by omega),if_pos (by omega),hy,if_pos h2]
     ·simp only [mrk,List.getLast?_concat];rw [decide_eq_false (p:=y < x) (by omega)];simp
    ·refine Ev.step (fun k => ?_) (i1.is ?_)
     ·simp only [spec_l3Marks.l0];rw [if_pos (by omega),if_pos (by omega),if_pos (by omega),hx,sIn,hw,hd,Option.bind_some,if_pos rfl,if_pos (by rw [snoc_len];omega),e,if_pos (by omega),if_pos (by omega),hy,if_neg h2,w64 (by omega) (by omega)]
     ·simp only [mrk,List.getLast?_concat];rw [decide_eq_true (p:=y < x) (by omega),decide_eq_true h0];rfl
 exact go l [] rfl
def cmp0 (a b : Int) : Int:=if a < b then -1 else if a > b then 1 else 0
def ordL (s t : S92) : Int:=if cmp0 s.f0 t.f0 = 0 then (if Lib.compareBytes s.f1.data.toList t.f1.data.toList = 0 then cmp0 s.f2 t.f2 else Lib.compareBytes s.f1.data.toList t.f1.data.toList) else cmp0 s.f0 t.f0
theorem cmp_eq (a b : Int) : cmp_Compare_int.f a b = some (cmp0 a b):=by
 unfold cmp_Compare_int.f cmp_isNaN_int.f cmp0
 simp only [bne_self_eq_false,Option.bind_some,Bool.false_eq_true,if_false]
 by_cases h : a < b
 ·rw [if_pos h,if_pos h]
 ·rw [if_neg h,if_neg h];by_cases h2 : a > b
  ·rw [if_pos h2,if_pos h2]
  ·rw [if_neg h2,if_neg h2]
theorem cmpOr_ev (l : List Int) (h : l.length ≤ 1000000000) : Ev (fun k => cmp_Or_int.f k l) ((l.find? (· != 0)).getD 0):=by
 have go : ∀ (t pre : List Int),l = pre ++ t → Ev (fun k => cmp_Or_int.l0 k 0 l (l.length : Int) (pre.length : Int)) ((t.find? (· != 0)).getD 0):=by
  intro t
  induction t with
  | nil =>
   intro pre hl
   refine Ev.step (f:=fun _ => some 0) (fun k => ?_) (Ev.now _)
   simp only [cmp_Or_int.l0];rw [if_neg (by rw [hl];simp)]
  | cons x t ih =>
   intro pre hl
   have hlen : l.length = pre.length + (t.length + 1):=by rw [hl];simp
   have hx : rd l (pre.length : Int) = x:=by rw [hl,rd_mid]
   have i1:=ih (pre ++ [x]) (by simp [hl])
   rw [snoc_len] at i1
   by_cases h0 : x = 0
   ·refine Ev.step (fun k => ?_) (i1.is ?_)
    ·simp only [cmp_Or_int.l0];rw [if_pos (by omega),if_pos (by omega),if_pos (by omega),hx,if_pos h0,w64 (by omega) (by omega)]
    ·simp [List.find?_cons,h0]
   ·refine Ev.step (f:=fun _ => some x) (fun k => ?_) ((Ev.now _).is ?_)
    ·simp only [cmp_Or_int.l0];rw [if_pos (by omega),if_pos (by omega),if_pos (by omega),hx,if_neg h0]
    ·simp [List.find?_cons,h0]
 exact go l [] rfl
theorem iOrder (s t : S92) : Ev (fun k => impl_stepOrder.f k s.f0 s.f1 s.f2 s.f3 t.f0 t.f1 t.f2 t.f3) (ordL s t):=by
 refine Ev.congr (f:=?f1) (fun k => ?h1) ?k1
 case h1 => unfold impl_stepOrder.f strings_Compare.f bytealg_CompareString.f;rw [cmp_eq,cmp_eq,Option.bind_some,Option.bind_some,Option.bind_some,Option.bind_some] <;> exact rfl
 refine (Ev.bind (cmpOr_ev _ (by simp)) (Ev.now _)).is ?_
 unfold ordL
 by_cases h : cmp0 s.f0 t.f0 = 0
 ·by_cases h2 : Lib.compareBytes s.f1.data.toList t.f1.data.toList = 0
  ·by_cases h3 : cmp0 s.f2 t.f2 = 0 <;> simp [List.find?_cons,h,h2,h3]
  ·simp [List.find?_cons,h,h2]
 ·simp [List.find?_cons,h]
theorem sBefore (s t : S92) : spec_l3Before.f s.f0 s.f1 s.f2 s.f3 t.f0 t.f1 t.f2 t.f3 = some (bef s t):=by
 unfold spec_l3Before.f bef
 by_cases h : s.f0 = t.f0
 ·rw [if_pos h,if_pos h];by_cases h2 : s.f1.toList = t.f1.toList
  ·rw [if_pos h2,if_pos h2]
  ·rw [if_neg h2,if_neg h2]
 ·rw [if_neg h,if_neg h]
theorem cmp0_lt {a b : Int} : cmp0 a b < 0 ↔ a < b:=by
 unfold cmp0
 by_cases h : a < b
 ·simp [h]
 ·by_cases h2 : a > b <;> simp [h,h2]
theorem cmp0_eq {a b : Int} : cmp0 a b = 0 ↔ a = b:=by
 unfold cmp0
 by_cases h : a < b
 ·rw [if_pos h];omega
 ·by_cases h2 : a > b
  ·rw [if_neg h,if_pos h2];omega
  ·rw [if_neg h,if_neg h2];omega
theorem ord_bef {n : Int} {s t : S92} (hs : stepOk n s = true) (ht : stepOk n t = true) : ordL s t < 0 ↔ bef s t = true:=by
 unfold stepOk at hs ht
 have hs:=of_decide_eq_true hs
 have ht:=of_decide_eq_true ht
 unfold ordL bef
 have e1:=toList_L s.f1
 have e2:=toList_L t.f1
 unfold L at e1 e2
 rw [← e1,← e2]
 by_cases h : s.f0 = t.f0
 ·rw [if_pos (cmp0_eq.mpr h),if_pos h]
  rcases hs.2.2.2.2.2.2 with a|a <;> rcases ht.2.2.2.2.2.2 with b|b <;> rw [a,b]
  ·rw [if_pos rfl,show Lib.compareBytes ([97] : List UInt8) [97] = 0 by decide,if_pos rfl,cmp0_lt,decide_eq_true_eq]
  ·rw [if_neg (show ¬ Lib.compareBytes ([97] : List UInt8) [98] = 0 by decide),if_neg (by decide)];decide
  ·rw [if_neg (show ¬ Lib.compareBytes ([98] : List UInt8) [97] = 0 by decide),if_neg (by decide)];decide
  ·rw [if_pos rfl,show Lib.compareBytes ([98] : List UInt8) [98] = 0 by decide,if_pos rfl,cmp0_lt,decide_eq_true_eq]
 ·rw [if_neg (fun g => h (cmp0_eq.mp g)),if_neg h,cmp0_lt,decide_eq_true_eq]
theorem iSteps (n : Int) (s f : List Int) (t : List S92) (h : t.length ≤ 1000000000) : Ev (fun k => impl_AutomatonValid.l0 k t (t.length : Int) 0 n s f t) (stp n none t):=by
 have go : ∀ (u pre : List S92),t = pre ++ u → (∀ y,pre.getLast? = some y → stepOk n y = true) → Ev (fun k => impl_AutomatonValid.l0 k t (t.length : Int) (pre.length : Int) n s f t) (stp n pre.getLast? u):=by
  intro u
  induction u with
  | nil =>
   intro pre hl _
   refine Ev.step (f:=fun _ => some true) (fun k => ?_) (Ev.now _)
   simp only [impl_AutomatonValid.l0];rw [if_neg (by rw [hl];simp)]
  | cons x u ih =>
   intro pre hl hp
   have hlen : t.length = pre.length + (u.length + 1):=by rw [hl];simp
   have hx : rd_T92 t (pre.length : Int) = x:=by rw [hl,rdS_mid]
   have tail : stepOk n x = true → Ev (fun k => if (pre.length : Int) > 0 then (if 0 ≤ (wrap64 ((pre.length : Int) - 1)) then (if (wrap64 ((pre.length : Int) - 1)) < (t.length : Int) then ((impl_stepOrder.f k ((rd_T92 t (wrap64 ((pre.length : Int) - 1))).f0) ((rd_T92 t (wrap64 ((pre.length : Int) - 1))).f1) ((rd_T92 t (wrap64 ((pre.length : Int) - 1))).f2) ((rd_T92 t (wrap64 ((pre.length : Int) - 1))).f3) x.f0 x.f1 x.f2 x.f3).bind fun z => (if z ≥ 0 then (some false) else (impl_AutomatonValid.l0 k t (t.length : Int) (wrap64 ((pre.length : Int) + 1)) n s f t))) else none) else none) else (impl_AutomatonValid.l0 k t (t.length : Int) (wrap64 ((pre.length : Int) + 1)) n s f t)) (stp n pre.getLast? (x :: u)):=by
    intro hok
    have i1:=ih (pre ++ [x]) (by simp [hl]) (fun y hy => by rw [List.getLast?_concat] at hy;obtain rfl:=Option.some.inj hy;exact hok)
    rw [List.getLast?_concat,snocA] at i1
    have ew : wrap64 ((pre.length : Int) + 1) = (pre.length : Int) + 1:=w64 (by omega) (by omega)
    rw [ew]
    rcases List.eq_nil_or_concat pre with rfl | ⟨q,y,rfl⟩
    ·refine Ev.congr (fun k => by rw [if_neg (by simp)] <;> exact rfl) (i1.is ?_)
     simp only [stp,List.getLast?_nil,hok,Bool.true_and]
    ·rw [List.concat_eq_append] at *
     have hq:=hlen
     rw [List.length_append,List.length_singleton] at hq
     have e : wrap64 (((q ++ [y]).length : Int) - 1) = (q.length : Int):=by rw [snocA,w64 (by omega) (by omega)];omega
     have hy : rd_T92 t (q.length : Int) = y:=by rw [hl,List.append_assoc];exact rdS_mid q y (x :: u)
     have hoy : stepOk n y = true:=hp y (by rw [List.getLast?_concat])
     refine Ev.congr (f:=?f2) (fun k => ?h2) ?k2
     case h2 => rw [e,if_pos (by rw [snocA];omega),if_pos (by omega),if_pos (by omega),hy] <;> exact rfl
     refine Ev.bind (iOrder y x) ?_
     by_cases hb : bef y x = true
     ·refine Ev.congr (fun k => if_neg (by have:=(ord_bef hoy hok).mpr hb;omega)) (i1.is ?_)
      simp only [stp,List.getLast?_concat,hok,hb,Bool.true_and]
     ·refine Ev.congr (f:=fun _ => some false) (fun k => if_pos (Int.not_lt.mp fun h => hb ((ord_bef hoy hok).mp h))) ((Ev.now _).is ?_)
      simp only [stp,List.getLast?_concat,hok,Bool.true_and]
      rw [Bool.not_eq_true] at hb
      rw [hb];rfl
   by_cases hok : stepOk n x = true
   ·have ho:=of_decide_eq_true (show decide _ = true from hok)
    refine Ev.step (fun k => ?_) (tail hok)
    simp only [impl_AutomatonValid.l0]
    rw [if_pos (by omega),if_pos (by omega),if_pos (by omega),hx,if_neg (by omega),if_neg (by omega),if_neg (by omega),if_neg (by omega)]
    rcases ho.2.2.2.2.2.2 with a|a
    ·rw [if_pos a,if_neg (by omega),if_neg (by omega)]
    ·rw [if_neg (by rw [a];decide),if_pos a,if_neg (by omega),if_neg (by omega)]
   ·refine Ev.step (f:=fun _ => some false) (fun k => ?_) ((Ev.now _).is ?_)
    ·simp only [impl_AutomatonValid.l0]
     rw [if_pos (by omega),if_pos (by omega),if_pos (by omega),hx]
     by_cases a1 : x.f0 < 0
     ·rw [if_pos a1]
     by_cases a2 : x.f0 ≥ n
     ·rw [if_neg a1,if_pos a2]
     by_cases a3 : x.f2 < 0
     ·rw [if_neg a1,if_neg a2,if_pos a3]
     by_cases a4 : x.f2 ≥ n
     ·rw [if_neg a1,if_neg a2,if_neg a3,if_pos a4]
     rw [if_neg a1,if_neg a2,if_neg a3,if_neg a4]
     by_cases b1 : x.f1.toList = ([97] : List UInt8)
     ·rw [if_pos b1]
      by_cases a5 : x.f3 < 0
      ·rw [if_pos a5]
      by_cases a6 : x.f3 > 3
      ·rw [if_neg a5,if_pos a6]
      exact absurd (show stepOk n x = true from decide_eq_true ⟨by omega,by omega,by omega,by omega,by omega,by omega,.inl b1⟩) hok
     ·rw [if_neg b1]
      by_cases b2 : x.f1.toList = ([98] : List UInt8)
      ·rw [if_pos b2]
       by_cases a5 : x.f3 < 0
       ·rw [if_pos a5]
       by_cases a6 : x.f3 > 3
       ·rw [if_neg a5,if_pos a6]
       exact absurd (show stepOk n x = true from decide_eq_true ⟨by omega,by omega,by omega,by omega,by omega,by omega,.inr b2⟩) hok
      ·rw [if_neg b2]
    ·rw [Bool.not_eq_true] at hok
     simp only [stp,hok,Bool.false_and]
 exact go t [] rfl (fun y hy => by simp at hy)
theorem sStepOk (n : Int) (hn : 1 ≤ n ∧ n ≤ 4) (x : S92) : spec_l3Step.f n x.f0 x.f1 x.f2 x.f3 = some (stepOk n x):=by
 unfold spec_l3Step.f stepOk
 rw [sIn,sIn,sIn,w64 (x:=n - 1) (by omega) (by omega),Option.bind_some]
 by_cases a1 : 0 ≤ x.f0 ∧ x.f0 ≤ n - 1
 ·rw [decide_eq_true a1,if_pos rfl,Option.bind_some]
  by_cases a2 : 0 ≤ x.f2 ∧ x.f2 ≤ n - 1
  ·rw [decide_eq_true a2,if_pos rfl,Option.bind_some]
   by_cases a3 : 0 ≤ x.f3 ∧ x.f3 ≤ 3
   ·rw [decide_eq_true a3,if_pos rfl]
    by_cases b : x.f1.toList = ([97] : List UInt8)
    ·rw [if_pos b,decide_eq_true (by refine ⟨?_,?_,?_,?_,?_,?_,.inl b⟩ <;> omega)]
    ·rw [if_neg b]
     by_cases b2 : x.f1.toList = ([98] : List UInt8)
     ·rw [b2,decide_eq_true (by refine ⟨?_,?_,?_,?_,?_,?_,.inr rfl⟩ <;> omega)];rfl
     ·rw [decide_eq_false (by intro g;rcases g.2.2.2.2.2.2 with c|c;exact b c;exact b2 c),beq_eq_false_iff_ne.mpr b2]
   ·rw [decide_eq_false a3,if_neg (by simp),decide_eq_false (by omega)]
  ·rw [decide_eq_false a2,if_neg (by simp),decide_eq_false (by omega)]
 ·rw [decide_eq_false a1,if_neg (by simp),decide_eq_false (by omega)]
theorem sSteps (n : Int) (hn : 1 ≤ n ∧ n ≤ 4) (s f : List Int) (t : List S92) (h : t.length ≤ 1000000000) : Ev (fun k => spec_AutomatonValid.l0 k t (t.length : Int) 0 n s f t) (stp n none t):=by
 have go : ∀ (u pre : List S92),t = pre ++ u → Ev (fun k => spec_AutomatonValid.l0 k t (t.length : Int) (pre.length : Int) n s f t) (stp n pre.getLast? u):=by
  intro u
  induction u with
  | nil =>
   intro pre hl
   refine Ev.step (f:=fun _ => some true) (fun k => ?_) (Ev.now _)
   simp only [spec_AutomatonValid.l0];rw [if_neg (by rw [hl];simp)]
  | cons x u ih =>
   intro pre hl
   have hlen : t.length = pre.length + (u.length + 1):=by rw [hl];simp
   have hx : rd_T92 t (pre.length : Int) = x:=by rw [hl,rdS_mid]
   have i1:=ih (pre ++ [x]) (by simp [hl])
   rw [List.getLast?_concat,snocA] at i1
   by_cases hok : stepOk n x = true
   ·rcases List.eq_nil_or_concat pre with rfl | ⟨q,y,rfl⟩
    ·refine Ev.step (fun k => ?_) (i1.is ?_)
     ·simp only [spec_AutomatonValid.l0];rw [if_pos (by omega),if_pos (by omega),if_pos (by omega),hx,sStepOk n hn,hok,Option.bind_some,if_pos rfl,if_neg (by simp),w64 (by omega) (by omega)]
     ·simp only [stp,List.getLast?_nil,hok,Bool.true_and]
    ·rw [List.concat_eq_append] at *
     have hq:=hlen
     rw [List.length_append,List.length_singleton] at hq
     have e : wrap64 (((q ++ [y]).length : Int) - 1) = (q.length : Int):=by rw [snocA,w64 (by omega) (by omega)];omega
     have hy : rd_T92 t (q.length : Int) = y:=by rw [hl,List.append_assoc];exact rdS_mid q y (x :: u)
     by_cases hb : bef y x = true
     ·refine Ev.step (fun k => ?_) (i1.is ?_)
      ·simp only [spec_AutomatonValid.l0];rw [if_pos (by omega),if_pos (by omega),if_pos (by omega),hx,sStepOk n hn,hok,Option.bind_some,if_pos rfl,if_pos (by rw [snocA];omega),e,if_pos (by omega),if_pos (by omega),hy,sBefore,hb,Option.bind_some,if_pos rfl,w64 (by omega) (by omega)]
      ·simp only [stp,List.getLast?_concat,hok,hb,Bool.true_and]
     ·rw [Bool.not_eq_true] at hb
      refine Ev.step (f:=fun _ => some false) (fun k => ?_) ((Ev.now _).is ?_)
      ·simp only [spec_AutomatonValid.l0];rw [if_pos (by omega),if_pos (by omega),if_pos (by omega),hx,sStepOk n hn,hok,Option.bind_some,if_pos rfl,if_pos (by rw [snocA];omega),e,if_pos (by omega),if_pos (by omega),hy,sBefore,hb,Option.bind_some,if_neg (by simp)]
      ·simp only [stp,List.getLast?_concat,hok,hb,Bool.true_and];rfl
   ·rw [Bool.not_eq_true] at hok
    refine Ev.step (f:=fun _ => some false) (fun k => ?_) ((Ev.now _).is ?_)
    ·simp only [spec_AutomatonValid.l0];rw [if_pos (by omega),if_pos (by omega),if_pos (by omega),hx,sStepOk n hn,hok,Option.bind_some,if_neg (by simp)]
    ·simp only [stp,hok,Bool.false_and]
 exact go t [] rfl
theorem iAV (n : Int) (s f : List Int) (t : List S92) (hs : s.length ≤ 1000000000) (hf : f.length ≤ 1000000000) (ht : t.length ≤ 1000000000) : Ev (fun k => impl_AutomatonValid.f k n s f t) (AV n s f t):=by
 have bad : ∀ g : Nat → Option Bool,(∀ k,g k = impl_AutomatonValid.j0 k true n s f t) → AV n s f t = false → Ev g (AV n s f t):=fun g hg he => Ev.congr hg ((Ev.step (f:=fun _ => some false) (fun k => by simp only [impl_AutomatonValid.j0];rw [if_pos trivial]) (Ev.now _)).is he.symm)
 by_cases h1 : n < 1
 ·exact bad _ (fun k => by unfold impl_AutomatonValid.f;rw [if_pos h1]) (by unfold AV;rw [decide_eq_false (by omega)];rfl)
 by_cases h2 : n > 4
 ·exact bad _ (fun k => by unfold impl_AutomatonValid.f;rw [if_neg h1,if_pos h2]) (by unfold AV;rw [decide_eq_false (by omega)];rfl)
 by_cases h3 : (t.length : Int) > 24
 ·exact bad _ (fun k => by unfold impl_AutomatonValid.f;rw [if_neg h1,if_neg h2,if_pos h3]) (by unfold AV;rw [decide_eq_false (by omega)];rfl)
 have hd : decide (1 ≤ n ∧ n ≤ 4 ∧ t.length ≤ 24) = true:=decide_eq_true (by omega)
 refine Ev.congr (f:=?f3) (fun k => ?h3) ?k3
 case h3 => unfold impl_AutomatonValid.f;rw [if_neg h1,if_neg h2,if_neg h3] <;> exact rfl
 refine Ev.bind (iMarks n s hs) ?_
 by_cases g1 : mrk n none s = true
 case neg =>
  exact bad _ (fun k => by rw [if_neg g1]) (by unfold AV;rw [Bool.not_eq_true] at g1;rw [g1];simp)
 refine Ev_t g1 ?_
 refine Ev.bind (iMarks n f hf) ?_
 by_cases g2 : mrk n none f = true
 case neg =>
  rw [Bool.not_eq_true] at g2
  exact bad _ (fun k => by rw [g2];rfl) (by unfold AV;rw [g2];simp)
 refine Ev.step (fun k => by rw [g2];simp only [impl_AutomatonValid.j0];rw [if_neg (by simp)]) ((iSteps n s f t ht).is ?_)
 unfold AV;rw [hd,g1,g2];rfl
theorem sAV (n : Int) (s f : List Int) (t : List S92) (hs : s.length ≤ 1000000000) (hf : f.length ≤ 1000000000) (ht : t.length ≤ 1000000000) : Ev (fun k => spec_AutomatonValid.f k n s f t) (AV n s f t):=by
 have bad : ∀ g : Nat → Option Bool,(∀ k,g k = spec_AutomatonValid.j0 k true n s f t) → AV n s f t = false → Ev g (AV n s f t):=fun g hg he => Ev.congr hg ((Ev.step (f:=fun _ => some false) (fun k => by simp only [spec_AutomatonValid.j0];rw [if_pos trivial]) (Ev.now _)).is he.symm)
 by_cases h1 : 1 ≤ n ∧ n ≤ 4
 case neg => exact bad _ (fun k => by unfold spec_AutomatonValid.f;rw [sIn,decide_eq_false h1,Option.bind_some,if_neg (by simp)]) (by unfold AV;rw [decide_eq_false (by omega)];rfl)
 refine Ev.congr (f:=?f4) (fun k => ?h4) ?k4
 case h4 => unfold spec_AutomatonValid.f;rw [sIn,decide_eq_true h1,Option.bind_some,if_pos rfl] <;> exact rfl
 refine Ev.bind (sMarks n h1 s hs) ?_
 by_cases g1 : mrk n none s = true
 case neg =>
  exact bad _ (fun k => by rw [if_neg g1]) (by unfold AV;rw [Bool.not_eq_true] at g1;rw [g1];simp)
 refine Ev_t g1 ?_
 refine Ev.bind (sMarks n h1 f hf) ?_
 by_cases g2 : mrk n none f = true
 case neg =>
  exact bad _ (fun k => by rw [if_neg g2]) (by unfold AV;rw [Bool.not_eq_true] at g2;rw [g2];simp)
 refine Ev_t g2 ?_
 by_cases h3 : (t.length : Int) > 24
 ·exact bad _ (fun k => by rw [decide_eq_true h3]) (by unfold AV;rw [decide_eq_false (by omega)];rfl)
 refine Ev.step (fun k => by rw [decide_eq_false h3];simp only [spec_AutomatonValid.j0];rw [if_neg (by simp)]) ((sSteps n h1 s f t ht).is ?_)
 unfold AV;rw [decide_eq_true (by omega),g1,g2];rfl
theorem mrk_mem {n : Int} : ∀ {l : List Int} {p : Option Int},mrk n p l = true → ∀ x ∈ l,0 ≤ x ∧ x < n
 | [],_,_,x,hx => by cases hx
 | y :: t,p,h,x,hx => by
  simp only [mrk,Bool.and_eq_true,decide_eq_true_eq] at h
  rcases List.mem_cons.mp hx with rfl|hx
  ·exact h.1.1
  ·exact mrk_mem h.2 x hx
theorem cellZ {n i k : Int} (hn : 1 ≤ n ∧ n ≤ 4) (hi : 0 ≤ i ∧ i < n) (hk : 0 ≤ k ∧ k < n) : 0 ≤ i * n + k ∧ i * n + k < n * n ∧ i * n + k ≤ 16 ∧ 0 ≤ i * n ∧ i * n ≤ 16:=by
 have h1 : n = 1 ∨ n = 2 ∨ n = 3 ∨ n = 4:=by omega
 rcases h1 with rfl|rfl|rfl|rfl <;> omega
theorem cellW {n i k : Int} (hn : 1 ≤ n ∧ n ≤ 4) (hi : 0 ≤ i ∧ i < n) (hk : 0 ≤ k ∧ k < n) : wrap64 (wrap64 (i * n) + k) = i * n + k:=by
 have c:=cellZ hn hi hk
 rw [w64 (x:=i * n) (by omega) (by omega),w64 (by omega) (by omega)]
theorem AV_parts {n : Int} {s f : List Int} {t : List S92} (h : AV n s f t = true) : (1 ≤ n ∧ n ≤ 4) ∧ t.length ≤ 24 ∧ mrk n none s = true ∧ mrk n none f = true ∧ stp n none t = true:=by
 simp only [AV,Bool.and_eq_true,decide_eq_true_eq] at h
 exact ⟨⟨h.1.1.1.1,h.1.1.1.2.1⟩,h.1.1.1.2.2,h.1.1.2,h.1.2,h.2⟩
def cvS (x : S118) : S92:=⟨x.f0,x.f1,x.f2,x.f3⟩
theorem rdL_mid (pre : List S118) (x : S118) (t : List S118) : rd_T118 (pre ++ x :: t) (pre.length : Int) = x:=by simp [rd_T118,List.getD_eq_getElem?_getD]
theorem toStepS_ev (l : List S118) (h : l.length ≤ 1048576) : Ev (fun k => laws_toStepS.f k l) (l.map cvS):=by
 have go : ∀ (t pre : List S118),l = pre ++ t → Ev (fun k => laws_toStepS.l0 k l (pre.map cvS ++ List.replicate t.length z92) (pre.length : Int)) (l.map cvS):=by
  intro t
  induction t with
  | nil =>
   intro pre hl
   refine Ev.step (f:=fun _ => some (l.map cvS)) (fun k => ?_) (Ev.now _)
   simp only [laws_toStepS.l0]
   rw [if_neg (by rw [hl];simp)]
   simp [hl]
  | cons x t ih =>
   intro pre hl
   have hlen : l.length = pre.length + (t.length + 1):=by rw [hl];simp
   have hx : rd_T118 l (pre.length : Int) = x:=by rw [hl,rdL_mid]
   refine Ev.step (fun k => ?_) (ih (pre ++ [x]) (by simp [hl]))
   simp only [laws_toStepS.l0,laws_toStep.f]
   rw [if_pos (by omega),if_pos (by omega),hx,Option.bind_some,if_pos (by simp;omega),w64 (by omega) (by omega),snocA]
   congr 1
   simp [List.replicate_succ,List.set_append,cvS]
 refine Ev.congr (fun k => ?_) (go l [] rfl)
 unfold laws_toStepS.f
 rw [if_pos (by omega),if_pos (by omega)]
 simp
theorem eqStepS_ev (a : List S92) (h : a.length ≤ 1000000000) : Ev (fun k => laws_eqStepS.f k a a) true:=by
 have go : ∀ (t pre : List S92),a = pre ++ t → Ev (fun k => laws_eqStepS.l0 k a a (pre.length : Int)) true:=by
  intro t
  induction t with
  | nil =>
   intro pre hl
   refine Ev.step (f:=fun _ => some true) (fun k => ?_) (Ev.now _)
   simp only [laws_eqStepS.l0]
   rw [if_neg (by rw [hl];simp)]
  | cons x t ih =>
   intro pre hl
   have hlen : a.length = pre.length + (t.length + 1):=by rw [hl];simp
   have hx : rd_T92 a (pre.length : Int) = x:=by rw [hl,rdS_mid]
   refine Ev.step (fun k => ?_) (ih (pre ++ [x]) (by simp [hl]))
   simp only [laws_eqStepS.l0,laws_eqStep.f]
   rw [if_pos (by omega),if_pos (by omega),if_pos (by omega)]
   simp only [if_true,Option.bind_some]
   rw [w64 (by omega) (by omega),snocA]
 refine Ev.congr (fun k => ?_) (go a [] rfl)
 unfold laws_eqStepS.f
 rw [if_pos rfl];rfl
theorem toAutomaton_ev (n : Int) (s f : List Int) (t : List S118) (hs : s.length ≤ 1048576) (hf : f.length ≤ 1048576) (ht : t.length ≤ 1048576) : Ev (fun k => laws_toAutomaton.f k n s f t) (n,s,f,t.map cvS):=by
 refine Ev.congr (f:=?f1) (fun k => ?h1) ?k1
 case h1 => unfold laws_toAutomaton.f;exact rfl
 exact Ev.bind (toIntS_ev s hs) (Ev.bind (toIntS_ev f hf) (Ev.bind (toStepS_ev t ht) (Ev.now _)))
theorem eqAutomaton_ev (n : Int) (s f : List Int) (t : List S92) (hs : s.length ≤ 1000000000) (hf : f.length ≤ 1000000000) (ht : t.length ≤ 1000000000) : Ev (fun k => laws_eqAutomaton.f k n s f t n s f t) true:=by
 refine Ev.congr (f:=?f2) (fun k => ?h2) ?k2
 case h2 => unfold laws_eqAutomaton.f;rw [if_pos rfl] <;> exact rfl
 refine Ev.bind (eqIntS_ev s s hs) (Ev_t (by simp) (Ev.bind (eqIntS_ev f f hf) (Ev_t (by simp) (Ev.bind (eqStepS_ev t ht) (Ev_t rfl (Ev.now _))))))
theorem szIntS_eq (l : List Int) (z : Int) (h : l.length ≤ maxLen) (h0 : 0 ≤ z) (h1 : z ≤ 1048576) : laws_szIntS.f l z = some (if (l.length : Int) ≤ z then z - l.length else -1):=by
 rw [maxLen_eq] at h
 unfold laws_szIntS.f
 rw [w64 (by omega) (by omega)]
 by_cases hl : (l.length : Int) ≤ z
 ·rw [if_neg (by omega),if_pos hl]
 ·rw [if_pos (by omega),if_neg hl]
theorem szStepS_ev (l : List S118) (h : l.length ≤ maxLen) (hx : ∀ x ∈ l,x.f1.size ≤ maxLen) (z : Int) (h0 : 0 ≤ z) (h1 : z ≤ 1048576) : ∃ r : Int,Ev (fun k => laws_szStepS.f k l z) r ∧ (r < 0 ∨ (0 ≤ r ∧ r ≤ z ∧ l.length ≤ z)):=by
 rw [maxLen_eq] at h
 by_cases hl : (l.length : Int) ≤ z
 ·have go : ∀ (t pre : List S118) (y : Int),l = pre ++ t → 0 ≤ y → y ≤ z → ∃ r : Int,Ev (fun k => laws_szStepS.l0 k l y (pre.length : Int)) r ∧ (r < 0 ∨ (0 ≤ r ∧ r ≤ z)):=by
   intro t
   induction t with
   | nil =>
    intro pre y hp hy hz
    refine ⟨y,Ev.step (f:=fun _ => some y) (fun k => ?_) (Ev.now _),.inr ⟨hy,hz⟩⟩
    simp only [laws_szStepS.l0]
    rw [if_neg (by rw [hp];simp)]
   | cons x t ih =>
    intro pre y hp hy hz
    have hlen : l.length = pre.length + (t.length + 1):=by rw [hp];simp
    have hr : rd_T118 l (pre.length : Int) = x:=by rw [hp,rdL_mid]
    have hm:=hx x (by rw [hp];simp)
    rw [maxLen_eq] at hm
    have hw : wrap64 (y - (x.f1.size : Int)) = y - x.f1.size:=w64 (by omega) (by omega)
    by_cases hq : y - x.f1.size < 0
    ·refine ⟨-1,Ev.step (f:=fun _ => some (-1)) (fun k => ?_) (Ev.now _),.inl (by omega)⟩
     simp only [laws_szStepS.l0,laws_szStep.f]
     rw [if_pos (by omega),if_pos (by omega),hr,hw,if_pos hq,Option.bind_some,if_pos (by omega)]
    ·obtain ⟨r,e,c⟩:=ih (pre ++ [x]) (y - x.f1.size) (by simp [hp]) (by omega) (by omega)
     refine ⟨r,Ev.step (fun k => ?_) e,c⟩
     simp only [laws_szStepS.l0,laws_szStep.f]
     rw [if_pos (by omega),if_pos (by omega),hr,hw,if_neg hq,Option.bind_some,if_neg hq,w64 (by omega) (by omega),snocA]
  obtain ⟨r,e,c⟩:=go l [] (z - l.length) rfl (by omega) (by omega)
  refine ⟨r,Ev.congr (fun k => ?_) e,c.imp id (fun c => ⟨c.1,c.2,by omega⟩)⟩
  unfold laws_szStepS.f
  rw [w64 (by omega) (by omega),if_neg (by omega)];rfl
 ·refine ⟨-1,Ev.congr (f:=fun _ => some (-1)) (fun k => ?_) (Ev.now _),.inl (by omega)⟩
  unfold laws_szStepS.f
  rw [w64 (by omega) (by omega),if_pos (by omega)]
theorem szAutomaton_ev (n : Int) (s f : List Int) (t : List S118) (hs : s.length ≤ maxLen) (hf : f.length ≤ maxLen) (ht : t.length ≤ maxLen) (hx : ∀ x ∈ t,x.f1.size ≤ maxLen) (z : Int) (h0 : 0 ≤ z) (h1 : z ≤ 1048576) :
  ∃ r : Int,Ev (fun k => laws_szAutomaton.f k n s f t z) r ∧ (r < 0 ∨ (0 ≤ r ∧ r ≤ z ∧ s.length ≤ 1048576 ∧ f.length ≤ 1048576 ∧ t.length ≤ 1048576)):=by
 by_cases a1 : (s.length : Int) ≤ z
 case neg => exact ⟨-1,Ev.congr (f:=fun _ => some (-1)) (fun k => by unfold laws_szAutomaton.f;rw [szIntS_eq s z hs h0 h1,if_neg a1,Option.bind_some,if_pos (by omega)]) (Ev.now _),.inl (by omega)⟩
 by_cases a2 : (f.length : Int) ≤ z - s.length
 case neg => exact ⟨-1,Ev.congr (f:=fun _ => some (-1)) (fun k => by unfold laws_szAutomaton.f;rw [szIntS_eq s z hs h0 h1,if_pos a1,Option.bind_some,if_neg (by omega),szIntS_eq f _ hf (by omega) (by omega),if_neg a2,Option.bind_some,if_pos (by omega)]) (Ev.now _),.inl (by omega)⟩
 obtain ⟨r,e,c⟩:=szStepS_ev t ht hx (z - s.length - f.length) (by omega) (by omega)
 by_cases hr : r < 0
 ·refine ⟨-1,Ev.congr (f:=?f3) (fun k => ?h3) ?k3,.inl (by omega)⟩
  case h3 => unfold laws_szAutomaton.f;rw [szIntS_eq s z hs h0 h1,if_pos a1,Option.bind_some,if_neg (by omega),szIntS_eq f _ hf (by omega) (by omega),if_pos a2,Option.bind_some,if_neg (by omega)] <;> exact rfl
  exact Ev.bind e (Ev_t hr (Ev.now _))
 ·have c:=c.resolve_left hr
  refine ⟨r,Ev.congr (f:=?f4) (fun k => ?h4) ?k4,.inr ⟨c.1,by omega,by omega,by omega,by omega⟩⟩
  case h4 => unfold laws_szAutomaton.f;rw [szIntS_eq s z hs h0 h1,if_pos a1,Option.bind_some,if_neg (by omega),szIntS_eq f _ hf (by omega) (by omega),if_pos a2,Option.bind_some,if_neg (by omega)] <;> exact rfl
  exact Ev.bind e (Ev_f hr (Ev.now _))
def count : Int → Nat → List Int
 | _,0 => []
 | k,n + 1 => k :: count (k + 1) n
theorem count_length (n : Nat) : ∀ k,(count k n).length = n:=by induction n with
 | zero => intro k;rfl
 | succ n ih => intro k;simp [count,ih]
theorem markIntS_ev (l : List Int) (c : Int) (h : l.length ≤ 1000000000) (h0 : 0 ≤ c) (h1 : c ≤ 1000000000) : Ev (fun k => laws_markIntS.f k l c) (c + l.length,count c l.length):=by
 have go : ∀ (t pre : List Int) (m : Int),pre.length + t.length = l.length → m = c + pre.length → Ev (fun k => laws_markIntS.l0 k (pre ++ t) m (pre.length : Int)) (c + l.length,pre ++ count m t.length):=by
  intro t
  induction t with
  | nil =>
   intro pre m hl hm
   refine Ev.step (f:=fun _ => some (m,pre)) (fun k => ?_) ((Ev.now _).is ?_)
   ·simp only [laws_markIntS.l0];rw [if_neg (by simp)];simp
   ·simp at hl;simp [count];omega
  | cons x t ih =>
   intro pre m hl hm
   simp at hl
   have i:=ih (pre ++ [m]) (m + 1) (by simp;omega) (by simp;omega)
   refine Ev.step (fun k => ?_) (i.is (by simp [count]))
   simp only [laws_markIntS.l0]
   rw [if_pos (by simp;omega),if_pos (by omega),w64 (by omega) (by omega),w64 (by omega) (by omega),snoc_len]
   congr 1
   simp [List.set_append]
 exact (go l [] c (by simp) (by simp))
theorem heldIntS_ev (n : Nat) (c : Int) (h : n ≤ 1000000000) (h0 : 0 ≤ c) (h1 : c ≤ 1000000000) : Ev (fun k => laws_heldIntS.f k (count c n) c) (c + n):=by
 have go : ∀ (m : Nat) (pre : List Int) (z : Int),pre.length + m = n → z = c + pre.length → Ev (fun k => laws_heldIntS.l0 k (pre ++ count z m) z (pre.length : Int)) (c + n):=by
  intro m
  induction m with
  | zero =>
   intro pre z hl hz
   refine Ev.step (f:=fun _ => some z) (fun k => ?_) ((Ev.now _).is (by omega))
   simp only [laws_heldIntS.l0];rw [if_neg (by simp [count])]
  | succ m ih =>
   intro pre z hl hz
   have i:=ih (pre ++ [z]) (z + 1) (by simp;omega) (by simp;omega)
   show Ev (fun k => laws_heldIntS.l0 k (pre ++ z :: count (z + 1) m) z (pre.length : Int)) (c + n)
   refine Ev.step (fun k => ?_) i
   simp only [laws_heldIntS.l0]
   rw [if_pos (by simp [count_length];omega),if_pos (by omega),if_pos (by rw [rd_mid]),w64 (by omega) (by omega),w64 (by omega) (by omega),snoc_len]
   simp
 exact go n [] c (by simp) (by simp)
theorem markMatrix_ev (n : Int) (l : List Int) (c : Int) (h : l.length ≤ 1000000000) (h0 : 0 ≤ c) (h1 : c ≤ 1000000000) : Ev (fun k => laws_markMatrix.f k n l c) (c + l.length,count c l.length):=by
 refine Ev.congr (f:=?f1) (fun k => ?h1) ?k1
 case h1 => unfold laws_markMatrix.f;exact rfl
 exact Ev.bind (markIntS_ev l c h h0 h1) (Ev.now _)
theorem heldMatrix_ev (n : Int) (m : Nat) (c : Int) (h : m ≤ 1000000000) (h0 : 0 ≤ c) (h1 : c ≤ 1000000000) : Ev (fun k => laws_heldMatrix.f k n (count c m) c) (c + m):=by
 refine Ev.congr (f:=?f2) (fun k => ?h2) ?k2
 case h2 => unfold laws_heldMatrix.f;exact rfl
 exact Ev.bind (heldIntS_ev m c h h0 h1) (Ev.congr (f:=fun _ => some (c + m)) (fun k => by rw [if_neg (by omega)]) (Ev.now _))
theorem markText_ev (c : Int) (h0 : 1 ≤ c) (h1 : c ≤ 1000000000) : ∃ r,Ev (fun k => laws_markText.f k c) r:=by
 have go : ∀ (d : Nat) (x : Int) (s : ByteArray),0 ≤ x → x.toNat ≤ d → s.size + d ≤ 2000000000 → ∃ r,Ev (fun k => laws_markText.l0 k x s) r:=by
  intro d
  induction d with
  | zero =>
   intro x s hx hd hs
   refine ⟨_,Ev.step (f:=fun _ => some ((⟨#[109]⟩ : ByteArray) ++ s)) (fun k => ?_) (Ev.now _)⟩
   simp only [laws_markText.l0];rw [if_neg (by omega),if_pos (by omega)]
  | succ d ih =>
   intro x s hx hd hs
   by_cases hx0 : x > 0
   ·have e1 : Int.tdiv x 10 = x / 10:=Int.tdiv_eq_ediv_of_nonneg (by omega)
    have hz : (strOfNums [(wrap64 (48 + (Int.tmod x 10))) % 256]).size = 1:=rfl
    obtain ⟨r,hr⟩:=ih (x / 10) (strOfNums [(wrap64 (48 + (Int.tmod x 10))) % 256] ++ s) (by omega) (by omega) (by rw [ByteArray.size_append,hz];omega)
    refine ⟨r,Ev.step (fun k => ?_) hr⟩
    simp only [laws_markText.l0]
    rw [if_pos hx0,Option.bind_some,hz,if_pos (by omega),e1,w64 (x:=x / 10) (by omega) (by omega)]
   ·refine ⟨_,Ev.step (f:=fun _ => some ((⟨#[109]⟩ : ByteArray) ++ s)) (fun k => ?_) (Ev.now _)⟩
    simp only [laws_markText.l0];rw [if_neg hx0,if_pos (by omega)]
 obtain ⟨r,hr⟩:=go c.toNat c ⟨#[]⟩ (by omega) (Nat.le_refl _) (by show 0 + c.toNat ≤ 2000000000;omega)
 exact ⟨r,Ev.congr (fun k => by unfold laws_markText.f;rw [if_neg (by omega)]) hr⟩
theorem markStepS_ev (l : List S92) (c : Int) (h : l.length ≤ 20000000) (h0 : 1 ≤ c) (h1 : c ≤ 20000000) : ∃ l',Ev (fun k => laws_markStepS.f k l c) (c + 4 * l.length,l'):=by
 have go : ∀ (d : Nat) (m : List S92) (i : Nat) (z : Int),m.length = l.length → i + d = l.length → z = c + 4 * i → ∃ l',Ev (fun k => laws_markStepS.l0 k m z (i : Int)) (c + 4 * l.length,l'):=by
  intro d
  induction d with
  | zero =>
   intro m i z hm hi hz
   refine ⟨m,Ev.step (f:=fun _ => some (z,m)) (fun k => ?_) ((Ev.now _).is (by rw [hz];congr 1;omega))⟩
   simp only [laws_markStepS.l0];rw [if_neg (by omega)]
  | succ d ih =>
   intro m i z hm hi hz
   obtain ⟨r,hr⟩:=markText_ev (z + 1) (by omega) (by omega)
   have i1 : (i : Int) < (m.length : Int):=by omega
   have i2 : 0 ≤ (i : Int):=by omega
   have key : ∀ m' : List S92,m'.length = l.length → ∃ l',Ev (fun k => laws_markStepS.l0 k m' (z + 1 + 1 + 1 + 1) ((i + 1 : Nat) : Int)) (c + 4 * l.length,l'):=fun m' hm' => ih m' (i + 1) (z + 1 + 1 + 1 + 1) hm' (by omega) (by rw [hz];push_cast;omega)
   have hw1 : wrap64 (z + 1) = z + 1:=w64 (by omega) (by omega)
   have hw2 : wrap64 (z + 1 + 1) = z + 1 + 1:=w64 (by omega) (by omega)
   have hw3 : wrap64 (z + 1 + 1 + 1) = z + 1 + 1 + 1:=w64 (by omega) (by omega)
   have hw4 : wrap64 (z + 1 + 1 + 1 + 1) = z + 1 + 1 + 1 + 1:=w64 (by omega) (by omega)
   have hw5 : wrap64 ((i : Int) + 1) = ((i + 1 : Nat) : Int):=by rw [w64 (by omega) (by omega)];rfl
   have pS : ∀ {f g : Nat → Option (Int × List S92)},(∀ k,f (k + 1) = g k) → (∃ l',Ev g (c + 4 * l.length,l')) → ∃ l',Ev f (c + 4 * l.length,l'):=fun h e => e.elim fun l' e => ⟨l',Ev.step h e⟩
   have pB : ∀ {α : Type} {f : Nat → Option α} {a : α} {g : Nat → α → Option (Int × List S92)},Ev f a → (∃ l',Ev (fun k => g k a) (c + 4 * l.length,l')) → ∃ l',Ev (fun k => (f k).bind (g k)) (c + 4 * l.length,l'):=fun h e => e.elim fun l' e => ⟨l',Ev.bind h e⟩
   refine pS (fun k => by simp only [laws_markStepS.l0];rw [if_pos i1,if_pos i2,hw1,hw2,hw3,hw4,hw5] <;> exact rfl) ?_
   refine pB (ev_some (fun _ => rfl)) ?_
   refine pB hr ?_
   refine pB (ev_some (fun _ => rfl)) ?_
   refine pB (ev_some (fun _ => rfl)) ?_
   exact key _ (by simp only [List.length_set];exact hm)
 exact go l.length l 0 c rfl (by omega) (by simp)
theorem markAutomaton_ev (n : Int) (s f : List Int) (t : List S92) (hs : s.length ≤ 1048576) (hf : f.length ≤ 1048576) (ht : t.length ≤ 1048576) : ∃ (z : Int) (s' f' : List Int) (t' : List S92),Ev (fun k => laws_markAutomaton.f k n s f t 1) (z,s',f',t') ∧ 1 ≤ z ∧ z ≤ 20000000:=by
 obtain ⟨t',h⟩:=markStepS_ev t (1 + s.length + f.length) (by omega) (by omega) (by omega)
 refine ⟨1 + s.length + f.length + 4 * t.length,count 1 s.length,count (1 + s.length) f.length,t',?_,by omega,by omega⟩
 unfold laws_markAutomaton.f
 exact Ev.bind (markIntS_ev s 1 (by omega) (by omega) (by omega)) (Ev.bind (markIntS_ev f (1 + s.length) (by omega) (by omega) (by omega)) (Ev.bind h (Ev.now _)))
inductive Reads : List UInt8 → List S136 → List UInt8 → Prop
 | done : Reads [] [] []
 | letter (c : UInt8) (e : List UInt8) (ps : List S136) (r : List UInt8) : (c = 97 ∨ c = 98) → Reads e ps r → Reads (c :: e) ((⟨⟨#[c]⟩,[]⟩ : S136) :: ps) r
 | again (e : List UInt8) (w : List S136) (e2 : List UInt8) (ps : List S136) (r : List UInt8) : Reads e w (41 :: 35 :: e2) → w ≠ [] → Reads e2 ps r → Reads (40 :: e) ((⟨⟨#[]⟩,w⟩ : S136) :: ps) r
 | other (c : UInt8) (e : List UInt8) : c ≠ 97 → c ≠ 98 → c ≠ 40 → Reads (c :: e) [] (c :: e)
 | bad (e : List UInt8) (w : List S136) (r1 : List UInt8) : Reads e w r1 → (w = [] ∨ ∀ e2,r1 ≠ 41 :: 35 :: e2) → Reads (40 :: e) [] (40 :: e)
theorem Reads.suffix {e ps r} (h : Reads e ps r) : ∃ v,e = v ++ r:=by
 induction h with
 | done => exact ⟨[],rfl⟩
 | letter c e ps r _ _ ih => obtain ⟨v,rfl⟩:=ih;exact ⟨c :: v,rfl⟩
 | again e w e2 ps r _ _ _ ih1 ih2 =>
  obtain ⟨v1,rfl⟩:=ih1;obtain ⟨v2,rfl⟩:=ih2
  exact ⟨40 :: (v1 ++ 41 :: 35 :: v2),by simp⟩
 | other c e => exact ⟨[],rfl⟩
 | bad e w r1 => exact ⟨[],rfl⟩
theorem Reads.none {e r} (h : Reads e [] r) : r = e:=by cases h <;> rfl
theorem Reads.some {e ps r} (h : Reads e ps r) (hp : ps ≠ []) : r.length < e.length:=by
 cases h with
 | done => exact absurd rfl hp
 | letter c e ps r _ h => obtain ⟨v,rfl⟩:=h.suffix;simp;omega
 | again e w e2 ps r h1 _ h2 => obtain ⟨v1,rfl⟩:=h1.suffix;obtain ⟨v2,rfl⟩:=h2.suffix;simp;omega
 | other c e => exact absurd rfl hp
 | bad e w r1 => exact absurd rfl hp
theorem Reads.le {e ps r} (h : Reads e ps r) : r.length ≤ e.length:=by obtain ⟨v,rfl⟩:=h.suffix;simp
theorem Reads.parts {e ps r} (h : Reads e ps r) : ps.length + r.length ≤ e.length:=by
 induction h with
 | done => simp
 | letter c e ps r _ _ ih => simp;omega
 | again e w e2 ps r h1 _ _ ih1 ih2 => have:=h1.le;simp at *;omega
 | other c e => simp
 | bad e w r1 => simp
theorem reads_all (n : Nat) : ∀ e : List UInt8,e.length ≤ n → ∃ ps r,Reads e ps r:=by
 induction n with
 | zero => intro e h;cases e with
  | nil => exact ⟨[],[],.done⟩
  | cons c e => simp at h
 | succ n ih =>
  intro e h
  cases e with
  | nil => exact ⟨[],[],.done⟩
  | cons c e =>
   simp at h
   by_cases h1 : c = 97 ∨ c = 98
   ·obtain ⟨ps,r,hr⟩:=ih e h;exact ⟨_,_,.letter c e ps r h1 hr⟩
   ·by_cases h2 : c = 40
    ·subst h2
     obtain ⟨w,r1,hw⟩:=ih e h
     by_cases h3 : w = [] ∨ ∀ e2,r1 ≠ 41 :: 35 :: e2
     ·exact ⟨_,_,.bad e w r1 hw h3⟩
     ·obtain ⟨h4,h5⟩:=not_or.mp h3
      obtain ⟨e2,h6⟩:=Classical.not_forall.mp h5
      have h6:=Classical.not_not.mp h6
      subst h6
      have:=hw.le
      obtain ⟨ps,r,hr⟩:=ih e2 (by simp at this;omega)
      exact ⟨_,_,.again e w e2 ps r hw h4 hr⟩
    ·exact ⟨_,_,.other c e (fun h => h1 (.inl h)) (fun h => h1 (.inr h)) h2⟩
def endv (s : ByteArray) (r : List UInt8) (b : Int) : Int :=
 if r = [] ∨ r.head? = some 41 then (if (s.size : Int) - r.length = b then -1 else (s.size : Int) - r.length) else -1
theorem end_stop (s : ByteArray) (u : List UInt8) (b : Int) (x : Bool) (j : Int) (hj : j = u.length) (hx : x = false) :
  Ev (fun k => spec_l7End.j1 k s j b x) (if j = b then -1 else j):=by
 subst hx
 refine Ev.step (f:=fun _ => some (if j = b then -1 else j)) (fun k => ?_) (Ev.now _)
 simp only [spec_l7End.j1]
 rw [if_neg (by simp)]
 split <;> rfl
set_option maxHeartbeats 1000000 in
theorem end_reads {e ps r} (h : Reads e ps r) : ∀ (s : ByteArray) (u : List UInt8) (b : Int),L s = u ++ e → s.size ≤ 1000000 → 0 ≤ b → b ≤ u.length →
  Ev (fun k => spec_l7End.l0 k s u.length b) (endv s r b):=by
 induction h with
 | done =>
  intro s u b hs hn hb0 hb
  have hz:=size_suffix hs
  refine Ev.step (f:=fun k => spec_l7End.j1 k s u.length b false) (fun k => ?_) ?_
  ·simp only [spec_l7End.l0];rw [if_neg (by simp at hz;omega)]
  ·refine (end_stop s u b false _ rfl rfl).is ?_
   simp [endv];simp at hz;rw [hz]
 | letter c e ps r hc h ih =>
  intro s u b hs hn hb0 hb
  have hz:=size_suffix hs
  have hbt:=bt_suffix hs
  simp at hz
  have h41 : ((bt s u.length) != 41) = true:=by rw [hbt];rcases hc with rfl|rfl <;> decide
  refine Ev.step (f:=fun k => spec_l7End.j1 k s u.length b true) (fun k => ?_) ?_
  ·simp only [spec_l7End.l0];rw [if_pos (by omega),if_pos (by omega),h41]
  refine Ev.step (f:=fun k => spec_l7End.j2 k s u.length b true) (fun k => ?_) ?_
  ·simp only [spec_l7End.j1,if_true];rw [if_pos (by omega),if_pos (by omega)]
   rcases hc with rfl|rfl
   ·rw [if_pos (by rw [hbt];rfl)]
   ·rw [if_neg (by rw [hbt];decide),show ((bt s u.length) == 98) = true by rw [hbt];rfl]
  refine Ev.step (f:=fun k => spec_l7End.l0 k s (u ++ [c]).length b) (fun k => ?_) ?_
  ·simp only [spec_l7End.j2,if_true];rw [w64 (by omega) (by omega)];simp
  ·exact ih s (u ++ [c]) b (by simp [hs]) hn hb0 (by simp;omega)
 | again e w e2 ps r h1 hw h2 ih1 ih2 =>
  intro s u b hs hn hb0 hb
  have hz:=size_suffix hs
  have hbt:=bt_suffix hs
  simp at hz
  obtain ⟨v,hv⟩:=h1.suffix
  have hlt:=h1.some hw
  have hs1 : L s = (u ++ [40]) ++ e:=by simp [hs]
  have hs2 : L s = (u ++ 40 :: v) ++ 41 :: (35 :: e2):=by rw [hs,hv];simp
  have hs3 : L s = (u ++ 40 :: v ++ [41]) ++ 35 :: e2:=by rw [hs,hv];simp
  have hs4 : L s = (u ++ 40 :: v ++ [41,35]) ++ e2:=by rw [hs,hv];simp
  have b2:=bt_suffix hs2
  have b3:=bt_suffix hs3
  have z2:=size_suffix hs2
  simp at z2 hlt
  have i1:=ih1 s (u ++ [40]) ((u ++ [40]).length) hs1 hn (by omega) (by omega)
  have he : endv s (41 :: 35 :: e2) ((u ++ [40]).length) = ((u ++ 40 :: v).length : Int):=by
   have hvl : 0 < v.length:=by rw [hv] at hlt;simp at hlt;omega
   unfold endv;rw [if_pos (by simp),if_neg (by simp;omega)];simp;omega
  rw [he] at i1
  have h41 : ((bt s u.length) != 41) = true:=by rw [hbt];rfl
  refine Ev.step (f:=fun k => spec_l7End.j1 k s u.length b true) (fun k => ?_) ?_
  ·simp only [spec_l7End.l0];rw [if_pos (by omega),if_pos (by omega),h41]
  refine Ev.step (f:=fun k => spec_l7End.j2 k s u.length b false) (fun k => ?_) ?_
  ·simp only [spec_l7End.j1,if_true];rw [if_pos (by omega),if_pos (by omega),if_neg (by rw [hbt];decide),show ((bt s u.length) == 98) = false by rw [hbt];rfl]
  have hw1 : wrap64 ((u.length : Int) + 1) = ((u ++ [40]).length : Int):=by rw [w64 (by omega) (by omega)];simp
  refine Ev.step (f:=?f1) (fun k => ?h1) ?k1
  case h1 =>
   simp only [spec_l7End.j2]
   rw [if_neg (by simp),if_pos (by omega),if_pos (by omega),if_pos (by rw [hbt];rfl),hw1] <;> exact rfl
  refine Ev.bind (a:=((u ++ 40 :: v).length : Int)) (Ev.step (fun k => by simp only [spec_l7End.f]) i1) ?_
  simp only [List.length_append,List.length_cons]
  have i2:=ih2 s (u ++ 40 :: v ++ [41,35]) b hs4 hn hb0 (by simp;omega)
  refine Ev.congr (fun k => ?_) i2
  have e1 : wrap64 (((u.length + (v.length + 1) : Nat) : Int) + 1) = (((u ++ 40 :: v ++ [41]).length : Nat) : Int):=by rw [w64 (by omega) (by omega)];simp;omega
  have e2 : wrap64 (((u.length + (v.length + 1) : Nat) : Int) + 2) = (((u ++ 40 :: v ++ [41,35]).length : Nat) : Int):=by rw [w64 (by omega) (by omega)];simp;omega
  rw [e1,e2]
  simp only [List.length_append,List.length_cons,List.length_nil] at b2 b3 ⊢
  rw [if_neg (by omega),if_neg (by omega),if_pos (by omega),if_pos (by omega),if_pos (by rw [b2] <;> rfl),if_pos (by omega),if_pos (by omega),if_pos (by rw [b3] <;> rfl)]
 | other c e c1 c2 c3 =>
  intro s u b hs hn hb0 hb
  have hz:=size_suffix hs
  have hbt:=bt_suffix hs
  simp at hz
  by_cases h41 : c = 41
  ·subst h41
   refine Ev.step (f:=fun k => spec_l7End.j1 k s u.length b false) (fun k => ?_) ?_
   ·simp only [spec_l7End.l0];rw [if_pos (by omega),if_pos (by omega),show ((bt s u.length) != 41) = false by rw [hbt];rfl]
   ·refine (end_stop s u b false _ rfl rfl).is ?_
    have h2 : (s.size : Int) - ((41 :: e : List UInt8).length : Int) = u.length:=by simp only [List.length_cons];omega
    unfold endv;rw [if_pos (c:=(41 :: e : List UInt8) = [] ∨ (41 :: e : List UInt8).head? = some 41) (.inr rfl),h2]
  ·refine Ev.step (f:=fun k => spec_l7End.j1 k s u.length b true) (fun k => ?_) ?_
   ·simp only [spec_l7End.l0];rw [if_pos (by omega),if_pos (by omega),show ((bt s u.length) != 41) = true by rw [hbt];simpa using u8_ne h41]
   refine Ev.step (f:=fun k => spec_l7End.j2 k s u.length b false) (fun k => ?_) ?_
   ·simp only [spec_l7End.j1,if_true];rw [if_pos (by omega),if_pos (by omega),if_neg (by rw [hbt];exact u8_ne c1),show ((bt s u.length) == 98) = false by rw [hbt];simpa using u8_ne c2]
   refine Ev.step (f:=fun _ => some (-1)) (fun k => ?_) ((Ev.now _).is ?_)
   ·simp only [spec_l7End.j2];rw [if_neg (by simp),if_pos (by omega),if_pos (by omega),if_neg (by rw [hbt];exact u8_ne c3)]
   ·unfold endv;rw [if_neg (by simp [h41])]
 | bad e w r1 h1 hw ih =>
  intro s u b hs hn hb0 hb
  have hz:=size_suffix hs
  have hbt:=bt_suffix hs
  simp at hz
  obtain ⟨v,hv⟩:=h1.suffix
  have hs1 : L s = (u ++ [40]) ++ e:=by simp [hs]
  have hs2 : L s = (u ++ 40 :: v) ++ r1:=by rw [hs,hv];simp
  have z2:=size_suffix hs2
  simp at z2
  have i1:=ih s (u ++ [40]) ((u ++ [40]).length) hs1 hn (by omega) (by omega)
  have h41 : ((bt s u.length) != 41) = true:=by rw [hbt];rfl
  refine Ev.step (f:=fun k => spec_l7End.j1 k s u.length b true) (fun k => ?_) ?_
  ·simp only [spec_l7End.l0];rw [if_pos (by omega),if_pos (by omega),h41]
  refine Ev.step (f:=fun k => spec_l7End.j2 k s u.length b false) (fun k => ?_) ?_
  ·simp only [spec_l7End.j1,if_true];rw [if_pos (by omega),if_pos (by omega),if_neg (by rw [hbt];decide),show ((bt s u.length) == 98) = false by rw [hbt];rfl]
  have hw1 : wrap64 ((u.length : Int) + 1) = ((u ++ [40]).length : Int):=by rw [w64 (by omega) (by omega)];simp
  have hend : endv s (40 :: e) b = -1:=by unfold endv;rw [if_neg (by simp)]
  rw [hend]
  refine Ev.step (f:=?f2) (fun k => ?h2) ?k2
  case h2 =>
   simp only [spec_l7End.j2]
   rw [if_neg (by simp),if_pos (by omega),if_pos (by omega),if_pos (by rw [hbt];rfl),hw1] <;> exact rfl
  refine Ev.bind (a:=endv s r1 ((u ++ [40]).length)) (Ev.step (fun k => by simp only [spec_l7End.f]) i1) ?_
  refine Ev.congr (f:=fun _ => some (-1)) (fun k => ?_) (Ev.now _)
  unfold endv
  by_cases hr : r1 = [] ∨ r1.head? = some 41
  ·rw [if_pos hr]
   by_cases hb1 : (s.size : Int) - r1.length = ((u ++ [40]).length : Int)
   ·rw [if_pos hb1,if_pos (by omega)]
   ·rw [if_neg hb1,if_neg (by omega)]
    have e1 : wrap64 ((s.size : Int) - r1.length + 1) = (s.size : Int) - r1.length + 1:=w64 (by omega) (by omega)
    rw [e1]
    rcases hr with rfl|hr
    ·rw [if_pos (by simp;omega)]
    ·cases r1 with
     | nil => simp at hr
     | cons c r2 =>
      simp at hr;subst hr
      cases r2 with
      | nil => rw [if_pos (by simp)]
      | cons c2 r3 =>
       have hs3 : L s = (u ++ 40 :: v ++ [41]) ++ c2 :: r3:=by rw [hs2];simp
       have b2:=bt_suffix hs2
       have b3:=bt_suffix hs3
       simp at z2 b2 b3
       have hj : (s.size : Int) - ((41 :: c2 :: r3 : List UInt8).length : Int) = (u.length : Int) + (v.length + 1):=by simp;omega
       have hwn : w ≠ []:=by
        rintro rfl
        have:=h1.none
        apply hb1
        have hl : e.length = r3.length + 2:=by rw [← this];simp
        simp;omega
       have hc : c2 ≠ 35:=by
        rintro rfl
        rcases hw with h|h
        ·exact hwn h
        ·exact h r3 rfl
       rw [hj,if_neg (by omega),if_pos (by omega),if_pos (by omega),if_pos (by rw [b2] <;> rfl),if_pos (by omega),if_pos (by omega),if_neg (by rw [show (u.length : Int) + (v.length + 1) + 1 = u.length + (v.length + 1 + 1) by omega,b3];exact u8_ne hc)]
  ·rw [if_neg hr,if_pos (by omega)]
theorem div_mod_at (n i k : Nat) (hk : k < n) : (i * n + k) / n = i ∧ (i * n + k) % n = k:=by
 have hn : 0 < n:=by omega
 constructor
 ·rw [Nat.mul_comm,Nat.mul_add_div hn,Nat.div_eq_of_lt hk,Nat.add_zero]
 ·rw [Nat.mul_comm,Nat.mul_add_mod,Nat.mod_eq_of_lt hk]
theorem cell_lt (n i k : Nat) (hi : i < n) (hk : k < n) : i * n + k < n * n:=by
 have : (i + 1) * n ≤ n * n:=Nat.mul_le_mul_right n hi
 rw [Nat.succ_mul] at this
 omega
theorem sq_le (n : Nat) (h : n ≤ 4) : n * n ≤ 16:=by
 have:=Nat.mul_le_mul h h
 omega
theorem row_le (n i : Nat) (hn : n ≤ 4) (hi : i ≤ n) : i * n ≤ 16:=by
 have:=Nat.mul_le_mul (Nat.le_trans hi hn) hn
 omega
def cutF (n : Nat) (g : Nat → Nat → Int) : Int → Int → Option Int:=fun i k => if 0 ≤ i ∧ i < n ∧ 0 ≤ k ∧ k < n then some (g i.toNat k.toNat) else none
theorem cutF_at (n : Nat) (g : Nat → Nat → Int) (i k : Nat) (hi : i < n) (hk : k < n) : cutF n g (i : Int) (k : Int) = some (g i k):=by
 unfold cutF;rw [if_pos (by omega)];simp
def sqL (n : Nat) (g : Nat → Nat → Int) : List Int:=tab (n * n) (fun m => g (m / n) (m % n))
theorem sqL_get (n : Nat) (g : Nat → Nat → Int) (i k : Nat) (hi : i < n) (hk : k < n) : (sqL n g).getD (i * n + k) 0 = g i k:=by
 unfold sqL
 rw [tab_get _ _ _ (cell_lt n i k hi hk)]
 obtain ⟨h1,h2⟩:=div_mod_at n i k hk
 rw [h1,h2]
theorem sqL_congr (n : Nat) (g h : Nat → Nat → Int) (e : ∀ i k,i < n → k < n → g i k = h i k) : sqL n g = sqL n h:=by
 refine tab_congr _ _ _ (fun j hj => e _ _ (Nat.div_lt_of_lt_mul hj) (Nat.mod_lt _ ?_))
 rcases n with _|n
 ·simp at hj
 ·omega
theorem eq_sqL (n : Nat) (l : List Int) (h : l.length = n * n) : l = sqL n (fun i k => l.getD (i * n + k) 0):=by
 refine (eq_tab l _ h).trans (tab_congr _ _ _ (fun j _ => ?_))
 show l.getD j 0 = l.getD (j / n * n + j % n) 0
 rw [Nat.mul_comm,Nat.div_add_mod]
theorem filled_cut (n : Nat) (hn : n ≤ 4) (g : Nat → Nat → Int) : Ev (fun j => impl_filled.f (cutF n g) j (n : Int)) ((n : Int),sqL n g):=by
 have inner : ∀ (i : Nat) (r : Int × List Int),i < n → Ev (fun j => impl_filled.l0 (cutF n g) j n n ((i + 1 : Nat) : Int) n (tab ((i + 1) * n) (fun m => g (m / n) (m % n)))) r →
   Ev (fun j => impl_filled.l0 (cutF n g) j n n (i : Int) n (tab (i * n) (fun m => g (m / n) (m % n)))) r:=by
  intro i r hi h
  refine Ev.step (f:=fun j => impl_filled.l1 (cutF n g) j n i n i n ((0 : Nat) : Int) n (tab (i * n + 0) (fun m => g (m / n) (m % n)))) (fun k => ?_) ?_
  ·simp only [impl_filled.l0];rw [if_pos (by omega)];rfl
  refine up_loop n (fun k j => impl_filled.l1 (cutF n g) j n i n i n (k : Int) n (tab (i * n + k) (fun m => g (m / n) (m % n)))) r (fun k hk hs => ?_) ?_
  ·refine Ev.step (fun j => ?_) hs
   simp only [impl_filled.l1]
   have hr:=row_le n i hn (by omega)
   obtain ⟨h1,h2⟩:=div_mod_at n i k hk
   rw [if_pos (by omega),cutF_at n g i k hi hk,Option.bind_some,tab_length,if_pos (by omega),w64 (by omega) (by omega)]
   have e : tab (i * n + k) (fun m => g (m / n) (m % n)) ++ [g i k] = tab (i * n + (k + 1)) (fun m => g (m / n) (m % n)):=by
    rw [← Nat.add_assoc,← tab_snoc,h1,h2]
   rw [e];rfl
  ·refine Ev.step (fun j => ?_) h
   simp only [impl_filled.l1]
   rw [if_neg (by omega),w64 (by omega) (by omega),Nat.succ_mul];rfl
 refine Ev.congr (f:=fun j => impl_filled.l0 (cutF n g) j n n ((0 : Nat) : Int) n (tab (0 * n) (fun m => g (m / n) (m % n)))) (fun k => ?_) ?_
 ·unfold impl_filled.f;simp [tab]
 refine up_loop n (fun i j => impl_filled.l0 (cutF n g) j n n (i : Int) n (tab (i * n) (fun m => g (m / n) (m % n)))) _ (fun i hi hs => inner i _ hi hs) ?_
 refine Ev.step (f:=fun _ => some ((n : Int),sqL n g)) (fun j => ?_) (Ev.now _)
 simp only [impl_filled.l0]
 rw [if_neg (by omega)];rfl
theorem filled_ev (n : Nat) (hn : n ≤ 4) (g : Nat → Nat → Int) (p : Nat → Int → Int → Option Int) (h : ∀ i,i < n → ∀ k,k < n → Ev (fun K => p K (i : Int) (k : Int)) (g i k)) :
  Ev (fun K => impl_filled.f (p K) K (n : Int)) ((n : Int),sqL n g):=by
 have h2 : ∀ i,i < n → ∃ K0,∀ K,K0 ≤ K → ∀ k,k < n → p K (i : Int) (k : Int) = some (g i k):=fun i hi => ev_all n (fun k hk => h i hi k hk)
 have h3 : ∃ K0,∀ K,K0 ≤ K → ∀ i,i < n → ∀ k,k < n → p K (i : Int) (k : Int) = some (g i k):=by
  have : ∀ m,m ≤ n → ∃ K0,∀ K,K0 ≤ K → ∀ i,i < m → ∀ k,k < n → p K (i : Int) (k : Int) = some (g i k):=by
   intro m
   induction m with
   | zero => intro _;exact ⟨0,fun _ _ i hi => by omega⟩
   | succ m ih =>
    intro hm
    obtain ⟨a,ha⟩:=ih (by omega)
    obtain ⟨b,hb⟩:=h2 m (by omega)
    refine ⟨max a b,fun K hK i hi k hk => ?_⟩
    by_cases e : i = m
    ·subst e;exact hb K (by omega) k hk
    ·exact ha K (by omega) i (by omega) k hk
  exact this n (Nat.le_refl _)
 obtain ⟨K0,hK0⟩:=h3
 refine ev_up (f:=fun j => impl_filled.f (cutF n g) j (n : Int)) (p:=fun K j => impl_filled.f (p K) j (n : Int)) (filled_cut n hn g) ⟨K0,fun K hK j => ?_⟩ (fun K j => impl_filled.mono (p K) _ j)
 refine impl_filled.monoP (fun y0 y1 r hr => ?_) _ j
 unfold cutF at hr
 by_cases hc : 0 ≤ y0 ∧ y0 < n ∧ 0 ≤ y1 ∧ y1 < n
 ·rw [if_pos hc] at hr
  have e0 : ((y0.toNat : Nat) : Int) = y0:=by omega
  have e1 : ((y1.toNat : Nat) : Int) = y1:=by omega
  have:=hK0 K hK y0.toNat (by omega) y1.toNat (by omega)
  rw [e0,e1] at this
  rw [this];exact hr
 ·rw [if_neg hc] at hr;cases hr
theorem at_eq (n : Nat) (hn : n ≤ 4) (l : List Int) (hl : l.length = n * n) (i k : Nat) (hi : i < n) (hk : k < n) : impl_Matrix_at.f (n : Int) l (i : Int) (k : Int) = some (l.getD (i * n + k) 0):=by
 have hc:=cell_lt n i k hi hk
 have hr:=row_le n i hn (by omega)
 have e : wrap64 (wrap64 ((i : Int) * (n : Int)) + k) = ((i * n + k : Nat) : Int):=by
  have : (i : Int) * (n : Int) = ((i * n : Nat) : Int):=by simp
  rw [this,w64 (x:=((i * n : Nat) : Int)) (by omega) (by omega),w64 (by omega) (by omega)];simp
 unfold impl_Matrix_at.f
 rw [e,if_pos (by omega),if_pos (by omega),rd_nat]
theorem tdiv_nat (m n : Nat) : Int.tdiv (m : Int) (n : Int) = ((m / n : Nat) : Int):=by rw [Int.tdiv_eq_ediv_of_nonneg (by omega)];simp
theorem tmod_nat (m n : Nat) : Int.tmod (m : Int) (n : Int) = ((m % n : Nat) : Int):=by rw [Int.tmod_eq_emod_of_nonneg (by omega)];simp
theorem idx1 (n m l : Nat) (hn : n ≤ 4) (hi : m / n < n) (hl : l < n) : wrap64 (wrap64 (wrap64 (Int.tdiv (m : Int) (n : Int)) * (n : Int)) + l) = ((m / n * n + l : Nat) : Int):=by
 have r1:=row_le n (m / n) hn (by omega)
 rw [tdiv_nat]
 obtain ⟨q,hq⟩ : ∃ q : Nat,m / n = q:=⟨_,rfl⟩
 rw [hq] at hi r1 ⊢
 have h1 : ((q : Nat) : Int) * (n : Int) = ((q * n : Nat) : Int):=by simp
 obtain ⟨s,hs⟩ : ∃ s : Nat,q * n = s:=⟨_,rfl⟩
 rw [w64 (x:=((q : Nat) : Int)) (by omega) (by omega),h1]
 rw [hs] at r1 ⊢
 clear h1 hs hq
 rw [w64 (x:=((s : Nat) : Int)) (by omega) (by omega),w64 (by omega) (by omega)];simp
theorem idx2 (n m l : Nat) (hn : n ≤ 4) (hk : m % n < n) (hl : l < n) : wrap64 (wrap64 ((l : Int) * (n : Int)) + Int.tmod (m : Int) (n : Int)) = ((l * n + m % n : Nat) : Int):=by
 have r2:=row_le n l hn (by omega)
 rw [tmod_nat]
 obtain ⟨q,hq⟩ : ∃ q : Nat,m % n = q:=⟨_,rfl⟩
 rw [hq] at hk ⊢
 have h1 : (l : Int) * (n : Int) = ((l * n : Nat) : Int):=by simp
 obtain ⟨s,hs⟩ : ∃ s : Nat,l * n = s:=⟨_,rfl⟩
 rw [h1]
 rw [hs] at r2 ⊢
 clear h1 hs hq
 rw [w64 (x:=((s : Nat) : Int)) (by omega) (by omega),w64 (by omega) (by omega)];simp
theorem MV_nat {n : Int} {l : List Int} (h : MV n l) : ∃ m : Nat,n = (m : Int) ∧ 1 ≤ m ∧ m ≤ 4 ∧ l.length = m * m:=by
 refine ⟨n.toNat,?_⟩
 have h1:=h.1
 have h2:=h.2.1
 have h3:=h.2.2.1
 obtain ⟨m,rfl⟩ : ∃ m : Nat,n = (m : Int):=⟨n.toNat,by omega⟩
 refine ⟨by simp,by simp;omega,by simp;omega,?_⟩
 simp only [Int.toNat_natCast]
 exact_mod_cast h3
def gr (x : Int) : Int:=if x = 0 then 0 else if x = 1000000 then 3 else 1
def gradesR (n : Int) (l : List Int) : Int × List Int × Bool:=if MV n l then (n,l.map gr,true) else (0,[],false)
theorem gradesR_len (n : Int) (l : List Int) (h : l.length ≤ 1048576) : (gradesR n l).2.1.length ≤ 1048576:=by
 unfold gradesR
 by_cases g : MV n l
 ·rw [if_pos g];simpa using h
 ·rw [if_neg g];simp
theorem iGrades (n : Int) (l : List Int) (hl : l.length ≤ maxLen) : Ev (fun k => impl_GradesOf.f k n l) (gradesR n l):=by
 unfold impl_GradesOf.f
 refine Ev.bind (iMV n l hl) ?_
 by_cases g : MV n l
 ·refine Ev_t (decide_eq_true g) ?_
  have e : gradesR n l = (n,l.map gr,true):=by unfold gradesR;rw [if_pos g]
  rw [e]
  obtain ⟨m,rfl,h1,h4,hs⟩:=MV_nat g
  have em : l.map gr = sqL m (fun i k => gr (l.getD (i * m + k) 0)):=by
   rw [eq_sqL m (l.map gr) (by simpa using hs)]
   refine sqL_congr m _ _ (fun i k hi hk => ?_)
   have hc:=cell_lt m i k hi hk
   have hc' : i * m + k < l.length:=by omega
   simp [List.getD_eq_getElem?_getD,List.getElem?_eq_getElem hc']
  rw [em]
  refine Ev.bind (a:=((m : Int),sqL m (fun i k => gr (l.getD (i * m + k) 0)))) ?_ (Ev.now _)
  exact filled_ev m h4 (fun i k => gr (l.getD (i * m + k) 0)) (fun K y0 y1 => impl_GradesOf_1.f y0 y1 m l) (fun i hi k hk => ev_some (fun K => by
   unfold impl_GradesOf_1.f gr
   rw [at_eq m h4 l hs i k hi hk,Option.bind_some]
   by_cases a : l.getD (i * m + k) 0 = 0
   ·rw [if_pos a,if_pos a]
   ·rw [if_neg a,if_neg a]
    by_cases b : l.getD (i * m + k) 0 = 1000000
    ·rw [if_pos b,if_pos b]
    ·rw [if_neg b,if_neg b]))
 ·refine Ev_f (by rw [decide_eq_false g];simp) ((Ev.now _).is ?_)
  unfold gradesR;rw [if_neg g]
theorem sGradesL (n : Int) (l : List Int) (hl : l.length ≤ 1048576) : Ev (fun k => spec_l6Grades.f k n l) (n,l.map gr):=by
 have go : ∀ (t pre : List Int),l = pre ++ t → Ev (fun k => spec_l6Grades.l0 k l (l.length : Int) (pre.length : Int) n (pre.map gr)) (n,l.map gr):=by
  intro t
  induction t with
  | nil =>
   intro pre hp
   refine Ev.step (f:=fun _ => some (n,pre.map gr)) (fun k => ?_) ((Ev.now _).is (by rw [hp];simp))
   simp only [spec_l6Grades.l0];rw [if_neg (by rw [hp];simp)]
  | cons x t ih =>
   intro pre hp
   have hlen : l.length = pre.length + (t.length + 1):=by rw [hp];simp
   have hx : rd l (pre.length : Int) = x:=by rw [hp,rd_mid]
   have hi:=ih (pre ++ [x]) (by simp [hp])
   refine Ev.step (fun k => ?_) hi
   simp only [spec_l6Grades.l0]
   rw [if_pos (by omega),if_pos (by omega),if_pos (by omega),hx,w64 (x:=(pre.length : Int) + 1) (by omega) (by omega),snoc_len,List.map_append,List.map_cons,List.map_nil]
   have hm : (pre.map gr).length < 17592186044416:=by rw [List.length_map];omega
   by_cases a : x = 0
   ·have e : gr x = 0:=by unfold gr;rw [if_pos a]
    rw [if_pos a,if_pos hm,e]
   ·rw [if_neg a]
    by_cases b : x = 1000000
    ·have e : gr x = 3:=by unfold gr;rw [if_neg a,if_pos b]
     rw [if_pos b,if_pos hm,e]
    ·have e : gr x = 1:=by unfold gr;rw [if_neg a,if_neg b]
     rw [if_neg b,if_pos hm,e]
 exact go l [] rfl
def mulE (n : Nat) (a b : List Int) (i k : Nat) : Int:=(List.range n).foldl (fun acc l => mn acc (mx (a.getD (i * n + l) 0) (b.getD (l * n + k) 0))) 3
def mulL (n : Nat) (a b : List Int) : List Int:=sqL n (mulE n a b)
theorem mulL_length (n : Nat) (a b : List Int) : (mulL n a b).length = n * n:=by simp [mulL,sqL,tab_length]
theorem iMulCell (n : Nat) (hn : n ≤ 4) (a b : List Int) (ha : a.length = n * n) (hb : b.length = n * n) (i k : Nat) (hi : i < n) (hk : k < n) :
  Ev (fun K => impl_MulGrades_1.f K (i : Int) (k : Int) (n : Int) a (n : Int) b) (mulE n a b i k):=by
 refine up_loop n (fun l K => impl_MulGrades_1.l0 K i k ((List.range l).foldl (fun acc l => mn acc (mx (a.getD (i * n + l) 0) (b.getD (l * n + k) 0))) 3) n (l : Int) n a n b) _ (fun l hl hs => ?_) ?_
 ·refine Ev.step (fun j => ?_) hs
  simp only [impl_MulGrades_1.l0]
  rw [if_pos (by omega),at_eq n hn a ha i l hi hl,Option.bind_some,at_eq n hn b hb l k hl hk,Option.bind_some,w64 (by omega) (by omega),fold_snoc];rfl
 ·refine Ev.step (f:=fun _ => some (mulE n a b i k)) (fun j => ?_) (Ev.now _)
  simp only [impl_MulGrades_1.l0]
  rw [if_neg (by omega)];rfl
theorem GV_len {n : Nat} {l : List Int} (h : GV (n : Int) l) : l.length = n * n:=by
 have:=h.1.2.2.1
 exact_mod_cast this
theorem GV_le {n : Nat} {l : List Int} (h : GV (n : Int) l) : n ≤ 4 ∧ 1 ≤ n:=by
 have h1:=h.1.1
 have h2:=h.1.2.1
 omega
theorem GV_nat {n : Int} {l : List Int} (h : GV n l) : ∃ m : Nat,n = (m : Int):=⟨n.toNat,by have:=h.1.1;omega⟩
theorem iMul (n : Nat) (a b : List Int) (ha : GV n a) (hb : GV n b) : Ev (fun k => impl_MulGrades.f k n a n b) ((n : Int),mulL n a b,true):=by
 have hn:=(GV_le ha).1
 have hla:=GV_len ha
 have hlb:=GV_len hb
 have hs:=sq_le n hn
 have hm : ∀ l : List Int,l.length = n * n → l.length ≤ maxLen:=fun l h => by rw [maxLen_eq];omega
 refine Ev.congr (f:=?f1) (fun k => ?h1) ?k1
 case h1 => unfold impl_MulGrades.f;exact rfl
 refine Ev.bind (iGV n a (hm a hla)) ?_
 refine Ev.congr (f:=?f2) (fun k => ?h2) ?k2
 case h2 => rw [decide_eq_true ha,if_pos rfl] <;> exact rfl
 refine Ev.bind (iGV n b (hm b hlb)) ?_
 refine Ev.congr (f:=?f3) (fun k => ?h3) ?k3
 case h3 => rw [decide_eq_true hb,if_pos rfl,if_pos rfl] <;> exact rfl
 refine Ev.bind (a:=((n : Int),mulL n a b)) ?_ (Ev.now _)
 exact filled_ev n hn (mulE n a b) (fun K y0 y1 => impl_MulGrades_1.f K y0 y1 n a n b) (fun i hi k hk => iMulCell n hn a b hla hlb i k hi hk)
def mulR (n : Int) (a : List Int) (m : Int) (b : List Int) : Int × List Int × Bool:=if GV n a ∧ GV m b ∧ n = m then (n,mulL n.toNat a b,true) else (0,[],false)
theorem iMul_any (n : Int) (a : List Int) (m : Int) (b : List Int) (ha : a.length ≤ maxLen) (hb : b.length ≤ maxLen) : Ev (fun k => impl_MulGrades.f k n a m b) (mulR n a m b):=by
 by_cases h : GV n a ∧ GV m b ∧ n = m
 ·obtain ⟨h1,h2,rfl⟩:=h
  obtain ⟨z,rfl⟩:=GV_nat h1
  refine (iMul z a b h1 h2).is ?_
  unfold mulR;rw [if_pos ⟨h1,h2,rfl⟩];rfl
 ·have hr : mulR n a m b = (0,[],false):=by unfold mulR;rw [if_neg h]
  rw [hr]
  refine Ev.congr (f:=?f4) (fun k => ?h4) ?k4
  case h4 => unfold impl_MulGrades.f;exact rfl
  refine Ev.bind (iGV n a ha) ?_
  by_cases h1 : GV n a
  ·refine Ev.congr (f:=?f5) (fun k => ?h5) ?k5
   case h5 => rw [decide_eq_true h1,if_pos rfl] <;> exact rfl
   refine Ev.bind (iGV m b hb) ?_
   by_cases h2 : GV m b
   ·exact ev_some (fun k => by rw [decide_eq_true h2,if_pos rfl,if_neg (fun e => h ⟨h1,h2,e⟩)])
   ·exact ev_some (fun k => by rw [decide_eq_false h2];rfl)
  ·exact ev_some (fun k => by rw [decide_eq_false h1];rfl)
theorem sMul (n : Nat) (hn : n ≤ 4) (h0 : 1 ≤ n) (a b : List Int) (hla : a.length = n * n) (hlb : b.length = n * n) : Ev (fun k => spec_l6Mul.f k n a n b) ((n : Int),mulL n a b):=by
 have hs:=sq_le n hn
 have e0 : wrap64 ((n : Int) * (n : Int)) = ((n * n : Nat) : Int):=by
  have : (n : Int) * (n : Int) = ((n * n : Nat) : Int):=by simp
  rw [this,w64 (by omega) (by omega)]
 refine Ev.congr (f:=fun k => spec_l6Mul.l0 k ((n * n : Nat) : Int) ((0 : Nat) : Int) n a n b n (tab 0 (fun m => mulE n a b (m / n) (m % n)))) (fun k => ?_) ?_
 ·unfold spec_l6Mul.f;rw [e0];simp [tab]
 refine up_loop (n * n) (fun m k => spec_l6Mul.l0 k ((n * n : Nat) : Int) (m : Int) n a n b n (tab m (fun m => mulE n a b (m / n) (m % n)))) _ (fun m hm hnext => ?_) ?_
 ·have hi : m / n < n:=Nat.div_lt_of_lt_mul hm
  have hk : m % n < n:=Nat.mod_lt _ (by omega)
  refine Ev.step (f:=fun k => spec_l6Mul.l1 k m ((List.range 0).foldl (fun acc l => mn acc (mx (a.getD (m / n * n + l) 0) (b.getD (l * n + m % n) 0))) 3) ((n * n : Nat) : Int) m n ((0 : Nat) : Int) n a n b n (tab m (fun m => mulE n a b (m / n) (m % n)))) (fun k => ?_) ?_
  ·simp only [spec_l6Mul.l0];rw [if_pos (by omega)];rfl
  refine up_loop n (fun l k => spec_l6Mul.l1 k m ((List.range l).foldl (fun acc l => mn acc (mx (a.getD (m / n * n + l) 0) (b.getD (l * n + m % n) 0))) 3) ((n * n : Nat) : Int) m n (l : Int) n a n b n (tab m (fun m => mulE n a b (m / n) (m % n)))) _ (fun l hl hs2 => ?_) ?_
  ·refine Ev.step (fun j => ?_) hs2
   have c1:=cell_lt n (m / n) l hi hl
   have c2:=cell_lt n l (m % n) hl hk
   have r1:=row_le n (m / n) hn (by omega)
   have r2:=row_le n l hn (by omega)
   have hA : (l : Int) < (n : Int):=by omega
   have hB : ¬ (n : Int) = 0:=by omega
   have hC : (((m / n * n + l : Nat)) : Int) < (a.length : Int):=by rw [hla];exact_mod_cast c1
   have hD : (((l * n + m % n : Nat)) : Int) < (b.length : Int):=by rw [hlb];exact_mod_cast c2
   have hE : wrap64 ((l : Int) + 1) = ((l + 1 : Nat) : Int):=by rw [w64 (by omega) (by omega)];rfl
   have e1:=idx1 n m l hn hi hl
   have e2:=idx2 n m l hn hk hl
   simp only [spec_l6Mul.l1]
   rw [if_pos hA,if_neg hB,e1,e2,if_pos (Int.natCast_nonneg _),if_pos hC,if_pos (Int.natCast_nonneg _),if_pos hD,rd_nat,rd_nat,hE,fold_snoc]
  ·refine Ev.step (fun j => ?_) hnext
   simp only [spec_l6Mul.l1]
   rw [if_neg (by omega),tab_length,if_pos (by omega),w64 (by omega) (by omega)]
   have e : tab m (fun m => mulE n a b (m / n) (m % n)) ++ [mulE n a b (m / n) (m % n)] = tab (m + 1) (fun m => mulE n a b (m / n) (m % n)):=tab_snoc m (fun m => mulE n a b (m / n) (m % n))
   show spec_l6Mul.l0 j _ _ _ _ _ _ _ (tab m (fun m => mulE n a b (m / n) (m % n)) ++ [mulE n a b (m / n) (m % n)]) = _
   rw [e];rfl
 ·refine Ev.step (f:=fun _ => some ((n : Int),mulL n a b)) (fun j => ?_) (Ev.now _)
  simp only [spec_l6Mul.l0]
  rw [if_neg (by omega)];rfl
theorem slicesEq_ev (a b : List Int) (h : a.length ≤ 1000000000) : Ev (fun k => slices_Equal_int_int.f k a b) (decide (a = b)):=by
 by_cases hl : a.length = b.length
 ·have go : ∀ (t u pre : List Int),a = pre ++ t → b = pre ++ u → Ev (fun k => slices_Equal_int_int.l0 k a b (a.length : Int) (pre.length : Int)) (decide (a = b)):=by
   intro t
   induction t with
   | nil =>
    intro u pre ha hb
    have hu : u = []:=by
     have h1:=congrArg List.length ha
     have h2:=congrArg List.length hb
     simp at h1 h2
     exact List.length_eq_zero_iff.mp (by omega)
    subst hu
    have hab : a = b:=by rw [ha,hb]
    refine Ev.step (f:=fun _ => some true) (fun k => ?_) ((Ev.now _).is (by rw [decide_eq_true hab]))
    simp only [slices_Equal_int_int.l0]
    rw [if_neg (by rw [ha];simp)]
   | cons x t ih =>
    intro u pre ha hb
    have hla : a.length = pre.length + (t.length + 1):=by rw [ha];simp
    cases u with
    | nil => have h2:=congrArg List.length hb;simp at h2;omega
    | cons y u =>
     by_cases hxy : x = y
     ·subst hxy
      refine Ev.step (fun k => ?_) (ih u (pre ++ [x]) (by simp [ha]) (by simp [hb]))
      simp only [slices_Equal_int_int.l0]
      rw [if_pos (by omega),if_pos (by omega),if_pos (by omega),if_pos (by omega),w64 (x:=(pre.length : Int) + 1) (by omega) (by omega),snoc_len,if_pos (by rw [ha,hb,rd_mid,rd_mid])]
     ·have hab : ¬ a = b:=by
       intro e
       rw [ha,hb] at e
       have:=List.append_cancel_left e
       simp at this
       exact hxy this.1
      refine Ev.step (f:=fun _ => some false) (fun k => ?_) ((Ev.now _).is (by rw [decide_eq_false hab]))
      simp only [slices_Equal_int_int.l0]
      rw [if_pos (by omega),if_pos (by omega),if_pos (by omega),if_pos (by omega),if_neg (by rw [ha,hb,rd_mid,rd_mid];exact hxy)]
  refine Ev.congr (fun k => ?_) (go a b [] rfl rfl)
  unfold slices_Equal_int_int.f
  rw [if_pos (by omega)];rfl
 ·have hab : ¬ a = b:=fun e => hl (by rw [e])
  refine Ev.congr (f:=fun _ => some false) (fun k => ?_) ((Ev.now _).is (by rw [decide_eq_false hab]))
  unfold slices_Equal_int_int.f
  rw [if_neg (by omega)]
theorem iSame_ev (n : Int) (a : List Int) (m : Int) (b : List Int) (h : a.length ≤ 1000000000) : Ev (fun k => impl_SameMatrix.f k n a m b) (decide (n = m ∧ a = b)):=by
 unfold impl_SameMatrix.f
 by_cases e : n = m
 ·exact Ev_t e (Ev.bind (slicesEq_ev a b h) ((Ev.now _).is (by simp [e])))
 ·exact Ev_f e ((Ev.now _).is (by simp [e]))
theorem sSame_ev (a b : List Int) (hl : a.length = b.length) (h : a.length ≤ 1000000000) : Ev (fun k => spec_l2Same.f k a b) (decide (a = b)):=by
 have go : ∀ (t u pre : List Int),a = pre ++ t → b = pre ++ u → Ev (fun k => spec_l2Same.l0 k a b (a.length : Int) (pre.length : Int)) (decide (a = b)):=by
  intro t
  induction t with
  | nil =>
   intro u pre ha hb
   have hu : u = []:=by
    have h1:=congrArg List.length ha
    have h2:=congrArg List.length hb
    simp at h1 h2
    exact List.length_eq_zero_iff.mp (by omega)
   subst hu
   have hab : a = b:=by rw [ha,hb]
   refine Ev.step (f:=fun _ => some ((a.length : Int) == (b.length : Int))) (fun k => ?_) ((Ev.now _).is (by rw [decide_eq_true hab,hl];simp))
   simp only [spec_l2Same.l0]
   rw [if_neg (by rw [ha];simp)]
  | cons x t ih =>
   intro u pre ha hb
   have hla : a.length = pre.length + (t.length + 1):=by rw [ha];simp
   cases u with
   | nil => have h2:=congrArg List.length hb;simp at h2;omega
   | cons y u =>
    by_cases hxy : x = y
    ·subst hxy
     refine Ev.step (fun k => ?_) (ih u (pre ++ [x]) (by simp [ha]) (by simp [hb]))
     simp only [spec_l2Same.l0]
     rw [if_pos (by omega),if_pos (by omega),if_pos (by omega),if_pos (by omega),w64 (x:=(pre.length : Int) + 1) (by omega) (by omega),snoc_len,if_pos (by rw [ha,hb,rd_mid,rd_mid])]
    ·have hab : ¬ a = b:=by
      intro e
      rw [ha,hb] at e
      have:=List.append_cancel_left e
      simp at this
      exact hxy this.1
     refine Ev.step (f:=fun _ => some false) (fun k => ?_) ((Ev.now _).is (by rw [decide_eq_false hab]))
     simp only [spec_l2Same.l0]
     rw [if_pos (by omega),if_pos (by omega),if_pos (by omega),if_pos (by omega),if_neg (by rw [ha,hb,rd_mid,rd_mid];exact hxy)]
 refine Ev.congr (fun k => ?_) (go a b [] rfl rfl)
 unfold spec_l2Same.f
 have e : mn (a.length : Int) (b.length : Int) = (a.length : Int):=by unfold mn;rw [if_neg (by omega)]
 rw [e];rfl
def Idem (n : Int) (l : List Int) : Prop:=GV n l ∧ mulL n.toNat l l = l
instance (n : Int) (l : List Int) : Decidable (Idem n l):=by unfold Idem;infer_instance
theorem len_of_GV {n : Int} {l : List Int} (h : GV n l) : l.length ≤ 16:=by
 obtain ⟨m,rfl⟩:=GV_nat h
 have h1:=GV_len h
 have h2:=sq_le m (GV_le h).1
 omega
theorem iIdem (n : Int) (l : List Int) (h : l.length ≤ maxLen) : Ev (fun k => impl_IsIdempotent.f k n l) (decide (Idem n l)):=by
 unfold impl_IsIdempotent.f
 refine Ev.bind (iMul_any n l n l h h) ?_
 by_cases g : GV n l
 ·have e : mulR n l n l = (n,mulL n.toNat l l,true):=by unfold mulR;rw [if_pos ⟨g,g,rfl⟩]
  rw [e]
  refine Ev_t rfl ?_
  have h16:=len_of_GV g
  obtain ⟨m,rfl⟩:=GV_nat g
  have h2:=sq_le m (GV_le g).1
  refine Ev.bind (iSame_ev (m : Int) (mulL m l l) m l (by rw [mulL_length];omega)) ((Ev.now _).is ?_)
  rw [Bool.eq_iff_iff]
  simp only [decide_eq_true_eq]
  exact ⟨fun x => ⟨g,x.2⟩,fun x => ⟨by trivial,x.2⟩⟩
 ·have e : mulR n l n l = (0,[],false):=by unfold mulR;rw [if_neg (fun x => g x.1)]
  rw [e]
  exact Ev_f (by simp) ((Ev.now _).is (by rw [decide_eq_false (fun x : Idem n l => g x.1)]))
theorem sIdemG (n : Nat) (l : List Int) (g : GV n l) : Ev (fun k => spec_l6Idempotent.f k n l) (decide (Idem n l)):=by
 have hn:=GV_le g
 have hl:=GV_len g
 have h2:=sq_le n hn.1
 unfold spec_l6Idempotent.f
 refine Ev.bind (sMul n hn.1 hn.2 l l hl hl) ?_
 refine Ev.bind (sSame_ev (mulL n l l) l (by rw [mulL_length,hl]) (by rw [mulL_length];omega)) ((Ev.now _).is ?_)
 rw [Bool.eq_iff_iff]
 simp only [decide_eq_true_eq]
 exact ⟨fun x => ⟨g,x⟩,fun x => x.2⟩
end Go.Proofs.Ytfmbpoojpnoafaa.Y
end
section
namespace Go.Proofs.Ytfmbpoojpnoafaa.X
open Go.RowKit Go.Proofs.YtfmbpoojpnoafaaW.PrintWords Go.Proofs.YtfmbpoojpnoafaaW.PrintLast Go.Proofs.YtfmbpoojpnoafaaW.PrintMore
attribute [local go_sem] max2_int min2_int max_two min_two max_three min_three max_four min_four
set_option linter.unusedVariables false
set_option linter.unusedSimpArgs false
def impl_UnitMatrix_1.f (a0 : Int) (a1 : Int) : Option (Int):=if a0 = a1 then (some 0) else (some 1000000)
set_option maxHeartbeats 8000000 in
set_option maxRecDepth 100000 in
theorem impl_UnitMatrix_1.calls (a0 : Int) (a1 : Int) (r : Int) (w : World) (h : impl_UnitMatrix_1.f a0 a1 = some r) :
  Calls Try.prog 134 #[.int .i64 a0,.int .i64 a1] w fun e w' => e = .returned (.int .i64 r) ∧ Drawn0 w w':=by
 have H : (if a0 = a1 then (some 0) else (some 1000000)) = some r:=h
 clear h
 by_cases c3 : a0 = a1
 ·rw [if_pos c3] at H
  have c3b0 : (a0 == a1) = true:=beq_iff_eq.mpr c3
  have c3b1 : (a0 != a1) = false:=bne_eq_false_iff_eq.mpr c3
  clear c3
  obtain rfl:=Option.some.inj H
  go_enter Try.func134,Try.ntmps134
  go_wp2
  go_ret
  exact ⟨by first|rfl|(simp;done)|(simp [*];done),by repeat (first|exact Drawn0.refl _|apply Drawn0.step)⟩
 ·rw [if_neg c3] at H
  have c3b0 : (a0 == a1) = false:=beq_eq_false_iff_ne.mpr c3
  have c3b1 : (a0 != a1) = true:=bne_iff_ne.mpr c3
  obtain rfl:=Option.some.inj H
  go_enter Try.func134,Try.ntmps134
  go_wp2
  go_ret
  exact ⟨by first|rfl|(simp;done)|(simp [*];done),by repeat (first|exact Drawn0.refl _|apply Drawn0.step)⟩
def impl_filled__impl_UnitMatrix_1.f (k : Nat) (a0 : Int) : Option (Int × List Int):=impl_filled.f (fun y0 y1 => impl_UnitMatrix_1.f  y0 y1 ) k a0
theorem impl_filled__impl_UnitMatrix_1.mono : ∀ b0 k,LeO (impl_filled__impl_UnitMatrix_1.f k b0) (impl_filled__impl_UnitMatrix_1.f (k + 1) b0):=by
 intro b0 k
 exact impl_filled.monoP (fun _ _ => LeO.refl _) _ k
set_option maxHeartbeats 2000000 in
theorem impl_filled__impl_UnitMatrix_1.calls (k : Nat) (a0 : Int) (r1 : Int) (r2 : List Int) (w : World) (h : impl_filled__impl_UnitMatrix_1.f k a0 = some (r1,r2)) :
  Calls Try.prog 112 #[.int .i64 a0,.func (.func 134) #[] #[]] w fun e w' => ∃ v1_ : Value,e = .returned (.agg #[.int .i64 r1,v1_]) ∧ Kd.R (Kd.int .i64) 3 w' w.heap.size (fun _ => True) v1_ r2 ∧ Below w.heap.size w w':=by
 refine impl_filled.calls k a0 134 #[] #[] (fun y0 y1 => impl_UnitMatrix_1.f  y0 y1 ) r1 r2 w  ⟨_,Try.func134,rfl,rfl⟩ ?_ h
 intro ay0 ay1 z0 W_ hB_  h_
 refine calls_of_args (args':=#[.int .i64 ay0,.int .i64 ay1]) (by simp) ?_
 refine (impl_UnitMatrix_1.calls ay0 ay1 z0 W_  h_).mono ?_
 rintro e w' ⟨rfl,hd⟩
 exact ⟨rfl,hd.below⟩
def impl_UnitMatrix.f (k : Nat) (a0 : Int) : Option (Int × List Int × Bool):=if a0 < 1 then (some (0,([] : List Int),false)) else (if a0 > 4 then (some (0,([] : List Int),false)) else ((impl_filled__impl_UnitMatrix_1.f k a0).bind fun bt360 => (some (bt360.1,bt360.2,true))))
theorem impl_UnitMatrix.mono : ∀ a0 k,LeO (impl_UnitMatrix.f k a0) (impl_UnitMatrix.f (k + 1) a0):=by
 intro a0 k
 unfold impl_UnitMatrix.f
 repeat' first
   | (with_reducible exact impl_filled__impl_UnitMatrix_1.mono _ _)
   | (with_reducible first|exact LeO.refl _|exact LeO.none _|refine LeO.ite ?_ ?_|refine LeO.bind ?_ (fun _ => ?_))
   | exact impl_filled__impl_UnitMatrix_1.mono _ _
   | exact LeO.none _
   | refine LeO.ite ?_ ?_
   | refine LeO.bind ?_ (fun _ => ?_)
set_option maxHeartbeats 8000000 in
set_option maxRecDepth 100000 in
theorem impl_UnitMatrix.calls (k : Nat) (a0 : Int) (r1 : Int) (r2 : List Int) (r3 : Bool) (w : World) (h : impl_UnitMatrix.f k a0 = some (r1,r2,r3)) :
  Calls Try.prog 79 #[.int .i64 a0] w fun e w' => ∃ v1_ : Value,e = .returned (.tuple #[.agg #[.int .i64 r1,v1_],.bool r3]) ∧ Kd.R (Kd.int .i64) 3 w' w.heap.size (fun _ => True) v1_ r2 ∧ Below w.heap.size w w':=by
 have hu35:=Try.underlying35
 have HB:=Aside0.mk (Below.refl w.heap.size w)
 have H : (if a0 < 1 then (some (0,([] : List Int),false)) else (if a0 > 4 then (some (0,([] : List Int),false)) else ((impl_filled__impl_UnitMatrix_1.f k a0).bind fun bt360 => (some (bt360.1,bt360.2,true))))) = some (r1,r2,r3):=h
 clear h
 by_cases c2 : a0 < 1
 ·rw [if_pos c2] at H
  have c2b0 : decide (a0 < 1) = true:=decide_eq_true c2
  clear c2
  simp only [Option.some.injEq,Prod.mk.injEq] at H
  obtain ⟨rfl,rfl,rfl⟩:=H
  go_enter Try.func79,Try.ntmps79
  go_wp2_with (first|((with_reducible refine bev_ (N:=2) rfl rfl (cs:=#[.int .i64 0,.slice none 0 0]) (t:=35) ?hr ?_);(case hr => first|(go_simp;done)|(go_simp;rfl));intro gb359 hg w3 hbox hb;have BK359:=Aside0.mk (hbox);have GW359:=gw0_ hg HB;have GE359:=GW359;replace HB:=hs0_ HB hb;clear hb hbox hg;obtain ⟨hcz4_0,hcz4_1,hfz4_0,hfz4_1⟩:=cf2_ BK359.out))
  refine bodyPost_ret (results_ct rfl _ _ gb359 35 #[.int .i64 0,.slice none 0 0] (0,0) _ rfl (by refine pe_ ?_;refine blk_put (cs:=#[.int .i64 0,.slice none 0 0]) ?_ 1 _ rfl;refine pe_ ?_;refine blk_put (cs:=#[.int .i64 0,.slice none 0 0]) ?_ 0 _ rfl;refine pe_ ?_;exact BK359.out) Try.underlying35 rfl (by kernel_rfl)) rfl ?_
  exact ⟨_,er_,by first|exact Kd.R_nil _ _ _ _ _|exact Kd.N_nil _ _ _ _ _|exact Kd.V_nil _ _ _ _ _|exact Kd.Q_nil _ _ _ _ _|exact Kd.S_nil _ _ _ _ _,be1_ HB.out GE359.out⟩
 ·rw [if_neg c2] at H
  have c2b0 : decide (a0 < 1) = false:=decide_eq_false c2
  clear c2
  by_cases c5 : a0 > 4
  ·rw [if_pos c5] at H
   have c5b0 : decide (4 < a0) = true:=decide_eq_true c5
   clear c5
   simp only [Option.some.injEq,Prod.mk.injEq] at H
   obtain ⟨rfl,rfl,rfl⟩:=H
   go_enter Try.func79,Try.ntmps79
   go_wp2_with (first|((with_reducible refine bev_ (N:=2) rfl rfl (cs:=#[.int .i64 0,.slice none 0 0]) (t:=35) ?hr ?_);(case hr => first|(go_simp;done)|(go_simp;rfl));intro gb359 hg w6 hbox hb;have BK359:=Aside0.mk (hbox);have GW359:=gw0_ hg HB;have GE359:=GW359;replace HB:=hs0_ HB hb;clear hb hbox hg;obtain ⟨hcz7_0,hcz7_1,hfz7_0,hfz7_1⟩:=cf2_ BK359.out))
   refine bodyPost_ret (results_ct rfl _ _ gb359 35 #[.int .i64 0,.slice none 0 0] (0,0) _ rfl (by refine pe_ ?_;refine blk_put (cs:=#[.int .i64 0,.slice none 0 0]) ?_ 1 _ rfl;refine pe_ ?_;refine blk_put (cs:=#[.int .i64 0,.slice none 0 0]) ?_ 0 _ rfl;refine pe_ ?_;exact BK359.out) Try.underlying35 rfl (by kernel_rfl)) rfl ?_
   exact ⟨_,er_,by first|exact Kd.R_nil _ _ _ _ _|exact Kd.N_nil _ _ _ _ _|exact Kd.V_nil _ _ _ _ _|exact Kd.Q_nil _ _ _ _ _|exact Kd.S_nil _ _ _ _ _,be1_ HB.out GE359.out⟩
  ·rw [if_neg c5] at H
   have c5b0 : decide (4 < a0) = false:=decide_eq_false c5
   clear c5
   replace H:=Option.bind_eq_some_iff.mp H
   obtain ⟨⟨t360,t361⟩,A80,H⟩:=H
   replace H : (some (t360,t361,true)) = some (r1,r2,r3):=H
   have A8:=Aside0.mk A80
   clear A80
   simp only [Option.some.injEq,Prod.mk.injEq] at H
   obtain ⟨rfl,rfl,rfl⟩:=H
   go_enter Try.func79,Try.ntmps79
   go_wp2_with (first|((with_reducible refine bev_ (N:=2) rfl rfl (cs:=#[.int .i64 0,.slice none 0 0]) (t:=35) ?hr ?_);(case hr => first|(go_simp;done)|(go_simp;rfl));intro gb359 hg w9 hbox hb;have BK359:=Aside0.mk (hbox);have GW359:=gw0_ hg HB;have GE359:=GW359;replace HB:=hs0_ HB hb;clear hb hbox hg)|((with_reducible refine gate_callee (f:=112) rfl ?_);refine goesL_ (some 12) rfl rfl Try.func112 (by kernel_rfl) rfl #[.int .i64 a0,.func (.func 134) #[] #[]] rfl lp_ ?_;(with_reducible refine (impl_filled__impl_UnitMatrix_1.calls k a0 t360 t361 _ A8.out).mono ?_);rintro e w10 ⟨v362,rfl,ho0,hb⟩;refine ⟨_,rfl,?_⟩;have HO363:=Aside0.mk (Kd.R_lower ho0 (below_size (be1_ HB.out GE359.out)));replace BK359:=kc_ BK359 hb;replace HB:=hs1_ HB GE359 hb;(try clear hb);(try clear hb2);(try clear hk);(try clear hi);(try clear ho0);obtain ⟨hcz11_0,hcz11_1,hfz11_0,hfz11_1⟩:=cf2_ BK359.out;obtain ⟨Ao12,co12,eo12⟩:=Kd.R_slice HO363.out;subst eo12))
   refine bodyPost_ret (results_ct rfl _ _ gb359 35 #[.int .i64 t360,.slice Ao12 t361.length co12] (0,0) _ rfl (by refine pe_ ?_;refine blk_put (cs:=#[.int .i64 t360,.slice none 0 0]) ?_ 1 _ rfl;refine pe_ ?_;refine blk_put (cs:=#[.int .i64 0,.slice none 0 0]) ?_ 0 _ rfl;refine pe_ ?_;exact BK359.out) Try.underlying35 rfl (by kernel_rfl)) rfl ?_
   exact ⟨_,er_,by refine pr_ ?_;exact Kd.R_mono (Kd.R_far (p:=⟨gb359,1,none⟩) (Kd.R_far (p:=⟨gb359,0,none⟩) (Kd.R_types HO363.out BK359.out (by decide)) (fun _ hk => hk.2) (.int .i64 t360)) (fun _ hk => hk.2) (.slice Ao12 t361.length co12)) (fun _ hk => trivial),be1_ HB.out GE359.out⟩
end Go.Proofs.Ytfmbpoojpnoafaa.X
end
section
namespace Go.Proofs.Ytfmbpoojpnoafaa.Y
open Go.RowKit Go.Proofs.Ytfmbpoojpnoafaa.X Go.Proofs.YtfmbpoojpnoafaaW.PrintWords Go.Proofs.YtfmbpoojpnoafaaW.PrintLast Go.Proofs.YtfmbpoojpnoafaaW.PrintMore
set_option linter.unusedVariables false
set_option linter.unusedSimpArgs false
def unitE (i k : Nat) : Int:=if i = k then 0 else 1000000
def oneE (i k : Nat) : Int:=if i = k then 0 else 3
theorem iUnit (n : Nat) (h1 : 1 ≤ n) (h4 : n ≤ 4) : Ev (fun k => impl_UnitMatrix.f k (n : Int)) ((n : Int),sqL n unitE,true):=by
 unfold impl_UnitMatrix.f
 refine Ev_f (by omega) (Ev_f (by omega) ?_)
 refine Ev.bind (a:=((n : Int),sqL n unitE)) ?_ (Ev.now _)
 refine filled_ev n h4 unitE (fun _ y0 y1 => impl_UnitMatrix_1.f y0 y1) (fun i hi k hk => ?_)
 refine Ev.congr (f:=fun _ => some (unitE i k)) (fun _ => ?_) (Ev.now _)
 unfold impl_UnitMatrix_1.f unitE
 by_cases e : i = k
 ·subst e;rw [if_pos rfl,if_pos rfl]
 ·rw [if_neg (by omega),if_neg e]
theorem unit_MV (n : Nat) (h1 : 1 ≤ n) (h4 : n ≤ 4) : MV (n : Int) (sqL n unitE):=by
 refine ⟨by omega,by omega,?_,?_⟩
 ·unfold sqL;rw [tab_length];exact_mod_cast rfl
 ·intro x hx
  unfold sqL tab at hx
  obtain ⟨m,_,rfl⟩:=List.mem_map.mp hx
  unfold unitE
  by_cases e : m / n = m % n
  ·simp only [e,if_true];omega
  ·rw [if_neg e];omega
theorem MV_of {n : Nat} (h1 : 1 ≤ n) (h4 : n ≤ 4) (g : Nat → Nat → Int) (h : ∀ i k,i < n → k < n → 0 ≤ g i k ∧ g i k ≤ 1000000) : MV (n : Int) (sqL n g):=by
 refine ⟨by omega,by omega,?_,?_⟩
 ·unfold sqL;rw [tab_length];exact_mod_cast rfl
 ·intro x hx
  unfold sqL at hx
  obtain ⟨j,hj,rfl⟩:=mem_tab.mp hx
  exact h _ _ (Nat.div_lt_of_lt_mul hj) (Nat.mod_lt _ (by omega))
theorem MV_len {n : Nat} {l : List Int} (h : MV (n : Int) l) : l.length = n * n:=by
 have:=h.2.2.1
 exact_mod_cast this
theorem MV_at {n : Nat} {l : List Int} (h : MV (n : Int) l) (i k : Nat) (hi : i < n) (hk : k < n) : 0 ≤ l.getD (i * n + k) 0 ∧ l.getD (i * n + k) 0 ≤ 1000000:=by
 have hc:=cell_lt n i k hi hk
 have hl:=MV_len h
 rw [List.getD_eq_getElem?_getD,List.getElem?_eq_getElem (by omega)]
 exact h.2.2.2 _ (List.getElem_mem _)
theorem MV_max {n : Nat} {l : List Int} (h : MV (n : Int) l) : l.length ≤ maxLen:=by
 have h1:=h.2.1
 have:=sq_le n (by omega)
 have:=MV_len h
 rw [maxLen_eq];omega
theorem sUnit (n : Nat) (h1 : 1 ≤ n) (h4 : n ≤ 4) : Ev (fun k => spec_l2Unit.f k (n : Int)) ((n : Int),sqL n unitE):=by
 have hs:=sq_le n h4
 have e0 : wrap64 ((n : Int) * (n : Int)) = ((n * n : Nat) : Int):=by
  have : (n : Int) * (n : Int) = ((n * n : Nat) : Int):=by simp
  rw [this,w64 (by omega) (by omega)]
 refine Ev.congr (f:=fun k => spec_l2Unit.l0 k (n : Int) ((n * n : Nat) : Int) ((0 : Nat) : Int) n (tab 0 (fun m => unitE (m / n) (m % n)))) (fun k => ?_) ?_
 ·unfold spec_l2Unit.f;rw [e0];simp [tab]
 refine up_loop (n * n) (fun m k => spec_l2Unit.l0 k (n : Int) ((n * n : Nat) : Int) (m : Int) n (tab m (fun m => unitE (m / n) (m % n)))) _ (fun m hm hnext => ?_) ?_
 ·have hi : m / n < n:=Nat.div_lt_of_lt_mul hm
  have e1 : wrap64 (Int.tdiv (m : Int) (n : Int)) = ((m / n : Nat) : Int):=by
   rw [tdiv_nat]
   obtain ⟨q,hq⟩ : ∃ q : Nat,m / n = q:=⟨_,rfl⟩
   rw [hq] at hi ⊢
   exact w64 (by omega) (by omega)
  have e2 : Int.tmod (m : Int) (n : Int) = ((m % n : Nat) : Int):=tmod_nat m n
  have e : tab m (fun m => unitE (m / n) (m % n)) ++ [unitE (m / n) (m % n)] = tab (m + 1) (fun m => unitE (m / n) (m % n)):=tab_snoc m (fun m => unitE (m / n) (m % n))
  refine Ev.step (fun k => ?_) hnext
  simp only [spec_l2Unit.l0]
  rw [if_pos (by omega),if_neg (by omega),e1,e2,tab_length]
  by_cases h : m / n = m % n
  ·have hu : unitE (m / n) (m % n) = 0:=by unfold unitE;rw [if_pos h]
   rw [hu] at e
   rw [if_pos (by rw [h]),if_pos (by omega),w64 (by omega) (by omega),e];rfl
  ·have hu : unitE (m / n) (m % n) = 1000000:=by unfold unitE;rw [if_neg h]
   rw [hu] at e
   rw [if_neg (by intro g;exact h (by exact_mod_cast g)),if_pos (by omega),w64 (by omega) (by omega),e];rfl
 ·refine Ev.step (f:=fun _ => some ((n : Int),sqL n unitE)) (fun j => ?_) (Ev.now _)
  simp only [spec_l2Unit.l0]
  rw [if_neg (by omega)];rfl
def stepL (n : Nat) (c : List UInt8) (t : List S92) (l : List Int) : List Int:=t.foldl (fun (l : List Int) (s : S92) => if s.f1.toList = c then l.set (s.f0 * (n : Int) + s.f2).toNat s.f3 else l) l
def cst (n : Nat) : List Int:=List.replicate (n * n) 1000000
theorem stepL_len (n : Nat) (c : List UInt8) : ∀ (t : List S92) (l : List Int),(stepL n c t l).length = l.length:=by
 intro t
 induction t with
 | nil => intro l;rfl
 | cons s t ih =>
  intro l
  show (stepL n c t (if s.f1.toList = c then l.set (s.f0 * n + s.f2).toNat s.f3 else l)).length = l.length
  rw [ih]
  by_cases h : s.f1.toList = c
  ·rw [if_pos h,List.length_set]
  ·rw [if_neg h]
theorem stp_mem {n : Int} : ∀ {t : List S92} {p : Option S92},stp n p t = true → ∀ x ∈ t,stepOk n x = true
 | [],_,_,x,hx => by cases hx
 | y :: t,p,h,x,hx => by
  simp only [stp,Bool.and_eq_true] at h
  rcases List.mem_cons.mp hx with rfl|hx
  ·exact h.1.1
  ·exact stp_mem h.2 x hx
theorem stepL_MV (n : Nat) (h1 : 1 ≤ n) (h4 : n ≤ 4) (c : List UInt8) : ∀ (t : List S92) (l : List Int),(∀ x ∈ t,stepOk n x = true) → MV (n : Int) l → MV (n : Int) (stepL n c t l):=by
 intro t
 induction t with
 | nil => intro l _ h;exact h
 | cons s t ih =>
  intro l ht h
  show MV (n : Int) (stepL n c t (if s.f1.toList = c then l.set (s.f0 * n + s.f2).toNat s.f3 else l))
  refine ih _ (fun x hx => ht x (List.mem_cons_of_mem _ hx)) ?_
  by_cases e : s.f1.toList = c
  ·rw [if_pos e]
   refine ⟨h.1,h.2.1,by rw [List.length_set];exact h.2.2.1,fun x hx => ?_⟩
   rcases List.mem_or_eq_of_mem_set hx with hx|rfl
   ·exact h.2.2.2 x hx
   ·have o:=of_decide_eq_true (show decide _ = true from ht s (by simp));omega
  ·rw [if_neg e];exact h
theorem cst_MV (n : Nat) (h1 : 1 ≤ n) (h4 : n ≤ 4) : MV (n : Int) (cst n):=by
 refine ⟨by omega,by omega,?_,fun x hx => ?_⟩
 ·unfold cst;rw [List.length_replicate];exact_mod_cast rfl
 ·rw [(List.mem_replicate.mp hx).2];omega
theorem cst_sq (n : Nat) : sqL n (fun _ _ => 1000000) = cst n:=by
 unfold sqL tab cst
 rw [List.map_const',List.length_range]
theorem iStepLoop (n : Nat) (h1 : 1 ≤ n) (h4 : n ≤ 4) (s f : List Int) (x : ByteArray) (t : List S92) (ht : ∀ y ∈ t,stepOk n y = true) (hl : t.length ≤ 1000000000) (l : List Int) (hc : l.length = n * n) :
  Ev (fun k => impl_StepMatrix.l0 k x t (t.length : Int) 0 n l) ((n : Int),stepL n x.toList t l,true):=by
 have go : ∀ (u pre : List S92) (l : List Int),t = pre ++ u → l.length = n * n → Ev (fun k => impl_StepMatrix.l0 k x t (t.length : Int) (pre.length : Int) n l) ((n : Int),stepL n x.toList u l,true):=by
  intro u
  induction u with
  | nil =>
   intro pre l hp _
   refine Ev.step (f:=fun _ => some ((n : Int),l,true)) (fun k => ?_) (Ev.now _)
   simp only [impl_StepMatrix.l0];rw [if_neg (by rw [hp];simp)]
  | cons y u ih =>
   intro pre l hp hc
   have hlen : t.length = pre.length + (u.length + 1):=by rw [hp];simp
   have hx : rd_T92 t (pre.length : Int) = y:=by rw [hp,rdS_mid]
   have o:=of_decide_eq_true (show decide _ = true from ht y (by rw [hp];simp))
   have c:=cellZ (n:=(n : Int)) (i:=y.f0) (k:=y.f2) (by omega) (by omega) (by omega)
   have cw:=cellW (n:=(n : Int)) (i:=y.f0) (k:=y.f2) (by omega) (by omega) (by omega)
   have hc2 : (l.length : Int) = (n : Int) * (n : Int):=by rw [hc];simp
   by_cases e : y.f1.toList = x.toList
   ·refine Ev.step (fun k => ?_) ((ih (pre ++ [y]) (l.set (y.f0 * n + y.f2).toNat y.f3) (by simp [hp]) (by rw [List.length_set];exact hc)).is ?_)
    ·simp only [impl_StepMatrix.l0]
     rw [if_pos (by omega),if_pos (by omega),if_pos (by omega),hx,if_pos e,cw,if_pos (by omega),if_pos (by omega),w64 (x:=(pre.length : Int) + 1) (by omega) (by omega),snocA]
    ·show _ = ((n : Int),stepL n x.toList u (if y.f1.toList = x.toList then l.set (y.f0 * n + y.f2).toNat y.f3 else l),true)
     rw [if_pos e]
   ·refine Ev.step (fun k => ?_) ((ih (pre ++ [y]) l (by simp [hp]) hc).is ?_)
    ·simp only [impl_StepMatrix.l0]
     rw [if_pos (by omega),if_pos (by omega),if_pos (by omega),hx,if_neg e,w64 (x:=(pre.length : Int) + 1) (by omega) (by omega),snocA]
    ·show _ = ((n : Int),stepL n x.toList u (if y.f1.toList = x.toList then l.set (y.f0 * n + y.f2).toNat y.f3 else l),true)
     rw [if_neg e]
 exact go t [] l rfl hc
theorem sStepLoop (n : Nat) (h1 : 1 ≤ n) (h4 : n ≤ 4) (s f : List Int) (x : ByteArray) (t : List S92) (ht : ∀ y ∈ t,stepOk n y = true) (hl : t.length ≤ 1000000000) (l : List Int) (hc : l.length = n * n) :
  Ev (fun k => spec_l3Matrix.l1 k x t (t.length : Int) 0 n s f t n l) ((n : Int),stepL n x.toList t l):=by
 have go : ∀ (u pre : List S92) (l : List Int),t = pre ++ u → l.length = n * n → Ev (fun k => spec_l3Matrix.l1 k x t (t.length : Int) (pre.length : Int) n s f t n l) ((n : Int),stepL n x.toList u l):=by
  intro u
  induction u with
  | nil =>
   intro pre l hp _
   refine Ev.step (f:=fun _ => some ((n : Int),l)) (fun k => ?_) (Ev.now _)
   simp only [spec_l3Matrix.l1];rw [if_neg (by rw [hp];simp)]
  | cons y u ih =>
   intro pre l hp hc
   have hlen : t.length = pre.length + (u.length + 1):=by rw [hp];simp
   have hx : rd_T92 t (pre.length : Int) = y:=by rw [hp,rdS_mid]
   have o:=of_decide_eq_true (show decide _ = true from ht y (by rw [hp];simp))
   have c:=cellZ (n:=(n : Int)) (i:=y.f0) (k:=y.f2) (by omega) (by omega) (by omega)
   have cw:=cellW (n:=(n : Int)) (i:=y.f0) (k:=y.f2) (by omega) (by omega) (by omega)
   have hc2 : (l.length : Int) = (n : Int) * (n : Int):=by rw [hc];simp
   by_cases e : y.f1.toList = x.toList
   ·refine Ev.step (fun k => ?_) ((ih (pre ++ [y]) (l.set (y.f0 * n + y.f2).toNat y.f3) (by simp [hp]) (by rw [List.length_set];exact hc)).is ?_)
    ·simp only [spec_l3Matrix.l1]
     rw [if_pos (by omega),if_pos (by omega),if_pos (by omega),hx,if_pos e,cw,if_pos (by omega),if_pos (by omega),w64 (x:=(pre.length : Int) + 1) (by omega) (by omega),snocA]
    ·show _ = ((n : Int),stepL n x.toList u (if y.f1.toList = x.toList then l.set (y.f0 * n + y.f2).toNat y.f3 else l))
     rw [if_pos e]
   ·refine Ev.step (fun k => ?_) ((ih (pre ++ [y]) l (by simp [hp]) hc).is ?_)
    ·simp only [spec_l3Matrix.l1]
     rw [if_pos (by omega),if_pos (by omega),if_pos (by omega),hx,if_neg e,w64 (x:=(pre.length : Int) + 1) (by omega) (by omega),snocA]
    ·show _ = ((n : Int),stepL n x.toList u (if y.f1.toList = x.toList then l.set (y.f0 * n + y.f2).toNat y.f3 else l))
     rw [if_neg e]
 exact go t [] l rfl hc
theorem sLetter (n : Nat) (h1 : 1 ≤ n) (h4 : n ≤ 4) (s f : List Int) (x : ByteArray) (t : List S92) (ht : ∀ y ∈ t,stepOk n y = true) (hl : t.length ≤ 1000000000) :
  Ev (fun k => spec_l3Matrix.f k n s f t x) ((n : Int),stepL n x.toList t (cst n)):=by
 have hs:=sq_le n h4
 have e0 : wrap64 ((n : Int) * (n : Int)) = ((n * n : Nat) : Int):=by
  have : (n : Int) * (n : Int) = ((n * n : Nat) : Int):=by simp
  rw [this,w64 (by omega) (by omega)]
 refine Ev.congr (f:=fun k => spec_l3Matrix.l0 k x ((n * n : Nat) : Int) ((0 : Nat) : Int) n s f t n (List.replicate 0 1000000)) (fun k => ?_) ?_
 ·unfold spec_l3Matrix.f;rw [e0];rfl
 refine up_loop (n * n) (fun m k => spec_l3Matrix.l0 k x ((n * n : Nat) : Int) (m : Int) n s f t n (List.replicate m 1000000)) _ (fun m hm hnext => ?_) ?_
 ·refine Ev.step (fun k => ?_) hnext
  simp only [spec_l3Matrix.l0]
  rw [if_pos (by omega),List.length_replicate,if_pos (by omega),w64 (by omega) (by omega),← List.replicate_succ'];rfl
 ·refine Ev.step (fun k => ?_) (sStepLoop n h1 h4 s f x t ht hl (cst n) (by unfold cst;rw [List.length_replicate]))
  simp only [spec_l3Matrix.l0]
  rw [if_neg (by omega)];rfl
theorem iLetter (n : Nat) (s f : List Int) (x : ByteArray) (t : List S92) (hv : AV n s f t = true) (hs : s.length ≤ 1000000000) (hf : f.length ≤ 1000000000) (hl : t.length ≤ 1000000000) (hx : x.toList = ([97] : List UInt8) ∨ x.toList = ([98] : List UInt8)) :
  Ev (fun k => impl_StepMatrix.f k n s f t x) ((n : Int),stepL n x.toList t (cst n),true):=by
 obtain ⟨h1,h2,h3,h4,h5⟩:=AV_parts hv
 unfold impl_StepMatrix.f
 refine Ev.bind (iAV n s f t hs hf hl) (Ev_t hv ?_)
 have main : Ev (fun k => impl_StepMatrix.j0 k x false n s f t) ((n : Int),stepL n x.toList t (cst n),true):=by
  refine Ev.step (f:=?f1) (fun k => ?h1) ?k1
  case h1 => simp only [impl_StepMatrix.j0];rw [if_neg (by simp)] <;> exact rfl
  refine Ev.bind (a:=((n : Int),cst n)) ?_ (iStepLoop n (by omega) (by omega) s f x t (stp_mem h5) hl (cst n) (by unfold cst;rw [List.length_replicate]))
  have:=filled_ev n (by omega) (fun _ _ => 1000000) (fun K y0 y1 => impl_StepMatrix_1.f y0 y1) (fun i _ k _ => ev_some (fun K => rfl))
  rw [cst_sq] at this
  exact this
 by_cases e : x.toList = ([97] : List UInt8)
 ·exact Ev_t e main
 ·refine Ev_f e ?_
  have e2:=hx.resolve_left e
  rw [e2,bne_self_eq_false,← e2]
  exact main
def letL (n : Nat) (t : List S92) (c : UInt8) : List Int:=stepL n [c] t (cst n)
theorem letL_MV (n : Nat) (h1 : 1 ≤ n) (h4 : n ≤ 4) (t : List S92) (ht : ∀ y ∈ t,stepOk n y = true) (c : UInt8) : MV (n : Int) (letL n t c):=stepL_MV n h1 h4 [c] t (cst n) ht (cst_MV n h1 h4)
theorem rd_at (pre : List S136) (p : S136) (ps : List S136) : rd_T136 (pre ++ p :: ps) (pre.length : Int) = p:=by
 simp [rd_T136,List.getD_eq_getElem?_getD]
theorem next_letter (x : ByteArray) (c : UInt8) (e : List UInt8) (hx : L x = c :: e) (hc : c = 97 ∨ c = 98) : Ev (fun k => spec_l7Next.f k x) (⟨#[c]⟩,false,⟨e.toArray⟩):=by
 have hz : x.size = e.length + 1:=by rw [L_size,hx];simp
 have hbt : bt x 0 = (c.toNat : Int):=by rw [bt_L,hx];simp
 have h0 : x.extract 0 1 = ⟨#[c]⟩:=L_inj (by rw [L_extract,hx];simp [L])
 have h1 : x.extract 1 x.size = ⟨e.toArray⟩:=L_inj (by rw [L_extract,hx,L_mk,L_size,hx];simp)
 refine Ev.congr (f:=fun _ => some (⟨#[c]⟩,false,⟨e.toArray⟩)) (fun k => ?_) (Ev.now _)
 unfold spec_l7Next.f
 rw [if_pos (by omega),if_neg (by rw [hbt];rcases hc with rfl|rfl <;> decide),if_pos (by omega),if_pos (by omega),h0,h1]
theorem next_again (x : ByteArray) (e v e2 : List UInt8) (w : List S136) (hx : L x = 40 :: e) (hv : e = v ++ 41 :: 35 :: e2) (h : Reads e w (41 :: 35 :: e2)) (hw : w ≠ []) (hn : x.size ≤ 1000000) :
  Ev (fun k => spec_l7Next.f k x) (⟨v.toArray⟩,true,⟨e2.toArray⟩):=by
 have hz : x.size = e.length + 1:=by rw [L_size,hx];simp
 have hel : e.length = v.length + 2 + e2.length:=by rw [hv];simp;omega
 have hbt : bt x 0 = 40:=by rw [bt_L,hx];rfl
 have hlt:=h.some hw
 simp only [List.length_cons] at hlt
 have h1:=end_reads h x [40] 1 (by simp [hx]) hn (by omega) (by simp)
 have he : endv x (41 :: 35 :: e2) 1 = ((v.length + 1 : Nat) : Int):=by
  unfold endv;rw [if_pos (.inr rfl),if_neg (by simp only [List.length_cons];omega)];simp only [List.length_cons];omega
 rw [he] at h1
 refine Ev.congr (f:=?f1) (fun k => ?h1) ?k1
 case h1 => unfold spec_l7Next.f;rw [if_pos (by omega),if_pos hbt] <;> exact rfl
 refine Ev.bind (Ev.step (fun k => by simp only [spec_l7End.f];rfl) h1) ?_
 have e1 : x.extract 1 (v.length + 1) = ⟨v.toArray⟩:=L_inj (by rw [L_extract,hx,L_mk,hv];simp)
 have e2' : x.extract (v.length + 3) x.size = ⟨e2.toArray⟩:=L_inj (by rw [L_extract,hx,L_mk e2,List.take_of_length_le (by rw [List.length_cons,hz];exact Nat.le_refl _),hv,show (40 :: (v ++ 41 :: 35 :: e2) : List UInt8) = (40 :: v ++ [41,35]) ++ e2 by simp,List.drop_left' (by simp)])
 refine Ev.congr (f:=fun _ => some (⟨v.toArray⟩,true,⟨e2.toArray⟩)) (fun k => ?_) (Ev.now _)
 rw [w64 (by omega) (by omega),if_pos (by omega),if_pos (by omega),if_pos (by omega),if_pos (by omega)]
 rw [show (((v.length + 1 : Nat) : Int) + 2).toNat = v.length + 3 by omega,Int.toNat_natCast,e1,e2']
theorem reads_cut {e w r} (h : Reads e w r) : (r = [] ∨ r.head? = some 41) → ∀ v,e = v ++ r → ∀ r',(r' = [] ∨ r'.head? = some 41) → Reads (v ++ r') w r':=by
 have stop : ∀ r' : List UInt8,(r' = [] ∨ r'.head? = some 41) → Reads r' [] r':=by
  intro r' h
  rcases h with rfl|h
  ·exact .done
  ·cases r' with
   | nil => simp at h
   | cons c t => simp at h;subst h;exact .other 41 t (by decide) (by decide) (by decide)
 have self : ∀ (e v : List UInt8),e = v ++ e → v = []:=by
  intro e v h
  have h3:=congrArg List.length h
  simp at h3
  exact h3
 induction h with
 | done => intro _ v hv r' hr';rw [self _ _ hv];exact stop r' hr'
 | other c e => intro _ v hv r' hr';rw [self _ _ hv];exact stop r' hr'
 | bad e w r1 => intro hr v hv r' hr';simp at hr
 | letter c e ps r hc h ih =>
  intro hr v hv r' hr'
  cases v with
  | nil =>
   have h3:=congrArg List.length hv
   have:=h.le
   simp at h3
   omega
  | cons d v =>
   simp at hv
   obtain ⟨rfl,hv⟩:=hv
   exact .letter c (v ++ r') ps r' hc (ih hr v hv r' hr')
 | again e w e2 ps r h1 hw h2 ih1 ih2 =>
  intro hr v hv r' hr'
  obtain ⟨t1,ht1⟩:=h1.suffix
  obtain ⟨t2,ht2⟩:=h2.suffix
  have hvv : v = 40 :: (t1 ++ 41 :: 35 :: t2):=by
   have : 40 :: (t1 ++ 41 :: 35 :: t2) ++ r = v ++ r:=by rw [← hv,ht1,ht2];simp
   exact (List.append_cancel_right this).symm
  subst hvv
  have a:=ih1 (.inr rfl) t1 ht1 (41 :: 35 :: (t2 ++ r')) (.inr rfl)
  have b:=ih2 hr t2 ht2 r' hr'
  simpa using Reads.again (t1 ++ 41 :: 35 :: (t2 ++ r')) w (t2 ++ r') ps r' a hw b
theorem reads_inner {e t1 e2 : List UInt8} {w} (h : Reads e w (41 :: 35 :: e2)) (hv : e = t1 ++ 41 :: 35 :: e2) : Reads t1 w []:=by
 simpa using reads_cut h (.inr rfl) t1 hv [] (.inl rfl)
theorem mn_le (x y t : Int) : mn x y ≤ t ↔ x ≤ t ∨ y ≤ t:=by unfold mn;by_cases h : y < x <;> simp only [h,if_true,if_false] <;> omega
theorem mx_le (x y t : Int) : mx x y ≤ t ↔ x ≤ t ∧ y ≤ t:=by unfold mx;by_cases h : x < y <;> simp only [h,if_true,if_false] <;> omega
theorem fold_le (n : Nat) (F : Nat → Int) (c t : Int) : (List.range n).foldl (fun acc l => mn acc (F l)) c ≤ t ↔ c ≤ t ∨ ∃ l,l < n ∧ F l ≤ t:=by
 induction n with
 | zero => simp
 | succ n ih =>
  rw [fold_snoc,mn_le,ih]
  constructor
  ·rintro ((h | ⟨l,h1,h2⟩)|h)
   ·exact Or.inl h
   ·exact Or.inr ⟨l,by omega,h2⟩
   ·exact Or.inr ⟨n,by omega,h⟩
  ·rintro (h | ⟨l,h1,h2⟩)
   ·exact Or.inl (Or.inl h)
   ·by_cases e : l = n
    ·subst e;exact Or.inr h2
    ·exact Or.inl (Or.inr ⟨l,by omega,h2⟩)
theorem mulE_le (n : Nat) (a b : List Int) (i k : Nat) (t : Int) : mulE n a b i k ≤ t ↔ 3 ≤ t ∨ ∃ l,l < n ∧ a.getD (i * n + l) 0 ≤ t ∧ b.getD (l * n + k) 0 ≤ t:=by
 unfold mulE
 rw [fold_le n (fun l => mx (a.getD (i * n + l) 0) (b.getD (l * n + k) 0)) 3 t]
 constructor
 ·rintro (h | ⟨l,h1,h2⟩)
  ·exact Or.inl h
  ·rw [mx_le] at h2;exact Or.inr ⟨l,h1,h2.1,h2.2⟩
 ·rintro (h | ⟨l,h1,h2,h3⟩)
  ·exact Or.inl h
  ·exact Or.inr ⟨l,h1,by rw [mx_le];exact ⟨h2,h3⟩⟩
theorem mulL_get (n : Nat) (a b : List Int) (i k : Nat) (hi : i < n) (hk : k < n) : (mulL n a b).getD (i * n + k) 0 = mulE n a b i k:=sqL_get n _ i k hi hk
theorem eq_of_le (x y : Int) (h : ∀ t,x ≤ t ↔ y ≤ t) : x = y:=by
 have h1:=(h y).mpr (Int.le_refl _)
 have h2:=(h x).mp (Int.le_refl _)
 omega
theorem mul_assoc' (n : Nat) (a b c : List Int) : mulL n (mulL n a b) c = mulL n a (mulL n b c):=by
 unfold mulL
 refine sqL_congr n _ _ (fun i k hi hk => eq_of_le _ _ (fun t => ?_))
 show mulE n (mulL n a b) c i k ≤ t ↔ mulE n a (mulL n b c) i k ≤ t
 rw [mulE_le,mulE_le]
 constructor
 ·rintro (h | ⟨l,hl,h1,h2⟩)
  ·exact Or.inl h
  ·rw [mulL_get n a b i l hi hl,mulE_le] at h1
   rcases h1 with h1 | ⟨m,hm,h3,h4⟩
   ·exact Or.inl h1
   ·refine Or.inr ⟨m,hm,h3,?_⟩
    rw [mulL_get n b c m k hm hk,mulE_le]
    exact Or.inr ⟨l,hl,h4,h2⟩
 ·rintro (h | ⟨m,hm,h1,h2⟩)
  ·exact Or.inl h
  ·rw [mulL_get n b c m k hm hk,mulE_le] at h2
   rcases h2 with h2 | ⟨l,hl,h3,h4⟩
   ·exact Or.inl h2
   ·refine Or.inr ⟨l,hl,?_,h4⟩
    rw [mulL_get n a b i l hi hl,mulE_le]
    exact Or.inr ⟨m,hm,h1,h3⟩
def pw (n : Nat) (l : List Int) : Nat → List Int
 | 0 => l
 | m + 1 => mulL n (pw n l m) l
theorem pw_add (n : Nat) (l : List Int) (a b : Nat) : mulL n (pw n l a) (pw n l b) = pw n l (a + b + 1):=by
 induction b with
 | zero => rfl
 | succ b ih => show mulL n (pw n l a) (mulL n (pw n l b) l) = mulL n (pw n l (a + (b + 1))) l;rw [← mul_assoc',ih];rfl
def Gr (l : List Int) : Prop := ∀ x ∈ l,0 ≤ x ∧ x ≤ 3
theorem gr_getD {l : List Int} (h : Gr l) (j : Nat) : 0 ≤ l.getD j 0 ∧ l.getD j 0 ≤ 3:=by
 rw [List.getD_eq_getElem?_getD]
 by_cases hj : j < l.length
 ·rw [List.getElem?_eq_getElem hj];exact h _ (List.getElem_mem hj)
 ·rw [List.getElem?_eq_none (by omega)];simp
theorem mulE_in (n : Nat) (a b : List Int) (ha : Gr a) (hb : Gr b) (i k : Nat) : 0 ≤ mulE n a b i k ∧ mulE n a b i k ≤ 3:=by
 constructor
 ·have h:=mulE_le n a b i k (-1)
  have : ¬ mulE n a b i k ≤ -1:=by
   rw [h]
   rintro (h | ⟨l,_,h1,_⟩)
   ·omega
   ·have:=(gr_getD ha (i * n + l)).1;omega
  omega
 ·rw [mulE_le];exact Or.inl (Int.le_refl _)
theorem mul_gr (n : Nat) (a b : List Int) (ha : Gr a) (hb : Gr b) : Gr (mulL n a b):=by
 intro x hx
 obtain ⟨j,hj,rfl⟩:=mem_tab.mp hx
 exact mulE_in n a b ha hb _ _
theorem pw_gr (n : Nat) (l : List Int) (h : Gr l) (m : Nat) : Gr (pw n l m):=by
 induction m with
 | zero => exact h
 | succ m ih => exact mul_gr n _ _ ih h
theorem pw_len (n : Nat) (l : List Int) (h : l.length = n * n) (m : Nat) : (pw n l m).length = n * n:=by
 cases m with
 | zero => exact h
 | succ m => exact mulL_length n _ _
theorem pigeon (N : Nat) : ∀ f : Nat → Nat,(∀ i,i ≤ N → f i < N) → ∃ i j,i < j ∧ j ≤ N ∧ f i = f j:=by
 induction N with
 | zero => intro f h;exact absurd (h 0 (Nat.le_refl _)) (by omega)
 | succ N ih =>
  intro f h
  by_cases e : ∃ i,i ≤ N ∧ f i = f (N + 1)
  ·obtain ⟨i,h1,h2⟩:=e
   exact ⟨i,N + 1,by omega,Nat.le_refl _,h2⟩
  ·have ne : ∀ i,i ≤ N → f i ≠ f (N + 1):=fun i hi he => e ⟨i,hi,he⟩
   obtain ⟨i,j,h1,h2,h3⟩:=ih (fun i => if f i > f (N + 1) then f i - 1 else f i) (fun i hi => by
    have a:=h i (by omega)
    have b:=h (N + 1) (Nat.le_refl _)
    have c:=ne i hi
    show (if f i > f (N + 1) then f i - 1 else f i) < N
    by_cases d : f i > f (N + 1)
    ·rw [if_pos d];omega
    ·rw [if_neg d];omega)
   refine ⟨i,j,h1,by omega,?_⟩
   have c1:=ne i (by omega)
   have c2:=ne j h2
   have h3' : (if f i > f (N + 1) then f i - 1 else f i) = (if f j > f (N + 1) then f j - 1 else f j):=h3
   by_cases d1 : f i > f (N + 1) <;> by_cases d2 : f j > f (N + 1)
   ·rw [if_pos d1,if_pos d2] at h3';omega
   ·rw [if_pos d1,if_neg d2] at h3';omega
   ·rw [if_neg d1,if_pos d2] at h3';omega
   ·rw [if_neg d1,if_neg d2] at h3';omega
def code : List Int → Nat
 | [] => 0
 | x :: t => x.toNat + 4 * code t
theorem code_lt (l : List Int) (h : Gr l) : code l < 4 ^ l.length:=by
 induction l with
 | nil => simp [code]
 | cons x t ih =>
  have h1:=h x (by simp)
  have h2:=ih (fun y hy => h y (by simp [hy]))
  rw [List.length_cons,Nat.pow_succ]
  simp only [code]
  omega
theorem code_inj (l : List Int) : ∀ m : List Int,Gr l → Gr m → l.length = m.length → code l = code m → l = m:=by
 induction l with
 | nil => intro m _ _ h _;cases m with
  | nil => rfl
  | cons => simp at h
 | cons x t ih =>
  intro m hl hm h e
  cases m with
  | nil => simp at h
  | cons y u =>
   have h1:=hl x (by simp)
   have h2:=hm y (by simp)
   simp only [code] at e
   have e1 : x = y:=by omega
   have e2 : code t = code u:=by omega
   rw [e1,ih u (fun z hz => hl z (by simp [hz])) (fun z hz => hm z (by simp [hz])) (by simpa using h) e2]
theorem pw_again (n : Nat) (l : List Int) (i d : Nat) (h : pw n l i = pw n l (i + d)) : ∀ m,i ≤ m → ∀ q,pw n l m = pw n l (m + q * d):=by
 have one : ∀ m,i ≤ m → pw n l m = pw n l (m + d):=by
  intro m hm
  obtain ⟨x,rfl⟩:=Nat.le.dest hm
  cases x with
  | zero => exact h
  | succ x =>
   have a:=pw_add n l i x
   have b:=pw_add n l (i + d) x
   rw [← h] at b
   have e : i + d + x + 1 = i + (x + 1) + d:=by omega
   rw [← e,← b,a];rfl
 intro m hm q
 induction q with
 | zero => simp
 | succ q ih =>
  rw [ih,one (m + q * d) (by omega)]
  congr 1
  rw [Nat.succ_mul];omega
theorem some_idem (n : Nat) (l : List Int) (hl : l.length = n * n) (hg : Gr l) : ∃ m,mulL n (pw n l m) (pw n l m) = pw n l m:=by
 obtain ⟨i,j,hij,_,he⟩:=pigeon (4 ^ (n * n)) (fun m => code (pw n l m)) (fun m _ => by
  have:=code_lt (pw n l m) (pw_gr n l hg m)
  rwa [pw_len n l hl m] at this)
 have he2 : pw n l i = pw n l j:=code_inj _ _ (pw_gr n l hg i) (pw_gr n l hg j) (by rw [pw_len n l hl,pw_len n l hl]) he
 obtain ⟨d,rfl⟩ : ∃ d,j = i + (d + 1):=⟨j - i - 1,by omega⟩
 have per:=pw_again n l i (d + 1) he2
 have hM : i ≤ (i + 1) * (d + 1) - 1:=by
  have : i + 1 ≤ (i + 1) * (d + 1):=Nat.le_mul_of_pos_right _ (by omega)
  omega
 have hp : 1 ≤ (i + 1) * (d + 1):=Nat.mul_pos (by omega) (by omega)
 refine ⟨(i + 1) * (d + 1) - 1,?_⟩
 rw [pw_add,per _ hM (i + 1)]
 congr 1
theorem least (P : Nat → Prop) (h : ∃ m,P m) : ∃ m,P m ∧ ∀ j,j < m → ¬ P j:=by
 obtain ⟨m,hm⟩:=h
 induction m using Nat.strongRecOn with
 | _ m ih =>
  by_cases e : ∃ j,j < m ∧ P j
  ·obtain ⟨j,h1,h2⟩:=e
   exact ih j h1 h2
  ·exact ⟨m,hm,fun j h1 h2 => e ⟨j,h1,h2⟩⟩
theorem GV_iff (n : Nat) (l : List Int) : GV n l ↔ 1 ≤ n ∧ n ≤ 4 ∧ l.length = n * n ∧ Gr l:=by
 constructor
 ·intro h
  refine ⟨(GV_le h).2,(GV_le h).1,GV_len h,fun x hx => ⟨(h.1.2.2.2 x hx).1,h.2 x hx⟩⟩
 ·rintro ⟨h1,h2,h3,h4⟩
  refine ⟨⟨by omega,by omega,by rw [h3];simp,fun x hx => ⟨(h4 x hx).1,?_⟩⟩,fun x hx => (h4 x hx).2⟩
  have:=(h4 x hx).2
  omega
theorem GV_mul (n : Nat) (a b : List Int) (ha : GV n a) (hb : GV n b) : GV n (mulL n a b):=by
 rw [GV_iff] at ha hb ⊢
 exact ⟨ha.1,ha.2.1,mulL_length n a b,mul_gr n a b ha.2.2.2 hb.2.2.2⟩
theorem big16 {n : Nat} {l : List Int} (h : GV n l) : l.length ≤ maxLen:=by have:=len_of_GV h;rw [maxLen_eq];omega
theorem unit_gr (n : Nat) : (sqL n unitE).map gr = sqL n oneE:=by
 unfold sqL tab
 rw [List.map_map]
 refine List.map_congr_left (fun m _ => ?_)
 show gr (unitE (m / n) (m % n)) = oneE (m / n) (m % n)
 unfold unitE oneE gr
 by_cases e : m / n = m % n
 ·rw [if_pos e,if_pos e];rfl
 ·rw [if_neg e,if_neg e];rfl
theorem one_GV (n : Nat) (h1 : 1 ≤ n) (h4 : n ≤ 4) : GV (n : Int) (sqL n oneE):=by
 refine ⟨⟨by omega,by omega,?_,?_⟩,?_⟩
 ·unfold sqL;rw [tab_length];exact_mod_cast rfl
 ·intro x hx
  unfold sqL tab at hx
  obtain ⟨m,_,rfl⟩:=List.mem_map.mp hx
  unfold oneE
  by_cases e : m / n = m % n
  ·simp only [e,if_true];omega
  ·rw [if_neg e];omega
 ·intro x hx
  unfold sqL tab at hx
  obtain ⟨m,_,rfl⟩:=List.mem_map.mp hx
  unfold oneE
  by_cases e : m / n = m % n
  ·simp only [e,if_true];omega
  ·rw [if_neg e];omega
theorem mul_one' (n : Nat) (a : List Int) (h : GV (n : Int) a) : mulL n a (sqL n oneE) = a:=by
 have hg : Gr a:=fun x hx => ⟨(h.1.2.2.2 x hx).1,h.2 x hx⟩
 conv => rhs;rw [eq_sqL n a (GV_len h)]
 unfold mulL
 refine sqL_congr n _ _ (fun i k hi hk => ?_)
 refine eq_of_le _ _ (fun t => ?_)
 rw [mulE_le]
 have hb:=gr_getD hg (i * n + k)
 constructor
 ·rintro (h3 | ⟨l,hl,h1,h2⟩)
  ·omega
  ·rw [sqL_get n oneE l k hl hk] at h2
   unfold oneE at h2
   by_cases e : l = k
   ·subst e;exact h1
   ·rw [if_neg e] at h2;omega
 ·intro ht
  refine Or.inr ⟨k,hk,ht,?_⟩
  rw [sqL_get n oneE k k hk hk]
  unfold oneE
  rw [if_pos rfl];omega
theorem one_mul' (n : Nat) (a : List Int) (h : GV (n : Int) a) : mulL n (sqL n oneE) a = a:=by
 have hg : Gr a:=fun x hx => ⟨(h.1.2.2.2 x hx).1,h.2 x hx⟩
 conv => rhs;rw [eq_sqL n a (GV_len h)]
 unfold mulL
 refine sqL_congr n _ _ (fun i k hi hk => ?_)
 refine eq_of_le _ _ (fun t => ?_)
 rw [mulE_le]
 have hb:=gr_getD hg (i * n + k)
 constructor
 ·rintro (h3 | ⟨l,hl,h1,h2⟩)
  ·omega
  ·rw [sqL_get n oneE i l hi hl] at h1
   unfold oneE at h1
   by_cases e : i = l
   ·subst e;exact h2
   ·rw [if_neg e] at h1;omega
 ·intro ht
  refine Or.inr ⟨i,hi,?_,ht⟩
  rw [sqL_get n oneE i i hi hi]
  unfold oneE
  rw [if_pos rfl];omega
theorem prefix_eval (y : ByteArray) : strings_HasPrefix.f y ⟨#[41,35]⟩ = some ((L y).take 2 == [41,35]):=by
 have h2 : (⟨#[41,35]⟩ : ByteArray).size = 2:=rfl
 have hl : (⟨#[41,35]⟩ : ByteArray).toList = [41,35]:=by rw [toList_L];rfl
 unfold strings_HasPrefix.f stringslite_HasPrefix.f
 rw [h2,hl,toList_L,L_extract,L_size]
 cases h : L y with
 | nil => simp
 | cons a t =>
  cases t with
  | nil => simp
  | cons b t =>
   simp
   rw [if_pos (by omega),if_pos (by omega)]
theorem prefix_no {l : List UInt8} (h : ∀ e2,l ≠ 41 :: 35 :: e2) : (l.take 2 == [41,35]) = false:=by
 cases l with
 | nil => rfl
 | cons a t =>
  cases t with
  | nil => simp
  | cons b t =>
   simp
   rintro rfl rfl
   exact h t rfl
theorem parts_reads {e ps r} (h : Reads e ps r) : ∀ (x : ByteArray) (out : List S136),L x = e → out.length + x.size ≤ 1000000 →
  Ev (fun k => impl_readParts.l0 k x out) (out ++ ps,⟨r.toArray⟩):=by
 induction h with
 | done =>
  intro x out hx hn
  refine Ev.step (f:=fun _ => some (out,x)) (fun k => ?_) ((Ev.now _).is ?_)
  ·simp only [impl_readParts.l0];rw [if_pos (by rw [toList_L,hx])]
  ·simp;exact L_inj (by rw [hx];rfl)
 | letter c e ps r hc h ih =>
  intro x out hx hn
  have hz : x.size = e.length + 1:=by rw [L_size,hx];simp
  have hbt : bt x 0 = (c.toNat : Int):=by rw [bt_L,hx];simp
  have h1 : L (x.extract 1 x.size) = e:=by rw [L_extract,hx,L_size,hx];simp
  have h0 : x.extract 0 1 = ⟨#[c]⟩:=L_inj (by rw [L_extract,hx];simp [L])
  refine Ev.step (f:=fun k => impl_readParts.j1 k x out (bt x 0) true) (fun k => ?_) ?_
  ·simp only [impl_readParts.l0];rw [if_neg (by rw [toList_L,hx];simp),if_pos (by omega)]
   rcases hc with rfl|rfl
   ·rw [if_pos (by rw [hbt];rfl),show ((bt x 0) == 97) = true by rw [hbt];rfl]
   ·rw [if_neg (by rw [hbt];decide),show ((bt x 0) == 98) = true by rw [hbt];rfl]
  refine Ev.step (f:=fun k => impl_readParts.l0 k (x.extract 1 x.size) (out ++ [(⟨⟨#[c]⟩,[]⟩ : S136)])) (fun k => ?_) ?_
  ·simp only [impl_readParts.j1,if_true];rw [if_pos (by omega),if_pos (by omega),if_pos (by omega),h0]
  ·exact (ih (x.extract 1 x.size) _ h1 (by simp only [List.length_append,List.length_cons,List.length_nil];rw [L_size,h1];omega)).is (by simp)
 | again e w e2 ps r h1 hw h2 ih1 ih2 =>
  intro x out hx hn
  have hz : x.size = e.length + 1:=by rw [L_size,hx];simp
  have hbt : bt x 0 = 40:=by rw [bt_L,hx];rfl
  have he : L (x.extract 1 x.size) = e:=by rw [L_extract,hx,L_size,hx];simp
  have hle:=h1.le
  simp at hle
  refine Ev.step (f:=fun k => impl_readParts.j1 k x out 40 false) (fun k => ?_) ?_
  ·simp only [impl_readParts.l0];rw [if_neg (by rw [toList_L,hx];simp),if_pos (by omega),if_neg (by rw [hbt];decide),hbt];rfl
  refine Ev.step (f:=?f1) (fun k => ?h1) ?k1
  case h1 => simp only [impl_readParts.j1];rw [if_neg (by simp),if_pos trivial,if_pos (by omega)] <;> exact rfl
  have i1:=ih1 (x.extract 1 x.size) [] he (by simp only [List.length_nil];rw [L_size,he];omega)
  have hy : L (⟨(41 :: 35 :: e2 : List UInt8).toArray⟩ : ByteArray) = 41 :: 35 :: e2:=L_mk _
  have hyz : (⟨(41 :: 35 :: e2 : List UInt8).toArray⟩ : ByteArray).size = e2.length + 2:=by rw [L_size,hy];simp
  refine Ev.bind (a:=([] ++ w,⟨(41 :: 35 :: e2 : List UInt8).toArray⟩)) (Ev.step (fun k => by simp only [impl_readParts.f]) i1) ?_
  have hwl : 0 < w.length:=by cases w with
   | nil => exact absurd rfl hw
   | cons a b => simp
  have h2' : L ((⟨(41 :: 35 :: e2 : List UInt8).toArray⟩ : ByteArray).extract 2 (⟨(41 :: 35 :: e2 : List UInt8).toArray⟩ : ByteArray).size) = e2:=by rw [L_extract,hyz,hy];simp
  have i2:=ih2 _ (out ++ [(⟨⟨#[]⟩,w⟩ : S136)]) h2' (by rw [L_size _,h2'];simp only [List.length_append,List.length_cons,List.length_nil];omega)
  refine Ev.congr (fun k => ?_) (i2.is (by simp))
  dsimp only
  rw [List.nil_append,if_pos (by omega),prefix_eval,hy,show (List.take 2 (41 :: 35 :: e2) == [41,35]) = true from rfl,Option.bind_some,if_pos rfl,if_pos (by omega),if_pos (by omega)]
 | other c e c1 c2 c3 =>
  intro x out hx hn
  have hz : x.size = e.length + 1:=by rw [L_size,hx];simp
  have hbt : bt x 0 = (c.toNat : Int):=by rw [bt_L,hx];simp
  have hxe : x = ⟨(c :: e).toArray⟩:=L_inj (by rw [hx,L_mk])
  refine Ev.step (f:=fun k => impl_readParts.j1 k x out (bt x 0) false) (fun k => ?_) ?_
  ·simp only [impl_readParts.l0];rw [if_neg (by rw [toList_L,hx];simp),if_pos (by omega),if_neg (by rw [hbt];exact u8_ne c1),show ((bt x 0) == 98) = false by rw [hbt];simpa using u8_ne c2]
  refine Ev.step (f:=fun _ => some (out,x)) (fun k => ?_) ((Ev.now _).is (by rw [List.append_nil,← hxe]))
  ·simp only [impl_readParts.j1];rw [if_neg (by simp),if_neg (by rw [hbt];exact u8_ne c3)]
 | bad e w r1 h1 hw ih =>
  intro x out hx hn
  have hz : x.size = e.length + 1:=by rw [L_size,hx];simp
  have hbt : bt x 0 = 40:=by rw [bt_L,hx];rfl
  have he : L (x.extract 1 x.size) = e:=by rw [L_extract,hx,L_size,hx];simp
  have hxe : x = ⟨(40 :: e).toArray⟩:=L_inj (by rw [hx,L_mk])
  refine Ev.step (f:=fun k => impl_readParts.j1 k x out 40 false) (fun k => ?_) ?_
  ·simp only [impl_readParts.l0];rw [if_neg (by rw [toList_L,hx];simp),if_pos (by omega),if_neg (by rw [hbt];decide),hbt];rfl
  refine Ev.step (f:=?f2) (fun k => ?h2) ?k2
  case h2 => simp only [impl_readParts.j1];rw [if_neg (by simp),if_pos trivial,if_pos (by omega)] <;> exact rfl
  have i1:=ih (x.extract 1 x.size) [] he (by simp only [List.length_nil];rw [L_size,he];omega)
  refine Ev.bind (a:=([] ++ w,⟨r1.toArray⟩)) (Ev.step (fun k => by simp only [impl_readParts.f]) i1) ?_
  refine Ev.congr (f:=fun _ => some (out,x)) (fun k => ?_) ((Ev.now _).is (by rw [List.append_nil,← hxe]))
  dsimp only
  by_cases hwl : w = []
  ·subst hwl;rw [if_neg (by simp)]
  ·have hwl' : 0 < w.length:=by cases w with
    | nil => exact absurd rfl hwl
    | cons a b => simp
   have hn : ∀ e2,r1 ≠ 41 :: 35 :: e2:=by
    rcases hw with h'|h'
    ·exact absurd h' hwl
    ·exact h'
   rw [List.nil_append,if_pos (by omega),prefix_eval,L_mk,prefix_no hn,Option.bind_some,if_neg (by simp)]
theorem parts_eval (s : ByteArray) (hs : s.size ≤ 120) : ∃ ps r,Reads (L s) ps r ∧ Ev (fun k => impl_parts.f k s) (ps,decide (ps ≠ [] ∧ r = [])):=by
 obtain ⟨ps,r,h⟩:=reads_all (L s).length (L s) (Nat.le_refl _)
 refine ⟨ps,r,h,?_⟩
 have h1:=parts_reads h s [] rfl (by simp;omega)
 refine Ev.congr (f:=?f3) (fun k => ?h3) ?k3
 case h3 => unfold impl_parts.f;rw [if_neg (by omega)] <;> exact rfl
 refine Ev.bind (Ev.step (fun k => by simp only [impl_readParts.f]) h1) ?_
 refine Ev.congr (f:=fun _ => some (ps,decide (ps ≠ [] ∧ r = []))) (fun k => ?_) (Ev.now _)
 dsimp only
 rw [List.nil_append,toList_L,L_mk]
 cases ps with
 | nil => simp
 | cons p ps => simp;cases r <;> simp
theorem parts_long (s : ByteArray) (hs : 120 < s.size) : Ev (fun k => impl_parts.f k s) ([],false):=by
 refine Ev.congr (f:=fun _ => some ([],false)) (fun k => ?_) (Ev.now _)
 unfold impl_parts.f;rw [if_pos (by omega)]
theorem valid_eval (s : ByteArray) (hs : s.size ≤ 120) {ps r} (h : Reads (L s) ps r) : Ev (fun k => spec_ExpressionValid.f k s) (decide (ps ≠ [] ∧ r = [])):=by
 have h1:=end_reads h s [] 0 (by simp) (by omega) (by omega) (by simp)
 have hz : s.size = (L s).length:=L_size s
 refine Ev.congr (f:=?f4) (fun k => ?h4) ?k4
 case h4 => unfold spec_ExpressionValid.f;rw [if_pos (by omega)] <;> exact rfl
 refine Ev.bind (a:=endv s r 0) (Ev.step (fun k => by simp only [spec_l7End.f];rfl) h1) ?_
 refine Ev.congr (f:=fun _ => some (decide (ps ≠ [] ∧ r = []))) (fun k => ?_) (Ev.now _)
 by_cases hr : r = []
 ·subst hr
  by_cases hp : ps = []
  ·subst hp
   have:=h.none
   have h0 : s.size = 0:=by rw [hz,← this];rfl
   have e : endv s [] 0 = -1:=by unfold endv;rw [if_pos (.inl rfl),if_pos (by rw [h0];rfl)]
   rw [e,if_neg (by omega)];simp
  ·have:=h.some hp
   simp only [List.length_nil] at this
   have e : endv s [] 0 = s.size:=by unfold endv;rw [if_pos (.inl rfl),if_neg (by simp only [List.length_nil];omega)];simp
   rw [e,if_pos rfl]
   have hp2 : ps ≠ [] ∧ ([] : List UInt8) = []:=⟨hp,rfl⟩
   rw [decide_eq_true hp2,decide_eq_true (show (s.size : Int) > 0 by omega)]
 ·have hl : 0 < r.length:=by cases r with
   | nil => exact absurd rfl hr
   | cons a b => simp
  rw [if_neg (by unfold endv;split <;> (try split) <;> omega)];simp [hr]
theorem valid_long (s : ByteArray) (hs : 120 < s.size) : Ev (fun k => spec_ExpressionValid.f k s) false:=by
 refine Ev.congr (f:=fun _ => some false) (fun k => ?_) (Ev.now _)
 unfold spec_ExpressionValid.f;rw [if_neg (by omega)]
theorem valid_both (s : ByteArray) : ∃ b ps,Ev (fun k => spec_ExpressionValid.f k s) b ∧ Ev (fun k => impl_parts.f k s) (ps,b):=by
 by_cases h : s.size ≤ 120
 ·obtain ⟨ps,r,hr,hp⟩:=parts_eval s h
  exact ⟨_,ps,valid_eval s h hr,hp⟩
 ·exact ⟨false,[],valid_long s (by omega),parts_long s (by omega)⟩
def ag (x : Int) : Int:=if x = 1 then 2 else x
def stE (n : Nat) (a : List Int) (i k : Nat) : Int:=(List.range n).foldl (fun acc l => mn acc (mx (mx (a.getD (i * n + l) 0) (ag (a.getD (l * n + l) 0))) (a.getD (l * n + k) 0))) 3
def stL (n : Nat) (a : List Int) : List Int:=sqL n (stE n a)
def stabR (n : Int) (l : List Int) : Int × List Int × Bool:=if Idem n l then (n,stL n.toNat l,true) else (0,[],false)
theorem stL_length (n : Nat) (a : List Int) : (stL n a).length = n * n:=by simp [stL,sqL,tab_length]
theorem stabR_len (n : Int) (l : List Int) : (stabR n l).2.1.length ≤ 16:=by
 unfold stabR
 by_cases g : Idem n l
 ·rw [if_pos g]
  obtain ⟨m,rfl⟩:=GV_nat g.1
  have:=sq_le m (GV_le g.1).1
  show (stL m l).length ≤ 16
  rw [stL_length];exact this
 ·rw [if_neg g];simp
theorem iStCell (n : Nat) (hn : n ≤ 4) (a : List Int) (ha : a.length = n * n) (i k : Nat) (hi : i < n) (hk : k < n) :
  Ev (fun K => impl_Stabilise_1.f K (i : Int) (k : Int) (n : Int) a) (stE n a i k):=by
 refine up_loop n (fun l K => impl_Stabilise_1.l0 K i k ((List.range l).foldl (fun acc l => mn acc (mx (mx (a.getD (i * n + l) 0) (ag (a.getD (l * n + l) 0))) (a.getD (l * n + k) 0))) 3) n (l : Int) n a) _ (fun l hl hs => ?_) ?_
 ·refine Ev.step (fun j => ?_) hs
  simp only [impl_Stabilise_1.l0]
  rw [if_pos (by omega),at_eq n hn a ha l l hl hl,Option.bind_some,at_eq n hn a ha i l hi hl,Option.bind_some,at_eq n hn a ha l k hl hk,Option.bind_some,Option.bind_some,w64 (x:=(l : Int) + 1) (by omega) (by omega),fold_snoc]
  by_cases e : a.getD (l * n + l) 0 = 1
  ·rw [if_pos e];unfold ag;rw [if_pos e];rfl
  ·rw [if_neg e];unfold ag;rw [if_neg e];rfl
 ·refine Ev.step (f:=fun _ => some (stE n a i k)) (fun j => ?_) (Ev.now _)
  simp only [impl_Stabilise_1.l0]
  rw [if_neg (by omega)];rfl
theorem iStab (n : Int) (l : List Int) (hl : l.length ≤ maxLen) : Ev (fun k => impl_Stabilise.f k n l) (stabR n l):=by
 unfold impl_Stabilise.f
 refine Ev.bind (iIdem n l hl) ?_
 by_cases g : Idem n l
 ·refine Ev_t (decide_eq_true g) ?_
  have e : stabR n l = (n,stL n.toNat l,true):=by unfold stabR;rw [if_pos g]
  rw [e]
  obtain ⟨m,rfl⟩:=GV_nat g.1
  refine Ev.bind (a:=((m : Int),stL m l)) ?_ (Ev.now _)
  exact filled_ev m (GV_le g.1).1 (stE m l) (fun K y0 y1 => impl_Stabilise_1.f K y0 y1 m l) (fun i hi k hk => iStCell m (GV_le g.1).1 l (GV_len g.1) i k hi hk)
 ·refine Ev_f (by rw [decide_eq_false g];simp) ((Ev.now _).is ?_)
  unfold stabR;rw [if_neg g]
theorem sAgain (x : Int) : spec_l6Again.f x = some (ag x):=by
 unfold spec_l6Again.f ag
 by_cases e : x = 1
 ·rw [if_pos e,if_pos e]
 ·rw [if_neg e,if_neg e]
theorem idx3 (n l : Nat) (hn : n ≤ 4) (hl : l < n) : wrap64 (wrap64 ((l : Int) * (n : Int)) + (l : Int)) = ((l * n + l : Nat) : Int):=by
 have r2:=row_le n l hn (by omega)
 have : (l : Int) * (n : Int) = ((l * n : Nat) : Int):=by simp
 rw [this,w64 (x:=((l * n : Nat) : Int)) (by omega) (by omega),w64 (x:=((l * n : Nat) : Int) + (l : Int)) (by omega) (by omega)]
 simp
theorem sStab1 (n : Nat) (hn : n ≤ 4) (h0 : 1 ≤ n) (a : List Int) (hla : a.length = n * n) : Ev (fun k => spec_l6Stable.f k n a) ((n : Int),stL n a):=by
 have hs:=sq_le n hn
 have e0 : wrap64 ((n : Int) * (n : Int)) = ((n * n : Nat) : Int):=by
  have : (n : Int) * (n : Int) = ((n * n : Nat) : Int):=by simp
  rw [this,w64 (by omega) (by omega)]
 refine Ev.congr (f:=fun k => spec_l6Stable.l0 k ((n * n : Nat) : Int) ((0 : Nat) : Int) n a n (tab 0 (fun m => stE n a (m / n) (m % n)))) (fun k => ?_) ?_
 ·unfold spec_l6Stable.f;rw [e0];simp [tab]
 refine up_loop (n * n) (fun m k => spec_l6Stable.l0 k ((n * n : Nat) : Int) (m : Int) n a n (tab m (fun m => stE n a (m / n) (m % n)))) _ (fun m hm hnext => ?_) ?_
 ·have hi : m / n < n:=Nat.div_lt_of_lt_mul hm
  have hk : m % n < n:=Nat.mod_lt _ (by omega)
  refine Ev.step (f:=fun k => spec_l6Stable.l1 k m ((List.range 0).foldl (fun acc l => mn acc (mx (mx (a.getD (m / n * n + l) 0) (ag (a.getD (l * n + l) 0))) (a.getD (l * n + m % n) 0))) 3) ((n * n : Nat) : Int) m n ((0 : Nat) : Int) n a n (tab m (fun m => stE n a (m / n) (m % n)))) (fun k => ?_) ?_
  ·simp only [spec_l6Stable.l0];rw [if_pos (by omega)];rfl
  refine up_loop n (fun l k => spec_l6Stable.l1 k m ((List.range l).foldl (fun acc l => mn acc (mx (mx (a.getD (m / n * n + l) 0) (ag (a.getD (l * n + l) 0))) (a.getD (l * n + m % n) 0))) 3) ((n * n : Nat) : Int) m n (l : Int) n a n (tab m (fun m => stE n a (m / n) (m % n)))) _ (fun l hl hs2 => ?_) ?_
  ·refine Ev.step (fun j => ?_) hs2
   have c1:=cell_lt n (m / n) l hi hl
   have c2:=cell_lt n l (m % n) hl hk
   have c3:=cell_lt n l l hl hl
   have hA : (l : Int) < (n : Int):=by omega
   have hB : ¬ (n : Int) = 0:=by omega
   have hC : (((m / n * n + l : Nat)) : Int) < (a.length : Int):=by rw [hla];exact_mod_cast c1
   have hD : (((l * n + m % n : Nat)) : Int) < (a.length : Int):=by rw [hla];exact_mod_cast c2
   have hF : (((l * n + l : Nat)) : Int) < (a.length : Int):=by rw [hla];exact_mod_cast c3
   have hE : wrap64 ((l : Int) + 1) = ((l + 1 : Nat) : Int):=by rw [w64 (by omega) (by omega)];rfl
   have e1:=idx1 n m l hn hi hl
   have e2:=idx2 n m l hn hk hl
   have e3:=idx3 n l hn hl
   simp only [spec_l6Stable.l1]
   rw [if_pos hA,if_neg hB,e1,e2,e3,if_pos (Int.natCast_nonneg _),if_pos hC,if_pos (Int.natCast_nonneg _),if_pos hF,sAgain,Option.bind_some,if_pos (Int.natCast_nonneg _),if_pos hD,rd_nat,rd_nat,rd_nat,hE,fold_snoc]
  ·refine Ev.step (fun j => ?_) hnext
   simp only [spec_l6Stable.l1]
   rw [if_neg (by omega),tab_length,if_pos (by omega),w64 (x:=(m : Int) + 1) (by omega) (by omega)]
   have e : tab m (fun m => stE n a (m / n) (m % n)) ++ [stE n a (m / n) (m % n)] = tab (m + 1) (fun m => stE n a (m / n) (m % n)):=tab_snoc m (fun m => stE n a (m / n) (m % n))
   show spec_l6Stable.l0 j _ _ _ _ _ (tab m (fun m => stE n a (m / n) (m % n)) ++ [stE n a (m / n) (m % n)]) = _
   rw [e];rfl
 ·refine Ev.step (f:=fun _ => some ((n : Int),stL n a)) (fun j => ?_) (Ev.now _)
  simp only [spec_l6Stable.l0]
  rw [if_neg (by omega)];rfl
theorem stE_le (n : Nat) (a : List Int) (i k : Nat) (t : Int) : stE n a i k ≤ t ↔ 3 ≤ t ∨ ∃ l,l < n ∧ a.getD (i * n + l) 0 ≤ t ∧ ag (a.getD (l * n + l) 0) ≤ t ∧ a.getD (l * n + k) 0 ≤ t:=by
 unfold stE
 rw [fold_le n (fun l => mx (mx (a.getD (i * n + l) 0) (ag (a.getD (l * n + l) 0))) (a.getD (l * n + k) 0)) 3 t]
 constructor
 ·rintro (h | ⟨l,h1,h2⟩)
  ·exact Or.inl h
  ·rw [mx_le,mx_le] at h2;exact Or.inr ⟨l,h1,h2.1.1,h2.1.2,h2.2⟩
 ·rintro (h | ⟨l,h1,h2,h3,h4⟩)
  ·exact Or.inl h
  ·exact Or.inr ⟨l,h1,by rw [mx_le,mx_le];exact ⟨⟨h2,h3⟩,h4⟩⟩
theorem ag_ge (x : Int) : x ≤ ag x:=by unfold ag;by_cases h : x = 1 <;> simp only [h,if_true,if_false] <;> omega
theorem ag_mono (x y : Int) (h : x ≤ y) : ag x ≤ ag y:=by
 unfold ag
 by_cases h1 : x = 1
 ·rw [if_pos h1];by_cases h2 : y = 1
  ·rw [if_pos h2];omega
  ·rw [if_neg h2];omega
 ·rw [if_neg h1];by_cases h2 : y = 1
  ·rw [if_pos h2];omega
  ·rw [if_neg h2];omega
theorem ag_ag (x : Int) : ag (ag x) = ag x:=by
 unfold ag
 by_cases h1 : x = 1
 ·rw [if_pos h1,if_neg (by omega)]
 ·rw [if_neg h1,if_neg h1]
theorem ag_le2 (x : Int) (h : x ≤ 2) : ag x ≤ 2:=by
 unfold ag
 by_cases h1 : x = 1
 ·rw [if_pos h1];omega
 ·rw [if_neg h1];exact h
section
variable {n : Nat} {a : List Int}
theorem st_get (i k : Nat) (hi : i < n) (hk : k < n) : (stL n a).getD (i * n + k) 0 = stE n a i k:=sqL_get n _ i k hi hk
theorem idem_le (h : mulL n a a = a) (i k : Nat) (hi : i < n) (hk : k < n) (t : Int) : a.getD (i * n + k) 0 ≤ t ↔ 3 ≤ t ∨ ∃ l,l < n ∧ a.getD (i * n + l) 0 ≤ t ∧ a.getD (l * n + k) 0 ≤ t:=by
 rw [← mulE_le,← mulL_get n a a i k hi hk,h]
theorem trans_le (h : mulL n a a = a) (i l k : Nat) (hi : i < n) (hl : l < n) (hk : k < n) (t : Int) (h1 : a.getD (i * n + l) 0 ≤ t) (h2 : a.getD (l * n + k) 0 ≤ t) : a.getD (i * n + k) 0 ≤ t :=
 (idem_le h i k hi hk t).mpr (Or.inr ⟨l,hl,h1,h2⟩)
theorem st_left (h : mulL n a a = a) : mulL n a (stL n a) = stL n a:=by
 refine sqL_congr n _ _ (fun i k hi hk => eq_of_le _ _ (fun t => ?_))
 rw [mulE_le,stE_le]
 constructor
 ·rintro (h1 | ⟨j,hj,h1,h2⟩)
  ·exact Or.inl h1
  ·rw [st_get j k hj hk,stE_le] at h2
   rcases h2 with h2 | ⟨l,hl,h2,h3,h4⟩
   ·exact Or.inl h2
   ·exact Or.inr ⟨l,hl,trans_le h i j l hi hj hl t h1 h2,h3,h4⟩
 ·rintro (h1 | ⟨l,hl,h1,h2,h3⟩)
  ·exact Or.inl h1
  ·rcases (idem_le h i l hi hl t).mp h1 with h4 | ⟨j,hj,h4,h5⟩
   ·exact Or.inl h4
   ·exact Or.inr ⟨j,hj,h4,by rw [st_get j k hj hk,stE_le];exact Or.inr ⟨l,hl,h5,h2,h3⟩⟩
theorem st_right (h : mulL n a a = a) : mulL n (stL n a) a = stL n a:=by
 refine sqL_congr n _ _ (fun i k hi hk => eq_of_le _ _ (fun t => ?_))
 rw [mulE_le,stE_le]
 constructor
 ·rintro (h1 | ⟨j,hj,h1,h2⟩)
  ·exact Or.inl h1
  ·rw [st_get i j hi hj,stE_le] at h1
   rcases h1 with h1 | ⟨l,hl,h1,h3,h4⟩
   ·exact Or.inl h1
   ·exact Or.inr ⟨l,hl,h1,h3,trans_le h l j k hl hj hk t h4 h2⟩
 ·rintro (h1 | ⟨l,hl,h1,h2,h3⟩)
  ·exact Or.inl h1
  ·rcases (idem_le h l k hl hk t).mp h3 with h4 | ⟨j,hj,h4,h5⟩
   ·exact Or.inl h4
   ·exact Or.inr ⟨j,hj,by rw [st_get i j hi hj,stE_le];exact Or.inr ⟨l,hl,h1,h2,h4⟩,h5⟩
theorem st_mid (h : mulL n a a = a) (i l k : Nat) (hi : i < n) (hl : l < n) (hk : k < n) (t : Int) (h1 : a.getD (i * n + l) 0 ≤ t) (h2 : ag (a.getD (l * n + l) 0) ≤ t) (h3 : a.getD (l * n + k) 0 ≤ t) :
  stE n a i l ≤ t ∧ stE n a l k ≤ t:=by
 have h4 : a.getD (l * n + l) 0 ≤ t:=Int.le_trans (ag_ge _) h2
 exact ⟨by rw [stE_le];exact Or.inr ⟨l,hl,h1,h2,h4⟩,by rw [stE_le];exact Or.inr ⟨l,hl,h4,h2,h3⟩⟩
theorem st_idem (h : mulL n a a = a) : mulL n (stL n a) (stL n a) = stL n a:=by
 refine sqL_congr n _ _ (fun i k hi hk => eq_of_le _ _ (fun t => ?_))
 rw [mulE_le]
 constructor
 ·rintro (h1 | ⟨j,hj,h1,h2⟩)
  ·rw [stE_le];exact Or.inl h1
  ·rw [st_get i j hi hj,stE_le] at h1
   rw [st_get j k hj hk,stE_le] at h2
   rw [stE_le]
   rcases h1 with h1 | ⟨l,hl,h1,h3,h4⟩
   ·exact Or.inl h1
   ·rcases h2 with h2 | ⟨m,hm,h5,h6,h7⟩
    ·exact Or.inl h2
    ·exact Or.inr ⟨l,hl,h1,h3,trans_le h l m k hl hm hk t (trans_le h l j m hl hj hm t h4 h5) h7⟩
 ·intro h1
  rw [stE_le] at h1
  rcases h1 with h1 | ⟨l,hl,h1,h2,h3⟩
  ·exact Or.inl h1
  ·obtain ⟨x,y⟩:=st_mid h i l k hi hl hk t h1 h2 h3
   exact Or.inr ⟨l,hl,by rw [st_get i l hi hl];exact x,by rw [st_get l k hl hk];exact y⟩
theorem st_st (h : mulL n a a = a) : stL n (stL n a) = stL n a:=by
 refine sqL_congr n _ _ (fun i k hi hk => eq_of_le _ _ (fun t => ?_))
 rw [stE_le]
 constructor
 ·rintro (h1 | ⟨l,hl,h1,h2,h3⟩)
  ·rw [stE_le];exact Or.inl h1
  ·rw [← st_get i k hi hk]
   exact trans_le (st_idem h) i l k hi hl hk t h1 h3
 ·intro h1
  rw [stE_le] at h1
  rcases h1 with h1 | ⟨l,hl,h1,h2,h3⟩
  ·exact Or.inl h1
  ·obtain ⟨x,y⟩:=st_mid h i l k hi hl hk t h1 h2 h3
   refine Or.inr ⟨l,hl,by rw [st_get i l hi hl];exact x,?_,by rw [st_get l k hl hk];exact y⟩
   rw [st_get l l hl hl]
   have z : stE n a l l ≤ ag (a.getD (l * n + l) 0):=by
    rw [stE_le];exact Or.inr ⟨l,hl,ag_ge _,Int.le_refl _,ag_ge _⟩
   have w:=ag_mono _ _ z
   rw [ag_ag] at w
   exact Int.le_trans w h2
theorem st_ge (h : mulL n a a = a) (hg : Gr a) (i k : Nat) (hi : i < n) (hk : k < n) : a.getD (i * n + k) 0 ≤ stE n a i k:=by
 have h1:=(stE_le n a i k (stE n a i k)).mp (Int.le_refl _)
 rcases h1 with h1 | ⟨l,hl,h1,_,h3⟩
 ·have:=(gr_getD hg (i * n + k)).2;omega
 ·exact trans_le h i l k hi hl hk _ h1 h3
theorem loop_at (h : mulL n a a = a) (i k : Nat) (hi : i < n) (hk : k < n) (h2 : a.getD (i * n + k) 0 ≤ 2) : ∃ l,l < n ∧ a.getD (i * n + l) 0 ≤ 2 ∧ a.getD (l * n + l) 0 ≤ 2 ∧ a.getD (l * n + k) 0 ≤ 2:=by
 let P : Nat → Prop:=fun x => x < n ∧ a.getD (i * n + x) 0 ≤ 2 ∧ a.getD (x * n + k) 0 ≤ 2
 have dense : ∀ x y,x < n → y < n → a.getD (x * n + y) 0 ≤ 2 → ∃ z,z < n ∧ a.getD (x * n + z) 0 ≤ 2 ∧ a.getD (z * n + y) 0 ≤ 2:=by
  intro x y hx hy hxy
  rcases (idem_le h x y hx hy 2).mp hxy with e|e
  ·omega
  ·exact e
 have start : ∃ x,P x:=dense i k hi hk h2
 have next : ∀ x,P x → ∃ y,P y ∧ a.getD (x * n + y) 0 ≤ 2:=by
  rintro x ⟨hx,h3,h4⟩
  obtain ⟨z,hz,h5,h6⟩:=dense x k hx hk h4
  exact ⟨z,⟨hz,trans_le h i x z hi hx hz 2 h3 h5,h6⟩,h5⟩
 let sq : Nat → {x // P x}:=fun m => Nat.rec (motive:=fun _ => {x // P x}) ⟨Classical.choose start,Classical.choose_spec start⟩ (fun _ x => ⟨Classical.choose (next x.1 x.2),(Classical.choose_spec (next x.1 x.2)).1⟩) m
 have one : ∀ m,a.getD ((sq m).1 * n + (sq (m + 1)).1) 0 ≤ 2:=fun m => (Classical.choose_spec (next (sq m).1 (sq m).2)).2
 have far : ∀ d m,a.getD ((sq m).1 * n + (sq (m + (d + 1))).1) 0 ≤ 2:=by
  intro d
  induction d with
  | zero => exact one
  | succ d ih => intro m;exact trans_le h _ _ _ (sq m).2.1 (sq (m + (d + 1))).2.1 (sq (m + (d + 1 + 1))).2.1 2 (ih m) (one (m + (d + 1)))
 obtain ⟨x,y,hxy,_,he⟩:=pigeon n (fun m => (sq m).1) (fun m _ => (sq m).2.1)
 obtain ⟨d,rfl⟩ : ∃ d,y = x + (d + 1):=⟨y - x - 1,by omega⟩
 have f:=far d x
 have he' : (sq x).1 = (sq (x + (d + 1))).1:=he
 rw [← he'] at f
 exact ⟨(sq x).1,(sq x).2.1,(sq x).2.2.1,f,(sq x).2.2.2⟩
theorem st_never (h : mulL n a a = a) (hg : Gr a) (i k : Nat) (hi : i < n) (hk : k < n) (h3 : stE n a i k = 3) : a.getD (i * n + k) 0 = 3:=by
 have b:=(gr_getD hg (i * n + k)).2
 by_cases e : a.getD (i * n + k) 0 ≤ 2
 ·obtain ⟨l,hl,h4,h5,h6⟩:=loop_at h i k hi hk e
  have : stE n a i k ≤ 2:=by rw [stE_le];exact Or.inr ⟨l,hl,h4,ag_le2 _ h5,h6⟩
  omega
 ·omega
end
theorem stE_in (n : Nat) (a : List Int) (ha : Gr a) (i k : Nat) : 0 ≤ stE n a i k ∧ stE n a i k ≤ 3:=by
 constructor
 ·have h:=stE_le n a i k (-1)
  have : ¬ stE n a i k ≤ -1:=by
   rw [h]
   rintro (h | ⟨l,_,h1,_⟩)
   ·omega
   ·have:=(gr_getD ha (i * n + l)).1;omega
  omega
 ·rw [stE_le];exact Or.inl (Int.le_refl _)
theorem GV_st (n : Nat) (a : List Int) (h : GV n a) : GV n (stL n a):=by
 rw [GV_iff] at h ⊢
 refine ⟨h.1,h.2.1,stL_length n a,?_⟩
 intro x hx
 obtain ⟨j,hj,rfl⟩:=mem_tab.mp hx
 exact stE_in n a h.2.2.2 _ _
theorem gr_GV (n : Nat) (l : List Int) (h : MV (n : Int) l) : GV (n : Int) (l.map gr):=by
 have hg : ∀ x,0 ≤ gr x ∧ gr x ≤ 3:=by
  intro x
  unfold gr
  by_cases a : x = 0
  ·rw [if_pos a];omega
  ·by_cases b : x = 1000000
   ·rw [if_neg a,if_pos b];omega
   ·rw [if_neg a,if_neg b];omega
 refine ⟨⟨h.1,h.2.1,by rw [List.length_map];exact h.2.2.1,?_⟩,?_⟩
 ·intro x hx;obtain ⟨y,_,rfl⟩:=List.mem_map.mp hx;have:=hg y;omega
 ·intro x hx;obtain ⟨y,_,rfl⟩:=List.mem_map.mp hx;exact (hg y).2
def lgr (n : Nat) (t : List S92) (c : UInt8) : List Int:=(letL n t c).map gr
def resV (n : Nat) : Option (List Int) → Int × List Int × Bool
 | some b => ((n : Int),b,true)
 | none => (0,[],false)
theorem B_toL (l : List UInt8) : (⟨l.toArray⟩ : ByteArray).toList = l:=by rw [toList_L,L_mk]
theorem iLetG (n : Nat) (s f : List Int) (t : List S92) (hv : AV n s f t = true) (hs : s.length ≤ 1000000000) (hf : f.length ≤ 1000000000) (hl : t.length ≤ 1000000000) (c : UInt8) (hc : c = 97 ∨ c = 98) (r : Int × List Int × Bool) (g : Nat → Int × List Int × Bool → Option (Int × List Int × Bool)) (hg : Ev (fun k => g k ((n : Int),lgr n t c,true)) r) :
  Ev (fun k => (impl_StepMatrix.f k n s f t ⟨#[c]⟩).bind fun m => (impl_GradesOf.f k m.1 m.2.1).bind fun v => g k v) r:=by
 obtain ⟨h1,h2,h3,h4,h5⟩:=AV_parts hv
 have e : (⟨#[c]⟩ : ByteArray).toList = [c]:=B_toL [c]
 have a:=iLetter n s f ⟨#[c]⟩ t hv hs hf hl (by rw [e];rcases hc with rfl|rfl <;> simp)
 rw [e] at a
 have hm:=letL_MV n (by omega) (by omega) t (stp_mem h5) c
 refine Ev.bind a (Ev.bind (iGrades n (letL n t c) (MV_max hm)) ?_)
 have e2 : gradesR (n : Int) (letL n t c) = ((n : Int),lgr n t c,true):=by unfold gradesR;rw [if_pos hm];rfl
 rw [e2];exact hg
theorem sLetG (n : Nat) (s f : List Int) (t : List S92) (hv : AV n s f t = true) (hl : t.length ≤ 1000000000) (c : UInt8) (r : Int × List Int × Bool) (g : Nat → Int × List Int → Option (Int × List Int × Bool)) (hg : Ev (fun k => g k ((n : Int),lgr n t c)) r) :
  Ev (fun k => (spec_l3Matrix.f k n s f t ⟨#[c]⟩).bind fun m => (spec_l6Grades.f k m.1 m.2).bind fun v => g k v) r:=by
 obtain ⟨h1,h2,h3,h4,h5⟩:=AV_parts hv
 have e : (⟨#[c]⟩ : ByteArray).toList = [c]:=B_toL [c]
 have a:=sLetter n (by omega) (by omega) s f ⟨#[c]⟩ t (stp_mem h5) hl
 rw [e] at a
 have hm:=letL_MV n (by omega) (by omega) t (stp_mem h5) c
 have hz:=MV_len hm
 have hq:=sq_le n (by omega)
 exact Ev.bind a (Ev.bind (sGradesL n (letL n t c) (by omega)) hg)
structure Val (n : Nat) (s f : List Int) (t : List S92) (e : List UInt8) (ps : List S136) (v : List Int → Option (List Int)) : Prop where
 gv : ∀ a,GV (n : Int) a → ∀ b,v a = some b → GV (n : Int) b
 sp : ∀ a,GV (n : Int) a → Ev (fun k => spec_l7Value.l0 k ⟨e.toArray⟩ n s f t n a) (resV n (v a))
 im : ∀ (pre : List S136),pre ≠ [] → pre.length + ps.length ≤ 1000000 → ∀ a,GV (n : Int) a → Ev (fun k => impl_value.l0 k (pre ++ ps) ((pre ++ ps).length : Int) (pre.length : Int) n s f t n a) (resV n (v a))
 first : ps ≠ [] → ps.length ≤ 1000000 → Ev (fun k => impl_value.l0 k ps (ps.length : Int) 0 n s f t 0 []) (resV n (v (sqL n oneE)))
theorem value_reads (n : Nat) (s f : List Int) (t : List S92) (hv : AV n s f t = true) (hs : s.length ≤ 1000000000) (hf : f.length ≤ 1000000000) (hl : t.length ≤ 1000000000) (N : Nat) : ∀ (e : List UInt8) (ps : List S136),e.length ≤ N → N ≤ 1000 → Reads e ps [] → ∃ v,Val n s f t e ps v:=by
 obtain ⟨h1,h2,h3,h4,h5⟩:=AV_parts hv
 have hn1 : 1 ≤ n:=by omega
 have hn4 : n ≤ 4:=by omega
 have hone:=one_GV n hn1 hn4
 have nil : ∃ v,Val n s f t [] [] v:=by
  refine ⟨some,fun a h b e => by obtain rfl:=Option.some.inj e;exact h,fun a _ => ?_,fun pre _ _ a _ => ?_,fun h => absurd rfl h⟩
  ·refine Ev.step (f:=fun _ => some ((n : Int),a,true)) (fun k => ?_) (Ev.now _)
   simp only [spec_l7Value.l0];rw [if_pos (B_toL [])]
  ·refine Ev.step (f:=fun _ => some ((n : Int),a,true)) (fun k => ?_) (Ev.now _)
   simp only [impl_value.l0];rw [if_neg (by simp)]
 induction N with
 | zero =>
  intro e ps hn hm h
  have he : e = []:=List.length_eq_zero_iff.mp (by omega)
  subst he
  cases h
  exact nil
 | succ N ih =>
  intro e ps hn hm h
  have join : ∀ (a w : List Int),GV (n : Int) a → GV (n : Int) w → GV (n : Int) (mulL n a w):=fun a w ha hw => GV_mul n a w ha hw
  cases h with
  | done => exact nil
  | letter c e ps _ hc h =>
   simp only [List.length_cons] at hn
   obtain ⟨v,V⟩:=ih e ps (by omega) (by omega) h
   have hw : GV (n : Int) (lgr n t c):=gr_GV n _ (letL_MV n hn1 hn4 t (stp_mem h5) c)
   have hne : ¬ (⟨#[c]⟩ : ByteArray).toList = ([] : List UInt8):=by rw [B_toL [c]];simp
   have hlp:=h.parts
   simp only [List.length_nil] at hlp
   refine ⟨fun a => v (mulL n a (lgr n t c)),fun a ha b hb => V.gv _ (join a _ ha hw) b hb,fun a ha => ?_,fun pre hp hlen a ha => ?_,fun _ hlen => ?_⟩
   ·refine Ev.step (f:=?f1) (fun k => ?h1) ?k1
    case h1 => simp only [spec_l7Value.l0];rw [if_neg (by rw [B_toL];simp)] <;> exact rfl
    refine Ev.bind (next_letter ⟨(c :: e).toArray⟩ c e (L_mk _) hc) ?_
    refine Ev_f (by simp) ?_
    exact sLetG n s f t hv hl c _ _ (Ev.bind (sMul n hn4 hn1 a _ (GV_len ha) (GV_len hw)) (V.sp _ (join a _ ha hw)))
   ·have hi:=V.im (pre ++ [⟨⟨#[c]⟩,[]⟩]) (by simp) (by simp only [List.length_append,List.length_cons,List.length_nil] at hlen ⊢;omega) (mulL n a (lgr n t c)) (join a _ ha hw)
    rw [List.append_assoc,List.singleton_append,snocA] at hi
    simp only [List.length_cons] at hlen
    have hpl : 0 < pre.length:=List.length_pos_iff.mpr hp
    have hd : ((pre ++ (⟨⟨#[c]⟩,[]⟩ : S136) :: ps).length : Int) = pre.length + (ps.length + 1):=by rw [List.length_append,List.length_cons];push_cast;rfl
    refine Ev.step (f:=?f2) (fun k => ?h2) ?k2
    case h2 => simp only [impl_value.l0];rw [if_pos (by omega),if_pos (by omega),if_pos (by omega),rd_at,if_neg hne] <;> exact rfl
    refine iLetG n s f t hv hs hf hl c hc _ _ ?_
    refine Ev.step (f:=?f3) (fun k => ?h3) ?k3
    case h3 => simp only [impl_value.j1];rw [if_pos trivial,if_pos (by omega)] <;> exact rfl
    refine Ev.bind (iMul n a _ ha hw) ?_
    refine Ev.congr (fun k => ?_) hi
    rw [w64 (x:=(pre.length : Int) + 1) (by omega) (by omega)]
   ·have hi:=V.im [⟨⟨#[c]⟩,[]⟩] (by simp) (by simp only [List.length_cons,List.length_nil] at hlen ⊢;omega) (lgr n t c) hw
    simp only [List.length_cons] at hlen
    have hd : (((⟨⟨#[c]⟩,[]⟩ : S136) :: ps).length : Int) = ps.length + 1:=by rw [List.length_cons];push_cast;rfl
    have hr : rd_T136 ((⟨⟨#[c]⟩,[]⟩ : S136) :: ps) 0 = ⟨⟨#[c]⟩,[]⟩:=rd_at [] _ ps
    show Ev _ (resV n (v (mulL n (sqL n oneE) (lgr n t c))))
    rw [one_mul' n _ hw]
    refine Ev.step (f:=?f4) (fun k => ?h4) ?k4
    case h4 => simp only [impl_value.l0];rw [if_pos (by omega),if_pos (by omega),if_pos (by omega),hr,if_neg hne] <;> exact rfl
    refine iLetG n s f t hv hs hf hl c hc _ _ ?_
    refine Ev.step (f:=?f5) (fun k => ?h5) ?k5
    case h5 => simp only [impl_value.j1];rw [if_pos trivial,if_neg (by omega)] <;> exact rfl
    exact Ev.congr (fun k => by rw [show wrap64 ((0 : Int) + 1) = 1 from w64 (by omega) (by omega)];rfl) hi
  | again e w e2 ps _ h hw0 h' =>
   simp only [List.length_cons] at hn
   obtain ⟨t1,ht1⟩ : ∃ t1,e = t1 ++ 41 :: 35 :: e2:=h.suffix
   have hin:=reads_inner h ht1
   have hel : e.length = t1.length + (e2.length + 2):=by rw [ht1];simp
   obtain ⟨v1,V1⟩:=ih t1 w (by omega) (by omega) hin
   obtain ⟨v,V⟩:=ih e2 ps (by omega) (by omega) h'
   have hlp:=h'.parts
   have hlw:=hin.parts
   simp only [List.length_nil] at hlp hlw
   have hnil : (⟨#[]⟩ : ByteArray).toList = ([] : List UInt8):=B_toL []
   have hnx : Ev (fun k => spec_l7Next.f k ⟨(40 :: e).toArray⟩) (⟨t1.toArray⟩,true,⟨e2.toArray⟩):=next_again ⟨(40 :: e).toArray⟩ e t1 e2 w (L_mk _) ht1 h hw0 (by rw [L_size,L_mk];simp only [List.length_cons];omega)
   have sIn : Ev (fun k => spec_l7Value.f k n s f t ⟨t1.toArray⟩) (resV n (v1 (sqL n oneE))):=by
    refine Ev.step (f:=?f6) (fun k => ?h6) ?k6
    case h6 => simp only [spec_l7Value.f] <;> exact rfl
    refine Ev.bind (sUnit n hn1 hn4) (Ev.bind (sGradesL n _ ?_) ?_)
    ·have h1_:=MV_len (unit_MV n hn1 hn4)
     have h2_:=sq_le n hn4
     show (sqL n unitE).length ≤ 1048576
     omega
    ·rw [unit_gr];exact V1.sp _ hone
   have iIn : Ev (fun k => impl_value.f k n s f t w) (resV n (v1 (sqL n oneE))):=Ev.step (fun k => by simp only [impl_value.f]) (V1.first hw0 (by omega))
   let inner : Option (List Int):=(v1 (sqL n oneE)).bind fun M => if Idem n M then some (stL n M) else none
   have innerGV : ∀ M,inner = some M → GV (n : Int) M:=by
    intro M hM
    show GV (n : Int) M
    cases h1v : v1 (sqL n oneE) with
    | none =>
     have : inner = none:=by show (v1 (sqL n oneE)).bind _ = none;rw [h1v];rfl
     rw [this] at hM;cases hM
    | some b =>
     have hb:=V1.gv _ hone b h1v
     by_cases hi : Idem (n : Int) b
     ·have : inner = some (stL n b):=by show (v1 (sqL n oneE)).bind _ = _;rw [h1v];show (if Idem n b then some (stL n b) else none) = _;rw [if_pos hi]
      rw [this] at hM;obtain rfl:=Option.some.inj hM
      exact GV_st n b hb
     ·have : inner = none:=by show (v1 (sqL n oneE)).bind _ = none;rw [h1v];show (if Idem n b then some (stL n b) else none) = _;rw [if_neg hi]
      rw [this] at hM;cases hM
   have sPart : ∀ (a : List Int) (r : Int × List Int × Bool),GV (n : Int) a → (inner = none → r = (0,[],false)) → (∀ M,inner = some M → Ev (fun k => spec_l7Value.l0 k ⟨e2.toArray⟩ n s f t n (mulL n a M)) r) →
     Ev (fun k => spec_l7Value.l0 k ⟨(40 :: e).toArray⟩ n s f t n a) r:=by
    intro a r ha hno hyes
    refine Ev.step (f:=?f7) (fun k => ?h7) ?k7
    case h7 => simp only [spec_l7Value.l0];rw [if_neg (by rw [B_toL];simp)] <;> exact rfl
    refine Ev.bind hnx (Ev_t rfl (Ev.bind sIn ?_))
    cases h1v : v1 (sqL n oneE) with
    | none =>
     have : inner = none:=by show (v1 (sqL n oneE)).bind _ = none;rw [h1v];rfl
     refine Ev_f (by show ¬ (false = true);simp) ?_
     refine Ev.step (f:=fun _ => some (0,[],false)) (fun k => ?_) ((Ev.now _).is (hno this).symm)
     simp only [spec_l7Value.j1];rw [if_pos trivial]
    | some b =>
     have hb:=V1.gv _ hone b h1v
     refine Ev_t rfl (Ev.bind (sIdemG n b hb) ?_)
     by_cases hi : Idem (n : Int) b
     ·have : inner = some (stL n b):=by show (v1 (sqL n oneE)).bind _ = _;rw [h1v];show (if Idem n b then some (stL n b) else none) = _;rw [if_pos hi]
      refine Ev.step (f:=?f8) (fun k => ?h8) ?k8
      case h8 => simp only [spec_l7Value.j1];rw [decide_eq_true hi,if_neg (by simp)] <;> exact rfl
      refine Ev.bind (sStab1 n hn4 hn1 b (GV_len hb)) (Ev.bind (sMul n hn4 hn1 a _ (GV_len ha) (stL_length n b)) ?_)
      exact hyes _ this
     ·have : inner = none:=by show (v1 (sqL n oneE)).bind _ = none;rw [h1v];show (if Idem n b then some (stL n b) else none) = _;rw [if_neg hi]
      refine Ev.step (f:=fun _ => some (0,[],false)) (fun k => ?_) ((Ev.now _).is (hno this).symm)
      simp only [spec_l7Value.j1];rw [decide_eq_false hi,if_pos (by rfl)]
   have iPart : ∀ (r : Int × List Int × Bool) (g : Nat → Int × List Int × Bool → Option (Int × List Int × Bool)),(inner = none → ∀ b,b.2.2 = false → Ev (fun k => g k b) r) → (∀ M,inner = some M → Ev (fun k => g k ((n : Int),M,true)) r) →
     Ev (fun k => (impl_value.f k n s f t w).bind fun b => if b.2.2 = true then ((impl_Stabilise.f k b.1 b.2.1).bind fun q => g k q) else g k b) r:=by
    intro r g hno hyes
    refine Ev.bind iIn ?_
    cases h1v : v1 (sqL n oneE) with
    | none =>
     have : inner = none:=by show (v1 (sqL n oneE)).bind _ = none;rw [h1v];rfl
     exact Ev_f (by show ¬ (false = true);simp) (hno this _ rfl)
    | some b =>
     have hb:=V1.gv _ hone b h1v
     refine Ev_t rfl (Ev.bind (iStab n b (big16 hb)) ?_)
     by_cases hi : Idem (n : Int) b
     ·have : inner = some (stL n b):=by show (v1 (sqL n oneE)).bind _ = _;rw [h1v];show (if Idem n b then some (stL n b) else none) = _;rw [if_pos hi]
      have e1 : stabR (n : Int) b = ((n : Int),stL n b,true):=by unfold stabR;rw [if_pos hi];rfl
      rw [e1];exact hyes _ this
     ·have : inner = none:=by show (v1 (sqL n oneE)).bind _ = none;rw [h1v];show (if Idem n b then some (stL n b) else none) = _;rw [if_neg hi]
      have e1 : stabR (n : Int) b = (0,[],false):=by unfold stabR;rw [if_neg hi]
      rw [e1];exact hno this _ rfl
   refine ⟨fun a => inner.bind fun M => v (mulL n a M),fun a ha b hb => ?_,fun a ha => ?_,fun pre hp hlen a ha => ?_,fun _ hlen => ?_⟩
   ·cases hI : inner with
    | none => rw [hI] at hb;cases hb
    | some M => rw [hI] at hb;exact V.gv _ (join a M ha (innerGV M hI)) b hb
   ·refine sPart a _ ha (fun hI => by rw [hI];rfl) (fun M hI => ?_)
    rw [hI];exact V.sp _ (join a M ha (innerGV M hI))
   ·simp only [List.length_cons] at hlen
    have hpl : 0 < pre.length:=List.length_pos_iff.mpr hp
    have hd : ((pre ++ (⟨⟨#[]⟩,w⟩ : S136) :: ps).length : Int) = pre.length + (ps.length + 1):=by rw [List.length_append,List.length_cons];push_cast;rfl
    refine Ev.step (f:=?f9) (fun k => ?h9) ?k9
    case h9 => simp only [impl_value.l0];rw [if_pos (by omega),if_pos (by omega),if_pos (by omega),rd_at,if_pos hnil] <;> exact rfl
    refine iPart _ (fun k b => impl_value.j1 k pre.length b.2.2 (pre ++ (⟨⟨#[]⟩,w⟩ : S136) :: ps) ((pre ++ (⟨⟨#[]⟩,w⟩ : S136) :: ps).length : Int) pre.length n s f t n a b.1 b.2.1) (fun hI b hb => ?_) (fun M hI => ?_)
    ·rw [hI]
     refine Ev.step (f:=fun _ => some (0,[],false)) (fun k => ?_) (Ev.now _)
     rw [hb];simp only [impl_value.j1];rw [if_neg (by simp)]
    ·have hi:=V.im (pre ++ [⟨⟨#[]⟩,w⟩]) (by simp) (by simp only [List.length_append,List.length_cons,List.length_nil];omega) (mulL n a M) (join a M ha (innerGV M hI))
     rw [List.append_assoc,List.singleton_append,snocA] at hi
     rw [hI]
     refine Ev.step (f:=?f10) (fun k => ?h10) ?k10
     case h10 => simp only [impl_value.j1];rw [if_pos trivial,if_pos (by omega)] <;> exact rfl
     refine Ev.bind (iMul n a M ha (innerGV M hI)) ?_
     refine Ev.congr (fun k => ?_) hi
     rw [w64 (x:=(pre.length : Int) + 1) (by omega) (by omega)]
   ·simp only [List.length_cons] at hlen
    have hd : (((⟨⟨#[]⟩,w⟩ : S136) :: ps).length : Int) = ps.length + 1:=by rw [List.length_cons];push_cast;rfl
    have hr : rd_T136 ((⟨⟨#[]⟩,w⟩ : S136) :: ps) 0 = ⟨⟨#[]⟩,w⟩:=rd_at [] _ ps
    refine Ev.step (f:=?f11) (fun k => ?h11) ?k11
    case h11 => simp only [impl_value.l0];rw [if_pos (by omega),if_pos (by omega),if_pos (by omega),hr,if_pos hnil] <;> exact rfl
    refine iPart _ (fun k b => impl_value.j1 k 0 b.2.2 ((⟨⟨#[]⟩,w⟩ : S136) :: ps) (((⟨⟨#[]⟩,w⟩ : S136) :: ps).length : Int) 0 n s f t 0 [] b.1 b.2.1) (fun hI b hb => ?_) (fun M hI => ?_)
    ·rw [hI]
     refine Ev.step (f:=fun _ => some (0,[],false)) (fun k => ?_) (Ev.now _)
     rw [hb];simp only [impl_value.j1];rw [if_neg (by simp)]
    ·have hi:=V.im [⟨⟨#[]⟩,w⟩] (by simp) (by simp only [List.length_cons,List.length_nil];omega) M (innerGV M hI)
     rw [hI]
     show Ev _ (resV n (v (mulL n (sqL n oneE) M)))
     rw [one_mul' n M (innerGV M hI)]
     refine Ev.step (f:=?f12) (fun k => ?h12) ?k12
     case h12 => simp only [impl_value.j1];rw [if_pos trivial,if_neg (by omega)] <;> exact rfl
     exact Ev.congr (fun k => by rw [show wrap64 ((0 : Int) + 1) = 1 from w64 (by omega) (by omega)];rfl) hi
theorem value_both (n : Int) (s f : List Int) (t : List S92) (x : ByteArray) (hs : s.length ≤ 1000000000) (hf : f.length ≤ 1000000000) (hl : t.length ≤ 1000000000) : ∃ r : Int × List Int × Bool,r.2.1.length ≤ 16 ∧ (r.2.2 = true → AV n s f t = true ∧ r.1 = n ∧ GV n r.2.1) ∧
  Ev (fun k => spec_ValueOf.f k n s f t x) r ∧ Ev (fun k => impl_ValueOf.f k n s f t x) r:=by
 have no : Ev (fun k => spec_ValueOf.f k n s f t x) (0,[],false) → Ev (fun k => impl_ValueOf.f k n s f t x) (0,[],false) → ∃ r : Int × List Int × Bool,r.2.1.length ≤ 16 ∧ (r.2.2 = true → AV n s f t = true ∧ r.1 = n ∧ GV n r.2.1) ∧ Ev (fun k => spec_ValueOf.f k n s f t x) r ∧ Ev (fun k => impl_ValueOf.f k n s f t x) r:=fun a b => ⟨(0,[],false),by simp,fun h => (by cases h),a,b⟩
 obtain ⟨ps,ok,hp,hvld,hrd⟩ : ∃ (ps : List S136) (ok : Bool),Ev (fun k => impl_parts.f k x) (ps,ok) ∧ Ev (fun k => spec_ExpressionValid.f k x) ok ∧ (ok = true → x.size ≤ 120 ∧ ps ≠ [] ∧ Reads (L x) ps []):=by
  by_cases hz : x.size ≤ 120
  ·obtain ⟨ps,r,h,hp⟩:=parts_eval x hz
   refine ⟨ps,_,hp,valid_eval x hz h,fun ho => ?_⟩
   have:=of_decide_eq_true ho
   obtain ⟨h1,rfl⟩:=this
   exact ⟨hz,h1,h⟩
  ·exact ⟨[],false,parts_long x (by omega),valid_long x (by omega),fun h => by cases h⟩
 by_cases g1 : AV n s f t = true
 case neg =>
  refine no ?_ ?_
  ·unfold spec_ValueOf.f;exact Ev.bind (sAV n s f t hs hf hl) (Ev_f g1 (Ev.now _))
  ·unfold impl_ValueOf.f
   refine Ev.bind hp ?_
   cases ok with
   | true => exact Ev_t rfl (Ev.bind (iAV n s f t hs hf hl) (Ev_f g1 (Ev.now _)))
   | false => exact Ev_f (by simp) (Ev.now _)
 cases ok with
 | false =>
  refine no ?_ ?_
  ·unfold spec_ValueOf.f;exact Ev.bind (sAV n s f t hs hf hl) (Ev_t g1 (Ev.bind hvld (Ev_f (by simp) (Ev.now _))))
  ·unfold impl_ValueOf.f;exact Ev.bind hp (Ev_f (by simp) (Ev.now _))
 | true =>
  obtain ⟨hz,hne,hR⟩:=hrd rfl
  obtain ⟨h1,h2,h3,h4,h5⟩:=AV_parts g1
  obtain ⟨m,rfl⟩ : ∃ m : Nat,n = (m : Int):=⟨n.toNat,by omega⟩
  have hone:=one_GV m (by omega) (by omega)
  have hxl : (L x).length ≤ 120:=by rw [← L_size];exact hz
  obtain ⟨v,V⟩:=value_reads m s f t g1 hs hf hl 1000 (L x) ps (by omega) (Nat.le_refl _) hR
  have hx : (⟨(L x).toArray⟩ : ByteArray) = x:=L_inj (L_mk _)
  have hlp:=hR.parts
  simp only [List.length_nil] at hlp
  refine ⟨resV m (v (sqL m oneE)),?_,?_,?_,?_⟩
  ·cases hq : v (sqL m oneE) with
   | none => simp [resV]
   | some b => exact len_of_GV (V.gv _ hone b hq)
  ·cases hq : v (sqL m oneE) with
   | none => intro h;cases h
   | some b => intro _;exact ⟨g1,rfl,V.gv _ hone b hq⟩
  ·unfold spec_ValueOf.f
   refine Ev.bind (sAV m s f t hs hf hl) (Ev_t g1 (Ev.bind hvld (Ev_t rfl ?_)))
   refine Ev.bind (a:=resV m (v (sqL m oneE))) ?_ (Ev.now _)
   refine Ev.step (f:=?f13) (fun k => ?h13) ?k13
   case h13 => simp only [spec_l7Value.f] <;> exact rfl
   refine Ev.bind (sUnit m (by omega) (by omega)) (Ev.bind (sGradesL m _ ?_) ?_)
   ·have h1_:=MV_len (unit_MV m (by omega) (by omega))
    have h2_:=sq_le m (by omega)
    show (sqL m unitE).length ≤ 1048576
    omega
   ·rw [unit_gr,← hx];exact V.sp _ hone
  ·unfold impl_ValueOf.f
   refine Ev.bind hp (Ev_t rfl (Ev.bind (iAV m s f t hs hf hl) (Ev_t g1 ?_)))
   refine Ev.bind (a:=resV m (v (sqL m oneE))) ?_ (Ev.now _)
   exact Ev.step (fun k => by simp only [impl_value.f]) (V.first hne (by omega))
end Go.Proofs.Ytfmbpoojpnoafaa.Y
end
