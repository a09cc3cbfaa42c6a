import Derived.Test.YtfjfdlgcneclfaaDoorQFnExactParseGrades5
import Derived.Lib.Bytealg
import Derived.Lib.Repeat
import Derived.Test.YtfjfdlgcneclfaaDoorQFnExactParseGrades4
import Derived.Test.YtfjfdlgcneclfaaDoorQFnExactParseGrades3
section
set_option linter.unusedVariables false
set_option linter.unusedSimpArgs false
namespace Go.Proofs.YtfjfdlgcneclfaaDoor.V
open Go Go.Proofs.YtfjfdlgcneclfaaDoor.R Go.RowKit
open Go.Proofs.YtfjfdlgcneclfaaDoorW.PrintWords hiding mn mx
def L (s : ByteArray) : List UInt8:=s.data.toList
theorem L_size (s : ByteArray) : s.size = (L s).length:=by simp [L]
theorem L_mk (l : List UInt8) : L ⟨l.toArray⟩ = l:=by simp [L]
theorem L_inj {s t : ByteArray} (h : L s = L t) : s = t:=by
 cases s;cases t;simp [L] at h;subst h;rfl
theorem toList_L (s : ByteArray) : s.toList = L s:=ByteArray.toList_eq s
theorem L_extract (s : ByteArray) (a b : Nat) : L (s.extract a b) = ((L s).take b).drop a:=by
 simp [L,ByteArray.data_extract,Array.toList_extract,List.extract,List.drop_take]
theorem L_append (s t : ByteArray) : L (s ++ t) = L s ++ L t:=by simp [L,ByteArray.data_append]
theorem L_nil {s : ByteArray} : s.toList = ([] : List UInt8) ↔ L s = []:=by rw [toList_L]
theorem bt_L (s : ByteArray) (i : Int) : btI s i = (((L s).getD i.toNat 0).toNat : Int):=by
 unfold btI L
 split
 ·next h =>
  have h' : i.toNat < s.data.toList.length:=by simpa using h
  rw [List.getD_eq_getElem?_getD,List.getElem?_eq_getElem h']
  simp;rfl
 ·next h =>
  have h' : s.data.toList.length ≤ i.toNat:=by simpa using h
  rw [List.getD_eq_getElem?_getD,List.getElem?_eq_none h'];rfl
theorem w64 {x : Int} (h0 : -9223372036854775808 ≤ x) (h1 : x ≤ 9223372036854775807) : wrap64 x = x:=by unfold wrap64;omega
theorem _root_.Go.Proofs.YtfjfdlgcneclfaaDoorW.PrintWords.Ev.is {α : Type} {g : Nat → Option α} {r r' : α} (h : Ev g r) (e : r = r') : Ev g r':=e ▸ h
theorem bt_suffix {s : ByteArray} {u : List UInt8} {c : UInt8} {e : List UInt8} (h : L s = u ++ c :: e) : btI s u.length = (c.toNat : Int):=by
 rw [bt_L,h];simp [List.getD_eq_getElem?_getD]
theorem size_suffix {s : ByteArray} {u e : List UInt8} (h : L s = u ++ e) : s.size = u.length + e.length:=by rw [L_size,h];simp
theorem u8_ne {c d : UInt8} (h : c ≠ d) : ¬ ((c.toNat : Int) = (d.toNat : Int)):=by
 intro e;exact h (UInt8.toNat.inj (by exact_mod_cast e))
def B (l : List UInt8) : ByteArray:=⟨l.toArray⟩
theorem B_add (a b : List UInt8) : B a ++ B b = B (a ++ b):=L_inj (by rw [L_append];unfold B;rw [L_mk,L_mk,L_mk])
theorem B_size (a : List UInt8) : (B a).size = a.length:=by rw [L_size];unfold B;rw [L_mk]
theorem B_toList (a : List UInt8) : (B a).data.toList = a:=by unfold B;simp
theorem B_L (x : ByteArray) : B (L x) = x:=L_inj (by unfold B;rw [L_mk])
theorem rd_mid (pre : List Int) (x : Int) (t : List Int) : rdI (pre ++ x :: t) (pre.length : Int) = x:=by simp [rdI,List.getD_eq_getElem?_getD]
theorem rd_nat (l : List Int) (i : Nat) : rdI l (i : Int) = l.getD i 0:=by simp [rdI]
theorem snoc_len (pre : List Int) (x : Int) : (((pre ++ [x]).length : Nat) : Int) = (pre.length : Int) + 1:=by simp
theorem wf_in {n : Int} (h : (Lit.int .i64 n).wf = true) : -9223372036854775808 ≤ n ∧ n ≤ 9223372036854775807:=by
 have hmin : IntKind.i64.min = -9223372036854775808:=rfl
 have hmax : IntKind.i64.max = 9223372036854775807:=rfl
 simp only [Lit.wf,Bool.and_eq_true,decide_eq_true_eq] at h
 omega
theorem maxLen_eq : maxLen = 9223372036854775807:=rfl
theorem ev_all {α : Type} {f : Nat → Nat → Option α} {g : Nat → α} (n : Nat) (h : ∀ i,i < n → Ev (f i) (g i)) : ∃ K0,∀ K,K0 ≤ K → ∀ i,i < n → f i K = some (g i):=by
 induction n with
 | zero => exact ⟨0,fun _ _ i hi => by omega⟩
 | succ n ih =>
  obtain ⟨K0,h0⟩:=ih (fun i hi => h i (by omega))
  obtain ⟨K1,h1⟩:=h n (by omega)
  refine ⟨max K0 K1,fun K hK i hi => ?_⟩
  by_cases e : i = n
  ·subst e;exact h1 K (by omega)
  ·exact h0 K (by omega) i (by omega)
theorem ev_up {α : Type} {f : Nat → Option α} {p : Nat → Nat → Option α} {r : α} (h : Ev f r) (hp : ∃ K0,∀ K,K0 ≤ K → ∀ j,LeO (f j) (p K (j + 1))) (hm : ∀ K j,LeO (p K j) (p K (j + 1))) : Ev (fun K => p K K) r:=by
 obtain ⟨K1,h1⟩:=h
 obtain ⟨K0,h0⟩:=hp
 refine ⟨max K0 (K1 + 1),fun K hK => ?_⟩
 have a:=h0 K (by omega) K1 r (h1 K1 (Nat.le_refl _))
 exact at_rounds (g:=p K) (hm K) (show K1 + 1 ≤ K by omega) a
theorem ev_some {α : Type} {f : Nat → Option α} {r : α} (h : ∀ k,f k = some r) : Ev f r:=⟨0,fun k _ => h k⟩
theorem up_loop {β : Type} (n : Nat) (L : Nat → Nat → Option β) (r : β) (step : ∀ i,i < n → Ev (L (i + 1)) r → Ev (L i) r) (h : Ev (L n) r) : Ev (L 0) r:=by
 have go : ∀ d,d ≤ n → Ev (L (n - d)) r:=by
  intro d
  induction d with
  | zero => intro _;exact h
  | succ d ih =>
   intro hd
   have e : n - (d + 1) + 1 = n - d:=by omega
   exact step (n - (d + 1)) (by omega) (by rw [e];exact ih (by omega))
 have:=go n (Nat.le_refl _)
 rwa [Nat.sub_self] at this
def tab (N : Nat) (F : Nat → Int) : List Int:=(List.range N).map F
theorem tab_length (N : Nat) (F : Nat → Int) : (tab N F).length = N:=by simp [tab]
theorem tab_snoc (N : Nat) (F : Nat → Int) : tab N F ++ [F N] = tab (N + 1) F:=by simp [tab,List.range_succ]
theorem tab_get (N : Nat) (F : Nat → Int) (j : Nat) (h : j < N) : (tab N F).getD j 0 = F j:=by
 simp [tab,List.getD_eq_getElem?_getD,List.getElem?_map,List.getElem?_range h]
theorem tab_congr (N : Nat) (F G : Nat → Int) (h : ∀ j,j < N → F j = G j) : tab N F = tab N G:=by
 unfold tab
 exact List.map_congr_left (fun j hj => h j (List.mem_range.mp hj))
theorem mem_tab {N : Nat} {F : Nat → Int} {x : Int} : x ∈ tab N F ↔ ∃ j,j < N ∧ F j = x:=by simp [tab]
theorem eq_tab (l : List Int) (N : Nat) (h : l.length = N) : l = tab N (fun j => l.getD j 0):=by
 apply List.ext_getElem
 ·simp [tab,h]
 ·intro i h1 h2
  simp [tab,List.getD_eq_getElem?_getD,List.getElem?_eq_getElem h1]
theorem fold_snoc {β : Type} (n : Nat) (f : β → Nat → β) (b : β) : (List.range (n + 1)).foldl f b = f ((List.range n).foldl f b) n:=by simp [List.range_succ]
theorem Ev_t {α : Type} {f g : Nat → Option α} {r : α} {c : Prop} [Decidable c] (h : c) (k : Ev f r) : Ev (fun n => if c then f n else g n) r:=Ev.congr (fun n => if_pos h) k
theorem Ev_f {α : Type} {f g : Nat → Option α} {r : α} {c : Prop} [Decidable c] (h : ¬ c) (k : Ev g r) : Ev (fun n => if c then f n else g n) r:=Ev.congr (fun n => if_neg h) k
def okCost (x : Int) : Bool:=decide (0 ≤ x ∧ x ≤ 1000000)
def MV (n : Int) (l : List Int) : Prop:=1 ≤ n ∧ n ≤ 4 ∧ (l.length : Int) = n * n ∧ ∀ x ∈ l,0 ≤ x ∧ x ≤ 1000000
def GV (n : Int) (l : List Int) : Prop:=MV n l ∧ ∀ x ∈ l,x ≤ 3
instance (n : Int) (l : List Int) : Decidable (MV n l):=by unfold MV;infer_instance
instance (n : Int) (l : List Int) : Decidable (GV n l):=by unfold GV;infer_instance
theorem icost (a : Int) : impl_CostValid.f a = some (okCost a):=by
 unfold impl_CostValid.f okCost
 by_cases h : a ≥ 0
 ·rw [if_pos h];by_cases h2 : a ≤ 1000000 <;> simp [h2] <;> omega
 ·rw [if_neg h];simp;omega
theorem scost (a : Int) : spec_CostValid.f a = some (okCost a):=by
 unfold spec_CostValid.f spec_l1In.f okCost
 by_cases h : a ≥ 0
 ·rw [if_pos h];by_cases h2 : a ≤ 1000000 <;> simp [h2] <;> omega
 ·rw [if_neg h];simp;omega
theorem sIn (a lo hi : Int) : spec_l1In.f a lo hi = some (decide (lo ≤ a ∧ a ≤ hi)):=by
 unfold spec_l1In.f
 by_cases h : a ≥ lo
 ·rw [if_pos h];by_cases h2 : a ≤ hi <;> simp [h2] <;> omega
 ·rw [if_neg h];simp;omega
theorem indexG {α : Type} (rdA : List α → Int → α) (hrd : ∀ (pre : List α) (x : α) (t : List α),rdA (pre ++ x :: t) (pre.length : Int) = x) (q : α → Bool) (p : Nat → α → Option Bool) (l : List α) (hp : ∀ x ∈ l,Ev (fun k => p k x) (q x)) (L0 : Nat → List α → Int → Int → Option Int)
  (hL : ∀ k x0 x7 x8,L0 (k + 1) x0 x7 x8 = if x8 < x7 then (if 0 ≤ x8 then (if x8 < (x0.length : Int) then ((p k (rdA x0 x8)).bind fun t1 => if t1 = true then some x8 else L0 k x0 x7 (wrap64 (x8 + 1))) else none) else none) else some (-1)) (h : l.length ≤ 9223372036854775807) :
  Ev (fun k => (L0 k l (l.length : Int) 0).bind fun t1 => some (decide (t1 ≥ 0))) (l.any q):=by
 have go : ∀ (t pre : List α),l = pre ++ t → ∃ z : Int,Ev (fun k => L0 k l (l.length : Int) (pre.length : Int)) z ∧ decide (z ≥ 0) = t.any q:=by
  intro t
  induction t with
  | nil =>
   intro pre hl
   refine ⟨-1,?_,rfl⟩
   refine Ev.step (f:=fun _ => some (-1)) (fun k => ?_) (Ev.now _)
   rw [hL,if_neg (by rw [hl];simp)]
  | cons x t ih =>
   intro pre hl
   have hlen : l.length = pre.length + (t.length + 1):=by rw [hl];simp
   have hx : rdA l (pre.length : Int) = x:=by rw [hl,hrd]
   have hpx:=hp x (by rw [hl];simp)
   have a0 : (pre.length : Int) < (l.length : Int):=by omega
   cases hq : q x with
   | true =>
    rw [hq] at hpx
    refine ⟨pre.length,?_,by simp [hq]⟩
    refine Ev.step (f:=fun k => (p k x).bind fun t1 => if t1 = true then some (pre.length : Int) else L0 k l (l.length : Int) (wrap64 ((pre.length : Int) + 1))) (fun k => ?_) (Ev.bind hpx (Ev.congr (f:=fun _ => some (pre.length : Int)) (fun k => if_pos rfl) (Ev.now _)))
    rw [hL,if_pos a0,if_pos (Int.natCast_nonneg _),if_pos a0,hx]
   | false =>
    rw [hq] at hpx
    obtain ⟨z,hz,hd⟩:=ih (pre ++ [x]) (by simp [hl])
    refine ⟨z,?_,by simp [hq,hd]⟩
    have e : (((pre ++ [x]).length : Nat) : Int) = wrap64 ((pre.length : Int) + 1):=by rw [w64 (by omega) (by omega)];simp
    rw [e] at hz
    refine Ev.step (f:=fun k => (p k x).bind fun t1 => if t1 = true then some (pre.length : Int) else L0 k l (l.length : Int) (wrap64 ((pre.length : Int) + 1))) (fun k => ?_) (Ev.bind hpx (Ev.congr (fun k => if_neg (by simp)) hz))
    rw [hL,if_pos a0,if_pos (Int.natCast_nonneg _),if_pos a0,hx]
 obtain ⟨z,hz,hd⟩:=go l [] rfl
 exact Ev.bind hz ((Ev.now _).is hd)
theorem index_mv (l : List Int) (h : l.length ≤ maxLen) : Ev (fun k => slices_ContainsFunc_int_int.f k l) (l.any fun x => !(okCost x)):=by
 rw [maxLen_eq] at h
 unfold slices_ContainsFunc_int_int.f slices_IndexFunc_int_int.f
 exact indexG rdI rd_mid (fun x => !(okCost x)) (fun _ x => impl_MatrixValid_1.f x) l (fun x _ => ev_some (fun _ => by unfold impl_MatrixValid_1.f;rw [icost,Option.bind_some,Bool.decide_eq_true])) (fun k a b c => slices_IndexFunc_int_int.l0 k a b c) (fun k a b c => by simp only [slices_IndexFunc_int_int.l0]) h
theorem index_gv (l : List Int) (h : l.length ≤ maxLen) : Ev (fun k => slices_ContainsFunc_int_int_b.f k l) (l.any fun x => decide (x > 3)):=by
 rw [maxLen_eq] at h
 unfold slices_ContainsFunc_int_int_b.f slices_IndexFunc_int_int_b.f
 exact indexG rdI rd_mid (fun x => decide (x > 3)) (fun _ x => impl_GradesValid_1.f x) l (fun x _ => ev_some (fun _ => rfl)) (fun k a b c => slices_IndexFunc_int_int_b.l0 k a b c) (fun k a b c => by simp only [slices_IndexFunc_int_int_b.l0]) h
theorem iMV (n : Int) (l : List Int) (hl : l.length ≤ maxLen) : Ev (fun k => impl_MatrixValid.f k n l) (decide (MV n l)):=by
 have no : ∀ f : Nat → Option Bool,(∀ k,f k = some false) → ¬ MV n l → Ev f (decide (MV n l)):=fun f h h2 => (ev_some h).is (by rw [decide_eq_false h2])
 by_cases h1 : n < 1
 ·exact no _ (fun k => by unfold impl_MatrixValid.f;rw [if_pos h1]) (fun h => by unfold MV at h;omega)
 by_cases h2 : n > 4
 ·exact no _ (fun k => by unfold impl_MatrixValid.f;rw [if_neg h1,if_pos h2]) (fun h => by unfold MV at h;omega)
 have hnn : 0 ≤ n * n ∧ n * n ≤ 16:=by
  have : n = 1 ∨ n = 2 ∨ n = 3 ∨ n = 4:=by omega
  rcases this with rfl|rfl|rfl|rfl <;> omega
 by_cases h3 : (l.length : Int) = wrap64 (n * n)
 ·rw [w64 (by omega) (by omega)] at h3
  refine Ev.congr (f:=?f1) (fun k => ?h1) ?k1
  case h1 => unfold impl_MatrixValid.f;rw [if_neg h1,if_neg h2,w64 (x:=n * n) (by omega) (by omega),if_pos h3] <;> exact rfl
  refine Ev.bind (index_mv l hl) ?_
  refine (ev_some (fun k => rfl)).is ?_
  rw [Bool.decide_eq_true]
  rw [Bool.eq_iff_iff]
  simp only [Bool.not_eq_true',List.any_eq_false,Bool.not_eq_true',Bool.not_eq_false,decide_eq_true_eq]
  constructor
  ·intro h;exact ⟨by omega,by omega,h3,fun x hx => by simpa [okCost] using h x hx⟩
  ·intro h x hx;simpa [okCost] using h.2.2.2 x hx
 ·refine no _ (fun k => by unfold impl_MatrixValid.f;rw [if_neg h1,if_neg h2,if_neg h3]) (fun h => ?_)
  rw [w64 (by omega) (by omega)] at h3
  exact h3 h.2.2.1
theorem iGV (n : Int) (l : List Int) (hl : l.length ≤ maxLen) : Ev (fun k => impl_GradesValid.f k n l) (decide (GV n l)):=by
 unfold impl_GradesValid.f
 refine Ev.bind (iMV n l hl) ?_
 by_cases h : MV n l
 ·refine Ev_t (decide_eq_true h) (Ev.bind (index_gv l hl) ((Ev.now _).is ?_))
  rw [Bool.decide_eq_true,Bool.eq_iff_iff]
  simp only [Bool.not_eq_true',List.any_eq_false,decide_eq_true_eq]
  exact ⟨fun g => ⟨h,fun x hx => by have:=g x hx;omega⟩,fun g x hx => by have:=g.2 x hx;omega⟩
 ·exact Ev_f (by rw [decide_eq_false h];simp) ((Ev.now _).is (by rw [decide_eq_false (fun g : GV n l => h g.1)]))
theorem sAll_ev (l : List Int) (h : l.length ≤ maxLen) : Ev (fun k => spec_l1All.f k l) (l.all okCost):=by
 rw [maxLen_eq] at h
 have go : ∀ (t pre : List Int),l = pre ++ t → Ev (fun k => spec_l1All.l0 k l (l.length : Int) (pre.length : Int)) (t.all okCost):=by
  intro t
  induction t with
  | nil =>
   intro pre hl
   refine Ev.step (f:=fun _ => some true) (fun k => ?_) (Ev.now _)
   simp only [spec_l1All.l0];rw [if_neg (by rw [hl];simp)]
  | cons x t ih =>
   intro pre hl
   have hlen : l.length = pre.length + (t.length + 1):=by rw [hl];simp
   have hx : rdI l (pre.length : Int) = x:=by rw [hl,rd_mid]
   cases hq : okCost x with
   | true =>
    refine Ev.step (fun k => ?_) ((ih (pre ++ [x]) (by simp [hl])).is (by simp [hq]))
    simp only [spec_l1All.l0]
    rw [if_pos (by omega),if_pos (by omega),if_pos (by omega),hx,scost,hq,Option.bind_some,if_pos rfl,w64 (by omega) (by omega),snoc_len]
   | false =>
    refine Ev.step (f:=fun _ => some false) (fun k => ?_) ((Ev.now _).is (by simp [hq]))
    simp only [spec_l1All.l0]
    rw [if_pos (by omega),if_pos (by omega),if_pos (by omega),hx,scost,hq,Option.bind_some,if_neg (by simp)]
 exact go l [] rfl
theorem sMV (n : Int) (l : List Int) (hl : l.length ≤ maxLen) : Ev (fun k => spec_MatrixValid.f k n l) (decide (MV n l)):=by
 have no : ∀ f : Nat → Option Bool,(∀ k,f k = some false) → ¬ MV n l → Ev f (decide (MV n l)):=fun f h h2 => (ev_some h).is (by rw [decide_eq_false h2])
 by_cases h1 : 1 ≤ n ∧ n ≤ 4
 ·have hnn : 0 ≤ n * n ∧ n * n ≤ 16:=by
   have : n = 1 ∨ n = 2 ∨ n = 3 ∨ n = 4:=by omega
   rcases this with rfl|rfl|rfl|rfl <;> omega
  by_cases h3 : (l.length : Int) = n * n
  ·refine Ev.congr (f:=?f1) (fun k => ?h1) ?k1
   case h1 => unfold spec_MatrixValid.f;rw [sIn,decide_eq_true h1,Option.bind_some,if_pos rfl,w64 (x:=n * n) (by omega) (by omega),if_pos h3] <;> exact rfl
   refine Ev.bind (sAll_ev l hl) ((ev_some (fun k => rfl)).is ?_)
   rw [Bool.eq_iff_iff]
   simp only [List.all_eq_true,decide_eq_true_eq]
   exact ⟨fun g => ⟨h1.1,h1.2,h3,fun x hx => by simpa [okCost] using g x hx⟩,fun g x hx => by simpa [okCost] using g.2.2.2 x hx⟩
  ·exact no _ (fun k => by unfold spec_MatrixValid.f;rw [sIn,decide_eq_true h1,Option.bind_some,if_pos rfl,w64 (x:=n * n) (by omega) (by omega),if_neg h3]) (fun h => h3 h.2.2.1)
 ·exact no _ (fun k => by unfold spec_MatrixValid.f;rw [sIn,decide_eq_false h1];rfl) (fun h => h1 ⟨h.1,h.2.1⟩)
theorem sGV (n : Int) (l : List Int) (hl : l.length ≤ maxLen) : Ev (fun k => spec_GradesValid.f k n l) (decide (GV n l)):=by
 have hm:=hl
 rw [maxLen_eq] at hm
 have go : ∀ (t pre : List Int),l = pre ++ t → Ev (fun k => spec_GradesValid.l0 k l (l.length : Int) (pre.length : Int) n l) (decide ((∀ x ∈ t,0 ≤ x ∧ x ≤ 3) ∧ MV n l)):=by
  intro t
  induction t with
  | nil =>
   intro pre hp
   refine Ev.step (f:=?f1) (fun k => ?h1) ?k1
   case h1 => simp only [spec_GradesValid.l0];rw [if_neg (by rw [hp];simp)] <;> exact rfl
   exact Ev.bind (sMV n l hl) ((ev_some (fun k => rfl)).is (by simp))
  | cons x t ih =>
   intro pre hp
   have hlen : l.length = pre.length + (t.length + 1):=by rw [hp];simp
   have hx : rdI l (pre.length : Int) = x:=by rw [hp,rd_mid]
   by_cases hq : 0 ≤ x ∧ x ≤ 3
   ·refine Ev.step (fun k => ?_) ((ih (pre ++ [x]) (by simp [hp])).is ?_)
    ·simp only [spec_GradesValid.l0]
     rw [if_pos (by omega),if_pos (by omega),if_pos (by omega),hx,sIn,decide_eq_true hq,Option.bind_some,if_pos rfl,w64 (by omega) (by omega),snoc_len]
    ·simp [hq.1,hq.2]
   ·refine Ev.step (f:=fun _ => some false) (fun k => ?_) ((Ev.now _).is ?_)
    ·simp only [spec_GradesValid.l0]
     rw [if_pos (by omega),if_pos (by omega),if_pos (by omega),hx,sIn,decide_eq_false hq,Option.bind_some,if_neg (by simp)]
    ·symm;rw [decide_eq_false_iff_not];intro h;exact hq (h.1 x (by simp))
 refine (go l [] rfl).is ?_
 rw [Bool.eq_iff_iff]
 simp only [decide_eq_true_eq]
 exact ⟨fun h => ⟨h.2,fun x hx => (h.1 x hx).2⟩,fun h => ⟨fun x hx => ⟨(h.1.2.2.2 x hx).1,h.2 x hx⟩,h.1⟩⟩
theorem div_mod_at (n i k : Nat) (hk : k < n) : (i * n + k) / n = i ∧ (i * n + k) % n = k:=by
 have hn : 0 < n:=by omega
 constructor
 ·rw [Nat.mul_comm,Nat.mul_add_div hn,Nat.div_eq_of_lt hk,Nat.add_zero]
 ·rw [Nat.mul_comm,Nat.mul_add_mod,Nat.mod_eq_of_lt hk]
theorem cell_lt (n i k : Nat) (hi : i < n) (hk : k < n) : i * n + k < n * n:=by
 have : (i + 1) * n ≤ n * n:=Nat.mul_le_mul_right n hi
 rw [Nat.succ_mul] at this
 omega
theorem sq_le (n : Nat) (h : n ≤ 4) : n * n ≤ 16:=by
 have:=Nat.mul_le_mul h h
 omega
theorem row_le (n i : Nat) (hn : n ≤ 4) (hi : i ≤ n) : i * n ≤ 16:=by
 have:=Nat.mul_le_mul (Nat.le_trans hi hn) hn
 omega
def cutF (n : Nat) (g : Nat → Nat → Int) : Int → Int → Option Int:=fun i k => if 0 ≤ i ∧ i < n ∧ 0 ≤ k ∧ k < n then some (g i.toNat k.toNat) else none
theorem cutF_at (n : Nat) (g : Nat → Nat → Int) (i k : Nat) (hi : i < n) (hk : k < n) : cutF n g (i : Int) (k : Int) = some (g i k):=by
 unfold cutF;rw [if_pos (by omega)];simp
def sqL (n : Nat) (g : Nat → Nat → Int) : List Int:=tab (n * n) (fun m => g (m / n) (m % n))
theorem sqL_get (n : Nat) (g : Nat → Nat → Int) (i k : Nat) (hi : i < n) (hk : k < n) : (sqL n g).getD (i * n + k) 0 = g i k:=by
 unfold sqL
 rw [tab_get _ _ _ (cell_lt n i k hi hk)]
 obtain ⟨h1,h2⟩:=div_mod_at n i k hk
 rw [h1,h2]
theorem sqL_congr (n : Nat) (g h : Nat → Nat → Int) (e : ∀ i k,i < n → k < n → g i k = h i k) : sqL n g = sqL n h:=by
 refine tab_congr _ _ _ (fun j hj => e _ _ (Nat.div_lt_of_lt_mul hj) (Nat.mod_lt _ ?_))
 rcases n with _|n
 ·simp at hj
 ·omega
theorem eq_sqL (n : Nat) (l : List Int) (h : l.length = n * n) : l = sqL n (fun i k => l.getD (i * n + k) 0):=by
 refine (eq_tab l _ h).trans (tab_congr _ _ _ (fun j _ => ?_))
 show l.getD j 0 = l.getD (j / n * n + j % n) 0
 rw [Nat.mul_comm,Nat.div_add_mod]
theorem filledG (n : Nat) (hn : n ≤ 4) (g : Nat → Nat → Int) (c : Nat → Int → Int → Option Int) (hc : ∀ i,i < n → ∀ k,k < n → Ev (fun K => c K (i : Int) (k : Int)) (g i k)) (L0 : Nat → Int → Int → Int → Int → List Int → Option (Int × List Int)) (L1 : Nat → Int → Int → Int → Int → Int → Int → Int → List Int → Option (Int × List Int))
  (h0 : ∀ k x0 x10 x11 y z,L0 (k + 1) x0 x10 x11 y z = if x11 < x10 then L1 k x0 x11 x10 x11 x0 0 y z else some (y,z))
  (h1 : ∀ k x0 x6 x10 x11 x14 x15 y z,L1 (k + 1) x0 x6 x10 x11 x14 x15 y z = if x15 < x14 then ((c k x6 x15).bind fun t1 => if z.length < 17592186044416 then L1 k x0 x6 x10 x11 x14 (wrap64 (x15 + 1)) y (z ++ [t1]) else none) else L0 k x0 x10 (wrap64 (x11 + 1)) y z) :
  Ev (fun k => L0 k (n : Int) (n : Int) 0 (n : Int) []) ((n : Int),sqL n g):=by
 have inner : ∀ (i : Nat) (r : Int × List Int),i < n → Ev (fun j => L0 j n n ((i + 1 : Nat) : Int) n (tab ((i + 1) * n) (fun m => g (m / n) (m % n)))) r →
   Ev (fun j => L0 j n n (i : Int) n (tab (i * n) (fun m => g (m / n) (m % n)))) r:=by
  intro i r hi h
  refine Ev.step (f:=fun j => L1 j n i n i n ((0 : Nat) : Int) n (tab (i * n + 0) (fun m => g (m / n) (m % n)))) (fun k => ?_) ?_
  ·rw [h0,if_pos (by omega)];rfl
  refine up_loop n (fun k j => L1 j n i n i n (k : Int) n (tab (i * n + k) (fun m => g (m / n) (m % n)))) r (fun k hk hs => ?_) ?_
  ·have hr:=row_le n i hn (by omega)
   obtain ⟨d1,d2⟩:=div_mod_at n i k hk
   have e : tab (i * n + k) (fun m => g (m / n) (m % n)) ++ [g i k] = tab (i * n + (k + 1)) (fun m => g (m / n) (m % n)):=by
    rw [← Nat.add_assoc,← tab_snoc,d1,d2]
   have b0 : (tab (i * n + k) (fun m => g (m / n) (m % n))).length < 17592186044416:=by rw [tab_length];omega
   have a0 : (k : Int) < (n : Int):=by omega
   have wk : wrap64 ((k : Int) + 1) = ((k + 1 : Nat) : Int):=by rw [w64 (by omega) (by omega)];rfl
   refine Ev.step (f:=fun j => (c j (i : Int) (k : Int)).bind fun t1 => if (tab (i * n + k) (fun m => g (m / n) (m % n))).length < 17592186044416 then L1 j n i n i n (wrap64 ((k : Int) + 1)) n (tab (i * n + k) (fun m => g (m / n) (m % n)) ++ [t1]) else none) (fun j => ?_) (Ev.bind (hc i hi k hk) (Ev_t b0 ?_))
   ·rw [h1,if_pos a0]
   ·rw [wk,e];exact hs
  ·refine Ev.step (fun j => ?_) h
   rw [h1,if_neg (by omega),w64 (by omega) (by omega),Nat.succ_mul];rfl
 refine Ev.congr (f:=fun j => L0 j n n ((0 : Nat) : Int) n (tab (0 * n) (fun m => g (m / n) (m % n)))) (fun k => ?_) ?_
 ·simp [tab]
 refine up_loop n (fun i j => L0 j n n (i : Int) n (tab (i * n) (fun m => g (m / n) (m % n)))) _ (fun i hi hs => inner i _ hi hs) ?_
 refine Ev.step (f:=fun _ => some ((n : Int),sqL n g)) (fun j => ?_) (Ev.now _)
 rw [h0,if_neg (by omega)];rfl
theorem tdiv_nat (m n : Nat) : Int.tdiv (m : Int) (n : Int) = ((m / n : Nat) : Int):=by rw [Int.tdiv_eq_ediv_of_nonneg (by omega)];simp
theorem tmod_nat (m n : Nat) : Int.tmod (m : Int) (n : Int) = ((m % n : Nat) : Int):=by rw [Int.tmod_eq_emod_of_nonneg (by omega)];simp
theorem idx1 (n m l : Nat) (hn : n ≤ 4) (hi : m / n < n) (hl : l < n) : wrap64 (wrap64 (wrap64 (Int.tdiv (m : Int) (n : Int)) * (n : Int)) + l) = ((m / n * n + l : Nat) : Int):=by
 have r1:=row_le n (m / n) hn (by omega)
 rw [tdiv_nat]
 obtain ⟨q,hq⟩ : ∃ q : Nat,m / n = q:=⟨_,rfl⟩
 rw [hq] at hi r1 ⊢
 have h1 : ((q : Nat) : Int) * (n : Int) = ((q * n : Nat) : Int):=by simp
 obtain ⟨s,hs⟩ : ∃ s : Nat,q * n = s:=⟨_,rfl⟩
 rw [w64 (x:=((q : Nat) : Int)) (by omega) (by omega),h1]
 rw [hs] at r1 ⊢
 clear h1 hs hq
 rw [w64 (x:=((s : Nat) : Int)) (by omega) (by omega),w64 (by omega) (by omega)];simp
theorem idx2 (n m l : Nat) (hn : n ≤ 4) (hk : m % n < n) (hl : l < n) : wrap64 (wrap64 ((l : Int) * (n : Int)) + Int.tmod (m : Int) (n : Int)) = ((l * n + m % n : Nat) : Int):=by
 have r2:=row_le n l hn (by omega)
 rw [tmod_nat]
 obtain ⟨q,hq⟩ : ∃ q : Nat,m % n = q:=⟨_,rfl⟩
 rw [hq] at hk ⊢
 have h1 : (l : Int) * (n : Int) = ((l * n : Nat) : Int):=by simp
 obtain ⟨s,hs⟩ : ∃ s : Nat,l * n = s:=⟨_,rfl⟩
 rw [h1]
 rw [hs] at r2 ⊢
 clear h1 hs hq
 rw [w64 (x:=((s : Nat) : Int)) (by omega) (by omega),w64 (by omega) (by omega)];simp
theorem MV_nat {n : Int} {l : List Int} (h : MV n l) : ∃ m : Nat,n = (m : Int) ∧ 1 ≤ m ∧ m ≤ 4 ∧ l.length = m * m:=by
 refine ⟨n.toNat,?_⟩
 have h1:=h.1
 have h2:=h.2.1
 have h3:=h.2.2.1
 obtain ⟨m,rfl⟩ : ∃ m : Nat,n = (m : Int):=⟨n.toNat,by omega⟩
 refine ⟨by simp,by simp;omega,by simp;omega,?_⟩
 simp only [Int.toNat_natCast]
 exact_mod_cast h3
theorem eqIntS_ev (a b : List Int) (h : a.length ≤ 1000000000) : Ev (fun k => laws_eqIntS.f k a b) (decide (a = b)):=by
 by_cases hl : a.length = b.length
 ·have go : ∀ (t u pre : List Int),a = pre ++ t → b = pre ++ u → Ev (fun k => laws_eqIntS.l0 k a b (pre.length : Int)) (decide (a = b)):=by
   intro t
   induction t with
   | nil =>
    intro u pre ha hb
    have hu : u = []:=by
     have h1:=congrArg List.length ha
     have h2:=congrArg List.length hb
     simp at h1 h2
     exact List.length_eq_zero_iff.mp (by omega)
    subst hu
    have hab : a = b:=by rw [ha,hb]
    refine Ev.step (f:=fun _ => some true) (fun k => ?_) ((Ev.now _).is (by rw [decide_eq_true hab]))
    simp only [laws_eqIntS.l0]
    rw [if_neg (by rw [ha];simp)]
   | cons x t ih =>
    intro u pre ha hb
    have hla : a.length = pre.length + (t.length + 1):=by rw [ha];simp
    cases u with
    | nil => have h2:=congrArg List.length hb;simp at h2;omega
    | cons y u =>
     by_cases hxy : x = y
     ·subst hxy
      refine Ev.step (fun k => ?_) (ih u (pre ++ [x]) (by simp [ha]) (by simp [hb]))
      simp only [laws_eqIntS.l0]
      rw [if_pos (by omega),if_pos (by omega),if_pos (by omega),w64 (by omega) (by omega),snoc_len,if_pos (by rw [ha,hb,rd_mid,rd_mid])]
     ·have hab : ¬ a = b:=by
       intro e
       rw [ha,hb] at e
       have:=List.append_cancel_left e
       simp at this
       exact hxy this.1
      refine Ev.step (f:=fun _ => some false) (fun k => ?_) ((Ev.now _).is (by rw [decide_eq_false hab]))
      simp only [laws_eqIntS.l0]
      rw [if_pos (by omega),if_pos (by omega),if_pos (by omega),if_neg (by rw [ha,hb,rd_mid,rd_mid];exact hxy)]
  refine Ev.congr (fun k => ?_) (go a b [] rfl rfl)
  unfold laws_eqIntS.f
  rw [if_pos (by omega)];rfl
 ·have hab : ¬ a = b:=fun e => hl (by rw [e])
  refine Ev.congr (f:=fun _ => some false) (fun k => ?_) ((Ev.now _).is (by rw [decide_eq_false hab]))
  unfold laws_eqIntS.f
  rw [if_neg (by omega)]
theorem eqMatrix_ev (n : Int) (l : List Int) (h : l.length ≤ 1000000000) : Ev (fun k => laws_eqMatrix.f k n l n l) true:=by
 refine Ev.congr (f:=?f1) (fun k => ?h1) ?k1
 case h1 => unfold laws_eqMatrix.f;rw [if_pos rfl] <;> exact rfl
 exact Ev.bind (eqIntS_ev l l h) (Ev.congr (f:=fun _ => some true) (fun k => by simp) (Ev.now _))
theorem Ev_sz {α : Type} {o : Option Int} {z : Int} {g : Nat → Int → Option α} {r : α} (h : o = some z) (k : Ev (fun n => g n z) r) : Ev (fun n => o.bind (g n)) r:=Ev.congr (fun n => by rw [h];rfl) k
def count : Int → Nat → List Int
 | _,0 => []
 | k,n + 1 => k :: count (k + 1) n
theorem count_length (n : Nat) : ∀ k,(count k n).length = n:=by induction n with
 | zero => intro k;rfl
 | succ n ih => intro k;simp [count,ih]
theorem markIntS_ev (l : List Int) (c : Int) (h : l.length ≤ 1000000000) (h0 : 0 ≤ c) (h1 : c ≤ 1000000000) : Ev (fun k => laws_markIntS.f k l c) (c + l.length,count c l.length):=by
 have go : ∀ (t pre : List Int) (m : Int),pre.length + t.length = l.length → m = c + pre.length → Ev (fun k => laws_markIntS.l0 k (pre ++ t) m (pre.length : Int)) (c + l.length,pre ++ count m t.length):=by
  intro t
  induction t with
  | nil =>
   intro pre m hl hm
   refine Ev.step (f:=fun _ => some (m,pre)) (fun k => ?_) ((Ev.now _).is ?_)
   ·simp only [laws_markIntS.l0];rw [if_neg (by simp)];simp
   ·simp at hl;simp [count];omega
  | cons x t ih =>
   intro pre m hl hm
   simp at hl
   have i:=ih (pre ++ [m]) (m + 1) (by simp;omega) (by simp;omega)
   refine Ev.step (fun k => ?_) (i.is (by simp [count]))
   simp only [laws_markIntS.l0]
   rw [if_pos (by simp;omega),if_pos (by omega),w64 (by omega) (by omega),w64 (by omega) (by omega),snoc_len]
   congr 1
   simp [List.set_append]
 exact (go l [] c (by simp) (by simp))
theorem heldIntS_ev (n : Nat) (c : Int) (h : n ≤ 1000000000) (h0 : 0 ≤ c) (h1 : c ≤ 1000000000) : Ev (fun k => laws_heldIntS.f k (count c n) c) (c + n):=by
 have go : ∀ (m : Nat) (pre : List Int) (z : Int),pre.length + m = n → z = c + pre.length → Ev (fun k => laws_heldIntS.l0 k (pre ++ count z m) z (pre.length : Int)) (c + n):=by
  intro m
  induction m with
  | zero =>
   intro pre z hl hz
   refine Ev.step (f:=fun _ => some z) (fun k => ?_) ((Ev.now _).is (by omega))
   simp only [laws_heldIntS.l0];rw [if_neg (by simp [count])]
  | succ m ih =>
   intro pre z hl hz
   have i:=ih (pre ++ [z]) (z + 1) (by simp;omega) (by simp;omega)
   show Ev (fun k => laws_heldIntS.l0 k (pre ++ z :: count (z + 1) m) z (pre.length : Int)) (c + n)
   refine Ev.step (fun k => ?_) i
   simp only [laws_heldIntS.l0]
   rw [if_pos (by simp [count_length];omega),if_pos (by omega),if_pos (by rw [rd_mid]),w64 (by omega) (by omega),w64 (by omega) (by omega),snoc_len]
   simp
 exact go n [] c (by simp) (by simp)
theorem markMatrix_ev (n : Int) (l : List Int) (c : Int) (h : l.length ≤ 1000000000) (h0 : 0 ≤ c) (h1 : c ≤ 1000000000) : Ev (fun k => laws_markMatrix.f k n l c) (c + l.length,count c l.length):=by
 refine Ev.congr (f:=?f1) (fun k => ?h1) ?k1
 case h1 => unfold laws_markMatrix.f;exact rfl
 exact Ev.bind (markIntS_ev l c h h0 h1) (Ev.now _)
theorem heldMatrix_ev (n : Int) (m : Nat) (c : Int) (h : m ≤ 1000000000) (h0 : 0 ≤ c) (h1 : c ≤ 1000000000) : Ev (fun k => laws_heldMatrix.f k n (count c m) c) (c + m):=by
 refine Ev.congr (f:=?f1) (fun k => ?h1) ?k1
 case h1 => unfold laws_heldMatrix.f;exact rfl
 exact Ev.bind (heldIntS_ev m c h h0 h1) (Ev.congr (f:=fun _ => some (c + m)) (fun k => by rw [if_neg (by omega)]) (Ev.now _))
def mulE (n : Nat) (a b : List Int) (i k : Nat) : Int:=(List.range n).foldl (fun acc l => mn acc (mx (a.getD (i * n + l) 0) (b.getD (l * n + k) 0))) 3
def mulL (n : Nat) (a b : List Int) : List Int:=sqL n (mulE n a b)
theorem mulL_length (n : Nat) (a b : List Int) : (mulL n a b).length = n * n:=by simp [mulL,sqL,tab_length]
theorem GV_len {n : Nat} {l : List Int} (h : GV (n : Int) l) : l.length = n * n:=by
 have:=h.1.2.2.1
 exact_mod_cast this
theorem GV_le {n : Nat} {l : List Int} (h : GV (n : Int) l) : n ≤ 4 ∧ 1 ≤ n:=by
 have h1:=h.1.1
 have h2:=h.1.2.1
 omega
theorem GV_nat {n : Int} {l : List Int} (h : GV n l) : ∃ m : Nat,n = (m : Int):=⟨n.toNat,by have:=h.1.1;omega⟩
def mulR (n : Int) (a : List Int) (m : Int) (b : List Int) : Int × List Int × Bool:=if GV n a ∧ GV m b ∧ n = m then (n,mulL n.toNat a b,true) else (0,[],false)
end Go.Proofs.YtfjfdlgcneclfaaDoor.V
end
section
set_option linter.unusedVariables false
set_option linter.unusedSimpArgs false
namespace Go.Proofs.YtfjfdlgcneclfaaDoor.V
open Go Go.Proofs.YtfjfdlgcneclfaaDoor.R Go.RowKit
open Go.Proofs.YtfjfdlgcneclfaaDoorW.PrintWords hiding mn mx
def cutL : List UInt8 → List (List UInt8)
 | [] => [[]]
 | b :: l => if b = 47 then [] :: cutL l else match cutL l with
  | x :: r => (b :: x) :: r
  | [] => [[b]]
theorem cutL_ne : ∀ l,cutL l ≠ []
 | [] => by simp [cutL]
 | b :: l => by
  unfold cutL
  by_cases h : b = 47
  ·rw [if_pos h];simp
  ·rw [if_neg h]
   cases cutL l <;> simp
theorem cutL_stroke (l : List UInt8) : cutL (47 :: l) = [] :: cutL l:=by
 rw [cutL,if_pos rfl]
theorem cutL_cons {b : UInt8} (h : b ≠ 47) {l x : List UInt8} {r : List (List UInt8)} (e : cutL l = x :: r) : cutL (b :: l) = (b :: x) :: r:=by
 rw [cutL,if_neg h,e]
theorem cutL_word : ∀ x : List UInt8,(∀ b ∈ x,b ≠ 47) → cutL x = [x]
 | [],_ => rfl
 | b :: x,h => cutL_cons (h b (List.mem_cons_self ..)) (cutL_word x fun c hc => h c (List.mem_cons_of_mem _ hc))
theorem cutL_app : ∀ (x y : List UInt8),(∀ b ∈ x,b ≠ 47) → cutL (x ++ 47 :: y) = x :: cutL y
 | [],y,_ => cutL_stroke y
 | b :: x,y,h => cutL_cons (h b (List.mem_cons_self ..)) (cutL_app x y fun c hc => h c (List.mem_cons_of_mem _ hc))
theorem cutL_len : ∀ l : List UInt8,(cutL l).length ≤ l.length + 1 ∧ (cutL l).flatten.length ≤ l.length
 | [] => by simp [cutL]
 | b :: l => by
  have ih:=cutL_len l
  by_cases h : b = 47
  ·subst h
   rw [cutL_stroke]
   simp only [List.length_cons,List.flatten_cons,List.length_append,List.length_nil]
   omega
  ·obtain ⟨x,r,e⟩:=List.exists_cons_of_ne_nil (cutL_ne l)
   rw [cutL_cons h e]
   rw [e] at ih
   simp only [List.length_cons,List.flatten_cons,List.length_append] at ih ⊢
   omega
theorem joinTail_cons (sep y : List UInt8) (r : List (List UInt8)) : Lib.joinTail sep (y :: r) = sep ++ y ++ Lib.joinTail sep r:=by simp [Lib.joinTail]
theorem cutL_join : ∀ l : List UInt8,Lib.join (cutL l) [47] = l
 | [] => by rw [cutL];exact Lib.join_one [] [47]
 | b :: l => by
  have ih:=cutL_join l
  obtain ⟨x,r,e⟩:=List.exists_cons_of_ne_nil (cutL_ne l)
  rw [e,Lib.join_cons] at ih
  by_cases h : b = 47
  ·subst h
   rw [cutL_stroke,e,Lib.join_cons,joinTail_cons,List.nil_append,List.append_assoc,ih];rfl
  ·rw [cutL_cons h e,Lib.join_cons,List.cons_append,ih]
theorem join_cutL : ∀ (x : List UInt8) (r : List (List UInt8)),(∀ y ∈ x :: r,∀ b ∈ y,b ≠ 47) → cutL (Lib.join (x :: r) [47]) = x :: r
 | x,[],h => by rw [Lib.join_one];exact cutL_word x (h x (List.mem_cons_self ..))
 | x,y :: r,h => by
  have ih:=join_cutL y r fun z hz => h z (List.mem_cons_of_mem _ hz)
  rw [Lib.join_cons] at ih
  rw [Lib.join_cons,joinTail_cons,List.append_assoc,List.singleton_append,cutL_app x _ (h x (List.mem_cons_self ..)),ih]
theorem splitK_cut : ∀ s : List UInt8,Lib.splitK [47] 0 (Lib.count s [47]) s = cutL s
 | [] => by rw [Lib.count_one];rfl
 | b :: l => by
  have ih:=splitK_cut l
  obtain ⟨x,r,e⟩:=List.exists_cons_of_ne_nil (cutL_ne l)
  by_cases h : b = 47
  ·subst h
   have hix : Lib.index (47 :: l) [47] = 0:=by rw [Lib.index];simp [List.isPrefixOf]
   rw [Lib.count_cons_eq,Nat.add_comm,Lib.splitK,hix,cutL_stroke]
   show [] :: Lib.splitK [47] 0 (Lib.count l [47]) l = _
   rw [ih]
  ·rw [Lib.count_cons_ne b 47 l h,cutL_cons h e]
   have hp : ([47] : List UInt8).isPrefixOf (b :: l) = false:=by simp [List.isPrefixOf,Ne.symm h]
   have hix : Lib.index (b :: l) [47] = if Lib.index l [47] == -1 then -1 else Lib.index l [47] + 1:=by rw [Lib.index,hp];simp
   by_cases hm : Lib.index l [47] = -1
   ·have c0:=Lib.count_miss hm
    rw [c0] at ih ⊢
    rw [e] at ih
    have ih : [l] = x :: r:=ih
    obtain ⟨rfl,rfl⟩ : l = x ∧ [] = r:=by simpa using ih
    rfl
   ·have hge:=Lib.index_ge l [47]
    obtain ⟨j,hj⟩ : ∃ j : Nat,Lib.index l [47] = j:=⟨(Lib.index l [47]).toNat,by omega⟩
    have c1:=Lib.count_hit (s:=l) (sub:=[47]) (by simp) hj
    rw [c1,Nat.add_comm,Lib.splitK] at ih ⊢
    have hix2 : Lib.index (b :: l) [47] = ((j + 1 : Nat) : Int):=by rw [hix,if_neg (by simpa using hm),hj];omega
    rw [if_neg (by rw [hj];simp),hj,e] at ih
    rw [if_neg (by rw [hix2];simp;omega),hix2]
    simp only [List.cons.injEq] at ih
    have t1 : ((j + 1 : Nat) : Int).toNat = j + 1:=by omega
    rw [t1,← ih.1,← ih.2]
    have t2 : (j : Int).toNat = j:=by omega
    rw [t2]
    simp only [List.take_succ_cons,List.cons.injEq,true_and,Nat.add_zero]
    have t3 : j + 1 + ([47] : List UInt8).length = (j + ([47] : List UInt8).length) + 1:=by omega
    rw [t3,List.drop_succ_cons]
def pcs (x : ByteArray) : List ByteArray:=(cutL (L x)).map B
theorem map_toL : ∀ {a : List ByteArray} {b : List (List UInt8)},a.map (fun x => x.data.toList) = b → a = b.map B
 | [],b,h => by subst h;rfl
 | x :: a,b,h => by
  subst h
  simp only [List.map_cons,List.cons.injEq]
  exact ⟨(B_L x).symm,map_toL rfl⟩
theorem split_pcs (x : ByteArray) (h : x.size < 4294967281) : strings_Split.f x (⟨#[47]⟩ : ByteArray) = some (pcs x):=by
 unfold strings_Split.f
 rw [if_pos ⟨rfl,h⟩]
 refine congrArg some (map_toL ?_)
 rw [Lib.splitB_data]
 exact splitK_cut (L x)
end Go.Proofs.YtfjfdlgcneclfaaDoor.V
end
section
set_option linter.unusedVariables false
set_option linter.unusedSimpArgs false
namespace Go.Proofs.YtfjfdlgcneclfaaDoor.V
open Go Go.Proofs.YtfjfdlgcneclfaaDoor.R Go.RowKit
open Go.Proofs.YtfjfdlgcneclfaaDoorW.PrintWords hiding mn mx
def ch (g : Int) : UInt8:=if g = 0 then 48 else if g = 1 then 49 else if g = 2 then 119 else 45
theorem ch_at (g : Int) (h0 : 0 ≤ g) (h3 : g ≤ 3) : (⟨#[48,49,119,45]⟩ : ByteArray).extract (g.toNat) ((g + 1).toNat) = B [ch g]:=by
 have : g = 0 ∨ g = 1 ∨ g = 2 ∨ g = 3:=by omega
 rcases this with rfl|rfl|rfl|rfl <;> (apply L_inj;rw [L_extract];unfold B;rw [L_mk];rfl)
def rowk (n : Nat) (l : List Int) (i k : Nat) : List UInt8:=(List.range k).map (fun k => ch (l.getD (i * n + k) 0))
theorem rowk_len (n : Nat) (l : List Int) (i k : Nat) : (rowk n l i k).length = k:=by simp [rowk]
theorem rowk_snoc (n : Nat) (l : List Int) (i k : Nat) : rowk n l i (k + 1) = rowk n l i k ++ [ch (l.getD (i * n + k) 0)]:=by simp [rowk,List.range_succ]
def sepOf (i : Nat) : List UInt8:=if i = 0 then [] else [47]
def TT (n : Nat) (l : List Int) : Nat → List UInt8
 | 0 => []
 | i + 1 => TT n l i ++ (sepOf i ++ rowk n l i n)
theorem sepOf_len (i : Nat) : (sepOf i).length ≤ 1:=by unfold sepOf;by_cases h : i = 0 <;> simp [h]
theorem TT_len (n : Nat) (hn : n ≤ 4) (l : List Int) (i : Nat) : (TT n l i).length ≤ i * 5:=by
 induction i with
 | zero => simp [TT]
 | succ i ih =>
  have:=sepOf_len i
  simp only [TT,List.length_append,rowk_len]
  omega
theorem iRowText (r : List Int) (hr : r.length ≤ 16) (hg : ∀ x ∈ r,0 ≤ x ∧ x ≤ 3) : Ev (fun k => impl_FormatGrades_1.f k r) (B (r.map ch)):=by
 have go : ∀ (t pre : List Int),r = pre ++ t → Ev (fun k => impl_FormatGrades_1.l0 k (B (pre.map ch)) r (r.length : Int) (pre.length : Int)) (B (r.map ch)):=by
  intro t
  induction t with
  | nil =>
   intro pre hp
   refine Ev.step (f:=fun _ => some (B (pre.map ch))) (fun k => ?_) ((Ev.now _).is (by rw [hp];simp))
   simp only [impl_FormatGrades_1.l0];rw [if_neg (by rw [hp];simp)]
  | cons x t ih =>
   intro pre hp
   have hlen : r.length = pre.length + (t.length + 1):=by rw [hp];simp
   have hx : rdI r (pre.length : Int) = x:=by rw [hp,rd_mid]
   have hxg:=hg x (by rw [hp];simp)
   have hsz : (B (pre.map ch)).size = pre.length:=by rw [B_size];simp
   have hcs : (B [ch x]).size = 1:=by rw [B_size];rfl
   have h4 : (⟨#[48,49,119,45]⟩ : ByteArray).size = 4:=rfl
   refine Ev.step (fun k => ?_) (ih (pre ++ [x]) (by simp [hp]))
   simp only [impl_FormatGrades_1.l0]
   rw [if_pos (by omega),if_pos (by omega),if_pos (by omega),hx,if_pos hxg.1,w64 (x:=x + 1) (by omega) (by omega),if_pos (by omega),if_pos (by rw [h4];omega),ch_at x hxg.1 hxg.2,hcs,hsz,if_pos (by omega),w64 (x:=(pre.length : Int) + 1) (by omega) (by omega),snoc_len,B_add]
   simp
 exact go r [] rfl
theorem rowk_eq (n : Nat) (l : List Int) (hl : l.length = n * n) (i : Nat) (hi : i < n) : (((l.take ((i + 1) * n)).drop (i * n)).map ch) = rowk n l i n:=by
 have h1 : (i + 1) * n ≤ n * n:=Nat.mul_le_mul_right n hi
 have h2 : (i + 1) * n = i * n + n:=Nat.succ_mul i n
 apply List.ext_getElem
 ·simp [rowk];omega
 ·intro j g1 g2
  have hj : j < n:=by simpa [rowk] using g2
  have hc:=cell_lt n i j hi hj
  have hc' : i * n + j < l.length:=by omega
  simp [rowk,List.getD_eq_getElem?_getD,List.getElem?_eq_getElem hc']
theorem join_snoc (xs : List (List UInt8)) (y sep : List UInt8) : Lib.join (xs ++ [y]) sep = if xs = [] then y else Lib.join xs sep ++ (sep ++ y):=by
 cases xs with
 | nil => simp [Lib.join_one]
 | cons x r =>
  rw [if_neg (by simp),List.cons_append,Lib.join_cons,Lib.join_cons]
  simp [Lib.joinTail,List.append_assoc]
def rowsB (n : Nat) (l : List Int) (i : Nat) : List ByteArray:=(List.range i).map (fun i => B (rowk n l i n))
theorem rowsB_snoc (n : Nat) (l : List Int) (i : Nat) : rowsB n l i ++ [B (rowk n l i n)] = rowsB n l (i + 1):=by simp [rowsB,List.range_succ]
theorem rowsB_join (n : Nat) (l : List Int) (i : Nat) : Lib.join ((rowsB n l i).map (·.data.toList)) [47] = TT n l i:=by
 induction i with
 | zero => rfl
 | succ i ih =>
  rw [← rowsB_snoc,List.map_append,List.map_cons,List.map_nil,join_snoc,ih,B_toList]
  simp only [TT,sepOf]
  by_cases h : i = 0
  ·subst h;simp [rowsB,TT]
  ·rw [if_neg (by simp [rowsB,h]),if_neg h]
theorem iFormat (n : Nat) (l : List Int) (g : GV n l) : Ev (fun k => impl_FormatGrades.f k n l) (B (TT n l n)):=by
 have hn:=(GV_le g).1
 have hl:=GV_len g
 have h16 : l.length ≤ 16:=by rw [hl];exact sq_le n hn
 unfold impl_FormatGrades.f
 refine Ev.bind (iGV n l (by rw [maxLen_eq];omega)) (Ev_t (decide_eq_true g) ?_)
 refine Ev.bind ?_ (Ev.now _)
 unfold impl_rows.f
 refine up_loop n (fun i j => impl_rows.l0 j (rowsB n l i) n (i : Int) n l) _ (fun i hi hs => ?_) ?_
 ·have r1:=row_le n i hn (by omega)
  have r2:=row_le n (i + 1) hn (by omega)
  have h1 : (i + 1) * n ≤ n * n:=Nat.mul_le_mul_right n hi
  have h2 : (i + 1) * n = i * n + n:=Nat.succ_mul i n
  have q1 : (i : Int) < (n : Int):=by omega
  have q2 : ((i * n : Nat) : Int) ≤ (((i + 1) * n : Nat) : Int):=by omega
  have q3 : (((i + 1) * n : Nat) : Int) ≤ (l.length : Int):=by omega
  have q4 : (rowsB n l i).length < 8796093022208:=by simp [rowsB];omega
  have hrow : Ev (fun k => impl_FormatGrades_1.f k ((l.drop (i * n)).take ((i + 1) * n - i * n))) (B (rowk n l i n)):=by
   have q:=iRowText ((l.drop (i * n)).take ((i + 1) * n - i * n)) (by simp;omega) (fun x hx => by
    have hm:=List.mem_of_mem_drop (List.mem_of_mem_take hx)
    exact ⟨(g.1.2.2.2 x hm).1,g.2 x hm⟩)
   have e : ((l.drop (i * n)).take ((i + 1) * n - i * n)).map ch = rowk n l i n:=by
    rw [← rowk_eq n l hl i hi,List.drop_take]
   rwa [e] at q
  have e0 : wrap64 ((i : Int) + 1) = ((i + 1 : Nat) : Int):=by rw [w64 (x:=(i : Int) + 1) (by omega) (by omega)];omega
  have e1 : wrap64 ((i : Int) * (n : Int)) = ((i * n : Nat) : Int):=by
   have : (i : Int) * (n : Int) = ((i * n : Nat) : Int):=by simp
   rw [this,w64 (x:=((i * n : Nat) : Int)) (by omega) (by omega)]
  have e2 : wrap64 (((i + 1 : Nat) : Int) * (n : Int)) = (((i + 1) * n : Nat) : Int):=by
   have : ((i + 1 : Nat) : Int) * (n : Int) = (((i + 1) * n : Nat) : Int):=by simp
   rw [this,w64 (x:=(((i + 1) * n : Nat) : Int)) (by omega) (by omega)]
  refine Ev.step (f:=?fr1) (fun j => ?hr1) ?kr1
  case hr1 =>
   simp only [impl_rows.l0]
   rw [if_pos q1,e0,e1,e2,if_pos (Int.natCast_nonneg _),if_pos q2,if_pos q3,Int.toNat_natCast,Int.toNat_natCast] <;> exact rfl
  refine Ev.bind hrow (Ev_t q4 ?_)
  rw [rowsB_snoc]
  exact hs
 ·refine Ev.step (f:=fun _ => some (B (TT n l n))) (fun j => ?_) (Ev.now _)
  simp only [impl_rows.l0]
  have hT:=TT_len n hn l n
  have e : ((⟨#[47]⟩ : ByteArray)).data.toList = [47]:=rfl
  rw [if_neg (by omega)]
  unfold strings_Join.f
  rw [e,rowsB_join,if_pos ⟨by simp [rowsB];omega,by omega⟩]
  rfl
def WW (n : Nat) (l : List Int) (i k : Nat) : List UInt8:=if k = 0 then TT n l i else TT n l i ++ (sepOf i ++ rowk n l i k)
theorem WW_len (n : Nat) (hn : n ≤ 4) (l : List Int) (i k : Nat) (hi : i ≤ 4) (hk : k ≤ 4) : (WW n l i k).length ≤ 25:=by
 have h1:=TT_len n hn l i
 have h2:=sepOf_len i
 unfold WW
 by_cases h : k = 0
 ·rw [if_pos h];omega
 ·rw [if_neg h];simp only [List.length_append,rowk_len];omega
end Go.Proofs.YtfjfdlgcneclfaaDoor.V
end
section
set_option linter.unusedVariables false
set_option linter.unusedSimpArgs false
namespace Go.Proofs.YtfjfdlgcneclfaaDoor.V
open Go Go.Proofs.YtfjfdlgcneclfaaDoor.R Go.RowKit
open Go.Proofs.YtfjfdlgcneclfaaDoorW.PrintWords hiding mn mx
def ix (b : UInt8) : Int:=if b = 48 then 0 else if b = 49 then 1 else if b = 119 then 2 else if b = 45 then 3 else -1
theorem ix_in (b : UInt8) : -1 ≤ ix b ∧ ix b ≤ 3:=by
 unfold ix
 repeat' split
 all_goals omega
theorem ch_ix {b : UInt8} (h : 0 ≤ ix b) : ch (ix b) = b:=by
 unfold ix at h ⊢
 by_cases a : b = 48
 ·rw [if_pos a,a];rfl
 ·by_cases c : b = 49
  ·rw [if_neg a,if_pos c,c];rfl
  ·by_cases d : b = 119
   ·rw [if_neg a,if_neg c,if_pos d,d];rfl
   ·by_cases e : b = 45
    ·rw [if_neg a,if_neg c,if_neg d,if_pos e,e];rfl
    ·rw [if_neg a,if_neg c,if_neg d,if_neg e] at h;omega
theorem ch_ne (g : Int) : ch g ≠ 47:=by
 unfold ch
 repeat' split
 all_goals decide
theorem byte_back (b : UInt8) : ((b.toNat : Int)).toNat.toUInt8 = b:=by
 rw [Int.toNat_natCast]
 exact UInt8.ofNat_toNat
theorem index_ix (b : UInt8) : Lib.indexByte [48,49,119,45] b = ix b:=by
 unfold ix
 simp only [Lib.indexByte]
 by_cases h1 : b = 48
 ·subst h1;rfl
 ·by_cases h2 : b = 49
  ·subst h2;rfl
  ·by_cases h3 : b = 119
   ·subst h3;rfl
   ·by_cases h4 : b = 45
    ·subst h4;rfl
    ·have n1 : ((48 : UInt8) == b) = false:=by simpa using fun e => h1 e.symm
     have n2 : ((49 : UInt8) == b) = false:=by simpa using fun e => h2 e.symm
     have n3 : ((119 : UInt8) == b) = false:=by simpa using fun e => h3 e.symm
     have n4 : ((45 : UInt8) == b) = false:=by simpa using fun e => h4 e.symm
     simp only [n1,n2,n3,n4]
     simp [h1,h2,h3,h4]
theorem iFind (b : UInt8) : strings_IndexByte.f (⟨#[48,49,119,45]⟩ : ByteArray) (b.toNat : Int) = some (ix b):=by
 unfold strings_IndexByte.f
 rw [byte_back]
 exact congrArg some (index_ix b)
theorem letters4 : L (⟨#[48,49,119,45]⟩ : ByteArray) = [48,49,119,45]:=rfl
theorem sFind (b : UInt8) : Ev (fun k => spec_l13Find.f k (⟨#[48,49,119,45]⟩ : ByteArray) (b.toNat : Int)) (ix b):=by
 unfold spec_l13Find.f
 have sz : (⟨#[48,49,119,45]⟩ : ByteArray).size = 4:=rfl
 have stop : Ev (fun k => spec_l13Find.l0 k (⟨#[48,49,119,45]⟩ : ByteArray) (b.toNat : Int) ((4 : Nat) : Int)) (-1):=by
  refine Ev.step (f:=fun _ => some (-1)) (fun k => ?_) (Ev.now _)
  simp only [spec_l13Find.l0]
  rw [if_neg (by rw [sz];omega)]
 have one : ∀ (i : Nat) (c : UInt8) (r : Int),i < 4 → btI (⟨#[48,49,119,45]⟩ : ByteArray) (i : Int) = (c.toNat : Int) → (b ≠ c → Ev (fun k => spec_l13Find.l0 k (⟨#[48,49,119,45]⟩ : ByteArray) (b.toNat : Int) ((i + 1 : Nat) : Int)) r) → (b = c → (i : Int) = r) → Ev (fun k => spec_l13Find.l0 k (⟨#[48,49,119,45]⟩ : ByteArray) (b.toNat : Int) (i : Int)) r:=by
  intro i c r hi hc hn hy
  have e : wrap64 ((i : Int) + 1) = ((i + 1 : Nat) : Int):=by rw [w64 (by omega) (by omega)];rfl
  by_cases q : b = c
  ·refine Ev.step (f:=fun _ => some (i : Int)) (fun k => ?_) ((Ev.now _).is (hy q))
   simp only [spec_l13Find.l0]
   rw [if_pos (by rw [sz];omega),if_pos (Int.natCast_nonneg _),hc,q,if_pos rfl]
  ·refine Ev.step (fun k => ?_) (hn q)
   simp only [spec_l13Find.l0]
   rw [if_pos (by rw [sz];omega),if_pos (Int.natCast_nonneg _),hc,if_neg (fun h => u8_ne q h.symm),e]
 unfold ix
 refine one 0 48 _ (by decide) rfl (fun h0 => ?_) (fun h => by rw [if_pos h];rfl)
 rw [if_neg h0]
 refine one 1 49 _ (by decide) rfl (fun h1 => ?_) (fun h => by rw [if_pos h];rfl)
 rw [if_neg h1]
 refine one 2 119 _ (by decide) rfl (fun h2 => ?_) (fun h => by rw [if_pos h];rfl)
 rw [if_neg h2]
 refine one 3 45 _ (by decide) rfl (fun h3 => ?_) (fun h => by rw [if_pos h];rfl)
 rw [if_neg h3]
 exact stop
def nP (s : List UInt8) : Nat:=(cutL s).length
def cP (s : List UInt8) : List Int:=(cutL s).flatten.map ix
def fgT (n : Nat) (l : List Int) : List UInt8:=if GV (n : Int) l then TT n l n else []
theorem iFormatAny (n : Nat) (l : List Int) (hl : l.length ≤ maxLen) : Ev (fun k => impl_FormatGrades.f k (n : Int) l) (B (fgT n l)):=by
 unfold fgT
 by_cases g : GV (n : Int) l
 ·rw [if_pos g];exact iFormat n l g
 ·rw [if_neg g]
  unfold impl_FormatGrades.f
  exact Ev.bind (iGV n l hl) (Ev_f (by rw [decide_eq_false g];simp) (Ev.now _))
def prI (s : List UInt8) : Int × List Int × Bool:=if s ≠ [] ∧ fgT (nP s) (cP s) = s then ((nP s : Int),cP s,true) else (0,[],false)
def prS (s : List UInt8) : Int × List Int × Bool:=if (∀ r ∈ cutL s,r.length = nP s) ∧ GV (nP s : Int) (cP s) then ((nP s : Int),cP s,true) else (0,[],false)
theorem flat_row (n : Nat) : ∀ (R : List (List UInt8)) (i : Nat) (hi : i < R.length),(∀ r ∈ R,r.length = n) → (R.flatten.drop (i * n)).take n = R[i]
 | [],i,hi,_ => absurd hi (Nat.not_lt_zero _)
 | r :: R,0,_,h => by
  have hr:=h r (List.mem_cons_self ..)
  rw [Nat.zero_mul,List.drop_zero,List.flatten_cons,List.take_left' hr];rfl
 | r :: R,i + 1,hi,h => by
  have hr:=h r (List.mem_cons_self ..)
  have e : (i + 1) * n = r.length + i * n:=by rw [hr,Nat.succ_mul,Nat.add_comm]
  rw [List.flatten_cons,e,List.drop_append]
  have:=flat_row n R i (by simpa using hi) (fun x hx => h x (List.mem_cons_of_mem _ hx))
  rw [List.drop_eq_nil_of_le (by omega),List.nil_append,show r.length + i * n - r.length = i * n by omega,this];rfl
theorem rows_rowsB (n : Nat) (l : List Int) : (rowsB n l n).map (fun x => x.data.toList) = (List.range n).map fun i => rowk n l i n:=by
 unfold rowsB
 rw [List.map_map]
 exact List.map_congr_left fun i _ => B_toList _
theorem parse_same (s : List UInt8) : prI s = prS s:=by
 have hne:=cutL_ne s
 have n1 : 1 ≤ nP s:=List.length_pos_iff.2 hne
 have key : (s ≠ [] ∧ fgT (nP s) (cP s) = s) ↔ ((∀ r ∈ cutL s,r.length = nP s) ∧ GV (nP s : Int) (cP s)):=by
  constructor
  ·rintro ⟨h0,h1⟩
   unfold fgT at h1
   by_cases g : GV (nP s : Int) (cP s)
   case neg => rw [if_neg g] at h1;exact absurd h1.symm h0
   rw [if_pos g] at h1
   refine ⟨?_,g⟩
   have hj:=rowsB_join (nP s) (cP s) (nP s)
   rw [h1,rows_rowsB] at hj
   obtain ⟨m,hm⟩ : ∃ m,nP s = m + 1:=⟨nP s - 1,by omega⟩
   have hr : ∃ x r,(List.range (nP s)).map (fun i => rowk (nP s) (cP s) i (nP s)) = x :: r:=List.exists_cons_of_ne_nil (by simp;omega)
   obtain ⟨x,r,hr⟩:=hr
   have hno : ∀ y ∈ x :: r,∀ b ∈ y,b ≠ 47:=by
    intro y hy b hb
    rw [← hr] at hy
    obtain ⟨i,_,rfl⟩:=List.mem_map.1 hy
    obtain ⟨k,_,rfl⟩:=List.mem_map.1 hb
    exact ch_ne _
   rw [hr] at hj
   have hc:=join_cutL x r hno
   rw [hj,← hr] at hc
   intro y hy
   rw [hc] at hy
   obtain ⟨i,_,rfl⟩:=List.mem_map.1 hy
   exact rowk_len _ _ _ _
  ·rintro ⟨h0,g⟩
   have hrow : (List.range (nP s)).map (fun i => rowk (nP s) (cP s) i (nP s)) = cutL s:=by
    apply List.ext_getElem
    ·rw [List.length_map,List.length_range];rfl
    ·intro i q1 q2
     rw [List.getElem_map,List.getElem_range]
     have hi : i < nP s:=q2
     have h2 : (i + 1) * nP s = i * nP s + nP s:=Nat.succ_mul i (nP s)
     have hf:=flat_row (nP s) (cutL s) i q2 h0
     rw [← rowk_eq (nP s) (cP s) (GV_len g) i hi,List.drop_take,h2,Nat.add_sub_cancel_left]
     unfold cP
     rw [← List.map_drop,← List.map_take,hf,List.map_map]
     have hid : ∀ b ∈ (cutL s)[i],(ch ∘ ix) b = b:=fun b hb => by
      have hm : ix b ∈ cP s:=List.mem_map.2 ⟨b,List.mem_flatten.2 ⟨_,List.getElem_mem q2,hb⟩,rfl⟩
      exact ch_ix (g.1.2.2.2 _ hm).1
     exact (List.map_congr_left (g:=id) hid).trans (List.map_id _)
   have hT : TT (nP s) (cP s) (nP s) = s:=by
    rw [← rowsB_join,rows_rowsB,hrow,cutL_join]
   refine ⟨fun e => ?_,by unfold fgT;rw [if_pos g,hT]⟩
   subst e
   have:=h0 [] (by simp [cutL])
   simp at this
   omega
 unfold prI prS
 by_cases h : s ≠ [] ∧ fgT (nP s) (cP s) = s
 ·rw [if_pos h,if_pos (key.1 h)]
 ·rw [if_neg h,if_neg (fun q => h (key.2 q))]
theorem iParseRow (x0 : ByteArray) (row : List UInt8) (y2 : List ByteArray) (x10 : Int) (x11 sz : Int) (r : Int × List Int × Bool) (acc0 : List Int) (hl : acc0.length + row.length ≤ 2000000)
  (next : Ev (fun k => impl_ParseGrades.l0 k x0 y2 x10 (wrap64 (x11 + 1)) sz (acc0 ++ row.map ix)) r) : Ev (fun k => impl_ParseGrades.l1 k x0 (B row) y2 x10 x11 ((B row).size : Int) 0 sz acc0) r:=by
 have go : ∀ (t pre : List UInt8) (acc : List Int),row = pre ++ t → acc = acc0 ++ pre.map ix → Ev (fun k => impl_ParseGrades.l1 k x0 (B row) y2 x10 x11 ((B row).size : Int) (pre.length : Int) sz acc) r:=by
  intro t
  induction t with
  | nil =>
   intro pre acc hp ha
   have hz : (B row).size = pre.length:=by rw [B_size,hp];simp
   refine Ev.step (fun k => ?_) next
   simp only [impl_ParseGrades.l1]
   rw [if_neg (by rw [hz];omega),ha,hp,List.append_nil]
  | cons b t ih =>
   intro pre acc hp ha
   have hz : (B row).size = pre.length + (t.length + 1):=by rw [B_size,hp];simp
   have hlr : row.length = pre.length + (t.length + 1):=by rw [hp];simp
   have c1 : (pre.length : Int) < ((B row).size : Int):=by rw [hz];omega
   have c2 : acc.length < 17592186044416:=by rw [ha,List.length_append,List.length_map];omega
   have hb : btI (B row) (pre.length : Int) = (b.toNat : Int):=bt_suffix (by unfold B;rw [L_mk];exact hp)
   have nx:=ih (pre ++ [b]) (acc ++ [ix b]) (by rw [hp];simp) (by rw [ha];simp)
   have e : wrap64 ((pre.length : Int) + 1) = (((pre ++ [b]).length : Nat) : Int):=by rw [w64 (by omega) (by omega)];simp
   refine Ev.step (fun k => ?_) nx
   simp only [impl_ParseGrades.l1]
   rw [if_pos c1,if_pos (Int.natCast_nonneg _),if_pos c1,hb,iFind,Option.bind_some,if_pos c2,e]
 exact go row [] acc0 rfl (by simp)
theorem rdS_mid (pre : List (List UInt8)) (x : List UInt8) (t : List (List UInt8)) : rdS ((pre ++ x :: t).map B) (pre.length : Int) = B x:=by
 unfold rdS
 rw [Int.toNat_natCast,List.getD_eq_getElem?_getD,List.getElem?_map]
 simp
theorem iParse_ev (x : ByteArray) (h : x.size ≤ 1048576) : Ev (fun k => impl_ParseGrades.f k x) (prI (L x)):=by
 have hsz:=L_size x
 have hcl:=cutL_len (L x)
 obtain ⟨R,hR⟩ : ∃ R,cutL (L x) = R:=⟨_,rfl⟩
 have hn : nP (L x) = R.length:=by unfold nP;rw [hR]
 have hc : cP (L x) = R.flatten.map ix:=by unfold cP;rw [hR]
 rw [hR] at hcl
 have hpc : pcs x = R.map B:=by unfold pcs;rw [hR]
 unfold impl_ParseGrades.f
 rw [split_pcs x (by omega),hpc]
 have fin : Ev (fun k => impl_ParseGrades.l0 k x (R.map B) (((R.map B).length : Nat) : Int) (R.length : Int) (R.length : Int) (R.flatten.map ix)) (prI (L x)):=by
  refine Ev.step (f:=?fp9) (fun k => ?hp9) ?kp9
  case hp9 => simp only [impl_ParseGrades.l0];rw [if_neg (by rw [List.length_map];omega),toList_L] <;> exact rfl
  have pe : prI (L x) = if L x ≠ [] ∧ fgT R.length (R.flatten.map ix) = L x then ((R.length : Int),R.flatten.map ix,true) else (0,[],false):=by unfold prI;rw [hn,hc]
  rw [pe]
  by_cases q : L x = []
  ·exact Ev_t q ((Ev.now _).is (by rw [if_neg (fun z => z.1 q)]))
  ·refine Ev_f q (Ev.bind (iFormatAny R.length (R.flatten.map ix) (by rw [maxLen_eq,List.length_map];omega)) ?_)
   by_cases q2 : fgT R.length (R.flatten.map ix) = L x
   ·refine Ev_t (by rw [toList_L];unfold B;rw [L_mk];exact q2) ((Ev.now _).is (by rw [if_pos ⟨q,q2⟩]))
   ·refine Ev_f (by rw [toList_L];unfold B;rw [L_mk];exact q2) ((Ev.now _).is (by rw [if_neg (fun z => q2 z.2)]))
 have go : ∀ (t pre : List (List UInt8)),R = pre ++ t → Ev (fun k => impl_ParseGrades.l0 k x (R.map B) (((R.map B).length : Nat) : Int) (pre.length : Int) (pre.length : Int) (pre.flatten.map ix)) (prI (L x)):=by
  intro t
  induction t with
  | nil =>
   intro pre hp
   rw [List.append_nil] at hp
   subst hp
   exact fin
  | cons y t ih =>
   intro pre hp
   have hlr : R.length = pre.length + (t.length + 1):=by rw [hp];simp
   have hfl : R.flatten.length = pre.flatten.length + (y.length + t.flatten.length):=by rw [hp];simp
   have c1 : (pre.length : Int) < (((R.map B).length : Nat) : Int):=by rw [List.length_map];omega
   have nx:=ih (pre ++ [y]) (by rw [hp];simp)
   have e : wrap64 ((pre.length : Int) + 1) = (((pre ++ [y]).length : Nat) : Int):=by rw [w64 (by omega) (by omega)];simp
   have e2 : (pre ++ [y]).flatten.map ix = pre.flatten.map ix ++ y.map ix:=by simp
   rw [← e,e2] at nx
   have rd1 : rdS (R.map B) (pre.length : Int) = B y:=by rw [hp];exact rdS_mid pre y t
   have row:=iParseRow x y (R.map B) (((R.map B).length : Nat) : Int) (pre.length : Int) (wrap64 ((pre.length : Int) + 1)) (prI (L x)) (pre.flatten.map ix) (by rw [List.length_map];omega) nx
   refine Ev.step (fun k => ?_) row
   simp only [impl_ParseGrades.l0]
   rw [if_pos c1,if_pos (Int.natCast_nonneg _),if_pos c1,rd1]
 exact Ev.congr (fun k => Option.bind_some _ _) (go R [] rfl)
theorem sCut_ev (x : ByteArray) (h : x.size ≤ 1048576) : Ev (fun k => spec_l13Cut.f k x 47) (pcs x):=by
 have hsz:=L_size x
 unfold spec_l13Cut.f
 have go : ∀ (e u cur : List UInt8) (acc : List ByteArray) (y : List UInt8) (r : List (List UInt8)),L x = u ++ (cur ++ e) → acc.length ≤ u.length → cutL e = y :: r → Ev (fun k => spec_l13Cut.l0 k x 47 acc (u.length : Int) ((u.length + cur.length : Nat) : Int)) (acc ++ ((cur ++ y) :: r).map B):=by
  intro e
  induction e with
  | nil =>
   intro u cur acc y r hx ha hy
   have hl : x.size = u.length + cur.length:=by rw [hsz,hx];simp
   obtain ⟨rfl,rfl⟩ : [] = y ∧ [] = r:=by simpa [cutL] using hy
   have c1 : ((u.length + cur.length : Nat) : Int) = (x.size : Int):=by rw [hl]
   have ex : x.extract u.length (u.length + cur.length) = B cur:=by
    apply L_inj
    rw [L_extract,hx,List.append_nil]
    unfold B
    rw [L_mk,List.take_of_length_le (by simp),List.drop_left' rfl]
   have e1 : wrap64 (((u.length + cur.length : Nat) : Int) + 1) = ((u.length + cur.length + 1 : Nat) : Int):=by rw [w64 (by omega) (by omega)];rfl
   have last : Ev (fun k => spec_l13Cut.l0 k x 47 (acc ++ [B cur]) ((u.length + cur.length + 1 : Nat) : Int) ((u.length + cur.length + 1 : Nat) : Int)) (acc ++ ((cur ++ []) :: []).map B):=by
    refine Ev.step (f:=fun _ => some (acc ++ [B cur])) (fun k => ?_) ((Ev.now _).is (by simp))
    simp only [spec_l13Cut.l0]
    rw [if_neg (by omega)]
   refine Ev.step (fun k => ?_) last
   simp only [spec_l13Cut.l0]
   rw [if_pos (by omega),if_pos c1,if_pos (Int.natCast_nonneg _),if_pos (by omega),if_pos (by omega),Int.toNat_natCast,Int.toNat_natCast,ex,e1]
  | cons b e ih =>
   intro u cur acc y r hx ha hy
   have hl : x.size = u.length + cur.length + (e.length + 1):=by rw [hsz,hx];simp;omega
   have hb : btI x ((u.length + cur.length : Nat) : Int) = (b.toNat : Int):=by
    have:=bt_suffix (s:=x) (u:=u ++ cur) (c:=b) (e:=e) (by rw [hx];simp)
    rwa [List.length_append] at this
   have e1 : wrap64 (((u.length + cur.length : Nat) : Int) + 1) = ((u.length + cur.length + 1 : Nat) : Int):=by rw [w64 (by omega) (by omega)];rfl
   obtain ⟨y',r',hy'⟩:=List.exists_cons_of_ne_nil (cutL_ne e)
   by_cases q : b = 47
   ·subst q
    rw [cutL_stroke,hy'] at hy
    obtain ⟨rfl,rfl⟩ : [] = y ∧ y' :: r' = r:=by simpa using hy
    have ex : x.extract u.length (u.length + cur.length) = B cur:=by
     apply L_inj
     rw [L_extract,hx]
     unfold B
     rw [L_mk,← List.append_assoc,List.take_left' (by simp),List.drop_left' rfl]
    have nx:=ih (u ++ cur ++ [47]) [] (acc ++ [B cur]) y' r' (by rw [hx];simp) (by simp;omega) hy'
    have lu : (u ++ cur ++ [47]).length = u.length + cur.length + 1:=by simp;omega
    rw [lu] at nx
    refine Ev.step (fun k => ?_) (nx.is (by simp))
    simp only [spec_l13Cut.l0]
    rw [if_pos (by omega),if_neg (by omega),if_pos (Int.natCast_nonneg _),if_pos (by omega),hb,if_pos (show (((47 : UInt8).toNat : Nat) : Int) = 47 from rfl),if_pos (Int.natCast_nonneg _),if_pos (by omega),if_pos (by omega),Int.toNat_natCast,Int.toNat_natCast,ex,e1]
    rfl
   ·rw [cutL_cons q hy'] at hy
    obtain ⟨rfl,rfl⟩ : b :: y' = y ∧ r' = r:=by simpa using hy
    have nx:=ih u (cur ++ [b]) acc y' r' (by rw [hx];simp) ha hy'
    have lu : u.length + (cur ++ [b]).length = u.length + cur.length + 1:=by simp;omega
    rw [lu] at nx
    have nq : ¬ (b.toNat : Int) = 47:=u8_ne (d:=47) q
    refine Ev.step (fun k => ?_) (nx.is (by simp))
    simp only [spec_l13Cut.l0]
    rw [if_pos (by omega),if_neg (by omega),if_pos (Int.natCast_nonneg _),if_pos (by omega),hb,if_neg nq,e1]
 obtain ⟨y,r,hy⟩:=List.exists_cons_of_ne_nil (cutL_ne (L x))
 have:=go (L x) [] [] [] y r (by simp) (Nat.le_refl _) hy
 refine this.is ?_
 unfold pcs
 rw [hy];simp
theorem sParseRow (row : List UInt8) (y1 : List ByteArray) (x16 x17 sz : Int) (r : Int × List Int × Bool) (acc0 : List Int) (hl : acc0.length + row.length ≤ 2000000)
  (next : Ev (fun k => if ((B row).size : Int) = (y1.length : Int) then spec_ParseGrades.l0 k y1 x16 (wrap64 (x17 + 1)) sz (acc0 ++ row.map ix) else some (0,[],false)) r) : Ev (fun k => spec_ParseGrades.l1 k y1 (B row) x16 x17 ((B row).size : Int) 0 sz acc0) r:=by
 have go : ∀ (t pre : List UInt8) (acc : List Int),row = pre ++ t → acc = acc0 ++ pre.map ix → Ev (fun k => spec_ParseGrades.l1 k y1 (B row) x16 x17 ((B row).size : Int) (pre.length : Int) sz acc) r:=by
  intro t
  induction t with
  | nil =>
   intro pre acc hp ha
   have hz : (B row).size = pre.length:=by rw [B_size,hp];simp
   refine Ev.step (fun k => ?_) next
   simp only [spec_ParseGrades.l1]
   rw [if_neg (show ¬ (pre.length : Int) < ((B row).size : Int) by rw [hz];omega),ha,hp,List.append_nil]
  | cons b t ih =>
   intro pre acc hp ha
   have hz : (B row).size = pre.length + (t.length + 1):=by rw [B_size,hp];simp
   have hlr : row.length = pre.length + (t.length + 1):=by rw [hp];simp
   have c1 : (pre.length : Int) < ((B row).size : Int):=by rw [hz];omega
   have c2 : acc.length < 17592186044416:=by rw [ha,List.length_append,List.length_map];omega
   have hb : btI (B row) (pre.length : Int) = (b.toNat : Int):=bt_suffix (by unfold B;rw [L_mk];exact hp)
   have nx:=ih (pre ++ [b]) (acc ++ [ix b]) (by rw [hp];simp) (by rw [ha];simp)
   have e : wrap64 ((pre.length : Int) + 1) = (((pre ++ [b]).length : Nat) : Int):=by rw [w64 (by omega) (by omega)];simp
   refine Ev.step (f:=?fs1) (fun k => ?hs1) ?ks1
   case hs1 => simp only [spec_ParseGrades.l1];rw [if_pos c1,if_pos (Int.natCast_nonneg _),if_pos c1,hb,e] <;> exact rfl
   exact Ev.bind (sFind b) (Ev_t c2 nx)
 exact go row [] acc0 rfl (by simp)
theorem sParse_ev (x : ByteArray) (h : x.size ≤ 1048576) : Ev (fun k => spec_ParseGrades.f k x) (prS (L x)):=by
 have hsz:=L_size x
 have hcl:=cutL_len (L x)
 have hct:=sCut_ev x h
 obtain ⟨R,hR⟩ : ∃ R,cutL (L x) = R:=⟨_,rfl⟩
 have hn : nP (L x) = R.length:=by unfold nP;rw [hR]
 have hc : cP (L x) = R.flatten.map ix:=by unfold cP;rw [hR]
 rw [hR] at hcl
 have hpc : pcs x = R.map B:=by unfold pcs;rw [hR]
 rw [hpc] at hct
 unfold spec_ParseGrades.f
 refine Ev.bind hct ?_
 have pe : prS (L x) = if (∀ r ∈ R,r.length = R.length) ∧ GV (R.length : Int) (R.flatten.map ix) then ((R.length : Int),R.flatten.map ix,true) else (0,[],false):=by unfold prS;rw [hn,hc,hR]
 have go : ∀ (t pre : List (List UInt8)),R = pre ++ t → (∀ r ∈ pre,r.length = R.length) → Ev (fun k => spec_ParseGrades.l0 k (R.map B) (((R.map B).length : Nat) : Int) (pre.length : Int) (((R.map B).length : Nat) : Int) (pre.flatten.map ix)) (prS (L x)):=by
  intro t
  induction t with
  | nil =>
   intro pre hp hall
   rw [List.append_nil] at hp
   subst hp
   refine Ev.step (f:=?fp8) (fun k => ?hp8) ?kp8
   case hp8 => simp only [spec_ParseGrades.l0];rw [if_neg (by rw [List.length_map];omega),List.length_map] <;> exact rfl
   rw [pe]
   refine Ev.bind (sGV (R.length : Int) (R.flatten.map ix) (by rw [maxLen_eq,List.length_map];omega)) ?_
   by_cases q : GV (R.length : Int) (R.flatten.map ix)
   ·exact Ev_t (decide_eq_true q) ((Ev.now _).is (by rw [if_pos ⟨hall,q⟩]))
   ·exact Ev_f (by rw [decide_eq_false q];simp) ((Ev.now _).is (by rw [if_neg (fun z => q z.2)]))
  | cons y t ih =>
   intro pre hp hall
   have hlr : R.length = pre.length + (t.length + 1):=by rw [hp];simp
   have hfl : R.flatten.length = pre.flatten.length + (y.length + t.flatten.length):=by rw [hp];simp
   have c1 : (pre.length : Int) < (((R.map B).length : Nat) : Int):=by rw [List.length_map];omega
   have e : wrap64 ((pre.length : Int) + 1) = (((pre ++ [y]).length : Nat) : Int):=by rw [w64 (by omega) (by omega)];simp
   have e2 : (pre ++ [y]).flatten.map ix = pre.flatten.map ix ++ y.map ix:=by simp
   have rd1 : rdS (R.map B) (pre.length : Int) = B y:=by rw [hp];exact rdS_mid pre y t
   have nx : Ev (fun k => if ((B y).size : Int) = (((R.map B).length : Nat) : Int) then spec_ParseGrades.l0 k (R.map B) (((R.map B).length : Nat) : Int) (wrap64 ((pre.length : Int) + 1)) (((R.map B).length : Nat) : Int) (pre.flatten.map ix ++ y.map ix) else some (0,[],false)) (prS (L x)):=by
    by_cases q : y.length = R.length
    ·refine Ev_t (by rw [B_size,List.length_map,q]) ?_
     rw [e,← e2]
     exact ih (pre ++ [y]) (by rw [hp];simp) (fun r hr => by
      rcases List.mem_append.1 hr with hr|hr
      ·exact hall r hr
      ·rw [List.mem_singleton.1 hr];exact q)
    ·refine Ev_f (by rw [B_size,List.length_map];omega) ((Ev.now _).is ?_)
     rw [pe,if_neg (fun z => q (z.1 y (by rw [hp];simp)))]
   have row:=sParseRow y (R.map B) (((R.map B).length : Nat) : Int) (pre.length : Int) (((R.map B).length : Nat) : Int) (prS (L x)) (pre.flatten.map ix) (by rw [List.length_map];omega) nx
   refine Ev.step (fun k => ?_) row
   simp only [spec_ParseGrades.l0]
   rw [if_pos c1,if_pos (Int.natCast_nonneg _),if_pos c1,rd1]
 exact go R [] rfl (fun r hr => by cases hr)
end Go.Proofs.YtfjfdlgcneclfaaDoor.V
end
section
set_option linter.unusedVariables false
set_option linter.unusedSimpArgs false
namespace Go.Proofs.YtfjfdlgcneclfaaDoor.V
open Go Go.Proofs.YtfjfdlgcneclfaaDoor.R Go.RowKit
open Go.Proofs.YtfjfdlgcneclfaaDoorW.PrintWords hiding mn mx
theorem prI_len (s : List UInt8) (h : (cP s).length ≤ 1000000000) : (prI s).2.1.length ≤ 1000000000:=by
 unfold prI
 split
 ·exact h
 ·simp
theorem cP_len (s : List UInt8) : (cP s).length ≤ s.length:=by
 unfold cP
 rw [List.length_map]
 exact (cutL_len s).2
theorem PureFnExactParseGrades (a0 : ByteArray) (e0 : a0.size ≤ 140737488351232) : ∃ k,laws_FnExactParseGrades.f k a0 = some true:=by
 refine Ev.rounds (g:=fun k => laws_FnExactParseGrades.f k a0) (r:=true) ?_
 unfold laws_FnExactParseGrades.f
 by_cases h0 : (a0.size : Int) > 1048576
 ·exact Ev_t h0 (Ev.now _)
 have hz : a0.size ≤ 1048576:=by omega
 have cl:=cP_len (L a0)
 rw [← L_size] at cl
 have i1:=iParse_ev a0 hz
 have s1:=sParse_ev a0 hz
 rw [← parse_same] at s1
 have hl : (prI (L a0)).2.1.length ≤ 1048576:=by
  unfold prI
  split
  ·exact Nat.le_trans cl hz
  ·simp
 obtain ⟨⟨n,l,b⟩,hr⟩ : ∃ r,prI (L a0) = r:=⟨_,rfl⟩
 rw [hr] at i1 s1 hl
 have hl : l.length ≤ 1048576:=hl
 have eq:=eqMatrix_ev n l (by omega)
 have hm : Ev (fun k => laws_markMatrix.f k n l 1) (1 + (l.length : Int),count 1 l.length):=by
  unfold laws_markMatrix.f
  exact Ev.bind (markIntS_ev l 1 (by omega) (by omega) (by omega)) (Ev.now _)
 have hh : Ev (fun k => laws_heldMatrix.f k n (count 1 l.length) 1) (1 + (l.length : Int)):=by
  unfold laws_heldMatrix.f
  exact Ev.bind (heldIntS_ev l.length 1 (by omega) (by omega) (by omega)) (Ev_f (by omega) (Ev.now _))
 have nb : ¬ ((b != b) = true):=by simp
 exact Ev_f h0 (Ev.bind s1 (Ev.bind i1 (Ev.bind eq (Ev_t rfl (Ev_f nb (Ev.bind hm (Ev.bind hh (Ev_f (by omega) (Ev_t rfl (Ev.bind i1 (Ev.bind eq (Ev_t rfl (Ev_f nb (Ev.bind hh (Ev_f (by omega) (Ev_t rfl (Ev.now _)))))))))))))))))
end Go.Proofs.YtfjfdlgcneclfaaDoor.V
end
