import Derived.Test.YtfjfdlgcneclfaaDoorQFnGradesText2
import Derived.Test.YtfjfdlgcneclfaaDoorQFnGradesText4
import Derived.Deep.Slices
import Derived.Deep.Fields
import Derived.ChangeSame
import Derived.ChangeSlices
import Derived.Lib.SmallJoins
import Derived.WalkKit
import Derived.ProofKit
import Derived.OpenShut
import Derived.ShutString
import Derived.ChangeOld
import Derived.Below
import Derived.Test.YtfjfdlgcneclfaaDoorQFnGradesText3
import Derived.Test.YtfjfdlgcneclfaaDoorQFnGradesText5
import Derived.Lib.Bytealg
import Derived.Lib.Repeat
section
namespace Go.Proofs.YtfjfdlgcneclfaaDoor.V
open Go Go.Proofs.YtfjfdlgcneclfaaDoor.R Go.RowKit Go.Proofs.YtfjfdlgcneclfaaDoor.X Go.ChangeShapes Go.WideShapes Go.Deep Go.Proofs.YtfjfdlgcneclfaaDoorW.PrintWords Go.Proofs.YtfjfdlgcneclfaaDoorW.PrintLast Go.Proofs.YtfjfdlgcneclfaaDoorW.PrintMore
set_option linter.unusedVariables false
open Go.ChangeShapes Go.WideShapes Go.Deep
theorem field_ints {H : Type} {enc : TypeId × Value → H} {P : Program} {w : World} {base : Nat} {spare : Nat → Bool} {held : Bool} {t e : TypeId} {k : IntKind} {fuel : Nat} {v : Value} {x : DataW H × List MemPlace}
  (ht : P.underlying t = some (.slice e)) (he : P.underlying e = some (.int k)) (hc : P.cellsOf e = 1) (h : DataW.trod enc P w base spare held fuel t [v] = some x) :
  ∃ (A : Option Addr) (c : Nat) (l : List Int),v = .slice A l.length c ∧ Kd.C (Kd.int k) w A l.length l ∧ l.length ≤ c ∧ l.length ≤ maxLen ∧ ∀ n ∈ l,(Lit.int k n).wf = true:=by
 rcases open_ints ht he hc h with ⟨hcs,_⟩ | ⟨a,len,cap,zs,hcs,_,hl,hm,hz,_,hcell,hwf⟩
 ·simp at hcs
  obtain ⟨l,h1,h2,h3,h4,h5⟩:=ReadsInt.ofRowC (k:=k) (w:=w) (a:=none) (len:=0) (cap:=0) (zs:=[]) (.inl ⟨rfl,rfl,rfl,rfl⟩)
  exact ⟨none,0,l,by rw [hcs,← h1],Kd.C_of_reads (d:=(0 : Int)) (h1:=fun _ => rfl) h2,h5,h3,h4⟩
 ·simp at hcs
  have hr : ∃ l : List Int,len = l.length ∧ ReadsInt w k (some a) l.length l ∧ l.length ≤ maxLen ∧ (∀ x ∈ l,(Lit.int k x).wf = true):=by
   refine ⟨zs.take len,?_,?_,?_,fun x hx => hwf x (List.mem_of_mem_take hx)⟩
   ·rw [List.length_take,hz];split <;> omega
   ·have hlen : (zs.take len).length = len:=by rw [List.length_take,hz];split <;> omega
    refine ⟨rfl,by rw [hlen];exact Nat.le_trans hl hm,fun hn => ⟨a,rfl,fun j hj => ?_⟩⟩
    rw [hlen] at hj
    have hj2 : j < zs.length:=by rw [hz];split <;> omega
    rw [hcell j hj2]
    simp [List.getD_eq_getElem?_getD,hj]
   ·rw [List.length_take];exact Nat.le_trans (Nat.min_le_left _ _) (Nat.le_trans hl hm)
  obtain ⟨l,h1,h2,h3,h4⟩:=hr
  exact ⟨some a,cap,l,by rw [hcs,← h1],Kd.C_of_reads (d:=(0 : Int)) (h1:=fun _ => rfl) h2,by omega,h3,h4⟩
open Go.ChangeShapes Go.WideShapes Go.Deep
end Go.Proofs.YtfjfdlgcneclfaaDoor.V
end
section
namespace Go.Proofs.YtfjfdlgcneclfaaDoor.V
open Go Go.Proofs.YtfjfdlgcneclfaaDoor.R Go.RowKit Go.Proofs.YtfjfdlgcneclfaaDoor.X Go.ChangeShapes Go.WideShapes Go.Deep Go.Proofs.YtfjfdlgcneclfaaDoorW.PrintWords Go.Proofs.YtfjfdlgcneclfaaDoorW.PrintLast Go.Proofs.YtfjfdlgcneclfaaDoorW.PrintMore
set_option linter.unusedVariables false
set_option maxRecDepth 100000 in
theorem row_bytes {H : Type} {enc : TypeId × Value → H} {w : World} {base b0 : Nat} {r : Reach} {spare : Nat → Bool} {held : Bool} {v : Value} {d : DataW H} {p : List MemPlace}
  (hv : Value.okWide Tryd.prog w r b0 30 v) (h : DataW.Trod enc Tryd.prog w base spare held 30 v d p) :
  ∃ (A : Option Addr) (c : Nat) (l : List Int),v = .slice A l.length c ∧ Kd.C (Kd.int .u8) w A l.length l ∧ l.length ≤ c ∧ l.length ≤ maxLen ∧ ∀ x ∈ l,(Lit.int .u8 x).wf = true:=by
 obtain ⟨a0,len0,cap0,rfl⟩:=okWide_slice Tryd.underlying30 hv
 obtain ⟨fuel,hf⟩:=h
 exact field_ints Tryd.underlying30 Tryd.underlying5 (by kernel_rfl) (by simpa [Value.cells] using hf)
theorem ints_of_u8 {w : World} {A : Option Addr} {l : List Int} (h : Kd.C (Kd.int .u8) w A l.length l) : 0 < l.length → ∃ ad,A = some ad ∧ ∀ (i : Nat) (x : Int),l[i]? = some x → w.cell? (ad.add i) = some (.int .u8 x):=fun hp => by
 obtain ⟨ad,e,hh⟩:=h.2.2 hp
 refine ⟨ad,e,fun i x hx => ?_⟩
 obtain ⟨c,_,hk,hc⟩:=hh i x hx
 have hk : c = [Value.int .u8 x]:=hk
 subst hk
 have:=hc 0 _ rfl
 rw [show (Kd.int IntKind.u8).sz = 1 from rfl,Nat.mul_one,Nat.add_zero] at this
 exact this
end Go.Proofs.YtfjfdlgcneclfaaDoor.V
end
section
set_option linter.unusedVariables false
set_option linter.unusedSimpArgs false
namespace Go.Proofs.YtfjfdlgcneclfaaDoor.V
open Go Go.Proofs.YtfjfdlgcneclfaaDoor.R Go.RowKit
open Go.Proofs.YtfjfdlgcneclfaaDoorW.PrintWords hiding mn mx
def L (s : ByteArray) : List UInt8:=s.data.toList
theorem L_size (s : ByteArray) : s.size = (L s).length:=by simp [L]
theorem L_mk (l : List UInt8) : L ⟨l.toArray⟩ = l:=by simp [L]
theorem L_inj {s t : ByteArray} (h : L s = L t) : s = t:=by
 cases s;cases t;simp [L] at h;subst h;rfl
theorem toList_L (s : ByteArray) : s.toList = L s:=ByteArray.toList_eq s
theorem L_extract (s : ByteArray) (a b : Nat) : L (s.extract a b) = ((L s).take b).drop a:=by
 simp [L,ByteArray.data_extract,Array.toList_extract,List.extract,List.drop_take]
theorem L_append (s t : ByteArray) : L (s ++ t) = L s ++ L t:=by simp [L,ByteArray.data_append]
theorem L_nil {s : ByteArray} : s.toList = ([] : List UInt8) ↔ L s = []:=by rw [toList_L]
theorem bt_L (s : ByteArray) (i : Int) : btI s i = (((L s).getD i.toNat 0).toNat : Int):=by
 unfold btI L
 split
 ·next h =>
  have h' : i.toNat < s.data.toList.length:=by simpa using h
  rw [List.getD_eq_getElem?_getD,List.getElem?_eq_getElem h']
  simp;rfl
 ·next h =>
  have h' : s.data.toList.length ≤ i.toNat:=by simpa using h
  rw [List.getD_eq_getElem?_getD,List.getElem?_eq_none h'];rfl
theorem w64 {x : Int} (h0 : -9223372036854775808 ≤ x) (h1 : x ≤ 9223372036854775807) : wrap64 x = x:=by unfold wrap64;omega
theorem _root_.Go.Proofs.YtfjfdlgcneclfaaDoorW.PrintWords.Ev.is {α : Type} {g : Nat → Option α} {r r' : α} (h : Ev g r) (e : r = r') : Ev g r':=e ▸ h
theorem bt_suffix {s : ByteArray} {u : List UInt8} {c : UInt8} {e : List UInt8} (h : L s = u ++ c :: e) : btI s u.length = (c.toNat : Int):=by
 rw [bt_L,h];simp [List.getD_eq_getElem?_getD]
theorem size_suffix {s : ByteArray} {u e : List UInt8} (h : L s = u ++ e) : s.size = u.length + e.length:=by rw [L_size,h];simp
theorem u8_ne {c d : UInt8} (h : c ≠ d) : ¬ ((c.toNat : Int) = (d.toNat : Int)):=by
 intro e;exact h (UInt8.toNat.inj (by exact_mod_cast e))
def B (l : List UInt8) : ByteArray:=⟨l.toArray⟩
theorem B_add (a b : List UInt8) : B a ++ B b = B (a ++ b):=L_inj (by rw [L_append];unfold B;rw [L_mk,L_mk,L_mk])
theorem B_size (a : List UInt8) : (B a).size = a.length:=by rw [L_size];unfold B;rw [L_mk]
theorem B_toList (a : List UInt8) : (B a).data.toList = a:=by unfold B;simp
theorem B_L (x : ByteArray) : B (L x) = x:=L_inj (by unfold B;rw [L_mk])
theorem rd_mid (pre : List Int) (x : Int) (t : List Int) : rdI (pre ++ x :: t) (pre.length : Int) = x:=by simp [rdI,List.getD_eq_getElem?_getD]
theorem rd_nat (l : List Int) (i : Nat) : rdI l (i : Int) = l.getD i 0:=by simp [rdI]
theorem snoc_len (pre : List Int) (x : Int) : (((pre ++ [x]).length : Nat) : Int) = (pre.length : Int) + 1:=by simp
theorem wf_in {n : Int} (h : (Lit.int .i64 n).wf = true) : -9223372036854775808 ≤ n ∧ n ≤ 9223372036854775807:=by
 have hmin : IntKind.i64.min = -9223372036854775808:=rfl
 have hmax : IntKind.i64.max = 9223372036854775807:=rfl
 simp only [Lit.wf,Bool.and_eq_true,decide_eq_true_eq] at h
 omega
theorem maxLen_eq : maxLen = 9223372036854775807:=rfl
theorem ev_all {α : Type} {f : Nat → Nat → Option α} {g : Nat → α} (n : Nat) (h : ∀ i,i < n → Ev (f i) (g i)) : ∃ K0,∀ K,K0 ≤ K → ∀ i,i < n → f i K = some (g i):=by
 induction n with
 | zero => exact ⟨0,fun _ _ i hi => by omega⟩
 | succ n ih =>
  obtain ⟨K0,h0⟩:=ih (fun i hi => h i (by omega))
  obtain ⟨K1,h1⟩:=h n (by omega)
  refine ⟨max K0 K1,fun K hK i hi => ?_⟩
  by_cases e : i = n
  ·subst e;exact h1 K (by omega)
  ·exact h0 K (by omega) i (by omega)
theorem ev_up {α : Type} {f : Nat → Option α} {p : Nat → Nat → Option α} {r : α} (h : Ev f r) (hp : ∃ K0,∀ K,K0 ≤ K → ∀ j,LeO (f j) (p K (j + 1))) (hm : ∀ K j,LeO (p K j) (p K (j + 1))) : Ev (fun K => p K K) r:=by
 obtain ⟨K1,h1⟩:=h
 obtain ⟨K0,h0⟩:=hp
 refine ⟨max K0 (K1 + 1),fun K hK => ?_⟩
 have a:=h0 K (by omega) K1 r (h1 K1 (Nat.le_refl _))
 exact at_rounds (g:=p K) (hm K) (show K1 + 1 ≤ K by omega) a
theorem ev_some {α : Type} {f : Nat → Option α} {r : α} (h : ∀ k,f k = some r) : Ev f r:=⟨0,fun k _ => h k⟩
theorem up_loop {β : Type} (n : Nat) (L : Nat → Nat → Option β) (r : β) (step : ∀ i,i < n → Ev (L (i + 1)) r → Ev (L i) r) (h : Ev (L n) r) : Ev (L 0) r:=by
 have go : ∀ d,d ≤ n → Ev (L (n - d)) r:=by
  intro d
  induction d with
  | zero => intro _;exact h
  | succ d ih =>
   intro hd
   have e : n - (d + 1) + 1 = n - d:=by omega
   exact step (n - (d + 1)) (by omega) (by rw [e];exact ih (by omega))
 have:=go n (Nat.le_refl _)
 rwa [Nat.sub_self] at this
def tab (N : Nat) (F : Nat → Int) : List Int:=(List.range N).map F
theorem tab_length (N : Nat) (F : Nat → Int) : (tab N F).length = N:=by simp [tab]
theorem tab_snoc (N : Nat) (F : Nat → Int) : tab N F ++ [F N] = tab (N + 1) F:=by simp [tab,List.range_succ]
theorem tab_get (N : Nat) (F : Nat → Int) (j : Nat) (h : j < N) : (tab N F).getD j 0 = F j:=by
 simp [tab,List.getD_eq_getElem?_getD,List.getElem?_map,List.getElem?_range h]
theorem tab_congr (N : Nat) (F G : Nat → Int) (h : ∀ j,j < N → F j = G j) : tab N F = tab N G:=by
 unfold tab
 exact List.map_congr_left (fun j hj => h j (List.mem_range.mp hj))
theorem mem_tab {N : Nat} {F : Nat → Int} {x : Int} : x ∈ tab N F ↔ ∃ j,j < N ∧ F j = x:=by simp [tab]
theorem eq_tab (l : List Int) (N : Nat) (h : l.length = N) : l = tab N (fun j => l.getD j 0):=by
 apply List.ext_getElem
 ·simp [tab,h]
 ·intro i h1 h2
  simp [tab,List.getD_eq_getElem?_getD,List.getElem?_eq_getElem h1]
theorem fold_snoc {β : Type} (n : Nat) (f : β → Nat → β) (b : β) : (List.range (n + 1)).foldl f b = f ((List.range n).foldl f b) n:=by simp [List.range_succ]
theorem Ev_t {α : Type} {f g : Nat → Option α} {r : α} {c : Prop} [Decidable c] (h : c) (k : Ev f r) : Ev (fun n => if c then f n else g n) r:=Ev.congr (fun n => if_pos h) k
theorem Ev_f {α : Type} {f g : Nat → Option α} {r : α} {c : Prop} [Decidable c] (h : ¬ c) (k : Ev g r) : Ev (fun n => if c then f n else g n) r:=Ev.congr (fun n => if_neg h) k
def okCost (x : Int) : Bool:=decide (0 ≤ x ∧ x ≤ 1000000)
def MV (n : Int) (l : List Int) : Prop:=1 ≤ n ∧ n ≤ 4 ∧ (l.length : Int) = n * n ∧ ∀ x ∈ l,0 ≤ x ∧ x ≤ 1000000
def GV (n : Int) (l : List Int) : Prop:=MV n l ∧ ∀ x ∈ l,x ≤ 3
instance (n : Int) (l : List Int) : Decidable (MV n l):=by unfold MV;infer_instance
instance (n : Int) (l : List Int) : Decidable (GV n l):=by unfold GV;infer_instance
theorem icost (a : Int) : impl_CostValid.f a = some (okCost a):=by
 unfold impl_CostValid.f okCost
 by_cases h : a ≥ 0
 ·rw [if_pos h];by_cases h2 : a ≤ 1000000 <;> simp [h2] <;> omega
 ·rw [if_neg h];simp;omega
theorem scost (a : Int) : spec_CostValid.f a = some (okCost a):=by
 unfold spec_CostValid.f spec_l1In.f okCost
 by_cases h : a ≥ 0
 ·rw [if_pos h];by_cases h2 : a ≤ 1000000 <;> simp [h2] <;> omega
 ·rw [if_neg h];simp;omega
theorem sIn (a lo hi : Int) : spec_l1In.f a lo hi = some (decide (lo ≤ a ∧ a ≤ hi)):=by
 unfold spec_l1In.f
 by_cases h : a ≥ lo
 ·rw [if_pos h];by_cases h2 : a ≤ hi <;> simp [h2] <;> omega
 ·rw [if_neg h];simp;omega
theorem indexG {α : Type} (rdA : List α → Int → α) (hrd : ∀ (pre : List α) (x : α) (t : List α),rdA (pre ++ x :: t) (pre.length : Int) = x) (q : α → Bool) (p : Nat → α → Option Bool) (l : List α) (hp : ∀ x ∈ l,Ev (fun k => p k x) (q x)) (L0 : Nat → List α → Int → Int → Option Int)
  (hL : ∀ k x0 x7 x8,L0 (k + 1) x0 x7 x8 = if x8 < x7 then (if 0 ≤ x8 then (if x8 < (x0.length : Int) then ((p k (rdA x0 x8)).bind fun t1 => if t1 = true then some x8 else L0 k x0 x7 (wrap64 (x8 + 1))) else none) else none) else some (-1)) (h : l.length ≤ 9223372036854775807) :
  Ev (fun k => (L0 k l (l.length : Int) 0).bind fun t1 => some (decide (t1 ≥ 0))) (l.any q):=by
 have go : ∀ (t pre : List α),l = pre ++ t → ∃ z : Int,Ev (fun k => L0 k l (l.length : Int) (pre.length : Int)) z ∧ decide (z ≥ 0) = t.any q:=by
  intro t
  induction t with
  | nil =>
   intro pre hl
   refine ⟨-1,?_,rfl⟩
   refine Ev.step (f:=fun _ => some (-1)) (fun k => ?_) (Ev.now _)
   rw [hL,if_neg (by rw [hl];simp)]
  | cons x t ih =>
   intro pre hl
   have hlen : l.length = pre.length + (t.length + 1):=by rw [hl];simp
   have hx : rdA l (pre.length : Int) = x:=by rw [hl,hrd]
   have hpx:=hp x (by rw [hl];simp)
   have a0 : (pre.length : Int) < (l.length : Int):=by omega
   cases hq : q x with
   | true =>
    rw [hq] at hpx
    refine ⟨pre.length,?_,by simp [hq]⟩
    refine Ev.step (f:=fun k => (p k x).bind fun t1 => if t1 = true then some (pre.length : Int) else L0 k l (l.length : Int) (wrap64 ((pre.length : Int) + 1))) (fun k => ?_) (Ev.bind hpx (Ev.congr (f:=fun _ => some (pre.length : Int)) (fun k => if_pos rfl) (Ev.now _)))
    rw [hL,if_pos a0,if_pos (Int.natCast_nonneg _),if_pos a0,hx]
   | false =>
    rw [hq] at hpx
    obtain ⟨z,hz,hd⟩:=ih (pre ++ [x]) (by simp [hl])
    refine ⟨z,?_,by simp [hq,hd]⟩
    have e : (((pre ++ [x]).length : Nat) : Int) = wrap64 ((pre.length : Int) + 1):=by rw [w64 (by omega) (by omega)];simp
    rw [e] at hz
    refine Ev.step (f:=fun k => (p k x).bind fun t1 => if t1 = true then some (pre.length : Int) else L0 k l (l.length : Int) (wrap64 ((pre.length : Int) + 1))) (fun k => ?_) (Ev.bind hpx (Ev.congr (fun k => if_neg (by simp)) hz))
    rw [hL,if_pos a0,if_pos (Int.natCast_nonneg _),if_pos a0,hx]
 obtain ⟨z,hz,hd⟩:=go l [] rfl
 exact Ev.bind hz ((Ev.now _).is hd)
theorem index_mv (l : List Int) (h : l.length ≤ maxLen) : Ev (fun k => slices_ContainsFunc_int_int.f k l) (l.any fun x => !(okCost x)):=by
 rw [maxLen_eq] at h
 unfold slices_ContainsFunc_int_int.f slices_IndexFunc_int_int.f
 exact indexG rdI rd_mid (fun x => !(okCost x)) (fun _ x => impl_MatrixValid_1.f x) l (fun x _ => ev_some (fun _ => by unfold impl_MatrixValid_1.f;rw [icost,Option.bind_some,Bool.decide_eq_true])) (fun k a b c => slices_IndexFunc_int_int.l0 k a b c) (fun k a b c => by simp only [slices_IndexFunc_int_int.l0]) h
theorem index_gv (l : List Int) (h : l.length ≤ maxLen) : Ev (fun k => slices_ContainsFunc_int_int_b.f k l) (l.any fun x => decide (x > 3)):=by
 rw [maxLen_eq] at h
 unfold slices_ContainsFunc_int_int_b.f slices_IndexFunc_int_int_b.f
 exact indexG rdI rd_mid (fun x => decide (x > 3)) (fun _ x => impl_GradesValid_1.f x) l (fun x _ => ev_some (fun _ => rfl)) (fun k a b c => slices_IndexFunc_int_int_b.l0 k a b c) (fun k a b c => by simp only [slices_IndexFunc_int_int_b.l0]) h
theorem iMV (n : Int) (l : List Int) (hl : l.length ≤ maxLen) : Ev (fun k => impl_MatrixValid.f k n l) (decide (MV n l)):=by
 have no : ∀ f : Nat → Option Bool,(∀ k,f k = some false) → ¬ MV n l → Ev f (decide (MV n l)):=fun f h h2 => (ev_some h).is (by rw [decide_eq_false h2])
 by_cases h1 : n < 1
 ·exact no _ (fun k => by unfold impl_MatrixValid.f;rw [if_pos h1]) (fun h => by unfold MV at h;omega)
 by_cases h2 : n > 4
 ·exact no _ (fun k => by unfold impl_MatrixValid.f;rw [if_neg h1,if_pos h2]) (fun h => by unfold MV at h;omega)
 have hnn : 0 ≤ n * n ∧ n * n ≤ 16:=by
  have : n = 1 ∨ n = 2 ∨ n = 3 ∨ n = 4:=by omega
  rcases this with rfl|rfl|rfl|rfl <;> omega
 by_cases h3 : (l.length : Int) = wrap64 (n * n)
 ·rw [w64 (by omega) (by omega)] at h3
  refine Ev.congr (f:=?f1) (fun k => ?h1) ?k1
  case h1 => unfold impl_MatrixValid.f;rw [if_neg h1,if_neg h2,w64 (x:=n * n) (by omega) (by omega),if_pos h3] <;> exact rfl
  refine Ev.bind (index_mv l hl) ?_
  refine (ev_some (fun k => rfl)).is ?_
  rw [Bool.decide_eq_true]
  rw [Bool.eq_iff_iff]
  simp only [Bool.not_eq_true',List.any_eq_false,Bool.not_eq_true',Bool.not_eq_false,decide_eq_true_eq]
  constructor
  ·intro h;exact ⟨by omega,by omega,h3,fun x hx => by simpa [okCost] using h x hx⟩
  ·intro h x hx;simpa [okCost] using h.2.2.2 x hx
 ·refine no _ (fun k => by unfold impl_MatrixValid.f;rw [if_neg h1,if_neg h2,if_neg h3]) (fun h => ?_)
  rw [w64 (by omega) (by omega)] at h3
  exact h3 h.2.2.1
theorem iGV (n : Int) (l : List Int) (hl : l.length ≤ maxLen) : Ev (fun k => impl_GradesValid.f k n l) (decide (GV n l)):=by
 unfold impl_GradesValid.f
 refine Ev.bind (iMV n l hl) ?_
 by_cases h : MV n l
 ·refine Ev_t (decide_eq_true h) (Ev.bind (index_gv l hl) ((Ev.now _).is ?_))
  rw [Bool.decide_eq_true,Bool.eq_iff_iff]
  simp only [Bool.not_eq_true',List.any_eq_false,decide_eq_true_eq]
  exact ⟨fun g => ⟨h,fun x hx => by have:=g x hx;omega⟩,fun g x hx => by have:=g.2 x hx;omega⟩
 ·exact Ev_f (by rw [decide_eq_false h];simp) ((Ev.now _).is (by rw [decide_eq_false (fun g : GV n l => h g.1)]))
theorem sAll_ev (l : List Int) (h : l.length ≤ maxLen) : Ev (fun k => spec_l1All.f k l) (l.all okCost):=by
 rw [maxLen_eq] at h
 have go : ∀ (t pre : List Int),l = pre ++ t → Ev (fun k => spec_l1All.l0 k l (l.length : Int) (pre.length : Int)) (t.all okCost):=by
  intro t
  induction t with
  | nil =>
   intro pre hl
   refine Ev.step (f:=fun _ => some true) (fun k => ?_) (Ev.now _)
   simp only [spec_l1All.l0];rw [if_neg (by rw [hl];simp)]
  | cons x t ih =>
   intro pre hl
   have hlen : l.length = pre.length + (t.length + 1):=by rw [hl];simp
   have hx : rdI l (pre.length : Int) = x:=by rw [hl,rd_mid]
   cases hq : okCost x with
   | true =>
    refine Ev.step (fun k => ?_) ((ih (pre ++ [x]) (by simp [hl])).is (by simp [hq]))
    simp only [spec_l1All.l0]
    rw [if_pos (by omega),if_pos (by omega),if_pos (by omega),hx,scost,hq,Option.bind_some,if_pos rfl,w64 (by omega) (by omega),snoc_len]
   | false =>
    refine Ev.step (f:=fun _ => some false) (fun k => ?_) ((Ev.now _).is (by simp [hq]))
    simp only [spec_l1All.l0]
    rw [if_pos (by omega),if_pos (by omega),if_pos (by omega),hx,scost,hq,Option.bind_some,if_neg (by simp)]
 exact go l [] rfl
theorem sMV (n : Int) (l : List Int) (hl : l.length ≤ maxLen) : Ev (fun k => spec_MatrixValid.f k n l) (decide (MV n l)):=by
 have no : ∀ f : Nat → Option Bool,(∀ k,f k = some false) → ¬ MV n l → Ev f (decide (MV n l)):=fun f h h2 => (ev_some h).is (by rw [decide_eq_false h2])
 by_cases h1 : 1 ≤ n ∧ n ≤ 4
 ·have hnn : 0 ≤ n * n ∧ n * n ≤ 16:=by
   have : n = 1 ∨ n = 2 ∨ n = 3 ∨ n = 4:=by omega
   rcases this with rfl|rfl|rfl|rfl <;> omega
  by_cases h3 : (l.length : Int) = n * n
  ·refine Ev.congr (f:=?f1) (fun k => ?h1) ?k1
   case h1 => unfold spec_MatrixValid.f;rw [sIn,decide_eq_true h1,Option.bind_some,if_pos rfl,w64 (x:=n * n) (by omega) (by omega),if_pos h3] <;> exact rfl
   refine Ev.bind (sAll_ev l hl) ((ev_some (fun k => rfl)).is ?_)
   rw [Bool.eq_iff_iff]
   simp only [List.all_eq_true,decide_eq_true_eq]
   exact ⟨fun g => ⟨h1.1,h1.2,h3,fun x hx => by simpa [okCost] using g x hx⟩,fun g x hx => by simpa [okCost] using g.2.2.2 x hx⟩
  ·exact no _ (fun k => by unfold spec_MatrixValid.f;rw [sIn,decide_eq_true h1,Option.bind_some,if_pos rfl,w64 (x:=n * n) (by omega) (by omega),if_neg h3]) (fun h => h3 h.2.2.1)
 ·exact no _ (fun k => by unfold spec_MatrixValid.f;rw [sIn,decide_eq_false h1];rfl) (fun h => h1 ⟨h.1,h.2.1⟩)
theorem sGV (n : Int) (l : List Int) (hl : l.length ≤ maxLen) : Ev (fun k => spec_GradesValid.f k n l) (decide (GV n l)):=by
 have hm:=hl
 rw [maxLen_eq] at hm
 have go : ∀ (t pre : List Int),l = pre ++ t → Ev (fun k => spec_GradesValid.l0 k l (l.length : Int) (pre.length : Int) n l) (decide ((∀ x ∈ t,0 ≤ x ∧ x ≤ 3) ∧ MV n l)):=by
  intro t
  induction t with
  | nil =>
   intro pre hp
   refine Ev.step (f:=?f1) (fun k => ?h1) ?k1
   case h1 => simp only [spec_GradesValid.l0];rw [if_neg (by rw [hp];simp)] <;> exact rfl
   exact Ev.bind (sMV n l hl) ((ev_some (fun k => rfl)).is (by simp))
  | cons x t ih =>
   intro pre hp
   have hlen : l.length = pre.length + (t.length + 1):=by rw [hp];simp
   have hx : rdI l (pre.length : Int) = x:=by rw [hp,rd_mid]
   by_cases hq : 0 ≤ x ∧ x ≤ 3
   ·refine Ev.step (fun k => ?_) ((ih (pre ++ [x]) (by simp [hp])).is ?_)
    ·simp only [spec_GradesValid.l0]
     rw [if_pos (by omega),if_pos (by omega),if_pos (by omega),hx,sIn,decide_eq_true hq,Option.bind_some,if_pos rfl,w64 (by omega) (by omega),snoc_len]
    ·simp [hq.1,hq.2]
   ·refine Ev.step (f:=fun _ => some false) (fun k => ?_) ((Ev.now _).is ?_)
    ·simp only [spec_GradesValid.l0]
     rw [if_pos (by omega),if_pos (by omega),if_pos (by omega),hx,sIn,decide_eq_false hq,Option.bind_some,if_neg (by simp)]
    ·symm;rw [decide_eq_false_iff_not];intro h;exact hq (h.1 x (by simp))
 refine (go l [] rfl).is ?_
 rw [Bool.eq_iff_iff]
 simp only [decide_eq_true_eq]
 exact ⟨fun h => ⟨h.2,fun x hx => (h.1 x hx).2⟩,fun h => ⟨fun x hx => ⟨(h.1.2.2.2 x hx).1,h.2 x hx⟩,h.1⟩⟩
theorem div_mod_at (n i k : Nat) (hk : k < n) : (i * n + k) / n = i ∧ (i * n + k) % n = k:=by
 have hn : 0 < n:=by omega
 constructor
 ·rw [Nat.mul_comm,Nat.mul_add_div hn,Nat.div_eq_of_lt hk,Nat.add_zero]
 ·rw [Nat.mul_comm,Nat.mul_add_mod,Nat.mod_eq_of_lt hk]
theorem cell_lt (n i k : Nat) (hi : i < n) (hk : k < n) : i * n + k < n * n:=by
 have : (i + 1) * n ≤ n * n:=Nat.mul_le_mul_right n hi
 rw [Nat.succ_mul] at this
 omega
theorem sq_le (n : Nat) (h : n ≤ 4) : n * n ≤ 16:=by
 have:=Nat.mul_le_mul h h
 omega
theorem row_le (n i : Nat) (hn : n ≤ 4) (hi : i ≤ n) : i * n ≤ 16:=by
 have:=Nat.mul_le_mul (Nat.le_trans hi hn) hn
 omega
def cutF (n : Nat) (g : Nat → Nat → Int) : Int → Int → Option Int:=fun i k => if 0 ≤ i ∧ i < n ∧ 0 ≤ k ∧ k < n then some (g i.toNat k.toNat) else none
theorem cutF_at (n : Nat) (g : Nat → Nat → Int) (i k : Nat) (hi : i < n) (hk : k < n) : cutF n g (i : Int) (k : Int) = some (g i k):=by
 unfold cutF;rw [if_pos (by omega)];simp
def sqL (n : Nat) (g : Nat → Nat → Int) : List Int:=tab (n * n) (fun m => g (m / n) (m % n))
theorem sqL_get (n : Nat) (g : Nat → Nat → Int) (i k : Nat) (hi : i < n) (hk : k < n) : (sqL n g).getD (i * n + k) 0 = g i k:=by
 unfold sqL
 rw [tab_get _ _ _ (cell_lt n i k hi hk)]
 obtain ⟨h1,h2⟩:=div_mod_at n i k hk
 rw [h1,h2]
theorem sqL_congr (n : Nat) (g h : Nat → Nat → Int) (e : ∀ i k,i < n → k < n → g i k = h i k) : sqL n g = sqL n h:=by
 refine tab_congr _ _ _ (fun j hj => e _ _ (Nat.div_lt_of_lt_mul hj) (Nat.mod_lt _ ?_))
 rcases n with _|n
 ·simp at hj
 ·omega
theorem eq_sqL (n : Nat) (l : List Int) (h : l.length = n * n) : l = sqL n (fun i k => l.getD (i * n + k) 0):=by
 refine (eq_tab l _ h).trans (tab_congr _ _ _ (fun j _ => ?_))
 show l.getD j 0 = l.getD (j / n * n + j % n) 0
 rw [Nat.mul_comm,Nat.div_add_mod]
theorem filledG (n : Nat) (hn : n ≤ 4) (g : Nat → Nat → Int) (c : Nat → Int → Int → Option Int) (hc : ∀ i,i < n → ∀ k,k < n → Ev (fun K => c K (i : Int) (k : Int)) (g i k)) (L0 : Nat → Int → Int → Int → Int → List Int → Option (Int × List Int)) (L1 : Nat → Int → Int → Int → Int → Int → Int → Int → List Int → Option (Int × List Int))
  (h0 : ∀ k x0 x10 x11 y z,L0 (k + 1) x0 x10 x11 y z = if x11 < x10 then L1 k x0 x11 x10 x11 x0 0 y z else some (y,z))
  (h1 : ∀ k x0 x6 x10 x11 x14 x15 y z,L1 (k + 1) x0 x6 x10 x11 x14 x15 y z = if x15 < x14 then ((c k x6 x15).bind fun t1 => if z.length < 17592186044416 then L1 k x0 x6 x10 x11 x14 (wrap64 (x15 + 1)) y (z ++ [t1]) else none) else L0 k x0 x10 (wrap64 (x11 + 1)) y z) :
  Ev (fun k => L0 k (n : Int) (n : Int) 0 (n : Int) []) ((n : Int),sqL n g):=by
 have inner : ∀ (i : Nat) (r : Int × List Int),i < n → Ev (fun j => L0 j n n ((i + 1 : Nat) : Int) n (tab ((i + 1) * n) (fun m => g (m / n) (m % n)))) r →
   Ev (fun j => L0 j n n (i : Int) n (tab (i * n) (fun m => g (m / n) (m % n)))) r:=by
  intro i r hi h
  refine Ev.step (f:=fun j => L1 j n i n i n ((0 : Nat) : Int) n (tab (i * n + 0) (fun m => g (m / n) (m % n)))) (fun k => ?_) ?_
  ·rw [h0,if_pos (by omega)];rfl
  refine up_loop n (fun k j => L1 j n i n i n (k : Int) n (tab (i * n + k) (fun m => g (m / n) (m % n)))) r (fun k hk hs => ?_) ?_
  ·have hr:=row_le n i hn (by omega)
   obtain ⟨d1,d2⟩:=div_mod_at n i k hk
   have e : tab (i * n + k) (fun m => g (m / n) (m % n)) ++ [g i k] = tab (i * n + (k + 1)) (fun m => g (m / n) (m % n)):=by
    rw [← Nat.add_assoc,← tab_snoc,d1,d2]
   have b0 : (tab (i * n + k) (fun m => g (m / n) (m % n))).length < 17592186044416:=by rw [tab_length];omega
   have a0 : (k : Int) < (n : Int):=by omega
   have wk : wrap64 ((k : Int) + 1) = ((k + 1 : Nat) : Int):=by rw [w64 (by omega) (by omega)];rfl
   refine Ev.step (f:=fun j => (c j (i : Int) (k : Int)).bind fun t1 => if (tab (i * n + k) (fun m => g (m / n) (m % n))).length < 17592186044416 then L1 j n i n i n (wrap64 ((k : Int) + 1)) n (tab (i * n + k) (fun m => g (m / n) (m % n)) ++ [t1]) else none) (fun j => ?_) (Ev.bind (hc i hi k hk) (Ev_t b0 ?_))
   ·rw [h1,if_pos a0]
   ·rw [wk,e];exact hs
  ·refine Ev.step (fun j => ?_) h
   rw [h1,if_neg (by omega),w64 (by omega) (by omega),Nat.succ_mul];rfl
 refine Ev.congr (f:=fun j => L0 j n n ((0 : Nat) : Int) n (tab (0 * n) (fun m => g (m / n) (m % n)))) (fun k => ?_) ?_
 ·simp [tab]
 refine up_loop n (fun i j => L0 j n n (i : Int) n (tab (i * n) (fun m => g (m / n) (m % n)))) _ (fun i hi hs => inner i _ hi hs) ?_
 refine Ev.step (f:=fun _ => some ((n : Int),sqL n g)) (fun j => ?_) (Ev.now _)
 rw [h0,if_neg (by omega)];rfl
theorem at_eq (n : Nat) (hn : n ≤ 4) (l : List Int) (hl : l.length = n * n) (i k : Nat) (hi : i < n) (hk : k < n) : impl_Matrix_at.f (n : Int) l (i : Int) (k : Int) = some (l.getD (i * n + k) 0):=by
 have hc:=cell_lt n i k hi hk
 have hr:=row_le n i hn (by omega)
 have e : wrap64 (wrap64 ((i : Int) * (n : Int)) + k) = ((i * n + k : Nat) : Int):=by
  have : (i : Int) * (n : Int) = ((i * n : Nat) : Int):=by simp
  rw [this,w64 (x:=((i * n : Nat) : Int)) (by omega) (by omega),w64 (by omega) (by omega)];simp
 unfold impl_Matrix_at.f
 rw [e,if_pos (by omega),if_pos (by omega),rd_nat]
theorem tdiv_nat (m n : Nat) : Int.tdiv (m : Int) (n : Int) = ((m / n : Nat) : Int):=by rw [Int.tdiv_eq_ediv_of_nonneg (by omega)];simp
theorem tmod_nat (m n : Nat) : Int.tmod (m : Int) (n : Int) = ((m % n : Nat) : Int):=by rw [Int.tmod_eq_emod_of_nonneg (by omega)];simp
theorem idx1 (n m l : Nat) (hn : n ≤ 4) (hi : m / n < n) (hl : l < n) : wrap64 (wrap64 (wrap64 (Int.tdiv (m : Int) (n : Int)) * (n : Int)) + l) = ((m / n * n + l : Nat) : Int):=by
 have r1:=row_le n (m / n) hn (by omega)
 rw [tdiv_nat]
 obtain ⟨q,hq⟩ : ∃ q : Nat,m / n = q:=⟨_,rfl⟩
 rw [hq] at hi r1 ⊢
 have h1 : ((q : Nat) : Int) * (n : Int) = ((q * n : Nat) : Int):=by simp
 obtain ⟨s,hs⟩ : ∃ s : Nat,q * n = s:=⟨_,rfl⟩
 rw [w64 (x:=((q : Nat) : Int)) (by omega) (by omega),h1]
 rw [hs] at r1 ⊢
 clear h1 hs hq
 rw [w64 (x:=((s : Nat) : Int)) (by omega) (by omega),w64 (by omega) (by omega)];simp
theorem idx2 (n m l : Nat) (hn : n ≤ 4) (hk : m % n < n) (hl : l < n) : wrap64 (wrap64 ((l : Int) * (n : Int)) + Int.tmod (m : Int) (n : Int)) = ((l * n + m % n : Nat) : Int):=by
 have r2:=row_le n l hn (by omega)
 rw [tmod_nat]
 obtain ⟨q,hq⟩ : ∃ q : Nat,m % n = q:=⟨_,rfl⟩
 rw [hq] at hk ⊢
 have h1 : (l : Int) * (n : Int) = ((l * n : Nat) : Int):=by simp
 obtain ⟨s,hs⟩ : ∃ s : Nat,l * n = s:=⟨_,rfl⟩
 rw [h1]
 rw [hs] at r2 ⊢
 clear h1 hs hq
 rw [w64 (x:=((s : Nat) : Int)) (by omega) (by omega),w64 (by omega) (by omega)];simp
theorem MV_nat {n : Int} {l : List Int} (h : MV n l) : ∃ m : Nat,n = (m : Int) ∧ 1 ≤ m ∧ m ≤ 4 ∧ l.length = m * m:=by
 refine ⟨n.toNat,?_⟩
 have h1:=h.1
 have h2:=h.2.1
 have h3:=h.2.2.1
 obtain ⟨m,rfl⟩ : ∃ m : Nat,n = (m : Int):=⟨n.toNat,by omega⟩
 refine ⟨by simp,by simp;omega,by simp;omega,?_⟩
 simp only [Int.toNat_natCast]
 exact_mod_cast h3
theorem Ev_sz {α : Type} {o : Option Int} {z : Int} {g : Nat → Int → Option α} {r : α} (h : o = some z) (k : Ev (fun n => g n z) r) : Ev (fun n => o.bind (g n)) r:=Ev.congr (fun n => by rw [h];rfl) k
theorem rdS_mid (pre : List Stp) (x : Stp) (t : List Stp) : rdT (pre ++ x :: t) (pre.length : Int) = x:=by simp [rdT,List.getD_eq_getElem?_getD]
theorem snocA {α : Type} (pre : List α) (x : α) : (((pre ++ [x]).length : Nat) : Int) = (pre.length : Int) + 1:=by simp
def mrk (n : Int) : Option Int → List Int → Bool
 | _,[] => true
 | p,x :: t => decide (0 ≤ x ∧ x < n) && (match p with|none => true|some y => decide (y < x)) && mrk n (some x) t
def stepOk (n : Int) (s : Stp) : Bool:=decide (0 ≤ s.f0 ∧ s.f0 < n ∧ 0 ≤ s.f2 ∧ s.f2 < n ∧ 0 ≤ s.f3 ∧ s.f3 ≤ 3 ∧ (s.f1.toList = ([97] : List UInt8) ∨ s.f1.toList = ([98] : List UInt8)))
def bef (s t : Stp) : Bool:=if s.f0 = t.f0 then (if s.f1.toList = t.f1.toList then decide (s.f2 < t.f2) else Op.bytesLess s.f1.toList t.f1.toList) else decide (s.f0 < t.f0)
def stp (n : Int) : Option Stp → List Stp → Bool
 | _,[] => true
 | p,x :: t => stepOk n x && (match p with|none => true|some y => bef y x) && stp n (some x) t
def AV (n : Int) (s f : List Int) (t : List Stp) : Bool:=decide (1 ≤ n ∧ n ≤ 4 ∧ t.length ≤ 24) && mrk n none s && mrk n none f && stp n none t
theorem iMarks (n : Int) (l : List Int) (h : l.length ≤ 1000000000) : Ev (fun k => impl_statesOk.f k l n) (mrk n none l):=by
 have go : ∀ (t pre : List Int),l = pre ++ t → Ev (fun k => impl_statesOk.l0 k l n l (l.length : Int) (pre.length : Int)) (mrk n pre.getLast? t):=by
  intro t
  induction t with
  | nil =>
   intro pre hl
   refine Ev.step (f:=fun _ => some true) (fun k => ?_) (Ev.now _)
   simp only [impl_statesOk.l0];rw [if_neg (by rw [hl];simp)]
  | cons x t ih =>
   intro pre hl
   have hlen : l.length = pre.length + (t.length + 1):=by rw [hl];simp
   have hx : rdI l (pre.length : Int) = x:=by rw [hl,rd_mid]
   have i1:=ih (pre ++ [x]) (by simp [hl])
   rw [List.getLast?_concat,snoc_len] at i1
   by_cases h0 : x < 0
   ·refine Ev.step (f:=fun _ => some false) (fun k => ?_) ((Ev.now _).is ?_)
    ·simp only [impl_statesOk.l0];rw [if_pos (by omega),if_pos (by omega),if_pos (by omega),hx,if_pos h0]
    ·simp only [mrk];rw [decide_eq_false (by omega)];rfl
   by_cases h1 : x ≥ n
   ·refine Ev.step (f:=fun _ => some false) (fun k => ?_) ((Ev.now _).is ?_)
    ·simp only [impl_statesOk.l0];rw [if_pos (by omega),if_pos (by omega),if_pos (by omega),hx,if_neg h0,if_pos h1]
    ·simp only [mrk];rw [decide_eq_false (by omega)];rfl
   rcases List.eq_nil_or_concat pre with rfl | ⟨q,y,rfl⟩
   ·refine Ev.step (fun k => ?_) (i1.is ?_)
    ·simp only [impl_statesOk.l0];rw [if_pos (by omega),if_pos (by omega),if_pos (by omega),hx,if_neg h0,if_neg h1,if_neg (by simp),w64 (by omega) (by omega)]
    ·simp only [mrk,List.getLast?_nil];rw [decide_eq_true (by omega)];rfl
   ·rw [List.concat_eq_append] at *
    have e : wrap64 (((q ++ [y]).length : Int) - 1) = (q.length : Int):=by rw [snoc_len,w64 (by omega) (by rw [List.length_append] at hlen;omega)];omega
    have hy : rdI l (q.length : Int) = y:=by rw [hl,List.append_assoc];exact rd_mid q y (x :: t)
    have hq:=hlen
    rw [List.length_append,List.length_singleton] at hq
    by_cases h2 : y ≥ x
    ·refine Ev.step (f:=fun _ => some false) (fun k => ?_) ((Ev.now _).is ?_)
     ·simp only [impl_statesOk.l0];rw [if_pos (by omega),if_pos (by omega),if_pos (by omega),hx,if_neg h0,if_neg h1,if_pos (by rw [snoc_len];omega),e,if_pos (by omega),if_pos (by omega),hy,if_pos h2]
     ·simp only [mrk,List.getLast?_concat];rw [decide_eq_false (p:=y < x) (by omega)];simp
    ·refine Ev.step (fun k => ?_) (i1.is ?_)
     ·simp only [impl_statesOk.l0];rw [if_pos (by omega),if_pos (by omega),if_pos (by omega),hx,if_neg h0,if_neg h1,if_pos (by rw [snoc_len];omega),e,if_pos (by omega),if_pos (by omega),hy,if_neg h2,w64 (by omega) (by omega)]
     ·simp only [mrk,List.getLast?_concat];rw [decide_eq_true (p:=y < x) (by omega),decide_eq_true (by omega)];rfl
 exact go l [] rfl
theorem sMarks (n : Int) (hn : 1 ≤ n ∧ n ≤ 4) (l : List Int) (h : l.length ≤ 1000000000) : Ev (fun k => spec_l3Marks.f k n l) (mrk n none l):=by
 have go : ∀ (t pre : List Int),l = pre ++ t → Ev (fun k => spec_l3Marks.l0 k n l l (l.length : Int) (pre.length : Int)) (mrk n pre.getLast? t):=by
  intro t
  induction t with
  | nil =>
   intro pre hl
   refine Ev.step (f:=fun _ => some true) (fun k => ?_) (Ev.now _)
   simp only [spec_l3Marks.l0];rw [if_neg (by rw [hl];simp)]
  | cons x t ih =>
   intro pre hl
   have hlen : l.length = pre.length + (t.length + 1):=by rw [hl];simp
   have hx : rdI l (pre.length : Int) = x:=by rw [hl,rd_mid]
   have i1:=ih (pre ++ [x]) (by simp [hl])
   rw [List.getLast?_concat,snoc_len] at i1
   have hw : wrap64 (n - 1) = n - 1:=w64 (by omega) (by omega)
   by_cases h0 : 0 ≤ x ∧ x < n
   case neg =>
    refine Ev.step (f:=fun _ => some false) (fun k => ?_) ((Ev.now _).is ?_)
    ·simp only [spec_l3Marks.l0];rw [if_pos (by omega),if_pos (by omega),if_pos (by omega),hx,sIn,hw,decide_eq_false (by omega),Option.bind_some,if_neg (by simp)]
    ·simp only [mrk];rw [decide_eq_false h0];rfl
   have hd : decide (0 ≤ x ∧ x ≤ n - 1) = true:=decide_eq_true (by omega)
   rcases List.eq_nil_or_concat pre with rfl | ⟨q,y,rfl⟩
   ·refine Ev.step (fun k => ?_) (i1.is ?_)
    ·simp only [spec_l3Marks.l0];rw [if_pos (by omega),if_pos (by omega),if_pos (by omega),hx,sIn,hw,hd,Option.bind_some,if_pos rfl,if_neg (by simp),w64 (by omega) (by omega)]
    ·simp only [mrk,List.getLast?_nil];rw [decide_eq_true h0];rfl
   ·rw [List.concat_eq_append] at *
    have e : wrap64 (((q ++ [y]).length : Int) - 1) = (q.length : Int):=by rw [snoc_len,w64 (by omega) (by rw [List.length_append] at hlen;omega)];omega
    have hy : rdI l (q.length : Int) = y:=by rw [hl,List.append_assoc];exact rd_mid q y (x :: t)
    have hq:=hlen
    rw [List.length_append,List.length_singleton] at hq
    by_cases h2 : y ≥ x
    ·refine Ev.step (f:=fun _ => some false) (fun k => ?_) ((Ev.now _).is ?_)
     ·simp only [spec_l3Marks.l0];rw [if_pos (by omega),if_pos (by omega),if_pos (by omega),hx,sIn,hw,hd,Option.bind_some,if_pos rfl,if_pos (by rw [snoc_len];omega),e,if_pos (by omega),if_pos (by omega),hy,if_pos h2]
     ·simp only [mrk,List.getLast?_concat];rw [decide_eq_false (p:=y < x) (by omega)];simp
    ·refine Ev.step (fun k => ?_) (i1.is ?_)
     ·simp only [spec_l3Marks.l0];rw [if_pos (by omega),if_pos (by omega),if_pos (by omega),hx,sIn,hw,hd,Option.bind_some,if_pos rfl,if_pos (by rw [snoc_len];omega),e,if_pos (by omega),if_pos (by omega),hy,if_neg h2,w64 (by omega) (by omega)]
     ·simp only [mrk,List.getLast?_concat];rw [decide_eq_true (p:=y < x) (by omega),decide_eq_true h0];rfl
 exact go l [] rfl
def cmp0 (a b : Int) : Int:=if a < b then -1 else if a > b then 1 else 0
def ordL (s t : Stp) : Int:=if cmp0 s.f0 t.f0 = 0 then (if Lib.compareBytes s.f1.data.toList t.f1.data.toList = 0 then cmp0 s.f2 t.f2 else Lib.compareBytes s.f1.data.toList t.f1.data.toList) else cmp0 s.f0 t.f0
theorem cmp_eq (a b : Int) : cmp_Compare_int.f a b = some (cmp0 a b):=by
 unfold cmp_Compare_int.f cmp_isNaN_int.f cmp0
 simp only [decide_true,Bool.not_true,Option.bind_some,Bool.false_eq_true,if_false]
 by_cases h : a < b
 ·rw [if_pos h,if_pos h]
 ·rw [if_neg h,if_neg h];by_cases h2 : a > b
  ·rw [if_pos h2,if_pos h2]
  ·rw [if_neg h2,if_neg h2]
theorem cmpOr_ev (l : List Int) (h : l.length ≤ 1000000000) : Ev (fun k => cmp_Or_int.f k l) ((l.find? (· != 0)).getD 0):=by
 have go : ∀ (t pre : List Int),l = pre ++ t → Ev (fun k => cmp_Or_int.l0 k l (l.length : Int) (pre.length : Int)) ((t.find? (· != 0)).getD 0):=by
  intro t
  induction t with
  | nil =>
   intro pre hl
   refine Ev.step (f:=fun _ => some 0) (fun k => ?_) (Ev.now _)
   simp only [cmp_Or_int.l0];rw [if_neg (by rw [hl];simp)]
  | cons x t ih =>
   intro pre hl
   have hlen : l.length = pre.length + (t.length + 1):=by rw [hl];simp
   have hx : rdI l (pre.length : Int) = x:=by rw [hl,rd_mid]
   have i1:=ih (pre ++ [x]) (by simp [hl])
   rw [snoc_len] at i1
   by_cases h0 : x = 0
   ·refine Ev.step (fun k => ?_) (i1.is ?_)
    ·simp only [cmp_Or_int.l0];rw [if_pos (by omega),if_pos (by omega),if_pos (by omega),hx,if_pos h0,w64 (by omega) (by omega)]
    ·simp [List.find?_cons,h0]
   ·refine Ev.step (f:=fun _ => some x) (fun k => ?_) ((Ev.now _).is ?_)
    ·simp only [cmp_Or_int.l0];rw [if_pos (by omega),if_pos (by omega),if_pos (by omega),hx,if_neg h0]
    ·simp [List.find?_cons,h0]
 exact go l [] rfl
theorem iOrder (s t : Stp) : Ev (fun k => impl_stepOrder.f k s.f0 s.f1 s.f2 s.f3 t.f0 t.f1 t.f2 t.f3) (ordL s t):=by
 refine Ev.congr (f:=?f1) (fun k => ?h1) ?k1
 case h1 => unfold impl_stepOrder.f strings_Compare.f bytealg_CompareString.f;rw [cmp_eq,cmp_eq,Option.bind_some,Option.bind_some,Option.bind_some,Option.bind_some] <;> exact rfl
 refine (Ev.bind (cmpOr_ev _ (by simp)) (Ev.now _)).is ?_
 unfold ordL
 by_cases h : cmp0 s.f0 t.f0 = 0
 ·by_cases h2 : Lib.compareBytes s.f1.data.toList t.f1.data.toList = 0
  ·by_cases h3 : cmp0 s.f2 t.f2 = 0 <;> simp [List.find?_cons,h,h2,h3]
  ·simp [List.find?_cons,h,h2]
 ·simp [List.find?_cons,h]
theorem sBefore (s t : Stp) : spec_l3Before.f s.f0 s.f1 s.f2 s.f3 t.f0 t.f1 t.f2 t.f3 = some (bef s t):=by
 unfold spec_l3Before.f bef
 by_cases h : s.f0 = t.f0
 ·rw [if_pos h,if_pos h];by_cases h2 : s.f1.toList = t.f1.toList
  ·rw [if_pos h2,if_pos h2]
  ·rw [if_neg h2,if_neg h2]
 ·rw [if_neg h,if_neg h]
theorem cmp0_lt {a b : Int} : cmp0 a b < 0 ↔ a < b:=by
 unfold cmp0
 by_cases h : a < b
 ·simp [h]
 ·by_cases h2 : a > b <;> simp [h,h2]
theorem cmp0_eq {a b : Int} : cmp0 a b = 0 ↔ a = b:=by
 unfold cmp0
 by_cases h : a < b
 ·rw [if_pos h];omega
 ·by_cases h2 : a > b
  ·rw [if_neg h,if_pos h2];omega
  ·rw [if_neg h,if_neg h2];omega
theorem ord_bef {n : Int} {s t : Stp} (hs : stepOk n s = true) (ht : stepOk n t = true) : ordL s t < 0 ↔ bef s t = true:=by
 unfold stepOk at hs ht
 have hs:=of_decide_eq_true hs
 have ht:=of_decide_eq_true ht
 unfold ordL bef
 have e1:=toList_L s.f1
 have e2:=toList_L t.f1
 unfold L at e1 e2
 rw [← e1,← e2]
 by_cases h : s.f0 = t.f0
 ·rw [if_pos (cmp0_eq.mpr h),if_pos h]
  rcases hs.2.2.2.2.2.2 with a|a <;> rcases ht.2.2.2.2.2.2 with b|b <;> rw [a,b]
  ·rw [if_pos rfl,show Lib.compareBytes ([97] : List UInt8) [97] = 0 by decide,if_pos rfl,cmp0_lt,decide_eq_true_eq]
  ·rw [if_neg (show ¬ Lib.compareBytes ([97] : List UInt8) [98] = 0 by decide),if_neg (by decide)];decide
  ·rw [if_neg (show ¬ Lib.compareBytes ([98] : List UInt8) [97] = 0 by decide),if_neg (by decide)];decide
  ·rw [if_pos rfl,show Lib.compareBytes ([98] : List UInt8) [98] = 0 by decide,if_pos rfl,cmp0_lt,decide_eq_true_eq]
 ·rw [if_neg (fun g => h (cmp0_eq.mp g)),if_neg h,cmp0_lt,decide_eq_true_eq]
theorem iSteps (n : Int) (s f : List Int) (t : List Stp) (h : t.length ≤ 1000000000) : Ev (fun k => impl_AutomatonValid.l0 k t (t.length : Int) 0 n s f t) (stp n none t):=by
 have go : ∀ (u pre : List Stp),t = pre ++ u → (∀ y,pre.getLast? = some y → stepOk n y = true) → Ev (fun k => impl_AutomatonValid.l0 k t (t.length : Int) (pre.length : Int) n s f t) (stp n pre.getLast? u):=by
  intro u
  induction u with
  | nil =>
   intro pre hl _
   refine Ev.step (f:=fun _ => some true) (fun k => ?_) (Ev.now _)
   simp only [impl_AutomatonValid.l0];rw [if_neg (by rw [hl];simp)]
  | cons x u ih =>
   intro pre hl hp
   have hlen : t.length = pre.length + (u.length + 1):=by rw [hl];simp
   have hx : rdT t (pre.length : Int) = x:=by rw [hl,rdS_mid]
   have tail : stepOk n x = true → Ev (fun k => if (pre.length : Int) > 0 then (if 0 ≤ (wrap64 ((pre.length : Int) - 1)) then (if (wrap64 ((pre.length : Int) - 1)) < (t.length : Int) then ((impl_stepOrder.f k ((rdT t (wrap64 ((pre.length : Int) - 1))).f0) ((rdT t (wrap64 ((pre.length : Int) - 1))).f1) ((rdT t (wrap64 ((pre.length : Int) - 1))).f2) ((rdT t (wrap64 ((pre.length : Int) - 1))).f3) x.f0 x.f1 x.f2 x.f3).bind fun z => (if z ≥ 0 then (some false) else (impl_AutomatonValid.l0 k t (t.length : Int) (wrap64 ((pre.length : Int) + 1)) n s f t))) else none) else none) else (impl_AutomatonValid.l0 k t (t.length : Int) (wrap64 ((pre.length : Int) + 1)) n s f t)) (stp n pre.getLast? (x :: u)):=by
    intro hok
    have i1:=ih (pre ++ [x]) (by simp [hl]) (fun y hy => by rw [List.getLast?_concat] at hy;obtain rfl:=Option.some.inj hy;exact hok)
    rw [List.getLast?_concat,snocA] at i1
    have ew : wrap64 ((pre.length : Int) + 1) = (pre.length : Int) + 1:=w64 (by omega) (by omega)
    rw [ew]
    rcases List.eq_nil_or_concat pre with rfl | ⟨q,y,rfl⟩
    ·refine Ev.congr (fun k => by rw [if_neg (by simp)] <;> exact rfl) (i1.is ?_)
     simp only [stp,List.getLast?_nil,hok,Bool.true_and]
    ·rw [List.concat_eq_append] at *
     have hq:=hlen
     rw [List.length_append,List.length_singleton] at hq
     have e : wrap64 (((q ++ [y]).length : Int) - 1) = (q.length : Int):=by rw [snocA,w64 (by omega) (by omega)];omega
     have hy : rdT t (q.length : Int) = y:=by rw [hl,List.append_assoc];exact rdS_mid q y (x :: u)
     have hoy : stepOk n y = true:=hp y (by rw [List.getLast?_concat])
     refine Ev.congr (f:=?f1) (fun k => ?h1) ?k1
     case h1 => rw [e,if_pos (by rw [snocA];omega),if_pos (by omega),if_pos (by omega),hy] <;> exact rfl
     refine Ev.bind (iOrder y x) ?_
     by_cases hb : bef y x = true
     ·refine Ev.congr (fun k => if_neg (by have:=(ord_bef hoy hok).mpr hb;omega)) (i1.is ?_)
      simp only [stp,List.getLast?_concat,hok,hb,Bool.true_and]
     ·refine Ev.congr (f:=fun _ => some false) (fun k => if_pos (Int.not_lt.mp fun h => hb ((ord_bef hoy hok).mp h))) ((Ev.now _).is ?_)
      simp only [stp,List.getLast?_concat,hok,Bool.true_and]
      rw [Bool.not_eq_true] at hb
      rw [hb];rfl
   by_cases hok : stepOk n x = true
   ·have ho:=of_decide_eq_true (show decide _ = true from hok)
    refine Ev.step (fun k => ?_) (tail hok)
    simp only [impl_AutomatonValid.l0]
    rw [if_pos (by omega),if_pos (by omega),if_pos (by omega),hx,if_neg (by omega),if_neg (by omega),if_neg (by omega),if_neg (by omega)]
    rcases ho.2.2.2.2.2.2 with a|a
    ·rw [if_pos a,if_neg (by omega),if_neg (by omega)]
    ·rw [if_neg (by rw [a];decide),if_pos a,if_neg (by omega),if_neg (by omega)]
   ·refine Ev.step (f:=fun _ => some false) (fun k => ?_) ((Ev.now _).is ?_)
    ·simp only [impl_AutomatonValid.l0]
     rw [if_pos (by omega),if_pos (by omega),if_pos (by omega),hx]
     by_cases a1 : x.f0 < 0
     ·rw [if_pos a1]
     by_cases a2 : x.f0 ≥ n
     ·rw [if_neg a1,if_pos a2]
     by_cases a3 : x.f2 < 0
     ·rw [if_neg a1,if_neg a2,if_pos a3]
     by_cases a4 : x.f2 ≥ n
     ·rw [if_neg a1,if_neg a2,if_neg a3,if_pos a4]
     rw [if_neg a1,if_neg a2,if_neg a3,if_neg a4]
     by_cases b1 : x.f1.toList = ([97] : List UInt8)
     ·rw [if_pos b1]
      by_cases a5 : x.f3 < 0
      ·rw [if_pos a5]
      by_cases a6 : x.f3 > 3
      ·rw [if_neg a5,if_pos a6]
      exact absurd (show stepOk n x = true from decide_eq_true ⟨by omega,by omega,by omega,by omega,by omega,by omega,.inl b1⟩) hok
     ·rw [if_neg b1]
      by_cases b2 : x.f1.toList = ([98] : List UInt8)
      ·rw [if_pos b2]
       by_cases a5 : x.f3 < 0
       ·rw [if_pos a5]
       by_cases a6 : x.f3 > 3
       ·rw [if_neg a5,if_pos a6]
       exact absurd (show stepOk n x = true from decide_eq_true ⟨by omega,by omega,by omega,by omega,by omega,by omega,.inr b2⟩) hok
      ·rw [if_neg b2]
    ·rw [Bool.not_eq_true] at hok
     simp only [stp,hok,Bool.false_and]
 exact go t [] rfl (fun y hy => by simp at hy)
theorem sStepOk (n : Int) (hn : 1 ≤ n ∧ n ≤ 4) (x : Stp) : spec_l3Step.f n x.f0 x.f1 x.f2 x.f3 = some (stepOk n x):=by
 unfold spec_l3Step.f stepOk
 rw [sIn,sIn,sIn,w64 (x:=n - 1) (by omega) (by omega),Option.bind_some]
 by_cases a1 : 0 ≤ x.f0 ∧ x.f0 ≤ n - 1
 ·rw [decide_eq_true a1,if_pos rfl,Option.bind_some]
  by_cases a2 : 0 ≤ x.f2 ∧ x.f2 ≤ n - 1
  ·rw [decide_eq_true a2,if_pos rfl,Option.bind_some]
   by_cases a3 : 0 ≤ x.f3 ∧ x.f3 ≤ 3
   ·rw [decide_eq_true a3,if_pos rfl]
    by_cases b : x.f1.toList = ([97] : List UInt8)
    ·rw [if_pos b,decide_eq_true (by refine ⟨?_,?_,?_,?_,?_,?_,.inl b⟩ <;> omega)]
    ·rw [if_neg b]
     by_cases b2 : x.f1.toList = ([98] : List UInt8)
     ·rw [decide_eq_true b2,decide_eq_true (by refine ⟨?_,?_,?_,?_,?_,?_,.inr b2⟩ <;> omega)]
     ·rw [decide_eq_false b2,decide_eq_false (by intro g;rcases g.2.2.2.2.2.2 with c|c;exact b c;exact b2 c)]
   ·rw [decide_eq_false a3,if_neg (by simp),decide_eq_false (by omega)]
  ·rw [decide_eq_false a2,if_neg (by simp),decide_eq_false (by omega)]
 ·rw [decide_eq_false a1,if_neg (by simp),decide_eq_false (by omega)]
theorem sSteps (n : Int) (hn : 1 ≤ n ∧ n ≤ 4) (s f : List Int) (t : List Stp) (h : t.length ≤ 1000000000) : Ev (fun k => spec_AutomatonValid.l0 k t (t.length : Int) 0 n s f t) (stp n none t):=by
 have go : ∀ (u pre : List Stp),t = pre ++ u → Ev (fun k => spec_AutomatonValid.l0 k t (t.length : Int) (pre.length : Int) n s f t) (stp n pre.getLast? u):=by
  intro u
  induction u with
  | nil =>
   intro pre hl
   refine Ev.step (f:=fun _ => some true) (fun k => ?_) (Ev.now _)
   simp only [spec_AutomatonValid.l0];rw [if_neg (by rw [hl];simp)]
  | cons x u ih =>
   intro pre hl
   have hlen : t.length = pre.length + (u.length + 1):=by rw [hl];simp
   have hx : rdT t (pre.length : Int) = x:=by rw [hl,rdS_mid]
   have i1:=ih (pre ++ [x]) (by simp [hl])
   rw [List.getLast?_concat,snocA] at i1
   by_cases hok : stepOk n x = true
   ·rcases List.eq_nil_or_concat pre with rfl | ⟨q,y,rfl⟩
    ·refine Ev.step (fun k => ?_) (i1.is ?_)
     ·simp only [spec_AutomatonValid.l0];rw [if_pos (by omega),if_pos (by omega),if_pos (by omega),hx,sStepOk n hn,hok,Option.bind_some,if_pos rfl,if_neg (by simp),w64 (by omega) (by omega)]
     ·simp only [stp,List.getLast?_nil,hok,Bool.true_and]
    ·rw [List.concat_eq_append] at *
     have hq:=hlen
     rw [List.length_append,List.length_singleton] at hq
     have e : wrap64 (((q ++ [y]).length : Int) - 1) = (q.length : Int):=by rw [snocA,w64 (by omega) (by omega)];omega
     have hy : rdT t (q.length : Int) = y:=by rw [hl,List.append_assoc];exact rdS_mid q y (x :: u)
     by_cases hb : bef y x = true
     ·refine Ev.step (fun k => ?_) (i1.is ?_)
      ·simp only [spec_AutomatonValid.l0];rw [if_pos (by omega),if_pos (by omega),if_pos (by omega),hx,sStepOk n hn,hok,Option.bind_some,if_pos rfl,if_pos (by rw [snocA];omega),e,if_pos (by omega),if_pos (by omega),hy,sBefore,hb,Option.bind_some,if_pos rfl,w64 (by omega) (by omega)]
      ·simp only [stp,List.getLast?_concat,hok,hb,Bool.true_and]
     ·rw [Bool.not_eq_true] at hb
      refine Ev.step (f:=fun _ => some false) (fun k => ?_) ((Ev.now _).is ?_)
      ·simp only [spec_AutomatonValid.l0];rw [if_pos (by omega),if_pos (by omega),if_pos (by omega),hx,sStepOk n hn,hok,Option.bind_some,if_pos rfl,if_pos (by rw [snocA];omega),e,if_pos (by omega),if_pos (by omega),hy,sBefore,hb,Option.bind_some,if_neg (by simp)]
      ·simp only [stp,List.getLast?_concat,hok,hb,Bool.true_and];rfl
   ·rw [Bool.not_eq_true] at hok
    refine Ev.step (f:=fun _ => some false) (fun k => ?_) ((Ev.now _).is ?_)
    ·simp only [spec_AutomatonValid.l0];rw [if_pos (by omega),if_pos (by omega),if_pos (by omega),hx,sStepOk n hn,hok,Option.bind_some,if_neg (by simp)]
    ·simp only [stp,hok,Bool.false_and]
 exact go t [] rfl
theorem iAV (n : Int) (s f : List Int) (t : List Stp) (hs : s.length ≤ 1000000000) (hf : f.length ≤ 1000000000) (ht : t.length ≤ 1000000000) : Ev (fun k => impl_AutomatonValid.f k n s f t) (AV n s f t):=by
 have bad : ∀ g : Nat → Option Bool,(∀ k,g k = some false) → AV n s f t = false → Ev g (AV n s f t):=fun g hg he => ⟨0,fun k _ => by rw [hg,he]⟩
 by_cases h1 : n < 1
 ·exact bad _ (fun k => by unfold impl_AutomatonValid.f;rw [if_pos h1]) (by unfold AV;rw [decide_eq_false (by omega)];rfl)
 by_cases h2 : n > 4
 ·exact bad _ (fun k => by unfold impl_AutomatonValid.f;rw [if_neg h1,if_pos h2]) (by unfold AV;rw [decide_eq_false (by omega)];rfl)
 by_cases h3 : (t.length : Int) > 24
 ·exact bad _ (fun k => by unfold impl_AutomatonValid.f;rw [if_neg h1,if_neg h2,if_pos h3]) (by unfold AV;rw [decide_eq_false (by omega)];rfl)
 have hd : decide (1 ≤ n ∧ n ≤ 4 ∧ t.length ≤ 24) = true:=decide_eq_true (by omega)
 refine Ev.congr (f:=?f1) (fun k => ?h1) ?k1
 case h1 => unfold impl_AutomatonValid.f;rw [if_neg h1,if_neg h2,if_neg h3] <;> exact rfl
 refine Ev.bind (iMarks n s hs) ?_
 by_cases g1 : mrk n none s = true
 case neg =>
  exact bad _ (fun k => by rw [if_neg g1]) (by unfold AV;rw [Bool.not_eq_true] at g1;rw [g1];simp)
 refine Ev_t g1 ?_
 refine Ev.bind (iMarks n f hf) ?_
 by_cases g2 : mrk n none f = true
 case neg =>
  rw [Bool.not_eq_true] at g2
  exact bad _ (fun k => by rw [g2];rfl) (by unfold AV;rw [g2];simp)
 refine Ev.congr (fun k => by rw [if_pos g2]) ((iSteps n s f t ht).is ?_)
 unfold AV;rw [hd,g1,g2];rfl
theorem sAV (n : Int) (s f : List Int) (t : List Stp) (hs : s.length ≤ 1000000000) (hf : f.length ≤ 1000000000) (ht : t.length ≤ 1000000000) : Ev (fun k => spec_AutomatonValid.f k n s f t) (AV n s f t):=by
 have bad : ∀ g : Nat → Option Bool,(∀ k,g k = some false) → AV n s f t = false → Ev g (AV n s f t):=fun g hg he => ⟨0,fun k _ => by rw [hg,he]⟩
 by_cases h1 : 1 ≤ n ∧ n ≤ 4
 case neg => exact bad _ (fun k => by unfold spec_AutomatonValid.f;rw [sIn,decide_eq_false h1,Option.bind_some,if_neg (by simp)]) (by unfold AV;rw [decide_eq_false (by omega)];rfl)
 refine Ev.congr (f:=?f1) (fun k => ?h1) ?k1
 case h1 => unfold spec_AutomatonValid.f;rw [sIn,decide_eq_true h1,Option.bind_some,if_pos rfl] <;> exact rfl
 refine Ev.bind (sMarks n h1 s hs) ?_
 by_cases g1 : mrk n none s = true
 case neg =>
  exact bad _ (fun k => by rw [if_neg g1]) (by unfold AV;rw [Bool.not_eq_true] at g1;rw [g1];simp)
 refine Ev_t g1 ?_
 refine Ev.bind (sMarks n h1 f hf) ?_
 by_cases g2 : mrk n none f = true
 case neg =>
  exact bad _ (fun k => by rw [if_neg g2]) (by unfold AV;rw [Bool.not_eq_true] at g2;rw [g2];simp)
 refine Ev_t g2 ?_
 by_cases h3 : (t.length : Int) > 24
 ·exact bad _ (fun k => by rw [if_pos h3]) (by unfold AV;rw [decide_eq_false (by omega)];rfl)
 refine Ev.congr (fun k => by rw [if_neg h3]) ((sSteps n h1 s f t ht).is ?_)
 unfold AV;rw [decide_eq_true (by omega),g1,g2];rfl
theorem mrk_mem {n : Int} : ∀ {l : List Int} {p : Option Int},mrk n p l = true → ∀ x ∈ l,0 ≤ x ∧ x < n
 | [],_,_,x,hx => by cases hx
 | y :: t,p,h,x,hx => by
  simp only [mrk,Bool.and_eq_true,decide_eq_true_eq] at h
  rcases List.mem_cons.mp hx with rfl|hx
  ·exact h.1.1
  ·exact mrk_mem h.2 x hx
theorem cellZ {n i k : Int} (hn : 1 ≤ n ∧ n ≤ 4) (hi : 0 ≤ i ∧ i < n) (hk : 0 ≤ k ∧ k < n) : 0 ≤ i * n + k ∧ i * n + k < n * n ∧ i * n + k ≤ 16 ∧ 0 ≤ i * n ∧ i * n ≤ 16:=by
 have h1 : n = 1 ∨ n = 2 ∨ n = 3 ∨ n = 4:=by omega
 rcases h1 with rfl|rfl|rfl|rfl <;> omega
theorem cellW {n i k : Int} (hn : 1 ≤ n ∧ n ≤ 4) (hi : 0 ≤ i ∧ i < n) (hk : 0 ≤ k ∧ k < n) : wrap64 (wrap64 (i * n) + k) = i * n + k:=by
 have c:=cellZ hn hi hk
 rw [w64 (x:=i * n) (by omega) (by omega),w64 (by omega) (by omega)]
theorem AV_parts {n : Int} {s f : List Int} {t : List Stp} (h : AV n s f t = true) : (1 ≤ n ∧ n ≤ 4) ∧ t.length ≤ 24 ∧ mrk n none s = true ∧ mrk n none f = true ∧ stp n none t = true:=by
 simp only [AV,Bool.and_eq_true,decide_eq_true_eq] at h
 exact ⟨⟨h.1.1.1.1,h.1.1.1.2.1⟩,h.1.1.1.2.2,h.1.1.2,h.1.2,h.2⟩
def count : Int → Nat → List Int
 | _,0 => []
 | k,n + 1 => k :: count (k + 1) n
theorem count_length (n : Nat) : ∀ k,(count k n).length = n:=by induction n with
 | zero => intro k;rfl
 | succ n ih => intro k;simp [count,ih]
def mulE (n : Nat) (a b : List Int) (i k : Nat) : Int:=(List.range n).foldl (fun acc l => mn acc (mx (a.getD (i * n + l) 0) (b.getD (l * n + k) 0))) 3
def mulL (n : Nat) (a b : List Int) : List Int:=sqL n (mulE n a b)
theorem mulL_length (n : Nat) (a b : List Int) : (mulL n a b).length = n * n:=by simp [mulL,sqL,tab_length]
theorem GV_len {n : Nat} {l : List Int} (h : GV (n : Int) l) : l.length = n * n:=by
 have:=h.1.2.2.1
 exact_mod_cast this
theorem GV_le {n : Nat} {l : List Int} (h : GV (n : Int) l) : n ≤ 4 ∧ 1 ≤ n:=by
 have h1:=h.1.1
 have h2:=h.1.2.1
 omega
theorem GV_nat {n : Int} {l : List Int} (h : GV n l) : ∃ m : Nat,n = (m : Int):=⟨n.toNat,by have:=h.1.1;omega⟩
def mulR (n : Int) (a : List Int) (m : Int) (b : List Int) : Int × List Int × Bool:=if GV n a ∧ GV m b ∧ n = m then (n,mulL n.toNat a b,true) else (0,[],false)
def betw (n : Int) (s f l : List Int) : Int:=s.foldl (fun acc i => f.foldl (fun acc k => mn acc (l.getD (i * n + k).toNat 0)) acc) 3
theorem sBetw (n : Int) (hn : 1 ≤ n ∧ n ≤ 4) (s f : List Int) (t : List Stp) (l : List Int) (hl : (l.length : Int) = n * n) (hs : ∀ x ∈ s,0 ≤ x ∧ x < n) (hf : ∀ x ∈ f,0 ≤ x ∧ x < n) (hsl : s.length ≤ 1000000000) (hfl : f.length ≤ 1000000000) :
  Ev (fun k => spec_l6Between.f k n s f t n l) (betw n s f l):=by
 have go : ∀ (u pre : List Int) (acc : Int),s = pre ++ u → Ev (fun k => spec_l6Between.l0 k acc s (s.length : Int) (pre.length : Int) n s f t n l) (u.foldl (fun acc i => f.foldl (fun acc k => mn acc (l.getD (i * n + k).toNat 0)) acc) acc):=by
  intro u
  induction u with
  | nil =>
   intro pre acc hp
   refine Ev.step (f:=fun _ => some acc) (fun k => ?_) (Ev.now _)
   simp only [spec_l6Between.l0];rw [if_neg (by rw [hp];simp)]
  | cons x u ih =>
   intro pre acc hp
   have hlen : s.length = pre.length + (u.length + 1):=by rw [hp];simp
   have hx : rdI s (pre.length : Int) = x:=by rw [hp,rd_mid]
   have hb:=hs x (by rw [hp];simp)
   have inner : ∀ (v q : List Int) (acc : Int),f = q ++ v → Ev (fun k => spec_l6Between.l1 k acc x s (s.length : Int) (pre.length : Int) f (f.length : Int) (q.length : Int) n s f t n l) (u.foldl (fun acc i => f.foldl (fun acc k => mn acc (l.getD (i * n + k).toNat 0)) acc) (v.foldl (fun acc k => mn acc (l.getD (x * n + k).toNat 0)) acc)):=by
    intro v
    induction v with
    | nil =>
     intro q acc hq
     refine Ev.step (fun k => ?_) (ih (pre ++ [x]) acc (by simp [hp]))
     simp only [spec_l6Between.l1];rw [if_neg (by rw [hq];simp),w64 (by omega) (by omega),snoc_len]
    | cons y v ihv =>
     intro q acc hq
     have hlq : f.length = q.length + (v.length + 1):=by rw [hq];simp
     have hy : rdI f (q.length : Int) = y:=by rw [hq,rd_mid]
     have hc:=hf y (by rw [hq];simp)
     have c:=cellZ hn hb hc
     refine Ev.step (fun k => ?_) (ihv (q ++ [y]) _ (by simp [hq]))
     simp only [spec_l6Between.l1]
     rw [if_pos (by omega),if_pos (by omega),if_pos (by omega),hy,cellW hn hb hc,if_pos (by omega),if_pos (by omega),w64 (x:=(q.length : Int) + 1) (by omega) (by omega),snoc_len]
     rfl
   refine Ev.step (fun k => ?_) (inner f [] acc rfl)
   simp only [spec_l6Between.l0]
   rw [if_pos (by omega),if_pos (by omega),if_pos (by omega),hx];rfl
 exact go s [] 3 rfl
theorem iBetw (n : Int) (hn : 1 ≤ n ∧ n ≤ 4) (s f : List Int) (t : List Stp) (l : List Int) (hl : (l.length : Int) = n * n) (hs : ∀ x ∈ s,0 ≤ x ∧ x < n) (hf : ∀ x ∈ f,0 ≤ x ∧ x < n) (hsl : s.length ≤ 1000000000) (hfl : f.length ≤ 1000000000) :
  Ev (fun k => impl_GradeBetween.l0 k 3 s (s.length : Int) 0 n s f t n l) (betw n s f l):=by
 have go : ∀ (u pre : List Int) (acc : Int),s = pre ++ u → Ev (fun k => impl_GradeBetween.l0 k acc s (s.length : Int) (pre.length : Int) n s f t n l) (u.foldl (fun acc i => f.foldl (fun acc k => mn acc (l.getD (i * n + k).toNat 0)) acc) acc):=by
  intro u
  induction u with
  | nil =>
   intro pre acc hp
   refine Ev.step (f:=fun _ => some acc) (fun k => ?_) (Ev.now _)
   simp only [impl_GradeBetween.l0];rw [if_neg (by rw [hp];simp)]
  | cons x u ih =>
   intro pre acc hp
   have hlen : s.length = pre.length + (u.length + 1):=by rw [hp];simp
   have hx : rdI s (pre.length : Int) = x:=by rw [hp,rd_mid]
   have hb:=hs x (by rw [hp];simp)
   have inner : ∀ (v q : List Int) (acc : Int),f = q ++ v → Ev (fun k => impl_GradeBetween.l1 k acc x s (s.length : Int) (pre.length : Int) f (f.length : Int) (q.length : Int) n s f t n l) (u.foldl (fun acc i => f.foldl (fun acc k => mn acc (l.getD (i * n + k).toNat 0)) acc) (v.foldl (fun acc k => mn acc (l.getD (x * n + k).toNat 0)) acc)):=by
    intro v
    induction v with
    | nil =>
     intro q acc hq
     refine Ev.step (fun k => ?_) (ih (pre ++ [x]) acc (by simp [hp]))
     simp only [impl_GradeBetween.l1];rw [if_neg (by rw [hq];simp),w64 (by omega) (by omega),snoc_len]
    | cons y v ihv =>
     intro q acc hq
     have hlq : f.length = q.length + (v.length + 1):=by rw [hq];simp
     have hy : rdI f (q.length : Int) = y:=by rw [hq,rd_mid]
     have hc:=hf y (by rw [hq];simp)
     have c:=cellZ hn hb hc
     refine Ev.step (fun k => ?_) (ihv (q ++ [y]) _ (by simp [hq]))
     simp only [impl_GradeBetween.l1,impl_Matrix_at.f]
     rw [if_pos (by omega),if_pos (by omega),if_pos (by omega),hy,cellW hn hb hc,if_pos (by omega),if_pos (by omega),Option.bind_some,w64 (x:=(q.length : Int) + 1) (by omega) (by omega),snoc_len]
     rfl
   refine Ev.step (fun k => ?_) (inner f [] acc rfl)
   simp only [impl_GradeBetween.l0]
   rw [if_pos (by omega),if_pos (by omega),if_pos (by omega),hx];rfl
 exact go s [] 3 rfl
def grB (n : Int) (s f : List Int) (t : List Stp) (m : Int) (l : List Int) : Int:=if AV n s f t = true ∧ GV m l ∧ m = n then betw n s f l else -1
theorem iGradeB (n : Int) (s f : List Int) (t : List Stp) (m : Int) (l : List Int) (hs : s.length ≤ 1000000000) (hf : f.length ≤ 1000000000) (ht : t.length ≤ 1000000000) (hl : l.length ≤ maxLen) : Ev (fun k => impl_GradeBetween.f k n s f t m l) (grB n s f t m l):=by
 have bad : ¬ (AV n s f t = true ∧ GV m l ∧ m = n) → grB n s f t m l = -1:=fun he => by unfold grB;rw [if_neg he]
 unfold impl_GradeBetween.f
 refine Ev.bind (iAV n s f t hs hf ht) ?_
 by_cases g1 : AV n s f t = true
 case neg => exact Ev_f g1 ((Ev.now _).is (bad (fun h => g1 h.1)).symm)
 refine Ev_t g1 (Ev.bind (iGV m l hl) ?_)
 by_cases g2 : GV m l
 case neg => exact Ev_f (by simpa using g2) ((Ev.now _).is (bad (fun h => g2 h.2.1)).symm)
 refine Ev_t (decide_eq_true g2) ?_
 by_cases g3 : m = n
 case neg => exact Ev_f g3 ((Ev.now _).is (bad (fun h => g3 h.2.2)).symm)
 refine Ev_t g3 ?_
 subst g3
 obtain ⟨h1,h2,h3,h4,h5⟩:=AV_parts g1
 refine (iBetw m h1 s f t l g2.1.2.2.1 (mrk_mem h3) (mrk_mem h4) hs hf).is ?_
 unfold grB;rw [if_pos ⟨g1,g2,rfl⟩]
theorem sGradeB (n : Int) (s f : List Int) (t : List Stp) (m : Int) (l : List Int) (hs : s.length ≤ 1000000000) (hf : f.length ≤ 1000000000) (ht : t.length ≤ 1000000000) (hl : l.length ≤ maxLen) : Ev (fun k => spec_GradeBetween.f k n s f t m l) (grB n s f t m l):=by
 have bad : ∀ g : Nat → Option Int,(∀ k,g k = some (-1)) → ¬ (AV n s f t = true ∧ GV m l ∧ m = n) → Ev g (grB n s f t m l):=fun g hg he => (ev_some hg).is (by unfold grB;rw [if_neg he])
 refine Ev.congr (f:=?f1) (fun k => ?h1) ?k1
 case h1 => unfold spec_GradeBetween.f;exact rfl
 refine Ev.bind (sAV n s f t hs hf ht) ?_
 by_cases g1 : AV n s f t = true
 case neg => exact bad _ (fun k => by rw [if_neg g1]) (fun h => g1 h.1)
 refine Ev_t g1 ?_
 refine Ev.bind (sGV m l hl) ?_
 by_cases g2 : GV m l
 case neg => exact bad _ (fun k => by rw [if_neg (by simpa using g2)]) (fun h => g2 h.2.1)
 refine Ev_t (decide_eq_true g2) ?_
 by_cases g3 : m = n
 case neg => exact bad _ (fun k => by rw [if_neg g3]) (fun h => g3 h.2.2)
 refine Ev_t g3 ?_
 subst g3
 obtain ⟨h1,h2,h3,h4,h5⟩:=AV_parts g1
 refine Ev.bind (sBetw m h1 s f t l g2.1.2.2.1 (mrk_mem h3) (mrk_mem h4) hs hf) ((Ev.now _).is ?_)
 unfold grB;rw [if_pos ⟨g1,g2,rfl⟩]
theorem daSame_ev (a : List Int) (h : a.length ≤ 1000000000) : Ev (fun k => laws_daSame.f k a a) true:=by
 have go : ∀ (t pre : List Int),a = pre ++ t → Ev (fun k => laws_daSame.l0 k a a (a.length : Int) (pre.length : Int)) true:=by
  intro t
  induction t with
  | nil =>
   intro pre hp
   refine Ev.step (f:=fun _ => some (decide ((a.length : Int) = (a.length : Int)))) (fun k => ?_) ((Ev.now _).is (decide_eq_true rfl))
   simp only [laws_daSame.l0];rw [if_neg (by rw [hp];simp)]
  | cons x t ih =>
   intro pre hp
   have hlen : a.length = pre.length + (t.length + 1):=by rw [hp];simp
   have a0 : (pre.length : Int) < (a.length : Int):=by omega
   have e : (((pre ++ [x]).length : Nat) : Int) = wrap64 ((pre.length : Int) + 1):=by rw [w64 (by omega) (by omega)];simp
   have nx:=ih (pre ++ [x]) (by simp [hp])
   rw [e] at nx
   refine Ev.step (fun k => ?_) nx
   simp only [laws_daSame.l0]
   rw [if_pos a0,if_pos (Int.natCast_nonneg _),if_pos a0,if_pos a0,if_pos trivial]
 have e : mn (a.length : Int) (a.length : Int) = (a.length : Int):=by unfold mn;rw [if_neg (by omega)]
 unfold laws_daSame.f
 rw [e]
 exact go a [] rfl
theorem daMatrix_ev (n : Int) (a : List Int) (h : a.length ≤ 1000000000) : Ev (fun k => laws_daMatrix.f k n a n a) true:=by
 unfold laws_daMatrix.f
 exact Ev_t rfl (Ev.bind (daSame_ev a h) (Ev.now _))
theorem mn_le (x y t : Int) : mn x y ≤ t ↔ x ≤ t ∨ y ≤ t:=by unfold mn;by_cases h : y < x <;> simp only [h,if_true,if_false] <;> omega
theorem mx_le (x y t : Int) : mx x y ≤ t ↔ x ≤ t ∧ y ≤ t:=by unfold mx;by_cases h : x < y <;> simp only [h,if_true,if_false] <;> omega
theorem fold_le (n : Nat) (F : Nat → Int) (c t : Int) : (List.range n).foldl (fun acc l => mn acc (F l)) c ≤ t ↔ c ≤ t ∨ ∃ l,l < n ∧ F l ≤ t:=by
 induction n with
 | zero => simp
 | succ n ih =>
  rw [fold_snoc,mn_le,ih]
  constructor
  ·rintro ((h | ⟨l,h1,h2⟩)|h)
   ·exact Or.inl h
   ·exact Or.inr ⟨l,by omega,h2⟩
   ·exact Or.inr ⟨n,by omega,h⟩
  ·rintro (h | ⟨l,h1,h2⟩)
   ·exact Or.inl (Or.inl h)
   ·by_cases e : l = n
    ·subst e;exact Or.inr h2
    ·exact Or.inl (Or.inr ⟨l,by omega,h2⟩)
theorem mulE_le (n : Nat) (a b : List Int) (i k : Nat) (t : Int) : mulE n a b i k ≤ t ↔ 3 ≤ t ∨ ∃ l,l < n ∧ a.getD (i * n + l) 0 ≤ t ∧ b.getD (l * n + k) 0 ≤ t:=by
 unfold mulE
 rw [fold_le n (fun l => mx (a.getD (i * n + l) 0) (b.getD (l * n + k) 0)) 3 t]
 constructor
 ·rintro (h | ⟨l,h1,h2⟩)
  ·exact Or.inl h
  ·rw [mx_le] at h2;exact Or.inr ⟨l,h1,h2.1,h2.2⟩
 ·rintro (h | ⟨l,h1,h2,h3⟩)
  ·exact Or.inl h
  ·exact Or.inr ⟨l,h1,by rw [mx_le];exact ⟨h2,h3⟩⟩
theorem mulL_get (n : Nat) (a b : List Int) (i k : Nat) (hi : i < n) (hk : k < n) : (mulL n a b).getD (i * n + k) 0 = mulE n a b i k:=sqL_get n _ i k hi hk
theorem eq_of_le (x y : Int) (h : ∀ t,x ≤ t ↔ y ≤ t) : x = y:=by
 have h1:=(h y).mpr (Int.le_refl _)
 have h2:=(h x).mp (Int.le_refl _)
 omega
theorem mul_assoc' (n : Nat) (a b c : List Int) : mulL n (mulL n a b) c = mulL n a (mulL n b c):=by
 unfold mulL
 refine sqL_congr n _ _ (fun i k hi hk => eq_of_le _ _ (fun t => ?_))
 show mulE n (mulL n a b) c i k ≤ t ↔ mulE n a (mulL n b c) i k ≤ t
 rw [mulE_le,mulE_le]
 constructor
 ·rintro (h | ⟨l,hl,h1,h2⟩)
  ·exact Or.inl h
  ·rw [mulL_get n a b i l hi hl,mulE_le] at h1
   rcases h1 with h1 | ⟨m,hm,h3,h4⟩
   ·exact Or.inl h1
   ·refine Or.inr ⟨m,hm,h3,?_⟩
    rw [mulL_get n b c m k hm hk,mulE_le]
    exact Or.inr ⟨l,hl,h4,h2⟩
 ·rintro (h | ⟨m,hm,h1,h2⟩)
  ·exact Or.inl h
  ·rw [mulL_get n b c m k hm hk,mulE_le] at h2
   rcases h2 with h2 | ⟨l,hl,h3,h4⟩
   ·exact Or.inl h2
   ·refine Or.inr ⟨l,hl,?_,h4⟩
    rw [mulL_get n a b i l hi hl,mulE_le]
    exact Or.inr ⟨m,hm,h1,h3⟩
def pw (n : Nat) (l : List Int) : Nat → List Int
 | 0 => l
 | m + 1 => mulL n (pw n l m) l
theorem pw_add (n : Nat) (l : List Int) (a b : Nat) : mulL n (pw n l a) (pw n l b) = pw n l (a + b + 1):=by
 induction b with
 | zero => rfl
 | succ b ih => show mulL n (pw n l a) (mulL n (pw n l b) l) = mulL n (pw n l (a + (b + 1))) l;rw [← mul_assoc',ih];rfl
def Gr (l : List Int) : Prop := ∀ x ∈ l,0 ≤ x ∧ x ≤ 3
theorem gr_getD {l : List Int} (h : Gr l) (j : Nat) : 0 ≤ l.getD j 0 ∧ l.getD j 0 ≤ 3:=by
 rw [List.getD_eq_getElem?_getD]
 by_cases hj : j < l.length
 ·rw [List.getElem?_eq_getElem hj];exact h _ (List.getElem_mem hj)
 ·rw [List.getElem?_eq_none (by omega)];simp
theorem mulE_in (n : Nat) (a b : List Int) (ha : Gr a) (hb : Gr b) (i k : Nat) : 0 ≤ mulE n a b i k ∧ mulE n a b i k ≤ 3:=by
 constructor
 ·have h:=mulE_le n a b i k (-1)
  have : ¬ mulE n a b i k ≤ -1:=by
   rw [h]
   rintro (h | ⟨l,_,h1,_⟩)
   ·omega
   ·have:=(gr_getD ha (i * n + l)).1;omega
  omega
 ·rw [mulE_le];exact Or.inl (Int.le_refl _)
theorem mul_gr (n : Nat) (a b : List Int) (ha : Gr a) (hb : Gr b) : Gr (mulL n a b):=by
 intro x hx
 obtain ⟨j,hj,rfl⟩:=mem_tab.mp hx
 exact mulE_in n a b ha hb _ _
theorem pw_gr (n : Nat) (l : List Int) (h : Gr l) (m : Nat) : Gr (pw n l m):=by
 induction m with
 | zero => exact h
 | succ m ih => exact mul_gr n _ _ ih h
theorem pw_len (n : Nat) (l : List Int) (h : l.length = n * n) (m : Nat) : (pw n l m).length = n * n:=by
 cases m with
 | zero => exact h
 | succ m => exact mulL_length n _ _
theorem pigeon (N : Nat) : ∀ f : Nat → Nat,(∀ i,i ≤ N → f i < N) → ∃ i j,i < j ∧ j ≤ N ∧ f i = f j:=by
 induction N with
 | zero => intro f h;exact absurd (h 0 (Nat.le_refl _)) (by omega)
 | succ N ih =>
  intro f h
  by_cases e : ∃ i,i ≤ N ∧ f i = f (N + 1)
  ·obtain ⟨i,h1,h2⟩:=e
   exact ⟨i,N + 1,by omega,Nat.le_refl _,h2⟩
  ·have ne : ∀ i,i ≤ N → f i ≠ f (N + 1):=fun i hi he => e ⟨i,hi,he⟩
   obtain ⟨i,j,h1,h2,h3⟩:=ih (fun i => if f i > f (N + 1) then f i - 1 else f i) (fun i hi => by
    have a:=h i (by omega)
    have b:=h (N + 1) (Nat.le_refl _)
    have c:=ne i hi
    show (if f i > f (N + 1) then f i - 1 else f i) < N
    by_cases d : f i > f (N + 1)
    ·rw [if_pos d];omega
    ·rw [if_neg d];omega)
   refine ⟨i,j,h1,by omega,?_⟩
   have c1:=ne i (by omega)
   have c2:=ne j h2
   have h3' : (if f i > f (N + 1) then f i - 1 else f i) = (if f j > f (N + 1) then f j - 1 else f j):=h3
   by_cases d1 : f i > f (N + 1) <;> by_cases d2 : f j > f (N + 1)
   ·rw [if_pos d1,if_pos d2] at h3';omega
   ·rw [if_pos d1,if_neg d2] at h3';omega
   ·rw [if_neg d1,if_pos d2] at h3';omega
   ·rw [if_neg d1,if_neg d2] at h3';omega
def code : List Int → Nat
 | [] => 0
 | x :: t => x.toNat + 4 * code t
theorem code_lt (l : List Int) (h : Gr l) : code l < 4 ^ l.length:=by
 induction l with
 | nil => simp [code]
 | cons x t ih =>
  have h1:=h x (by simp)
  have h2:=ih (fun y hy => h y (by simp [hy]))
  rw [List.length_cons,Nat.pow_succ]
  simp only [code]
  omega
theorem code_inj (l : List Int) : ∀ m : List Int,Gr l → Gr m → l.length = m.length → code l = code m → l = m:=by
 induction l with
 | nil => intro m _ _ h _;cases m with
  | nil => rfl
  | cons => simp at h
 | cons x t ih =>
  intro m hl hm h e
  cases m with
  | nil => simp at h
  | cons y u =>
   have h1:=hl x (by simp)
   have h2:=hm y (by simp)
   simp only [code] at e
   have e1 : x = y:=by omega
   have e2 : code t = code u:=by omega
   rw [e1,ih u (fun z hz => hl z (by simp [hz])) (fun z hz => hm z (by simp [hz])) (by simpa using h) e2]
theorem pw_again (n : Nat) (l : List Int) (i d : Nat) (h : pw n l i = pw n l (i + d)) : ∀ m,i ≤ m → ∀ q,pw n l m = pw n l (m + q * d):=by
 have one : ∀ m,i ≤ m → pw n l m = pw n l (m + d):=by
  intro m hm
  obtain ⟨x,rfl⟩:=Nat.le.dest hm
  cases x with
  | zero => exact h
  | succ x =>
   have a:=pw_add n l i x
   have b:=pw_add n l (i + d) x
   rw [← h] at b
   have e : i + d + x + 1 = i + (x + 1) + d:=by omega
   rw [← e,← b,a];rfl
 intro m hm q
 induction q with
 | zero => simp
 | succ q ih =>
  rw [ih,one (m + q * d) (by omega)]
  congr 1
  rw [Nat.succ_mul];omega
theorem some_idem (n : Nat) (l : List Int) (hl : l.length = n * n) (hg : Gr l) : ∃ m,mulL n (pw n l m) (pw n l m) = pw n l m:=by
 obtain ⟨i,j,hij,_,he⟩:=pigeon (4 ^ (n * n)) (fun m => code (pw n l m)) (fun m _ => by
  have:=code_lt (pw n l m) (pw_gr n l hg m)
  rwa [pw_len n l hl m] at this)
 have he2 : pw n l i = pw n l j:=code_inj _ _ (pw_gr n l hg i) (pw_gr n l hg j) (by rw [pw_len n l hl,pw_len n l hl]) he
 obtain ⟨d,rfl⟩ : ∃ d,j = i + (d + 1):=⟨j - i - 1,by omega⟩
 have per:=pw_again n l i (d + 1) he2
 have hM : i ≤ (i + 1) * (d + 1) - 1:=by
  have : i + 1 ≤ (i + 1) * (d + 1):=Nat.le_mul_of_pos_right _ (by omega)
  omega
 have hp : 1 ≤ (i + 1) * (d + 1):=Nat.mul_pos (by omega) (by omega)
 refine ⟨(i + 1) * (d + 1) - 1,?_⟩
 rw [pw_add,per _ hM (i + 1)]
 congr 1
theorem least (P : Nat → Prop) (h : ∃ m,P m) : ∃ m,P m ∧ ∀ j,j < m → ¬ P j:=by
 obtain ⟨m,hm⟩:=h
 induction m using Nat.strongRecOn with
 | _ m ih =>
  by_cases e : ∃ j,j < m ∧ P j
  ·obtain ⟨j,h1,h2⟩:=e
   exact ih j h1 h2
  ·exact ⟨m,hm,fun j h1 h2 => e ⟨j,h1,h2⟩⟩
theorem GV_iff (n : Nat) (l : List Int) : GV n l ↔ 1 ≤ n ∧ n ≤ 4 ∧ l.length = n * n ∧ Gr l:=by
 constructor
 ·intro h
  refine ⟨(GV_le h).2,(GV_le h).1,GV_len h,fun x hx => ⟨(h.1.2.2.2 x hx).1,h.2 x hx⟩⟩
 ·rintro ⟨h1,h2,h3,h4⟩
  refine ⟨⟨by omega,by omega,by rw [h3];simp,fun x hx => ⟨(h4 x hx).1,?_⟩⟩,fun x hx => (h4 x hx).2⟩
  have:=(h4 x hx).2
  omega
theorem GV_mul (n : Nat) (a b : List Int) (ha : GV n a) (hb : GV n b) : GV n (mulL n a b):=by
 rw [GV_iff] at ha hb ⊢
 exact ⟨ha.1,ha.2.1,mulL_length n a b,mul_gr n a b ha.2.2.2 hb.2.2.2⟩
end Go.Proofs.YtfjfdlgcneclfaaDoor.V
end
section
set_option linter.unusedVariables false
set_option linter.unusedSimpArgs false
namespace Go.Proofs.YtfjfdlgcneclfaaDoor.V
open Go Go.Proofs.YtfjfdlgcneclfaaDoor.R Go.RowKit
open Go.Proofs.YtfjfdlgcneclfaaDoorW.PrintWords hiding mn mx
theorem wnat {i : Nat} (h : i < 1000000000000) : wrap64 ((i : Int) + 1) = ((i + 1 : Nat) : Int):=by rw [w64 (by omega) (by omega)];rfl
theorem xor_nat (a b : Nat) (ha : a < 4611686018427387904) (hb : b < 4611686018427387904) : xorK .i64 (a : Int) (b : Int) = ((a ^^^ b : Nat) : Int):=by
 have hx : a ^^^ b < 2 ^ 62:=Nat.xor_lt_two_pow (by omega) (by omega)
 have h1 : (BitVec.ofInt 64 (a : Int)).toNat = a:=by
  rw [BitVec.ofInt_natCast,BitVec.toNat_ofNat];exact Nat.mod_eq_of_lt (by omega)
 have h2 : (BitVec.ofInt 64 (b : Int)).toNat = b:=by
  rw [BitVec.ofInt_natCast,BitVec.toNat_ofNat];exact Nat.mod_eq_of_lt (by omega)
 show IntKind.i64.wrap ((BitVec.ofInt 64 (a : Int) ^^^ BitVec.ofInt 64 (b : Int)).toNat : Int) = _
 rw [BitVec.toNat_xor,h1,h2]
 simp [IntKind.wrap,IntKind.bits,IntKind.signed]
 omega
def Bytes (l : List Int) : Prop := ∀ x ∈ l,0 ≤ x ∧ x ≤ 255
theorem bytes_of {l : List Int} (h : ∀ x ∈ l,(Lit.int .u8 x).wf = true) : Bytes l:=by
 intro x hx
 have:=h x hx
 have hmin : IntKind.u8.min = 0:=rfl
 have hmax : IntKind.u8.max = 255:=rfl
 simp only [Lit.wf,Bool.and_eq_true,decide_eq_true_eq] at this
 omega
theorem rd_byte {l : List Int} (h : Bytes l) (i : Int) : ∃ b : Nat,rdI l i = (b : Int) ∧ b ≤ 255:=by
 have : 0 ≤ rdI l i ∧ rdI l i ≤ 255:=by
  unfold rdI
  rw [List.getD_eq_getElem?_getD]
  by_cases hj : i.toNat < l.length
  ·rw [List.getElem?_eq_getElem hj];exact h _ (List.getElem_mem hj)
  ·rw [List.getElem?_eq_none (by omega)];simp
 exact ⟨(rdI l i).toNat,by omega,by omega⟩
theorem mixed (b c s q : Nat) (hb : b ≤ 255) (hc : c ≤ 255) (hs : s ≤ 1000000) (hq : q ≤ 1000000) :
  wrap64 ((wrap64 ((wrap64 ((wrap64 ((wrap64 (b : Int)) * 131)) + (wrap64 ((wrap64 (c : Int)) * 1117)))) + (wrap64 ((s : Int) * 29)))) + (wrap64 ((wrap64 (q : Int)) * 53))) = ((b * 131 + c * 1117 + s * 29 + q * 53 : Nat) : Int):=by
 rw [w64 (x:=(b : Int)) (by omega) (by omega),w64 (x:=(c : Int)) (by omega) (by omega),w64 (x:=(q : Int)) (by omega) (by omega),w64 (x:=(b : Int) * 131) (by omega) (by omega),w64 (x:=(c : Int) * 1117) (by omega) (by omega),w64 (x:=(s : Int) * 29) (by omega) (by omega),w64 (x:=(q : Int) * 53) (by omega) (by omega),
  w64 (x:=(b : Int) * 131 + (c : Int) * 1117) (by omega) (by omega),w64 (x:=(b : Int) * 131 + (c : Int) * 1117 + (s : Int) * 29) (by omega) (by omega),w64 (x:=(b : Int) * 131 + (c : Int) * 1117 + (s : Int) * 29 + (q : Int) * 53) (by omega) (by omega)]
 omega
theorem second (s : Nat) (hs : s ≤ 1000000) : wrap64 ((wrap64 ((s : Int) * 7)) + 3) = ((s * 7 + 3 : Nat) : Int):=by
 rw [w64 (x:=(s : Int) * 7) (by omega) (by omega),w64 (x:=(s : Int) * 7 + 3) (by omega) (by omega)];omega
theorem at_up (s : Nat) (hs : s ≤ 1000000) : wrap64 ((s : Int) + 1) = ((s + 1 : Nat) : Int):=by rw [w64 (x:=(s : Int) + 1) (by omega) (by omega)];omega
theorem at_down (s : Nat) (hs : s ≤ 1000000) : wrap64 (((s + 1 : Nat) : Int) - 1) = (s : Int):=by rw [w64 (x:=((s + 1 : Nat) : Int) - 1) (by omega) (by omega)];omega
theorem at_64 (m : Nat) (hm : m ≤ 100000000) : wrap64 (Int.tdiv (m : Int) 64) = ((m / 64 : Nat) : Int):=by
 have hmq : m / 64 ≤ 100000000:=Nat.le_trans (Nat.div_le_self _ _) hm
 have : (64 : Int) = ((64 : Nat) : Int):=rfl
 rw [this,tdiv_nat,w64 (x:=((m / 64 : Nat) : Int)) (by omega) (by omega)]
theorem pick_r (l : List Int) (hl : l.length ≤ 2000) (hb : Bytes l) (s n : Nat) (hs : s ≤ 1000000) (h1 : 1 ≤ n) (hn : n ≤ 1000000) :
  ∃ v : Nat,v < n ∧ spec_l13Rd_pick.f (n : Int) l (s : Int) = some ((v : Int),l,((s + 1 : Nat) : Int)):=by
 have hn0 : ¬ (n : Int) < 1:=by omega
 have hnz : ¬ (n : Int) = 0:=by omega
 obtain ⟨L,hL⟩ : ∃ L,l.length = L:=⟨_,rfl⟩
 unfold spec_l13Rd_pick.f
 rw [if_neg hn0,at_up s hs,at_down s hs,hL]
 by_cases h0 : (L : Int) = 0
 ·exact ⟨0,by omega,by rw [if_pos h0];rfl⟩
 rw [if_neg h0]
 have hL1 : 1 ≤ L:=by omega
 by_cases hlt : s < L
 ·obtain ⟨b,hb1,hb2⟩:=rd_byte hb (s : Int)
  refine ⟨b % n,Nat.mod_lt _ (by omega),?_⟩
  rw [if_pos (by omega),if_pos (by omega),if_neg hnz,hb1,w64 (x:=(b : Int)) (by omega) (by omega),tmod_nat]
 ·obtain ⟨b,hb1,hb2⟩:=rd_byte hb ((s % L : Nat) : Int)
  obtain ⟨c,hc1,hc2⟩:=rd_byte hb (((s * 7 + 3) % L : Nat) : Int)
  have hq : s / L ≤ 1000000:=Nat.le_trans (Nat.div_le_self _ _) hs
  obtain ⟨q,hqe⟩ : ∃ q,s / L = q:=⟨_,rfl⟩
  rw [hqe] at hq
  obtain ⟨m,hm⟩ : ∃ m : Nat,b * 131 + c * 1117 + s * 29 + q * 53 = m:=⟨_,rfl⟩
  have hmb : m ≤ 100000000:=by omega
  have hmq : m / 64 ≤ 100000000:=Nat.le_trans (Nat.div_le_self _ _) hmb
  have m1 : s % L < L:=Nat.mod_lt _ (by omega)
  have m2 : (s * 7 + 3) % L < L:=Nat.mod_lt _ (by omega)
  have x1 : m < 4611686018427387904:=by omega
  have x2 : m / 64 < 4611686018427387904:=by omega
  have y1 : ¬ (s : Int) < (L : Int):=by omega
  have y2 : ((s % L : Nat) : Int) < (L : Int):=by omega
  have y3 : (((s * 7 + 3) % L : Nat) : Int) < (L : Int):=by omega
  refine ⟨(m ^^^ (m / 64)) % n,Nat.mod_lt _ (by omega),?_⟩
  rw [if_neg y1,tmod_nat,if_pos (Int.natCast_nonneg _),if_pos y2,second s hs,tmod_nat,if_pos (Int.natCast_nonneg _),if_pos y3,if_neg hnz,hb1,hc1,tdiv_nat,hqe,mixed b c s q hb2 hc2 hs hq,hm,at_64 m hmb,xor_nat m (m / 64) x1 x2,tmod_nat]
theorem of_r (l : List Int) (hl : l.length ≤ 2000) (hb : Bytes l) (s : Nat) (hs : s ≤ 1000000) (z : List ByteArray) (h1 : 1 ≤ z.length) (hn : z.length ≤ 1000000) :
  ∃ x ∈ z,spec_l13Rd_of.f z l (s : Int) = some (x,l,((s + 1 : Nat) : Int)):=by
 obtain ⟨v,hv,h⟩:=pick_r l hl hb s z.length hs h1 hn
 refine ⟨z[v],List.getElem_mem hv,?_⟩
 unfold spec_l13Rd_of.f
 rw [h,Option.bind_some]
 show (if (0 : Int) ≤ (v : Int) then (if (v : Int) < (z.length : Int) then some (rdS z (v : Int),l,((s + 1 : Nat) : Int)) else none) else none) = _
 rw [if_pos (by omega),if_pos (by omega)]
 simp [rdS,List.getD_eq_getElem?_getD,hv]
theorem num_r (l : List Int) (hl : l.length ≤ 2000) (hb : Bytes l) (s : Nat) (hs : s ≤ 1000000) (z : List Int) (h1 : 1 ≤ z.length) (hn : z.length ≤ 1000000) :
  ∃ x ∈ z,spec_l13Rd_num.f z l (s : Int) = some (x,l,((s + 1 : Nat) : Int)):=by
 obtain ⟨v,hv,h⟩:=pick_r l hl hb s z.length hs h1 hn
 refine ⟨z[v],List.getElem_mem hv,?_⟩
 unfold spec_l13Rd_num.f
 rw [h,Option.bind_some]
 show (if (0 : Int) ≤ (v : Int) then (if (v : Int) < (z.length : Int) then some (rdI z (v : Int),l,((s + 1 : Nat) : Int)) else none) else none) = _
 rw [if_pos (by omega),if_pos (by omega)]
 simp [rdI,List.getD_eq_getElem?_getD,hv]
theorem bnd {α β γ : Type} {o : Option γ} {z : γ} {g : Nat → γ → Option α} {r : α} (h : o = some z) (k : Ev (fun n => g n z) r) : Ev (fun n => o.bind (g n)) r:=Ev.congr (fun n => by rw [h];rfl) k
theorem some_r (l : List Int) (hl : l.length ≤ 2000) (hb : Bytes l) (n : Nat) (hn : n ≤ 100) (s : Nat) (hs : s ≤ 900000) : ∃ r : List Int,r.length ≤ n ∧ Ev (fun k => spec_l3Some.f k (n : Int) l (s : Int)) (r,l,((s + n : Nat) : Int)):=by
 have go : ∀ (d i s : Nat) (acc : List Int),i + d = n → acc.length ≤ i → s ≤ 900000 + i → ∃ r : List Int,r.length ≤ n ∧ Ev (fun k => spec_l3Some.l0 k acc (n : Int) (i : Int) l (s : Int)) (r,l,((s + d : Nat) : Int)):=by
  intro d
  induction d with
  | zero =>
   intro i s acc hi ha hs
   refine ⟨acc,by omega,?_⟩
   refine Ev.step (f:=fun _ => some (acc,l,(s : Int))) (fun k => ?_) ((Ev.now _).is (by simp))
   simp only [spec_l3Some.l0];rw [if_neg (by omega)]
  | succ d ih =>
   intro i s acc hi ha hs
   obtain ⟨v,_,hv⟩:=pick_r l hl hb s 2 (by omega) (by omega) (by omega)
   have hv : spec_l13Rd_pick.f 2 l (s : Int) = some ((v : Int),l,((s + 1 : Nat) : Int)):=hv
   have wn : wrap64 ((i : Int) + 1) = ((i + 1 : Nat) : Int):=wnat (by omega)
   have a0 : (i : Int) < (n : Int):=by clear wn;omega
   have b0 : acc.length < 17592186044416:=by clear wn;omega
   have es : s + (d + 1) = s + 1 + d:=by omega
   rw [es]
   by_cases q : (v : Int) = 0
   ·obtain ⟨r,r0,r1⟩:=ih (i + 1) (s + 1) (acc ++ [(i : Int)]) (by omega) (by simp;omega) (by omega)
    refine ⟨r,r0,Ev.step (fun k => ?_) r1⟩
    simp only [spec_l3Some.l0]
    rw [if_pos a0,hv,Option.bind_some,if_pos q,if_pos b0,wn]
   ·obtain ⟨r,r0,r1⟩:=ih (i + 1) (s + 1) acc (by omega) (by omega) (by omega)
    refine ⟨r,r0,Ev.step (fun k => ?_) r1⟩
    simp only [spec_l3Some.l0]
    rw [if_pos a0,hv,Option.bind_some,if_neg q,wn]
 unfold spec_l3Some.f
 exact go n 0 s [] (by omega) (Nat.le_refl _) (by omega)
theorem before_r (a0 : Int) (a1 : ByteArray) (a2 a3 b0 : Int) (b1 : ByteArray) (b2 b3 : Int) : ∃ b,spec_l3Before.f a0 a1 a2 a3 b0 b1 b2 b3 = some b:=by
 unfold spec_l3Before.f
 by_cases h : a0 = b0
 ·rw [if_pos h]
  by_cases h2 : a1.toList = b1.toList
  ·rw [if_pos h2];exact ⟨_,rfl⟩
  ·rw [if_neg h2];exact ⟨_,rfl⟩
 ·rw [if_neg h];exact ⟨_,rfl⟩
theorem put_r (x : List Stp) (hx : x.length ≤ 1000) (a : Int) (b : ByteArray) (c d : Int) : ∃ r : List Stp,r.length ≤ x.length + 1 ∧ Ev (fun k => spec_l3Put.f k x a b c d) r:=by
 have ins : ∀ i : Nat,i ≤ x.length → ∃ r : List Stp,r.length ≤ x.length + 1 ∧ (if (i : Int) ≤ (x.length : Int) then (if ([] : List Stp).length + ((x.drop 0).take ((i : Int).toNat - 0)).length ≤ 3518437208883 then (if (([] : List Stp) ++ ((x.drop 0).take ((i : Int).toNat - 0))).length < 3518437208883 then (if (x.length : Int) ≤ (x.length : Int) then (if ((([] : List Stp) ++ ((x.drop 0).take ((i : Int).toNat - 0))) ++ [(⟨a,b,c,d⟩ : Stp)]).length + ((x.drop (i : Int).toNat).take (x.length - (i : Int).toNat)).length ≤ 3518437208883 then (some (((([] : List Stp) ++ ((x.drop 0).take ((i : Int).toNat - 0))) ++ [(⟨a,b,c,d⟩ : Stp)]) ++ ((x.drop (i : Int).toNat).take (x.length - (i : Int).toNat)))) else none) else none) else none) else none) else none) = some r:=fun i hi => by
  have l1 : ((x.drop 0).take ((i : Int).toNat - 0)).length = i:=by rw [Int.toNat_natCast,List.drop_zero,List.length_take];omega
  have l2 : ((x.drop (i : Int).toNat).take (x.length - (i : Int).toNat)).length = x.length - i:=by rw [Int.toNat_natCast,List.length_take,List.length_drop];omega
  refine ⟨_,?_,by rw [if_pos (by omega),if_pos (by rw [l1];simp only [List.length_nil];omega),if_pos (by rw [List.length_append,l1];simp only [List.length_nil];omega),if_pos (Int.le_refl _),if_pos (by rw [List.length_append,List.length_append,l1,l2];simp only [List.length_nil,List.length_cons];omega)]⟩
  rw [List.length_append,List.length_append,List.length_append,l1,l2];simp only [List.length_nil,List.length_cons];omega
 have go : ∀ (m i : Nat),i + m = x.length → ∃ r : List Stp,r.length ≤ x.length + 1 ∧ Ev (fun k => spec_l3Put.l0 k x (i : Int) a b c d) r:=by
  intro m
  induction m with
  | zero =>
   intro i hi
   obtain ⟨r,r0,r1⟩:=ins i (by omega)
   refine ⟨r,r0,Ev.step (f:=fun _ => some r) (fun k => ?_) (Ev.now _)⟩
   simp only [spec_l3Put.l0]
   rw [if_neg (by omega),if_pos (Int.natCast_nonneg _)];exact r1
  | succ m ih =>
   intro i hi
   obtain ⟨t1,h1⟩:=before_r (rdT x (i : Int)).f0 (rdT x (i : Int)).f1 (rdT x (i : Int)).f2 (rdT x (i : Int)).f3 a b c d
   obtain ⟨t2,h2⟩:=before_r a b c d (rdT x (i : Int)).f0 (rdT x (i : Int)).f1 (rdT x (i : Int)).f2 (rdT x (i : Int)).f3
   have wn : wrap64 ((i : Int) + 1) = ((i + 1 : Nat) : Int):=wnat (by omega)
   have a0 : (i : Int) < (x.length : Int):=by clear wn;omega
   cases t1 with
   | true =>
    obtain ⟨r,r0,r1⟩:=ih (i + 1) (by omega)
    refine ⟨r,r0,Ev.step (fun k => ?_) r1⟩
    simp only [spec_l3Put.l0]
    rw [if_pos a0,if_pos (Int.natCast_nonneg _),h1,Option.bind_some,if_pos rfl,wn]
   | false =>
    cases t2 with
    | true =>
     obtain ⟨r,r0,r1⟩:=ins i (by omega)
     refine ⟨r,r0,Ev.step (f:=fun _ => some r) (fun k => ?_) (Ev.now _)⟩
     simp only [spec_l3Put.l0]
     rw [if_pos a0,if_pos (Int.natCast_nonneg _),h1,Option.bind_some,if_neg (by simp),h2,Option.bind_some,if_pos rfl];exact r1
    | false =>
     refine ⟨(([] : List Stp) ++ x).set (i : Int).toNat (⟨(rdT (([] : List Stp) ++ x) (i : Int)).f0,(rdT (([] : List Stp) ++ x) (i : Int)).f1,(rdT (([] : List Stp) ++ x) (i : Int)).f2,(mn (rdT (([] : List Stp) ++ x) (i : Int)).f3 d)⟩ : Stp),by simp,Ev.step (f:=fun _ => some _) (fun k => ?_) (Ev.now _)⟩
     simp only [spec_l3Put.l0]
     rw [if_pos a0,if_pos (Int.natCast_nonneg _),h1,Option.bind_some,if_neg (by simp),h2,Option.bind_some,if_neg (by simp),if_pos (by simp only [List.length_nil];omega),if_pos (by rw [List.nil_append];exact a0)]
 unfold spec_l3Put.f
 exact go x.length 0 (by omega)
theorem known0 : ∀ k,spec_l3Known.f (k + 300) 0 = some (1,[0],[0],[⟨0,⟨#[97]⟩,0,1⟩,⟨0,⟨#[98]⟩,0,0⟩]):=by
 intro k
 kernel_rfl
theorem known1 : ∀ k,spec_l3Known.f (k + 300) 1 = some (2,[0],[1],[⟨0,⟨#[97]⟩,0,0⟩,⟨0,⟨#[97]⟩,1,1⟩,⟨1,⟨#[98]⟩,1,0⟩]):=by
 intro k
 kernel_rfl
theorem known2 : ∀ k,spec_l3Known.f (k + 300) 2 = some (2,[0,1],[0,1],[⟨0,⟨#[97]⟩,0,1⟩,⟨0,⟨#[98]⟩,0,0⟩,⟨1,⟨#[97]⟩,1,0⟩,⟨1,⟨#[98]⟩,1,1⟩]):=by
 intro k
 kernel_rfl
theorem known3 : ∀ k,spec_l3Known.f (k + 300) 3 = some (3,[0],[0,2],[⟨0,⟨#[97]⟩,0,0⟩,⟨0,⟨#[97]⟩,1,0⟩,⟨0,⟨#[98]⟩,0,1⟩,⟨1,⟨#[97]⟩,1,1⟩,⟨1,⟨#[98]⟩,2,0⟩,⟨2,⟨#[97]⟩,2,0⟩,⟨2,⟨#[98]⟩,2,0⟩]):=by
 intro k
 kernel_rfl
theorem known4 : ∀ k,spec_l3Known.f (k + 300) 4 = some (2,[0],[0],[⟨0,⟨#[97]⟩,1,1⟩,⟨1,⟨#[98]⟩,0,0⟩]):=by
 intro k
 kernel_rfl
theorem known5 : ∀ k,spec_l3Known.f (k + 300) 5 = some (3,[0],[2],[⟨0,⟨#[97]⟩,0,0⟩,⟨0,⟨#[98]⟩,0,0⟩,⟨0,⟨#[98]⟩,1,0⟩,⟨1,⟨#[97]⟩,1,1⟩,⟨1,⟨#[98]⟩,2,0⟩,⟨2,⟨#[97]⟩,2,0⟩,⟨2,⟨#[98]⟩,2,0⟩]):=by
 intro k
 kernel_rfl
theorem known6 : ∀ k,spec_l3Known.f (k + 300) 6 = some (1,[0],[0],[⟨0,⟨#[97]⟩,0,0⟩]):=by
 intro k
 kernel_rfl
theorem known7 : ∀ k,spec_l3Known.f (k + 300) 7 = some (2,[0],[0,1],[⟨0,⟨#[97]⟩,0,0⟩,⟨0,⟨#[98]⟩,1,1⟩,⟨1,⟨#[97]⟩,0,0⟩,⟨1,⟨#[98]⟩,1,0⟩]):=by
 intro k
 kernel_rfl
theorem known8 : ∀ k,spec_l3Known.f (k + 300) 8 = some (2,[0],[1],[⟨0,⟨#[97]⟩,1,2⟩,⟨1,⟨#[97]⟩,1,0⟩,⟨1,⟨#[98]⟩,0,1⟩]):=by
 intro k
 kernel_rfl
def Small (r : Int × List Int × List Int × List Stp) : Prop:=r.2.1.length ≤ 100 ∧ r.2.2.1.length ≤ 100 ∧ r.2.2.2.length ≤ 100
theorem known_r (v : Nat) (hv : v < 9) : ∃ r,Small r ∧ Ev (fun k => spec_l3Known.f k (v : Int)) r:=by
 have ev : ∀ r,(∀ k,spec_l3Known.f (k + 300) (v : Int) = some r) → Ev (fun k => spec_l3Known.f k (v : Int)) r:=fun r h => ⟨300,fun k hk => by have:=h (k - 300);rwa [Nat.sub_add_cancel hk] at this⟩
 have : v = 0 ∨ v = 1 ∨ v = 2 ∨ v = 3 ∨ v = 4 ∨ v = 5 ∨ v = 6 ∨ v = 7 ∨ v = 8:=by omega
 rcases this with rfl|rfl|rfl|rfl|rfl|rfl|rfl|rfl|rfl
 ·exact ⟨_,⟨by decide,by decide,by decide⟩,ev _ known0⟩
 ·exact ⟨_,⟨by decide,by decide,by decide⟩,ev _ known1⟩
 ·exact ⟨_,⟨by decide,by decide,by decide⟩,ev _ known2⟩
 ·exact ⟨_,⟨by decide,by decide,by decide⟩,ev _ known3⟩
 ·exact ⟨_,⟨by decide,by decide,by decide⟩,ev _ known4⟩
 ·exact ⟨_,⟨by decide,by decide,by decide⟩,ev _ known5⟩
 ·exact ⟨_,⟨by decide,by decide,by decide⟩,ev _ known6⟩
 ·exact ⟨_,⟨by decide,by decide,by decide⟩,ev _ known7⟩
 ·exact ⟨_,⟨by decide,by decide,by decide⟩,ev _ known8⟩
theorem steps_r (l : List Int) (hl : l.length ≤ 2000) (hb : Bytes l) (n : Nat) (h1 : 1 ≤ n) (h4 : n ≤ 10) (st fi : List Int) (hs0 : st.length ≤ 100) (hf0 : fi.length ≤ 100) (c : Nat) (hc : c ≤ 60) : ∀ (d i s : Nat) (x : List Stp),i + d = c → x.length ≤ i → s ≤ 900000 + 4 * i →
  ∃ (r : Int × List Int × List Int × List Stp) (s' : Nat),Small r ∧ s' ≤ 900000 + 4 * c ∧ Ev (fun k => spec_l3Draw.l0 k (n : Int) (c : Int) (i : Int) l (s : Int) (n : Int) st fi x) (r.1,r.2.1,r.2.2.1,r.2.2.2,l,(s' : Int)):=by
 intro d
 induction d with
 | zero =>
  intro i s x hi hx hs
  refine ⟨((n : Int),st,fi,x),s,⟨hs0,hf0,by show x.length ≤ 100;omega⟩,by omega,?_⟩
  refine Ev.step (f:=fun _ => some ((n : Int),st,fi,x,l,(s : Int))) (fun k => ?_) (Ev.now _)
  simp only [spec_l3Draw.l0];rw [if_neg (by omega)]
 | succ d ih =>
  intro i s x hi hx hs
  obtain ⟨v1,_,p1⟩:=pick_r l hl hb s n (by omega) h1 (by omega)
  obtain ⟨v2,_,p2⟩:=of_r l hl hb (s + 1) (by omega) [(⟨#[97]⟩ : ByteArray),(⟨#[98]⟩ : ByteArray)] (by simp) (by simp)
  obtain ⟨v3,_,p3⟩:=pick_r l hl hb (s + 1 + 1) n (by omega) h1 (by omega)
  obtain ⟨v4,_,p4⟩:=num_r l hl hb (s + 1 + 1 + 1) (by omega) [0,1,0,1,2,0] (by simp) (by simp)
  obtain ⟨y,hy,py⟩:=put_r x (by omega) (v1 : Int) v2 (v3 : Int) v4
  obtain ⟨r,s',g1,g2,g3⟩:=ih (i + 1) (s + 1 + 1 + 1 + 1) y (by omega) (by omega) (by omega)
  have wn : wrap64 ((i : Int) + 1) = ((i + 1 : Nat) : Int):=wnat (by omega)
  have a0 : (i : Int) < (c : Int):=by clear wn;omega
  rw [← wn] at g3
  refine ⟨r,s',g1,g2,?_⟩
  refine Ev.step (f:=fun k => (spec_l3Put.f k x (v1 : Int) v2 (v3 : Int) v4).bind fun t16 => spec_l3Draw.l0 k (n : Int) (c : Int) (wrap64 ((i : Int) + 1)) l ((s + 1 + 1 + 1 + 1 : Nat) : Int) (n : Int) st fi t16) (fun k => ?_) (Ev.bind py g3)
  simp only [spec_l3Draw.l0]
  rw [if_pos a0,p1,Option.bind_some,p2,Option.bind_some,p3,Option.bind_some,p4,Option.bind_some]
theorem w1p (v : Nat) (h : v ≤ 1000000) : wrap64 (1 + (v : Int)) = ((v + 1 : Nat) : Int):=by rw [w64 (by omega) (by omega)];omega
theorem w2p (v : Nat) (h : v ≤ 1000000) : wrap64 (wrap64 (2 * ((v + 1 : Nat) : Int)) + 1) = ((2 * (v + 1) + 1 : Nat) : Int):=by rw [w64 (x:=2 * ((v + 1 : Nat) : Int)) (by omega) (by omega),w64 (by omega) (by omega)];omega
theorem draw_r (l : List Int) (hl : l.length ≤ 2000) (hb : Bytes l) (m : Nat) (h1 : 1 ≤ m) (h4 : m ≤ 4) (s : Nat) (hs : s ≤ 800000) :
  ∃ (r : Int × List Int × List Int × List Stp) (s' : Nat),Small r ∧ s' ≤ 901000 ∧ Ev (fun k => spec_l3Draw.f k (m : Int) l (s : Int)) (r.1,r.2.1,r.2.2.1,r.2.2.2,l,(s' : Int)):=by
 have rest : ∀ s : Nat,s ≤ 850000 → ∃ (r : Int × List Int × List Int × List Stp) (s' : Nat),Small r ∧ s' ≤ 901000 ∧ Ev (fun k => (spec_l13Rd_pick.f (m : Int) l (s : Int)).bind fun t8 => (spec_l3Some.f k (wrap64 (1 + t8.1)) t8.2.1 t8.2.2).bind fun t9 => (spec_l3Some.f k (wrap64 (1 + t8.1)) t9.2.1 t9.2.2).bind fun t10 => (spec_l13Rd_pick.f (wrap64 ((wrap64 (2 * (wrap64 (1 + t8.1)))) + 1)) t10.2.1 t10.2.2).bind fun t11 => spec_l3Draw.l0 k (wrap64 (1 + t8.1)) (wrap64 (1 + t11.1)) 0 t11.2.1 t11.2.2 (wrap64 (1 + t8.1)) t9.1 t10.1 ([] : List Stp)) (r.1,r.2.1,r.2.2.1,r.2.2.2,l,(s' : Int)):=fun s hs => by
  obtain ⟨v,hv,p1⟩:=pick_r l hl hb s m (by omega) h1 (by omega)
  obtain ⟨st,hst,p2⟩:=some_r l hl hb (v + 1) (by omega) (s + 1) (by omega)
  obtain ⟨fi,hfi,p3⟩:=some_r l hl hb (v + 1) (by omega) (s + 1 + (v + 1)) (by omega)
  obtain ⟨c,hc,p4⟩:=pick_r l hl hb (s + 1 + (v + 1) + (v + 1)) (2 * (v + 1) + 1) (by omega) (by omega) (by omega)
  obtain ⟨r,s',g1,g2,g3⟩:=steps_r l hl hb (v + 1) (by omega) (by omega) st fi (by omega) (by omega) (c + 1) (by omega) (c + 1) 0 (s + 1 + (v + 1) + (v + 1) + 1) [] (by omega) (Nat.le_refl _) (by omega)
  refine ⟨r,s',g1,by omega,?_⟩
  have e1:=w1p v (by omega)
  have e2:=w2p v
  have e3:=w1p c
  replace e2:=e2 (by clear e1 e2 e3;omega)
  replace e3:=e3 (by clear e1 e2 e3;omega)
  refine Ev.bind (ev_some (fun _ => p1)) ?_
  simp only [e1]
  refine Ev.bind p2 (Ev.bind p3 ?_)
  simp only [e2]
  refine Ev.bind (ev_some (fun _ => p4)) ?_
  simp only [e3]
  exact g3
 obtain ⟨v,hv,p1⟩:=pick_r l hl hb s 3 (by omega) (by omega) (by omega)
 have p1 : spec_l13Rd_pick.f 3 l (s : Int) = some ((v : Int),l,((s + 1 : Nat) : Int)):=p1
 by_cases q : (v : Int) = 0
 ·obtain ⟨u,hu,p2⟩:=pick_r l hl hb (s + 1) 9 (by omega) (by omega) (by omega)
  have p2 : spec_l13Rd_pick.f 9 l ((s + 1 : Nat) : Int) = some ((u : Int),l,((s + 1 + 1 : Nat) : Int)):=p2
  obtain ⟨r,r1,r2⟩:=known_r u hu
  by_cases q2 : r.1 ≤ (m : Int)
  ·refine ⟨r,s + 1 + 1,r1,by omega,?_⟩
   unfold spec_l3Draw.f
   exact Ev.bind (ev_some (fun _ => p1)) (Ev_t q (Ev.bind (ev_some (fun _ => p2)) (Ev.bind r2 (Ev_t q2 (Ev.now _)))))
  ·obtain ⟨r',s',g1,g2,g3⟩:=rest (s + 1 + 1) (by omega)
   refine ⟨r',s',g1,g2,?_⟩
   unfold spec_l3Draw.f
   exact Ev.bind (ev_some (fun _ => p1)) (Ev_t q (Ev.bind (ev_some (fun _ => p2)) (Ev.bind r2 (Ev_f q2 g3))))
 ·obtain ⟨r',s',g1,g2,g3⟩:=rest (s + 1) (by omega)
  refine ⟨r',s',g1,g2,?_⟩
  unfold spec_l3Draw.f
  exact Ev.bind (ev_some (fun _ => p1)) (Ev_f q g3)
theorem bad_r (l : List Int) (hl : l.length ≤ 2000) (hb : Bytes l) (a : Int × List Int × List Int × List Stp) (ha : Small a) (s : Nat) (hs : s ≤ 901000) :
  ∃ (r : Int × List Int × List Int × List Stp) (s' : Nat),(r.2.1.length ≤ 1000 ∧ r.2.2.1.length ≤ 1000 ∧ r.2.2.2.length ≤ 1000) ∧ s' ≤ 902000 ∧ spec_l3Bad.f a.1 a.2.1 a.2.2.1 a.2.2.2 l (s : Int) = some (r.1,r.2.1,r.2.2.1,r.2.2.2,l,(s' : Int)):=by
 obtain ⟨a0,a1,a2,a3⟩:=a
 obtain ⟨h1,h2,h3⟩:=ha
 have h1 : a1.length ≤ 100:=h1
 have h2 : a2.length ≤ 100:=h2
 have h3 : a3.length ≤ 100:=h3
 obtain ⟨v,_,p1⟩:=pick_r l hl hb s 36 (by omega) (by omega) (by omega)
 have p1 : spec_l13Rd_pick.f 36 l (s : Int) = some ((v : Int),l,((s + 1 : Nat) : Int)):=p1
 unfold spec_l3Bad.f
 simp only [p1,Option.bind_some]
 by_cases c0 : (v : Int) = 0
 ·obtain ⟨x,_,p2⟩:=num_r l hl hb (s + 1) (by omega) [0,5,(-1),1,9223372036854775807] (by simp) (by simp)
  refine ⟨(x,a1,a2,a3),s + 1 + 1,⟨by show a1.length ≤ 1000;omega,by show a2.length ≤ 1000;omega,by show a3.length ≤ 1000;omega⟩,by omega,?_⟩
  rw [if_pos c0,p2,Option.bind_some]
 rw [if_neg c0]
 by_cases c1 : (v : Int) = 1
 ·obtain ⟨w,_,p2⟩:=pick_r l hl hb (s + 1) 2 (by omega) (by omega) (by omega)
  have p2 : spec_l13Rd_pick.f 2 l ((s + 1 : Nat) : Int) = some ((w : Int),l,((s + 1 + 1 : Nat) : Int)):=p2
  obtain ⟨x,_,p3⟩:=of_r l hl hb (s + 1 + 1) (by omega) [(⟨#[97]⟩ : ByteArray),(⟨#[99]⟩ : ByteArray),(⟨#[]⟩ : ByteArray)] (by simp) (by simp)
  obtain ⟨y,_,p4⟩:=num_r l hl hb (s + 1 + 1 + 1) (by omega) [0,4,(-1)] (by simp) (by simp)
  obtain ⟨z,_,p5⟩:=num_r l hl hb (s + 1 + 1 + 1 + 1) (by omega) [0,4,(-1)] (by simp) (by simp)
  refine ⟨(a0,a1,a2,(([] : List Stp) ++ a3) ++ [(⟨(w : Int),x,y,z⟩ : Stp)]),s + 1 + 1 + 1 + 1 + 1,⟨by show a1.length ≤ 1000;omega,by show a2.length ≤ 1000;omega,by simp;omega⟩,by omega,?_⟩
  rw [if_pos c1,if_pos (by simp only [List.length_nil];omega),p2,Option.bind_some,p3,Option.bind_some,p4,Option.bind_some,p5,Option.bind_some,if_pos (by simp;omega)]
 rw [if_neg c1]
 by_cases c2 : (v : Int) = 2
 ·obtain ⟨x,_,p2⟩:=num_r l hl hb (s + 1) (by omega) [0,4,(-1)] (by simp) (by simp)
  refine ⟨(a0,(([] : List Int) ++ a1) ++ [x],a2,a3),s + 1 + 1,⟨by simp;omega,by show a2.length ≤ 1000;omega,by show a3.length ≤ 1000;omega⟩,by omega,?_⟩
  rw [if_pos c2,if_pos (by simp only [List.length_nil];omega),p2,Option.bind_some,if_pos (by simp;omega)]
 ·exact ⟨(a0,a1,a2,a3),s + 1,⟨by show a1.length ≤ 1000;omega,by show a2.length ≤ 1000;omega,by show a3.length ≤ 1000;omega⟩,by omega,by rw [if_neg c2]⟩
theorem any_r (l : List Int) (hl : l.length ≤ 2000) (hb : Bytes l) : ∃ (r : Int × List Int × List Int × List Stp) (s' : Nat),(r.2.1.length ≤ 1000 ∧ r.2.2.1.length ≤ 1000 ∧ r.2.2.2.length ≤ 1000) ∧ s' ≤ 902000 ∧ Ev (fun k => spec_l3Any.f k l 0) (r.1,r.2.1,r.2.2.1,r.2.2.2,l,(s' : Int)):=by
 obtain ⟨a,s1,a1,a2,a3⟩:=draw_r l hl hb 3 (by omega) (by omega) 0 (by omega)
 obtain ⟨r,s',g1,g2,g3⟩:=bad_r l hl hb a a1 s1 a2
 refine ⟨r,s',g1,g2,?_⟩
 unfold spec_l3Any.f
 exact Ev.bind a3 (Ev.bind (ev_some (fun _ => g3)) (Ev.now _))
theorem open_r (l : List Int) (hb : Bytes l) : ∃ z : List Int,z.length ≤ 2000 ∧ Bytes z ∧ spec_l13Open.f l = some (z,0):=by
 unfold spec_l13Open.f
 by_cases h : (l.length : Int) > 2000
 ·refine ⟨(l.drop 0).take (2000 - 0),by rw [List.length_take];omega,fun x hx => hb x (List.mem_of_mem_drop (List.mem_of_mem_take hx)),?_⟩
  rw [if_pos h,if_pos (by omega)]
 ·exact ⟨l,by omega,hb,by rw [if_neg h]⟩
end Go.Proofs.YtfjfdlgcneclfaaDoor.V
end
section
set_option linter.unusedVariables false
set_option linter.unusedSimpArgs false
namespace Go.Proofs.YtfjfdlgcneclfaaDoor.V
open Go Go.Proofs.YtfjfdlgcneclfaaDoor.R Go.RowKit
open Go.Proofs.YtfjfdlgcneclfaaDoorW.PrintWords hiding mn mx
def cutL : List UInt8 → List (List UInt8)
 | [] => [[]]
 | b :: l => if b = 47 then [] :: cutL l else match cutL l with
  | x :: r => (b :: x) :: r
  | [] => [[b]]
theorem cutL_ne : ∀ l,cutL l ≠ []
 | [] => by simp [cutL]
 | b :: l => by
  unfold cutL
  by_cases h : b = 47
  ·rw [if_pos h];simp
  ·rw [if_neg h]
   cases cutL l <;> simp
theorem cutL_stroke (l : List UInt8) : cutL (47 :: l) = [] :: cutL l:=by
 rw [cutL,if_pos rfl]
theorem cutL_cons {b : UInt8} (h : b ≠ 47) {l x : List UInt8} {r : List (List UInt8)} (e : cutL l = x :: r) : cutL (b :: l) = (b :: x) :: r:=by
 rw [cutL,if_neg h,e]
theorem cutL_word : ∀ x : List UInt8,(∀ b ∈ x,b ≠ 47) → cutL x = [x]
 | [],_ => rfl
 | b :: x,h => cutL_cons (h b (List.mem_cons_self ..)) (cutL_word x fun c hc => h c (List.mem_cons_of_mem _ hc))
theorem cutL_app : ∀ (x y : List UInt8),(∀ b ∈ x,b ≠ 47) → cutL (x ++ 47 :: y) = x :: cutL y
 | [],y,_ => cutL_stroke y
 | b :: x,y,h => cutL_cons (h b (List.mem_cons_self ..)) (cutL_app x y fun c hc => h c (List.mem_cons_of_mem _ hc))
theorem cutL_len : ∀ l : List UInt8,(cutL l).length ≤ l.length + 1 ∧ (cutL l).flatten.length ≤ l.length
 | [] => by simp [cutL]
 | b :: l => by
  have ih:=cutL_len l
  by_cases h : b = 47
  ·subst h
   rw [cutL_stroke]
   simp only [List.length_cons,List.flatten_cons,List.length_append,List.length_nil]
   omega
  ·obtain ⟨x,r,e⟩:=List.exists_cons_of_ne_nil (cutL_ne l)
   rw [cutL_cons h e]
   rw [e] at ih
   simp only [List.length_cons,List.flatten_cons,List.length_append] at ih ⊢
   omega
theorem joinTail_cons (sep y : List UInt8) (r : List (List UInt8)) : Lib.joinTail sep (y :: r) = sep ++ y ++ Lib.joinTail sep r:=by simp [Lib.joinTail]
theorem cutL_join : ∀ l : List UInt8,Lib.join (cutL l) [47] = l
 | [] => by rw [cutL];exact Lib.join_one [] [47]
 | b :: l => by
  have ih:=cutL_join l
  obtain ⟨x,r,e⟩:=List.exists_cons_of_ne_nil (cutL_ne l)
  rw [e,Lib.join_cons] at ih
  by_cases h : b = 47
  ·subst h
   rw [cutL_stroke,e,Lib.join_cons,joinTail_cons,List.nil_append,List.append_assoc,ih];rfl
  ·rw [cutL_cons h e,Lib.join_cons,List.cons_append,ih]
theorem join_cutL : ∀ (x : List UInt8) (r : List (List UInt8)),(∀ y ∈ x :: r,∀ b ∈ y,b ≠ 47) → cutL (Lib.join (x :: r) [47]) = x :: r
 | x,[],h => by rw [Lib.join_one];exact cutL_word x (h x (List.mem_cons_self ..))
 | x,y :: r,h => by
  have ih:=join_cutL y r fun z hz => h z (List.mem_cons_of_mem _ hz)
  rw [Lib.join_cons] at ih
  rw [Lib.join_cons,joinTail_cons,List.append_assoc,List.singleton_append,cutL_app x _ (h x (List.mem_cons_self ..)),ih]
theorem splitK_cut : ∀ s : List UInt8,Lib.splitK [47] 0 (Lib.count s [47]) s = cutL s
 | [] => by rw [Lib.count_one];rfl
 | b :: l => by
  have ih:=splitK_cut l
  obtain ⟨x,r,e⟩:=List.exists_cons_of_ne_nil (cutL_ne l)
  by_cases h : b = 47
  ·subst h
   have hix : Lib.index (47 :: l) [47] = 0:=by rw [Lib.index];simp [List.isPrefixOf]
   rw [Lib.count_cons_eq,Nat.add_comm,Lib.splitK,hix,cutL_stroke]
   show [] :: Lib.splitK [47] 0 (Lib.count l [47]) l = _
   rw [ih]
  ·rw [Lib.count_cons_ne b 47 l h,cutL_cons h e]
   have hp : ([47] : List UInt8).isPrefixOf (b :: l) = false:=by simp [List.isPrefixOf,Ne.symm h]
   have hix : Lib.index (b :: l) [47] = if Lib.index l [47] == -1 then -1 else Lib.index l [47] + 1:=by rw [Lib.index,hp];simp
   by_cases hm : Lib.index l [47] = -1
   ·have c0:=Lib.count_miss hm
    rw [c0] at ih ⊢
    rw [e] at ih
    have ih : [l] = x :: r:=ih
    obtain ⟨rfl,rfl⟩ : l = x ∧ [] = r:=by simpa using ih
    rfl
   ·have hge:=Lib.index_ge l [47]
    obtain ⟨j,hj⟩ : ∃ j : Nat,Lib.index l [47] = j:=⟨(Lib.index l [47]).toNat,by omega⟩
    have c1:=Lib.count_hit (s:=l) (sub:=[47]) (by simp) hj
    rw [c1,Nat.add_comm,Lib.splitK] at ih ⊢
    have hix2 : Lib.index (b :: l) [47] = ((j + 1 : Nat) : Int):=by rw [hix,if_neg (by simpa using hm),hj];omega
    rw [if_neg (by rw [hj];simp),hj,e] at ih
    rw [if_neg (by rw [hix2];simp;omega),hix2]
    simp only [List.cons.injEq] at ih
    have t1 : ((j + 1 : Nat) : Int).toNat = j + 1:=by omega
    rw [t1,← ih.1,← ih.2]
    have t2 : (j : Int).toNat = j:=by omega
    rw [t2]
    simp only [List.take_succ_cons,List.cons.injEq,true_and,Nat.add_zero]
    have t3 : j + 1 + ([47] : List UInt8).length = (j + ([47] : List UInt8).length) + 1:=by omega
    rw [t3,List.drop_succ_cons]
def pcs (x : ByteArray) : List ByteArray:=(cutL (L x)).map B
theorem map_toL : ∀ {a : List ByteArray} {b : List (List UInt8)},a.map (fun x => x.data.toList) = b → a = b.map B
 | [],b,h => by subst h;rfl
 | x :: a,b,h => by
  subst h
  simp only [List.map_cons,List.cons.injEq]
  exact ⟨(B_L x).symm,map_toL rfl⟩
theorem split_pcs (x : ByteArray) (h : x.size < 4294967281) : strings_Split.f x (⟨#[47]⟩ : ByteArray) = some (pcs x):=by
 unfold strings_Split.f
 rw [if_pos ⟨rfl,h⟩]
 refine congrArg some (map_toL ?_)
 rw [Lib.splitB_data]
 exact splitK_cut (L x)
def ch (g : Int) : UInt8:=if g = 0 then 48 else if g = 1 then 49 else if g = 2 then 119 else 45
theorem ch_at (g : Int) (h0 : 0 ≤ g) (h3 : g ≤ 3) : (⟨#[48,49,119,45]⟩ : ByteArray).extract (g.toNat) ((g + 1).toNat) = B [ch g]:=by
 have : g = 0 ∨ g = 1 ∨ g = 2 ∨ g = 3:=by omega
 rcases this with rfl|rfl|rfl|rfl <;> (apply L_inj;rw [L_extract];unfold B;rw [L_mk];rfl)
def rowk (n : Nat) (l : List Int) (i k : Nat) : List UInt8:=(List.range k).map (fun k => ch (l.getD (i * n + k) 0))
theorem rowk_len (n : Nat) (l : List Int) (i k : Nat) : (rowk n l i k).length = k:=by simp [rowk]
theorem rowk_snoc (n : Nat) (l : List Int) (i k : Nat) : rowk n l i (k + 1) = rowk n l i k ++ [ch (l.getD (i * n + k) 0)]:=by simp [rowk,List.range_succ]
def sepOf (i : Nat) : List UInt8:=if i = 0 then [] else [47]
def TT (n : Nat) (l : List Int) : Nat → List UInt8
 | 0 => []
 | i + 1 => TT n l i ++ (sepOf i ++ rowk n l i n)
theorem sepOf_len (i : Nat) : (sepOf i).length ≤ 1:=by unfold sepOf;by_cases h : i = 0 <;> simp [h]
theorem TT_len (n : Nat) (hn : n ≤ 4) (l : List Int) (i : Nat) : (TT n l i).length ≤ i * 5:=by
 induction i with
 | zero => simp [TT]
 | succ i ih =>
  have:=sepOf_len i
  simp only [TT,List.length_append,rowk_len]
  omega
theorem iRowText (r : List Int) (hr : r.length ≤ 16) (hg : ∀ x ∈ r,0 ≤ x ∧ x ≤ 3) : Ev (fun k => impl_FormatGrades_1.f k r) (B (r.map ch)):=by
 have go : ∀ (t pre : List Int),r = pre ++ t → Ev (fun k => impl_FormatGrades_1.l0 k (B (pre.map ch)) r (r.length : Int) (pre.length : Int)) (B (r.map ch)):=by
  intro t
  induction t with
  | nil =>
   intro pre hp
   refine Ev.step (f:=fun _ => some (B (pre.map ch))) (fun k => ?_) ((Ev.now _).is (by rw [hp];simp))
   simp only [impl_FormatGrades_1.l0];rw [if_neg (by rw [hp];simp)]
  | cons x t ih =>
   intro pre hp
   have hlen : r.length = pre.length + (t.length + 1):=by rw [hp];simp
   have hx : rdI r (pre.length : Int) = x:=by rw [hp,rd_mid]
   have hxg:=hg x (by rw [hp];simp)
   have hsz : (B (pre.map ch)).size = pre.length:=by rw [B_size];simp
   have hcs : (B [ch x]).size = 1:=by rw [B_size];rfl
   have h4 : (⟨#[48,49,119,45]⟩ : ByteArray).size = 4:=rfl
   refine Ev.step (fun k => ?_) (ih (pre ++ [x]) (by simp [hp]))
   simp only [impl_FormatGrades_1.l0]
   rw [if_pos (by omega),if_pos (by omega),if_pos (by omega),hx,if_pos hxg.1,w64 (x:=x + 1) (by omega) (by omega),if_pos (by omega),if_pos (by rw [h4];omega),ch_at x hxg.1 hxg.2,hcs,hsz,if_pos (by omega),w64 (x:=(pre.length : Int) + 1) (by omega) (by omega),snoc_len,B_add]
   simp
 exact go r [] rfl
theorem rowk_eq (n : Nat) (l : List Int) (hl : l.length = n * n) (i : Nat) (hi : i < n) : (((l.take ((i + 1) * n)).drop (i * n)).map ch) = rowk n l i n:=by
 have h1 : (i + 1) * n ≤ n * n:=Nat.mul_le_mul_right n hi
 have h2 : (i + 1) * n = i * n + n:=Nat.succ_mul i n
 apply List.ext_getElem
 ·simp [rowk];omega
 ·intro j g1 g2
  have hj : j < n:=by simpa [rowk] using g2
  have hc:=cell_lt n i j hi hj
  have hc' : i * n + j < l.length:=by omega
  simp [rowk,List.getD_eq_getElem?_getD,List.getElem?_eq_getElem hc']
theorem join_snoc (xs : List (List UInt8)) (y sep : List UInt8) : Lib.join (xs ++ [y]) sep = if xs = [] then y else Lib.join xs sep ++ (sep ++ y):=by
 cases xs with
 | nil => simp [Lib.join_one]
 | cons x r =>
  rw [if_neg (by simp),List.cons_append,Lib.join_cons,Lib.join_cons]
  simp [Lib.joinTail,List.append_assoc]
def rowsB (n : Nat) (l : List Int) (i : Nat) : List ByteArray:=(List.range i).map (fun i => B (rowk n l i n))
theorem rowsB_snoc (n : Nat) (l : List Int) (i : Nat) : rowsB n l i ++ [B (rowk n l i n)] = rowsB n l (i + 1):=by simp [rowsB,List.range_succ]
theorem rowsB_join (n : Nat) (l : List Int) (i : Nat) : Lib.join ((rowsB n l i).map (·.data.toList)) [47] = TT n l i:=by
 induction i with
 | zero => rfl
 | succ i ih =>
  rw [← rowsB_snoc,List.map_append,List.map_cons,List.map_nil,join_snoc,ih,B_toList]
  simp only [TT,sepOf]
  by_cases h : i = 0
  ·subst h;simp [rowsB,TT]
  ·rw [if_neg (by simp [rowsB,h]),if_neg h]
theorem iFormat (n : Nat) (l : List Int) (g : GV n l) : Ev (fun k => impl_FormatGrades.f k n l) (B (TT n l n)):=by
 have hn:=(GV_le g).1
 have hl:=GV_len g
 have h16 : l.length ≤ 16:=by rw [hl];exact sq_le n hn
 unfold impl_FormatGrades.f
 refine Ev.bind (iGV n l (by rw [maxLen_eq];omega)) (Ev_t (decide_eq_true g) ?_)
 refine Ev.bind ?_ (Ev.now _)
 unfold impl_rows.f
 refine up_loop n (fun i j => impl_rows.l0 j (rowsB n l i) n (i : Int) n l) _ (fun i hi hs => ?_) ?_
 ·have r1:=row_le n i hn (by omega)
  have r2:=row_le n (i + 1) hn (by omega)
  have h1 : (i + 1) * n ≤ n * n:=Nat.mul_le_mul_right n hi
  have h2 : (i + 1) * n = i * n + n:=Nat.succ_mul i n
  have q1 : (i : Int) < (n : Int):=by omega
  have q2 : ((i * n : Nat) : Int) ≤ (((i + 1) * n : Nat) : Int):=by omega
  have q3 : (((i + 1) * n : Nat) : Int) ≤ (l.length : Int):=by omega
  have q4 : (rowsB n l i).length < 8796093022208:=by simp [rowsB];omega
  have hrow : Ev (fun k => impl_FormatGrades_1.f k ((l.drop (i * n)).take ((i + 1) * n - i * n))) (B (rowk n l i n)):=by
   have q:=iRowText ((l.drop (i * n)).take ((i + 1) * n - i * n)) (by simp;omega) (fun x hx => by
    have hm:=List.mem_of_mem_drop (List.mem_of_mem_take hx)
    exact ⟨(g.1.2.2.2 x hm).1,g.2 x hm⟩)
   have e : ((l.drop (i * n)).take ((i + 1) * n - i * n)).map ch = rowk n l i n:=by
    rw [← rowk_eq n l hl i hi,List.drop_take]
   rwa [e] at q
  have e0 : wrap64 ((i : Int) + 1) = ((i + 1 : Nat) : Int):=by rw [w64 (x:=(i : Int) + 1) (by omega) (by omega)];omega
  have e1 : wrap64 ((i : Int) * (n : Int)) = ((i * n : Nat) : Int):=by
   have : (i : Int) * (n : Int) = ((i * n : Nat) : Int):=by simp
   rw [this,w64 (x:=((i * n : Nat) : Int)) (by omega) (by omega)]
  have e2 : wrap64 (((i + 1 : Nat) : Int) * (n : Int)) = (((i + 1) * n : Nat) : Int):=by
   have : ((i + 1 : Nat) : Int) * (n : Int) = (((i + 1) * n : Nat) : Int):=by simp
   rw [this,w64 (x:=(((i + 1) * n : Nat) : Int)) (by omega) (by omega)]
  refine Ev.step (f:=?fr1) (fun j => ?hr1) ?kr1
  case hr1 =>
   simp only [impl_rows.l0]
   rw [if_pos q1,e0,e1,e2,if_pos (Int.natCast_nonneg _),if_pos q2,if_pos q3,Int.toNat_natCast,Int.toNat_natCast] <;> exact rfl
  refine Ev.bind hrow (Ev_t q4 ?_)
  rw [rowsB_snoc]
  exact hs
 ·refine Ev.step (f:=fun _ => some (B (TT n l n))) (fun j => ?_) (Ev.now _)
  simp only [impl_rows.l0]
  have hT:=TT_len n hn l n
  have e : ((⟨#[47]⟩ : ByteArray)).data.toList = [47]:=rfl
  rw [if_neg (by omega)]
  unfold strings_Join.f
  rw [e,rowsB_join,if_pos ⟨by simp [rowsB];omega,by omega⟩]
  rfl
def WW (n : Nat) (l : List Int) (i k : Nat) : List UInt8:=if k = 0 then TT n l i else TT n l i ++ (sepOf i ++ rowk n l i k)
theorem WW_len (n : Nat) (hn : n ≤ 4) (l : List Int) (i k : Nat) (hi : i ≤ 4) (hk : k ≤ 4) : (WW n l i k).length ≤ 25:=by
 have h1:=TT_len n hn l i
 have h2:=sepOf_len i
 unfold WW
 by_cases h : k = 0
 ·rw [if_pos h];omega
 ·rw [if_neg h];simp only [List.length_append,rowk_len];omega
theorem sFormat (n : Nat) (l : List Int) (g : GV n l) : Ev (fun k => spec_FormatGrades.f k n l) (B (TT n l n)):=by
 have hn:=(GV_le g).1
 have hn1:=(GV_le g).2
 have hl:=GV_len g
 have h16 : l.length ≤ 16:=by rw [hl];exact sq_le n hn
 unfold spec_FormatGrades.f
 refine Ev.bind (sGV n l (by rw [maxLen_eq];omega)) (Ev_t (decide_eq_true g) ?_)
 refine Ev.congr (f:=fun j => spec_FormatGrades.l0 j (B (WW n l 0 0)) l (l.length : Int) ((0 * n + 0 : Nat) : Int) n l) (fun k => by simp [WW,TT,B]) ?_
 refine up_loop n (fun i j => spec_FormatGrades.l0 j (B (WW n l i 0)) l (l.length : Int) ((i * n + 0 : Nat) : Int) n l) _ (fun i hi hs => ?_) ?_
 ·refine up_loop n (fun k j => spec_FormatGrades.l0 j (B (WW n l i k)) l (l.length : Int) ((i * n + k : Nat) : Int) n l) _ (fun k hk hs2 => ?_) ?_
  ·have hc:=cell_lt n i k hi hk
   obtain ⟨d1,d2⟩:=div_mod_at n i k hk
   have hw:=WW_len n hn l i k (by omega) (by omega)
   have hcl : i * n + k < l.length:=by omega
   have hxm : l.getD (i * n + k) 0 ∈ l:=by rw [List.getD_eq_getElem?_getD,List.getElem?_eq_getElem hcl];exact List.getElem_mem hcl
   have hx0 : 0 ≤ l.getD (i * n + k) 0:=(g.1.2.2.2 _ hxm).1
   have hx3 : l.getD (i * n + k) 0 ≤ 3:=g.2 _ hxm
   have hW1 : WW n l i (k + 1) = WW n l i k ++ ((if k = 0 then sepOf i else []) ++ [ch (l.getD (i * n + k) 0)]):=by
    unfold WW
    rw [if_neg (by omega),rowk_snoc]
    by_cases hk0 : k = 0
    ·subst hk0;simp [rowk]
    ·rw [if_neg hk0,if_neg hk0];simp
   have hch:=ch_at _ hx0 hx3
   obtain ⟨x,hxe⟩ : ∃ x,l.getD (i * n + k) 0 = x:=⟨_,rfl⟩
   rw [hxe] at hx0 hx3 hch hW1
   have h4 : (⟨#[48,49,119,45]⟩ : ByteArray).size = 4:=rfl
   have hc1 : (B [ch x]).size = 1:=by rw [B_size];rfl
   have hsz : (B (WW n l i k)).size = (WW n l i k).length:=B_size _
   obtain ⟨m,hm⟩ : ∃ m,i * n + k = m:=⟨_,rfl⟩
   have hm16 : m ≤ 16:=by omega
   refine Ev.step (fun j => ?_) hs2
   have up : wrap64 ((m : Int) + 1) = ((i * n + (k + 1) : Nat) : Int):=by rw [w64 (x:=(m : Int) + 1) (by omega) (by omega)];omega
   have ux : wrap64 (x + 1) = x + 1:=w64 (by omega) (by omega)
   have hrd : rdI l (m : Int) = x:=by rw [rd_nat,← hm,hxe]
   have a1 : (m : Int) < (l.length : Int):=by clear up ux;omega
   have a2 : x ≤ x + 1:=by clear up ux;omega
   have a3 : x + 1 ≤ (((⟨#[48,49,119,45]⟩ : ByteArray).size : Nat) : Int):=by rw [h4];clear up ux;omega
   have a4 : (WW n l i k).length + 1 ≤ 9223372036854775807:=by clear up ux;omega
   have a5 : (WW n l i k ++ [47]).length + 1 ≤ 9223372036854775807:=by rw [List.length_append,List.length_cons,List.length_nil];clear up ux;omega
   have nz : ¬ (n : Int) = 0:=by clear up ux;omega
   have mt : Int.tmod (m : Int) (n : Int) = (k : Int):=by rw [tmod_nat,← hm,d2]
   show spec_FormatGrades.l0 (j + 1) (B (WW n l i k)) l (l.length : Int) ((i * n + k : Nat) : Int) n l = _
   rw [hm]
   simp only [spec_FormatGrades.l0]
   rw [if_pos a1,if_pos (Int.natCast_nonneg _),if_pos a1,hrd,ux,hsz,mt,up,hch,hc1]
   by_cases hk0 : k = 0
   ·subst hk0
    by_cases hi0 : i = 0
    ·subst hi0
     have : ¬ (m : Int) > 0:=by clear up ux;omega
     rw [if_neg this,if_pos hx0,if_pos a2,if_pos a3,if_pos a4,B_add,hW1]
     simp [sepOf]
    ·have hp : (m : Int) > 0:=by
      have:=Nat.mul_pos (show 0 < i by omega) (show 0 < n by omega)
      clear up ux;omega
     have eB : (⟨#[47]⟩ : ByteArray) = B [47]:=rfl
     rw [if_pos hp,if_neg nz,if_pos (show ((0 : Nat) : Int) = 0 from rfl),if_pos a4,if_pos hx0,if_pos a2,if_pos a3,eB,B_add,B_size (WW n l i 0 ++ [47]),if_pos a5,B_add,hW1]
     simp [sepOf,hi0]
   ·have hp : (m : Int) > 0:=by clear up ux;omega
    have hk1 : ¬ (k : Int) = 0:=by clear up ux;omega
    rw [if_pos hp,if_neg nz,if_neg hk1,if_pos hx0,if_pos a2,if_pos a3,if_pos a4,B_add,hW1]
    simp [hk0]
  ·have e1 : WW n l i n = WW n l (i + 1) 0:=by unfold WW;rw [if_neg (by omega),if_pos rfl];rfl
   have e2 : i * n + n = (i + 1) * n + 0:=by rw [Nat.succ_mul];rfl
   show Ev (fun j => spec_FormatGrades.l0 j (B (WW n l i n)) l (l.length : Int) ((i * n + n : Nat) : Int) n l) _
   rw [e1,e2];exact hs
 ·refine Ev.step (f:=fun _ => some (B (WW n l n 0))) (fun j => ?_) ((Ev.now _).is (by unfold WW;rw [if_pos rfl]))
  simp only [spec_FormatGrades.l0]
  rw [if_neg (by rw [hl];simp)]
def ix (b : UInt8) : Int:=if b = 48 then 0 else if b = 49 then 1 else if b = 119 then 2 else if b = 45 then 3 else -1
theorem ix_in (b : UInt8) : -1 ≤ ix b ∧ ix b ≤ 3:=by
 unfold ix
 repeat' split
 all_goals omega
theorem ch_ix {b : UInt8} (h : 0 ≤ ix b) : ch (ix b) = b:=by
 unfold ix at h ⊢
 by_cases a : b = 48
 ·rw [if_pos a,a];rfl
 ·by_cases c : b = 49
  ·rw [if_neg a,if_pos c,c];rfl
  ·by_cases d : b = 119
   ·rw [if_neg a,if_neg c,if_pos d,d];rfl
   ·by_cases e : b = 45
    ·rw [if_neg a,if_neg c,if_neg d,if_pos e,e];rfl
    ·rw [if_neg a,if_neg c,if_neg d,if_neg e] at h;omega
theorem ch_ne (g : Int) : ch g ≠ 47:=by
 unfold ch
 repeat' split
 all_goals decide
theorem byte_back (b : UInt8) : ((b.toNat : Int)).toNat.toUInt8 = b:=by
 rw [Int.toNat_natCast]
 exact UInt8.ofNat_toNat
theorem index_ix (b : UInt8) : Lib.indexByte [48,49,119,45] b = ix b:=by
 unfold ix
 simp only [Lib.indexByte]
 by_cases h1 : b = 48
 ·subst h1;rfl
 ·by_cases h2 : b = 49
  ·subst h2;rfl
  ·by_cases h3 : b = 119
   ·subst h3;rfl
   ·by_cases h4 : b = 45
    ·subst h4;rfl
    ·have n1 : ((48 : UInt8) == b) = false:=by simpa using fun e => h1 e.symm
     have n2 : ((49 : UInt8) == b) = false:=by simpa using fun e => h2 e.symm
     have n3 : ((119 : UInt8) == b) = false:=by simpa using fun e => h3 e.symm
     have n4 : ((45 : UInt8) == b) = false:=by simpa using fun e => h4 e.symm
     simp only [n1,n2,n3,n4]
     simp [h1,h2,h3,h4]
theorem iFind (b : UInt8) : strings_IndexByte.f (⟨#[48,49,119,45]⟩ : ByteArray) (b.toNat : Int) = some (ix b):=by
 unfold strings_IndexByte.f
 rw [byte_back]
 exact congrArg some (index_ix b)
theorem letters4 : L (⟨#[48,49,119,45]⟩ : ByteArray) = [48,49,119,45]:=rfl
theorem sFind (b : UInt8) : Ev (fun k => spec_l13Find.f k (⟨#[48,49,119,45]⟩ : ByteArray) (b.toNat : Int)) (ix b):=by
 unfold spec_l13Find.f
 have sz : (⟨#[48,49,119,45]⟩ : ByteArray).size = 4:=rfl
 have stop : Ev (fun k => spec_l13Find.l0 k (⟨#[48,49,119,45]⟩ : ByteArray) (b.toNat : Int) ((4 : Nat) : Int)) (-1):=by
  refine Ev.step (f:=fun _ => some (-1)) (fun k => ?_) (Ev.now _)
  simp only [spec_l13Find.l0]
  rw [if_neg (by rw [sz];omega)]
 have one : ∀ (i : Nat) (c : UInt8) (r : Int),i < 4 → btI (⟨#[48,49,119,45]⟩ : ByteArray) (i : Int) = (c.toNat : Int) → (b ≠ c → Ev (fun k => spec_l13Find.l0 k (⟨#[48,49,119,45]⟩ : ByteArray) (b.toNat : Int) ((i + 1 : Nat) : Int)) r) → (b = c → (i : Int) = r) → Ev (fun k => spec_l13Find.l0 k (⟨#[48,49,119,45]⟩ : ByteArray) (b.toNat : Int) (i : Int)) r:=by
  intro i c r hi hc hn hy
  have e : wrap64 ((i : Int) + 1) = ((i + 1 : Nat) : Int):=by rw [w64 (by omega) (by omega)];rfl
  by_cases q : b = c
  ·refine Ev.step (f:=fun _ => some (i : Int)) (fun k => ?_) ((Ev.now _).is (hy q))
   simp only [spec_l13Find.l0]
   rw [if_pos (by rw [sz];omega),if_pos (Int.natCast_nonneg _),hc,q,if_pos rfl]
  ·refine Ev.step (fun k => ?_) (hn q)
   simp only [spec_l13Find.l0]
   rw [if_pos (by rw [sz];omega),if_pos (Int.natCast_nonneg _),hc,if_neg (fun h => u8_ne q h.symm),e]
 unfold ix
 refine one 0 48 _ (by decide) rfl (fun h0 => ?_) (fun h => by rw [if_pos h];rfl)
 rw [if_neg h0]
 refine one 1 49 _ (by decide) rfl (fun h1 => ?_) (fun h => by rw [if_pos h];rfl)
 rw [if_neg h1]
 refine one 2 119 _ (by decide) rfl (fun h2 => ?_) (fun h => by rw [if_pos h];rfl)
 rw [if_neg h2]
 refine one 3 45 _ (by decide) rfl (fun h3 => ?_) (fun h => by rw [if_pos h];rfl)
 rw [if_neg h3]
 exact stop
def nP (s : List UInt8) : Nat:=(cutL s).length
def cP (s : List UInt8) : List Int:=(cutL s).flatten.map ix
def fgT (n : Nat) (l : List Int) : List UInt8:=if GV (n : Int) l then TT n l n else []
theorem iFormatAny (n : Nat) (l : List Int) (hl : l.length ≤ maxLen) : Ev (fun k => impl_FormatGrades.f k (n : Int) l) (B (fgT n l)):=by
 unfold fgT
 by_cases g : GV (n : Int) l
 ·rw [if_pos g];exact iFormat n l g
 ·rw [if_neg g]
  unfold impl_FormatGrades.f
  exact Ev.bind (iGV n l hl) (Ev_f (by rw [decide_eq_false g];simp) (Ev.now _))
def prI (s : List UInt8) : Int × List Int × Bool:=if s ≠ [] ∧ fgT (nP s) (cP s) = s then ((nP s : Int),cP s,true) else (0,[],false)
def prS (s : List UInt8) : Int × List Int × Bool:=if (∀ r ∈ cutL s,r.length = nP s) ∧ GV (nP s : Int) (cP s) then ((nP s : Int),cP s,true) else (0,[],false)
theorem flat_row (n : Nat) : ∀ (R : List (List UInt8)) (i : Nat) (hi : i < R.length),(∀ r ∈ R,r.length = n) → (R.flatten.drop (i * n)).take n = R[i]
 | [],i,hi,_ => absurd hi (Nat.not_lt_zero _)
 | r :: R,0,_,h => by
  have hr:=h r (List.mem_cons_self ..)
  rw [Nat.zero_mul,List.drop_zero,List.flatten_cons,List.take_left' hr];rfl
 | r :: R,i + 1,hi,h => by
  have hr:=h r (List.mem_cons_self ..)
  have e : (i + 1) * n = r.length + i * n:=by rw [hr,Nat.succ_mul,Nat.add_comm]
  rw [List.flatten_cons,e,List.drop_append]
  have:=flat_row n R i (by simpa using hi) (fun x hx => h x (List.mem_cons_of_mem _ hx))
  rw [List.drop_eq_nil_of_le (by omega),List.nil_append,show r.length + i * n - r.length = i * n by omega,this];rfl
theorem rows_rowsB (n : Nat) (l : List Int) : (rowsB n l n).map (fun x => x.data.toList) = (List.range n).map fun i => rowk n l i n:=by
 unfold rowsB
 rw [List.map_map]
 exact List.map_congr_left fun i _ => B_toList _
theorem parse_same (s : List UInt8) : prI s = prS s:=by
 have hne:=cutL_ne s
 have n1 : 1 ≤ nP s:=List.length_pos_iff.2 hne
 have key : (s ≠ [] ∧ fgT (nP s) (cP s) = s) ↔ ((∀ r ∈ cutL s,r.length = nP s) ∧ GV (nP s : Int) (cP s)):=by
  constructor
  ·rintro ⟨h0,h1⟩
   unfold fgT at h1
   by_cases g : GV (nP s : Int) (cP s)
   case neg => rw [if_neg g] at h1;exact absurd h1.symm h0
   rw [if_pos g] at h1
   refine ⟨?_,g⟩
   have hj:=rowsB_join (nP s) (cP s) (nP s)
   rw [h1,rows_rowsB] at hj
   obtain ⟨m,hm⟩ : ∃ m,nP s = m + 1:=⟨nP s - 1,by omega⟩
   have hr : ∃ x r,(List.range (nP s)).map (fun i => rowk (nP s) (cP s) i (nP s)) = x :: r:=List.exists_cons_of_ne_nil (by simp;omega)
   obtain ⟨x,r,hr⟩:=hr
   have hno : ∀ y ∈ x :: r,∀ b ∈ y,b ≠ 47:=by
    intro y hy b hb
    rw [← hr] at hy
    obtain ⟨i,_,rfl⟩:=List.mem_map.1 hy
    obtain ⟨k,_,rfl⟩:=List.mem_map.1 hb
    exact ch_ne _
   rw [hr] at hj
   have hc:=join_cutL x r hno
   rw [hj,← hr] at hc
   intro y hy
   rw [hc] at hy
   obtain ⟨i,_,rfl⟩:=List.mem_map.1 hy
   exact rowk_len _ _ _ _
  ·rintro ⟨h0,g⟩
   have hrow : (List.range (nP s)).map (fun i => rowk (nP s) (cP s) i (nP s)) = cutL s:=by
    apply List.ext_getElem
    ·rw [List.length_map,List.length_range];rfl
    ·intro i q1 q2
     rw [List.getElem_map,List.getElem_range]
     have hi : i < nP s:=q2
     have h2 : (i + 1) * nP s = i * nP s + nP s:=Nat.succ_mul i (nP s)
     have hf:=flat_row (nP s) (cutL s) i q2 h0
     rw [← rowk_eq (nP s) (cP s) (GV_len g) i hi,List.drop_take,h2,Nat.add_sub_cancel_left]
     unfold cP
     rw [← List.map_drop,← List.map_take,hf,List.map_map]
     have hid : ∀ b ∈ (cutL s)[i],(ch ∘ ix) b = b:=fun b hb => by
      have hm : ix b ∈ cP s:=List.mem_map.2 ⟨b,List.mem_flatten.2 ⟨_,List.getElem_mem q2,hb⟩,rfl⟩
      exact ch_ix (g.1.2.2.2 _ hm).1
     exact (List.map_congr_left (g:=id) hid).trans (List.map_id _)
   have hT : TT (nP s) (cP s) (nP s) = s:=by
    rw [← rowsB_join,rows_rowsB,hrow,cutL_join]
   refine ⟨fun e => ?_,by unfold fgT;rw [if_pos g,hT]⟩
   subst e
   have:=h0 [] (by simp [cutL])
   simp at this
   omega
 unfold prI prS
 by_cases h : s ≠ [] ∧ fgT (nP s) (cP s) = s
 ·rw [if_pos h,if_pos (key.1 h)]
 ·rw [if_neg h,if_neg (fun q => h (key.2 q))]
theorem iParseRow (x0 : ByteArray) (row : List UInt8) (y2 : List ByteArray) (x10 : Int) (x11 sz : Int) (r : Int × List Int × Bool) (acc0 : List Int) (hl : acc0.length + row.length ≤ 2000000)
  (next : Ev (fun k => impl_ParseGrades.l0 k x0 y2 x10 (wrap64 (x11 + 1)) sz (acc0 ++ row.map ix)) r) : Ev (fun k => impl_ParseGrades.l1 k x0 (B row) y2 x10 x11 ((B row).size : Int) 0 sz acc0) r:=by
 have go : ∀ (t pre : List UInt8) (acc : List Int),row = pre ++ t → acc = acc0 ++ pre.map ix → Ev (fun k => impl_ParseGrades.l1 k x0 (B row) y2 x10 x11 ((B row).size : Int) (pre.length : Int) sz acc) r:=by
  intro t
  induction t with
  | nil =>
   intro pre acc hp ha
   have hz : (B row).size = pre.length:=by rw [B_size,hp];simp
   refine Ev.step (fun k => ?_) next
   simp only [impl_ParseGrades.l1]
   rw [if_neg (by rw [hz];omega),ha,hp,List.append_nil]
  | cons b t ih =>
   intro pre acc hp ha
   have hz : (B row).size = pre.length + (t.length + 1):=by rw [B_size,hp];simp
   have hlr : row.length = pre.length + (t.length + 1):=by rw [hp];simp
   have c1 : (pre.length : Int) < ((B row).size : Int):=by rw [hz];omega
   have c2 : acc.length < 17592186044416:=by rw [ha,List.length_append,List.length_map];omega
   have hb : btI (B row) (pre.length : Int) = (b.toNat : Int):=bt_suffix (by unfold B;rw [L_mk];exact hp)
   have nx:=ih (pre ++ [b]) (acc ++ [ix b]) (by rw [hp];simp) (by rw [ha];simp)
   have e : wrap64 ((pre.length : Int) + 1) = (((pre ++ [b]).length : Nat) : Int):=by rw [w64 (by omega) (by omega)];simp
   refine Ev.step (fun k => ?_) nx
   simp only [impl_ParseGrades.l1]
   rw [if_pos c1,if_pos (Int.natCast_nonneg _),if_pos c1,hb,iFind,Option.bind_some,if_pos c2,e]
 exact go row [] acc0 rfl (by simp)
theorem rdSB_mid (pre : List (List UInt8)) (x : List UInt8) (t : List (List UInt8)) : rdS ((pre ++ x :: t).map B) (pre.length : Int) = B x:=by
 unfold rdS
 rw [Int.toNat_natCast,List.getD_eq_getElem?_getD,List.getElem?_map]
 simp
theorem iParse_ev (x : ByteArray) (h : x.size ≤ 1048576) : Ev (fun k => impl_ParseGrades.f k x) (prI (L x)):=by
 have hsz:=L_size x
 have hcl:=cutL_len (L x)
 obtain ⟨R,hR⟩ : ∃ R,cutL (L x) = R:=⟨_,rfl⟩
 have hn : nP (L x) = R.length:=by unfold nP;rw [hR]
 have hc : cP (L x) = R.flatten.map ix:=by unfold cP;rw [hR]
 rw [hR] at hcl
 have hpc : pcs x = R.map B:=by unfold pcs;rw [hR]
 unfold impl_ParseGrades.f
 rw [split_pcs x (by omega),hpc]
 have fin : Ev (fun k => impl_ParseGrades.l0 k x (R.map B) (((R.map B).length : Nat) : Int) (R.length : Int) (R.length : Int) (R.flatten.map ix)) (prI (L x)):=by
  refine Ev.step (f:=?fp9) (fun k => ?hp9) ?kp9
  case hp9 => simp only [impl_ParseGrades.l0];rw [if_neg (by rw [List.length_map];omega),toList_L] <;> exact rfl
  have pe : prI (L x) = if L x ≠ [] ∧ fgT R.length (R.flatten.map ix) = L x then ((R.length : Int),R.flatten.map ix,true) else (0,[],false):=by unfold prI;rw [hn,hc]
  rw [pe]
  by_cases q : L x = []
  ·exact Ev_t q ((Ev.now _).is (by rw [if_neg (fun z => z.1 q)]))
  ·refine Ev_f q (Ev.bind (iFormatAny R.length (R.flatten.map ix) (by rw [maxLen_eq,List.length_map];omega)) ?_)
   by_cases q2 : fgT R.length (R.flatten.map ix) = L x
   ·refine Ev_t (by rw [toList_L];unfold B;rw [L_mk];exact q2) ((Ev.now _).is (by rw [if_pos ⟨q,q2⟩]))
   ·refine Ev_f (by rw [toList_L];unfold B;rw [L_mk];exact q2) ((Ev.now _).is (by rw [if_neg (fun z => q2 z.2)]))
 have go : ∀ (t pre : List (List UInt8)),R = pre ++ t → Ev (fun k => impl_ParseGrades.l0 k x (R.map B) (((R.map B).length : Nat) : Int) (pre.length : Int) (pre.length : Int) (pre.flatten.map ix)) (prI (L x)):=by
  intro t
  induction t with
  | nil =>
   intro pre hp
   rw [List.append_nil] at hp
   subst hp
   exact fin
  | cons y t ih =>
   intro pre hp
   have hlr : R.length = pre.length + (t.length + 1):=by rw [hp];simp
   have hfl : R.flatten.length = pre.flatten.length + (y.length + t.flatten.length):=by rw [hp];simp
   have c1 : (pre.length : Int) < (((R.map B).length : Nat) : Int):=by rw [List.length_map];omega
   have nx:=ih (pre ++ [y]) (by rw [hp];simp)
   have e : wrap64 ((pre.length : Int) + 1) = (((pre ++ [y]).length : Nat) : Int):=by rw [w64 (by omega) (by omega)];simp
   have e2 : (pre ++ [y]).flatten.map ix = pre.flatten.map ix ++ y.map ix:=by simp
   rw [← e,e2] at nx
   have rd1 : rdS (R.map B) (pre.length : Int) = B y:=by rw [hp];exact rdSB_mid pre y t
   have row:=iParseRow x y (R.map B) (((R.map B).length : Nat) : Int) (pre.length : Int) (wrap64 ((pre.length : Int) + 1)) (prI (L x)) (pre.flatten.map ix) (by rw [List.length_map];omega) nx
   refine Ev.step (fun k => ?_) row
   simp only [impl_ParseGrades.l0]
   rw [if_pos c1,if_pos (Int.natCast_nonneg _),if_pos c1,rd1]
 exact Ev.congr (fun k => Option.bind_some _ _) (go R [] rfl)
theorem sCut_ev (x : ByteArray) (h : x.size ≤ 1048576) : Ev (fun k => spec_l13Cut.f k x 47) (pcs x):=by
 have hsz:=L_size x
 unfold spec_l13Cut.f
 have go : ∀ (e u cur : List UInt8) (acc : List ByteArray) (y : List UInt8) (r : List (List UInt8)),L x = u ++ (cur ++ e) → acc.length ≤ u.length → cutL e = y :: r → Ev (fun k => spec_l13Cut.l0 k x 47 acc (u.length : Int) ((u.length + cur.length : Nat) : Int)) (acc ++ ((cur ++ y) :: r).map B):=by
  intro e
  induction e with
  | nil =>
   intro u cur acc y r hx ha hy
   have hl : x.size = u.length + cur.length:=by rw [hsz,hx];simp
   obtain ⟨rfl,rfl⟩ : [] = y ∧ [] = r:=by simpa [cutL] using hy
   have c1 : ((u.length + cur.length : Nat) : Int) = (x.size : Int):=by rw [hl]
   have ex : x.extract u.length (u.length + cur.length) = B cur:=by
    apply L_inj
    rw [L_extract,hx,List.append_nil]
    unfold B
    rw [L_mk,List.take_of_length_le (by simp),List.drop_left' rfl]
   have e1 : wrap64 (((u.length + cur.length : Nat) : Int) + 1) = ((u.length + cur.length + 1 : Nat) : Int):=by rw [w64 (by omega) (by omega)];rfl
   have last : Ev (fun k => spec_l13Cut.l0 k x 47 (acc ++ [B cur]) ((u.length + cur.length + 1 : Nat) : Int) ((u.length + cur.length + 1 : Nat) : Int)) (acc ++ ((cur ++ []) :: []).map B):=by
    refine Ev.step (f:=fun _ => some (acc ++ [B cur])) (fun k => ?_) ((Ev.now _).is (by simp))
    simp only [spec_l13Cut.l0]
    rw [if_neg (by omega)]
   refine Ev.step (fun k => ?_) last
   simp only [spec_l13Cut.l0]
   rw [if_pos (by omega),if_pos c1,if_pos (Int.natCast_nonneg _),if_pos (by omega),if_pos (by omega),Int.toNat_natCast,Int.toNat_natCast,ex,e1]
  | cons b e ih =>
   intro u cur acc y r hx ha hy
   have hl : x.size = u.length + cur.length + (e.length + 1):=by rw [hsz,hx];simp;omega
   have hb : btI x ((u.length + cur.length : Nat) : Int) = (b.toNat : Int):=by
    have:=bt_suffix (s:=x) (u:=u ++ cur) (c:=b) (e:=e) (by rw [hx];simp)
    rwa [List.length_append] at this
   have e1 : wrap64 (((u.length + cur.length : Nat) : Int) + 1) = ((u.length + cur.length + 1 : Nat) : Int):=by rw [w64 (by omega) (by omega)];rfl
   obtain ⟨y',r',hy'⟩:=List.exists_cons_of_ne_nil (cutL_ne e)
   by_cases q : b = 47
   ·subst q
    rw [cutL_stroke,hy'] at hy
    obtain ⟨rfl,rfl⟩ : [] = y ∧ y' :: r' = r:=by simpa using hy
    have ex : x.extract u.length (u.length + cur.length) = B cur:=by
     apply L_inj
     rw [L_extract,hx]
     unfold B
     rw [L_mk,← List.append_assoc,List.take_left' (by simp),List.drop_left' rfl]
    have nx:=ih (u ++ cur ++ [47]) [] (acc ++ [B cur]) y' r' (by rw [hx];simp) (by simp;omega) hy'
    have lu : (u ++ cur ++ [47]).length = u.length + cur.length + 1:=by simp;omega
    rw [lu] at nx
    refine Ev.step (fun k => ?_) (nx.is (by simp))
    simp only [spec_l13Cut.l0]
    rw [if_pos (by omega),if_neg (by omega),if_pos (Int.natCast_nonneg _),if_pos (by omega),hb,if_pos (show (((47 : UInt8).toNat : Nat) : Int) = 47 from rfl),if_pos (Int.natCast_nonneg _),if_pos (by omega),if_pos (by omega),Int.toNat_natCast,Int.toNat_natCast,ex,e1]
    rfl
   ·rw [cutL_cons q hy'] at hy
    obtain ⟨rfl,rfl⟩ : b :: y' = y ∧ r' = r:=by simpa using hy
    have nx:=ih u (cur ++ [b]) acc y' r' (by rw [hx];simp) ha hy'
    have lu : u.length + (cur ++ [b]).length = u.length + cur.length + 1:=by simp;omega
    rw [lu] at nx
    have nq : ¬ (b.toNat : Int) = 47:=u8_ne (d:=47) q
    refine Ev.step (fun k => ?_) (nx.is (by simp))
    simp only [spec_l13Cut.l0]
    rw [if_pos (by omega),if_neg (by omega),if_pos (Int.natCast_nonneg _),if_pos (by omega),hb,if_neg nq,e1]
 obtain ⟨y,r,hy⟩:=List.exists_cons_of_ne_nil (cutL_ne (L x))
 have:=go (L x) [] [] [] y r (by simp) (Nat.le_refl _) hy
 refine this.is ?_
 unfold pcs
 rw [hy];simp
theorem sParseRow (row : List UInt8) (y1 : List ByteArray) (x16 x17 sz : Int) (r : Int × List Int × Bool) (acc0 : List Int) (hl : acc0.length + row.length ≤ 2000000)
  (next : Ev (fun k => if ((B row).size : Int) = (y1.length : Int) then spec_ParseGrades.l0 k y1 x16 (wrap64 (x17 + 1)) sz (acc0 ++ row.map ix) else some (0,[],false)) r) : Ev (fun k => spec_ParseGrades.l1 k y1 (B row) x16 x17 ((B row).size : Int) 0 sz acc0) r:=by
 have go : ∀ (t pre : List UInt8) (acc : List Int),row = pre ++ t → acc = acc0 ++ pre.map ix → Ev (fun k => spec_ParseGrades.l1 k y1 (B row) x16 x17 ((B row).size : Int) (pre.length : Int) sz acc) r:=by
  intro t
  induction t with
  | nil =>
   intro pre acc hp ha
   have hz : (B row).size = pre.length:=by rw [B_size,hp];simp
   refine Ev.step (fun k => ?_) next
   simp only [spec_ParseGrades.l1]
   rw [if_neg (show ¬ (pre.length : Int) < ((B row).size : Int) by rw [hz];omega),ha,hp,List.append_nil]
  | cons b t ih =>
   intro pre acc hp ha
   have hz : (B row).size = pre.length + (t.length + 1):=by rw [B_size,hp];simp
   have hlr : row.length = pre.length + (t.length + 1):=by rw [hp];simp
   have c1 : (pre.length : Int) < ((B row).size : Int):=by rw [hz];omega
   have c2 : acc.length < 17592186044416:=by rw [ha,List.length_append,List.length_map];omega
   have hb : btI (B row) (pre.length : Int) = (b.toNat : Int):=bt_suffix (by unfold B;rw [L_mk];exact hp)
   have nx:=ih (pre ++ [b]) (acc ++ [ix b]) (by rw [hp];simp) (by rw [ha];simp)
   have e : wrap64 ((pre.length : Int) + 1) = (((pre ++ [b]).length : Nat) : Int):=by rw [w64 (by omega) (by omega)];simp
   refine Ev.step (f:=?fs1) (fun k => ?hs1) ?ks1
   case hs1 => simp only [spec_ParseGrades.l1];rw [if_pos c1,if_pos (Int.natCast_nonneg _),if_pos c1,hb,e] <;> exact rfl
   exact Ev.bind (sFind b) (Ev_t c2 nx)
 exact go row [] acc0 rfl (by simp)
theorem sParse_ev (x : ByteArray) (h : x.size ≤ 1048576) : Ev (fun k => spec_ParseGrades.f k x) (prS (L x)):=by
 have hsz:=L_size x
 have hcl:=cutL_len (L x)
 have hct:=sCut_ev x h
 obtain ⟨R,hR⟩ : ∃ R,cutL (L x) = R:=⟨_,rfl⟩
 have hn : nP (L x) = R.length:=by unfold nP;rw [hR]
 have hc : cP (L x) = R.flatten.map ix:=by unfold cP;rw [hR]
 rw [hR] at hcl
 have hpc : pcs x = R.map B:=by unfold pcs;rw [hR]
 rw [hpc] at hct
 unfold spec_ParseGrades.f
 refine Ev.bind hct ?_
 have pe : prS (L x) = if (∀ r ∈ R,r.length = R.length) ∧ GV (R.length : Int) (R.flatten.map ix) then ((R.length : Int),R.flatten.map ix,true) else (0,[],false):=by unfold prS;rw [hn,hc,hR]
 have go : ∀ (t pre : List (List UInt8)),R = pre ++ t → (∀ r ∈ pre,r.length = R.length) → Ev (fun k => spec_ParseGrades.l0 k (R.map B) (((R.map B).length : Nat) : Int) (pre.length : Int) (((R.map B).length : Nat) : Int) (pre.flatten.map ix)) (prS (L x)):=by
  intro t
  induction t with
  | nil =>
   intro pre hp hall
   rw [List.append_nil] at hp
   subst hp
   refine Ev.step (f:=?fp8) (fun k => ?hp8) ?kp8
   case hp8 => simp only [spec_ParseGrades.l0];rw [if_neg (by rw [List.length_map];omega),List.length_map] <;> exact rfl
   rw [pe]
   refine Ev.bind (sGV (R.length : Int) (R.flatten.map ix) (by rw [maxLen_eq,List.length_map];omega)) ?_
   by_cases q : GV (R.length : Int) (R.flatten.map ix)
   ·exact Ev_t (decide_eq_true q) ((Ev.now _).is (by rw [if_pos ⟨hall,q⟩]))
   ·exact Ev_f (by rw [decide_eq_false q];simp) ((Ev.now _).is (by rw [if_neg (fun z => q z.2)]))
  | cons y t ih =>
   intro pre hp hall
   have hlr : R.length = pre.length + (t.length + 1):=by rw [hp];simp
   have hfl : R.flatten.length = pre.flatten.length + (y.length + t.flatten.length):=by rw [hp];simp
   have c1 : (pre.length : Int) < (((R.map B).length : Nat) : Int):=by rw [List.length_map];omega
   have e : wrap64 ((pre.length : Int) + 1) = (((pre ++ [y]).length : Nat) : Int):=by rw [w64 (by omega) (by omega)];simp
   have e2 : (pre ++ [y]).flatten.map ix = pre.flatten.map ix ++ y.map ix:=by simp
   have rd1 : rdS (R.map B) (pre.length : Int) = B y:=by rw [hp];exact rdSB_mid pre y t
   have nx : Ev (fun k => if ((B y).size : Int) = (((R.map B).length : Nat) : Int) then spec_ParseGrades.l0 k (R.map B) (((R.map B).length : Nat) : Int) (wrap64 ((pre.length : Int) + 1)) (((R.map B).length : Nat) : Int) (pre.flatten.map ix ++ y.map ix) else some (0,[],false)) (prS (L x)):=by
    by_cases q : y.length = R.length
    ·refine Ev_t (by rw [B_size,List.length_map,q]) ?_
     rw [e,← e2]
     exact ih (pre ++ [y]) (by rw [hp];simp) (fun r hr => by
      rcases List.mem_append.1 hr with hr|hr
      ·exact hall r hr
      ·rw [List.mem_singleton.1 hr];exact q)
    ·refine Ev_f (by rw [B_size,List.length_map];omega) ((Ev.now _).is ?_)
     rw [pe,if_neg (fun z => q (z.1 y (by rw [hp];simp)))]
   have row:=sParseRow y (R.map B) (((R.map B).length : Nat) : Int) (pre.length : Int) (((R.map B).length : Nat) : Int) (prS (L x)) (pre.flatten.map ix) (by rw [List.length_map];omega) nx
   refine Ev.step (fun k => ?_) row
   simp only [spec_ParseGrades.l0]
   rw [if_pos c1,if_pos (Int.natCast_nonneg _),if_pos c1,rd1]
 exact go R [] rfl (fun r hr => by cases hr)
end Go.Proofs.YtfjfdlgcneclfaaDoor.V
end
section
set_option linter.unusedVariables false
set_option linter.unusedSimpArgs false
namespace Go.Proofs.YtfjfdlgcneclfaaDoor.V
open Go Go.Proofs.YtfjfdlgcneclfaaDoor.R Go.RowKit
open Go.Proofs.YtfjfdlgcneclfaaDoorW.PrintWords hiding mn mx
theorem wsum2 (a b : Nat) (h : a + b ≤ 4000000000) : wrap64 ((a : Int) + (b : Int)) = ((a + b : Nat) : Int):=by rw [w64 (by omega) (by omega)];omega
theorem l6draw_r (l : List Int) (hl : l.length ≤ 2000) (hb : Bytes l) (n : Nat) (h1 : 1 ≤ n) (h4 : n ≤ 4) (s : Nat) (hs : s ≤ 930000) :
  ∃ (t : List Int) (s' : Nat),t.length = n * n ∧ (∀ x ∈ t,0 ≤ x ∧ x ≤ 3) ∧ s' ≤ s + 16 ∧ Ev (fun k => spec_l6Draw.f k (n : Int) l (s : Int)) ((n : Int),t,l,(s' : Int)):=by
 have hq:=sq_le n h4
 have e0 : wrap64 ((n : Int) * (n : Int)) = ((n * n : Nat) : Int):=by
  have : (n : Int) * (n : Int) = ((n * n : Nat) : Int):=by simp
  rw [this,w64 (by omega) (by omega)]
 obtain ⟨q,hqq⟩ : ∃ q,n * n = q:=⟨_,rfl⟩
 rw [hqq] at hq e0
 have go : ∀ d (pre : List Int) (s : Nat),pre.length + d = q → s ≤ 930000 + pre.length → (∀ x ∈ pre,0 ≤ x ∧ x ≤ 3) → ∃ (t : List Int) (s' : Nat),t.length = q ∧ (∀ x ∈ t,0 ≤ x ∧ x ≤ 3) ∧ s' ≤ s + d ∧ Ev (fun k => spec_l6Draw.l0 k (q : Int) (pre.length : Int) l (s : Int) (n : Int) pre) ((n : Int),t,l,(s' : Int)):=by
  intro d
  induction d with
  | zero =>
   intro pre s hp hs hg
   refine ⟨pre,s,by omega,hg,by omega,Ev.step (f:=fun _ => some ((n : Int),pre,l,(s : Int))) (fun k => ?_) (Ev.now _)⟩
   simp only [spec_l6Draw.l0];rw [if_neg (by omega)]
  | succ d ih =>
   intro pre s hp hs hg
   obtain ⟨x,hx,hd⟩:=num_r l hl hb s (by omega) [3,0,1,3,2,1,0] (by simp) (by simp)
   have hx3 : 0 ≤ x ∧ x ≤ 3:=by
    simp only [List.mem_cons,List.not_mem_nil,or_false] at hx
    omega
   obtain ⟨t,s',t1,t2,t3,t4⟩:=ih (pre ++ [x]) (s + 1) (by simp;omega) (by simp;omega) (fun y hy => by
    rcases List.mem_append.1 hy with hy|hy
    ·exact hg y hy
    ·rw [List.mem_singleton.1 hy];exact hx3)
   refine ⟨t,s',t1,t2,by omega,?_⟩
   have e : wrap64 ((pre.length : Int) + 1) = (((pre ++ [x]).length : Nat) : Int):=by rw [w64 (by omega) (by omega)];simp
   have c1 : (pre.length : Int) < (q : Int):=by omega
   have c2 : pre.length < 17592186044416:=by omega
   refine Ev.step (f:=?fd1) (fun k => ?hd1) ?kd1
   case hd1 => simp only [spec_l6Draw.l0];rw [if_pos c1,e] <;> exact rfl
   exact Ev.bind (ev_some (fun _ => hd)) (Ev_t c2 t4)
 obtain ⟨t,s',t1,t2,t3,t4⟩:=go q [] s (by simp) (by simp;omega) (fun x hx => by cases hx)
 refine ⟨t,s',by rw [hqq];exact t1,t2,by omega,?_⟩
 unfold spec_l6Draw.f
 rw [e0]
 exact t4
theorem l6bad_r (l : List Int) (hl : l.length ≤ 2000) (hb : Bytes l) (n : Nat) (c : List Int) (hc : 1 ≤ c.length ∧ c.length ≤ 16) (s : Nat) (hs : s ≤ 940000) :
  ∃ (n' : Nat) (c' : List Int) (s' : Nat),c'.length ≤ 16 ∧ s' ≤ s + 2 ∧ spec_l6Bad.f (n : Int) c l (s : Int) = some ((n' : Int),c',l,(s' : Int)):=by
 obtain ⟨v,_,hp⟩:=pick_r l hl hb s 24 (by omega) (by omega) (by omega)
 unfold spec_l6Bad.f
 have hp : spec_l13Rd_pick.f 24 l (s : Int) = some ((v : Int),l,((s + 1 : Nat) : Int)):=hp
 simp only [hp,Option.bind_some]
 by_cases h0 : (v : Int) = 0
 ·obtain ⟨x,_,hd⟩:=num_r l hl hb (s + 1) (by omega) [4,(-1),1000000] (by simp) (by simp)
  have k1 : 1 ≤ (c.length : Int):=by omega
  have k2 : [x].length + ((c.drop 1).take (c.length - 1)).length ≤ 17592186044416:=by simp;omega
  refine ⟨n,[x] ++ ((c.drop 1).take (c.length - 1)),s + 1 + 1,by simp;omega,by omega,?_⟩
  rw [if_pos h0]
  simp only [hd,Option.bind_some]
  rw [if_pos k1,if_pos (Int.le_refl _),if_pos k2]
 ·by_cases h1 : (v : Int) = 1
  ·obtain ⟨x,hx,hd⟩:=num_r l hl hb (s + 1) (by omega) [0,5,1] (by simp) (by simp)
   have hx0 : 0 ≤ x:=by
    simp only [List.mem_cons,List.not_mem_nil,or_false] at hx
    omega
   refine ⟨x.toNat,c,s + 1 + 1,hc.2,by omega,?_⟩
   rw [if_neg h0,if_pos h1]
   simp only [hd,Option.bind_some]
   rw [Int.toNat_of_nonneg hx0]
  ·exact ⟨n,c,s + 1,hc.2,by omega,by rw [if_neg h0,if_neg h1]⟩
theorem l6some_r (l : List Int) (hl : l.length ≤ 2000) (hb : Bytes l) (s : Nat) (hs : s ≤ 920000) :
  ∃ (n' : Nat) (c' : List Int) (s' : Nat),c'.length ≤ 16 ∧ s' ≤ s + 20 ∧ Ev (fun k => spec_l6Some.f k l (s : Int)) ((n' : Int),c',l,(s' : Int)):=by
 obtain ⟨v,hv,hp⟩:=pick_r l hl hb s 4 (by omega) (by omega) (by omega)
 obtain ⟨t,s1,t1,t2,t3,t4⟩:=l6draw_r l hl hb (v + 1) (by omega) (by omega) (s + 1) (by omega)
 have hq:=sq_le (v + 1) (by omega)
 have hq1 : 1 ≤ (v + 1) * (v + 1):=Nat.mul_pos (by omega) (by omega)
 obtain ⟨n',c',s2,c1,c2,c3⟩:=l6bad_r l hl hb (v + 1) t (by omega) s1 (by omega)
 refine ⟨n',c',s2,c1,by omega,?_⟩
 have wv : wrap64 (1 + (v : Int)) = ((v + 1 : Nat) : Int):=by rw [w64 (by omega) (by omega)];omega
 unfold spec_l6Some.f
 refine Ev.bind (ev_some (fun _ => hp)) ?_
 simp only [wv]
 exact Ev.bind t4 (Ev.bind (ev_some (fun _ => c3)) (Ev.now _))
theorem drawFormatGrades_r (l : List Int) (hb : Bytes l) : ∃ (n : Nat) (c : List Int),c.length ≤ 16 ∧ Ev (fun k => spec_DrawFormatGrades.f k l) ((n : Int),c):=by
 obtain ⟨z,z1,z2,z3⟩:=open_r l hb
 obtain ⟨n,c,s,c1,c2,c3⟩:=l6some_r z z1 z2 0 (by omega)
 refine ⟨n,c,c1,?_⟩
 unfold spec_DrawFormatGrades.f
 exact Ev.bind (ev_some (fun _ => z3)) (Ev.bind c3 (Ev.now _))
theorem TT_pos (n : Nat) (h1 : 1 ≤ n) (l : List Int) : 1 ≤ (TT n l n).length:=by
 obtain ⟨m,rfl⟩ : ∃ m,n = m + 1:=⟨n - 1,by omega⟩
 simp only [TT,List.length_append,rowk_len]
 omega
theorem drawParseGrades_r (l : List Int) (hb : Bytes l) : ∃ (x : ByteArray),x.size ≤ 1000 ∧ Ev (fun k => spec_DrawParseGrades.f k l) x:=by
 obtain ⟨z,z1,z2,z3⟩:=open_r l hb
 obtain ⟨v,hv,hp⟩:=pick_r z z1 z2 0 4 (by omega) (by omega) (by omega)
 obtain ⟨t,s1,t1,t2,t3,t4⟩:=l6draw_r z z1 z2 (v + 1) (by omega) (by omega) (0 + 1) (by omega)
 have hg : GV ((v + 1 : Nat) : Int) t:=(GV_iff (v + 1) t).2 ⟨by omega,by omega,t1,t2⟩
 have sf:=sFormat (v + 1) t hg
 have v4 : v ≤ 1000000:=by omega
 have zl:=TT_len (v + 1) (by omega) t (v + 1)
 have zp:=TT_pos (v + 1) (by omega) t
 obtain ⟨x,hx⟩ : ∃ x,B (TT (v + 1) t (v + 1)) = x:=⟨_,rfl⟩
 have xs : x.size = (TT (v + 1) t (v + 1)).length:=by rw [← hx,B_size]
 rw [hx] at sf
 obtain ⟨c,hc,p2⟩:=pick_r z z1 z2 s1 2 (by omega) (by omega) (by omega)
 have pre : ∀ {r : ByteArray},Ev (fun k => if (c : Int) = 0 then (some x) else ((spec_l13Rd_pick.f (x.size : Int) z ((s1 + 1 : Nat) : Int)).bind fun t6 => (if 0 ≤ t6.1 then (if t6.1 ≤ (x.size : Int) then ((spec_l13Rd_of.f ([(⟨#[]⟩ : ByteArray),(⟨#[48]⟩ : ByteArray),(⟨#[47]⟩ : ByteArray),(⟨#[119]⟩ : ByteArray),(⟨#[50]⟩ : ByteArray),(⟨#[45]⟩ : ByteArray)]) t6.2.1 t6.2.2).bind fun t7 => (if (x.extract 0 t6.1.toNat).size + t7.1.size ≤ 9223372036854775807 then ((spec_l13Rd_pick.f 2 t7.2.1 t7.2.2).bind fun t8 => (if 0 ≤ (wrap64 (t6.1 + t8.1)) then (if (wrap64 (t6.1 + t8.1)) ≤ (x.size : Int) then (if (x.size : Int) ≤ (x.size : Int) then (if ((x.extract 0 t6.1.toNat) ++ t7.1).size + (x.extract (wrap64 (t6.1 + t8.1)).toNat x.size).size ≤ 9223372036854775807 then (some (((x.extract 0 t6.1.toNat) ++ t7.1) ++ (x.extract (wrap64 (t6.1 + t8.1)).toNat x.size))) else none) else none) else none) else none)) else none)) else none) else none))) r → Ev (fun k => spec_DrawParseGrades.f k l) r:=fun h => by
  unfold spec_DrawParseGrades.f
  refine Ev.bind (ev_some (fun _ => z3)) (Ev.bind (ev_some (fun _ => hp)) ?_)
  simp only [w1p v v4]
  exact Ev.bind t4 (Ev.bind sf (Ev.bind (ev_some (fun _ => p2)) h))
 by_cases q : (c : Int) = 0
 ·exact ⟨x,by omega,pre (Ev_t q (Ev.now _))⟩
 obtain ⟨k0,hk0,p3⟩:=pick_r z z1 z2 (s1 + 1) x.size (by omega) (by omega) (by omega)
 obtain ⟨y,hy,p4⟩:=of_r z z1 z2 (s1 + 1 + 1) (by omega) [(⟨#[]⟩ : ByteArray),(⟨#[48]⟩ : ByteArray),(⟨#[47]⟩ : ByteArray),(⟨#[119]⟩ : ByteArray),(⟨#[50]⟩ : ByteArray),(⟨#[45]⟩ : ByteArray)] (by simp) (by simp)
 have hys : y.size ≤ 1:=by
  simp only [List.mem_cons,List.not_mem_nil,or_false] at hy
  rcases hy with rfl|rfl|rfl|rfl|rfl|rfl <;> decide
 obtain ⟨u,hu,p5⟩:=pick_r z z1 z2 (s1 + 1 + 1 + 1) 2 (by omega) (by omega) (by omega)
 have wk : k0 + u ≤ 4000000000:=by omega
 have q1 : (k0 : Int) ≤ (x.size : Int):=by omega
 have q2 : ((k0 + u : Nat) : Int) ≤ (x.size : Int):=by omega
 have z25 : x.size ≤ 25:=by omega
 have b1 : (x.extract 0 k0).size ≤ 25:=by rw [ByteArray.size_extract];omega
 have b2 : (x.extract (k0 + u) x.size).size ≤ 25:=by rw [ByteArray.size_extract];omega
 have q3 : (x.extract 0 k0).size + y.size ≤ 9223372036854775807:=by omega
 have q4 : ((x.extract 0 k0) ++ y).size + (x.extract (k0 + u) x.size).size ≤ 9223372036854775807:=by rw [ByteArray.size_append];omega
 have q5 : (((x.extract 0 k0) ++ y) ++ (x.extract (k0 + u) x.size)).size ≤ 1000:=by rw [ByteArray.size_append,ByteArray.size_append];omega
 refine ⟨((x.extract 0 k0) ++ y) ++ (x.extract (k0 + u) x.size),q5,pre (Ev_f q (Ev.bind (ev_some (fun _ => p3)) ?_))⟩
 clear pre q5 b1 b2
 refine Ev_t (Int.natCast_nonneg _) (Ev_t q1 (Ev.bind (ev_some (fun _ => p4)) ?_))
 dsimp only
 rw [Int.toNat_natCast]
 refine Ev_t q3 (Ev.bind (ev_some (fun _ => p5)) ?_)
 dsimp only
 simp only [wsum2 k0 u wk,Int.toNat_natCast]
 exact Ev_t (Int.natCast_nonneg _) (Ev_t q2 (Ev_t (Int.le_refl _) (Ev_t q4 (Ev.now _))))
theorem drawGradeBetween_r (l : List Int) (hb : Bytes l) : ∃ (r : Int × List Int × List Int × List Stp) (n : Nat) (c : List Int),(r.2.1.length ≤ 1000 ∧ r.2.2.1.length ≤ 1000 ∧ r.2.2.2.length ≤ 1000) ∧ c.length ≤ 16 ∧ Ev (fun k => spec_DrawGradeBetween.f k l) (r.1,r.2.1,r.2.2.1,r.2.2.2,(n : Int),c):=by
 obtain ⟨z,z1,z2,z3⟩:=open_r l hb
 obtain ⟨r,s1,g1,g2,g3⟩:=any_r z z1 z2
 obtain ⟨v,_,p1⟩:=pick_r z z1 z2 s1 16 (by omega) (by omega) (by omega)
 by_cases q : (v : Int) = 0
 ·obtain ⟨n,c,s2,c1,c2,c3⟩:=l6some_r z z1 z2 (s1 + 1) (by omega)
  refine ⟨r,n,c,g1,c1,?_⟩
  unfold spec_DrawGradeBetween.f
  exact Ev.bind (ev_some (fun _ => z3)) (Ev.bind g3 (Ev.bind (ev_some (fun _ => p1)) (Ev_t q (Ev.bind c3 (Ev.now _)))))
 ·obtain ⟨m,hm⟩ : ∃ m : Nat,mx (mn r.1 4) 1 = (m : Int) ∧ 1 ≤ m ∧ m ≤ 4:=by
   have : 1 ≤ mx (mn r.1 4) 1 ∧ mx (mn r.1 4) 1 ≤ 4:=by
    unfold mx mn
    repeat' split
    all_goals omega
   exact ⟨(mx (mn r.1 4) 1).toNat,by omega,by omega,by omega⟩
  obtain ⟨hm,m1,m4⟩:=hm
  obtain ⟨t,s2,t1,t2,t3,t4⟩:=l6draw_r z z1 z2 m m1 m4 (s1 + 1) (by omega)
  have hq:=sq_le m m4
  have hq1 : 1 ≤ m * m:=Nat.mul_pos m1 m1
  obtain ⟨n,c,s3,c1,c2,c3⟩:=l6bad_r z z1 z2 m t (by omega) s2 (by omega)
  refine ⟨r,n,c,g1,c1,?_⟩
  unfold spec_DrawGradeBetween.f
  refine Ev.bind (ev_some (fun _ => z3)) (Ev.bind g3 (Ev.bind (ev_some (fun _ => p1)) (Ev_f q ?_)))
  simp only [hm]
  exact Ev.bind t4 (Ev.bind (ev_some (fun _ => c3)) (Ev.now _))
end Go.Proofs.YtfjfdlgcneclfaaDoor.V
end
section
set_option linter.unusedVariables false
set_option linter.unusedSimpArgs false
namespace Go.Proofs.YtfjfdlgcneclfaaDoor.V
open Go Go.Proofs.YtfjfdlgcneclfaaDoor.R Go.RowKit
open Go.Proofs.YtfjfdlgcneclfaaDoorW.PrintWords hiding mn mx
theorem cP_len (s : List UInt8) : (cP s).length ≤ s.length:=by
 unfold cP
 rw [List.length_map]
 exact (cutL_len s).2
theorem ix_ch {g : Int} (h0 : 0 ≤ g) (h3 : g ≤ 3) : ix (ch g) = g:=by
 have : g = 0 ∨ g = 1 ∨ g = 2 ∨ g = 3:=by omega
 rcases this with rfl|rfl|rfl|rfl <;> rfl
theorem sFormatAny (n : Nat) (l : List Int) (hl : l.length ≤ maxLen) : Ev (fun k => spec_FormatGrades.f k (n : Int) l) (B (fgT n l)):=by
 unfold fgT
 by_cases g : GV (n : Int) l
 ·rw [if_pos g];exact sFormat n l g
 ·rw [if_neg g]
  unfold spec_FormatGrades.f
  exact Ev.bind (sGV n l hl) (Ev_f (by rw [decide_eq_false g];simp) (Ev.now _))
theorem flat_rows (n : Nat) (l : List Int) : ∀ m,m ≤ n → l.length = n * n → ((List.range m).map fun i => rowk n l i n).flatten = (l.take (m * n)).map ch:=by
 intro m
 induction m with
 | zero => intro _ _;simp
 | succ m ih =>
  intro hm hl
  have h2 : (m + 1) * n = m * n + n:=Nat.succ_mul m n
  rw [List.range_succ,List.map_append,List.flatten_append,ih (by omega) hl,List.map_cons,List.map_nil,List.flatten_cons,List.flatten_nil,List.append_nil,← rowk_eq n l hl m (by omega),← List.map_append,h2]
  congr 1
  rw [List.drop_take,Nat.add_sub_cancel_left]
  exact (List.take_add ..).symm
theorem prI_own (n : Nat) (l : List Int) : prI (fgT n l) = if GV (n : Int) l then ((n : Int),l,true) else (0,[],false):=by
 by_cases g : GV (n : Int) l
 case neg =>
  have e : fgT n l = []:=by unfold fgT;rw [if_neg g]
  rw [e,if_neg g]
  unfold prI
  rw [if_neg (fun h => h.1 rfl)]
 have n1:=(GV_le g).2
 have hl:=GV_len g
 have e : fgT n l = TT n l n:=by unfold fgT;rw [if_pos g]
 have hrow : cutL (TT n l n) = (List.range n).map fun i => rowk n l i n:=by
  have hj:=rowsB_join n l n
  rw [rows_rowsB] at hj
  obtain ⟨x,r,hr⟩ : ∃ x r,(List.range n).map (fun i => rowk n l i n) = x :: r:=List.exists_cons_of_ne_nil (by simp;omega)
  have hno : ∀ y ∈ x :: r,∀ b ∈ y,b ≠ 47:=by
   intro y hy b hb
   rw [← hr] at hy
   obtain ⟨i,_,rfl⟩:=List.mem_map.1 hy
   obtain ⟨k,_,rfl⟩:=List.mem_map.1 hb
   exact ch_ne _
  rw [hr] at hj
  rw [← hj,join_cutL x r hno,hr]
 have hn : nP (TT n l n) = n:=by unfold nP;rw [hrow];simp
 have hc : cP (TT n l n) = l:=by
  unfold cP
  rw [hrow,flat_rows n l n (Nat.le_refl _) hl,List.take_of_length_le (by omega),List.map_map]
  have hid : ∀ x ∈ l,(ix ∘ ch) x = x:=fun x hx => ix_ch (g.1.2.2.2 x hx).1 (g.2 x hx)
  exact (List.map_congr_left (g:=id) hid).trans (List.map_id _)
 have hp:=TT_pos n n1 l
 rw [e,if_pos g]
 unfold prI
 rw [hn,hc,e,if_pos ⟨fun q => by rw [q] at hp;simp at hp,rfl⟩]
theorem PureFnGradesText (l0 : List Int) (l1 : List Int) (e0 : l0.length ≤ maxLen) (e1 : ∀ x ∈ l0,(Lit.int .u8 x).wf = true) (e2 : l0.length * 1 ≤ 140737488351232) (f0 : l1.length ≤ maxLen) (f1 : ∀ x ∈ l1,(Lit.int .u8 x).wf = true) (f2 : l1.length * 1 ≤ 140737488351232) : ∃ k,laws_FnGradesText.f k l0 l1 = some true:=by
 refine Ev.rounds (g:=fun k => laws_FnGradesText.f k l0 l1) (r:=true) ?_
 unfold laws_FnGradesText.f
 by_cases h0 : (l0.length : Int) > 1048576
 ·exact Ev_t h0 (Ev.now _)
 refine Ev_f h0 ?_
 by_cases h1 : (l1.length : Int) > 1048576
 ·exact Ev_t h1 (Ev.now _)
 refine Ev_f h1 ?_
 have ml : ∀ m,m ≤ 1048576 → m ≤ maxLen:=fun m h => by rw [maxLen_eq];omega
 obtain ⟨n,l,hl,hd⟩:=drawFormatGrades_r l0 (bytes_of e1)
 have fi:=iFormatAny n l (ml _ (by omega))
 have fs:=sFormatAny n l (ml _ (by omega))
 have gi:=iGV (n : Int) l (ml _ (by omega))
 have gs:=sGV (n : Int) l (ml _ (by omega))
 have tl : (fgT n l).length ≤ 25:=by
  unfold fgT
  by_cases g : GV (n : Int) l
  ·rw [if_pos g]
   have h4:=(GV_le g).1
   have:=TT_len n h4 l n
   omega
  ·rw [if_neg g];simp
 have pi:=iParse_ev (B (fgT n l)) (by rw [B_size];omega)
 have lb : L (B (fgT n l)) = fgT n l:=by unfold B;rw [L_mk]
 rw [lb,prI_own] at pi
 obtain ⟨x,hx,dx⟩:=drawParseGrades_r l1 (bytes_of f1)
 have xi:=iParse_ev x (by omega)
 have xs:=sParse_ev x (by omega)
 rw [← parse_same] at xs
 have cl:=cP_len (L x)
 rw [← L_size] at cl
 obtain ⟨⟨pn,pc,pb⟩,hr⟩ : ∃ r,prI (L x) = r:=⟨_,rfl⟩
 have pt : pb = true → ∃ m : Nat,pn = (m : Int) ∧ pc.length ≤ 1000 ∧ fgT m pc = L x:=fun hb => by
  unfold prI at hr
  by_cases q : L x ≠ [] ∧ fgT (nP (L x)) (cP (L x)) = L x
  ·rw [if_pos q] at hr
   simp only [Prod.mk.injEq] at hr
   obtain ⟨r1,r2,_⟩:=hr
   exact ⟨nP (L x),r1.symm,by rw [← r2];omega,by rw [← r2];exact q.2⟩
  ·rw [if_neg q] at hr
   simp only [Prod.mk.injEq] at hr
   rw [← hr.2.2] at hb
   cases hb
 have pl : pc.length ≤ 1000:=by
  unfold prI at hr
  by_cases q : L x ≠ [] ∧ fgT (nP (L x)) (cP (L x)) = L x
  ·rw [if_pos q] at hr
   simp only [Prod.mk.injEq] at hr
   rw [← hr.2.1];omega
  ·rw [if_neg q] at hr
   simp only [Prod.mk.injEq] at hr
   rw [← hr.2.1];simp
 rw [hr] at xi xs
 obtain ⟨⟨nn,ss,ff,tt⟩,gn,gc,⟨ls,lf,lt⟩,lc,dg⟩:=drawGradeBetween_r l1 (bytes_of f1)
 have ls : ss.length ≤ 1000:=ls
 have lf : ff.length ≤ 1000:=lf
 have lt : tt.length ≤ 1000:=lt
 have dg : Ev (fun k => spec_DrawGradeBetween.f k l1) (nn,ss,ff,tt,(gn : Int),gc):=dg
 have bi:=iGradeB nn ss ff tt (gn : Int) gc (by omega) (by omega) (by omega) (ml _ (by omega))
 have bs:=sGradeB nn ss ff tt (gn : Int) gc (by omega) (by omega) (by omega) (ml _ (by omega))
 have dm:=daMatrix_ev pn pc (by omega)
 refine Ev.bind hd (Ev.bind fi (Ev.bind pi (Ev.bind fs (Ev_t rfl (Ev.bind gi (Ev.bind gs (Ev_f (by simp) (Ev.bind gi ?_))))))))
 by_cases g : GV (n : Int) l
 ·rw [if_pos g]
  refine Ev_f (by rw [decide_eq_true g];simp) (Ev_t rfl (Ev.bind (daMatrix_ev (n : Int) l (by omega)) (Ev_t rfl (Ev.bind dx (Ev.bind xi (Ev.bind xs (Ev.bind dg (Ev.bind dm (Ev_t rfl (Ev_t (by simp) ?_))))))))))
  cases pb with
  | true =>
   obtain ⟨m,rfl,_,hf⟩:=pt rfl
   exact Ev_t rfl (Ev.bind (iFormatAny m pc (ml _ (by omega))) (Ev_t (by rw [toList_L,toList_L,← hf];unfold B;rw [L_mk]) (Ev.bind bi (Ev.bind bs ((Ev.now _).is (decide_eq_true rfl))))))
  | false => exact Ev_f (by simp) (Ev.bind bi (Ev.bind bs ((Ev.now _).is (decide_eq_true rfl))))
 ·rw [if_neg g]
  refine Ev_f (by rw [decide_eq_false g];simp) (Ev_f (by simp) (Ev.bind dx (Ev.bind xi (Ev.bind xs (Ev.bind dg (Ev.bind dm (Ev_t rfl (Ev_t (by simp) ?_))))))))
  cases pb with
  | true =>
   obtain ⟨m,rfl,_,hf⟩:=pt rfl
   exact Ev_t rfl (Ev.bind (iFormatAny m pc (ml _ (by omega))) (Ev_t (by rw [toList_L,toList_L,← hf];unfold B;rw [L_mk]) (Ev.bind bi (Ev.bind bs ((Ev.now _).is (decide_eq_true rfl))))))
  | false => exact Ev_f (by simp) (Ev.bind bi (Ev.bind bs ((Ev.now _).is (decide_eq_true rfl))))
end Go.Proofs.YtfjfdlgcneclfaaDoor.V
end
