import Derived.Test.YtfgoojnblomonaaGreatQFnGrowth2
import Derived.Test.YtfgoojnblomonaaGreatQFnGrowth4
import Derived.Deep.Slices
import Derived.Deep.Fields
import Derived.ChangeSame
import Derived.ChangeSlices
import Derived.Lib.SmallJoins
import Derived.WalkKit
import Derived.ProofKit
import Derived.OpenShut
import Derived.ShutString
import Derived.ChangeOld
import Derived.Below
import Derived.Test.YtfgoojnblomonaaGreatQFnGrowth3
import Derived.Test.YtfgoojnblomonaaGreatQFnGrowth6
import Derived.Lib.Bytealg
import Derived.Lib.Repeat
section
namespace Go.Proofs.YtfgoojnblomonaaGreat.V
open Go Go.Proofs.YtfgoojnblomonaaGreat.R Go.RowKit Go.Proofs.YtfgoojnblomonaaGreat.X Go.ChangeShapes Go.WideShapes Go.Deep Go.Proofs.YtfgoojnblomonaaGreatW.PrintWords Go.Proofs.YtfgoojnblomonaaGreatW.PrintLast Go.Proofs.YtfgoojnblomonaaGreatW.PrintMore
set_option linter.unusedVariables false
open Go.ChangeShapes Go.WideShapes Go.Deep
theorem field_ints {H : Type} {enc : TypeId × Value → H} {P : Program} {w : World} {base : Nat} {spare : Nat → Bool} {held : Bool} {t e : TypeId} {k : IntKind} {fuel : Nat} {v : Value} {x : DataW H × List MemPlace}
  (ht : P.underlying t = some (.slice e)) (he : P.underlying e = some (.int k)) (hc : P.cellsOf e = 1) (h : DataW.trod enc P w base spare held fuel t [v] = some x) :
  ∃ (A : Option Addr) (c : Nat) (l : List Int),v = .slice A l.length c ∧ Kd.C (Kd.int k) w A l.length l ∧ l.length ≤ c ∧ l.length ≤ maxLen ∧ ∀ n ∈ l,(Lit.int k n).wf = true:=by
 rcases open_ints ht he hc h with ⟨hcs,_⟩ | ⟨a,len,cap,zs,hcs,_,hl,hm,hz,_,hcell,hwf⟩
 ·simp at hcs
  obtain ⟨l,h1,h2,h3,h4,h5⟩:=ReadsInt.ofRowC (k:=k) (w:=w) (a:=none) (len:=0) (cap:=0) (zs:=[]) (.inl ⟨rfl,rfl,rfl,rfl⟩)
  exact ⟨none,0,l,by rw [hcs,← h1],Kd.C_of_reads (d:=(0 : Int)) (h1:=fun _ => rfl) h2,h5,h3,h4⟩
 ·simp at hcs
  have hr : ∃ l : List Int,len = l.length ∧ ReadsInt w k (some a) l.length l ∧ l.length ≤ maxLen ∧ (∀ x ∈ l,(Lit.int k x).wf = true):=by
   refine ⟨zs.take len,?_,?_,?_,fun x hx => hwf x (List.mem_of_mem_take hx)⟩
   ·rw [List.length_take,hz];split <;> omega
   ·have hlen : (zs.take len).length = len:=by rw [List.length_take,hz];split <;> omega
    refine ⟨rfl,by rw [hlen];exact Nat.le_trans hl hm,fun hn => ⟨a,rfl,fun j hj => ?_⟩⟩
    rw [hlen] at hj
    have hj2 : j < zs.length:=by rw [hz];split <;> omega
    rw [hcell j hj2]
    simp [List.getD_eq_getElem?_getD,hj]
   ·rw [List.length_take];exact Nat.le_trans (Nat.min_le_left _ _) (Nat.le_trans hl hm)
  obtain ⟨l,h1,h2,h3,h4⟩:=hr
  exact ⟨some a,cap,l,by rw [hcs,← h1],Kd.C_of_reads (d:=(0 : Int)) (h1:=fun _ => rfl) h2,by omega,h3,h4⟩
open Go.ChangeShapes Go.WideShapes Go.Deep
end Go.Proofs.YtfgoojnblomonaaGreat.V
end
section
namespace Go.Proofs.YtfgoojnblomonaaGreat.V
open Go Go.Proofs.YtfgoojnblomonaaGreat.R Go.RowKit Go.Proofs.YtfgoojnblomonaaGreat.X Go.ChangeShapes Go.WideShapes Go.Deep Go.Proofs.YtfgoojnblomonaaGreatW.PrintWords Go.Proofs.YtfgoojnblomonaaGreatW.PrintLast Go.Proofs.YtfgoojnblomonaaGreatW.PrintMore
set_option linter.unusedVariables false
set_option maxRecDepth 100000 in
theorem row_bytes {H : Type} {enc : TypeId × Value → H} {w : World} {base b0 : Nat} {r : Reach} {spare : Nat → Bool} {held : Bool} {v : Value} {d : DataW H} {p : List MemPlace}
  (hv : Value.okWide Tryz.prog w r b0 22 v) (h : DataW.Trod enc Tryz.prog w base spare held 22 v d p) :
  ∃ (A : Option Addr) (c : Nat) (l : List Int),v = .slice A l.length c ∧ Kd.C (Kd.int .u8) w A l.length l ∧ l.length ≤ c ∧ l.length ≤ maxLen ∧ ∀ x ∈ l,(Lit.int .u8 x).wf = true:=by
 obtain ⟨a0,len0,cap0,rfl⟩:=okWide_slice Tryz.underlying22 hv
 obtain ⟨fuel,hf⟩:=h
 exact field_ints Tryz.underlying22 Tryz.underlying5 (by kernel_rfl) (by simpa [Value.cells] using hf)
theorem ints_of_u8 {w : World} {A : Option Addr} {l : List Int} (h : Kd.C (Kd.int .u8) w A l.length l) : 0 < l.length → ∃ ad,A = some ad ∧ ∀ (i : Nat) (x : Int),l[i]? = some x → w.cell? (ad.add i) = some (.int .u8 x):=fun hp => by
 obtain ⟨ad,e,hh⟩:=h.2.2 hp
 refine ⟨ad,e,fun i x hx => ?_⟩
 obtain ⟨c,_,hk,hc⟩:=hh i x hx
 have hk : c = [Value.int .u8 x]:=hk
 subst hk
 have:=hc 0 _ rfl
 rw [show (Kd.int IntKind.u8).sz = 1 from rfl,Nat.mul_one,Nat.add_zero] at this
 exact this
end Go.Proofs.YtfgoojnblomonaaGreat.V
end
section
set_option linter.unusedVariables false
set_option linter.unusedSimpArgs false
namespace Go.Proofs.YtfgoojnblomonaaGreat.V
open Go Go.Proofs.YtfgoojnblomonaaGreat.R Go.RowKit
open Go.Proofs.YtfgoojnblomonaaGreatW.PrintWords hiding mn mx
def L (s : ByteArray) : List UInt8:=s.data.toList
theorem L_size (s : ByteArray) : s.size = (L s).length:=by simp [L]
theorem L_mk (l : List UInt8) : L ⟨l.toArray⟩ = l:=by simp [L]
theorem L_inj {s t : ByteArray} (h : L s = L t) : s = t:=by
 cases s;cases t;simp [L] at h;subst h;rfl
theorem toList_L (s : ByteArray) : s.toList = L s:=ByteArray.toList_eq s
theorem L_extract (s : ByteArray) (a b : Nat) : L (s.extract a b) = ((L s).take b).drop a:=by
 simp [L,ByteArray.data_extract,Array.toList_extract,List.extract,List.drop_take]
theorem L_append (s t : ByteArray) : L (s ++ t) = L s ++ L t:=by simp [L,ByteArray.data_append]
theorem L_nil {s : ByteArray} : s.toList = ([] : List UInt8) ↔ L s = []:=by rw [toList_L]
theorem bt_L (s : ByteArray) (i : Int) : btI s i = (((L s).getD i.toNat 0).toNat : Int):=by
 unfold btI L
 split
 ·next h =>
  have h' : i.toNat < s.data.toList.length:=by simpa using h
  rw [List.getD_eq_getElem?_getD,List.getElem?_eq_getElem h']
  simp;rfl
 ·next h =>
  have h' : s.data.toList.length ≤ i.toNat:=by simpa using h
  rw [List.getD_eq_getElem?_getD,List.getElem?_eq_none h'];rfl
theorem w64 {x : Int} (h0 : -9223372036854775808 ≤ x) (h1 : x ≤ 9223372036854775807) : wrap64 x = x:=by unfold wrap64;omega
theorem _root_.Go.Proofs.YtfgoojnblomonaaGreatW.PrintWords.Ev.is {α : Type} {g : Nat → Option α} {r r' : α} (h : Ev g r) (e : r = r') : Ev g r':=e ▸ h
theorem bt_suffix {s : ByteArray} {u : List UInt8} {c : UInt8} {e : List UInt8} (h : L s = u ++ c :: e) : btI s u.length = (c.toNat : Int):=by
 rw [bt_L,h];simp [List.getD_eq_getElem?_getD]
theorem size_suffix {s : ByteArray} {u e : List UInt8} (h : L s = u ++ e) : s.size = u.length + e.length:=by rw [L_size,h];simp
theorem u8_ne {c d : UInt8} (h : c ≠ d) : ¬ ((c.toNat : Int) = (d.toNat : Int)):=by
 intro e;exact h (UInt8.toNat.inj (by exact_mod_cast e))
def B (l : List UInt8) : ByteArray:=⟨l.toArray⟩
theorem B_add (a b : List UInt8) : B a ++ B b = B (a ++ b):=L_inj (by rw [L_append];unfold B;rw [L_mk,L_mk,L_mk])
theorem B_size (a : List UInt8) : (B a).size = a.length:=by rw [L_size];unfold B;rw [L_mk]
theorem B_toList (a : List UInt8) : (B a).data.toList = a:=by unfold B;simp
theorem B_L (x : ByteArray) : B (L x) = x:=L_inj (by unfold B;rw [L_mk])
def wOk (c : UInt8) : Bool:=c == 97 || c == 98
def wordB (l : List UInt8) : Bool:=l.all wOk && decide (l.length ≤ 1000)
theorem iWord_loop (s : ByteArray) (hn : s.size ≤ 4000000) : ∀ (e u : List UInt8),L s = u ++ e → Ev (fun k => impl_WordValid.l0 k s s.size u.length) (e.all wOk && decide (s.size ≤ 1000)):=by
 intro e
 induction e with
 | nil =>
  intro u h
  have hz:=size_suffix h
  simp only [List.length_nil] at hz
  refine Ev.step (f:=fun _ => some (decide (s.size ≤ 1000))) (fun k => ?_) ((Ev.now _).is (by simp))
  simp only [impl_WordValid.l0]
  rw [if_neg (by omega)]
  congr 1
  exact decide_eq_decide.mpr (by omega)
 | cons c e ih =>
  intro u h
  have hz:=size_suffix h
  simp only [List.length_cons] at hz
  have hbt:=bt_suffix h
  have hl : (u.length : Int) + 1 = (((u ++ [c]).length : Nat) : Int):=by simp
  have h2:=ih (u ++ [c]) (by rw [h];simp)
  by_cases h97 : c = 97
  ·subst h97
   refine Ev.step (fun k => ?_) (h2.is (by rfl))
   simp only [impl_WordValid.l0]
   rw [if_pos (by omega),if_pos (by omega),if_pos (by omega),hbt,if_pos (show (((97 : UInt8).toNat : Nat) : Int) = 97 from rfl),w64 (x:=(u.length : Int) + 1) (by omega) (by omega),hl]
  ·by_cases h98 : c = 98
   ·subst h98
    refine Ev.step (fun k => ?_) (h2.is (by rfl))
    simp only [impl_WordValid.l0]
    rw [if_pos (by omega),if_pos (by omega),if_pos (by omega),hbt,if_neg (by decide),if_pos (show (((98 : UInt8).toNat : Nat) : Int) = 98 from rfl),w64 (x:=(u.length : Int) + 1) (by omega) (by omega),hl]
   ·have hw : wOk c = false:=by unfold wOk;simp [h97,h98]
    refine Ev.step (f:=fun _ => some false) (fun k => ?_) ((Ev.now _).is (by simp [hw]))
    simp only [impl_WordValid.l0]
    rw [if_pos (by omega),if_pos (by omega),if_pos (by omega),hbt,if_neg (show ¬ ((c.toNat : Int) = 97) from u8_ne h97),if_neg (show ¬ ((c.toNat : Int) = 98) from u8_ne h98)]
theorem iWord_ev (s : ByteArray) (hn : s.size ≤ 4000000) : Ev (fun k => impl_WordValid.f k s) (wordB (L s)):=by
 have h:=iWord_loop s hn (L s) [] rfl
 unfold impl_WordValid.f wordB
 rw [← L_size]
 exact h
theorem rd_mid (pre : List Int) (x : Int) (t : List Int) : rdI (pre ++ x :: t) (pre.length : Int) = x:=by simp [rdI,List.getD_eq_getElem?_getD]
theorem rd_nat (l : List Int) (i : Nat) : rdI l (i : Int) = l.getD i 0:=by simp [rdI]
theorem snoc_len (pre : List Int) (x : Int) : (((pre ++ [x]).length : Nat) : Int) = (pre.length : Int) + 1:=by simp
theorem wf_in {n : Int} (h : (Lit.int .i64 n).wf = true) : -9223372036854775808 ≤ n ∧ n ≤ 9223372036854775807:=by
 have hmin : IntKind.i64.min = -9223372036854775808:=rfl
 have hmax : IntKind.i64.max = 9223372036854775807:=rfl
 simp only [Lit.wf,Bool.and_eq_true,decide_eq_true_eq] at h
 omega
theorem maxLen_eq : maxLen = 9223372036854775807:=rfl
theorem ev_all {α : Type} {f : Nat → Nat → Option α} {g : Nat → α} (n : Nat) (h : ∀ i,i < n → Ev (f i) (g i)) : ∃ K0,∀ K,K0 ≤ K → ∀ i,i < n → f i K = some (g i):=by
 induction n with
 | zero => exact ⟨0,fun _ _ i hi => by omega⟩
 | succ n ih =>
  obtain ⟨K0,h0⟩:=ih (fun i hi => h i (by omega))
  obtain ⟨K1,h1⟩:=h n (by omega)
  refine ⟨max K0 K1,fun K hK i hi => ?_⟩
  by_cases e : i = n
  ·subst e;exact h1 K (by omega)
  ·exact h0 K (by omega) i (by omega)
theorem ev_up {α : Type} {f : Nat → Option α} {p : Nat → Nat → Option α} {r : α} (h : Ev f r) (hp : ∃ K0,∀ K,K0 ≤ K → ∀ j,LeO (f j) (p K (j + 1))) (hm : ∀ K j,LeO (p K j) (p K (j + 1))) : Ev (fun K => p K K) r:=by
 obtain ⟨K1,h1⟩:=h
 obtain ⟨K0,h0⟩:=hp
 refine ⟨max K0 (K1 + 1),fun K hK => ?_⟩
 have a:=h0 K (by omega) K1 r (h1 K1 (Nat.le_refl _))
 exact at_rounds (g:=p K) (hm K) (show K1 + 1 ≤ K by omega) a
theorem ev_some {α : Type} {f : Nat → Option α} {r : α} (h : ∀ k,f k = some r) : Ev f r:=⟨0,fun k _ => h k⟩
theorem up_loop {β : Type} (n : Nat) (L : Nat → Nat → Option β) (r : β) (step : ∀ i,i < n → Ev (L (i + 1)) r → Ev (L i) r) (h : Ev (L n) r) : Ev (L 0) r:=by
 have go : ∀ d,d ≤ n → Ev (L (n - d)) r:=by
  intro d
  induction d with
  | zero => intro _;exact h
  | succ d ih =>
   intro hd
   have e : n - (d + 1) + 1 = n - d:=by omega
   exact step (n - (d + 1)) (by omega) (by rw [e];exact ih (by omega))
 have:=go n (Nat.le_refl _)
 rwa [Nat.sub_self] at this
def tab (N : Nat) (F : Nat → Int) : List Int:=(List.range N).map F
theorem tab_length (N : Nat) (F : Nat → Int) : (tab N F).length = N:=by simp [tab]
theorem tab_snoc (N : Nat) (F : Nat → Int) : tab N F ++ [F N] = tab (N + 1) F:=by simp [tab,List.range_succ]
theorem tab_get (N : Nat) (F : Nat → Int) (j : Nat) (h : j < N) : (tab N F).getD j 0 = F j:=by
 simp [tab,List.getD_eq_getElem?_getD,List.getElem?_map,List.getElem?_range h]
theorem tab_congr (N : Nat) (F G : Nat → Int) (h : ∀ j,j < N → F j = G j) : tab N F = tab N G:=by
 unfold tab
 exact List.map_congr_left (fun j hj => h j (List.mem_range.mp hj))
theorem mem_tab {N : Nat} {F : Nat → Int} {x : Int} : x ∈ tab N F ↔ ∃ j,j < N ∧ F j = x:=by simp [tab]
theorem eq_tab (l : List Int) (N : Nat) (h : l.length = N) : l = tab N (fun j => l.getD j 0):=by
 apply List.ext_getElem
 ·simp [tab,h]
 ·intro i h1 h2
  simp [tab,List.getD_eq_getElem?_getD,List.getElem?_eq_getElem h1]
theorem fold_snoc {β : Type} (n : Nat) (f : β → Nat → β) (b : β) : (List.range (n + 1)).foldl f b = f ((List.range n).foldl f b) n:=by simp [List.range_succ]
theorem Ev_t {α : Type} {f g : Nat → Option α} {r : α} {c : Prop} [Decidable c] (h : c) (k : Ev f r) : Ev (fun n => if c then f n else g n) r:=Ev.congr (fun n => if_pos h) k
theorem Ev_f {α : Type} {f g : Nat → Option α} {r : α} {c : Prop} [Decidable c] (h : ¬ c) (k : Ev g r) : Ev (fun n => if c then f n else g n) r:=Ev.congr (fun n => if_neg h) k
def okCost (x : Int) : Bool:=decide (0 ≤ x ∧ x ≤ 1000000)
def MV (n : Int) (l : List Int) : Prop:=1 ≤ n ∧ n ≤ 4 ∧ (l.length : Int) = n * n ∧ ∀ x ∈ l,0 ≤ x ∧ x ≤ 1000000
def GV (n : Int) (l : List Int) : Prop:=MV n l ∧ ∀ x ∈ l,x ≤ 3
instance (n : Int) (l : List Int) : Decidable (MV n l):=by unfold MV;infer_instance
instance (n : Int) (l : List Int) : Decidable (GV n l):=by unfold GV;infer_instance
theorem icost (a : Int) : impl_CostValid.f a = some (okCost a):=by
 unfold impl_CostValid.f okCost
 by_cases h : a ≥ 0
 ·rw [if_pos h];by_cases h2 : a ≤ 1000000 <;> simp [h2] <;> omega
 ·rw [if_neg h];simp;omega
theorem sIn (a lo hi : Int) : spec_l1In.f a lo hi = some (decide (lo ≤ a ∧ a ≤ hi)):=by
 unfold spec_l1In.f
 by_cases h : a ≥ lo
 ·rw [if_pos h];by_cases h2 : a ≤ hi <;> simp [h2] <;> omega
 ·rw [if_neg h];simp;omega
theorem indexG {α : Type} (rdA : List α → Int → α) (hrd : ∀ (pre : List α) (x : α) (t : List α),rdA (pre ++ x :: t) (pre.length : Int) = x) (q : α → Bool) (p : Nat → α → Option Bool) (l : List α) (hp : ∀ x ∈ l,Ev (fun k => p k x) (q x)) (L0 : Nat → List α → Int → Int → Option Int)
  (hL : ∀ k x0 x7 x8,L0 (k + 1) x0 x7 x8 = if x8 < x7 then (if 0 ≤ x8 then (if x8 < (x0.length : Int) then ((p k (rdA x0 x8)).bind fun t1 => if t1 = true then some x8 else L0 k x0 x7 (wrap64 (x8 + 1))) else none) else none) else some (-1)) (h : l.length ≤ 9223372036854775807) :
  Ev (fun k => (L0 k l (l.length : Int) 0).bind fun t1 => some (decide (t1 ≥ 0))) (l.any q):=by
 have go : ∀ (t pre : List α),l = pre ++ t → ∃ z : Int,Ev (fun k => L0 k l (l.length : Int) (pre.length : Int)) z ∧ decide (z ≥ 0) = t.any q:=by
  intro t
  induction t with
  | nil =>
   intro pre hl
   refine ⟨-1,?_,rfl⟩
   refine Ev.step (f:=fun _ => some (-1)) (fun k => ?_) (Ev.now _)
   rw [hL,if_neg (by rw [hl];simp)]
  | cons x t ih =>
   intro pre hl
   have hlen : l.length = pre.length + (t.length + 1):=by rw [hl];simp
   have hx : rdA l (pre.length : Int) = x:=by rw [hl,hrd]
   have hpx:=hp x (by rw [hl];simp)
   have a0 : (pre.length : Int) < (l.length : Int):=by omega
   cases hq : q x with
   | true =>
    rw [hq] at hpx
    refine ⟨pre.length,?_,by simp [hq]⟩
    refine Ev.step (f:=fun k => (p k x).bind fun t1 => if t1 = true then some (pre.length : Int) else L0 k l (l.length : Int) (wrap64 ((pre.length : Int) + 1))) (fun k => ?_) (Ev.bind hpx (Ev.congr (f:=fun _ => some (pre.length : Int)) (fun k => if_pos rfl) (Ev.now _)))
    rw [hL,if_pos a0,if_pos (Int.natCast_nonneg _),if_pos a0,hx]
   | false =>
    rw [hq] at hpx
    obtain ⟨z,hz,hd⟩:=ih (pre ++ [x]) (by simp [hl])
    refine ⟨z,?_,by simp [hq,hd]⟩
    have e : (((pre ++ [x]).length : Nat) : Int) = wrap64 ((pre.length : Int) + 1):=by rw [w64 (by omega) (by omega)];simp
    rw [e] at hz
    refine Ev.step (f:=fun k => (p k x).bind fun t1 => if t1 = true then some (pre.length : Int) else L0 k l (l.length : Int) (wrap64 ((pre.length : Int) + 1))) (fun k => ?_) (Ev.bind hpx (Ev.congr (fun k => if_neg (by simp)) hz))
    rw [hL,if_pos a0,if_pos (Int.natCast_nonneg _),if_pos a0,hx]
 obtain ⟨z,hz,hd⟩:=go l [] rfl
 exact Ev.bind hz ((Ev.now _).is hd)
theorem index_mv (l : List Int) (h : l.length ≤ maxLen) : Ev (fun k => slices_ContainsFunc_int_int.f k l) (l.any fun x => !(okCost x)):=by
 rw [maxLen_eq] at h
 unfold slices_ContainsFunc_int_int.f slices_IndexFunc_int_int.f
 exact indexG rdI rd_mid (fun x => !(okCost x)) (fun _ x => impl_MatrixValid_1.f x) l (fun x _ => ev_some (fun _ => by unfold impl_MatrixValid_1.f;rw [icost,Option.bind_some,Bool.decide_eq_true])) (fun k a b c => slices_IndexFunc_int_int.l0 k a b c) (fun k a b c => by simp only [slices_IndexFunc_int_int.l0]) h
theorem index_gv (l : List Int) (h : l.length ≤ maxLen) : Ev (fun k => slices_ContainsFunc_int_int_b.f k l) (l.any fun x => decide (x > 3)):=by
 rw [maxLen_eq] at h
 unfold slices_ContainsFunc_int_int_b.f slices_IndexFunc_int_int_b.f
 exact indexG rdI rd_mid (fun x => decide (x > 3)) (fun _ x => impl_GradesValid_1.f x) l (fun x _ => ev_some (fun _ => rfl)) (fun k a b c => slices_IndexFunc_int_int_b.l0 k a b c) (fun k a b c => by simp only [slices_IndexFunc_int_int_b.l0]) h
theorem iMV (n : Int) (l : List Int) (hl : l.length ≤ maxLen) : Ev (fun k => impl_MatrixValid.f k n l) (decide (MV n l)):=by
 have no : ∀ f : Nat → Option Bool,(∀ k,f k = some false) → ¬ MV n l → Ev f (decide (MV n l)):=fun f h h2 => (ev_some h).is (by rw [decide_eq_false h2])
 by_cases h1 : n < 1
 ·exact no _ (fun k => by unfold impl_MatrixValid.f;rw [if_pos h1]) (fun h => by unfold MV at h;omega)
 by_cases h2 : n > 4
 ·exact no _ (fun k => by unfold impl_MatrixValid.f;rw [if_neg h1,if_pos h2]) (fun h => by unfold MV at h;omega)
 have hnn : 0 ≤ n * n ∧ n * n ≤ 16:=by
  have : n = 1 ∨ n = 2 ∨ n = 3 ∨ n = 4:=by omega
  rcases this with rfl|rfl|rfl|rfl <;> omega
 by_cases h3 : (l.length : Int) = wrap64 (n * n)
 ·rw [w64 (by omega) (by omega)] at h3
  refine Ev.congr (f:=?f1) (fun k => ?h1) ?k1
  case h1 => unfold impl_MatrixValid.f;rw [if_neg h1,if_neg h2,w64 (x:=n * n) (by omega) (by omega),if_pos h3] <;> exact rfl
  refine Ev.bind (index_mv l hl) ?_
  refine (ev_some (fun k => rfl)).is ?_
  rw [Bool.decide_eq_true]
  rw [Bool.eq_iff_iff]
  simp only [Bool.not_eq_true',List.any_eq_false,Bool.not_eq_true',Bool.not_eq_false,decide_eq_true_eq]
  constructor
  ·intro h;exact ⟨by omega,by omega,h3,fun x hx => by simpa [okCost] using h x hx⟩
  ·intro h x hx;simpa [okCost] using h.2.2.2 x hx
 ·refine no _ (fun k => by unfold impl_MatrixValid.f;rw [if_neg h1,if_neg h2,if_neg h3]) (fun h => ?_)
  rw [w64 (by omega) (by omega)] at h3
  exact h3 h.2.2.1
theorem iGV (n : Int) (l : List Int) (hl : l.length ≤ maxLen) : Ev (fun k => impl_GradesValid.f k n l) (decide (GV n l)):=by
 unfold impl_GradesValid.f
 refine Ev.bind (iMV n l hl) ?_
 by_cases h : MV n l
 ·refine Ev_t (decide_eq_true h) (Ev.bind (index_gv l hl) ((Ev.now _).is ?_))
  rw [Bool.decide_eq_true,Bool.eq_iff_iff]
  simp only [Bool.not_eq_true',List.any_eq_false,decide_eq_true_eq]
  exact ⟨fun g => ⟨h,fun x hx => by have:=g x hx;omega⟩,fun g x hx => by have:=g.2 x hx;omega⟩
 ·exact Ev_f (by rw [decide_eq_false h];simp) ((Ev.now _).is (by rw [decide_eq_false (fun g : GV n l => h g.1)]))
theorem div_mod_at (n i k : Nat) (hk : k < n) : (i * n + k) / n = i ∧ (i * n + k) % n = k:=by
 have hn : 0 < n:=by omega
 constructor
 ·rw [Nat.mul_comm,Nat.mul_add_div hn,Nat.div_eq_of_lt hk,Nat.add_zero]
 ·rw [Nat.mul_comm,Nat.mul_add_mod,Nat.mod_eq_of_lt hk]
theorem cell_lt (n i k : Nat) (hi : i < n) (hk : k < n) : i * n + k < n * n:=by
 have : (i + 1) * n ≤ n * n:=Nat.mul_le_mul_right n hi
 rw [Nat.succ_mul] at this
 omega
theorem sq_le (n : Nat) (h : n ≤ 4) : n * n ≤ 16:=by
 have:=Nat.mul_le_mul h h
 omega
theorem row_le (n i : Nat) (hn : n ≤ 4) (hi : i ≤ n) : i * n ≤ 16:=by
 have:=Nat.mul_le_mul (Nat.le_trans hi hn) hn
 omega
def cutF (n : Nat) (g : Nat → Nat → Int) : Int → Int → Option Int:=fun i k => if 0 ≤ i ∧ i < n ∧ 0 ≤ k ∧ k < n then some (g i.toNat k.toNat) else none
theorem cutF_at (n : Nat) (g : Nat → Nat → Int) (i k : Nat) (hi : i < n) (hk : k < n) : cutF n g (i : Int) (k : Int) = some (g i k):=by
 unfold cutF;rw [if_pos (by omega)];simp
def sqL (n : Nat) (g : Nat → Nat → Int) : List Int:=tab (n * n) (fun m => g (m / n) (m % n))
theorem sqL_get (n : Nat) (g : Nat → Nat → Int) (i k : Nat) (hi : i < n) (hk : k < n) : (sqL n g).getD (i * n + k) 0 = g i k:=by
 unfold sqL
 rw [tab_get _ _ _ (cell_lt n i k hi hk)]
 obtain ⟨h1,h2⟩:=div_mod_at n i k hk
 rw [h1,h2]
theorem sqL_congr (n : Nat) (g h : Nat → Nat → Int) (e : ∀ i k,i < n → k < n → g i k = h i k) : sqL n g = sqL n h:=by
 refine tab_congr _ _ _ (fun j hj => e _ _ (Nat.div_lt_of_lt_mul hj) (Nat.mod_lt _ ?_))
 rcases n with _|n
 ·simp at hj
 ·omega
theorem eq_sqL (n : Nat) (l : List Int) (h : l.length = n * n) : l = sqL n (fun i k => l.getD (i * n + k) 0):=by
 refine (eq_tab l _ h).trans (tab_congr _ _ _ (fun j _ => ?_))
 show l.getD j 0 = l.getD (j / n * n + j % n) 0
 rw [Nat.mul_comm,Nat.div_add_mod]
theorem filledG (n : Nat) (hn : n ≤ 4) (g : Nat → Nat → Int) (c : Nat → Int → Int → Option Int) (hc : ∀ i,i < n → ∀ k,k < n → Ev (fun K => c K (i : Int) (k : Int)) (g i k)) (L0 : Nat → Int → Int → Int → Int → List Int → Option (Int × List Int)) (L1 : Nat → Int → Int → Int → Int → Int → Int → Int → List Int → Option (Int × List Int))
  (h0 : ∀ k x0 x10 x11 y z,L0 (k + 1) x0 x10 x11 y z = if x11 < x10 then L1 k x0 x11 x10 x11 x0 0 y z else some (y,z))
  (h1 : ∀ k x0 x6 x10 x11 x14 x15 y z,L1 (k + 1) x0 x6 x10 x11 x14 x15 y z = if x15 < x14 then ((c k x6 x15).bind fun t1 => if z.length < 17592186044416 then L1 k x0 x6 x10 x11 x14 (wrap64 (x15 + 1)) y (z ++ [t1]) else none) else L0 k x0 x10 (wrap64 (x11 + 1)) y z) :
  Ev (fun k => L0 k (n : Int) (n : Int) 0 (n : Int) []) ((n : Int),sqL n g):=by
 have inner : ∀ (i : Nat) (r : Int × List Int),i < n → Ev (fun j => L0 j n n ((i + 1 : Nat) : Int) n (tab ((i + 1) * n) (fun m => g (m / n) (m % n)))) r →
   Ev (fun j => L0 j n n (i : Int) n (tab (i * n) (fun m => g (m / n) (m % n)))) r:=by
  intro i r hi h
  refine Ev.step (f:=fun j => L1 j n i n i n ((0 : Nat) : Int) n (tab (i * n + 0) (fun m => g (m / n) (m % n)))) (fun k => ?_) ?_
  ·rw [h0,if_pos (by omega)];rfl
  refine up_loop n (fun k j => L1 j n i n i n (k : Int) n (tab (i * n + k) (fun m => g (m / n) (m % n)))) r (fun k hk hs => ?_) ?_
  ·have hr:=row_le n i hn (by omega)
   obtain ⟨d1,d2⟩:=div_mod_at n i k hk
   have e : tab (i * n + k) (fun m => g (m / n) (m % n)) ++ [g i k] = tab (i * n + (k + 1)) (fun m => g (m / n) (m % n)):=by
    rw [← Nat.add_assoc,← tab_snoc,d1,d2]
   have b0 : (tab (i * n + k) (fun m => g (m / n) (m % n))).length < 17592186044416:=by rw [tab_length];omega
   have a0 : (k : Int) < (n : Int):=by omega
   have wk : wrap64 ((k : Int) + 1) = ((k + 1 : Nat) : Int):=by rw [w64 (by omega) (by omega)];rfl
   refine Ev.step (f:=fun j => (c j (i : Int) (k : Int)).bind fun t1 => if (tab (i * n + k) (fun m => g (m / n) (m % n))).length < 17592186044416 then L1 j n i n i n (wrap64 ((k : Int) + 1)) n (tab (i * n + k) (fun m => g (m / n) (m % n)) ++ [t1]) else none) (fun j => ?_) (Ev.bind (hc i hi k hk) (Ev_t b0 ?_))
   ·rw [h1,if_pos a0]
   ·rw [wk,e];exact hs
  ·refine Ev.step (fun j => ?_) h
   rw [h1,if_neg (by omega),w64 (by omega) (by omega),Nat.succ_mul];rfl
 refine Ev.congr (f:=fun j => L0 j n n ((0 : Nat) : Int) n (tab (0 * n) (fun m => g (m / n) (m % n)))) (fun k => ?_) ?_
 ·simp [tab]
 refine up_loop n (fun i j => L0 j n n (i : Int) n (tab (i * n) (fun m => g (m / n) (m % n)))) _ (fun i hi hs => inner i _ hi hs) ?_
 refine Ev.step (f:=fun _ => some ((n : Int),sqL n g)) (fun j => ?_) (Ev.now _)
 rw [h0,if_neg (by omega)];rfl
theorem at_eq (n : Nat) (hn : n ≤ 4) (l : List Int) (hl : l.length = n * n) (i k : Nat) (hi : i < n) (hk : k < n) : impl_Matrix_at.f (n : Int) l (i : Int) (k : Int) = some (l.getD (i * n + k) 0):=by
 have hc:=cell_lt n i k hi hk
 have hr:=row_le n i hn (by omega)
 have e : wrap64 (wrap64 ((i : Int) * (n : Int)) + k) = ((i * n + k : Nat) : Int):=by
  have : (i : Int) * (n : Int) = ((i * n : Nat) : Int):=by simp
  rw [this,w64 (x:=((i * n : Nat) : Int)) (by omega) (by omega),w64 (by omega) (by omega)];simp
 unfold impl_Matrix_at.f
 rw [e,if_pos (by omega),if_pos (by omega),rd_nat]
theorem tdiv_nat (m n : Nat) : Int.tdiv (m : Int) (n : Int) = ((m / n : Nat) : Int):=by rw [Int.tdiv_eq_ediv_of_nonneg (by omega)];simp
theorem tmod_nat (m n : Nat) : Int.tmod (m : Int) (n : Int) = ((m % n : Nat) : Int):=by rw [Int.tmod_eq_emod_of_nonneg (by omega)];simp
theorem idx1 (n m l : Nat) (hn : n ≤ 4) (hi : m / n < n) (hl : l < n) : wrap64 (wrap64 (wrap64 (Int.tdiv (m : Int) (n : Int)) * (n : Int)) + l) = ((m / n * n + l : Nat) : Int):=by
 have r1:=row_le n (m / n) hn (by omega)
 rw [tdiv_nat]
 obtain ⟨q,hq⟩ : ∃ q : Nat,m / n = q:=⟨_,rfl⟩
 rw [hq] at hi r1 ⊢
 have h1 : ((q : Nat) : Int) * (n : Int) = ((q * n : Nat) : Int):=by simp
 obtain ⟨s,hs⟩ : ∃ s : Nat,q * n = s:=⟨_,rfl⟩
 rw [w64 (x:=((q : Nat) : Int)) (by omega) (by omega),h1]
 rw [hs] at r1 ⊢
 clear h1 hs hq
 rw [w64 (x:=((s : Nat) : Int)) (by omega) (by omega),w64 (by omega) (by omega)];simp
theorem idx2 (n m l : Nat) (hn : n ≤ 4) (hk : m % n < n) (hl : l < n) : wrap64 (wrap64 ((l : Int) * (n : Int)) + Int.tmod (m : Int) (n : Int)) = ((l * n + m % n : Nat) : Int):=by
 have r2:=row_le n l hn (by omega)
 rw [tmod_nat]
 obtain ⟨q,hq⟩ : ∃ q : Nat,m % n = q:=⟨_,rfl⟩
 rw [hq] at hk ⊢
 have h1 : (l : Int) * (n : Int) = ((l * n : Nat) : Int):=by simp
 obtain ⟨s,hs⟩ : ∃ s : Nat,l * n = s:=⟨_,rfl⟩
 rw [h1]
 rw [hs] at r2 ⊢
 clear h1 hs hq
 rw [w64 (x:=((s : Nat) : Int)) (by omega) (by omega),w64 (by omega) (by omega)];simp
theorem MV_nat {n : Int} {l : List Int} (h : MV n l) : ∃ m : Nat,n = (m : Int) ∧ 1 ≤ m ∧ m ≤ 4 ∧ l.length = m * m:=by
 refine ⟨n.toNat,?_⟩
 have h1:=h.1
 have h2:=h.2.1
 have h3:=h.2.2.1
 obtain ⟨m,rfl⟩ : ∃ m : Nat,n = (m : Int):=⟨n.toNat,by omega⟩
 refine ⟨by simp,by simp;omega,by simp;omega,?_⟩
 simp only [Int.toNat_natCast]
 exact_mod_cast h3
theorem Ev_sz {α : Type} {o : Option Int} {z : Int} {g : Nat → Int → Option α} {r : α} (h : o = some z) (k : Ev (fun n => g n z) r) : Ev (fun n => o.bind (g n)) r:=Ev.congr (fun n => by rw [h];rfl) k
theorem rdS_mid (pre : List Stp) (x : Stp) (t : List Stp) : rdT (pre ++ x :: t) (pre.length : Int) = x:=by simp [rdT,List.getD_eq_getElem?_getD]
theorem snocA {α : Type} (pre : List α) (x : α) : (((pre ++ [x]).length : Nat) : Int) = (pre.length : Int) + 1:=by simp
def mrk (n : Int) : Option Int → List Int → Bool
 | _,[] => true
 | p,x :: t => decide (0 ≤ x ∧ x < n) && (match p with|none => true|some y => decide (y < x)) && mrk n (some x) t
def stepOk (n : Int) (s : Stp) : Bool:=decide (0 ≤ s.f0 ∧ s.f0 < n ∧ 0 ≤ s.f2 ∧ s.f2 < n ∧ 0 ≤ s.f3 ∧ s.f3 ≤ 3 ∧ (s.f1.toList = ([97] : List UInt8) ∨ s.f1.toList = ([98] : List UInt8)))
def bef (s t : Stp) : Bool:=if s.f0 = t.f0 then (if s.f1.toList = t.f1.toList then decide (s.f2 < t.f2) else Op.bytesLess s.f1.toList t.f1.toList) else decide (s.f0 < t.f0)
def stp (n : Int) : Option Stp → List Stp → Bool
 | _,[] => true
 | p,x :: t => stepOk n x && (match p with|none => true|some y => bef y x) && stp n (some x) t
def AV (n : Int) (s f : List Int) (t : List Stp) : Bool:=decide (1 ≤ n ∧ n ≤ 4 ∧ t.length ≤ 24) && mrk n none s && mrk n none f && stp n none t
theorem iMarks (n : Int) (l : List Int) (h : l.length ≤ 1000000000) : Ev (fun k => impl_statesOk.f k l n) (mrk n none l):=by
 have go : ∀ (t pre : List Int),l = pre ++ t → Ev (fun k => impl_statesOk.l0 k l n l (l.length : Int) (pre.length : Int)) (mrk n pre.getLast? t):=by
  intro t
  induction t with
  | nil =>
   intro pre hl
   refine Ev.step (f:=fun _ => some true) (fun k => ?_) (Ev.now _)
   simp only [impl_statesOk.l0];rw [if_neg (by rw [hl];simp)]
  | cons x t ih =>
   intro pre hl
   have hlen : l.length = pre.length + (t.length + 1):=by rw [hl];simp
   have hx : rdI l (pre.length : Int) = x:=by rw [hl,rd_mid]
   have i1:=ih (pre ++ [x]) (by simp [hl])
   rw [List.getLast?_concat,snoc_len] at i1
   by_cases h0 : x < 0
   ·refine Ev.step (f:=fun _ => some false) (fun k => ?_) ((Ev.now _).is ?_)
    ·simp only [impl_statesOk.l0];rw [if_pos (by omega),if_pos (by omega),if_pos (by omega),hx,if_pos h0]
    ·simp only [mrk];rw [decide_eq_false (by omega)];rfl
   by_cases h1 : x ≥ n
   ·refine Ev.step (f:=fun _ => some false) (fun k => ?_) ((Ev.now _).is ?_)
    ·simp only [impl_statesOk.l0];rw [if_pos (by omega),if_pos (by omega),if_pos (by omega),hx,if_neg h0,if_pos h1]
    ·simp only [mrk];rw [decide_eq_false (by omega)];rfl
   rcases List.eq_nil_or_concat pre with rfl | ⟨q,y,rfl⟩
   ·refine Ev.step (fun k => ?_) (i1.is ?_)
    ·simp only [impl_statesOk.l0];rw [if_pos (by omega),if_pos (by omega),if_pos (by omega),hx,if_neg h0,if_neg h1,if_neg (by simp),w64 (by omega) (by omega)]
    ·simp only [mrk,List.getLast?_nil];rw [decide_eq_true (by omega)];rfl
   ·rw [List.concat_eq_append] at *
    have e : wrap64 (((q ++ [y]).length : Int) - 1) = (q.length : Int):=by rw [snoc_len,w64 (by omega) (by rw [List.length_append] at hlen;omega)];omega
    have hy : rdI l (q.length : Int) = y:=by rw [hl,List.append_assoc];exact rd_mid q y (x :: t)
    have hq:=hlen
    rw [List.length_append,List.length_singleton] at hq
    by_cases h2 : y ≥ x
    ·refine Ev.step (f:=fun _ => some false) (fun k => ?_) ((Ev.now _).is ?_)
     ·simp only [impl_statesOk.l0];rw [if_pos (by omega),if_pos (by omega),if_pos (by omega),hx,if_neg h0,if_neg h1,if_pos (by rw [snoc_len];omega),e,if_pos (by omega),if_pos (by omega),hy,if_pos h2]
     ·simp only [mrk,List.getLast?_concat];rw [decide_eq_false (p:=y < x) (by omega)];simp
    ·refine Ev.step (fun k => ?_) (i1.is ?_)
     ·simp only [impl_statesOk.l0];rw [if_pos (by omega),if_pos (by omega),if_pos (by omega),hx,if_neg h0,if_neg h1,if_pos (by rw [snoc_len];omega),e,if_pos (by omega),if_pos (by omega),hy,if_neg h2,w64 (by omega) (by omega)]
     ·simp only [mrk,List.getLast?_concat];rw [decide_eq_true (p:=y < x) (by omega),decide_eq_true (by omega)];rfl
 exact go l [] rfl
theorem sMarks (n : Int) (hn : 1 ≤ n ∧ n ≤ 4) (l : List Int) (h : l.length ≤ 1000000000) : Ev (fun k => spec_l3Marks.f k n l) (mrk n none l):=by
 have go : ∀ (t pre : List Int),l = pre ++ t → Ev (fun k => spec_l3Marks.l0 k n l l (l.length : Int) (pre.length : Int)) (mrk n pre.getLast? t):=by
  intro t
  induction t with
  | nil =>
   intro pre hl
   refine Ev.step (f:=fun _ => some true) (fun k => ?_) (Ev.now _)
   simp only [spec_l3Marks.l0];rw [if_neg (by rw [hl];simp)]
  | cons x t ih =>
   intro pre hl
   have hlen : l.length = pre.length + (t.length + 1):=by rw [hl];simp
   have hx : rdI l (pre.length : Int) = x:=by rw [hl,rd_mid]
   have i1:=ih (pre ++ [x]) (by simp [hl])
   rw [List.getLast?_concat,snoc_len] at i1
   have hw : wrap64 (n - 1) = n - 1:=w64 (by omega) (by omega)
   by_cases h0 : 0 ≤ x ∧ x < n
   case neg =>
    refine Ev.step (f:=fun _ => some false) (fun k => ?_) ((Ev.now _).is ?_)
    ·simp only [spec_l3Marks.l0];rw [if_pos (by omega),if_pos (by omega),if_pos (by omega),hx,sIn,hw,decide_eq_false (by omega),Option.bind_some,if_neg (by simp)]
    ·simp only [mrk];rw [decide_eq_false h0];rfl
   have hd : decide (0 ≤ x ∧ x ≤ n - 1) = true:=decide_eq_true (by omega)
   rcases List.eq_nil_or_concat pre with rfl | ⟨q,y,rfl⟩
   ·refine Ev.step (fun k => ?_) (i1.is ?_)
    ·simp only [spec_l3Marks.l0];rw [if_pos (by omega),if_pos (by omega),if_pos (by omega),hx,sIn,hw,hd,Option.bind_some,if_pos rfl,if_neg (by simp),w64 (by omega) (by omega)]
    ·simp only [mrk,List.getLast?_nil];rw [decide_eq_true h0];rfl
   ·rw [List.concat_eq_append] at *
    have e : wrap64 (((q ++ [y]).length : Int) - 1) = (q.length : Int):=by rw [snoc_len,w64 (by omega) (by rw [List.length_append] at hlen;omega)];omega
    have hy : rdI l (q.length : Int) = y:=by rw [hl,List.append_assoc];exact rd_mid q y (x :: t)
    have hq:=hlen
    rw [List.length_append,List.length_singleton] at hq
    by_cases h2 : y ≥ x
    ·refine Ev.step (f:=fun _ => some false) (fun k => ?_) ((Ev.now _).is ?_)
     ·simp only [spec_l3Marks.l0];rw [if_pos (by omega),if_pos (by omega),if_pos (by omega),hx,sIn,hw,hd,Option.bind_some,if_pos rfl,if_pos (by rw [snoc_len];omega),e,if_pos (by omega),if_pos (by omega),hy,if_pos h2]
     ·simp only [mrk,List.getLast?_concat];rw [decide_eq_false (p:=y < x) (by omega)];simp
    ·refine Ev.step (fun k => ?_) (i1.is ?_)
     ·simp only [spec_l3Marks.l0];rw [if_pos (by omega),if_pos (by omega),if_pos (by omega),hx,sIn,hw,hd,Option.bind_some,if_pos rfl,if_pos (by rw [snoc_len];omega),e,if_pos (by omega),if_pos (by omega),hy,if_neg h2,w64 (by omega) (by omega)]
     ·simp only [mrk,List.getLast?_concat];rw [decide_eq_true (p:=y < x) (by omega),decide_eq_true h0];rfl
 exact go l [] rfl
def cmp0 (a b : Int) : Int:=if a < b then -1 else if a > b then 1 else 0
def ordL (s t : Stp) : Int:=if cmp0 s.f0 t.f0 = 0 then (if Lib.compareBytes s.f1.data.toList t.f1.data.toList = 0 then cmp0 s.f2 t.f2 else Lib.compareBytes s.f1.data.toList t.f1.data.toList) else cmp0 s.f0 t.f0
theorem cmp_eq (a b : Int) : cmp_Compare_int.f a b = some (cmp0 a b):=by
 unfold cmp_Compare_int.f cmp_isNaN_int.f cmp0
 simp only [decide_true,Bool.not_true,Option.bind_some,Bool.false_eq_true,if_false]
 by_cases h : a < b
 ·rw [if_pos h,if_pos h]
 ·rw [if_neg h,if_neg h];by_cases h2 : a > b
  ·rw [if_pos h2,if_pos h2]
  ·rw [if_neg h2,if_neg h2]
theorem cmpOr_ev (l : List Int) (h : l.length ≤ 1000000000) : Ev (fun k => cmp_Or_int.f k l) ((l.find? (· != 0)).getD 0):=by
 have go : ∀ (t pre : List Int),l = pre ++ t → Ev (fun k => cmp_Or_int.l0 k l (l.length : Int) (pre.length : Int)) ((t.find? (· != 0)).getD 0):=by
  intro t
  induction t with
  | nil =>
   intro pre hl
   refine Ev.step (f:=fun _ => some 0) (fun k => ?_) (Ev.now _)
   simp only [cmp_Or_int.l0];rw [if_neg (by rw [hl];simp)]
  | cons x t ih =>
   intro pre hl
   have hlen : l.length = pre.length + (t.length + 1):=by rw [hl];simp
   have hx : rdI l (pre.length : Int) = x:=by rw [hl,rd_mid]
   have i1:=ih (pre ++ [x]) (by simp [hl])
   rw [snoc_len] at i1
   by_cases h0 : x = 0
   ·refine Ev.step (fun k => ?_) (i1.is ?_)
    ·simp only [cmp_Or_int.l0];rw [if_pos (by omega),if_pos (by omega),if_pos (by omega),hx,if_pos h0,w64 (by omega) (by omega)]
    ·simp [List.find?_cons,h0]
   ·refine Ev.step (f:=fun _ => some x) (fun k => ?_) ((Ev.now _).is ?_)
    ·simp only [cmp_Or_int.l0];rw [if_pos (by omega),if_pos (by omega),if_pos (by omega),hx,if_neg h0]
    ·simp [List.find?_cons,h0]
 exact go l [] rfl
theorem iOrder (s t : Stp) : Ev (fun k => impl_stepOrder.f k s.f0 s.f1 s.f2 s.f3 t.f0 t.f1 t.f2 t.f3) (ordL s t):=by
 refine Ev.congr (f:=?f1) (fun k => ?h1) ?k1
 case h1 => unfold impl_stepOrder.f strings_Compare.f bytealg_CompareString.f;rw [cmp_eq,cmp_eq,Option.bind_some,Option.bind_some,Option.bind_some,Option.bind_some] <;> exact rfl
 refine (Ev.bind (cmpOr_ev _ (by simp)) (Ev.now _)).is ?_
 unfold ordL
 by_cases h : cmp0 s.f0 t.f0 = 0
 ·by_cases h2 : Lib.compareBytes s.f1.data.toList t.f1.data.toList = 0
  ·by_cases h3 : cmp0 s.f2 t.f2 = 0 <;> simp [List.find?_cons,h,h2,h3]
  ·simp [List.find?_cons,h,h2]
 ·simp [List.find?_cons,h]
theorem sBefore (s t : Stp) : spec_l3Before.f s.f0 s.f1 s.f2 s.f3 t.f0 t.f1 t.f2 t.f3 = some (bef s t):=by
 unfold spec_l3Before.f bef
 by_cases h : s.f0 = t.f0
 ·rw [if_pos h,if_pos h];by_cases h2 : s.f1.toList = t.f1.toList
  ·rw [if_pos h2,if_pos h2]
  ·rw [if_neg h2,if_neg h2]
 ·rw [if_neg h,if_neg h]
theorem cmp0_lt {a b : Int} : cmp0 a b < 0 ↔ a < b:=by
 unfold cmp0
 by_cases h : a < b
 ·simp [h]
 ·by_cases h2 : a > b <;> simp [h,h2]
theorem cmp0_eq {a b : Int} : cmp0 a b = 0 ↔ a = b:=by
 unfold cmp0
 by_cases h : a < b
 ·rw [if_pos h];omega
 ·by_cases h2 : a > b
  ·rw [if_neg h,if_pos h2];omega
  ·rw [if_neg h,if_neg h2];omega
theorem ord_bef {n : Int} {s t : Stp} (hs : stepOk n s = true) (ht : stepOk n t = true) : ordL s t < 0 ↔ bef s t = true:=by
 unfold stepOk at hs ht
 have hs:=of_decide_eq_true hs
 have ht:=of_decide_eq_true ht
 unfold ordL bef
 have e1:=toList_L s.f1
 have e2:=toList_L t.f1
 unfold L at e1 e2
 rw [← e1,← e2]
 by_cases h : s.f0 = t.f0
 ·rw [if_pos (cmp0_eq.mpr h),if_pos h]
  rcases hs.2.2.2.2.2.2 with a|a <;> rcases ht.2.2.2.2.2.2 with b|b <;> rw [a,b]
  ·rw [if_pos rfl,show Lib.compareBytes ([97] : List UInt8) [97] = 0 by decide,if_pos rfl,cmp0_lt,decide_eq_true_eq]
  ·rw [if_neg (show ¬ Lib.compareBytes ([97] : List UInt8) [98] = 0 by decide),if_neg (by decide)];decide
  ·rw [if_neg (show ¬ Lib.compareBytes ([98] : List UInt8) [97] = 0 by decide),if_neg (by decide)];decide
  ·rw [if_pos rfl,show Lib.compareBytes ([98] : List UInt8) [98] = 0 by decide,if_pos rfl,cmp0_lt,decide_eq_true_eq]
 ·rw [if_neg (fun g => h (cmp0_eq.mp g)),if_neg h,cmp0_lt,decide_eq_true_eq]
theorem iSteps (n : Int) (s f : List Int) (t : List Stp) (h : t.length ≤ 1000000000) : Ev (fun k => impl_AutomatonValid.l0 k t (t.length : Int) 0 n s f t) (stp n none t):=by
 have go : ∀ (u pre : List Stp),t = pre ++ u → (∀ y,pre.getLast? = some y → stepOk n y = true) → Ev (fun k => impl_AutomatonValid.l0 k t (t.length : Int) (pre.length : Int) n s f t) (stp n pre.getLast? u):=by
  intro u
  induction u with
  | nil =>
   intro pre hl _
   refine Ev.step (f:=fun _ => some true) (fun k => ?_) (Ev.now _)
   simp only [impl_AutomatonValid.l0];rw [if_neg (by rw [hl];simp)]
  | cons x u ih =>
   intro pre hl hp
   have hlen : t.length = pre.length + (u.length + 1):=by rw [hl];simp
   have hx : rdT t (pre.length : Int) = x:=by rw [hl,rdS_mid]
   have tail : stepOk n x = true → Ev (fun k => if (pre.length : Int) > 0 then (if 0 ≤ (wrap64 ((pre.length : Int) - 1)) then (if (wrap64 ((pre.length : Int) - 1)) < (t.length : Int) then ((impl_stepOrder.f k ((rdT t (wrap64 ((pre.length : Int) - 1))).f0) ((rdT t (wrap64 ((pre.length : Int) - 1))).f1) ((rdT t (wrap64 ((pre.length : Int) - 1))).f2) ((rdT t (wrap64 ((pre.length : Int) - 1))).f3) x.f0 x.f1 x.f2 x.f3).bind fun z => (if z ≥ 0 then (some false) else (impl_AutomatonValid.l0 k t (t.length : Int) (wrap64 ((pre.length : Int) + 1)) n s f t))) else none) else none) else (impl_AutomatonValid.l0 k t (t.length : Int) (wrap64 ((pre.length : Int) + 1)) n s f t)) (stp n pre.getLast? (x :: u)):=by
    intro hok
    have i1:=ih (pre ++ [x]) (by simp [hl]) (fun y hy => by rw [List.getLast?_concat] at hy;obtain rfl:=Option.some.inj hy;exact hok)
    rw [List.getLast?_concat,snocA] at i1
    have ew : wrap64 ((pre.length : Int) + 1) = (pre.length : Int) + 1:=w64 (by omega) (by omega)
    rw [ew]
    rcases List.eq_nil_or_concat pre with rfl | ⟨q,y,rfl⟩
    ·refine Ev.congr (fun k => by rw [if_neg (by simp)] <;> exact rfl) (i1.is ?_)
     simp only [stp,List.getLast?_nil,hok,Bool.true_and]
    ·rw [List.concat_eq_append] at *
     have hq:=hlen
     rw [List.length_append,List.length_singleton] at hq
     have e : wrap64 (((q ++ [y]).length : Int) - 1) = (q.length : Int):=by rw [snocA,w64 (by omega) (by omega)];omega
     have hy : rdT t (q.length : Int) = y:=by rw [hl,List.append_assoc];exact rdS_mid q y (x :: u)
     have hoy : stepOk n y = true:=hp y (by rw [List.getLast?_concat])
     refine Ev.congr (f:=?f1) (fun k => ?h1) ?k1
     case h1 => rw [e,if_pos (by rw [snocA];omega),if_pos (by omega),if_pos (by omega),hy] <;> exact rfl
     refine Ev.bind (iOrder y x) ?_
     by_cases hb : bef y x = true
     ·refine Ev.congr (fun k => if_neg (by have:=(ord_bef hoy hok).mpr hb;omega)) (i1.is ?_)
      simp only [stp,List.getLast?_concat,hok,hb,Bool.true_and]
     ·refine Ev.congr (f:=fun _ => some false) (fun k => if_pos (Int.not_lt.mp fun h => hb ((ord_bef hoy hok).mp h))) ((Ev.now _).is ?_)
      simp only [stp,List.getLast?_concat,hok,Bool.true_and]
      rw [Bool.not_eq_true] at hb
      rw [hb];rfl
   by_cases hok : stepOk n x = true
   ·have ho:=of_decide_eq_true (show decide _ = true from hok)
    refine Ev.step (fun k => ?_) (tail hok)
    simp only [impl_AutomatonValid.l0]
    rw [if_pos (by omega),if_pos (by omega),if_pos (by omega),hx,if_neg (by omega),if_neg (by omega),if_neg (by omega),if_neg (by omega)]
    rcases ho.2.2.2.2.2.2 with a|a
    ·rw [if_pos a,if_neg (by omega),if_neg (by omega)]
    ·rw [if_neg (by rw [a];decide),if_pos a,if_neg (by omega),if_neg (by omega)]
   ·refine Ev.step (f:=fun _ => some false) (fun k => ?_) ((Ev.now _).is ?_)
    ·simp only [impl_AutomatonValid.l0]
     rw [if_pos (by omega),if_pos (by omega),if_pos (by omega),hx]
     by_cases a1 : x.f0 < 0
     ·rw [if_pos a1]
     by_cases a2 : x.f0 ≥ n
     ·rw [if_neg a1,if_pos a2]
     by_cases a3 : x.f2 < 0
     ·rw [if_neg a1,if_neg a2,if_pos a3]
     by_cases a4 : x.f2 ≥ n
     ·rw [if_neg a1,if_neg a2,if_neg a3,if_pos a4]
     rw [if_neg a1,if_neg a2,if_neg a3,if_neg a4]
     by_cases b1 : x.f1.toList = ([97] : List UInt8)
     ·rw [if_pos b1]
      by_cases a5 : x.f3 < 0
      ·rw [if_pos a5]
      by_cases a6 : x.f3 > 3
      ·rw [if_neg a5,if_pos a6]
      exact absurd (show stepOk n x = true from decide_eq_true ⟨by omega,by omega,by omega,by omega,by omega,by omega,.inl b1⟩) hok
     ·rw [if_neg b1]
      by_cases b2 : x.f1.toList = ([98] : List UInt8)
      ·rw [if_pos b2]
       by_cases a5 : x.f3 < 0
       ·rw [if_pos a5]
       by_cases a6 : x.f3 > 3
       ·rw [if_neg a5,if_pos a6]
       exact absurd (show stepOk n x = true from decide_eq_true ⟨by omega,by omega,by omega,by omega,by omega,by omega,.inr b2⟩) hok
      ·rw [if_neg b2]
    ·rw [Bool.not_eq_true] at hok
     simp only [stp,hok,Bool.false_and]
 exact go t [] rfl (fun y hy => by simp at hy)
theorem sStepOk (n : Int) (hn : 1 ≤ n ∧ n ≤ 4) (x : Stp) : spec_l3Step.f n x.f0 x.f1 x.f2 x.f3 = some (stepOk n x):=by
 unfold spec_l3Step.f stepOk
 rw [sIn,sIn,sIn,w64 (x:=n - 1) (by omega) (by omega),Option.bind_some]
 by_cases a1 : 0 ≤ x.f0 ∧ x.f0 ≤ n - 1
 ·rw [decide_eq_true a1,if_pos rfl,Option.bind_some]
  by_cases a2 : 0 ≤ x.f2 ∧ x.f2 ≤ n - 1
  ·rw [decide_eq_true a2,if_pos rfl,Option.bind_some]
   by_cases a3 : 0 ≤ x.f3 ∧ x.f3 ≤ 3
   ·rw [decide_eq_true a3,if_pos rfl]
    by_cases b : x.f1.toList = ([97] : List UInt8)
    ·rw [if_pos b,decide_eq_true (by refine ⟨?_,?_,?_,?_,?_,?_,.inl b⟩ <;> omega)]
    ·rw [if_neg b]
     by_cases b2 : x.f1.toList = ([98] : List UInt8)
     ·rw [decide_eq_true b2,decide_eq_true (by refine ⟨?_,?_,?_,?_,?_,?_,.inr b2⟩ <;> omega)]
     ·rw [decide_eq_false b2,decide_eq_false (by intro g;rcases g.2.2.2.2.2.2 with c|c;exact b c;exact b2 c)]
   ·rw [decide_eq_false a3,if_neg (by simp),decide_eq_false (by omega)]
  ·rw [decide_eq_false a2,if_neg (by simp),decide_eq_false (by omega)]
 ·rw [decide_eq_false a1,if_neg (by simp),decide_eq_false (by omega)]
theorem sSteps (n : Int) (hn : 1 ≤ n ∧ n ≤ 4) (s f : List Int) (t : List Stp) (h : t.length ≤ 1000000000) : Ev (fun k => spec_AutomatonValid.l0 k t (t.length : Int) 0 n s f t) (stp n none t):=by
 have go : ∀ (u pre : List Stp),t = pre ++ u → Ev (fun k => spec_AutomatonValid.l0 k t (t.length : Int) (pre.length : Int) n s f t) (stp n pre.getLast? u):=by
  intro u
  induction u with
  | nil =>
   intro pre hl
   refine Ev.step (f:=fun _ => some true) (fun k => ?_) (Ev.now _)
   simp only [spec_AutomatonValid.l0];rw [if_neg (by rw [hl];simp)]
  | cons x u ih =>
   intro pre hl
   have hlen : t.length = pre.length + (u.length + 1):=by rw [hl];simp
   have hx : rdT t (pre.length : Int) = x:=by rw [hl,rdS_mid]
   have i1:=ih (pre ++ [x]) (by simp [hl])
   rw [List.getLast?_concat,snocA] at i1
   by_cases hok : stepOk n x = true
   ·rcases List.eq_nil_or_concat pre with rfl | ⟨q,y,rfl⟩
    ·refine Ev.step (fun k => ?_) (i1.is ?_)
     ·simp only [spec_AutomatonValid.l0];rw [if_pos (by omega),if_pos (by omega),if_pos (by omega),hx,sStepOk n hn,hok,Option.bind_some,if_pos rfl,if_neg (by simp),w64 (by omega) (by omega)]
     ·simp only [stp,List.getLast?_nil,hok,Bool.true_and]
    ·rw [List.concat_eq_append] at *
     have hq:=hlen
     rw [List.length_append,List.length_singleton] at hq
     have e : wrap64 (((q ++ [y]).length : Int) - 1) = (q.length : Int):=by rw [snocA,w64 (by omega) (by omega)];omega
     have hy : rdT t (q.length : Int) = y:=by rw [hl,List.append_assoc];exact rdS_mid q y (x :: u)
     by_cases hb : bef y x = true
     ·refine Ev.step (fun k => ?_) (i1.is ?_)
      ·simp only [spec_AutomatonValid.l0];rw [if_pos (by omega),if_pos (by omega),if_pos (by omega),hx,sStepOk n hn,hok,Option.bind_some,if_pos rfl,if_pos (by rw [snocA];omega),e,if_pos (by omega),if_pos (by omega),hy,sBefore,hb,Option.bind_some,if_pos rfl,w64 (by omega) (by omega)]
      ·simp only [stp,List.getLast?_concat,hok,hb,Bool.true_and]
     ·rw [Bool.not_eq_true] at hb
      refine Ev.step (f:=fun _ => some false) (fun k => ?_) ((Ev.now _).is ?_)
      ·simp only [spec_AutomatonValid.l0];rw [if_pos (by omega),if_pos (by omega),if_pos (by omega),hx,sStepOk n hn,hok,Option.bind_some,if_pos rfl,if_pos (by rw [snocA];omega),e,if_pos (by omega),if_pos (by omega),hy,sBefore,hb,Option.bind_some,if_neg (by simp)]
      ·simp only [stp,List.getLast?_concat,hok,hb,Bool.true_and];rfl
   ·rw [Bool.not_eq_true] at hok
    refine Ev.step (f:=fun _ => some false) (fun k => ?_) ((Ev.now _).is ?_)
    ·simp only [spec_AutomatonValid.l0];rw [if_pos (by omega),if_pos (by omega),if_pos (by omega),hx,sStepOk n hn,hok,Option.bind_some,if_neg (by simp)]
    ·simp only [stp,hok,Bool.false_and]
 exact go t [] rfl
theorem iAV (n : Int) (s f : List Int) (t : List Stp) (hs : s.length ≤ 1000000000) (hf : f.length ≤ 1000000000) (ht : t.length ≤ 1000000000) : Ev (fun k => impl_AutomatonValid.f k n s f t) (AV n s f t):=by
 have bad : ∀ g : Nat → Option Bool,(∀ k,g k = some false) → AV n s f t = false → Ev g (AV n s f t):=fun g hg he => ⟨0,fun k _ => by rw [hg,he]⟩
 by_cases h1 : n < 1
 ·exact bad _ (fun k => by unfold impl_AutomatonValid.f;rw [if_pos h1]) (by unfold AV;rw [decide_eq_false (by omega)];rfl)
 by_cases h2 : n > 4
 ·exact bad _ (fun k => by unfold impl_AutomatonValid.f;rw [if_neg h1,if_pos h2]) (by unfold AV;rw [decide_eq_false (by omega)];rfl)
 by_cases h3 : (t.length : Int) > 24
 ·exact bad _ (fun k => by unfold impl_AutomatonValid.f;rw [if_neg h1,if_neg h2,if_pos h3]) (by unfold AV;rw [decide_eq_false (by omega)];rfl)
 have hd : decide (1 ≤ n ∧ n ≤ 4 ∧ t.length ≤ 24) = true:=decide_eq_true (by omega)
 refine Ev.congr (f:=?f1) (fun k => ?h1) ?k1
 case h1 => unfold impl_AutomatonValid.f;rw [if_neg h1,if_neg h2,if_neg h3] <;> exact rfl
 refine Ev.bind (iMarks n s hs) ?_
 by_cases g1 : mrk n none s = true
 case neg =>
  exact bad _ (fun k => by rw [if_neg g1]) (by unfold AV;rw [Bool.not_eq_true] at g1;rw [g1];simp)
 refine Ev_t g1 ?_
 refine Ev.bind (iMarks n f hf) ?_
 by_cases g2 : mrk n none f = true
 case neg =>
  rw [Bool.not_eq_true] at g2
  exact bad _ (fun k => by rw [g2];rfl) (by unfold AV;rw [g2];simp)
 refine Ev.congr (fun k => by rw [if_pos g2]) ((iSteps n s f t ht).is ?_)
 unfold AV;rw [hd,g1,g2];rfl
theorem sAV (n : Int) (s f : List Int) (t : List Stp) (hs : s.length ≤ 1000000000) (hf : f.length ≤ 1000000000) (ht : t.length ≤ 1000000000) : Ev (fun k => spec_AutomatonValid.f k n s f t) (AV n s f t):=by
 have bad : ∀ g : Nat → Option Bool,(∀ k,g k = some false) → AV n s f t = false → Ev g (AV n s f t):=fun g hg he => ⟨0,fun k _ => by rw [hg,he]⟩
 by_cases h1 : 1 ≤ n ∧ n ≤ 4
 case neg => exact bad _ (fun k => by unfold spec_AutomatonValid.f;rw [sIn,decide_eq_false h1,Option.bind_some,if_neg (by simp)]) (by unfold AV;rw [decide_eq_false (by omega)];rfl)
 refine Ev.congr (f:=?f1) (fun k => ?h1) ?k1
 case h1 => unfold spec_AutomatonValid.f;rw [sIn,decide_eq_true h1,Option.bind_some,if_pos rfl] <;> exact rfl
 refine Ev.bind (sMarks n h1 s hs) ?_
 by_cases g1 : mrk n none s = true
 case neg =>
  exact bad _ (fun k => by rw [if_neg g1]) (by unfold AV;rw [Bool.not_eq_true] at g1;rw [g1];simp)
 refine Ev_t g1 ?_
 refine Ev.bind (sMarks n h1 f hf) ?_
 by_cases g2 : mrk n none f = true
 case neg =>
  exact bad _ (fun k => by rw [if_neg g2]) (by unfold AV;rw [Bool.not_eq_true] at g2;rw [g2];simp)
 refine Ev_t g2 ?_
 by_cases h3 : (t.length : Int) > 24
 ·exact bad _ (fun k => by rw [if_pos h3]) (by unfold AV;rw [decide_eq_false (by omega)];rfl)
 refine Ev.congr (fun k => by rw [if_neg h3]) ((sSteps n h1 s f t ht).is ?_)
 unfold AV;rw [decide_eq_true (by omega),g1,g2];rfl
theorem mrk_mem {n : Int} : ∀ {l : List Int} {p : Option Int},mrk n p l = true → ∀ x ∈ l,0 ≤ x ∧ x < n
 | [],_,_,x,hx => by cases hx
 | y :: t,p,h,x,hx => by
  simp only [mrk,Bool.and_eq_true,decide_eq_true_eq] at h
  rcases List.mem_cons.mp hx with rfl|hx
  ·exact h.1.1
  ·exact mrk_mem h.2 x hx
theorem cellZ {n i k : Int} (hn : 1 ≤ n ∧ n ≤ 4) (hi : 0 ≤ i ∧ i < n) (hk : 0 ≤ k ∧ k < n) : 0 ≤ i * n + k ∧ i * n + k < n * n ∧ i * n + k ≤ 16 ∧ 0 ≤ i * n ∧ i * n ≤ 16:=by
 have h1 : n = 1 ∨ n = 2 ∨ n = 3 ∨ n = 4:=by omega
 rcases h1 with rfl|rfl|rfl|rfl <;> omega
theorem cellW {n i k : Int} (hn : 1 ≤ n ∧ n ≤ 4) (hi : 0 ≤ i ∧ i < n) (hk : 0 ≤ k ∧ k < n) : wrap64 (wrap64 (i * n) + k) = i * n + k:=by
 have c:=cellZ hn hi hk
 rw [w64 (x:=i * n) (by omega) (by omega),w64 (by omega) (by omega)]
theorem AV_parts {n : Int} {s f : List Int} {t : List Stp} (h : AV n s f t = true) : (1 ≤ n ∧ n ≤ 4) ∧ t.length ≤ 24 ∧ mrk n none s = true ∧ mrk n none f = true ∧ stp n none t = true:=by
 simp only [AV,Bool.and_eq_true,decide_eq_true_eq] at h
 exact ⟨⟨h.1.1.1.1,h.1.1.1.2.1⟩,h.1.1.1.2.2,h.1.1.2,h.1.2,h.2⟩
def unitE (i k : Nat) : Int:=if i = k then 0 else 1000000
def oneE (i k : Nat) : Int:=if i = k then 0 else 3
theorem unit_MV (n : Nat) (h1 : 1 ≤ n) (h4 : n ≤ 4) : MV (n : Int) (sqL n unitE):=by
 refine ⟨by omega,by omega,?_,?_⟩
 ·unfold sqL;rw [tab_length];exact_mod_cast rfl
 ·intro x hx
  unfold sqL tab at hx
  obtain ⟨m,_,rfl⟩:=List.mem_map.mp hx
  unfold unitE
  by_cases e : m / n = m % n
  ·simp only [e,if_true];omega
  ·rw [if_neg e];omega
def mulE (n : Nat) (a b : List Int) (i k : Nat) : Int:=(List.range n).foldl (fun acc l => mn acc (mx (a.getD (i * n + l) 0) (b.getD (l * n + k) 0))) 3
def mulL (n : Nat) (a b : List Int) : List Int:=sqL n (mulE n a b)
theorem mulL_length (n : Nat) (a b : List Int) : (mulL n a b).length = n * n:=by simp [mulL,sqL,tab_length]
theorem iMulCell (n : Nat) (hn : n ≤ 4) (a b : List Int) (ha : a.length = n * n) (hb : b.length = n * n) (i k : Nat) (hi : i < n) (hk : k < n) :
  Ev (fun K => impl_MulGrades_1.f K (i : Int) (k : Int) (n : Int) a (n : Int) b) (mulE n a b i k):=by
 refine up_loop n (fun l K => impl_MulGrades_1.l0 K i k ((List.range l).foldl (fun acc l => mn acc (mx (a.getD (i * n + l) 0) (b.getD (l * n + k) 0))) 3) n (l : Int) n a n b) _ (fun l hl hs => ?_) ?_
 ·refine Ev.step (fun j => ?_) hs
  simp only [impl_MulGrades_1.l0]
  rw [if_pos (by omega),at_eq n hn a ha i l hi hl,Option.bind_some,at_eq n hn b hb l k hl hk,Option.bind_some,w64 (by omega) (by omega),fold_snoc];rfl
 ·refine Ev.step (f:=fun _ => some (mulE n a b i k)) (fun j => ?_) (Ev.now _)
  simp only [impl_MulGrades_1.l0]
  rw [if_neg (by omega)];rfl
theorem GV_len {n : Nat} {l : List Int} (h : GV (n : Int) l) : l.length = n * n:=by
 have:=h.1.2.2.1
 exact_mod_cast this
theorem GV_le {n : Nat} {l : List Int} (h : GV (n : Int) l) : n ≤ 4 ∧ 1 ≤ n:=by
 have h1:=h.1.1
 have h2:=h.1.2.1
 omega
theorem GV_nat {n : Int} {l : List Int} (h : GV n l) : ∃ m : Nat,n = (m : Int):=⟨n.toNat,by have:=h.1.1;omega⟩
theorem iMul (n : Nat) (a b : List Int) (ha : GV n a) (hb : GV n b) : Ev (fun k => impl_MulGrades.f k n a n b) ((n : Int),mulL n a b,true):=by
 have hn:=(GV_le ha).1
 have hla:=GV_len ha
 have hlb:=GV_len hb
 have hs:=sq_le n hn
 have hm : ∀ l : List Int,l.length = n * n → l.length ≤ maxLen:=fun l h => by rw [maxLen_eq];omega
 unfold impl_MulGrades.f
 refine Ev.bind (iGV n a (hm a hla)) (Ev_t (decide_eq_true ha) (Ev.bind (iGV n b (hm b hlb)) (Ev_t (decide_eq_true hb) (Ev_t rfl ?_))))
 refine Ev.bind (a:=((n : Int),mulL n a b)) ?_ (Ev.now _)
 unfold impl_filled_c.f
 exact filledG n hn (mulE n a b) (fun K y0 y1 => impl_MulGrades_1.f K y0 y1 n a n b) (fun i hi k hk => iMulCell n hn a b hla hlb i k hi hk) (fun k p q r y z => impl_filled_c.l0 k p q r n a n b y z) (fun k p q r u v x y z => impl_filled_c.l1 k p q r u v x n a n b y z) (fun _ _ _ _ _ _ => by simp only [impl_filled_c.l0]) (fun _ _ _ _ _ _ _ _ _ => by simp only [impl_filled_c.l1])
def mulR (n : Int) (a : List Int) (m : Int) (b : List Int) : Int × List Int × Bool:=if GV n a ∧ GV m b ∧ n = m then (n,mulL n.toNat a b,true) else (0,[],false)
theorem iMul_any (n : Int) (a : List Int) (m : Int) (b : List Int) (ha : a.length ≤ maxLen) (hb : b.length ≤ maxLen) : Ev (fun k => impl_MulGrades.f k n a m b) (mulR n a m b):=by
 by_cases h : GV n a ∧ GV m b ∧ n = m
 ·obtain ⟨h1,h2,rfl⟩:=h
  obtain ⟨z,rfl⟩:=GV_nat h1
  refine (iMul z a b h1 h2).is ?_
  unfold mulR;rw [if_pos ⟨h1,h2,rfl⟩];rfl
 ·have hr : mulR n a m b = (0,[],false):=by unfold mulR;rw [if_neg h]
  rw [hr]
  unfold impl_MulGrades.f
  refine Ev.bind (iGV n a ha) ?_
  by_cases h1 : GV n a
  ·refine Ev_t (decide_eq_true h1) (Ev.bind (iGV m b hb) ?_)
   by_cases h2 : GV m b
   ·exact Ev_t (decide_eq_true h2) (Ev_f (fun e => h ⟨h1,h2,e⟩) (Ev.now _))
   ·exact Ev_f (by rw [decide_eq_false h2];simp) (Ev.now _)
  ·exact Ev_f (by rw [decide_eq_false h1];simp) (Ev.now _)
theorem sMul (n : Nat) (hn : n ≤ 4) (h0 : 1 ≤ n) (a b : List Int) (hla : a.length = n * n) (hlb : b.length = n * n) : Ev (fun k => spec_l6Mul.f k n a n b) ((n : Int),mulL n a b):=by
 have hs:=sq_le n hn
 have e0 : wrap64 ((n : Int) * (n : Int)) = ((n * n : Nat) : Int):=by
  have : (n : Int) * (n : Int) = ((n * n : Nat) : Int):=by simp
  rw [this,w64 (by omega) (by omega)]
 refine Ev.congr (f:=fun k => spec_l6Mul.l0 k ((n * n : Nat) : Int) ((0 : Nat) : Int) n a n b n (tab 0 (fun m => mulE n a b (m / n) (m % n)))) (fun k => ?_) ?_
 ·unfold spec_l6Mul.f;rw [e0];simp [tab]
 refine up_loop (n * n) (fun m k => spec_l6Mul.l0 k ((n * n : Nat) : Int) (m : Int) n a n b n (tab m (fun m => mulE n a b (m / n) (m % n)))) _ (fun m hm hnext => ?_) ?_
 ·have hi : m / n < n:=Nat.div_lt_of_lt_mul hm
  have hk : m % n < n:=Nat.mod_lt _ (by omega)
  refine Ev.step (f:=fun k => spec_l6Mul.l1 k m ((List.range 0).foldl (fun acc l => mn acc (mx (a.getD (m / n * n + l) 0) (b.getD (l * n + m % n) 0))) 3) ((n * n : Nat) : Int) m n ((0 : Nat) : Int) n a n b n (tab m (fun m => mulE n a b (m / n) (m % n)))) (fun k => ?_) ?_
  ·simp only [spec_l6Mul.l0];rw [if_pos (by omega)];rfl
  refine up_loop n (fun l k => spec_l6Mul.l1 k m ((List.range l).foldl (fun acc l => mn acc (mx (a.getD (m / n * n + l) 0) (b.getD (l * n + m % n) 0))) 3) ((n * n : Nat) : Int) m n (l : Int) n a n b n (tab m (fun m => mulE n a b (m / n) (m % n)))) _ (fun l hl hs2 => ?_) ?_
  ·refine Ev.step (fun j => ?_) hs2
   have c1:=cell_lt n (m / n) l hi hl
   have c2:=cell_lt n l (m % n) hl hk
   have r1:=row_le n (m / n) hn (by omega)
   have r2:=row_le n l hn (by omega)
   have hA : (l : Int) < (n : Int):=by omega
   have hB : ¬ (n : Int) = 0:=by omega
   have hC : (((m / n * n + l : Nat)) : Int) < (a.length : Int):=by rw [hla];exact_mod_cast c1
   have hD : (((l * n + m % n : Nat)) : Int) < (b.length : Int):=by rw [hlb];exact_mod_cast c2
   have hE : wrap64 ((l : Int) + 1) = ((l + 1 : Nat) : Int):=by rw [w64 (by omega) (by omega)];rfl
   have e1:=idx1 n m l hn hi hl
   have e2:=idx2 n m l hn hk hl
   simp only [spec_l6Mul.l1]
   rw [if_pos hA,if_neg hB,e1,e2,if_pos (Int.natCast_nonneg _),if_pos hC,if_pos (Int.natCast_nonneg _),if_pos hD,rd_nat,rd_nat,hE,fold_snoc]
  ·refine Ev.step (fun j => ?_) hnext
   simp only [spec_l6Mul.l1]
   rw [if_neg (by omega),tab_length,if_pos (by omega),w64 (by omega) (by omega)]
   have e : tab m (fun m => mulE n a b (m / n) (m % n)) ++ [mulE n a b (m / n) (m % n)] = tab (m + 1) (fun m => mulE n a b (m / n) (m % n)):=tab_snoc m (fun m => mulE n a b (m / n) (m % n))
   show spec_l6Mul.l0 j _ _ _ _ _ _ _ (tab m (fun m => mulE n a b (m / n) (m % n)) ++ [mulE n a b (m / n) (m % n)]) = _
   rw [e];rfl
 ·refine Ev.step (f:=fun _ => some ((n : Int),mulL n a b)) (fun j => ?_) (Ev.now _)
  simp only [spec_l6Mul.l0]
  rw [if_neg (by omega)];rfl
theorem slicesEq_ev (a b : List Int) (h : a.length ≤ 1000000000) : Ev (fun k => slices_Equal_int_int.f k a b) (decide (a = b)):=by
 by_cases hl : a.length = b.length
 ·have go : ∀ (t u pre : List Int),a = pre ++ t → b = pre ++ u → Ev (fun k => slices_Equal_int_int.l0 k a b (a.length : Int) (pre.length : Int)) (decide (a = b)):=by
   intro t
   induction t with
   | nil =>
    intro u pre ha hb
    have hu : u = []:=by
     have h1:=congrArg List.length ha
     have h2:=congrArg List.length hb
     simp at h1 h2
     exact List.length_eq_zero_iff.mp (by omega)
    subst hu
    have hab : a = b:=by rw [ha,hb]
    refine Ev.step (f:=fun _ => some true) (fun k => ?_) ((Ev.now _).is (by rw [decide_eq_true hab]))
    simp only [slices_Equal_int_int.l0]
    rw [if_neg (by rw [ha];simp)]
   | cons x t ih =>
    intro u pre ha hb
    have hla : a.length = pre.length + (t.length + 1):=by rw [ha];simp
    cases u with
    | nil => have h2:=congrArg List.length hb;simp at h2;omega
    | cons y u =>
     by_cases hxy : x = y
     ·subst hxy
      refine Ev.step (fun k => ?_) (ih u (pre ++ [x]) (by simp [ha]) (by simp [hb]))
      simp only [slices_Equal_int_int.l0]
      rw [if_pos (by omega),if_pos (by omega),if_pos (by omega),if_pos (by omega),w64 (x:=(pre.length : Int) + 1) (by omega) (by omega),snoc_len,if_pos (by rw [ha,hb,rd_mid,rd_mid])]
     ·have hab : ¬ a = b:=by
       intro e
       rw [ha,hb] at e
       have:=List.append_cancel_left e
       simp at this
       exact hxy this.1
      refine Ev.step (f:=fun _ => some false) (fun k => ?_) ((Ev.now _).is (by rw [decide_eq_false hab]))
      simp only [slices_Equal_int_int.l0]
      rw [if_pos (by omega),if_pos (by omega),if_pos (by omega),if_pos (by omega),if_neg (by rw [ha,hb,rd_mid,rd_mid];exact hxy)]
  refine Ev.congr (fun k => ?_) (go a b [] rfl rfl)
  unfold slices_Equal_int_int.f
  rw [if_pos (by omega)];rfl
 ·have hab : ¬ a = b:=fun e => hl (by rw [e])
  refine Ev.congr (f:=fun _ => some false) (fun k => ?_) ((Ev.now _).is (by rw [decide_eq_false hab]))
  unfold slices_Equal_int_int.f
  rw [if_neg (by omega)]
theorem iSame_ev (n : Int) (a : List Int) (m : Int) (b : List Int) (h : a.length ≤ 1000000000) : Ev (fun k => impl_SameMatrix.f k n a m b) (decide (n = m ∧ a = b)):=by
 unfold impl_SameMatrix.f
 by_cases e : n = m
 ·exact Ev_t e (Ev.bind (slicesEq_ev a b h) ((Ev.now _).is (by simp [e])))
 ·exact Ev_f e ((Ev.now _).is (by simp [e]))
theorem sSame_ev (a b : List Int) (hl : a.length = b.length) (h : a.length ≤ 1000000000) : Ev (fun k => spec_l2Same.f k a b) (decide (a = b)):=by
 have go : ∀ (t u pre : List Int),a = pre ++ t → b = pre ++ u → Ev (fun k => spec_l2Same.l0 k a b (a.length : Int) (pre.length : Int)) (decide (a = b)):=by
  intro t
  induction t with
  | nil =>
   intro u pre ha hb
   have hu : u = []:=by
    have h1:=congrArg List.length ha
    have h2:=congrArg List.length hb
    simp at h1 h2
    exact List.length_eq_zero_iff.mp (by omega)
   subst hu
   have hab : a = b:=by rw [ha,hb]
   refine Ev.step (f:=fun _ => some (decide ((a.length : Int) = (b.length : Int)))) (fun k => ?_) ((Ev.now _).is (by rw [decide_eq_true hab,hl];simp))
   simp only [spec_l2Same.l0]
   rw [if_neg (by rw [ha];simp)]
  | cons x t ih =>
   intro u pre ha hb
   have hla : a.length = pre.length + (t.length + 1):=by rw [ha];simp
   cases u with
   | nil => have h2:=congrArg List.length hb;simp at h2;omega
   | cons y u =>
    by_cases hxy : x = y
    ·subst hxy
     refine Ev.step (fun k => ?_) (ih u (pre ++ [x]) (by simp [ha]) (by simp [hb]))
     simp only [spec_l2Same.l0]
     rw [if_pos (by omega),if_pos (by omega),if_pos (by omega),if_pos (by omega),w64 (x:=(pre.length : Int) + 1) (by omega) (by omega),snoc_len,if_pos (by rw [ha,hb,rd_mid,rd_mid])]
    ·have hab : ¬ a = b:=by
      intro e
      rw [ha,hb] at e
      have:=List.append_cancel_left e
      simp at this
      exact hxy this.1
     refine Ev.step (f:=fun _ => some false) (fun k => ?_) ((Ev.now _).is (by rw [decide_eq_false hab]))
     simp only [spec_l2Same.l0]
     rw [if_pos (by omega),if_pos (by omega),if_pos (by omega),if_pos (by omega),if_neg (by rw [ha,hb,rd_mid,rd_mid];exact hxy)]
 refine Ev.congr (fun k => ?_) (go a b [] rfl rfl)
 unfold spec_l2Same.f
 have e : mn (a.length : Int) (b.length : Int) = (a.length : Int):=by unfold mn;rw [if_neg (by omega)]
 rw [e];rfl
def Idem (n : Int) (l : List Int) : Prop:=GV n l ∧ mulL n.toNat l l = l
instance (n : Int) (l : List Int) : Decidable (Idem n l):=by unfold Idem;infer_instance
theorem len_of_GV {n : Int} {l : List Int} (h : GV n l) : l.length ≤ 16:=by
 obtain ⟨m,rfl⟩:=GV_nat h
 have h1:=GV_len h
 have h2:=sq_le m (GV_le h).1
 omega
theorem iIdem (n : Int) (l : List Int) (h : l.length ≤ maxLen) : Ev (fun k => impl_IsIdempotent.f k n l) (decide (Idem n l)):=by
 unfold impl_IsIdempotent.f
 refine Ev.bind (iMul_any n l n l h h) ?_
 by_cases g : GV n l
 ·have e : mulR n l n l = (n,mulL n.toNat l l,true):=by unfold mulR;rw [if_pos ⟨g,g,rfl⟩]
  rw [e]
  refine Ev_t rfl ?_
  have h16:=len_of_GV g
  obtain ⟨m,rfl⟩:=GV_nat g
  have h2:=sq_le m (GV_le g).1
  refine Ev.bind (iSame_ev (m : Int) (mulL m l l) m l (by rw [mulL_length];omega)) ((Ev.now _).is ?_)
  rw [Bool.eq_iff_iff]
  simp only [decide_eq_true_eq]
  exact ⟨fun x => ⟨g,x.2⟩,fun x => ⟨by trivial,x.2⟩⟩
 ·have e : mulR n l n l = (0,[],false):=by unfold mulR;rw [if_neg (fun x => g x.1)]
  rw [e]
  exact Ev_f (by simp) ((Ev.now _).is (by rw [decide_eq_false (fun x : Idem n l => g x.1)]))
theorem sIdemG (n : Nat) (l : List Int) (g : GV n l) : Ev (fun k => spec_l6Idempotent.f k n l) (decide (Idem n l)):=by
 have hn:=GV_le g
 have hl:=GV_len g
 have h2:=sq_le n hn.1
 unfold spec_l6Idempotent.f
 refine Ev.bind (sMul n hn.1 hn.2 l l hl hl) ?_
 refine Ev.bind (sSame_ev (mulL n l l) l (by rw [mulL_length,hl]) (by rw [mulL_length];omega)) ((Ev.now _).is ?_)
 rw [Bool.eq_iff_iff]
 simp only [decide_eq_true_eq]
 exact ⟨fun x => ⟨g,x⟩,fun x => x.2⟩
theorem mn_le (x y t : Int) : mn x y ≤ t ↔ x ≤ t ∨ y ≤ t:=by unfold mn;by_cases h : y < x <;> simp only [h,if_true,if_false] <;> omega
theorem mx_le (x y t : Int) : mx x y ≤ t ↔ x ≤ t ∧ y ≤ t:=by unfold mx;by_cases h : x < y <;> simp only [h,if_true,if_false] <;> omega
theorem fold_le (n : Nat) (F : Nat → Int) (c t : Int) : (List.range n).foldl (fun acc l => mn acc (F l)) c ≤ t ↔ c ≤ t ∨ ∃ l,l < n ∧ F l ≤ t:=by
 induction n with
 | zero => simp
 | succ n ih =>
  rw [fold_snoc,mn_le,ih]
  constructor
  ·rintro ((h | ⟨l,h1,h2⟩)|h)
   ·exact Or.inl h
   ·exact Or.inr ⟨l,by omega,h2⟩
   ·exact Or.inr ⟨n,by omega,h⟩
  ·rintro (h | ⟨l,h1,h2⟩)
   ·exact Or.inl (Or.inl h)
   ·by_cases e : l = n
    ·subst e;exact Or.inr h2
    ·exact Or.inl (Or.inr ⟨l,by omega,h2⟩)
theorem mulE_le (n : Nat) (a b : List Int) (i k : Nat) (t : Int) : mulE n a b i k ≤ t ↔ 3 ≤ t ∨ ∃ l,l < n ∧ a.getD (i * n + l) 0 ≤ t ∧ b.getD (l * n + k) 0 ≤ t:=by
 unfold mulE
 rw [fold_le n (fun l => mx (a.getD (i * n + l) 0) (b.getD (l * n + k) 0)) 3 t]
 constructor
 ·rintro (h | ⟨l,h1,h2⟩)
  ·exact Or.inl h
  ·rw [mx_le] at h2;exact Or.inr ⟨l,h1,h2.1,h2.2⟩
 ·rintro (h | ⟨l,h1,h2,h3⟩)
  ·exact Or.inl h
  ·exact Or.inr ⟨l,h1,by rw [mx_le];exact ⟨h2,h3⟩⟩
theorem mulL_get (n : Nat) (a b : List Int) (i k : Nat) (hi : i < n) (hk : k < n) : (mulL n a b).getD (i * n + k) 0 = mulE n a b i k:=sqL_get n _ i k hi hk
theorem eq_of_le (x y : Int) (h : ∀ t,x ≤ t ↔ y ≤ t) : x = y:=by
 have h1:=(h y).mpr (Int.le_refl _)
 have h2:=(h x).mp (Int.le_refl _)
 omega
theorem mul_assoc' (n : Nat) (a b c : List Int) : mulL n (mulL n a b) c = mulL n a (mulL n b c):=by
 unfold mulL
 refine sqL_congr n _ _ (fun i k hi hk => eq_of_le _ _ (fun t => ?_))
 show mulE n (mulL n a b) c i k ≤ t ↔ mulE n a (mulL n b c) i k ≤ t
 rw [mulE_le,mulE_le]
 constructor
 ·rintro (h | ⟨l,hl,h1,h2⟩)
  ·exact Or.inl h
  ·rw [mulL_get n a b i l hi hl,mulE_le] at h1
   rcases h1 with h1 | ⟨m,hm,h3,h4⟩
   ·exact Or.inl h1
   ·refine Or.inr ⟨m,hm,h3,?_⟩
    rw [mulL_get n b c m k hm hk,mulE_le]
    exact Or.inr ⟨l,hl,h4,h2⟩
 ·rintro (h | ⟨m,hm,h1,h2⟩)
  ·exact Or.inl h
  ·rw [mulL_get n b c m k hm hk,mulE_le] at h2
   rcases h2 with h2 | ⟨l,hl,h3,h4⟩
   ·exact Or.inl h2
   ·refine Or.inr ⟨l,hl,?_,h4⟩
    rw [mulL_get n a b i l hi hl,mulE_le]
    exact Or.inr ⟨m,hm,h1,h3⟩
def pw (n : Nat) (l : List Int) : Nat → List Int
 | 0 => l
 | m + 1 => mulL n (pw n l m) l
theorem pw_add (n : Nat) (l : List Int) (a b : Nat) : mulL n (pw n l a) (pw n l b) = pw n l (a + b + 1):=by
 induction b with
 | zero => rfl
 | succ b ih => show mulL n (pw n l a) (mulL n (pw n l b) l) = mulL n (pw n l (a + (b + 1))) l;rw [← mul_assoc',ih];rfl
def Gr (l : List Int) : Prop := ∀ x ∈ l,0 ≤ x ∧ x ≤ 3
theorem gr_getD {l : List Int} (h : Gr l) (j : Nat) : 0 ≤ l.getD j 0 ∧ l.getD j 0 ≤ 3:=by
 rw [List.getD_eq_getElem?_getD]
 by_cases hj : j < l.length
 ·rw [List.getElem?_eq_getElem hj];exact h _ (List.getElem_mem hj)
 ·rw [List.getElem?_eq_none (by omega)];simp
theorem mulE_in (n : Nat) (a b : List Int) (ha : Gr a) (hb : Gr b) (i k : Nat) : 0 ≤ mulE n a b i k ∧ mulE n a b i k ≤ 3:=by
 constructor
 ·have h:=mulE_le n a b i k (-1)
  have : ¬ mulE n a b i k ≤ -1:=by
   rw [h]
   rintro (h | ⟨l,_,h1,_⟩)
   ·omega
   ·have:=(gr_getD ha (i * n + l)).1;omega
  omega
 ·rw [mulE_le];exact Or.inl (Int.le_refl _)
theorem mul_gr (n : Nat) (a b : List Int) (ha : Gr a) (hb : Gr b) : Gr (mulL n a b):=by
 intro x hx
 obtain ⟨j,hj,rfl⟩:=mem_tab.mp hx
 exact mulE_in n a b ha hb _ _
theorem pw_gr (n : Nat) (l : List Int) (h : Gr l) (m : Nat) : Gr (pw n l m):=by
 induction m with
 | zero => exact h
 | succ m ih => exact mul_gr n _ _ ih h
theorem pw_len (n : Nat) (l : List Int) (h : l.length = n * n) (m : Nat) : (pw n l m).length = n * n:=by
 cases m with
 | zero => exact h
 | succ m => exact mulL_length n _ _
theorem pigeon (N : Nat) : ∀ f : Nat → Nat,(∀ i,i ≤ N → f i < N) → ∃ i j,i < j ∧ j ≤ N ∧ f i = f j:=by
 induction N with
 | zero => intro f h;exact absurd (h 0 (Nat.le_refl _)) (by omega)
 | succ N ih =>
  intro f h
  by_cases e : ∃ i,i ≤ N ∧ f i = f (N + 1)
  ·obtain ⟨i,h1,h2⟩:=e
   exact ⟨i,N + 1,by omega,Nat.le_refl _,h2⟩
  ·have ne : ∀ i,i ≤ N → f i ≠ f (N + 1):=fun i hi he => e ⟨i,hi,he⟩
   obtain ⟨i,j,h1,h2,h3⟩:=ih (fun i => if f i > f (N + 1) then f i - 1 else f i) (fun i hi => by
    have a:=h i (by omega)
    have b:=h (N + 1) (Nat.le_refl _)
    have c:=ne i hi
    show (if f i > f (N + 1) then f i - 1 else f i) < N
    by_cases d : f i > f (N + 1)
    ·rw [if_pos d];omega
    ·rw [if_neg d];omega)
   refine ⟨i,j,h1,by omega,?_⟩
   have c1:=ne i (by omega)
   have c2:=ne j h2
   have h3' : (if f i > f (N + 1) then f i - 1 else f i) = (if f j > f (N + 1) then f j - 1 else f j):=h3
   by_cases d1 : f i > f (N + 1) <;> by_cases d2 : f j > f (N + 1)
   ·rw [if_pos d1,if_pos d2] at h3';omega
   ·rw [if_pos d1,if_neg d2] at h3';omega
   ·rw [if_neg d1,if_pos d2] at h3';omega
   ·rw [if_neg d1,if_neg d2] at h3';omega
def code : List Int → Nat
 | [] => 0
 | x :: t => x.toNat + 4 * code t
theorem code_lt (l : List Int) (h : Gr l) : code l < 4 ^ l.length:=by
 induction l with
 | nil => simp [code]
 | cons x t ih =>
  have h1:=h x (by simp)
  have h2:=ih (fun y hy => h y (by simp [hy]))
  rw [List.length_cons,Nat.pow_succ]
  simp only [code]
  omega
theorem code_inj (l : List Int) : ∀ m : List Int,Gr l → Gr m → l.length = m.length → code l = code m → l = m:=by
 induction l with
 | nil => intro m _ _ h _;cases m with
  | nil => rfl
  | cons => simp at h
 | cons x t ih =>
  intro m hl hm h e
  cases m with
  | nil => simp at h
  | cons y u =>
   have h1:=hl x (by simp)
   have h2:=hm y (by simp)
   simp only [code] at e
   have e1 : x = y:=by omega
   have e2 : code t = code u:=by omega
   rw [e1,ih u (fun z hz => hl z (by simp [hz])) (fun z hz => hm z (by simp [hz])) (by simpa using h) e2]
theorem pw_again (n : Nat) (l : List Int) (i d : Nat) (h : pw n l i = pw n l (i + d)) : ∀ m,i ≤ m → ∀ q,pw n l m = pw n l (m + q * d):=by
 have one : ∀ m,i ≤ m → pw n l m = pw n l (m + d):=by
  intro m hm
  obtain ⟨x,rfl⟩:=Nat.le.dest hm
  cases x with
  | zero => exact h
  | succ x =>
   have a:=pw_add n l i x
   have b:=pw_add n l (i + d) x
   rw [← h] at b
   have e : i + d + x + 1 = i + (x + 1) + d:=by omega
   rw [← e,← b,a];rfl
 intro m hm q
 induction q with
 | zero => simp
 | succ q ih =>
  rw [ih,one (m + q * d) (by omega)]
  congr 1
  rw [Nat.succ_mul];omega
theorem some_idem (n : Nat) (l : List Int) (hl : l.length = n * n) (hg : Gr l) : ∃ m,mulL n (pw n l m) (pw n l m) = pw n l m:=by
 obtain ⟨i,j,hij,_,he⟩:=pigeon (4 ^ (n * n)) (fun m => code (pw n l m)) (fun m _ => by
  have:=code_lt (pw n l m) (pw_gr n l hg m)
  rwa [pw_len n l hl m] at this)
 have he2 : pw n l i = pw n l j:=code_inj _ _ (pw_gr n l hg i) (pw_gr n l hg j) (by rw [pw_len n l hl,pw_len n l hl]) he
 obtain ⟨d,rfl⟩ : ∃ d,j = i + (d + 1):=⟨j - i - 1,by omega⟩
 have per:=pw_again n l i (d + 1) he2
 have hM : i ≤ (i + 1) * (d + 1) - 1:=by
  have : i + 1 ≤ (i + 1) * (d + 1):=Nat.le_mul_of_pos_right _ (by omega)
  omega
 have hp : 1 ≤ (i + 1) * (d + 1):=Nat.mul_pos (by omega) (by omega)
 refine ⟨(i + 1) * (d + 1) - 1,?_⟩
 rw [pw_add,per _ hM (i + 1)]
 congr 1
theorem least (P : Nat → Prop) (h : ∃ m,P m) : ∃ m,P m ∧ ∀ j,j < m → ¬ P j:=by
 obtain ⟨m,hm⟩:=h
 induction m using Nat.strongRecOn with
 | _ m ih =>
  by_cases e : ∃ j,j < m ∧ P j
  ·obtain ⟨j,h1,h2⟩:=e
   exact ih j h1 h2
  ·exact ⟨m,hm,fun j h1 h2 => e ⟨j,h1,h2⟩⟩
def ag (x : Int) : Int:=if x = 1 then 2 else x
def stE (n : Nat) (a : List Int) (i k : Nat) : Int:=(List.range n).foldl (fun acc l => mn acc (mx (mx (a.getD (i * n + l) 0) (ag (a.getD (l * n + l) 0))) (a.getD (l * n + k) 0))) 3
def stL (n : Nat) (a : List Int) : List Int:=sqL n (stE n a)
def stabR (n : Int) (l : List Int) : Int × List Int × Bool:=if Idem n l then (n,stL n.toNat l,true) else (0,[],false)
theorem stL_length (n : Nat) (a : List Int) : (stL n a).length = n * n:=by simp [stL,sqL,tab_length]
theorem stabR_len (n : Int) (l : List Int) : (stabR n l).2.1.length ≤ 16:=by
 unfold stabR
 by_cases g : Idem n l
 ·rw [if_pos g]
  obtain ⟨m,rfl⟩:=GV_nat g.1
  have:=sq_le m (GV_le g.1).1
  show (stL m l).length ≤ 16
  rw [stL_length];exact this
 ·rw [if_neg g];simp
theorem iStCell (n : Nat) (hn : n ≤ 4) (a : List Int) (ha : a.length = n * n) (i k : Nat) (hi : i < n) (hk : k < n) :
  Ev (fun K => impl_Stabilise_1.f K (i : Int) (k : Int) (n : Int) a) (stE n a i k):=by
 refine up_loop n (fun l K => impl_Stabilise_1.l0 K i k ((List.range l).foldl (fun acc l => mn acc (mx (mx (a.getD (i * n + l) 0) (ag (a.getD (l * n + l) 0))) (a.getD (l * n + k) 0))) 3) n (l : Int) n a) _ (fun l hl hs => ?_) ?_
 ·refine Ev.step (fun j => ?_) hs
  simp only [impl_Stabilise_1.l0]
  rw [if_pos (by omega),at_eq n hn a ha l l hl hl,Option.bind_some]
  by_cases e : a.getD (l * n + l) 0 = 1
  ·rw [if_pos e,at_eq n hn a ha i l hi hl,Option.bind_some,at_eq n hn a ha l k hl hk,Option.bind_some,w64 (x:=(l : Int) + 1) (by omega) (by omega),fold_snoc];unfold ag;rw [if_pos e];rfl
  ·rw [if_neg e,at_eq n hn a ha i l hi hl,Option.bind_some,at_eq n hn a ha l k hl hk,Option.bind_some,w64 (x:=(l : Int) + 1) (by omega) (by omega),fold_snoc];unfold ag;rw [if_neg e];rfl
 ·refine Ev.step (f:=fun _ => some (stE n a i k)) (fun j => ?_) (Ev.now _)
  simp only [impl_Stabilise_1.l0]
  rw [if_neg (by omega)];rfl
theorem iStab (n : Int) (l : List Int) (hl : l.length ≤ maxLen) : Ev (fun k => impl_Stabilise.f k n l) (stabR n l):=by
 unfold impl_Stabilise.f
 refine Ev.bind (iIdem n l hl) ?_
 by_cases g : Idem n l
 ·refine Ev_t (decide_eq_true g) ?_
  have e : stabR n l = (n,stL n.toNat l,true):=by unfold stabR;rw [if_pos g]
  rw [e]
  obtain ⟨m,rfl⟩:=GV_nat g.1
  refine Ev.bind (a:=((m : Int),stL m l)) ?_ (Ev.now _)
  unfold impl_filled_d.f
  exact filledG m (GV_le g.1).1 (stE m l) (fun K y0 y1 => impl_Stabilise_1.f K y0 y1 m l) (fun i hi k hk => iStCell m (GV_le g.1).1 l (GV_len g.1) i k hi hk) (fun k p q r y z => impl_filled_d.l0 k p q r m l y z) (fun k p q r u v x y z => impl_filled_d.l1 k p q r u v x m l y z) (fun _ _ _ _ _ _ => by simp only [impl_filled_d.l0]) (fun _ _ _ _ _ _ _ _ _ => by simp only [impl_filled_d.l1])
 ·refine Ev_f (by rw [decide_eq_false g];simp) ((Ev.now _).is ?_)
  unfold stabR;rw [if_neg g]
theorem sAgain (x : Int) : spec_l6Again.f x = some (ag x):=by
 unfold spec_l6Again.f ag
 by_cases e : x = 1
 ·rw [if_pos e,if_pos e]
 ·rw [if_neg e,if_neg e]
theorem idx3 (n l : Nat) (hn : n ≤ 4) (hl : l < n) : wrap64 (wrap64 ((l : Int) * (n : Int)) + (l : Int)) = ((l * n + l : Nat) : Int):=by
 have r2:=row_le n l hn (by omega)
 have : (l : Int) * (n : Int) = ((l * n : Nat) : Int):=by simp
 rw [this,w64 (x:=((l * n : Nat) : Int)) (by omega) (by omega),w64 (x:=((l * n : Nat) : Int) + (l : Int)) (by omega) (by omega)]
 simp
theorem sStab1 (n : Nat) (hn : n ≤ 4) (h0 : 1 ≤ n) (a : List Int) (hla : a.length = n * n) : Ev (fun k => spec_l6Stable.f k n a) ((n : Int),stL n a):=by
 have hs:=sq_le n hn
 have e0 : wrap64 ((n : Int) * (n : Int)) = ((n * n : Nat) : Int):=by
  have : (n : Int) * (n : Int) = ((n * n : Nat) : Int):=by simp
  rw [this,w64 (by omega) (by omega)]
 refine Ev.congr (f:=fun k => spec_l6Stable.l0 k ((n * n : Nat) : Int) ((0 : Nat) : Int) n a n (tab 0 (fun m => stE n a (m / n) (m % n)))) (fun k => ?_) ?_
 ·unfold spec_l6Stable.f;rw [e0];simp [tab]
 refine up_loop (n * n) (fun m k => spec_l6Stable.l0 k ((n * n : Nat) : Int) (m : Int) n a n (tab m (fun m => stE n a (m / n) (m % n)))) _ (fun m hm hnext => ?_) ?_
 ·have hi : m / n < n:=Nat.div_lt_of_lt_mul hm
  have hk : m % n < n:=Nat.mod_lt _ (by omega)
  refine Ev.step (f:=fun k => spec_l6Stable.l1 k m ((List.range 0).foldl (fun acc l => mn acc (mx (mx (a.getD (m / n * n + l) 0) (ag (a.getD (l * n + l) 0))) (a.getD (l * n + m % n) 0))) 3) ((n * n : Nat) : Int) m n ((0 : Nat) : Int) n a n (tab m (fun m => stE n a (m / n) (m % n)))) (fun k => ?_) ?_
  ·simp only [spec_l6Stable.l0];rw [if_pos (by omega)];rfl
  refine up_loop n (fun l k => spec_l6Stable.l1 k m ((List.range l).foldl (fun acc l => mn acc (mx (mx (a.getD (m / n * n + l) 0) (ag (a.getD (l * n + l) 0))) (a.getD (l * n + m % n) 0))) 3) ((n * n : Nat) : Int) m n (l : Int) n a n (tab m (fun m => stE n a (m / n) (m % n)))) _ (fun l hl hs2 => ?_) ?_
  ·refine Ev.step (fun j => ?_) hs2
   have c1:=cell_lt n (m / n) l hi hl
   have c2:=cell_lt n l (m % n) hl hk
   have c3:=cell_lt n l l hl hl
   have hA : (l : Int) < (n : Int):=by omega
   have hB : ¬ (n : Int) = 0:=by omega
   have hC : (((m / n * n + l : Nat)) : Int) < (a.length : Int):=by rw [hla];exact_mod_cast c1
   have hD : (((l * n + m % n : Nat)) : Int) < (a.length : Int):=by rw [hla];exact_mod_cast c2
   have hF : (((l * n + l : Nat)) : Int) < (a.length : Int):=by rw [hla];exact_mod_cast c3
   have hE : wrap64 ((l : Int) + 1) = ((l + 1 : Nat) : Int):=by rw [w64 (by omega) (by omega)];rfl
   have e1:=idx1 n m l hn hi hl
   have e2:=idx2 n m l hn hk hl
   have e3:=idx3 n l hn hl
   simp only [spec_l6Stable.l1]
   rw [if_pos hA,if_neg hB,e1,e2,e3,if_pos (Int.natCast_nonneg _),if_pos hC,if_pos (Int.natCast_nonneg _),if_pos hF,sAgain,Option.bind_some,if_pos (Int.natCast_nonneg _),if_pos hD,rd_nat,rd_nat,rd_nat,hE,fold_snoc]
  ·refine Ev.step (fun j => ?_) hnext
   simp only [spec_l6Stable.l1]
   rw [if_neg (by omega),tab_length,if_pos (by omega),w64 (x:=(m : Int) + 1) (by omega) (by omega)]
   have e : tab m (fun m => stE n a (m / n) (m % n)) ++ [stE n a (m / n) (m % n)] = tab (m + 1) (fun m => stE n a (m / n) (m % n)):=tab_snoc m (fun m => stE n a (m / n) (m % n))
   show spec_l6Stable.l0 j _ _ _ _ _ (tab m (fun m => stE n a (m / n) (m % n)) ++ [stE n a (m / n) (m % n)]) = _
   rw [e];rfl
 ·refine Ev.step (f:=fun _ => some ((n : Int),stL n a)) (fun j => ?_) (Ev.now _)
  simp only [spec_l6Stable.l0]
  rw [if_neg (by omega)];rfl
theorem MV_of {n : Nat} (h1 : 1 ≤ n) (h4 : n ≤ 4) (g : Nat → Nat → Int) (h : ∀ i k,i < n → k < n → 0 ≤ g i k ∧ g i k ≤ 1000000) : MV (n : Int) (sqL n g):=by
 refine ⟨by omega,by omega,?_,?_⟩
 ·unfold sqL;rw [tab_length];exact_mod_cast rfl
 ·intro x hx
  unfold sqL at hx
  obtain ⟨j,hj,rfl⟩:=mem_tab.mp hx
  exact h _ _ (Nat.div_lt_of_lt_mul hj) (Nat.mod_lt _ (by omega))
theorem MV_len {n : Nat} {l : List Int} (h : MV (n : Int) l) : l.length = n * n:=by
 have:=h.2.2.1
 exact_mod_cast this
theorem MV_at {n : Nat} {l : List Int} (h : MV (n : Int) l) (i k : Nat) (hi : i < n) (hk : k < n) : 0 ≤ l.getD (i * n + k) 0 ∧ l.getD (i * n + k) 0 ≤ 1000000:=by
 have hc:=cell_lt n i k hi hk
 have hl:=MV_len h
 rw [List.getD_eq_getElem?_getD,List.getElem?_eq_getElem (by omega)]
 exact h.2.2.2 _ (List.getElem_mem _)
theorem MV_max {n : Nat} {l : List Int} (h : MV (n : Int) l) : l.length ≤ maxLen:=by
 have h1:=h.2.1
 have:=sq_le n (by omega)
 have:=MV_len h
 rw [maxLen_eq];omega
theorem sUnit (n : Nat) (h1 : 1 ≤ n) (h4 : n ≤ 4) : Ev (fun k => spec_l2Unit.f k (n : Int)) ((n : Int),sqL n unitE):=by
 have hs:=sq_le n h4
 have e0 : wrap64 ((n : Int) * (n : Int)) = ((n * n : Nat) : Int):=by
  have : (n : Int) * (n : Int) = ((n * n : Nat) : Int):=by simp
  rw [this,w64 (by omega) (by omega)]
 refine Ev.congr (f:=fun k => spec_l2Unit.l0 k (n : Int) ((n * n : Nat) : Int) ((0 : Nat) : Int) n (tab 0 (fun m => unitE (m / n) (m % n)))) (fun k => ?_) ?_
 ·unfold spec_l2Unit.f;rw [e0];simp [tab]
 refine up_loop (n * n) (fun m k => spec_l2Unit.l0 k (n : Int) ((n * n : Nat) : Int) (m : Int) n (tab m (fun m => unitE (m / n) (m % n)))) _ (fun m hm hnext => ?_) ?_
 ·have hi : m / n < n:=Nat.div_lt_of_lt_mul hm
  have e1 : wrap64 (Int.tdiv (m : Int) (n : Int)) = ((m / n : Nat) : Int):=by
   rw [tdiv_nat]
   obtain ⟨q,hq⟩ : ∃ q : Nat,m / n = q:=⟨_,rfl⟩
   rw [hq] at hi ⊢
   exact w64 (by omega) (by omega)
  have e2 : Int.tmod (m : Int) (n : Int) = ((m % n : Nat) : Int):=tmod_nat m n
  have e : tab m (fun m => unitE (m / n) (m % n)) ++ [unitE (m / n) (m % n)] = tab (m + 1) (fun m => unitE (m / n) (m % n)):=tab_snoc m (fun m => unitE (m / n) (m % n))
  refine Ev.step (fun k => ?_) hnext
  simp only [spec_l2Unit.l0]
  rw [if_pos (by omega),if_neg (by omega),e1,e2,tab_length]
  by_cases h : m / n = m % n
  ·have hu : unitE (m / n) (m % n) = 0:=by unfold unitE;rw [if_pos h]
   rw [hu] at e
   rw [if_pos (by rw [h]),if_pos (by omega),w64 (by omega) (by omega),e];rfl
  ·have hu : unitE (m / n) (m % n) = 1000000:=by unfold unitE;rw [if_neg h]
   rw [hu] at e
   rw [if_neg (by intro g;exact h (by exact_mod_cast g)),if_pos (by omega),w64 (by omega) (by omega),e];rfl
 ·refine Ev.step (f:=fun _ => some ((n : Int),sqL n unitE)) (fun j => ?_) (Ev.now _)
  simp only [spec_l2Unit.l0]
  rw [if_neg (by omega)];rfl
def stepL (n : Nat) (c : List UInt8) (t : List Stp) (l : List Int) : List Int:=t.foldl (fun (l : List Int) (s : Stp) => if s.f1.toList = c then l.set (s.f0 * (n : Int) + s.f2).toNat s.f3 else l) l
def cst (n : Nat) : List Int:=List.replicate (n * n) 1000000
theorem stepL_len (n : Nat) (c : List UInt8) : ∀ (t : List Stp) (l : List Int),(stepL n c t l).length = l.length:=by
 intro t
 induction t with
 | nil => intro l;rfl
 | cons s t ih =>
  intro l
  show (stepL n c t (if s.f1.toList = c then l.set (s.f0 * n + s.f2).toNat s.f3 else l)).length = l.length
  rw [ih]
  by_cases h : s.f1.toList = c
  ·rw [if_pos h,List.length_set]
  ·rw [if_neg h]
theorem stp_mem {n : Int} : ∀ {t : List Stp} {p : Option Stp},stp n p t = true → ∀ x ∈ t,stepOk n x = true
 | [],_,_,x,hx => by cases hx
 | y :: t,p,h,x,hx => by
  simp only [stp,Bool.and_eq_true] at h
  rcases List.mem_cons.mp hx with rfl|hx
  ·exact h.1.1
  ·exact stp_mem h.2 x hx
theorem stepL_MV (n : Nat) (h1 : 1 ≤ n) (h4 : n ≤ 4) (c : List UInt8) : ∀ (t : List Stp) (l : List Int),(∀ x ∈ t,stepOk n x = true) → MV (n : Int) l → MV (n : Int) (stepL n c t l):=by
 intro t
 induction t with
 | nil => intro l _ h;exact h
 | cons s t ih =>
  intro l ht h
  show MV (n : Int) (stepL n c t (if s.f1.toList = c then l.set (s.f0 * n + s.f2).toNat s.f3 else l))
  refine ih _ (fun x hx => ht x (List.mem_cons_of_mem _ hx)) ?_
  by_cases e : s.f1.toList = c
  ·rw [if_pos e]
   refine ⟨h.1,h.2.1,by rw [List.length_set];exact h.2.2.1,fun x hx => ?_⟩
   rcases List.mem_or_eq_of_mem_set hx with hx|rfl
   ·exact h.2.2.2 x hx
   ·have o:=of_decide_eq_true (show decide _ = true from ht s (by simp));omega
  ·rw [if_neg e];exact h
theorem cst_MV (n : Nat) (h1 : 1 ≤ n) (h4 : n ≤ 4) : MV (n : Int) (cst n):=by
 refine ⟨by omega,by omega,?_,fun x hx => ?_⟩
 ·unfold cst;rw [List.length_replicate];exact_mod_cast rfl
 ·rw [(List.mem_replicate.mp hx).2];omega
theorem cst_sq (n : Nat) : sqL n (fun _ _ => 1000000) = cst n:=by
 unfold sqL tab cst
 rw [List.map_const',List.length_range]
theorem iStepLoop (n : Nat) (h1 : 1 ≤ n) (h4 : n ≤ 4) (s f : List Int) (x : ByteArray) (t : List Stp) (ht : ∀ y ∈ t,stepOk n y = true) (hl : t.length ≤ 1000000000) (l : List Int) (hc : l.length = n * n) :
  Ev (fun k => impl_StepMatrix.l0 k x t (t.length : Int) 0 n l) ((n : Int),stepL n x.toList t l,true):=by
 have go : ∀ (u pre : List Stp) (l : List Int),t = pre ++ u → l.length = n * n → Ev (fun k => impl_StepMatrix.l0 k x t (t.length : Int) (pre.length : Int) n l) ((n : Int),stepL n x.toList u l,true):=by
  intro u
  induction u with
  | nil =>
   intro pre l hp _
   refine Ev.step (f:=fun _ => some ((n : Int),l,true)) (fun k => ?_) (Ev.now _)
   simp only [impl_StepMatrix.l0];rw [if_neg (by rw [hp];simp)]
  | cons y u ih =>
   intro pre l hp hc
   have hlen : t.length = pre.length + (u.length + 1):=by rw [hp];simp
   have hx : rdT t (pre.length : Int) = y:=by rw [hp,rdS_mid]
   have o:=of_decide_eq_true (show decide _ = true from ht y (by rw [hp];simp))
   have c:=cellZ (n:=(n : Int)) (i:=y.f0) (k:=y.f2) (by omega) (by omega) (by omega)
   have cw:=cellW (n:=(n : Int)) (i:=y.f0) (k:=y.f2) (by omega) (by omega) (by omega)
   have hc2 : (l.length : Int) = (n : Int) * (n : Int):=by rw [hc];simp
   by_cases e : y.f1.toList = x.toList
   ·refine Ev.step (fun k => ?_) ((ih (pre ++ [y]) (l.set (y.f0 * n + y.f2).toNat y.f3) (by simp [hp]) (by rw [List.length_set];exact hc)).is ?_)
    ·simp only [impl_StepMatrix.l0]
     rw [if_pos (by omega),if_pos (by omega),if_pos (by omega),hx,if_pos e,cw,if_pos (by omega),if_pos (by omega),w64 (x:=(pre.length : Int) + 1) (by omega) (by omega),snocA]
    ·show _ = ((n : Int),stepL n x.toList u (if y.f1.toList = x.toList then l.set (y.f0 * n + y.f2).toNat y.f3 else l),true)
     rw [if_pos e]
   ·refine Ev.step (fun k => ?_) ((ih (pre ++ [y]) l (by simp [hp]) hc).is ?_)
    ·simp only [impl_StepMatrix.l0]
     rw [if_pos (by omega),if_pos (by omega),if_pos (by omega),hx,if_neg e,w64 (x:=(pre.length : Int) + 1) (by omega) (by omega),snocA]
    ·show _ = ((n : Int),stepL n x.toList u (if y.f1.toList = x.toList then l.set (y.f0 * n + y.f2).toNat y.f3 else l),true)
     rw [if_neg e]
 exact go t [] l rfl hc
theorem sStepLoop (n : Nat) (h1 : 1 ≤ n) (h4 : n ≤ 4) (s f : List Int) (x : ByteArray) (t : List Stp) (ht : ∀ y ∈ t,stepOk n y = true) (hl : t.length ≤ 1000000000) (l : List Int) (hc : l.length = n * n) :
  Ev (fun k => spec_l3Matrix.l1 k x t (t.length : Int) 0 n s f t n l) ((n : Int),stepL n x.toList t l):=by
 have go : ∀ (u pre : List Stp) (l : List Int),t = pre ++ u → l.length = n * n → Ev (fun k => spec_l3Matrix.l1 k x t (t.length : Int) (pre.length : Int) n s f t n l) ((n : Int),stepL n x.toList u l):=by
  intro u
  induction u with
  | nil =>
   intro pre l hp _
   refine Ev.step (f:=fun _ => some ((n : Int),l)) (fun k => ?_) (Ev.now _)
   simp only [spec_l3Matrix.l1];rw [if_neg (by rw [hp];simp)]
  | cons y u ih =>
   intro pre l hp hc
   have hlen : t.length = pre.length + (u.length + 1):=by rw [hp];simp
   have hx : rdT t (pre.length : Int) = y:=by rw [hp,rdS_mid]
   have o:=of_decide_eq_true (show decide _ = true from ht y (by rw [hp];simp))
   have c:=cellZ (n:=(n : Int)) (i:=y.f0) (k:=y.f2) (by omega) (by omega) (by omega)
   have cw:=cellW (n:=(n : Int)) (i:=y.f0) (k:=y.f2) (by omega) (by omega) (by omega)
   have hc2 : (l.length : Int) = (n : Int) * (n : Int):=by rw [hc];simp
   by_cases e : y.f1.toList = x.toList
   ·refine Ev.step (fun k => ?_) ((ih (pre ++ [y]) (l.set (y.f0 * n + y.f2).toNat y.f3) (by simp [hp]) (by rw [List.length_set];exact hc)).is ?_)
    ·simp only [spec_l3Matrix.l1]
     rw [if_pos (by omega),if_pos (by omega),if_pos (by omega),hx,if_pos e,cw,if_pos (by omega),if_pos (by omega),w64 (x:=(pre.length : Int) + 1) (by omega) (by omega),snocA]
    ·show _ = ((n : Int),stepL n x.toList u (if y.f1.toList = x.toList then l.set (y.f0 * n + y.f2).toNat y.f3 else l))
     rw [if_pos e]
   ·refine Ev.step (fun k => ?_) ((ih (pre ++ [y]) l (by simp [hp]) hc).is ?_)
    ·simp only [spec_l3Matrix.l1]
     rw [if_pos (by omega),if_pos (by omega),if_pos (by omega),hx,if_neg e,w64 (x:=(pre.length : Int) + 1) (by omega) (by omega),snocA]
    ·show _ = ((n : Int),stepL n x.toList u (if y.f1.toList = x.toList then l.set (y.f0 * n + y.f2).toNat y.f3 else l))
     rw [if_neg e]
 exact go t [] l rfl hc
theorem sLetter (n : Nat) (h1 : 1 ≤ n) (h4 : n ≤ 4) (s f : List Int) (x : ByteArray) (t : List Stp) (ht : ∀ y ∈ t,stepOk n y = true) (hl : t.length ≤ 1000000000) :
  Ev (fun k => spec_l3Matrix.f k n s f t x) ((n : Int),stepL n x.toList t (cst n)):=by
 have hs:=sq_le n h4
 have e0 : wrap64 ((n : Int) * (n : Int)) = ((n * n : Nat) : Int):=by
  have : (n : Int) * (n : Int) = ((n * n : Nat) : Int):=by simp
  rw [this,w64 (by omega) (by omega)]
 refine Ev.congr (f:=fun k => spec_l3Matrix.l0 k x ((n * n : Nat) : Int) ((0 : Nat) : Int) n s f t n (List.replicate 0 1000000)) (fun k => ?_) ?_
 ·unfold spec_l3Matrix.f;rw [e0];rfl
 refine up_loop (n * n) (fun m k => spec_l3Matrix.l0 k x ((n * n : Nat) : Int) (m : Int) n s f t n (List.replicate m 1000000)) _ (fun m hm hnext => ?_) ?_
 ·refine Ev.step (fun k => ?_) hnext
  simp only [spec_l3Matrix.l0]
  rw [if_pos (by omega),List.length_replicate,if_pos (by omega),w64 (by omega) (by omega),← List.replicate_succ'];rfl
 ·refine Ev.step (fun k => ?_) (sStepLoop n h1 h4 s f x t ht hl (cst n) (by unfold cst;rw [List.length_replicate]))
  simp only [spec_l3Matrix.l0]
  rw [if_neg (by omega)];rfl
theorem iLetter (n : Nat) (s f : List Int) (x : ByteArray) (t : List Stp) (hv : AV n s f t = true) (hs : s.length ≤ 1000000000) (hf : f.length ≤ 1000000000) (hl : t.length ≤ 1000000000) (hx : x.toList = ([97] : List UInt8) ∨ x.toList = ([98] : List UInt8)) :
  Ev (fun k => impl_StepMatrix.f k n s f t x) ((n : Int),stepL n x.toList t (cst n),true):=by
 obtain ⟨h1,h2,h3,h4,h5⟩:=AV_parts hv
 unfold impl_StepMatrix.f
 refine Ev.bind (iAV n s f t hs hf hl) (Ev_t hv ?_)
 have fl : Ev (fun k => impl_filled.f k (n : Int)) ((n : Int),cst n):=by
  unfold impl_filled.f
  have:=filledG n (by omega) (fun _ _ => 1000000) (fun K y0 y1 => impl_StepMatrix_1.f y0 y1) (fun i _ k _ => ev_some (fun K => rfl)) (fun k p q r y z => impl_filled.l0 k p q r y z) (fun k p q r u v x y z => impl_filled.l1 k p q r u v x y z) (fun _ _ _ _ _ _ => by simp only [impl_filled.l0]) (fun _ _ _ _ _ _ _ _ _ => by simp only [impl_filled.l1])
  rw [cst_sq] at this
  exact this
 have st:=iStepLoop n (by omega) (by omega) s f x t (stp_mem h5) hl (cst n) (by unfold cst;rw [List.length_replicate])
 by_cases e : x.toList = ([97] : List UInt8)
 ·exact Ev_t e (Ev.bind fl st)
 ·exact Ev_f e (Ev_t (hx.resolve_left e) (Ev.bind fl st))
def letL (n : Nat) (t : List Stp) (c : UInt8) : List Int:=stepL n [c] t (cst n)
theorem letL_MV (n : Nat) (h1 : 1 ≤ n) (h4 : n ≤ 4) (t : List Stp) (ht : ∀ y ∈ t,stepOk n y = true) (c : UInt8) : MV (n : Int) (letL n t c):=stepL_MV n h1 h4 [c] t (cst n) ht (cst_MV n h1 h4)
def gr (x : Int) : Int:=if x = 0 then 0 else if x = 1000000 then 3 else 1
def gradesR (n : Int) (l : List Int) : Int × List Int × Bool:=if MV n l then (n,l.map gr,true) else (0,[],false)
theorem gradesR_len (n : Int) (l : List Int) (h : l.length ≤ 1048576) : (gradesR n l).2.1.length ≤ 1048576:=by
 unfold gradesR
 by_cases g : MV n l
 ·rw [if_pos g];simpa using h
 ·rw [if_neg g];simp
theorem iGrades (n : Int) (l : List Int) (hl : l.length ≤ maxLen) : Ev (fun k => impl_GradesOf.f k n l) (gradesR n l):=by
 unfold impl_GradesOf.f
 refine Ev.bind (iMV n l hl) ?_
 by_cases g : MV n l
 ·refine Ev_t (decide_eq_true g) ?_
  have e : gradesR n l = (n,l.map gr,true):=by unfold gradesR;rw [if_pos g]
  rw [e]
  obtain ⟨m,rfl,h1,h4,hs⟩:=MV_nat g
  have em : l.map gr = sqL m (fun i k => gr (l.getD (i * m + k) 0)):=by
   rw [eq_sqL m (l.map gr) (by simpa using hs)]
   refine sqL_congr m _ _ (fun i k hi hk => ?_)
   have hc:=cell_lt m i k hi hk
   have hc' : i * m + k < l.length:=by omega
   simp [List.getD_eq_getElem?_getD,List.getElem?_eq_getElem hc']
  rw [em]
  refine Ev.bind (a:=((m : Int),sqL m (fun i k => gr (l.getD (i * m + k) 0)))) ?_ (Ev.now _)
  unfold impl_filled_b.f
  refine filledG m h4 (fun i k => gr (l.getD (i * m + k) 0)) (fun K y0 y1 => impl_GradesOf_1.f y0 y1 m l) (fun i hi k hk => ev_some (fun K => ?_)) (fun k p q r y z => impl_filled_b.l0 k p q r m l y z) (fun k p q r u v x y z => impl_filled_b.l1 k p q r u v x m l y z) (fun _ _ _ _ _ _ => by simp only [impl_filled_b.l0]) (fun _ _ _ _ _ _ _ _ _ => by simp only [impl_filled_b.l1])
  unfold impl_GradesOf_1.f gr
  rw [at_eq m h4 l hs i k hi hk,Option.bind_some]
  by_cases a : l.getD (i * m + k) 0 = 0
  ·rw [if_pos a,if_pos a]
  ·rw [if_neg a,if_neg a]
   by_cases b : l.getD (i * m + k) 0 = 1000000
   ·rw [if_pos b,if_pos b]
   ·rw [if_neg b,if_neg b]
 ·refine Ev_f (by rw [decide_eq_false g];simp) ((Ev.now _).is ?_)
  unfold gradesR;rw [if_neg g]
theorem sGradesL (n : Int) (l : List Int) (hl : l.length ≤ 1048576) : Ev (fun k => spec_l6Grades.f k n l) (n,l.map gr):=by
 have go : ∀ (t pre : List Int),l = pre ++ t → Ev (fun k => spec_l6Grades.l0 k l (l.length : Int) (pre.length : Int) n (pre.map gr)) (n,l.map gr):=by
  intro t
  induction t with
  | nil =>
   intro pre hp
   refine Ev.step (f:=fun _ => some (n,pre.map gr)) (fun k => ?_) ((Ev.now _).is (by rw [hp];simp))
   simp only [spec_l6Grades.l0];rw [if_neg (by rw [hp];simp)]
  | cons x t ih =>
   intro pre hp
   have hlen : l.length = pre.length + (t.length + 1):=by rw [hp];simp
   have hx : rdI l (pre.length : Int) = x:=by rw [hp,rd_mid]
   have hi:=ih (pre ++ [x]) (by simp [hp])
   refine Ev.step (fun k => ?_) hi
   simp only [spec_l6Grades.l0]
   rw [if_pos (by omega),if_pos (by omega),if_pos (by omega),hx,w64 (x:=(pre.length : Int) + 1) (by omega) (by omega),snoc_len,List.map_append,List.map_cons,List.map_nil]
   have hm : (pre.map gr).length < 17592186044416:=by rw [List.length_map];omega
   by_cases a : x = 0
   ·have e : gr x = 0:=by unfold gr;rw [if_pos a]
    rw [if_pos a,if_pos hm,e]
   ·rw [if_neg a]
    by_cases b : x = 1000000
    ·have e : gr x = 3:=by unfold gr;rw [if_neg a,if_pos b]
     rw [if_pos b,if_pos hm,e]
    ·have e : gr x = 1:=by unfold gr;rw [if_neg a,if_neg b]
     rw [if_neg b,if_pos hm,e]
 exact go l [] rfl
theorem GV_iff (n : Nat) (l : List Int) : GV n l ↔ 1 ≤ n ∧ n ≤ 4 ∧ l.length = n * n ∧ Gr l:=by
 constructor
 ·intro h
  refine ⟨(GV_le h).2,(GV_le h).1,GV_len h,fun x hx => ⟨(h.1.2.2.2 x hx).1,h.2 x hx⟩⟩
 ·rintro ⟨h1,h2,h3,h4⟩
  refine ⟨⟨by omega,by omega,by rw [h3];simp,fun x hx => ⟨(h4 x hx).1,?_⟩⟩,fun x hx => (h4 x hx).2⟩
  have:=(h4 x hx).2
  omega
theorem GV_mul (n : Nat) (a b : List Int) (ha : GV n a) (hb : GV n b) : GV n (mulL n a b):=by
 rw [GV_iff] at ha hb ⊢
 exact ⟨ha.1,ha.2.1,mulL_length n a b,mul_gr n a b ha.2.2.2 hb.2.2.2⟩
theorem big16 {n : Nat} {l : List Int} (h : GV n l) : l.length ≤ maxLen:=by have:=len_of_GV h;rw [maxLen_eq];omega
theorem unit_gr (n : Nat) : (sqL n unitE).map gr = sqL n oneE:=by
 unfold sqL tab
 rw [List.map_map]
 refine List.map_congr_left (fun m _ => ?_)
 show gr (unitE (m / n) (m % n)) = oneE (m / n) (m % n)
 unfold unitE oneE gr
 by_cases e : m / n = m % n
 ·rw [if_pos e,if_pos e];rfl
 ·rw [if_neg e,if_neg e];rfl
theorem one_GV (n : Nat) (h1 : 1 ≤ n) (h4 : n ≤ 4) : GV (n : Int) (sqL n oneE):=by
 refine ⟨⟨by omega,by omega,?_,?_⟩,?_⟩
 ·unfold sqL;rw [tab_length];exact_mod_cast rfl
 ·intro x hx
  unfold sqL tab at hx
  obtain ⟨m,_,rfl⟩:=List.mem_map.mp hx
  unfold oneE
  by_cases e : m / n = m % n
  ·simp only [e,if_true];omega
  ·rw [if_neg e];omega
 ·intro x hx
  unfold sqL tab at hx
  obtain ⟨m,_,rfl⟩:=List.mem_map.mp hx
  unfold oneE
  by_cases e : m / n = m % n
  ·simp only [e,if_true];omega
  ·rw [if_neg e];omega
theorem mul_one' (n : Nat) (a : List Int) (h : GV (n : Int) a) : mulL n a (sqL n oneE) = a:=by
 have hg : Gr a:=fun x hx => ⟨(h.1.2.2.2 x hx).1,h.2 x hx⟩
 conv => rhs;rw [eq_sqL n a (GV_len h)]
 unfold mulL
 refine sqL_congr n _ _ (fun i k hi hk => ?_)
 refine eq_of_le _ _ (fun t => ?_)
 rw [mulE_le]
 have hb:=gr_getD hg (i * n + k)
 constructor
 ·rintro (h3 | ⟨l,hl,h1,h2⟩)
  ·omega
  ·rw [sqL_get n oneE l k hl hk] at h2
   unfold oneE at h2
   by_cases e : l = k
   ·subst e;exact h1
   ·rw [if_neg e] at h2;omega
 ·intro ht
  refine Or.inr ⟨k,hk,ht,?_⟩
  rw [sqL_get n oneE k k hk hk]
  unfold oneE
  rw [if_pos rfl];omega
theorem one_mul' (n : Nat) (a : List Int) (h : GV (n : Int) a) : mulL n (sqL n oneE) a = a:=by
 have hg : Gr a:=fun x hx => ⟨(h.1.2.2.2 x hx).1,h.2 x hx⟩
 conv => rhs;rw [eq_sqL n a (GV_len h)]
 unfold mulL
 refine sqL_congr n _ _ (fun i k hi hk => ?_)
 refine eq_of_le _ _ (fun t => ?_)
 rw [mulE_le]
 have hb:=gr_getD hg (i * n + k)
 constructor
 ·rintro (h3 | ⟨l,hl,h1,h2⟩)
  ·omega
  ·rw [sqL_get n oneE i l hi hl] at h1
   unfold oneE at h1
   by_cases e : i = l
   ·subst e;exact h2
   ·rw [if_neg e] at h1;omega
 ·intro ht
  refine Or.inr ⟨i,hi,?_,ht⟩
  rw [sqL_get n oneE i i hi hi]
  unfold oneE
  rw [if_pos rfl];omega
theorem stE_le (n : Nat) (a : List Int) (i k : Nat) (t : Int) : stE n a i k ≤ t ↔ 3 ≤ t ∨ ∃ l,l < n ∧ a.getD (i * n + l) 0 ≤ t ∧ ag (a.getD (l * n + l) 0) ≤ t ∧ a.getD (l * n + k) 0 ≤ t:=by
 unfold stE
 rw [fold_le n (fun l => mx (mx (a.getD (i * n + l) 0) (ag (a.getD (l * n + l) 0))) (a.getD (l * n + k) 0)) 3 t]
 constructor
 ·rintro (h | ⟨l,h1,h2⟩)
  ·exact Or.inl h
  ·rw [mx_le,mx_le] at h2;exact Or.inr ⟨l,h1,h2.1.1,h2.1.2,h2.2⟩
 ·rintro (h | ⟨l,h1,h2,h3,h4⟩)
  ·exact Or.inl h
  ·exact Or.inr ⟨l,h1,by rw [mx_le,mx_le];exact ⟨⟨h2,h3⟩,h4⟩⟩
theorem ag_ge (x : Int) : x ≤ ag x:=by unfold ag;by_cases h : x = 1 <;> simp only [h,if_true,if_false] <;> omega
theorem ag_mono (x y : Int) (h : x ≤ y) : ag x ≤ ag y:=by
 unfold ag
 by_cases h1 : x = 1
 ·rw [if_pos h1];by_cases h2 : y = 1
  ·rw [if_pos h2];omega
  ·rw [if_neg h2];omega
 ·rw [if_neg h1];by_cases h2 : y = 1
  ·rw [if_pos h2];omega
  ·rw [if_neg h2];omega
theorem ag_ag (x : Int) : ag (ag x) = ag x:=by
 unfold ag
 by_cases h1 : x = 1
 ·rw [if_pos h1,if_neg (by omega)]
 ·rw [if_neg h1,if_neg h1]
theorem ag_le2 (x : Int) (h : x ≤ 2) : ag x ≤ 2:=by
 unfold ag
 by_cases h1 : x = 1
 ·rw [if_pos h1];omega
 ·rw [if_neg h1];exact h
section
variable {n : Nat} {a : List Int}
theorem st_get (i k : Nat) (hi : i < n) (hk : k < n) : (stL n a).getD (i * n + k) 0 = stE n a i k:=sqL_get n _ i k hi hk
theorem idem_le (h : mulL n a a = a) (i k : Nat) (hi : i < n) (hk : k < n) (t : Int) : a.getD (i * n + k) 0 ≤ t ↔ 3 ≤ t ∨ ∃ l,l < n ∧ a.getD (i * n + l) 0 ≤ t ∧ a.getD (l * n + k) 0 ≤ t:=by
 rw [← mulE_le,← mulL_get n a a i k hi hk,h]
theorem trans_le (h : mulL n a a = a) (i l k : Nat) (hi : i < n) (hl : l < n) (hk : k < n) (t : Int) (h1 : a.getD (i * n + l) 0 ≤ t) (h2 : a.getD (l * n + k) 0 ≤ t) : a.getD (i * n + k) 0 ≤ t :=
 (idem_le h i k hi hk t).mpr (Or.inr ⟨l,hl,h1,h2⟩)
theorem st_left (h : mulL n a a = a) : mulL n a (stL n a) = stL n a:=by
 refine sqL_congr n _ _ (fun i k hi hk => eq_of_le _ _ (fun t => ?_))
 rw [mulE_le,stE_le]
 constructor
 ·rintro (h1 | ⟨j,hj,h1,h2⟩)
  ·exact Or.inl h1
  ·rw [st_get j k hj hk,stE_le] at h2
   rcases h2 with h2 | ⟨l,hl,h2,h3,h4⟩
   ·exact Or.inl h2
   ·exact Or.inr ⟨l,hl,trans_le h i j l hi hj hl t h1 h2,h3,h4⟩
 ·rintro (h1 | ⟨l,hl,h1,h2,h3⟩)
  ·exact Or.inl h1
  ·rcases (idem_le h i l hi hl t).mp h1 with h4 | ⟨j,hj,h4,h5⟩
   ·exact Or.inl h4
   ·exact Or.inr ⟨j,hj,h4,by rw [st_get j k hj hk,stE_le];exact Or.inr ⟨l,hl,h5,h2,h3⟩⟩
theorem st_right (h : mulL n a a = a) : mulL n (stL n a) a = stL n a:=by
 refine sqL_congr n _ _ (fun i k hi hk => eq_of_le _ _ (fun t => ?_))
 rw [mulE_le,stE_le]
 constructor
 ·rintro (h1 | ⟨j,hj,h1,h2⟩)
  ·exact Or.inl h1
  ·rw [st_get i j hi hj,stE_le] at h1
   rcases h1 with h1 | ⟨l,hl,h1,h3,h4⟩
   ·exact Or.inl h1
   ·exact Or.inr ⟨l,hl,h1,h3,trans_le h l j k hl hj hk t h4 h2⟩
 ·rintro (h1 | ⟨l,hl,h1,h2,h3⟩)
  ·exact Or.inl h1
  ·rcases (idem_le h l k hl hk t).mp h3 with h4 | ⟨j,hj,h4,h5⟩
   ·exact Or.inl h4
   ·exact Or.inr ⟨j,hj,by rw [st_get i j hi hj,stE_le];exact Or.inr ⟨l,hl,h1,h2,h4⟩,h5⟩
theorem st_mid (h : mulL n a a = a) (i l k : Nat) (hi : i < n) (hl : l < n) (hk : k < n) (t : Int) (h1 : a.getD (i * n + l) 0 ≤ t) (h2 : ag (a.getD (l * n + l) 0) ≤ t) (h3 : a.getD (l * n + k) 0 ≤ t) :
  stE n a i l ≤ t ∧ stE n a l k ≤ t:=by
 have h4 : a.getD (l * n + l) 0 ≤ t:=Int.le_trans (ag_ge _) h2
 exact ⟨by rw [stE_le];exact Or.inr ⟨l,hl,h1,h2,h4⟩,by rw [stE_le];exact Or.inr ⟨l,hl,h4,h2,h3⟩⟩
theorem st_idem (h : mulL n a a = a) : mulL n (stL n a) (stL n a) = stL n a:=by
 refine sqL_congr n _ _ (fun i k hi hk => eq_of_le _ _ (fun t => ?_))
 rw [mulE_le]
 constructor
 ·rintro (h1 | ⟨j,hj,h1,h2⟩)
  ·rw [stE_le];exact Or.inl h1
  ·rw [st_get i j hi hj,stE_le] at h1
   rw [st_get j k hj hk,stE_le] at h2
   rw [stE_le]
   rcases h1 with h1 | ⟨l,hl,h1,h3,h4⟩
   ·exact Or.inl h1
   ·rcases h2 with h2 | ⟨m,hm,h5,h6,h7⟩
    ·exact Or.inl h2
    ·exact Or.inr ⟨l,hl,h1,h3,trans_le h l m k hl hm hk t (trans_le h l j m hl hj hm t h4 h5) h7⟩
 ·intro h1
  rw [stE_le] at h1
  rcases h1 with h1 | ⟨l,hl,h1,h2,h3⟩
  ·exact Or.inl h1
  ·obtain ⟨x,y⟩:=st_mid h i l k hi hl hk t h1 h2 h3
   exact Or.inr ⟨l,hl,by rw [st_get i l hi hl];exact x,by rw [st_get l k hl hk];exact y⟩
theorem st_st (h : mulL n a a = a) : stL n (stL n a) = stL n a:=by
 refine sqL_congr n _ _ (fun i k hi hk => eq_of_le _ _ (fun t => ?_))
 rw [stE_le]
 constructor
 ·rintro (h1 | ⟨l,hl,h1,h2,h3⟩)
  ·rw [stE_le];exact Or.inl h1
  ·rw [← st_get i k hi hk]
   exact trans_le (st_idem h) i l k hi hl hk t h1 h3
 ·intro h1
  rw [stE_le] at h1
  rcases h1 with h1 | ⟨l,hl,h1,h2,h3⟩
  ·exact Or.inl h1
  ·obtain ⟨x,y⟩:=st_mid h i l k hi hl hk t h1 h2 h3
   refine Or.inr ⟨l,hl,by rw [st_get i l hi hl];exact x,?_,by rw [st_get l k hl hk];exact y⟩
   rw [st_get l l hl hl]
   have z : stE n a l l ≤ ag (a.getD (l * n + l) 0):=by
    rw [stE_le];exact Or.inr ⟨l,hl,ag_ge _,Int.le_refl _,ag_ge _⟩
   have w:=ag_mono _ _ z
   rw [ag_ag] at w
   exact Int.le_trans w h2
theorem st_ge (h : mulL n a a = a) (hg : Gr a) (i k : Nat) (hi : i < n) (hk : k < n) : a.getD (i * n + k) 0 ≤ stE n a i k:=by
 have h1:=(stE_le n a i k (stE n a i k)).mp (Int.le_refl _)
 rcases h1 with h1 | ⟨l,hl,h1,_,h3⟩
 ·have:=(gr_getD hg (i * n + k)).2;omega
 ·exact trans_le h i l k hi hl hk _ h1 h3
theorem loop_at (h : mulL n a a = a) (i k : Nat) (hi : i < n) (hk : k < n) (h2 : a.getD (i * n + k) 0 ≤ 2) : ∃ l,l < n ∧ a.getD (i * n + l) 0 ≤ 2 ∧ a.getD (l * n + l) 0 ≤ 2 ∧ a.getD (l * n + k) 0 ≤ 2:=by
 let P : Nat → Prop:=fun x => x < n ∧ a.getD (i * n + x) 0 ≤ 2 ∧ a.getD (x * n + k) 0 ≤ 2
 have dense : ∀ x y,x < n → y < n → a.getD (x * n + y) 0 ≤ 2 → ∃ z,z < n ∧ a.getD (x * n + z) 0 ≤ 2 ∧ a.getD (z * n + y) 0 ≤ 2:=by
  intro x y hx hy hxy
  rcases (idem_le h x y hx hy 2).mp hxy with e|e
  ·omega
  ·exact e
 have start : ∃ x,P x:=dense i k hi hk h2
 have next : ∀ x,P x → ∃ y,P y ∧ a.getD (x * n + y) 0 ≤ 2:=by
  rintro x ⟨hx,h3,h4⟩
  obtain ⟨z,hz,h5,h6⟩:=dense x k hx hk h4
  exact ⟨z,⟨hz,trans_le h i x z hi hx hz 2 h3 h5,h6⟩,h5⟩
 let sq : Nat → {x // P x}:=fun m => Nat.rec (motive:=fun _ => {x // P x}) ⟨Classical.choose start,Classical.choose_spec start⟩ (fun _ x => ⟨Classical.choose (next x.1 x.2),(Classical.choose_spec (next x.1 x.2)).1⟩) m
 have one : ∀ m,a.getD ((sq m).1 * n + (sq (m + 1)).1) 0 ≤ 2:=fun m => (Classical.choose_spec (next (sq m).1 (sq m).2)).2
 have far : ∀ d m,a.getD ((sq m).1 * n + (sq (m + (d + 1))).1) 0 ≤ 2:=by
  intro d
  induction d with
  | zero => exact one
  | succ d ih => intro m;exact trans_le h _ _ _ (sq m).2.1 (sq (m + (d + 1))).2.1 (sq (m + (d + 1 + 1))).2.1 2 (ih m) (one (m + (d + 1)))
 obtain ⟨x,y,hxy,_,he⟩:=pigeon n (fun m => (sq m).1) (fun m _ => (sq m).2.1)
 obtain ⟨d,rfl⟩ : ∃ d,y = x + (d + 1):=⟨y - x - 1,by omega⟩
 have f:=far d x
 have he' : (sq x).1 = (sq (x + (d + 1))).1:=he
 rw [← he'] at f
 exact ⟨(sq x).1,(sq x).2.1,(sq x).2.2.1,f,(sq x).2.2.2⟩
theorem st_never (h : mulL n a a = a) (hg : Gr a) (i k : Nat) (hi : i < n) (hk : k < n) (h3 : stE n a i k = 3) : a.getD (i * n + k) 0 = 3:=by
 have b:=(gr_getD hg (i * n + k)).2
 by_cases e : a.getD (i * n + k) 0 ≤ 2
 ·obtain ⟨l,hl,h4,h5,h6⟩:=loop_at h i k hi hk e
  have : stE n a i k ≤ 2:=by rw [stE_le];exact Or.inr ⟨l,hl,h4,ag_le2 _ h5,h6⟩
  omega
 ·omega
end
theorem stE_in (n : Nat) (a : List Int) (ha : Gr a) (i k : Nat) : 0 ≤ stE n a i k ∧ stE n a i k ≤ 3:=by
 constructor
 ·have h:=stE_le n a i k (-1)
  have : ¬ stE n a i k ≤ -1:=by
   rw [h]
   rintro (h | ⟨l,_,h1,_⟩)
   ·omega
   ·have:=(gr_getD ha (i * n + l)).1;omega
  omega
 ·rw [stE_le];exact Or.inl (Int.le_refl _)
theorem GV_st (n : Nat) (a : List Int) (h : GV n a) : GV n (stL n a):=by
 rw [GV_iff] at h ⊢
 refine ⟨h.1,h.2.1,stL_length n a,?_⟩
 intro x hx
 obtain ⟨j,hj,rfl⟩:=mem_tab.mp hx
 exact stE_in n a h.2.2.2 _ _
inductive Reads : List UInt8 → List Part → List UInt8 → Prop
 | done : Reads [] [] []
 | letter (c : UInt8) (e : List UInt8) (ps : List Part) (r : List UInt8) : (c = 97 ∨ c = 98) → Reads e ps r → Reads (c :: e) ((⟨⟨#[c]⟩,[]⟩ : Part) :: ps) r
 | again (e : List UInt8) (w : List Part) (e2 : List UInt8) (ps : List Part) (r : List UInt8) : Reads e w (41 :: 35 :: e2) → w ≠ [] → Reads e2 ps r → Reads (40 :: e) ((⟨⟨#[]⟩,w⟩ : Part) :: ps) r
 | other (c : UInt8) (e : List UInt8) : c ≠ 97 → c ≠ 98 → c ≠ 40 → Reads (c :: e) [] (c :: e)
 | bad (e : List UInt8) (w : List Part) (r1 : List UInt8) : Reads e w r1 → (w = [] ∨ ∀ e2,r1 ≠ 41 :: 35 :: e2) → Reads (40 :: e) [] (40 :: e)
theorem Reads.suffix {e ps r} (h : Reads e ps r) : ∃ v,e = v ++ r:=by
 induction h with
 | done => exact ⟨[],rfl⟩
 | letter c e ps r _ _ ih => obtain ⟨v,rfl⟩:=ih;exact ⟨c :: v,rfl⟩
 | again e w e2 ps r _ _ _ ih1 ih2 =>
  obtain ⟨v1,rfl⟩:=ih1;obtain ⟨v2,rfl⟩:=ih2
  exact ⟨40 :: (v1 ++ 41 :: 35 :: v2),by simp⟩
 | other c e => exact ⟨[],rfl⟩
 | bad e w r1 => exact ⟨[],rfl⟩
theorem Reads.none {e r} (h : Reads e [] r) : r = e:=by cases h <;> rfl
theorem Reads.some {e ps r} (h : Reads e ps r) (hp : ps ≠ []) : r.length < e.length:=by
 cases h with
 | done => exact absurd rfl hp
 | letter c e ps r _ h => obtain ⟨v,rfl⟩:=h.suffix;simp;omega
 | again e w e2 ps r h1 _ h2 => obtain ⟨v1,rfl⟩:=h1.suffix;obtain ⟨v2,rfl⟩:=h2.suffix;simp;omega
 | other c e => exact absurd rfl hp
 | bad e w r1 => exact absurd rfl hp
theorem Reads.le {e ps r} (h : Reads e ps r) : r.length ≤ e.length:=by obtain ⟨v,rfl⟩:=h.suffix;simp
theorem Reads.parts {e ps r} (h : Reads e ps r) : ps.length + r.length ≤ e.length:=by
 induction h with
 | done => simp
 | letter c e ps r _ _ ih => simp;omega
 | again e w e2 ps r h1 _ _ ih1 ih2 => have:=h1.le;simp at *;omega
 | other c e => simp
 | bad e w r1 => simp
theorem reads_all (n : Nat) : ∀ e : List UInt8,e.length ≤ n → ∃ ps r,Reads e ps r:=by
 induction n with
 | zero => intro e h;cases e with
  | nil => exact ⟨[],[],.done⟩
  | cons c e => simp at h
 | succ n ih =>
  intro e h
  cases e with
  | nil => exact ⟨[],[],.done⟩
  | cons c e =>
   simp at h
   by_cases h1 : c = 97 ∨ c = 98
   ·obtain ⟨ps,r,hr⟩:=ih e h;exact ⟨_,_,.letter c e ps r h1 hr⟩
   ·by_cases h2 : c = 40
    ·subst h2
     obtain ⟨w,r1,hw⟩:=ih e h
     by_cases h3 : w = [] ∨ ∀ e2,r1 ≠ 41 :: 35 :: e2
     ·exact ⟨_,_,.bad e w r1 hw h3⟩
     ·obtain ⟨h4,h5⟩:=not_or.mp h3
      obtain ⟨e2,h6⟩:=Classical.not_forall.mp h5
      have h6:=Classical.not_not.mp h6
      subst h6
      have:=hw.le
      obtain ⟨ps,r,hr⟩:=ih e2 (by simp at this;omega)
      exact ⟨_,_,.again e w e2 ps r hw h4 hr⟩
    ·exact ⟨_,_,.other c e (fun h => h1 (.inl h)) (fun h => h1 (.inr h)) h2⟩
def endv (s : ByteArray) (r : List UInt8) (b : Int) : Int :=
 if r = [] ∨ r.head? = some 41 then (if (s.size : Int) - r.length = b then -1 else (s.size : Int) - r.length) else -1
set_option maxHeartbeats 1000000 in
theorem end_reads {e ps r} (h : Reads e ps r) : ∀ (s : ByteArray) (u : List UInt8) (b : Int),L s = u ++ e → s.size ≤ 1000000 → 0 ≤ b → b ≤ u.length →
  Ev (fun k => spec_l7End.l0 k s u.length b) (endv s r b):=by
 induction h with
 | done =>
  intro s u b hs hn hb0 hb
  have hz:=size_suffix hs
  refine Ev.step (f:=fun _ => some (if (u.length : Int) = b then -1 else (u.length : Int))) (fun k => ?_) ((Ev.now _).is ?_)
  ·simp only [spec_l7End.l0];rw [if_neg (by simp at hz;omega)];split <;> rfl
  ·simp [endv];simp at hz;rw [hz]
 | letter c e ps r hc h ih =>
  intro s u b hs hn hb0 hb
  have hz:=size_suffix hs
  have hbt:=bt_suffix hs
  simp at hz
  have h41 : ¬ btI s u.length = 41:=by rw [hbt];rcases hc with rfl|rfl <;> decide
  refine Ev.step (f:=fun k => spec_l7End.l0 k s (u ++ [c]).length b) (fun k => ?_) ?_
  ·simp only [spec_l7End.l0];rw [if_pos (by omega),if_pos (by omega),if_neg h41]
   rcases hc with rfl|rfl
   ·rw [if_pos (by rw [hbt];rfl),w64 (by omega) (by omega)];simp
   ·rw [if_neg (by rw [hbt];decide),if_pos (by rw [hbt];rfl),w64 (by omega) (by omega)];simp
  ·exact ih s (u ++ [c]) b (by simp [hs]) hn hb0 (by simp;omega)
 | again e w e2 ps r h1 hw h2 ih1 ih2 =>
  intro s u b hs hn hb0 hb
  have hz:=size_suffix hs
  have hbt:=bt_suffix hs
  simp at hz
  obtain ⟨v,hv⟩:=h1.suffix
  have hlt:=h1.some hw
  have hs1 : L s = (u ++ [40]) ++ e:=by simp [hs]
  have hs2 : L s = (u ++ 40 :: v) ++ 41 :: (35 :: e2):=by rw [hs,hv];simp
  have hs3 : L s = (u ++ 40 :: v ++ [41]) ++ 35 :: e2:=by rw [hs,hv];simp
  have hs4 : L s = (u ++ 40 :: v ++ [41,35]) ++ e2:=by rw [hs,hv];simp
  have b2:=bt_suffix hs2
  have b3:=bt_suffix hs3
  have z2:=size_suffix hs2
  simp at z2 hlt
  have i1:=ih1 s (u ++ [40]) ((u ++ [40]).length) hs1 hn (by omega) (by omega)
  have he : endv s (41 :: 35 :: e2) ((u ++ [40]).length) = ((u ++ 40 :: v).length : Int):=by
   have hvl : 0 < v.length:=by rw [hv] at hlt;simp at hlt;omega
   unfold endv;rw [if_pos (by simp),if_neg (by simp;omega)];simp;omega
  rw [he] at i1
  have hw1 : wrap64 ((u.length : Int) + 1) = ((u ++ [40]).length : Int):=by rw [w64 (by omega) (by omega)];simp
  refine Ev.step (f:=?f1) (fun k => ?h1) ?k1
  case h1 =>
   simp only [spec_l7End.l0]
   rw [if_pos (by omega),if_pos (by omega),if_neg (by rw [hbt];decide),if_neg (by rw [hbt];decide),if_neg (by rw [hbt];decide),if_pos (by rw [hbt];rfl),hw1] <;> exact rfl
  refine Ev.bind (a:=((u ++ 40 :: v).length : Int)) (Ev.step (fun k => by simp only [spec_l7End.f]) i1) ?_
  simp only [List.length_append,List.length_cons]
  have i2:=ih2 s (u ++ 40 :: v ++ [41,35]) b hs4 hn hb0 (by simp;omega)
  refine Ev.congr (fun k => ?_) i2
  have e1 : wrap64 (((u.length + (v.length + 1) : Nat) : Int) + 1) = (((u ++ 40 :: v ++ [41]).length : Nat) : Int):=by rw [w64 (by omega) (by omega)];simp;omega
  have e2 : wrap64 (((u.length + (v.length + 1) : Nat) : Int) + 2) = (((u ++ 40 :: v ++ [41,35]).length : Nat) : Int):=by rw [w64 (by omega) (by omega)];simp;omega
  rw [e1,e2]
  simp only [List.length_append,List.length_cons,List.length_nil] at b2 b3 ⊢
  rw [if_neg (by omega),if_neg (by omega),if_pos (by omega),if_pos (by omega),if_pos (by rw [b2] <;> rfl),if_pos (by omega),if_pos (by omega),if_pos (by rw [b3] <;> rfl)]
 | other c e c1 c2 c3 =>
  intro s u b hs hn hb0 hb
  have hz:=size_suffix hs
  have hbt:=bt_suffix hs
  simp at hz
  by_cases h41 : c = 41
  ·subst h41
   refine Ev.step (f:=fun _ => some (if (u.length : Int) = b then -1 else (u.length : Int))) (fun k => ?_) ((Ev.now _).is ?_)
   ·simp only [spec_l7End.l0];rw [if_pos (by omega),if_pos (by omega),if_pos (by rw [hbt];rfl)];split <;> rfl
   ·have h2 : (s.size : Int) - ((41 :: e : List UInt8).length : Int) = u.length:=by simp only [List.length_cons];omega
    unfold endv;rw [if_pos (c:=(41 :: e : List UInt8) = [] ∨ (41 :: e : List UInt8).head? = some 41) (.inr rfl),h2]
  ·refine Ev.step (f:=fun _ => some (-1)) (fun k => ?_) ((Ev.now _).is ?_)
   ·simp only [spec_l7End.l0];rw [if_pos (by omega),if_pos (by omega),if_neg (by rw [hbt];exact u8_ne h41),if_neg (by rw [hbt];exact u8_ne c1),if_neg (by rw [hbt];exact u8_ne c2),if_neg (by rw [hbt];exact u8_ne c3)]
   ·unfold endv;rw [if_neg (by simp [h41])]
 | bad e w r1 h1 hw ih =>
  intro s u b hs hn hb0 hb
  have hz:=size_suffix hs
  have hbt:=bt_suffix hs
  simp at hz
  obtain ⟨v,hv⟩:=h1.suffix
  have hs1 : L s = (u ++ [40]) ++ e:=by simp [hs]
  have hs2 : L s = (u ++ 40 :: v) ++ r1:=by rw [hs,hv];simp
  have z2:=size_suffix hs2
  simp at z2
  have i1:=ih s (u ++ [40]) ((u ++ [40]).length) hs1 hn (by omega) (by omega)
  have hw1 : wrap64 ((u.length : Int) + 1) = ((u ++ [40]).length : Int):=by rw [w64 (by omega) (by omega)];simp
  have hend : endv s (40 :: e) b = -1:=by unfold endv;rw [if_neg (by simp)]
  rw [hend]
  refine Ev.step (f:=?f2) (fun k => ?h2) ?k2
  case h2 =>
   simp only [spec_l7End.l0]
   rw [if_pos (by omega),if_pos (by omega),if_neg (by rw [hbt];decide),if_neg (by rw [hbt];decide),if_neg (by rw [hbt];decide),if_pos (by rw [hbt];rfl),hw1] <;> exact rfl
  refine Ev.bind (a:=endv s r1 ((u ++ [40]).length)) (Ev.step (fun k => by simp only [spec_l7End.f]) i1) ?_
  refine Ev.congr (f:=fun _ => some (-1)) (fun k => ?_) (Ev.now _)
  unfold endv
  by_cases hr : r1 = [] ∨ r1.head? = some 41
  ·rw [if_pos hr]
   by_cases hb1 : (s.size : Int) - r1.length = ((u ++ [40]).length : Int)
   ·rw [if_pos hb1,if_pos (by omega)]
   ·rw [if_neg hb1,if_neg (by omega)]
    have e1 : wrap64 ((s.size : Int) - r1.length + 1) = (s.size : Int) - r1.length + 1:=w64 (by omega) (by omega)
    rw [e1]
    rcases hr with rfl|hr
    ·rw [if_pos (by simp;omega)]
    ·cases r1 with
     | nil => simp at hr
     | cons c r2 =>
      simp at hr;subst hr
      cases r2 with
      | nil => rw [if_pos (by simp)]
      | cons c2 r3 =>
       have hs3 : L s = (u ++ 40 :: v ++ [41]) ++ c2 :: r3:=by rw [hs2];simp
       have b2:=bt_suffix hs2
       have b3:=bt_suffix hs3
       simp at z2 b2 b3
       have hj : (s.size : Int) - ((41 :: c2 :: r3 : List UInt8).length : Int) = (u.length : Int) + (v.length + 1):=by simp;omega
       have hwn : w ≠ []:=by
        rintro rfl
        have:=h1.none
        apply hb1
        have hl : e.length = r3.length + 2:=by rw [← this];simp
        simp;omega
       have hc : c2 ≠ 35:=by
        rintro rfl
        rcases hw with h|h
        ·exact hwn h
        ·exact h r3 rfl
       rw [hj,if_neg (by omega),if_pos (by omega),if_pos (by omega),if_pos (by rw [b2] <;> rfl),if_pos (by omega),if_pos (by omega),if_neg (by rw [show (u.length : Int) + (v.length + 1) + 1 = u.length + (v.length + 1 + 1) by omega,b3];exact u8_ne hc)]
  ·rw [if_neg hr,if_pos (by omega)]
theorem prefix_eval (y : ByteArray) : strings_HasPrefix.f y ⟨#[41,35]⟩ = some ((L y).take 2 == [41,35]):=by
 have h2 : (⟨#[41,35]⟩ : ByteArray).size = 2:=rfl
 have hl : (⟨#[41,35]⟩ : ByteArray).toList = [41,35]:=by rw [toList_L];rfl
 unfold strings_HasPrefix.f stringslite_HasPrefix.f
 rw [h2,hl,toList_L,L_extract,L_size]
 cases h : L y with
 | nil => simp
 | cons a t =>
  cases t with
  | nil => simp
  | cons b t =>
   simp
   rw [if_pos (by omega),if_pos (by omega)]
   rfl
theorem prefix_no {l : List UInt8} (h : ∀ e2,l ≠ 41 :: 35 :: e2) : (l.take 2 == [41,35]) = false:=by
 cases l with
 | nil => rfl
 | cons a t =>
  cases t with
  | nil => simp
  | cons b t =>
   simp
   rintro rfl rfl
   exact h t rfl
theorem parts_reads {e ps r} (h : Reads e ps r) : ∀ (x : ByteArray) (out : List Part),L x = e → out.length + x.size ≤ 1000000 →
  Ev (fun k => impl_readParts.l0 k x out) (out ++ ps,⟨r.toArray⟩):=by
 induction h with
 | done =>
  intro x out hx hn
  refine Ev.step (f:=fun _ => some (out,x)) (fun k => ?_) ((Ev.now _).is ?_)
  ·simp only [impl_readParts.l0];rw [if_pos (by rw [toList_L,hx])]
  ·simp;exact L_inj (by rw [hx];rfl)
 | letter c e ps r hc h ih =>
  intro x out hx hn
  have hz : x.size = e.length + 1:=by rw [L_size,hx];simp
  have hbt : btI x 0 = (c.toNat : Int):=by rw [bt_L,hx];simp
  have h1 : L (x.extract 1 x.size) = e:=by rw [L_extract,hx,L_size,hx];simp
  have h0 : x.extract 0 1 = ⟨#[c]⟩:=L_inj (by rw [L_extract,hx];simp [L])
  refine Ev.step (f:=fun k => impl_readParts.l0 k (x.extract 1 x.size) (out ++ [(⟨⟨#[c]⟩,[]⟩ : Part)])) (fun k => ?_) ?_
  ·simp only [impl_readParts.l0];rw [if_neg (by rw [toList_L,hx];simp),if_pos (by omega)]
   rcases hc with rfl|rfl
   ·rw [if_pos (by rw [hbt];rfl),if_pos (by omega),if_pos (by omega),if_pos (Int.le_refl _),h0]
   ·rw [if_neg (by rw [hbt];decide),if_pos (by rw [hbt];rfl),if_pos (by omega),if_pos (by omega),if_pos (Int.le_refl _),h0]
  ·exact (ih (x.extract 1 x.size) _ h1 (by simp only [List.length_append,List.length_cons,List.length_nil];rw [L_size,h1];omega)).is (by simp)
 | again e w e2 ps r h1 hw h2 ih1 ih2 =>
  intro x out hx hn
  have hz : x.size = e.length + 1:=by rw [L_size,hx];simp
  have hbt : btI x 0 = 40:=by rw [bt_L,hx];rfl
  have he : L (x.extract 1 x.size) = e:=by rw [L_extract,hx,L_size,hx];simp
  have hle:=h1.le
  simp at hle
  refine Ev.step (f:=?f1) (fun k => ?h1) ?k1
  case h1 => simp only [impl_readParts.l0];rw [if_neg (by rw [toList_L,hx];simp),if_pos (by omega),if_neg (by rw [hbt];decide),if_neg (by rw [hbt];decide),if_pos hbt,if_pos (by omega),if_pos (Int.le_refl _)] <;> exact rfl
  have i1:=ih1 (x.extract 1 x.size) [] he (by simp only [List.length_nil];rw [L_size,he];omega)
  have hy : L (⟨(41 :: 35 :: e2 : List UInt8).toArray⟩ : ByteArray) = 41 :: 35 :: e2:=L_mk _
  have hyz : (⟨(41 :: 35 :: e2 : List UInt8).toArray⟩ : ByteArray).size = e2.length + 2:=by rw [L_size,hy];simp
  refine Ev.bind (a:=([] ++ w,⟨(41 :: 35 :: e2 : List UInt8).toArray⟩)) (Ev.step (fun k => by simp only [impl_readParts.f]) i1) ?_
  have hwl : 0 < w.length:=by cases w with
   | nil => exact absurd rfl hw
   | cons a b => simp
  have h2' : L ((⟨(41 :: 35 :: e2 : List UInt8).toArray⟩ : ByteArray).extract 2 (⟨(41 :: 35 :: e2 : List UInt8).toArray⟩ : ByteArray).size) = e2:=by rw [L_extract,hyz,hy];simp
  have i2:=ih2 _ (out ++ [(⟨⟨#[]⟩,w⟩ : Part)]) h2' (by rw [L_size _,h2'];simp only [List.length_append,List.length_cons,List.length_nil];omega)
  refine Ev.congr (fun k => ?_) (i2.is (by simp))
  dsimp only
  rw [List.nil_append,if_pos (by omega),prefix_eval,hy,show (List.take 2 (41 :: 35 :: e2) == [41,35]) = true from rfl,Option.bind_some,if_pos rfl,if_pos (by omega),if_pos (by omega),if_pos (Int.le_refl _)]
 | other c e c1 c2 c3 =>
  intro x out hx hn
  have hz : x.size = e.length + 1:=by rw [L_size,hx];simp
  have hbt : btI x 0 = (c.toNat : Int):=by rw [bt_L,hx];simp
  have hxe : x = ⟨(c :: e).toArray⟩:=L_inj (by rw [hx,L_mk])
  refine Ev.step (f:=fun _ => some (out,x)) (fun k => ?_) ((Ev.now _).is (by rw [List.append_nil,← hxe]))
  ·simp only [impl_readParts.l0];rw [if_neg (by rw [toList_L,hx];simp),if_pos (by omega),if_neg (by rw [hbt];exact u8_ne c1),if_neg (by rw [hbt];exact u8_ne c2),if_neg (by rw [hbt];exact u8_ne c3)]
 | bad e w r1 h1 hw ih =>
  intro x out hx hn
  have hz : x.size = e.length + 1:=by rw [L_size,hx];simp
  have hbt : btI x 0 = 40:=by rw [bt_L,hx];rfl
  have he : L (x.extract 1 x.size) = e:=by rw [L_extract,hx,L_size,hx];simp
  have hxe : x = ⟨(40 :: e).toArray⟩:=L_inj (by rw [hx,L_mk])
  refine Ev.step (f:=?f2) (fun k => ?h2) ?k2
  case h2 => simp only [impl_readParts.l0];rw [if_neg (by rw [toList_L,hx];simp),if_pos (by omega),if_neg (by rw [hbt];decide),if_neg (by rw [hbt];decide),if_pos hbt,if_pos (by omega),if_pos (Int.le_refl _)] <;> exact rfl
  have i1:=ih (x.extract 1 x.size) [] he (by simp only [List.length_nil];rw [L_size,he];omega)
  refine Ev.bind (a:=([] ++ w,⟨r1.toArray⟩)) (Ev.step (fun k => by simp only [impl_readParts.f]) i1) ?_
  refine Ev.congr (f:=fun _ => some (out,x)) (fun k => ?_) ((Ev.now _).is (by rw [List.append_nil,← hxe]))
  dsimp only
  by_cases hwl : w = []
  ·subst hwl;rw [if_neg (by simp)]
  ·have hwl' : 0 < w.length:=by cases w with
    | nil => exact absurd rfl hwl
    | cons a b => simp
   have hn : ∀ e2,r1 ≠ 41 :: 35 :: e2:=by
    rcases hw with h'|h'
    ·exact absurd h' hwl
    ·exact h'
   rw [List.nil_append,if_pos (by omega),prefix_eval,L_mk,prefix_no hn,Option.bind_some,if_neg (by simp)]
theorem parts_eval (s : ByteArray) (hs : s.size ≤ 120) : ∃ ps r,Reads (L s) ps r ∧ Ev (fun k => impl_parts.f k s) (ps,decide (ps ≠ [] ∧ r = [])):=by
 obtain ⟨ps,r,h⟩:=reads_all (L s).length (L s) (Nat.le_refl _)
 refine ⟨ps,r,h,?_⟩
 have h1:=parts_reads h s [] rfl (by simp;omega)
 refine Ev.congr (f:=?f1) (fun k => ?h1) ?k1
 case h1 => unfold impl_parts.f;rw [if_neg (by omega)] <;> exact rfl
 refine Ev.bind (Ev.step (fun k => by simp only [impl_readParts.f]) h1) ?_
 refine Ev.congr (f:=fun _ => some (ps,decide (ps ≠ [] ∧ r = []))) (fun k => ?_) (Ev.now _)
 dsimp only
 rw [List.nil_append,toList_L,L_mk]
 cases ps with
 | nil => simp
 | cons p ps => simp <;> (cases r <;> simp)
theorem parts_long (s : ByteArray) (hs : 120 < s.size) : Ev (fun k => impl_parts.f k s) ([],false):=by
 refine Ev.congr (f:=fun _ => some ([],false)) (fun k => ?_) (Ev.now _)
 unfold impl_parts.f;rw [if_pos (by omega)]
theorem valid_eval (s : ByteArray) (hs : s.size ≤ 120) {ps r} (h : Reads (L s) ps r) : Ev (fun k => spec_ExpressionValid.f k s) (decide (ps ≠ [] ∧ r = [])):=by
 have h1:=end_reads h s [] 0 (by simp) (by omega) (by omega) (by simp)
 have hz : s.size = (L s).length:=L_size s
 refine Ev.congr (f:=?f1) (fun k => ?h1) ?k1
 case h1 => unfold spec_ExpressionValid.f;rw [if_pos (by omega)] <;> exact rfl
 refine Ev.bind (a:=endv s r 0) (Ev.step (fun k => by simp only [spec_l7End.f];rfl) h1) ?_
 refine Ev.congr (f:=fun _ => some (decide (ps ≠ [] ∧ r = []))) (fun k => ?_) (Ev.now _)
 by_cases hr : r = []
 ·subst hr
  by_cases hp : ps = []
  ·subst hp
   have:=h.none
   have h0 : s.size = 0:=by rw [hz,← this];rfl
   have e : endv s [] 0 = -1:=by unfold endv;rw [if_pos (.inl rfl),if_pos (by rw [h0];rfl)]
   rw [e,if_neg (by omega)];simp
  ·have:=h.some hp
   simp only [List.length_nil] at this
   have e : endv s [] 0 = s.size:=by unfold endv;rw [if_pos (.inl rfl),if_neg (by simp only [List.length_nil];omega)];simp
   rw [e,if_pos rfl]
   have hp2 : ps ≠ [] ∧ ([] : List UInt8) = []:=⟨hp,rfl⟩
   rw [decide_eq_true hp2,decide_eq_true (show (s.size : Int) > 0 by omega)]
 ·have hl : 0 < r.length:=by cases r with
   | nil => exact absurd rfl hr
   | cons a b => simp
  rw [if_neg (by unfold endv;split <;> (try split) <;> omega)];simp [hr]
theorem valid_long (s : ByteArray) (hs : 120 < s.size) : Ev (fun k => spec_ExpressionValid.f k s) false:=by
 refine Ev.congr (f:=fun _ => some false) (fun k => ?_) (Ev.now _)
 unfold spec_ExpressionValid.f;rw [if_neg (by omega)]
theorem valid_both (s : ByteArray) : ∃ b ps,Ev (fun k => spec_ExpressionValid.f k s) b ∧ Ev (fun k => impl_parts.f k s) (ps,b):=by
 by_cases h : s.size ≤ 120
 ·obtain ⟨ps,r,hr,hp⟩:=parts_eval s h
  exact ⟨_,ps,valid_eval s h hr,hp⟩
 ·exact ⟨false,[],valid_long s (by omega),parts_long s (by omega)⟩
theorem rd_at (pre : List Part) (p : Part) (ps : List Part) : rdP (pre ++ p :: ps) (pre.length : Int) = p:=by
 simp [rdP,List.getD_eq_getElem?_getD]
theorem next_letter (x : ByteArray) (c : UInt8) (e : List UInt8) (hx : L x = c :: e) (hc : c = 97 ∨ c = 98) : Ev (fun k => spec_l7Next.f k x) (⟨#[c]⟩,false,⟨e.toArray⟩):=by
 have hz : x.size = e.length + 1:=by rw [L_size,hx];simp
 have hbt : btI x 0 = (c.toNat : Int):=by rw [bt_L,hx];simp
 have h0 : x.extract 0 1 = ⟨#[c]⟩:=L_inj (by rw [L_extract,hx];simp [L])
 have h1 : x.extract 1 x.size = ⟨e.toArray⟩:=L_inj (by rw [L_extract,hx,L_mk,L_size,hx];simp)
 refine Ev.congr (f:=fun _ => some (⟨#[c]⟩,false,⟨e.toArray⟩)) (fun k => ?_) (Ev.now _)
 unfold spec_l7Next.f
 rw [if_pos (by omega),if_neg (by rw [hbt];rcases hc with rfl|rfl <;> decide),if_pos (by omega),if_pos (by omega),h0,h1]
theorem next_again (x : ByteArray) (e v e2 : List UInt8) (w : List Part) (hx : L x = 40 :: e) (hv : e = v ++ 41 :: 35 :: e2) (h : Reads e w (41 :: 35 :: e2)) (hw : w ≠ []) (hn : x.size ≤ 1000000) :
  Ev (fun k => spec_l7Next.f k x) (⟨v.toArray⟩,true,⟨e2.toArray⟩):=by
 have hz : x.size = e.length + 1:=by rw [L_size,hx];simp
 have hel : e.length = v.length + 2 + e2.length:=by rw [hv];simp;omega
 have hbt : btI x 0 = 40:=by rw [bt_L,hx];rfl
 have hlt:=h.some hw
 simp only [List.length_cons] at hlt
 have h1:=end_reads h x [40] 1 (by simp [hx]) hn (by omega) (by simp)
 have he : endv x (41 :: 35 :: e2) 1 = ((v.length + 1 : Nat) : Int):=by
  unfold endv;rw [if_pos (.inr rfl),if_neg (by simp only [List.length_cons];omega)];simp only [List.length_cons];omega
 rw [he] at h1
 refine Ev.congr (f:=?f1) (fun k => ?h1) ?k1
 case h1 => unfold spec_l7Next.f;rw [if_pos (by omega),if_pos hbt] <;> exact rfl
 refine Ev.bind (Ev.step (fun k => by simp only [spec_l7End.f];rfl) h1) ?_
 have e1 : x.extract 1 (v.length + 1) = ⟨v.toArray⟩:=L_inj (by rw [L_extract,hx,L_mk,hv];simp)
 have e2' : x.extract (v.length + 3) x.size = ⟨e2.toArray⟩:=L_inj (by rw [L_extract,hx,L_mk e2,List.take_of_length_le (by rw [List.length_cons,hz];exact Nat.le_refl _),hv,show (40 :: (v ++ 41 :: 35 :: e2) : List UInt8) = (40 :: v ++ [41,35]) ++ e2 by simp,List.drop_left' (by simp)])
 refine Ev.congr (f:=fun _ => some (⟨v.toArray⟩,true,⟨e2.toArray⟩)) (fun k => ?_) (Ev.now _)
 rw [w64 (by omega) (by omega),if_pos (by omega),if_pos (by omega),if_pos (by omega),if_pos (by omega)]
 rw [show (((v.length + 1 : Nat) : Int) + 2).toNat = v.length + 3 by omega,Int.toNat_natCast,e1,e2',if_pos (Int.le_refl _)]
theorem reads_cut {e w r} (h : Reads e w r) : (r = [] ∨ r.head? = some 41) → ∀ v,e = v ++ r → ∀ r',(r' = [] ∨ r'.head? = some 41) → Reads (v ++ r') w r':=by
 have stop : ∀ r' : List UInt8,(r' = [] ∨ r'.head? = some 41) → Reads r' [] r':=by
  intro r' h
  rcases h with rfl|h
  ·exact .done
  ·cases r' with
   | nil => simp at h
   | cons c t => simp at h;subst h;exact .other 41 t (by decide) (by decide) (by decide)
 have self : ∀ (e v : List UInt8),e = v ++ e → v = []:=by
  intro e v h
  have h3:=congrArg List.length h
  simp at h3
  exact h3
 induction h with
 | done => intro _ v hv r' hr';rw [self _ _ hv];exact stop r' hr'
 | other c e => intro _ v hv r' hr';rw [self _ _ hv];exact stop r' hr'
 | bad e w r1 => intro hr v hv r' hr';simp at hr
 | letter c e ps r hc h ih =>
  intro hr v hv r' hr'
  cases v with
  | nil =>
   have h3:=congrArg List.length hv
   have:=h.le
   simp at h3
   omega
  | cons d v =>
   simp at hv
   obtain ⟨rfl,hv⟩:=hv
   exact .letter c (v ++ r') ps r' hc (ih hr v hv r' hr')
 | again e w e2 ps r h1 hw h2 ih1 ih2 =>
  intro hr v hv r' hr'
  obtain ⟨t1,ht1⟩:=h1.suffix
  obtain ⟨t2,ht2⟩:=h2.suffix
  have hvv : v = 40 :: (t1 ++ 41 :: 35 :: t2):=by
   have : 40 :: (t1 ++ 41 :: 35 :: t2) ++ r = v ++ r:=by rw [← hv,ht1,ht2];simp
   exact (List.append_cancel_right this).symm
  subst hvv
  have a:=ih1 (.inr rfl) t1 ht1 (41 :: 35 :: (t2 ++ r')) (.inr rfl)
  have b:=ih2 hr t2 ht2 r' hr'
  simpa using Reads.again (t1 ++ 41 :: 35 :: (t2 ++ r')) w (t2 ++ r') ps r' a hw b
theorem reads_inner {e t1 e2 : List UInt8} {w} (h : Reads e w (41 :: 35 :: e2)) (hv : e = t1 ++ 41 :: 35 :: e2) : Reads t1 w []:=by
 simpa using reads_cut h (.inr rfl) t1 hv [] (.inl rfl)
theorem gr_GV (n : Nat) (l : List Int) (h : MV (n : Int) l) : GV (n : Int) (l.map gr):=by
 have hg : ∀ x,0 ≤ gr x ∧ gr x ≤ 3:=by
  intro x
  unfold gr
  by_cases a : x = 0
  ·rw [if_pos a];omega
  ·by_cases b : x = 1000000
   ·rw [if_neg a,if_pos b];omega
   ·rw [if_neg a,if_neg b];omega
 refine ⟨⟨h.1,h.2.1,by rw [List.length_map];exact h.2.2.1,?_⟩,?_⟩
 ·intro x hx;obtain ⟨y,_,rfl⟩:=List.mem_map.mp hx;have:=hg y;omega
 ·intro x hx;obtain ⟨y,_,rfl⟩:=List.mem_map.mp hx;exact (hg y).2
def lgr (n : Nat) (t : List Stp) (c : UInt8) : List Int:=(letL n t c).map gr
def resV (n : Nat) : Option (List Int) → Int × List Int × Bool
 | some b => ((n : Int),b,true)
 | none => (0,[],false)
theorem B_toL (l : List UInt8) : (⟨l.toArray⟩ : ByteArray).toList = l:=by rw [toList_L,L_mk]
theorem iLetG (n : Nat) (s f : List Int) (t : List Stp) (hv : AV n s f t = true) (hs : s.length ≤ 1000000000) (hf : f.length ≤ 1000000000) (hl : t.length ≤ 1000000000) (c : UInt8) (hc : c = 97 ∨ c = 98) (r : Int × List Int × Bool) (g : Nat → Int × List Int × Bool → Option (Int × List Int × Bool)) (hg : Ev (fun k => g k ((n : Int),lgr n t c,true)) r) :
  Ev (fun k => (impl_StepMatrix.f k n s f t ⟨#[c]⟩).bind fun m => (impl_GradesOf.f k m.1 m.2.1).bind fun v => g k v) r:=by
 obtain ⟨h1,h2,h3,h4,h5⟩:=AV_parts hv
 have e : (⟨#[c]⟩ : ByteArray).toList = [c]:=B_toL [c]
 have a:=iLetter n s f ⟨#[c]⟩ t hv hs hf hl (by rw [e];rcases hc with rfl|rfl <;> simp)
 rw [e] at a
 have hm:=letL_MV n (by omega) (by omega) t (stp_mem h5) c
 refine Ev.bind a (Ev.bind (iGrades n (letL n t c) (MV_max hm)) ?_)
 have e2 : gradesR (n : Int) (letL n t c) = ((n : Int),lgr n t c,true):=by unfold gradesR;rw [if_pos hm];rfl
 rw [e2];exact hg
theorem sLetG (n : Nat) (s f : List Int) (t : List Stp) (hv : AV n s f t = true) (hl : t.length ≤ 1000000000) (c : UInt8) (r : Int × List Int × Bool) (g : Nat → Int × List Int → Option (Int × List Int × Bool)) (hg : Ev (fun k => g k ((n : Int),lgr n t c)) r) :
  Ev (fun k => (spec_l3Matrix.f k n s f t ⟨#[c]⟩).bind fun m => (spec_l6Grades.f k m.1 m.2).bind fun v => g k v) r:=by
 obtain ⟨h1,h2,h3,h4,h5⟩:=AV_parts hv
 have e : (⟨#[c]⟩ : ByteArray).toList = [c]:=B_toL [c]
 have a:=sLetter n (by omega) (by omega) s f ⟨#[c]⟩ t (stp_mem h5) hl
 rw [e] at a
 have hm:=letL_MV n (by omega) (by omega) t (stp_mem h5) c
 have hz:=MV_len hm
 have hq:=sq_le n (by omega)
 exact Ev.bind a (Ev.bind (sGradesL n (letL n t c) (by omega)) hg)
structure Val (n : Nat) (s f : List Int) (t : List Stp) (e : List UInt8) (ps : List Part) (v : List Int → Option (List Int)) : Prop where
 gv : ∀ a,GV (n : Int) a → ∀ b,v a = some b → GV (n : Int) b
 sp : ∀ a,GV (n : Int) a → Ev (fun k => spec_l7Value.l0 k ⟨e.toArray⟩ n s f t n a) (resV n (v a))
 im : ∀ (pre : List Part),pre ≠ [] → pre.length + ps.length ≤ 1000000 → ∀ a,GV (n : Int) a → Ev (fun k => impl_value.l0 k (pre ++ ps) ((pre ++ ps).length : Int) (pre.length : Int) n s f t n a) (resV n (v a))
 first : ps ≠ [] → ps.length ≤ 1000000 → Ev (fun k => impl_value.l0 k ps (ps.length : Int) 0 n s f t 0 []) (resV n (v (sqL n oneE)))
inductive VP (n : Nat) (t : List Stp) : List Part → Option (List Int) → Prop
 | nil : VP n t [] (some (sqL n oneE))
 | letter (c : UInt8) (ps : List Part) (o : Option (List Int)) : (c = 97 ∨ c = 98) → VP n t ps o → VP n t ((⟨⟨#[c]⟩,[]⟩ : Part) :: ps) (o.map (mulL n (lgr n t c)))
 | again (w ps : List Part) (o1 o : Option (List Int)) : VP n t w o1 → VP n t ps o → VP n t ((⟨⟨#[]⟩,w⟩ : Part) :: ps) ((o1.bind fun M => if Idem n M then some (stL n M) else none).bind fun M => o.map (mulL n M))
theorem VP.app {n : Nat} {t : List Stp} {ps : List Part} {o : Option (List Int)} (h : VP n t ps o) : ∀ {qs : List Part} {o' : Option (List Int)},VP n t qs o' → (∀ x,o' = some x → GV (n : Int) x) → VP n t (ps ++ qs) (o.bind fun x => o'.map (mulL n x)):=by
 induction h with
 | nil =>
  intro qs o' h' g
  have e : (some (sqL n oneE)).bind (fun x => o'.map (mulL n x)) = o':=by
   cases o' with
   | none => rfl
   | some y => show some (mulL n (sqL n oneE) y) = some y;rw [one_mul' n y (g y rfl)]
  rw [e];exact h'
 | letter c ps o hc _ ih =>
  intro qs o' h' g
  have e : (o.map (mulL n (lgr n t c))).bind (fun x => o'.map (mulL n x)) = (o.bind fun x => o'.map (mulL n x)).map (mulL n (lgr n t c)):=by
   cases o with
   | none => rfl
   | some x =>
    cases o' with
    | none => rfl
    | some y => show some (mulL n (mulL n (lgr n t c) x) y) = some (mulL n (lgr n t c) (mulL n x y));rw [mul_assoc']
  rw [e];exact VP.letter c _ _ hc (ih h' g)
 | again w ps o1 o hw _ _ ih =>
  intro qs o' h' g
  have e : ((o1.bind fun M => if Idem n M then some (stL n M) else none).bind fun M => o.map (mulL n M)).bind (fun x => o'.map (mulL n x)) = (o1.bind fun M => if Idem n M then some (stL n M) else none).bind fun M => (o.bind fun x => o'.map (mulL n x)).map (mulL n M):=by
   cases (o1.bind fun M => if Idem (n : Int) M then some (stL n M) else none) with
   | none => rfl
   | some M =>
    cases o with
    | none => rfl
    | some x =>
     cases o' with
     | none => rfl
     | some y => show some (mulL n (mulL n M x) y) = some (mulL n M (mulL n x y));rw [mul_assoc']
  rw [e];exact VP.again w _ o1 _ hw (ih h' g)
def VW (n : Nat) (t : List Stp) (ps : List Part) (v : List Int → Option (List Int)) : Prop := ∃ o,VP n t ps o ∧ (∀ x,o = some x → GV (n : Int) x) ∧ ∀ a,GV (n : Int) a → v a = o.map (mulL n a)
theorem value_reads (n : Nat) (s f : List Int) (t : List Stp) (hv : AV n s f t = true) (hs : s.length ≤ 1000000000) (hf : f.length ≤ 1000000000) (hl : t.length ≤ 1000000000) (N : Nat) : ∀ (e : List UInt8) (ps : List Part),e.length ≤ N → N ≤ 1000 → Reads e ps [] → ∃ v,Val n s f t e ps v ∧ VW n t ps v:=by
 obtain ⟨h1,h2,h3,h4,h5⟩:=AV_parts hv
 have hn1 : 1 ≤ n:=by omega
 have hn4 : n ≤ 4:=by omega
 have hone:=one_GV n hn1 hn4
 have nil : ∃ v,Val n s f t [] [] v ∧ VW n t [] v:=by
  refine ⟨some,⟨fun a h b e => by obtain rfl:=Option.some.inj e;exact h,fun a _ => ?_,fun pre _ _ a _ => ?_,fun h => absurd rfl h⟩,some (sqL n oneE),VP.nil,fun x e => by obtain rfl:=Option.some.inj e;exact hone,fun a ha => by show some a = some (mulL n a (sqL n oneE));rw [mul_one' n a ha]⟩
  ·refine Ev.step (f:=fun _ => some ((n : Int),a,true)) (fun k => ?_) (Ev.now _)
   simp only [spec_l7Value.l0];rw [if_pos (B_toL [])]
  ·refine Ev.step (f:=fun _ => some ((n : Int),a,true)) (fun k => ?_) (Ev.now _)
   simp only [impl_value.l0];rw [if_neg (by simp)]
 induction N with
 | zero =>
  intro e ps hn hm h
  have he : e = []:=List.length_eq_zero_iff.mp (by omega)
  subst he
  cases h
  exact nil
 | succ N ih =>
  intro e ps hn hm h
  have join : ∀ (a w : List Int),GV (n : Int) a → GV (n : Int) w → GV (n : Int) (mulL n a w):=fun a w ha hw => GV_mul n a w ha hw
  cases h with
  | done => exact nil
  | letter c e ps _ hc h =>
   simp only [List.length_cons] at hn
   obtain ⟨v,V,o,vo,go,eo⟩:=ih e ps (by omega) (by omega) h
   have hw : GV (n : Int) (lgr n t c):=gr_GV n _ (letL_MV n hn1 hn4 t (stp_mem h5) c)
   have hne : ¬ (⟨#[c]⟩ : ByteArray).toList = ([] : List UInt8):=by rw [B_toL [c]];simp
   have hlp:=h.parts
   simp only [List.length_nil] at hlp
   refine ⟨fun a => v (mulL n a (lgr n t c)),⟨fun a ha b hb => V.gv _ (join a _ ha hw) b hb,fun a ha => ?_,fun pre hp hlen a ha => ?_,fun _ hlen => ?_⟩,o.map (mulL n (lgr n t c)),VP.letter c ps o hc vo,fun x e => by
    cases o with
    | none => cases e
    | some y => obtain rfl:=Option.some.inj e;exact join _ _ hw (go y rfl),fun a ha => by
    show v (mulL n a (lgr n t c)) = _
    rw [eo _ (join a _ ha hw)]
    cases o with
    | none => rfl
    | some y => show some (mulL n (mulL n a (lgr n t c)) y) = some (mulL n a (mulL n (lgr n t c) y));rw [mul_assoc']⟩
   ·refine Ev.step (f:=?fa1) (fun k => ?ha1) ?ka1
    case ha1 => simp only [spec_l7Value.l0];rw [if_neg (by rw [B_toL];simp)] <;> exact rfl
    refine Ev.bind (next_letter ⟨(c :: e).toArray⟩ c e (L_mk _) hc) ?_
    refine Ev_f (by simp) ?_
    exact sLetG n s f t hv hl c _ _ (Ev.bind (sMul n hn4 hn1 a _ (GV_len ha) (GV_len hw)) (V.sp _ (join a _ ha hw)))
   ·have hi:=V.im (pre ++ [⟨⟨#[c]⟩,[]⟩]) (by simp) (by simp only [List.length_append,List.length_cons,List.length_nil] at hlen ⊢;omega) (mulL n a (lgr n t c)) (join a _ ha hw)
    rw [List.append_assoc,List.singleton_append,snocA] at hi
    simp only [List.length_cons] at hlen
    have hpl : 0 < pre.length:=List.length_pos_iff.mpr hp
    have hd : ((pre ++ (⟨⟨#[c]⟩,[]⟩ : Part) :: ps).length : Int) = pre.length + (ps.length + 1):=by rw [List.length_append,List.length_cons];push_cast;rfl
    refine Ev.step (f:=?fa2) (fun k => ?ha2) ?ka2
    case ha2 => simp only [impl_value.l0];rw [if_pos (by omega),if_pos (by omega),if_pos (by omega),rd_at,if_neg hne] <;> exact rfl
    refine iLetG n s f t hv hs hf hl c hc _ _ ?_
    refine Ev_t (show (pre.length : Int) > 0 by omega) (Ev.bind (iMul n a _ ha hw) ?_)
    refine Ev.congr (fun k => ?_) hi
    rw [w64 (x:=(pre.length : Int) + 1) (by omega) (by omega)]
   ·have hi:=V.im [⟨⟨#[c]⟩,[]⟩] (by simp) (by simp only [List.length_cons,List.length_nil] at hlen ⊢;omega) (lgr n t c) hw
    simp only [List.length_cons] at hlen
    have hd : (((⟨⟨#[c]⟩,[]⟩ : Part) :: ps).length : Int) = ps.length + 1:=by rw [List.length_cons];push_cast;rfl
    have hr : rdP ((⟨⟨#[c]⟩,[]⟩ : Part) :: ps) 0 = ⟨⟨#[c]⟩,[]⟩:=rd_at [] _ ps
    show Ev _ (resV n (v (mulL n (sqL n oneE) (lgr n t c))))
    rw [one_mul' n _ hw]
    refine Ev.step (f:=?fa3) (fun k => ?ha3) ?ka3
    case ha3 => simp only [impl_value.l0];rw [if_pos (by omega),if_pos (by omega),if_pos (by omega),hr,if_neg hne] <;> exact rfl
    refine iLetG n s f t hv hs hf hl c hc _ _ ?_
    refine Ev_f (by omega) ?_
    exact Ev.congr (fun k => by rw [show wrap64 ((0 : Int) + 1) = 1 from w64 (by omega) (by omega)];rfl) hi
  | again e w e2 ps _ h hw0 h' =>
   simp only [List.length_cons] at hn
   obtain ⟨t1,ht1⟩ : ∃ t1,e = t1 ++ 41 :: 35 :: e2:=h.suffix
   have hin:=reads_inner h ht1
   have hel : e.length = t1.length + (e2.length + 2):=by rw [ht1];simp
   obtain ⟨v1,V1,o1,vo1,go1,eo1⟩:=ih t1 w (by omega) (by omega) hin
   obtain ⟨v,V,o,vo,go,eo⟩:=ih e2 ps (by omega) (by omega) h'
   have hlp:=h'.parts
   have hlw:=hin.parts
   simp only [List.length_nil] at hlp hlw
   have hnil : (⟨#[]⟩ : ByteArray).toList = ([] : List UInt8):=B_toL []
   have hnx : Ev (fun k => spec_l7Next.f k ⟨(40 :: e).toArray⟩) (⟨t1.toArray⟩,true,⟨e2.toArray⟩):=next_again ⟨(40 :: e).toArray⟩ e t1 e2 w (L_mk _) ht1 h hw0 (by rw [L_size,L_mk];simp only [List.length_cons];omega)
   have sIn : Ev (fun k => spec_l7Value.f k n s f t ⟨t1.toArray⟩) (resV n (v1 (sqL n oneE))):=by
    refine Ev.step (f:=?fa4) (fun k => ?ha4) ?ka4
    case ha4 => simp only [spec_l7Value.f] <;> exact rfl
    refine Ev.bind (sUnit n hn1 hn4) (Ev.bind (sGradesL n _ ?_) ?_)
    ·have h1_:=MV_len (unit_MV n hn1 hn4)
     have h2_:=sq_le n hn4
     show (sqL n unitE).length ≤ 1048576
     omega
    ·rw [unit_gr];exact V1.sp _ hone
   have iIn : Ev (fun k => impl_value.f k n s f t w) (resV n (v1 (sqL n oneE))):=Ev.step (fun k => by simp only [impl_value.f]) (V1.first hw0 (by omega))
   let inner : Option (List Int):=(v1 (sqL n oneE)).bind fun M => if Idem n M then some (stL n M) else none
   have innerGV : ∀ M,inner = some M → GV (n : Int) M:=by
    intro M hM
    show GV (n : Int) M
    cases h1v : v1 (sqL n oneE) with
    | none =>
     have : inner = none:=by show (v1 (sqL n oneE)).bind _ = none;rw [h1v];rfl
     rw [this] at hM;cases hM
    | some b =>
     have hb:=V1.gv _ hone b h1v
     by_cases hi : Idem (n : Int) b
     ·have : inner = some (stL n b):=by show (v1 (sqL n oneE)).bind _ = _;rw [h1v];show (if Idem n b then some (stL n b) else none) = _;rw [if_pos hi]
      rw [this] at hM;obtain rfl:=Option.some.inj hM
      exact GV_st n b hb
     ·have : inner = none:=by show (v1 (sqL n oneE)).bind _ = none;rw [h1v];show (if Idem n b then some (stL n b) else none) = _;rw [if_neg hi]
      rw [this] at hM;cases hM
   have sPart : ∀ (a : List Int) (r : Int × List Int × Bool),GV (n : Int) a → (inner = none → r = (0,[],false)) → (∀ M,inner = some M → Ev (fun k => spec_l7Value.l0 k ⟨e2.toArray⟩ n s f t n (mulL n a M)) r) →
     Ev (fun k => spec_l7Value.l0 k ⟨(40 :: e).toArray⟩ n s f t n a) r:=by
    intro a r ha hno hyes
    refine Ev.step (f:=?fa5) (fun k => ?ha5) ?ka5
    case ha5 => simp only [spec_l7Value.l0];rw [if_neg (by rw [B_toL];simp)] <;> exact rfl
    refine Ev.bind hnx (Ev_t rfl (Ev.bind sIn ?_))
    cases h1v : v1 (sqL n oneE) with
    | none =>
     have : inner = none:=by show (v1 (sqL n oneE)).bind _ = none;rw [h1v];rfl
     exact Ev_f (by show ¬ (false = true);simp) ((Ev.now _).is (hno this).symm)
    | some b =>
     have hb:=V1.gv _ hone b h1v
     refine Ev_t rfl (Ev.bind (sIdemG n b hb) ?_)
     by_cases hi : Idem (n : Int) b
     ·have : inner = some (stL n b):=by show (v1 (sqL n oneE)).bind _ = _;rw [h1v];show (if Idem n b then some (stL n b) else none) = _;rw [if_pos hi]
      refine Ev_t (decide_eq_true hi) (Ev.bind (sStab1 n hn4 hn1 b (GV_len hb)) (Ev.bind (sMul n hn4 hn1 a _ (GV_len ha) (stL_length n b)) ?_))
      exact hyes _ this
     ·have : inner = none:=by show (v1 (sqL n oneE)).bind _ = none;rw [h1v];show (if Idem n b then some (stL n b) else none) = _;rw [if_neg hi]
      exact Ev_f (by rw [decide_eq_false hi];simp) ((Ev.now _).is (hno this).symm)
   have iPart : ∀ (r : Int × List Int × Bool) (g : Nat → Int × List Int × Bool → Option (Int × List Int × Bool)),(inner = none → r = (0,[],false)) → (∀ M,inner = some M → Ev (fun k => g k ((n : Int),M,true)) r) →
     Ev (fun k => (impl_value.f k n s f t w).bind fun b => if b.2.2 = true then ((impl_Stabilise.f k b.1 b.2.1).bind fun q => if q.2.2 = true then g k q else some (0,[],false)) else some (0,[],false)) r:=by
    intro r g hno hyes
    refine Ev.bind iIn ?_
    cases h1v : v1 (sqL n oneE) with
    | none =>
     have : inner = none:=by show (v1 (sqL n oneE)).bind _ = none;rw [h1v];rfl
     exact Ev_f (by show ¬ (false = true);simp) ((Ev.now _).is (hno this).symm)
    | some b =>
     have hb:=V1.gv _ hone b h1v
     refine Ev_t rfl (Ev.bind (iStab n b (big16 hb)) ?_)
     by_cases hi : Idem (n : Int) b
     ·have : inner = some (stL n b):=by show (v1 (sqL n oneE)).bind _ = _;rw [h1v];show (if Idem n b then some (stL n b) else none) = _;rw [if_pos hi]
      have e1 : stabR (n : Int) b = ((n : Int),stL n b,true):=by unfold stabR;rw [if_pos hi];rfl
      rw [e1];exact Ev_t rfl (hyes _ this)
     ·have : inner = none:=by show (v1 (sqL n oneE)).bind _ = none;rw [h1v];show (if Idem n b then some (stL n b) else none) = _;rw [if_neg hi]
      have e1 : stabR (n : Int) b = (0,[],false):=by unfold stabR;rw [if_neg hi]
      rw [e1];exact Ev_f (by simp) ((Ev.now _).is (hno this).symm)
   have v1o : v1 (sqL n oneE) = o1:=by
    rw [eo1 _ hone]
    cases o1 with
    | none => rfl
    | some y => show some (mulL n (sqL n oneE) y) = some y;rw [one_mul' n y (go1 y rfl)]
   have ino : inner = o1.bind fun M => if Idem n M then some (stL n M) else none:=by show (v1 (sqL n oneE)).bind _ = _;rw [v1o]
   refine ⟨fun a => inner.bind fun M => v (mulL n a M),⟨fun a ha b hb => ?_,fun a ha => ?_,fun pre hp hlen a ha => ?_,fun _ hlen => ?_⟩,inner.bind (fun M => o.map (mulL n M)),by rw [ino];exact VP.again w ps o1 o vo1 vo,fun x e => ?_,fun a ha => ?_⟩
   ·cases hI : inner with
    | none => rw [hI] at hb;cases hb
    | some M => rw [hI] at hb;exact V.gv _ (join a M ha (innerGV M hI)) b hb
   ·refine sPart a _ ha (fun hI => by rw [hI];rfl) (fun M hI => ?_)
    rw [hI];exact V.sp _ (join a M ha (innerGV M hI))
   ·simp only [List.length_cons] at hlen
    have hpl : 0 < pre.length:=List.length_pos_iff.mpr hp
    have hd : ((pre ++ (⟨⟨#[]⟩,w⟩ : Part) :: ps).length : Int) = pre.length + (ps.length + 1):=by rw [List.length_append,List.length_cons];push_cast;rfl
    refine Ev.step (f:=?fa6) (fun k => ?ha6) ?ka6
    case ha6 => simp only [impl_value.l0];rw [if_pos (by omega),if_pos (by omega),if_pos (by omega),rd_at,if_pos hnil] <;> exact rfl
    refine iPart _ _ (fun hI => by rw [hI];rfl) (fun M hI => ?_)
    ·have hi:=V.im (pre ++ [⟨⟨#[]⟩,w⟩]) (by simp) (by simp only [List.length_append,List.length_cons,List.length_nil];omega) (mulL n a M) (join a M ha (innerGV M hI))
     rw [List.append_assoc,List.singleton_append,snocA] at hi
     rw [hI]
     refine Ev_t (show (pre.length : Int) > 0 by omega) (Ev.bind (iMul n a M ha (innerGV M hI)) ?_)
     refine Ev.congr (fun k => ?_) hi
     rw [w64 (x:=(pre.length : Int) + 1) (by omega) (by omega)]
   ·simp only [List.length_cons] at hlen
    have hd : (((⟨⟨#[]⟩,w⟩ : Part) :: ps).length : Int) = ps.length + 1:=by rw [List.length_cons];push_cast;rfl
    have hr : rdP ((⟨⟨#[]⟩,w⟩ : Part) :: ps) 0 = ⟨⟨#[]⟩,w⟩:=rd_at [] _ ps
    refine Ev.step (f:=?fa7) (fun k => ?ha7) ?ka7
    case ha7 => simp only [impl_value.l0];rw [if_pos (by omega),if_pos (by omega),if_pos (by omega),hr,if_pos hnil] <;> exact rfl
    refine iPart _ _ (fun hI => by rw [hI];rfl) (fun M hI => ?_)
    ·have hi:=V.im [⟨⟨#[]⟩,w⟩] (by simp) (by simp only [List.length_cons,List.length_nil];omega) M (innerGV M hI)
     rw [hI]
     show Ev _ (resV n (v (mulL n (sqL n oneE) M)))
     rw [one_mul' n M (innerGV M hI)]
     refine Ev_f (by omega) ?_
     exact Ev.congr (fun k => by rw [show wrap64 ((0 : Int) + 1) = 1 from w64 (by omega) (by omega)];rfl) hi
   ·cases hI : inner with
    | none => rw [hI] at e;cases e
    | some M =>
     rw [hI] at e
     cases o with
     | none => cases e
     | some y => obtain rfl:=Option.some.inj e;exact join _ _ (innerGV M hI) (go y rfl)
   ·cases hI : inner with
    | none => rfl
    | some M =>
     show v (mulL n a M) = (o.map (mulL n M)).map (mulL n a)
     rw [eo _ (join a M ha (innerGV M hI))]
     cases o with
     | none => rfl
     | some y => show some (mulL n (mulL n a M) y) = some (mulL n a (mulL n M y));rw [mul_assoc']
theorem value_both (n : Int) (s f : List Int) (t : List Stp) (x : ByteArray) (hs : s.length ≤ 1000000000) (hf : f.length ≤ 1000000000) (hl : t.length ≤ 1000000000) : ∃ r : Int × List Int × Bool,r.2.1.length ≤ 16 ∧ (r.2.2 = true → AV n s f t = true ∧ r.1 = n ∧ GV n r.2.1) ∧
  Ev (fun k => spec_ValueOf.f k n s f t x) r ∧ Ev (fun k => impl_ValueOf.f k n s f t x) r:=by
 have no : Ev (fun k => spec_ValueOf.f k n s f t x) (0,[],false) → Ev (fun k => impl_ValueOf.f k n s f t x) (0,[],false) → ∃ r : Int × List Int × Bool,r.2.1.length ≤ 16 ∧ (r.2.2 = true → AV n s f t = true ∧ r.1 = n ∧ GV n r.2.1) ∧ Ev (fun k => spec_ValueOf.f k n s f t x) r ∧ Ev (fun k => impl_ValueOf.f k n s f t x) r:=fun a b => ⟨(0,[],false),by simp,fun h => (by cases h),a,b⟩
 obtain ⟨ps,ok,hp,hvld,hrd⟩ : ∃ (ps : List Part) (ok : Bool),Ev (fun k => impl_parts.f k x) (ps,ok) ∧ Ev (fun k => spec_ExpressionValid.f k x) ok ∧ (ok = true → x.size ≤ 120 ∧ ps ≠ [] ∧ Reads (L x) ps []):=by
  by_cases hz : x.size ≤ 120
  ·obtain ⟨ps,r,h,hp⟩:=parts_eval x hz
   refine ⟨ps,_,hp,valid_eval x hz h,fun ho => ?_⟩
   have:=of_decide_eq_true ho
   obtain ⟨h1,rfl⟩:=this
   exact ⟨hz,h1,h⟩
  ·exact ⟨[],false,parts_long x (by omega),valid_long x (by omega),fun h => by cases h⟩
 by_cases g1 : AV n s f t = true
 case neg =>
  refine no ?_ ?_
  ·unfold spec_ValueOf.f;exact Ev.bind (sAV n s f t hs hf hl) (Ev_f g1 (Ev.now _))
  ·unfold impl_ValueOf.f
   refine Ev.bind hp ?_
   cases ok with
   | true => exact Ev_t rfl (Ev.bind (iAV n s f t hs hf hl) (Ev_f g1 (Ev.now _)))
   | false => exact Ev_f (by simp) (Ev.now _)
 cases ok with
 | false =>
  refine no ?_ ?_
  ·unfold spec_ValueOf.f;exact Ev.bind (sAV n s f t hs hf hl) (Ev_t g1 (Ev.bind hvld (Ev_f (by simp) (Ev.now _))))
  ·unfold impl_ValueOf.f;exact Ev.bind hp (Ev_f (by simp) (Ev.now _))
 | true =>
  obtain ⟨hz,hne,hR⟩:=hrd rfl
  obtain ⟨h1,h2,h3,h4,h5⟩:=AV_parts g1
  obtain ⟨m,rfl⟩ : ∃ m : Nat,n = (m : Int):=⟨n.toNat,by omega⟩
  have hone:=one_GV m (by omega) (by omega)
  have hxl : (L x).length ≤ 120:=by rw [← L_size];exact hz
  obtain ⟨v,V,_⟩:=value_reads m s f t g1 hs hf hl 1000 (L x) ps (by omega) (Nat.le_refl _) hR
  have hx : (⟨(L x).toArray⟩ : ByteArray) = x:=L_inj (L_mk _)
  have hlp:=hR.parts
  simp only [List.length_nil] at hlp
  refine ⟨resV m (v (sqL m oneE)),?_,?_,?_,?_⟩
  ·cases hq : v (sqL m oneE) with
   | none => simp [resV]
   | some b => exact len_of_GV (V.gv _ hone b hq)
  ·cases hq : v (sqL m oneE) with
   | none => intro h;cases h
   | some b => intro _;exact ⟨g1,rfl,V.gv _ hone b hq⟩
  ·unfold spec_ValueOf.f
   refine Ev.bind (sAV m s f t hs hf hl) (Ev_t g1 (Ev.bind hvld (Ev_t rfl ?_)))
   refine Ev.bind (a:=resV m (v (sqL m oneE))) ?_ (Ev.now _)
   refine Ev.step (f:=?fa8) (fun k => ?ha8) ?ka8
   case ha8 => simp only [spec_l7Value.f] <;> exact rfl
   refine Ev.bind (sUnit m (by omega) (by omega)) (Ev.bind (sGradesL m _ ?_) ?_)
   ·have h1_:=MV_len (unit_MV m (by omega) (by omega))
    have h2_:=sq_le m (by omega)
    show (sqL m unitE).length ≤ 1048576
    omega
   ·rw [unit_gr,← hx];exact V.sp _ hone
  ·unfold impl_ValueOf.f
   refine Ev.bind hp (Ev_t rfl (Ev.bind (iAV m s f t hs hf hl) (Ev_t g1 ?_)))
   refine Ev.bind (a:=resV m (v (sqL m oneE))) ?_ (Ev.now _)
   exact Ev.step (fun k => by simp only [impl_value.f]) (V.first hne (by omega))
def addC (x y : Int) : Int:=mn (x + y) 1000000
def mulCE (n : Nat) (a b : List Int) (i k : Nat) : Int:=(List.range n).foldl (fun acc l => mn acc (addC (a.getD (i * n + l) 0) (b.getD (l * n + k) 0))) 1000000
def mulCL (n : Nat) (a b : List Int) : List Int:=sqL n (mulCE n a b)
theorem mn_le1 (x y : Int) : mn x y ≤ x ∧ mn x y ≤ y:=by unfold mn;by_cases h : y < x <;> simp only [h,if_true,if_false] <;> omega
theorem mn_ge {x y t : Int} (h1 : t ≤ x) (h2 : t ≤ y) : t ≤ mn x y:=by unfold mn;by_cases h : y < x <;> simp only [h,if_true,if_false] <;> omega
theorem addC_in {x y : Int} (hx : 0 ≤ x) (hy : 0 ≤ y) : 0 ≤ addC x y ∧ addC x y ≤ 1000000:=⟨mn_ge (by omega) (by omega),(mn_le1 _ _).2⟩
theorem mulCE_in {n : Nat} {a b : List Int} (ha : MV (n : Int) a) (hb : MV (n : Int) b) (i k : Nat) (hi : i < n) (hk : k < n) : 0 ≤ mulCE n a b i k ∧ mulCE n a b i k ≤ 1000000:=by
 unfold mulCE
 have go : ∀ m,m ≤ n → 0 ≤ (List.range m).foldl (fun acc l => mn acc (addC (a.getD (i * n + l) 0) (b.getD (l * n + k) 0))) 1000000 ∧ (List.range m).foldl (fun acc l => mn acc (addC (a.getD (i * n + l) 0) (b.getD (l * n + k) 0))) 1000000 ≤ 1000000:=by
  intro m
  induction m with
  | zero => intro _;exact ⟨by simp,by simp⟩
  | succ m ih =>
   intro hm
   have h:=ih (by omega)
   rw [fold_snoc]
   have c:=addC_in (MV_at ha i m hi (by omega)).1 (MV_at hb m k (by omega) hk).1
   exact ⟨mn_ge h.1 c.1,Int.le_trans (mn_le1 _ _).1 h.2⟩
 exact go n (Nat.le_refl _)
theorem mulCL_MV {n : Nat} {a b : List Int} (ha : MV (n : Int) a) (hb : MV (n : Int) b) : MV (n : Int) (mulCL n a b):=by
 have h1:=ha.1
 have h2:=ha.2.1
 exact MV_of (by omega) (by omega) _ (fun i k hi hk => mulCE_in ha hb i k hi hk)
theorem sMulC {n : Nat} {a b : List Int} (ha : MV (n : Int) a) (hb : MV (n : Int) b) : Ev (fun k => spec_l2Mul.f k n a n b) ((n : Int),mulCL n a b):=by
 have hn : n ≤ 4:=by have:=ha.2.1;omega
 have h0 : 1 ≤ n:=by have:=ha.1;omega
 have hla:=MV_len ha
 have hlb:=MV_len hb
 have hs:=sq_le n hn
 have e0 : wrap64 ((n : Int) * (n : Int)) = ((n * n : Nat) : Int):=by
  have : (n : Int) * (n : Int) = ((n * n : Nat) : Int):=by simp
  rw [this,w64 (by omega) (by omega)]
 refine Ev.congr (f:=fun k => spec_l2Mul.l0 k ((n * n : Nat) : Int) ((0 : Nat) : Int) n a n b n (tab 0 (fun m => mulCE n a b (m / n) (m % n)))) (fun k => ?_) ?_
 ·unfold spec_l2Mul.f;rw [e0];simp [tab]
 refine up_loop (n * n) (fun m k => spec_l2Mul.l0 k ((n * n : Nat) : Int) (m : Int) n a n b n (tab m (fun m => mulCE n a b (m / n) (m % n)))) _ (fun m hm hnext => ?_) ?_
 ·have hi : m / n < n:=Nat.div_lt_of_lt_mul hm
  have hk : m % n < n:=Nat.mod_lt _ (by omega)
  have hB : ¬ (n : Int) = 0:=by omega
  have eq1 : wrap64 (Int.tdiv (m : Int) (n : Int)) = ((m / n : Nat) : Int):=by
   rw [tdiv_nat]
   obtain ⟨q,hq⟩ : ∃ q : Nat,m / n = q:=⟨_,rfl⟩
   rw [hq] at hi ⊢
   exact w64 (by omega) (by omega)
  have er1 : Int.tmod (m : Int) (n : Int) = ((m % n : Nat) : Int):=tmod_nat m n
  refine Ev.step (f:=fun k => spec_l2Mul.l1 k ((m / n : Nat) : Int) ((m % n : Nat) : Int) ((List.range 0).foldl (fun acc l => mn acc (addC (a.getD (m / n * n + l) 0) (b.getD (l * n + m % n) 0))) 1000000) ((n * n : Nat) : Int) m n ((0 : Nat) : Int) n a n b n (tab m (fun m => mulCE n a b (m / n) (m % n)))) (fun k => ?_) ?_
  ·simp only [spec_l2Mul.l0];rw [if_pos (by omega),if_neg hB,eq1,er1];rfl
  refine up_loop n (fun l k => spec_l2Mul.l1 k ((m / n : Nat) : Int) ((m % n : Nat) : Int) ((List.range l).foldl (fun acc l => mn acc (addC (a.getD (m / n * n + l) 0) (b.getD (l * n + m % n) 0))) 1000000) ((n * n : Nat) : Int) m n (l : Int) n a n b n (tab m (fun m => mulCE n a b (m / n) (m % n)))) _ (fun l hl hs2 => ?_) ?_
  ·refine Ev.step (fun j => ?_) hs2
   have c1:=cell_lt n (m / n) l hi hl
   have c2:=cell_lt n l (m % n) hl hk
   have hA : (l : Int) < (n : Int):=by omega
   have hC : (((m / n * n + l : Nat)) : Int) < (a.length : Int):=by rw [hla];exact_mod_cast c1
   have hD : (((l * n + m % n : Nat)) : Int) < (b.length : Int):=by rw [hlb];exact_mod_cast c2
   have hE : wrap64 ((l : Int) + 1) = ((l + 1 : Nat) : Int):=by rw [w64 (by omega) (by omega)];rfl
   have e1:=idx1 n m l hn hi hl
   have e2:=idx2 n m l hn hk hl
   rw [eq1] at e1
   rw [er1] at e2
   have d1:=MV_at ha (m / n) l hi hl
   have d2:=MV_at hb l (m % n) hl hk
   have hadd : spec_l1Add.f (a.getD (m / n * n + l) 0) (b.getD (l * n + m % n) 0) = some (addC (a.getD (m / n * n + l) 0) (b.getD (l * n + m % n) 0)):=by
    obtain ⟨x,hx⟩ : ∃ x,a.getD (m / n * n + l) 0 = x:=⟨_,rfl⟩
    obtain ⟨y,hy⟩ : ∃ y,b.getD (l * n + m % n) 0 = y:=⟨_,rfl⟩
    rw [hx] at d1
    rw [hy] at d2
    rw [hx,hy]
    unfold spec_l1Add.f addC
    rw [w64 (x:=x + y) (by omega) (by omega)]
   simp only [spec_l2Mul.l1]
   rw [if_pos hA,e1,e2,if_pos (Int.natCast_nonneg _),if_pos hC,if_pos (Int.natCast_nonneg _),if_pos hD,rd_nat,rd_nat,hadd,Option.bind_some,hE,fold_snoc]
  ·refine Ev.step (fun j => ?_) hnext
   simp only [spec_l2Mul.l1]
   rw [if_neg (by omega),tab_length,if_pos (by omega),w64 (by omega) (by omega)]
   have e : tab m (fun m => mulCE n a b (m / n) (m % n)) ++ [mulCE n a b (m / n) (m % n)] = tab (m + 1) (fun m => mulCE n a b (m / n) (m % n)):=tab_snoc m (fun m => mulCE n a b (m / n) (m % n))
   show spec_l2Mul.l0 j _ _ _ _ _ _ _ (tab m (fun m => mulCE n a b (m / n) (m % n)) ++ [mulCE n a b (m / n) (m % n)]) = _
   rw [e];rfl
 ·refine Ev.step (f:=fun _ => some ((n : Int),mulCL n a b)) (fun j => ?_) (Ev.now _)
  simp only [spec_l2Mul.l0]
  rw [if_neg (by omega)];rfl
def wordL (n : Nat) (t : List Stp) (w : List UInt8) (a : List Int) : List Int:=w.foldl (fun a c => mulCL n a (letL n t c)) a
theorem wordL_MV (n : Nat) (h1 : 1 ≤ n) (h4 : n ≤ 4) (t : List Stp) (ht : ∀ y ∈ t,stepOk n y = true) : ∀ (w : List UInt8) (a : List Int),MV (n : Int) a → MV (n : Int) (wordL n t w a)
 | [],_,h => h
 | c :: w,a,h => wordL_MV n h1 h4 t ht w _ (mulCL_MV h (letL_MV n h1 h4 t ht c))
theorem sWordLoop (n : Nat) (h1 : 1 ≤ n) (h4 : n ≤ 4) (t : List Stp) (ht : ∀ y ∈ t,stepOk n y = true) (w : ByteArray) (hw : w.size ≤ 1000) : ∀ (e u : List UInt8) (a : List Int),L w = u ++ e → e.all wOk = true → MV (n : Int) a →
  Ev (fun k => spec_l4Matrix.l0 k w w.size u.length n a n (letL n t 97) n (letL n t 98)) ((n : Int),wordL n t e a):=by
 intro e
 induction e with
 | nil =>
  intro u a h _ _
  have hz:=size_suffix h
  simp only [List.length_nil] at hz
  refine Ev.step (f:=fun _ => some ((n : Int),a)) (fun k => ?_) (Ev.now _)
  simp only [spec_l4Matrix.l0];rw [if_neg (by omega)]
 | cons c e ih =>
  intro u a h ho ha
  have hz:=size_suffix h
  simp only [List.length_cons] at hz
  have hbt:=bt_suffix h
  have hl : (u.length : Int) + 1 = (((u ++ [c]).length : Nat) : Int):=by simp
  simp only [List.all_cons,Bool.and_eq_true] at ho
  have h2:=ih (u ++ [c]) (mulCL n a (letL n t c)) (by rw [h];simp) ho.2 (mulCL_MV ha (letL_MV n h1 h4 t ht c))
  refine Ev.step (f:=fun k => (spec_l2Mul.f k n a n (letL n t c)).bind fun b => spec_l4Matrix.l0 k w w.size ((u ++ [c]).length : Int) b.1 b.2 n (letL n t 97) n (letL n t 98)) (fun k => ?_) (Ev.bind (sMulC ha (letL_MV n h1 h4 t ht c)) h2)
  simp only [spec_l4Matrix.l0]
  rw [if_pos (by omega),if_pos (by omega),if_pos (by omega),hbt,w64 (x:=(u.length : Int) + 1) (by omega) (by omega),hl]
  have hc : c = 97 ∨ c = 98:=by have:=ho.1;unfold wOk at this;simpa using this
  rcases hc with rfl|rfl
  ·rw [if_pos (show (((97 : UInt8).toNat : Nat) : Int) = 97 from rfl)]
  ·rw [if_neg (by decide)]
theorem one_letter (w : ByteArray) {u : List UInt8} {c : UInt8} {e : List UInt8} (h : L w = u ++ c :: e) : (w.extract u.length (u.length + 1)).toList = [c]:=by
 rw [toList_L,L_extract,h]
 rw [List.drop_take,List.drop_left']
 ·simp
 ·rfl
def wmR (n : Int) (s f : List Int) (t : List Stp) (w : ByteArray) : Int × List Int × Bool:=if AV n s f t = true ∧ wordB (L w) = true then (n,wordL n.toNat t (L w) (sqL n.toNat unitE),true) else (0,[],false)
theorem wordB_size {w : ByteArray} (h : wordB (L w) = true) : w.size ≤ 1000 ∧ (L w).all wOk = true:=by
 unfold wordB at h
 rw [Bool.and_eq_true,decide_eq_true_eq,← L_size] at h
 exact ⟨h.2,h.1⟩
theorem sWordMx (m : Nat) (s f : List Int) (t : List Stp) (w : ByteArray) (g1 : AV m s f t = true) (g2 : wordB (L w) = true) (hl : t.length ≤ 1000000000) : Ev (fun k => spec_l4Matrix.f k m s f t w) ((m : Int),wordL m t (L w) (sqL m unitE)):=by
 obtain ⟨h1,h2,h3,h4,h5⟩:=AV_parts g1
 obtain ⟨z1,z2⟩:=wordB_size g2
 unfold spec_l4Matrix.f
 have la : (⟨#[97]⟩ : ByteArray).toList = [97]:=by rw [toList_L];rfl
 have lb : (⟨#[98]⟩ : ByteArray).toList = [98]:=by rw [toList_L];rfl
 have a1:=sLetter m (by omega) (by omega) s f ⟨#[97]⟩ t (stp_mem h5) hl
 have a2:=sLetter m (by omega) (by omega) s f ⟨#[98]⟩ t (stp_mem h5) hl
 rw [la] at a1
 rw [lb] at a2
 refine Ev.bind (sUnit m (by omega) (by omega)) (Ev.bind a1 (Ev.bind a2 ?_))
 exact sWordLoop m (by omega) (by omega) t (stp_mem h5) w z1 (L w) [] (sqL m unitE) rfl z2 (unit_MV m (by omega) (by omega))
theorem wmR_len (n : Int) (s f : List Int) (t : List Stp) (w : ByteArray) : (wmR n s f t w).2.1.length ≤ 1048576:=by
 unfold wmR
 by_cases g : AV n s f t = true ∧ wordB (L w) = true
 ·rw [if_pos g]
  obtain ⟨h1,h2,h3,h4,h5⟩:=AV_parts g.1
  obtain ⟨m,rfl⟩ : ∃ m : Nat,n = (m : Int):=⟨n.toNat,by omega⟩
  have h:=wordL_MV m (by omega) (by omega) t (stp_mem h5) (L w) (sqL m unitE) (unit_MV m (by omega) (by omega))
  have:=MV_len h
  have:=sq_le m (by omega)
  show (wordL m t (L w) (sqL m unitE)).length ≤ 1048576
  omega
 ·rw [if_neg g];decide
def betw (n : Int) (s f l : List Int) : Int:=s.foldl (fun acc i => f.foldl (fun acc k => mn acc (l.getD (i * n + k).toNat 0)) acc) 3
theorem sBetw (n : Int) (hn : 1 ≤ n ∧ n ≤ 4) (s f : List Int) (t : List Stp) (l : List Int) (hl : (l.length : Int) = n * n) (hs : ∀ x ∈ s,0 ≤ x ∧ x < n) (hf : ∀ x ∈ f,0 ≤ x ∧ x < n) (hsl : s.length ≤ 1000000000) (hfl : f.length ≤ 1000000000) :
  Ev (fun k => spec_l6Between.f k n s f t n l) (betw n s f l):=by
 have go : ∀ (u pre : List Int) (acc : Int),s = pre ++ u → Ev (fun k => spec_l6Between.l0 k acc s (s.length : Int) (pre.length : Int) n s f t n l) (u.foldl (fun acc i => f.foldl (fun acc k => mn acc (l.getD (i * n + k).toNat 0)) acc) acc):=by
  intro u
  induction u with
  | nil =>
   intro pre acc hp
   refine Ev.step (f:=fun _ => some acc) (fun k => ?_) (Ev.now _)
   simp only [spec_l6Between.l0];rw [if_neg (by rw [hp];simp)]
  | cons x u ih =>
   intro pre acc hp
   have hlen : s.length = pre.length + (u.length + 1):=by rw [hp];simp
   have hx : rdI s (pre.length : Int) = x:=by rw [hp,rd_mid]
   have hb:=hs x (by rw [hp];simp)
   have inner : ∀ (v q : List Int) (acc : Int),f = q ++ v → Ev (fun k => spec_l6Between.l1 k acc x s (s.length : Int) (pre.length : Int) f (f.length : Int) (q.length : Int) n s f t n l) (u.foldl (fun acc i => f.foldl (fun acc k => mn acc (l.getD (i * n + k).toNat 0)) acc) (v.foldl (fun acc k => mn acc (l.getD (x * n + k).toNat 0)) acc)):=by
    intro v
    induction v with
    | nil =>
     intro q acc hq
     refine Ev.step (fun k => ?_) (ih (pre ++ [x]) acc (by simp [hp]))
     simp only [spec_l6Between.l1];rw [if_neg (by rw [hq];simp),w64 (by omega) (by omega),snoc_len]
    | cons y v ihv =>
     intro q acc hq
     have hlq : f.length = q.length + (v.length + 1):=by rw [hq];simp
     have hy : rdI f (q.length : Int) = y:=by rw [hq,rd_mid]
     have hc:=hf y (by rw [hq];simp)
     have c:=cellZ hn hb hc
     refine Ev.step (fun k => ?_) (ihv (q ++ [y]) _ (by simp [hq]))
     simp only [spec_l6Between.l1]
     rw [if_pos (by omega),if_pos (by omega),if_pos (by omega),hy,cellW hn hb hc,if_pos (by omega),if_pos (by omega),w64 (x:=(q.length : Int) + 1) (by omega) (by omega),snoc_len]
     rfl
   refine Ev.step (fun k => ?_) (inner f [] acc rfl)
   simp only [spec_l6Between.l0]
   rw [if_pos (by omega),if_pos (by omega),if_pos (by omega),hx];rfl
 exact go s [] 3 rfl
theorem iBetw (n : Int) (hn : 1 ≤ n ∧ n ≤ 4) (s f : List Int) (t : List Stp) (l : List Int) (hl : (l.length : Int) = n * n) (hs : ∀ x ∈ s,0 ≤ x ∧ x < n) (hf : ∀ x ∈ f,0 ≤ x ∧ x < n) (hsl : s.length ≤ 1000000000) (hfl : f.length ≤ 1000000000) :
  Ev (fun k => impl_GradeBetween.l0 k 3 s (s.length : Int) 0 n s f t n l) (betw n s f l):=by
 have go : ∀ (u pre : List Int) (acc : Int),s = pre ++ u → Ev (fun k => impl_GradeBetween.l0 k acc s (s.length : Int) (pre.length : Int) n s f t n l) (u.foldl (fun acc i => f.foldl (fun acc k => mn acc (l.getD (i * n + k).toNat 0)) acc) acc):=by
  intro u
  induction u with
  | nil =>
   intro pre acc hp
   refine Ev.step (f:=fun _ => some acc) (fun k => ?_) (Ev.now _)
   simp only [impl_GradeBetween.l0];rw [if_neg (by rw [hp];simp)]
  | cons x u ih =>
   intro pre acc hp
   have hlen : s.length = pre.length + (u.length + 1):=by rw [hp];simp
   have hx : rdI s (pre.length : Int) = x:=by rw [hp,rd_mid]
   have hb:=hs x (by rw [hp];simp)
   have inner : ∀ (v q : List Int) (acc : Int),f = q ++ v → Ev (fun k => impl_GradeBetween.l1 k acc x s (s.length : Int) (pre.length : Int) f (f.length : Int) (q.length : Int) n s f t n l) (u.foldl (fun acc i => f.foldl (fun acc k => mn acc (l.getD (i * n + k).toNat 0)) acc) (v.foldl (fun acc k => mn acc (l.getD (x * n + k).toNat 0)) acc)):=by
    intro v
    induction v with
    | nil =>
     intro q acc hq
     refine Ev.step (fun k => ?_) (ih (pre ++ [x]) acc (by simp [hp]))
     simp only [impl_GradeBetween.l1];rw [if_neg (by rw [hq];simp),w64 (by omega) (by omega),snoc_len]
    | cons y v ihv =>
     intro q acc hq
     have hlq : f.length = q.length + (v.length + 1):=by rw [hq];simp
     have hy : rdI f (q.length : Int) = y:=by rw [hq,rd_mid]
     have hc:=hf y (by rw [hq];simp)
     have c:=cellZ hn hb hc
     refine Ev.step (fun k => ?_) (ihv (q ++ [y]) _ (by simp [hq]))
     simp only [impl_GradeBetween.l1,impl_Matrix_at.f]
     rw [if_pos (by omega),if_pos (by omega),if_pos (by omega),hy,cellW hn hb hc,if_pos (by omega),if_pos (by omega),Option.bind_some,w64 (x:=(q.length : Int) + 1) (by omega) (by omega),snoc_len]
     rfl
   refine Ev.step (fun k => ?_) (inner f [] acc rfl)
   simp only [impl_GradeBetween.l0]
   rw [if_pos (by omega),if_pos (by omega),if_pos (by omega),hx];rfl
 exact go s [] 3 rfl
def grB (n : Int) (s f : List Int) (t : List Stp) (m : Int) (l : List Int) : Int:=if AV n s f t = true ∧ GV m l ∧ m = n then betw n s f l else -1
theorem iGradeB (n : Int) (s f : List Int) (t : List Stp) (m : Int) (l : List Int) (hs : s.length ≤ 1000000000) (hf : f.length ≤ 1000000000) (ht : t.length ≤ 1000000000) (hl : l.length ≤ maxLen) : Ev (fun k => impl_GradeBetween.f k n s f t m l) (grB n s f t m l):=by
 have bad : ¬ (AV n s f t = true ∧ GV m l ∧ m = n) → grB n s f t m l = -1:=fun he => by unfold grB;rw [if_neg he]
 unfold impl_GradeBetween.f
 refine Ev.bind (iAV n s f t hs hf ht) ?_
 by_cases g1 : AV n s f t = true
 case neg => exact Ev_f g1 ((Ev.now _).is (bad (fun h => g1 h.1)).symm)
 refine Ev_t g1 (Ev.bind (iGV m l hl) ?_)
 by_cases g2 : GV m l
 case neg => exact Ev_f (by simpa using g2) ((Ev.now _).is (bad (fun h => g2 h.2.1)).symm)
 refine Ev_t (decide_eq_true g2) ?_
 by_cases g3 : m = n
 case neg => exact Ev_f g3 ((Ev.now _).is (bad (fun h => g3 h.2.2)).symm)
 refine Ev_t g3 ?_
 subst g3
 obtain ⟨h1,h2,h3,h4,h5⟩:=AV_parts g1
 refine (iBetw m h1 s f t l g2.1.2.2.1 (mrk_mem h3) (mrk_mem h4) hs hf).is ?_
 unfold grB;rw [if_pos ⟨g1,g2,rfl⟩]
theorem le_mn {x a b : Int} : x ≤ mn a b ↔ x ≤ a ∧ x ≤ b:=⟨fun h => ⟨by have:=(mn_le1 a b).1;omega,by have:=(mn_le1 a b).2;omega⟩,fun h => mn_ge h.1 h.2⟩
theorem le_foldmn (f : Nat → Int) (x : Int) : ∀ (ls : List Nat) (acc : Int),x ≤ ls.foldl (fun a l => mn a (f l)) acc ↔ x ≤ acc ∧ ∀ l ∈ ls,x ≤ f l
 | [],acc => by simp
 | l :: ls,acc => by
  rw [List.foldl_cons,le_foldmn f x ls,le_mn]
  constructor
  ·rintro ⟨⟨h1,h2⟩,h3⟩
   exact ⟨h1,fun y hy => by rcases List.mem_cons.1 hy with rfl|h;exact h2;exact h3 y h⟩
  ·rintro ⟨h1,h2⟩
   exact ⟨⟨h1,h2 l (List.mem_cons_self ..)⟩,fun y hy => h2 y (List.mem_cons_of_mem _ hy)⟩
theorem eq_le' {a b : Int} (h : ∀ x,x ≤ a ↔ x ≤ b) : a = b:=Int.le_antisymm ((h a).1 (Int.le_refl a)) ((h b).2 (Int.le_refl b))
def mvE (n : Nat) (a v : List Int) (p : Nat) : Int:=(List.range n).foldl (fun acc l => mn acc (addC (a.getD (p * n + l) 0) (v.getD l 0))) 1000000
def mvL (n : Nat) (a v : List Int) : List Int:=(List.range n).map (mvE n a v)
theorem le_mvE {n : Nat} {a v : List Int} {p : Nat} {x : Int} : x ≤ mvE n a v p ↔ x ≤ 1000000 ∧ ∀ l,l < n → x ≤ a.getD (p * n + l) 0 + v.getD l 0:=by
 unfold mvE
 rw [le_foldmn (fun l => addC (a.getD (p * n + l) 0) (v.getD l 0))]
 constructor
 ·rintro ⟨h1,h2⟩
  exact ⟨h1,fun l hl => (le_mn.1 (h2 l (List.mem_range.2 hl))).1⟩
 ·rintro ⟨h1,h2⟩
  exact ⟨h1,fun l hl => le_mn.2 ⟨h2 l (List.mem_range.1 hl),h1⟩⟩
theorem le_mulCE {n : Nat} {a b : List Int} {i k : Nat} {x : Int} : x ≤ mulCE n a b i k ↔ x ≤ 1000000 ∧ ∀ l,l < n → x ≤ a.getD (i * n + l) 0 + b.getD (l * n + k) 0:=by
 unfold mulCE
 rw [le_foldmn (fun l => addC (a.getD (i * n + l) 0) (b.getD (l * n + k) 0))]
 constructor
 ·rintro ⟨h1,h2⟩
  exact ⟨h1,fun l hl => (le_mn.1 (h2 l (List.mem_range.2 hl))).1⟩
 ·rintro ⟨h1,h2⟩
  exact ⟨h1,fun l hl => le_mn.2 ⟨h2 l (List.mem_range.1 hl),h1⟩⟩
theorem mvL_get (n : Nat) (a v : List Int) (p : Nat) (hp : p < n) : (mvL n a v).getD p 0 = mvE n a v p:=by
 unfold mvL
 rw [List.getD_eq_getElem?_getD,List.getElem?_map,List.getElem?_range hp]
 rfl
theorem mv_mul {n : Nat} {a b v : List Int} (ha : MV (n : Int) a) (hb : MV (n : Int) b) (hv : ∀ l,l < n → 0 ≤ v.getD l 0) (p : Nat) (hp : p < n) : mvE n (mulCL n a b) v p = mvE n a (mvL n b v) p:=by
 refine eq_le' fun x => ?_
 rw [le_mvE,le_mvE]
 constructor
 ·rintro ⟨h1,h2⟩
  refine ⟨h1,fun l hl => ?_⟩
  rw [mvL_get n b v l hl]
  have ha0:=MV_at ha p l hp hl
  have : x - a.getD (p * n + l) 0 ≤ mvE n b v l:=by
   refine le_mvE.2 ⟨by omega,fun k hk => ?_⟩
   have h3:=h2 k hk
   unfold mulCL at h3
   rw [sqL_get n _ p k hp hk] at h3
   have h4 : x - v.getD k 0 ≤ mulCE n a b p k:=by omega
   have:=(le_mulCE.1 h4).2 l hl
   omega
  omega
 ·rintro ⟨h1,h2⟩
  refine ⟨h1,fun k hk => ?_⟩
  unfold mulCL
  rw [sqL_get n _ p k hp hk]
  have hv0:=hv k hk
  have : x - v.getD k 0 ≤ mulCE n a b p k:=by
   refine le_mulCE.2 ⟨by omega,fun l hl => ?_⟩
   have h3:=h2 l hl
   rw [mvL_get n b v l hl] at h3
   have h4 : x - a.getD (p * n + l) 0 ≤ mvE n b v l:=by omega
   have:=(le_mvE.1 h4).2 k hk
   omega
  omega
theorem mvL_mul {n : Nat} {a b v : List Int} (ha : MV (n : Int) a) (hb : MV (n : Int) b) (hv : ∀ l,l < n → 0 ≤ v.getD l 0) : mvL n (mulCL n a b) v = mvL n a (mvL n b v):=by
 unfold mvL
 refine List.map_congr_left fun p hp => ?_
 exact mv_mul ha hb hv p (List.mem_range.1 hp)
theorem mvE_in {n : Nat} {a v : List Int} (ha : MV (n : Int) a) (hv : ∀ l,l < n → 0 ≤ v.getD l 0) (p : Nat) (hp : p < n) : 0 ≤ mvE n a v p ∧ mvE n a v p ≤ 1000000:=by
 refine ⟨le_mvE.2 ⟨by omega,fun l hl => ?_⟩,(le_mvE.1 (Int.le_refl _)).1⟩
 have h1:=MV_at ha p l hp hl
 have h2:=hv l hl
 omega
def colL (n : Nat) (t : List Stp) : List UInt8 → List Int → List Int
 | [],v => v
 | c :: w,v => mvL n (letL n t c) (colL n t w v)
theorem mvL_in {n : Nat} {a v : List Int} (ha : MV (n : Int) a) (hv : ∀ l,l < n → 0 ≤ v.getD l 0) : ∀ l,l < n → 0 ≤ (mvL n a v).getD l 0 ∧ (mvL n a v).getD l 0 ≤ 1000000:=by
 intro l hl
 rw [mvL_get n a v l hl]
 exact mvE_in ha hv l hl
theorem colL_in (n : Nat) (h1 : 1 ≤ n) (h4 : n ≤ 4) (t : List Stp) (ht : ∀ y ∈ t,stepOk n y = true) : ∀ (w : List UInt8) (v : List Int),(∀ l,l < n → 0 ≤ v.getD l 0) → ∀ l,l < n → 0 ≤ (colL n t w v).getD l 0
 | [],v,hv => hv
 | c :: w,v,hv => fun l hl => (mvL_in (letL_MV n h1 h4 t ht c) (colL_in n h1 h4 t ht w v hv) l hl).1
theorem word_col (n : Nat) (h1 : 1 ≤ n) (h4 : n ≤ 4) (t : List Stp) (ht : ∀ y ∈ t,stepOk n y = true) (v : List Int) (hv : ∀ l,l < n → 0 ≤ v.getD l 0) : ∀ (w : List UInt8) (a : List Int),MV (n : Int) a → mvL n (wordL n t w a) v = mvL n a (colL n t w v)
 | [],a,_ => rfl
 | c :: w,a,ha => by
  have hc:=letL_MV n h1 h4 t ht c
  show mvL n (wordL n t w (mulCL n a (letL n t c))) v = _
  rw [word_col n h1 h4 t ht v hv w _ (mulCL_MV ha hc)]
  exact mvL_mul ha hc (colL_in n h1 h4 t ht w v hv)
theorem unit_col (n : Nat) (v : List Int) (hl : v.length = n) (hv : ∀ l,l < n → 0 ≤ v.getD l 0 ∧ v.getD l 0 ≤ 1000000) : mvL n (sqL n unitE) v = v:=by
 apply List.ext_getElem?
 intro p
 by_cases hp : p < n
 ·have e1:=mvL_get n (sqL n unitE) v p hp
  have : mvE n (sqL n unitE) v p = v.getD p 0:=by
   refine eq_le' fun x => ?_
   rw [le_mvE]
   constructor
   ·rintro ⟨_,h2⟩
    have:=h2 p hp
    rw [sqL_get n _ p p hp hp] at this
    simp [unitE] at this
    simpa using this
   ·intro h
    have hp1:=hv p hp
    refine ⟨by omega,fun l hl => ?_⟩
    rw [sqL_get n _ p l hp hl]
    have h3:=hv l hl
    unfold unitE
    by_cases e : p = l
    ·subst e;simp;simpa using h
    ·simp [e];simp at h h3 hp1;omega
  rw [this] at e1
  have l1 : (mvL n (sqL n unitE) v).length = n:=by simp [mvL]
  rw [List.getElem?_eq_getElem (by omega),List.getElem?_eq_getElem (by omega)]
  simp only [List.getD_eq_getElem?_getD,List.getElem?_eq_getElem (show p < (mvL n (sqL n unitE) v).length by omega),List.getElem?_eq_getElem (show p < v.length by omega),Option.getD_some] at e1
  rw [e1]
 ·rw [List.getElem?_eq_none (by simp [mvL];omega),List.getElem?_eq_none (by omega)]
def endL (c : List UInt8) (t : List Stp) (v nx : List Int) : List Int:=t.foldl (fun (nx : List Int) (s : Stp) => if s.f1.toList = c then nx.set s.f0.toNat (mn (nx.getD s.f0.toNat 0) (s.f3 + v.getD s.f2.toNat 0)) else nx) nx
theorem endL_len (c : List UInt8) (v : List Int) : ∀ (t : List Stp) (nx : List Int),(endL c t v nx).length = nx.length
 | [],nx => rfl
 | s :: t,nx => by
  show (endL c t v (if s.f1.toList = c then nx.set s.f0.toNat (mn (nx.getD s.f0.toNat 0) (s.f3 + v.getD s.f2.toNat 0)) else nx)).length = nx.length
  rw [endL_len c v t]
  by_cases h : s.f1.toList = c
  ·rw [if_pos h,List.length_set]
  ·rw [if_neg h]
theorem getD_set' (l : List Int) (i j : Nat) (x : Int) (hj : j < l.length) : (l.set i x).getD j 0 = if i = j then x else l.getD j 0:=by
 simp only [List.getD_eq_getElem?_getD,List.getElem?_set]
 by_cases h : i = j
 ·subst h;simp [hj]
 ·simp [h]
theorem le_endL (c : List UInt8) (v : List Int) (x : Int) (p : Nat) : ∀ (t : List Stp) (nx : List Int),p < nx.length → (x ≤ (endL c t v nx).getD p 0 ↔ x ≤ nx.getD p 0 ∧ ∀ s ∈ t,s.f1.toList = c → s.f0.toNat = p → x ≤ s.f3 + v.getD s.f2.toNat 0)
 | [],nx,_ => by
  show x ≤ nx.getD p 0 ↔ _
  exact ⟨fun h => ⟨h,fun s hs => by cases hs⟩,fun h => h.1⟩
 | s :: t,nx,hp => by
  show x ≤ (endL c t v (if s.f1.toList = c then nx.set s.f0.toNat (mn (nx.getD s.f0.toNat 0) (s.f3 + v.getD s.f2.toNat 0)) else nx)).getD p 0 ↔ _
  have key : x ≤ (if s.f1.toList = c then nx.set s.f0.toNat (mn (nx.getD s.f0.toNat 0) (s.f3 + v.getD s.f2.toNat 0)) else nx).getD p 0 ↔ x ≤ nx.getD p 0 ∧ (s.f1.toList = c → s.f0.toNat = p → x ≤ s.f3 + v.getD s.f2.toNat 0):=by
   by_cases h : s.f1.toList = c
   ·rw [if_pos h,getD_set' _ _ _ _ hp]
    by_cases e : s.f0.toNat = p
    ·rw [if_pos e,le_mn,e]
     exact ⟨fun q => ⟨q.1,fun _ _ => q.2⟩,fun q => ⟨q.1,q.2 h rfl⟩⟩
    ·rw [if_neg e]
     exact ⟨fun q => ⟨q,fun _ e' => absurd e' e⟩,fun q => q.1⟩
   ·rw [if_neg h]
    exact ⟨fun q => ⟨q,fun h' => absurd h' h⟩,fun q => q.1⟩
  rw [le_endL c v x p t _ (by by_cases h : s.f1.toList = c <;> simp [h,hp]),key]
  constructor
  ·rintro ⟨⟨h1,h2⟩,h3⟩
   refine ⟨h1,fun y hy => ?_⟩
   rcases List.mem_cons.1 hy with rfl|hy
   ·exact h2
   ·exact h3 y hy
  ·rintro ⟨h1,h2⟩
   exact ⟨⟨h1,h2 s (List.mem_cons_self ..)⟩,fun y hy => h2 y (List.mem_cons_of_mem _ hy)⟩
def num (s : Stp) : Int:=s.f0 * 8 + (if s.f1.toList = ([97] : List UInt8) then 0 else 4) + s.f2
theorem bef_num {n : Int} (h4 : n ≤ 4) {x y : Stp} (hx : stepOk n x = true) (hy : stepOk n y = true) (h : bef x y = true) : num x < num y:=by
 have ox:=of_decide_eq_true hx
 have oy:=of_decide_eq_true hy
 obtain ⟨x1,x2,x3,x4,x5,x6,x7⟩:=ox
 obtain ⟨y1,y2,y3,y4,y5,y6,y7⟩:=oy
 unfold bef at h
 unfold num
 by_cases e : x.f0 = y.f0
 ·rw [if_pos e] at h
  rcases x7 with q1|q1 <;> rcases y7 with q2|q2 <;> rw [q1,q2] at h ⊢
  ·have h:=of_decide_eq_true (show decide (x.f2 < y.f2) = true from h)
   omega
  ·have r1 : (if ([97] : List UInt8) = [97] then (0 : Int) else 4) = 0:=if_pos rfl
   have r2 : (if ([98] : List UInt8) = [97] then (0 : Int) else 4) = 4:=if_neg (by decide)
   rw [r1,r2];omega
  ·rw [if_neg (by decide)] at h
   exact absurd h (by decide)
  ·have h:=of_decide_eq_true (show decide (x.f2 < y.f2) = true from h)
   omega
 ·rw [if_neg e] at h
  have h:=of_decide_eq_true h
  have b : ∀ (s : Stp),(0 : Int) ≤ (if s.f1.toList = ([97] : List UInt8) then (0 : Int) else 4) ∧ (if s.f1.toList = ([97] : List UInt8) then (0 : Int) else 4) ≤ 4:=fun s => by split <;> omega
  have bx:=b x
  have bY:=b y
  omega
theorem stp_lt {n : Int} (h4 : n ≤ 4) : ∀ {t : List Stp} {y : Stp},stepOk n y = true → stp n (some y) t = true → ∀ x ∈ t,num y < num x
 | [],_,_,_,x,hx => by cases hx
 | z :: t,y,hy,h,x,hx => by
  simp only [stp,Bool.and_eq_true] at h
  have h1:=bef_num h4 hy h.1.1 h.1.2
  rcases List.mem_cons.mp hx with rfl|hx
  ·exact h1
  ·exact Int.lt_trans h1 (stp_lt h4 h.1.1 h.2 x hx)
theorem stp_uniq {n : Int} (h4 : n ≤ 4) : ∀ {t : List Stp} {p : Option Stp},stp n p t = true → ∀ x ∈ t,∀ y ∈ t,num x = num y → x = y
 | [],_,_,x,hx,_,_,_ => by cases hx
 | z :: t,p,h,x,hx,y,hy,e => by
  simp only [stp,Bool.and_eq_true] at h
  rcases List.mem_cons.mp hx with ex|hx' <;> rcases List.mem_cons.mp hy with ey|hy'
  ·rw [ex,ey]
  ·rw [ex] at e;have:=stp_lt h4 h.1.1 h.2 y hy';omega
  ·rw [ey] at e;have:=stp_lt h4 h.1.1 h.2 x hx';omega
  ·exact stp_uniq h4 h.2 x hx' y hy' e
theorem stepL_get (n : Nat) (c : List UInt8) (p q : Nat) (hp : p < n) (hq : q < n) : ∀ (t : List Stp) (l : List Int),l.length = n * n → (∀ y ∈ t,stepOk n y = true) →
  (∃ s ∈ t,s.f1.toList = c ∧ s.f0.toNat = p ∧ s.f2.toNat = q ∧ (stepL n c t l).getD (p * n + q) 0 = s.f3) ∨ ((∀ s ∈ t,s.f1.toList = c → s.f0.toNat = p → s.f2.toNat = q → False) ∧ (stepL n c t l).getD (p * n + q) 0 = l.getD (p * n + q) 0)
 | [],l,_,_ => .inr ⟨fun s hs => (by cases hs),rfl⟩
 | s :: t,l,hl,ht => by
  have hlt : p * n + q < n * n:=by
   have : (p + 1) * n ≤ n * n:=Nat.mul_le_mul_right n hp
   rw [Nat.succ_mul] at this;omega
  have e : stepL n c (s :: t) l = stepL n c t (if s.f1.toList = c then l.set (s.f0 * (n : Int) + s.f2).toNat s.f3 else l):=rfl
  rw [e]
  have hl' : (if s.f1.toList = c then l.set (s.f0 * (n : Int) + s.f2).toNat s.f3 else l).length = n * n:=by by_cases h : s.f1.toList = c <;> simp [h,hl]
  rcases stepL_get n c p q hp hq t _ hl' (fun y hy => ht y (List.mem_cons_of_mem _ hy)) with ⟨y,hy,h⟩ | ⟨h1,h2⟩
  ·exact .inl ⟨y,List.mem_cons_of_mem _ hy,h⟩
  ·rw [h2]
   have os:=of_decide_eq_true (show decide _ = true from ht s (List.mem_cons_self ..))
   have e1 : (s.f0 * (n : Int) + s.f2).toNat = s.f0.toNat * n + s.f2.toNat:=by
    obtain ⟨m0,f0⟩ : ∃ m : Nat,s.f0 = (m : Int):=⟨s.f0.toNat,by omega⟩
    obtain ⟨m2,f2⟩ : ∃ m : Nat,s.f2 = (m : Int):=⟨s.f2.toNat,by omega⟩
    rw [f0,f2]
    have : ((m0 : Int) * (n : Int) + (m2 : Int)) = ((m0 * n + m2 : Nat) : Int):=by push_cast;rfl
    rw [this]
    simp only [Int.toNat_natCast]
   by_cases hc : s.f1.toList = c
   ·rw [if_pos hc,getD_set' _ _ _ _ (by omega),e1]
    by_cases k : s.f0.toNat = p ∧ s.f2.toNat = q
    ·obtain ⟨k1,k2⟩:=k
     exact .inl ⟨s,List.mem_cons_self ..,hc,k1,k2,by rw [k1,k2,if_pos rfl]⟩
    ·have hne : ¬ s.f0.toNat * n + s.f2.toNat = p * n + q:=by
      intro hh
      have hq2 : s.f2.toNat < n:=by omega
      have d1 : (s.f0.toNat * n + s.f2.toNat) / n = s.f0.toNat:=by rw [Nat.mul_comm,Nat.mul_add_div (by omega),Nat.div_eq_of_lt hq2];rfl
      have d2 : (p * n + q) / n = p:=by rw [Nat.mul_comm,Nat.mul_add_div (by omega),Nat.div_eq_of_lt hq];rfl
      have e0 : s.f0.toNat = p:=by rw [← d1,hh,d2]
      exact k ⟨e0,by rw [e0] at hh;omega⟩
     rw [if_neg hne]
     refine .inr ⟨fun y hy a b d => ?_,rfl⟩
     rcases List.mem_cons.mp hy with rfl|hy
     ·exact k ⟨b,d⟩
     ·exact h1 y hy a b d
   ·rw [if_neg hc]
    refine .inr ⟨fun y hy a b d => ?_,rfl⟩
    rcases List.mem_cons.mp hy with rfl|hy
    ·exact hc a
    ·exact h1 y hy a b d
theorem col_step (n : Nat) (h4 : n ≤ 4) (t : List Stp) (hs : stp (n : Int) none t = true) (c : UInt8) (v : List Int) (hv : ∀ l,l < n → 0 ≤ v.getD l 0) : mvL n (letL n t c) v = endL [c] t v (List.replicate n 1000000):=by
 have ht:=stp_mem hs
 have lenE : (endL [c] t v (List.replicate n 1000000)).length = n:=by rw [endL_len,List.length_replicate]
 have lenM : (mvL n (letL n t c) v).length = n:=by simp [mvL]
 apply List.ext_getElem (by rw [lenE,lenM])
 intro p hp1 hp2
 have hp : p < n:=by omega
 have key : (mvL n (letL n t c) v).getD p 0 = (endL [c] t v (List.replicate n 1000000)).getD p 0:=by
  rw [mvL_get n _ v p hp]
  refine eq_le' fun x => ?_
  rw [le_mvE,le_endL [c] v x p t _ (by rw [List.length_replicate];exact hp)]
  have e0 : (List.replicate n (1000000 : Int)).getD p 0 = 1000000:=by simp [List.getD_eq_getElem?_getD,hp]
  rw [e0]
  have hcst : (cst n).length = n * n:=by unfold cst;rw [List.length_replicate]
  constructor
  ·rintro ⟨h1,h2⟩
   refine ⟨h1,fun s hs' hc hf => ?_⟩
   have os:=of_decide_eq_true (show decide _ = true from ht s hs')
   have hq : s.f2.toNat < n:=by omega
   have h3:=h2 s.f2.toNat hq
   have : (letL n t c).getD (p * n + s.f2.toNat) 0 = s.f3:=by
    rcases stepL_get n [c] p s.f2.toNat hp hq t (cst n) hcst ht with ⟨y,hy,a,b,d,e⟩ | ⟨hn,_⟩
    ·have oy:=of_decide_eq_true (show decide _ = true from ht y hy)
     have : y = s:=stp_uniq (by omega) hs y hy s hs' (by unfold num;rw [a,hc,show y.f0 = s.f0 from (by omega),show y.f2 = s.f2 from (by omega)])
     unfold letL
     rw [e,this]
    ·exact (hn s hs' hc hf rfl).elim
   rw [this] at h3
   exact h3
  ·rintro ⟨h1,h2⟩
   refine ⟨h1,fun q hq => ?_⟩
   have v0:=hv q hq
   rcases stepL_get n [c] p q hp hq t (cst n) hcst ht with ⟨y,hy,a,b,d,e⟩ | ⟨_,e⟩
   ·unfold letL
    rw [e,← d]
    exact h2 y hy a b
   ·unfold letL
    rw [e]
    have hlt : p * n + q < n * n:=by
     have : (p + 1) * n ≤ n * n:=Nat.mul_le_mul_right n hp
     rw [Nat.succ_mul] at this;omega
    have : (cst n).getD (p * n + q) 0 = 1000000:=by unfold cst;simp [List.getD_eq_getElem?_getD,hlt]
    rw [this];omega
 simpa [List.getD_eq_getElem?_getD,hp1,hp2] using key
def finL (n : Nat) (f : List Int) : List Int:=f.foldl (fun (v : List Int) (q : Int) => v.set q.toNat 0) (List.replicate n 1000000)
theorem fin_get (l : Nat) : ∀ (f : List Int) (v : List Int),l < v.length → (f.foldl (fun (v : List Int) (q : Int) => v.set q.toNat 0) v).length = v.length ∧ (((∃ q ∈ f,q.toNat = l) ∧ (f.foldl (fun (v : List Int) (q : Int) => v.set q.toNat 0) v).getD l 0 = 0) ∨ ((∀ q ∈ f,q.toNat = l → False) ∧ (f.foldl (fun (v : List Int) (q : Int) => v.set q.toNat 0) v).getD l 0 = v.getD l 0) ∨ ((∃ q ∈ f,q.toNat = l) ∧ False))
 | [],v,_ => ⟨rfl,.inr (.inl ⟨fun q hq => (by cases hq),rfl⟩)⟩
 | q :: f,v,hl => by
  have ih:=fin_get l f (v.set q.toNat 0) (by rw [List.length_set];exact hl)
  rw [List.foldl_cons]
  refine ⟨by rw [ih.1,List.length_set],?_⟩
  rcases ih.2 with ⟨⟨y,hy,e⟩,h⟩ | ⟨h1,h2⟩ | ⟨_,h⟩
  ·exact .inl ⟨⟨y,List.mem_cons_of_mem _ hy,e⟩,h⟩
  ·by_cases e : q.toNat = l
   ·refine .inl ⟨⟨q,List.mem_cons_self ..,e⟩,?_⟩
    rw [h2,getD_set' _ _ _ _ hl,if_pos e]
   ·refine .inr (.inl ⟨fun y hy e' => ?_,?_⟩)
    ·rcases List.mem_cons.mp hy with ey|hy
     ·rw [ey] at e';exact e e'
     ·exact h1 y hy e'
    ·rw [h2,getD_set' _ _ _ _ hl,if_neg e]
  ·exact h.elim
theorem finL_len (n : Nat) (f : List Int) (h : 1 ≤ n) : (finL n f).length = n:=by
 have:=(fin_get 0 f (List.replicate n 1000000) (by rw [List.length_replicate];omega)).1
 rw [List.length_replicate] at this;exact this
theorem finL_get (n : Nat) (f : List Int) (l : Nat) (hl : l < n) : ((∃ q ∈ f,q.toNat = l) ∧ (finL n f).getD l 0 = 0) ∨ ((∀ q ∈ f,q.toNat = l → False) ∧ (finL n f).getD l 0 = 1000000):=by
 rcases (fin_get l f (List.replicate n 1000000) (by rw [List.length_replicate];exact hl)).2 with h | ⟨h1,h2⟩ | ⟨_,h⟩
 ·exact .inl h
 ·refine .inr ⟨h1,?_⟩
  show (f.foldl (fun (v : List Int) (q : Int) => v.set q.toNat 0) (List.replicate n 1000000)).getD l 0 = _
  rw [h2];simp [List.getD_eq_getElem?_getD,hl]
 ·exact h.elim
theorem finL_in (n : Nat) (f : List Int) (l : Nat) (hl : l < n) : 0 ≤ (finL n f).getD l 0 ∧ (finL n f).getD l 0 ≤ 1000000:=by
 rcases finL_get n f l hl with ⟨_,h⟩ | ⟨_,h⟩ <;> rw [h] <;> omega
def leastL (n : Nat) (s f d : List Int) : Int:=s.foldl (fun acc p => f.foldl (fun acc q => mn acc (d.getD (p.toNat * n + q.toNat) 0)) acc) 1000000
def costL (s v : List Int) : Int:=s.foldl (fun acc p => mn acc (v.getD p.toNat 0)) 1000000
theorem le_foldI (g : Int → Int) (x : Int) : ∀ (ls : List Int) (acc : Int),x ≤ ls.foldl (fun a l => mn a (g l)) acc ↔ x ≤ acc ∧ ∀ l ∈ ls,x ≤ g l
 | [],acc => by simp
 | l :: ls,acc => by
  rw [List.foldl_cons,le_foldI g x ls,le_mn]
  constructor
  ·rintro ⟨⟨h1,h2⟩,h3⟩
   exact ⟨h1,fun y hy => by rcases List.mem_cons.1 hy with rfl|h;exact h2;exact h3 y h⟩
  ·rintro ⟨h1,h2⟩
   exact ⟨⟨h1,h2 l (List.mem_cons_self ..)⟩,fun y hy => h2 y (List.mem_cons_of_mem _ hy)⟩
theorem le_foldI2 (f : List Int) (g : Int → Int → Int) (x : Int) : ∀ (ls : List Int) (acc : Int),x ≤ ls.foldl (fun a l => f.foldl (fun a q => mn a (g l q)) a) acc ↔ x ≤ acc ∧ ∀ l ∈ ls,∀ q ∈ f,x ≤ g l q
 | [],acc => by simp
 | l :: ls,acc => by
  rw [List.foldl_cons,le_foldI2 f g x ls,le_foldI]
  constructor
  ·rintro ⟨⟨h1,h2⟩,h3⟩
   exact ⟨h1,fun y hy => by rcases List.mem_cons.1 hy with rfl|h;exact h2;exact h3 y h⟩
  ·rintro ⟨h1,h2⟩
   exact ⟨⟨h1,h2 l (List.mem_cons_self ..)⟩,fun y hy => h2 y (List.mem_cons_of_mem _ hy)⟩
theorem least_cost (n : Nat) (s f d : List Int) (hs : ∀ p ∈ s,p.toNat < n) (hf : ∀ q ∈ f,q.toNat < n) (hd : MV (n : Int) d) : leastL n s f d = costL s (mvL n d (finL n f)):=by
 refine eq_le' fun x => ?_
 unfold leastL costL
 rw [le_foldI2 f (fun p q => d.getD (p.toNat * n + q.toNat) 0),le_foldI (fun p => (mvL n d (finL n f)).getD p.toNat 0)]
 constructor
 ·rintro ⟨h1,h2⟩
  refine ⟨h1,fun p hp => ?_⟩
  show x ≤ (mvL n d (finL n f)).getD p.toNat 0
  rw [mvL_get n d _ _ (hs p hp),le_mvE]
  refine ⟨h1,fun l hl => ?_⟩
  have d0:=MV_at hd p.toNat l (hs p hp) hl
  rcases finL_get n f l hl with ⟨⟨q,hq,e⟩,h⟩ | ⟨_,h⟩
  ·have h3:=h2 p hp q hq
   simp only [e] at h3
   rw [h];omega
  ·rw [h];omega
 ·rintro ⟨h1,h2⟩
  refine ⟨h1,fun p hp q hq => ?_⟩
  have h3:=h2 p hp
  have h3 : x ≤ (mvL n d (finL n f)).getD p.toNat 0:=h3
  rw [mvL_get n d _ _ (hs p hp),le_mvE] at h3
  have h4:=h3.2 q.toNat (hf q hq)
  rcases finL_get n f q.toNat (hf q hq) with ⟨_,h⟩ | ⟨hn,_⟩
  ·rw [h] at h4;simpa using h4
  ·exact (hn q hq rfl).elim
theorem col_full (n : Nat) (h1 : 1 ≤ n) (h4 : n ≤ 4) (t : List Stp) (ht : ∀ y ∈ t,stepOk n y = true) (f : List Int) : ∀ (w : List UInt8),(colL n t w (finL n f)).length = n ∧ ∀ l,l < n → 0 ≤ (colL n t w (finL n f)).getD l 0 ∧ (colL n t w (finL n f)).getD l 0 ≤ 1000000
 | [] => ⟨finL_len n f h1,fun l hl => finL_in n f l hl⟩
 | c :: w => ⟨by simp [colL,mvL],fun l hl => mvL_in (letL_MV n h1 h4 t ht c) (fun l hl => ((col_full n h1 h4 t ht f w).2 l hl).1) l hl⟩
theorem cost_word (n : Nat) (h1 : 1 ≤ n) (h4 : n ≤ 4) (s f : List Int) (t : List Stp) (ht : ∀ y ∈ t,stepOk n y = true) (hs : ∀ p ∈ s,p.toNat < n) (hf : ∀ q ∈ f,q.toNat < n) (hu : MV (n : Int) (sqL n unitE)) (w : List UInt8) : leastL n s f (wordL n t w (sqL n unitE)) = costL s (colL n t w (finL n f)):=by
 rw [least_cost n s f _ hs hf (wordL_MV n h1 h4 t ht w _ hu),word_col n h1 h4 t ht _ (fun l hl => (finL_in n f l hl).1) w _ hu,unit_col n _ (col_full n h1 h4 t ht f w).1 (col_full n h1 h4 t ht f w).2]
end Go.Proofs.YtfgoojnblomonaaGreat.V
end
section
set_option linter.unusedVariables false
set_option linter.unusedSimpArgs false
namespace Go.Proofs.YtfgoojnblomonaaGreat.V
open Go Go.Proofs.YtfgoojnblomonaaGreat.R Go.RowKit
open Go.Proofs.YtfgoojnblomonaaGreatW.PrintWords hiding mn mx
theorem wnat {i : Nat} (h : i < 1000000000000) : wrap64 ((i : Int) + 1) = ((i + 1 : Nat) : Int):=by rw [w64 (by omega) (by omega)];rfl
theorem xor_nat (a b : Nat) (ha : a < 4611686018427387904) (hb : b < 4611686018427387904) : xorK .i64 (a : Int) (b : Int) = ((a ^^^ b : Nat) : Int):=by
 have hx : a ^^^ b < 2 ^ 62:=Nat.xor_lt_two_pow (by omega) (by omega)
 have h1 : (BitVec.ofInt 64 (a : Int)).toNat = a:=by
  rw [BitVec.ofInt_natCast,BitVec.toNat_ofNat];exact Nat.mod_eq_of_lt (by omega)
 have h2 : (BitVec.ofInt 64 (b : Int)).toNat = b:=by
  rw [BitVec.ofInt_natCast,BitVec.toNat_ofNat];exact Nat.mod_eq_of_lt (by omega)
 show IntKind.i64.wrap ((BitVec.ofInt 64 (a : Int) ^^^ BitVec.ofInt 64 (b : Int)).toNat : Int) = _
 rw [BitVec.toNat_xor,h1,h2]
 simp [IntKind.wrap,IntKind.bits,IntKind.signed]
 omega
def Bytes (l : List Int) : Prop := ∀ x ∈ l,0 ≤ x ∧ x ≤ 255
theorem bytes_of {l : List Int} (h : ∀ x ∈ l,(Lit.int .u8 x).wf = true) : Bytes l:=by
 intro x hx
 have:=h x hx
 have hmin : IntKind.u8.min = 0:=rfl
 have hmax : IntKind.u8.max = 255:=rfl
 simp only [Lit.wf,Bool.and_eq_true,decide_eq_true_eq] at this
 omega
theorem rd_byte {l : List Int} (h : Bytes l) (i : Int) : ∃ b : Nat,rdI l i = (b : Int) ∧ b ≤ 255:=by
 have : 0 ≤ rdI l i ∧ rdI l i ≤ 255:=by
  unfold rdI
  rw [List.getD_eq_getElem?_getD]
  by_cases hj : i.toNat < l.length
  ·rw [List.getElem?_eq_getElem hj];exact h _ (List.getElem_mem hj)
  ·rw [List.getElem?_eq_none (by omega)];simp
 exact ⟨(rdI l i).toNat,by omega,by omega⟩
theorem mixed (b c s q : Nat) (hb : b ≤ 255) (hc : c ≤ 255) (hs : s ≤ 1000000) (hq : q ≤ 1000000) :
  wrap64 ((wrap64 ((wrap64 ((wrap64 ((wrap64 (b : Int)) * 131)) + (wrap64 ((wrap64 (c : Int)) * 1117)))) + (wrap64 ((s : Int) * 29)))) + (wrap64 ((wrap64 (q : Int)) * 53))) = ((b * 131 + c * 1117 + s * 29 + q * 53 : Nat) : Int):=by
 rw [w64 (x:=(b : Int)) (by omega) (by omega),w64 (x:=(c : Int)) (by omega) (by omega),w64 (x:=(q : Int)) (by omega) (by omega),w64 (x:=(b : Int) * 131) (by omega) (by omega),w64 (x:=(c : Int) * 1117) (by omega) (by omega),w64 (x:=(s : Int) * 29) (by omega) (by omega),w64 (x:=(q : Int) * 53) (by omega) (by omega),
  w64 (x:=(b : Int) * 131 + (c : Int) * 1117) (by omega) (by omega),w64 (x:=(b : Int) * 131 + (c : Int) * 1117 + (s : Int) * 29) (by omega) (by omega),w64 (x:=(b : Int) * 131 + (c : Int) * 1117 + (s : Int) * 29 + (q : Int) * 53) (by omega) (by omega)]
 omega
theorem second (s : Nat) (hs : s ≤ 1000000) : wrap64 ((wrap64 ((s : Int) * 7)) + 3) = ((s * 7 + 3 : Nat) : Int):=by
 rw [w64 (x:=(s : Int) * 7) (by omega) (by omega),w64 (x:=(s : Int) * 7 + 3) (by omega) (by omega)];omega
theorem at_up (s : Nat) (hs : s ≤ 1000000) : wrap64 ((s : Int) + 1) = ((s + 1 : Nat) : Int):=by rw [w64 (x:=(s : Int) + 1) (by omega) (by omega)];omega
theorem at_down (s : Nat) (hs : s ≤ 1000000) : wrap64 (((s + 1 : Nat) : Int) - 1) = (s : Int):=by rw [w64 (x:=((s + 1 : Nat) : Int) - 1) (by omega) (by omega)];omega
theorem at_64 (m : Nat) (hm : m ≤ 100000000) : wrap64 (Int.tdiv (m : Int) 64) = ((m / 64 : Nat) : Int):=by
 have hmq : m / 64 ≤ 100000000:=Nat.le_trans (Nat.div_le_self _ _) hm
 have : (64 : Int) = ((64 : Nat) : Int):=rfl
 rw [this,tdiv_nat,w64 (x:=((m / 64 : Nat) : Int)) (by omega) (by omega)]
theorem pick_r (l : List Int) (hl : l.length ≤ 2000) (hb : Bytes l) (s n : Nat) (hs : s ≤ 1000000) (h1 : 1 ≤ n) (hn : n ≤ 1000000) :
  ∃ v : Nat,v < n ∧ spec_l13Rd_pick.f (n : Int) l (s : Int) = some ((v : Int),l,((s + 1 : Nat) : Int)):=by
 have hn0 : ¬ (n : Int) < 1:=by omega
 have hnz : ¬ (n : Int) = 0:=by omega
 obtain ⟨L,hL⟩ : ∃ L,l.length = L:=⟨_,rfl⟩
 unfold spec_l13Rd_pick.f
 rw [if_neg hn0,at_up s hs,at_down s hs,hL]
 by_cases h0 : (L : Int) = 0
 ·exact ⟨0,by omega,by rw [if_pos h0];rfl⟩
 rw [if_neg h0]
 have hL1 : 1 ≤ L:=by omega
 by_cases hlt : s < L
 ·obtain ⟨b,hb1,hb2⟩:=rd_byte hb (s : Int)
  refine ⟨b % n,Nat.mod_lt _ (by omega),?_⟩
  rw [if_pos (by omega),if_pos (by omega),if_neg hnz,hb1,w64 (x:=(b : Int)) (by omega) (by omega),tmod_nat]
 ·obtain ⟨b,hb1,hb2⟩:=rd_byte hb ((s % L : Nat) : Int)
  obtain ⟨c,hc1,hc2⟩:=rd_byte hb (((s * 7 + 3) % L : Nat) : Int)
  have hq : s / L ≤ 1000000:=Nat.le_trans (Nat.div_le_self _ _) hs
  obtain ⟨q,hqe⟩ : ∃ q,s / L = q:=⟨_,rfl⟩
  rw [hqe] at hq
  obtain ⟨m,hm⟩ : ∃ m : Nat,b * 131 + c * 1117 + s * 29 + q * 53 = m:=⟨_,rfl⟩
  have hmb : m ≤ 100000000:=by omega
  have hmq : m / 64 ≤ 100000000:=Nat.le_trans (Nat.div_le_self _ _) hmb
  have m1 : s % L < L:=Nat.mod_lt _ (by omega)
  have m2 : (s * 7 + 3) % L < L:=Nat.mod_lt _ (by omega)
  have x1 : m < 4611686018427387904:=by omega
  have x2 : m / 64 < 4611686018427387904:=by omega
  have y1 : ¬ (s : Int) < (L : Int):=by omega
  have y2 : ((s % L : Nat) : Int) < (L : Int):=by omega
  have y3 : (((s * 7 + 3) % L : Nat) : Int) < (L : Int):=by omega
  refine ⟨(m ^^^ (m / 64)) % n,Nat.mod_lt _ (by omega),?_⟩
  rw [if_neg y1,tmod_nat,if_pos (Int.natCast_nonneg _),if_pos y2,second s hs,tmod_nat,if_pos (Int.natCast_nonneg _),if_pos y3,if_neg hnz,hb1,hc1,tdiv_nat,hqe,mixed b c s q hb2 hc2 hs hq,hm,at_64 m hmb,xor_nat m (m / 64) x1 x2,tmod_nat]
theorem of_r (l : List Int) (hl : l.length ≤ 2000) (hb : Bytes l) (s : Nat) (hs : s ≤ 1000000) (z : List ByteArray) (h1 : 1 ≤ z.length) (hn : z.length ≤ 1000000) :
  ∃ x ∈ z,spec_l13Rd_of.f z l (s : Int) = some (x,l,((s + 1 : Nat) : Int)):=by
 obtain ⟨v,hv,h⟩:=pick_r l hl hb s z.length hs h1 hn
 refine ⟨z[v],List.getElem_mem hv,?_⟩
 unfold spec_l13Rd_of.f
 rw [h,Option.bind_some]
 show (if (0 : Int) ≤ (v : Int) then (if (v : Int) < (z.length : Int) then some (rdS z (v : Int),l,((s + 1 : Nat) : Int)) else none) else none) = _
 rw [if_pos (by omega),if_pos (by omega)]
 simp [rdS,List.getD_eq_getElem?_getD,hv]
theorem num_r (l : List Int) (hl : l.length ≤ 2000) (hb : Bytes l) (s : Nat) (hs : s ≤ 1000000) (z : List Int) (h1 : 1 ≤ z.length) (hn : z.length ≤ 1000000) :
  ∃ x ∈ z,spec_l13Rd_num.f z l (s : Int) = some (x,l,((s + 1 : Nat) : Int)):=by
 obtain ⟨v,hv,h⟩:=pick_r l hl hb s z.length hs h1 hn
 refine ⟨z[v],List.getElem_mem hv,?_⟩
 unfold spec_l13Rd_num.f
 rw [h,Option.bind_some]
 show (if (0 : Int) ≤ (v : Int) then (if (v : Int) < (z.length : Int) then some (rdI z (v : Int),l,((s + 1 : Nat) : Int)) else none) else none) = _
 rw [if_pos (by omega),if_pos (by omega)]
 simp [rdI,List.getD_eq_getElem?_getD,hv]
theorem bnd {α β γ : Type} {o : Option γ} {z : γ} {g : Nat → γ → Option α} {r : α} (h : o = some z) (k : Ev (fun n => g n z) r) : Ev (fun n => o.bind (g n)) r:=Ev.congr (fun n => by rw [h];rfl) k
theorem some_r (l : List Int) (hl : l.length ≤ 2000) (hb : Bytes l) (n : Nat) (hn : n ≤ 100) (s : Nat) (hs : s ≤ 900000) : ∃ r : List Int,r.length ≤ n ∧ Ev (fun k => spec_l3Some.f k (n : Int) l (s : Int)) (r,l,((s + n : Nat) : Int)):=by
 have go : ∀ (d i s : Nat) (acc : List Int),i + d = n → acc.length ≤ i → s ≤ 900000 + i → ∃ r : List Int,r.length ≤ n ∧ Ev (fun k => spec_l3Some.l0 k acc (n : Int) (i : Int) l (s : Int)) (r,l,((s + d : Nat) : Int)):=by
  intro d
  induction d with
  | zero =>
   intro i s acc hi ha hs
   refine ⟨acc,by omega,?_⟩
   refine Ev.step (f:=fun _ => some (acc,l,(s : Int))) (fun k => ?_) ((Ev.now _).is (by simp))
   simp only [spec_l3Some.l0];rw [if_neg (by omega)]
  | succ d ih =>
   intro i s acc hi ha hs
   obtain ⟨v,_,hv⟩:=pick_r l hl hb s 2 (by omega) (by omega) (by omega)
   have hv : spec_l13Rd_pick.f 2 l (s : Int) = some ((v : Int),l,((s + 1 : Nat) : Int)):=hv
   have wn : wrap64 ((i : Int) + 1) = ((i + 1 : Nat) : Int):=wnat (by omega)
   have a0 : (i : Int) < (n : Int):=by clear wn;omega
   have b0 : acc.length < 17592186044416:=by clear wn;omega
   have es : s + (d + 1) = s + 1 + d:=by omega
   rw [es]
   by_cases q : (v : Int) = 0
   ·obtain ⟨r,r0,r1⟩:=ih (i + 1) (s + 1) (acc ++ [(i : Int)]) (by omega) (by simp;omega) (by omega)
    refine ⟨r,r0,Ev.step (fun k => ?_) r1⟩
    simp only [spec_l3Some.l0]
    rw [if_pos a0,hv,Option.bind_some,if_pos q,if_pos b0,wn]
   ·obtain ⟨r,r0,r1⟩:=ih (i + 1) (s + 1) acc (by omega) (by omega) (by omega)
    refine ⟨r,r0,Ev.step (fun k => ?_) r1⟩
    simp only [spec_l3Some.l0]
    rw [if_pos a0,hv,Option.bind_some,if_neg q,wn]
 unfold spec_l3Some.f
 exact go n 0 s [] (by omega) (Nat.le_refl _) (by omega)
theorem before_r (a0 : Int) (a1 : ByteArray) (a2 a3 b0 : Int) (b1 : ByteArray) (b2 b3 : Int) : ∃ b,spec_l3Before.f a0 a1 a2 a3 b0 b1 b2 b3 = some b:=by
 unfold spec_l3Before.f
 by_cases h : a0 = b0
 ·rw [if_pos h]
  by_cases h2 : a1.toList = b1.toList
  ·rw [if_pos h2];exact ⟨_,rfl⟩
  ·rw [if_neg h2];exact ⟨_,rfl⟩
 ·rw [if_neg h];exact ⟨_,rfl⟩
theorem put_r (x : List Stp) (hx : x.length ≤ 1000) (a : Int) (b : ByteArray) (c d : Int) : ∃ r : List Stp,r.length ≤ x.length + 1 ∧ Ev (fun k => spec_l3Put.f k x a b c d) r:=by
 have ins : ∀ i : Nat,i ≤ x.length → ∃ r : List Stp,r.length ≤ x.length + 1 ∧ (if (i : Int) ≤ (x.length : Int) then (if ([] : List Stp).length + ((x.drop 0).take ((i : Int).toNat - 0)).length ≤ 3518437208883 then (if (([] : List Stp) ++ ((x.drop 0).take ((i : Int).toNat - 0))).length < 3518437208883 then (if (x.length : Int) ≤ (x.length : Int) then (if ((([] : List Stp) ++ ((x.drop 0).take ((i : Int).toNat - 0))) ++ [(⟨a,b,c,d⟩ : Stp)]).length + ((x.drop (i : Int).toNat).take (x.length - (i : Int).toNat)).length ≤ 3518437208883 then (some (((([] : List Stp) ++ ((x.drop 0).take ((i : Int).toNat - 0))) ++ [(⟨a,b,c,d⟩ : Stp)]) ++ ((x.drop (i : Int).toNat).take (x.length - (i : Int).toNat)))) else none) else none) else none) else none) else none) = some r:=fun i hi => by
  have l1 : ((x.drop 0).take ((i : Int).toNat - 0)).length = i:=by rw [Int.toNat_natCast,List.drop_zero,List.length_take];omega
  have l2 : ((x.drop (i : Int).toNat).take (x.length - (i : Int).toNat)).length = x.length - i:=by rw [Int.toNat_natCast,List.length_take,List.length_drop];omega
  refine ⟨_,?_,by rw [if_pos (by omega),if_pos (by rw [l1];simp only [List.length_nil];omega),if_pos (by rw [List.length_append,l1];simp only [List.length_nil];omega),if_pos (Int.le_refl _),if_pos (by rw [List.length_append,List.length_append,l1,l2];simp only [List.length_nil,List.length_cons];omega)]⟩
  rw [List.length_append,List.length_append,List.length_append,l1,l2];simp only [List.length_nil,List.length_cons];omega
 have go : ∀ (m i : Nat),i + m = x.length → ∃ r : List Stp,r.length ≤ x.length + 1 ∧ Ev (fun k => spec_l3Put.l0 k x (i : Int) a b c d) r:=by
  intro m
  induction m with
  | zero =>
   intro i hi
   obtain ⟨r,r0,r1⟩:=ins i (by omega)
   refine ⟨r,r0,Ev.step (f:=fun _ => some r) (fun k => ?_) (Ev.now _)⟩
   simp only [spec_l3Put.l0]
   rw [if_neg (by omega),if_pos (Int.natCast_nonneg _)];exact r1
  | succ m ih =>
   intro i hi
   obtain ⟨t1,h1⟩:=before_r (rdT x (i : Int)).f0 (rdT x (i : Int)).f1 (rdT x (i : Int)).f2 (rdT x (i : Int)).f3 a b c d
   obtain ⟨t2,h2⟩:=before_r a b c d (rdT x (i : Int)).f0 (rdT x (i : Int)).f1 (rdT x (i : Int)).f2 (rdT x (i : Int)).f3
   have wn : wrap64 ((i : Int) + 1) = ((i + 1 : Nat) : Int):=wnat (by omega)
   have a0 : (i : Int) < (x.length : Int):=by clear wn;omega
   cases t1 with
   | true =>
    obtain ⟨r,r0,r1⟩:=ih (i + 1) (by omega)
    refine ⟨r,r0,Ev.step (fun k => ?_) r1⟩
    simp only [spec_l3Put.l0]
    rw [if_pos a0,if_pos (Int.natCast_nonneg _),h1,Option.bind_some,if_pos rfl,wn]
   | false =>
    cases t2 with
    | true =>
     obtain ⟨r,r0,r1⟩:=ins i (by omega)
     refine ⟨r,r0,Ev.step (f:=fun _ => some r) (fun k => ?_) (Ev.now _)⟩
     simp only [spec_l3Put.l0]
     rw [if_pos a0,if_pos (Int.natCast_nonneg _),h1,Option.bind_some,if_neg (by simp),h2,Option.bind_some,if_pos rfl];exact r1
    | false =>
     refine ⟨(([] : List Stp) ++ x).set (i : Int).toNat (⟨(rdT (([] : List Stp) ++ x) (i : Int)).f0,(rdT (([] : List Stp) ++ x) (i : Int)).f1,(rdT (([] : List Stp) ++ x) (i : Int)).f2,(mn (rdT (([] : List Stp) ++ x) (i : Int)).f3 d)⟩ : Stp),by simp,Ev.step (f:=fun _ => some _) (fun k => ?_) (Ev.now _)⟩
     simp only [spec_l3Put.l0]
     rw [if_pos a0,if_pos (Int.natCast_nonneg _),h1,Option.bind_some,if_neg (by simp),h2,Option.bind_some,if_neg (by simp),if_pos (by simp only [List.length_nil];omega),if_pos (by rw [List.nil_append];exact a0)]
 unfold spec_l3Put.f
 exact go x.length 0 (by omega)
theorem known0 : ∀ k,spec_l3Known.f (k + 300) 0 = some (1,[0],[0],[⟨0,⟨#[97]⟩,0,1⟩,⟨0,⟨#[98]⟩,0,0⟩]):=by
 intro k
 kernel_rfl
theorem known1 : ∀ k,spec_l3Known.f (k + 300) 1 = some (2,[0],[1],[⟨0,⟨#[97]⟩,0,0⟩,⟨0,⟨#[97]⟩,1,1⟩,⟨1,⟨#[98]⟩,1,0⟩]):=by
 intro k
 kernel_rfl
theorem known2 : ∀ k,spec_l3Known.f (k + 300) 2 = some (2,[0,1],[0,1],[⟨0,⟨#[97]⟩,0,1⟩,⟨0,⟨#[98]⟩,0,0⟩,⟨1,⟨#[97]⟩,1,0⟩,⟨1,⟨#[98]⟩,1,1⟩]):=by
 intro k
 kernel_rfl
theorem known3 : ∀ k,spec_l3Known.f (k + 300) 3 = some (3,[0],[0,2],[⟨0,⟨#[97]⟩,0,0⟩,⟨0,⟨#[97]⟩,1,0⟩,⟨0,⟨#[98]⟩,0,1⟩,⟨1,⟨#[97]⟩,1,1⟩,⟨1,⟨#[98]⟩,2,0⟩,⟨2,⟨#[97]⟩,2,0⟩,⟨2,⟨#[98]⟩,2,0⟩]):=by
 intro k
 kernel_rfl
theorem known4 : ∀ k,spec_l3Known.f (k + 300) 4 = some (2,[0],[0],[⟨0,⟨#[97]⟩,1,1⟩,⟨1,⟨#[98]⟩,0,0⟩]):=by
 intro k
 kernel_rfl
theorem known5 : ∀ k,spec_l3Known.f (k + 300) 5 = some (3,[0],[2],[⟨0,⟨#[97]⟩,0,0⟩,⟨0,⟨#[98]⟩,0,0⟩,⟨0,⟨#[98]⟩,1,0⟩,⟨1,⟨#[97]⟩,1,1⟩,⟨1,⟨#[98]⟩,2,0⟩,⟨2,⟨#[97]⟩,2,0⟩,⟨2,⟨#[98]⟩,2,0⟩]):=by
 intro k
 kernel_rfl
theorem known6 : ∀ k,spec_l3Known.f (k + 300) 6 = some (1,[0],[0],[⟨0,⟨#[97]⟩,0,0⟩]):=by
 intro k
 kernel_rfl
theorem known7 : ∀ k,spec_l3Known.f (k + 300) 7 = some (2,[0],[0,1],[⟨0,⟨#[97]⟩,0,0⟩,⟨0,⟨#[98]⟩,1,1⟩,⟨1,⟨#[97]⟩,0,0⟩,⟨1,⟨#[98]⟩,1,0⟩]):=by
 intro k
 kernel_rfl
theorem known8 : ∀ k,spec_l3Known.f (k + 300) 8 = some (2,[0],[1],[⟨0,⟨#[97]⟩,1,2⟩,⟨1,⟨#[97]⟩,1,0⟩,⟨1,⟨#[98]⟩,0,1⟩]):=by
 intro k
 kernel_rfl
def Small (r : Int × List Int × List Int × List Stp) : Prop:=r.2.1.length ≤ 100 ∧ r.2.2.1.length ≤ 100 ∧ r.2.2.2.length ≤ 100
theorem known_r (v : Nat) (hv : v < 9) : ∃ r,Small r ∧ Ev (fun k => spec_l3Known.f k (v : Int)) r:=by
 have ev : ∀ r,(∀ k,spec_l3Known.f (k + 300) (v : Int) = some r) → Ev (fun k => spec_l3Known.f k (v : Int)) r:=fun r h => ⟨300,fun k hk => by have:=h (k - 300);rwa [Nat.sub_add_cancel hk] at this⟩
 have : v = 0 ∨ v = 1 ∨ v = 2 ∨ v = 3 ∨ v = 4 ∨ v = 5 ∨ v = 6 ∨ v = 7 ∨ v = 8:=by omega
 rcases this with rfl|rfl|rfl|rfl|rfl|rfl|rfl|rfl|rfl
 ·exact ⟨_,⟨by decide,by decide,by decide⟩,ev _ known0⟩
 ·exact ⟨_,⟨by decide,by decide,by decide⟩,ev _ known1⟩
 ·exact ⟨_,⟨by decide,by decide,by decide⟩,ev _ known2⟩
 ·exact ⟨_,⟨by decide,by decide,by decide⟩,ev _ known3⟩
 ·exact ⟨_,⟨by decide,by decide,by decide⟩,ev _ known4⟩
 ·exact ⟨_,⟨by decide,by decide,by decide⟩,ev _ known5⟩
 ·exact ⟨_,⟨by decide,by decide,by decide⟩,ev _ known6⟩
 ·exact ⟨_,⟨by decide,by decide,by decide⟩,ev _ known7⟩
 ·exact ⟨_,⟨by decide,by decide,by decide⟩,ev _ known8⟩
theorem steps_r (l : List Int) (hl : l.length ≤ 2000) (hb : Bytes l) (n : Nat) (h1 : 1 ≤ n) (h4 : n ≤ 10) (st fi : List Int) (hs0 : st.length ≤ 100) (hf0 : fi.length ≤ 100) (c : Nat) (hc : c ≤ 60) : ∀ (d i s : Nat) (x : List Stp),i + d = c → x.length ≤ i → s ≤ 900000 + 4 * i →
  ∃ (r : Int × List Int × List Int × List Stp) (s' : Nat),Small r ∧ s' ≤ 900000 + 4 * c ∧ Ev (fun k => spec_l3Draw.l0 k (n : Int) (c : Int) (i : Int) l (s : Int) (n : Int) st fi x) (r.1,r.2.1,r.2.2.1,r.2.2.2,l,(s' : Int)):=by
 intro d
 induction d with
 | zero =>
  intro i s x hi hx hs
  refine ⟨((n : Int),st,fi,x),s,⟨hs0,hf0,by show x.length ≤ 100;omega⟩,by omega,?_⟩
  refine Ev.step (f:=fun _ => some ((n : Int),st,fi,x,l,(s : Int))) (fun k => ?_) (Ev.now _)
  simp only [spec_l3Draw.l0];rw [if_neg (by omega)]
 | succ d ih =>
  intro i s x hi hx hs
  obtain ⟨v1,_,p1⟩:=pick_r l hl hb s n (by omega) h1 (by omega)
  obtain ⟨v2,_,p2⟩:=of_r l hl hb (s + 1) (by omega) [(⟨#[97]⟩ : ByteArray),(⟨#[98]⟩ : ByteArray)] (by simp) (by simp)
  obtain ⟨v3,_,p3⟩:=pick_r l hl hb (s + 1 + 1) n (by omega) h1 (by omega)
  obtain ⟨v4,_,p4⟩:=num_r l hl hb (s + 1 + 1 + 1) (by omega) [0,1,0,1,2,0] (by simp) (by simp)
  obtain ⟨y,hy,py⟩:=put_r x (by omega) (v1 : Int) v2 (v3 : Int) v4
  obtain ⟨r,s',g1,g2,g3⟩:=ih (i + 1) (s + 1 + 1 + 1 + 1) y (by omega) (by omega) (by omega)
  have wn : wrap64 ((i : Int) + 1) = ((i + 1 : Nat) : Int):=wnat (by omega)
  have a0 : (i : Int) < (c : Int):=by clear wn;omega
  rw [← wn] at g3
  refine ⟨r,s',g1,g2,?_⟩
  refine Ev.step (f:=fun k => (spec_l3Put.f k x (v1 : Int) v2 (v3 : Int) v4).bind fun t16 => spec_l3Draw.l0 k (n : Int) (c : Int) (wrap64 ((i : Int) + 1)) l ((s + 1 + 1 + 1 + 1 : Nat) : Int) (n : Int) st fi t16) (fun k => ?_) (Ev.bind py g3)
  simp only [spec_l3Draw.l0]
  rw [if_pos a0,p1,Option.bind_some,p2,Option.bind_some,p3,Option.bind_some,p4,Option.bind_some]
theorem w1p (v : Nat) (h : v ≤ 1000000) : wrap64 (1 + (v : Int)) = ((v + 1 : Nat) : Int):=by rw [w64 (by omega) (by omega)];omega
theorem w2p (v : Nat) (h : v ≤ 1000000) : wrap64 (wrap64 (2 * ((v + 1 : Nat) : Int)) + 1) = ((2 * (v + 1) + 1 : Nat) : Int):=by rw [w64 (x:=2 * ((v + 1 : Nat) : Int)) (by omega) (by omega),w64 (by omega) (by omega)];omega
theorem draw_r (l : List Int) (hl : l.length ≤ 2000) (hb : Bytes l) (m : Nat) (h1 : 1 ≤ m) (h4 : m ≤ 4) (s : Nat) (hs : s ≤ 800000) :
  ∃ (r : Int × List Int × List Int × List Stp) (s' : Nat),Small r ∧ s' ≤ 901000 ∧ Ev (fun k => spec_l3Draw.f k (m : Int) l (s : Int)) (r.1,r.2.1,r.2.2.1,r.2.2.2,l,(s' : Int)):=by
 have rest : ∀ s : Nat,s ≤ 850000 → ∃ (r : Int × List Int × List Int × List Stp) (s' : Nat),Small r ∧ s' ≤ 901000 ∧ Ev (fun k => (spec_l13Rd_pick.f (m : Int) l (s : Int)).bind fun t8 => (spec_l3Some.f k (wrap64 (1 + t8.1)) t8.2.1 t8.2.2).bind fun t9 => (spec_l3Some.f k (wrap64 (1 + t8.1)) t9.2.1 t9.2.2).bind fun t10 => (spec_l13Rd_pick.f (wrap64 ((wrap64 (2 * (wrap64 (1 + t8.1)))) + 1)) t10.2.1 t10.2.2).bind fun t11 => spec_l3Draw.l0 k (wrap64 (1 + t8.1)) (wrap64 (1 + t11.1)) 0 t11.2.1 t11.2.2 (wrap64 (1 + t8.1)) t9.1 t10.1 ([] : List Stp)) (r.1,r.2.1,r.2.2.1,r.2.2.2,l,(s' : Int)):=fun s hs => by
  obtain ⟨v,hv,p1⟩:=pick_r l hl hb s m (by omega) h1 (by omega)
  obtain ⟨st,hst,p2⟩:=some_r l hl hb (v + 1) (by omega) (s + 1) (by omega)
  obtain ⟨fi,hfi,p3⟩:=some_r l hl hb (v + 1) (by omega) (s + 1 + (v + 1)) (by omega)
  obtain ⟨c,hc,p4⟩:=pick_r l hl hb (s + 1 + (v + 1) + (v + 1)) (2 * (v + 1) + 1) (by omega) (by omega) (by omega)
  obtain ⟨r,s',g1,g2,g3⟩:=steps_r l hl hb (v + 1) (by omega) (by omega) st fi (by omega) (by omega) (c + 1) (by omega) (c + 1) 0 (s + 1 + (v + 1) + (v + 1) + 1) [] (by omega) (Nat.le_refl _) (by omega)
  refine ⟨r,s',g1,by omega,?_⟩
  have e1:=w1p v (by omega)
  have e2:=w2p v
  have e3:=w1p c
  replace e2:=e2 (by clear e1 e2 e3;omega)
  replace e3:=e3 (by clear e1 e2 e3;omega)
  refine Ev.bind (ev_some (fun _ => p1)) ?_
  simp only [e1]
  refine Ev.bind p2 (Ev.bind p3 ?_)
  simp only [e2]
  refine Ev.bind (ev_some (fun _ => p4)) ?_
  simp only [e3]
  exact g3
 obtain ⟨v,hv,p1⟩:=pick_r l hl hb s 3 (by omega) (by omega) (by omega)
 have p1 : spec_l13Rd_pick.f 3 l (s : Int) = some ((v : Int),l,((s + 1 : Nat) : Int)):=p1
 by_cases q : (v : Int) = 0
 ·obtain ⟨u,hu,p2⟩:=pick_r l hl hb (s + 1) 9 (by omega) (by omega) (by omega)
  have p2 : spec_l13Rd_pick.f 9 l ((s + 1 : Nat) : Int) = some ((u : Int),l,((s + 1 + 1 : Nat) : Int)):=p2
  obtain ⟨r,r1,r2⟩:=known_r u hu
  by_cases q2 : r.1 ≤ (m : Int)
  ·refine ⟨r,s + 1 + 1,r1,by omega,?_⟩
   unfold spec_l3Draw.f
   exact Ev.bind (ev_some (fun _ => p1)) (Ev_t q (Ev.bind (ev_some (fun _ => p2)) (Ev.bind r2 (Ev_t q2 (Ev.now _)))))
  ·obtain ⟨r',s',g1,g2,g3⟩:=rest (s + 1 + 1) (by omega)
   refine ⟨r',s',g1,g2,?_⟩
   unfold spec_l3Draw.f
   exact Ev.bind (ev_some (fun _ => p1)) (Ev_t q (Ev.bind (ev_some (fun _ => p2)) (Ev.bind r2 (Ev_f q2 g3))))
 ·obtain ⟨r',s',g1,g2,g3⟩:=rest (s + 1) (by omega)
  refine ⟨r',s',g1,g2,?_⟩
  unfold spec_l3Draw.f
  exact Ev.bind (ev_some (fun _ => p1)) (Ev_f q g3)
theorem bad_r (l : List Int) (hl : l.length ≤ 2000) (hb : Bytes l) (a : Int × List Int × List Int × List Stp) (ha : Small a) (s : Nat) (hs : s ≤ 901000) :
  ∃ (r : Int × List Int × List Int × List Stp) (s' : Nat),(r.2.1.length ≤ 1000 ∧ r.2.2.1.length ≤ 1000 ∧ r.2.2.2.length ≤ 1000) ∧ s' ≤ 902000 ∧ spec_l3Bad.f a.1 a.2.1 a.2.2.1 a.2.2.2 l (s : Int) = some (r.1,r.2.1,r.2.2.1,r.2.2.2,l,(s' : Int)):=by
 obtain ⟨a0,a1,a2,a3⟩:=a
 obtain ⟨h1,h2,h3⟩:=ha
 have h1 : a1.length ≤ 100:=h1
 have h2 : a2.length ≤ 100:=h2
 have h3 : a3.length ≤ 100:=h3
 obtain ⟨v,_,p1⟩:=pick_r l hl hb s 36 (by omega) (by omega) (by omega)
 have p1 : spec_l13Rd_pick.f 36 l (s : Int) = some ((v : Int),l,((s + 1 : Nat) : Int)):=p1
 unfold spec_l3Bad.f
 simp only [p1,Option.bind_some]
 by_cases c0 : (v : Int) = 0
 ·obtain ⟨x,_,p2⟩:=num_r l hl hb (s + 1) (by omega) [0,5,(-1),1,9223372036854775807] (by simp) (by simp)
  refine ⟨(x,a1,a2,a3),s + 1 + 1,⟨by show a1.length ≤ 1000;omega,by show a2.length ≤ 1000;omega,by show a3.length ≤ 1000;omega⟩,by omega,?_⟩
  rw [if_pos c0,p2,Option.bind_some]
 rw [if_neg c0]
 by_cases c1 : (v : Int) = 1
 ·obtain ⟨w,_,p2⟩:=pick_r l hl hb (s + 1) 2 (by omega) (by omega) (by omega)
  have p2 : spec_l13Rd_pick.f 2 l ((s + 1 : Nat) : Int) = some ((w : Int),l,((s + 1 + 1 : Nat) : Int)):=p2
  obtain ⟨x,_,p3⟩:=of_r l hl hb (s + 1 + 1) (by omega) [(⟨#[97]⟩ : ByteArray),(⟨#[99]⟩ : ByteArray),(⟨#[]⟩ : ByteArray)] (by simp) (by simp)
  obtain ⟨y,_,p4⟩:=num_r l hl hb (s + 1 + 1 + 1) (by omega) [0,4,(-1)] (by simp) (by simp)
  obtain ⟨z,_,p5⟩:=num_r l hl hb (s + 1 + 1 + 1 + 1) (by omega) [0,4,(-1)] (by simp) (by simp)
  refine ⟨(a0,a1,a2,(([] : List Stp) ++ a3) ++ [(⟨(w : Int),x,y,z⟩ : Stp)]),s + 1 + 1 + 1 + 1 + 1,⟨by show a1.length ≤ 1000;omega,by show a2.length ≤ 1000;omega,by simp;omega⟩,by omega,?_⟩
  rw [if_pos c1,if_pos (by simp only [List.length_nil];omega),p2,Option.bind_some,p3,Option.bind_some,p4,Option.bind_some,p5,Option.bind_some,if_pos (by simp;omega)]
 rw [if_neg c1]
 by_cases c2 : (v : Int) = 2
 ·obtain ⟨x,_,p2⟩:=num_r l hl hb (s + 1) (by omega) [0,4,(-1)] (by simp) (by simp)
  refine ⟨(a0,(([] : List Int) ++ a1) ++ [x],a2,a3),s + 1 + 1,⟨by simp;omega,by show a2.length ≤ 1000;omega,by show a3.length ≤ 1000;omega⟩,by omega,?_⟩
  rw [if_pos c2,if_pos (by simp only [List.length_nil];omega),p2,Option.bind_some,if_pos (by simp;omega)]
 ·exact ⟨(a0,a1,a2,a3),s + 1,⟨by show a1.length ≤ 1000;omega,by show a2.length ≤ 1000;omega,by show a3.length ≤ 1000;omega⟩,by omega,by rw [if_neg c2]⟩
theorem any_r (l : List Int) (hl : l.length ≤ 2000) (hb : Bytes l) : ∃ (r : Int × List Int × List Int × List Stp) (s' : Nat),(r.2.1.length ≤ 1000 ∧ r.2.2.1.length ≤ 1000 ∧ r.2.2.2.length ≤ 1000) ∧ s' ≤ 902000 ∧ Ev (fun k => spec_l3Any.f k l 0) (r.1,r.2.1,r.2.2.1,r.2.2.2,l,(s' : Int)):=by
 obtain ⟨a,s1,a1,a2,a3⟩:=draw_r l hl hb 3 (by omega) (by omega) 0 (by omega)
 obtain ⟨r,s',g1,g2,g3⟩:=bad_r l hl hb a a1 s1 a2
 refine ⟨r,s',g1,g2,?_⟩
 unfold spec_l3Any.f
 exact Ev.bind a3 (Ev.bind (ev_some (fun _ => g3)) (Ev.now _))
theorem open_r (l : List Int) (hb : Bytes l) : ∃ z : List Int,z.length ≤ 2000 ∧ Bytes z ∧ spec_l13Open.f l = some (z,0):=by
 unfold spec_l13Open.f
 by_cases h : (l.length : Int) > 2000
 ·refine ⟨(l.drop 0).take (2000 - 0),by rw [List.length_take];omega,fun x hx => hb x (List.mem_of_mem_drop (List.mem_of_mem_take hx)),?_⟩
  rw [if_pos h,if_pos (by omega)]
 ·exact ⟨l,by omega,hb,by rw [if_neg h]⟩
end Go.Proofs.YtfgoojnblomonaaGreat.V
end
