import Derived.Test.YthnjbjihphbcpaaGreatQFnWordMatrix2
import Derived.Test.YthnjbjihphbcpaaGreatQFnWordMatrix4
import Derived.Deep.Slices
import Derived.Deep.Fields
import Derived.ChangeSame
import Derived.ChangeSlices
import Derived.Lib.SmallJoins
import Derived.WalkKit
import Derived.ProofKit
import Derived.OpenShut
import Derived.ShutString
import Derived.ChangeOld
import Derived.Below
import Derived.Test.YthnjbjihphbcpaaGreatQFnWordMatrix3
import Derived.Test.YthnjbjihphbcpaaGreatQFnWordMatrix7
import Derived.Lib.Bytealg
import Derived.Lib.Repeat
section
namespace Go.Proofs.YthnjbjihphbcpaaGreat.V
open Go Go.Proofs.YthnjbjihphbcpaaGreat.R Go.RowKit Go.Proofs.YthnjbjihphbcpaaGreat.X Go.ChangeShapes Go.WideShapes Go.Deep Go.Proofs.YthnjbjihphbcpaaGreatW.PrintWords Go.Proofs.YthnjbjihphbcpaaGreatW.PrintLast Go.Proofs.YthnjbjihphbcpaaGreatW.PrintMore
set_option linter.unusedVariables false
open Go.ChangeShapes Go.WideShapes Go.Deep
theorem field_ints {H : Type} {enc : TypeId × Value → H} {P : Program} {w : World} {base : Nat} {spare : Nat → Bool} {held : Bool} {t e : TypeId} {k : IntKind} {fuel : Nat} {v : Value} {x : DataW H × List MemPlace}
  (ht : P.underlying t = some (.slice e)) (he : P.underlying e = some (.int k)) (hc : P.cellsOf e = 1) (h : DataW.trod enc P w base spare held fuel t [v] = some x) :
  ∃ (A : Option Addr) (c : Nat) (l : List Int),v = .slice A l.length c ∧ Kd.C (Kd.int k) w A l.length l ∧ l.length ≤ c ∧ l.length ≤ maxLen ∧ ∀ n ∈ l,(Lit.int k n).wf = true:=by
 rcases open_ints ht he hc h with ⟨hcs,_⟩ | ⟨a,len,cap,zs,hcs,_,hl,hm,hz,_,hcell,hwf⟩
 ·simp at hcs
  obtain ⟨l,h1,h2,h3,h4,h5⟩:=ReadsInt.ofRowC (k:=k) (w:=w) (a:=none) (len:=0) (cap:=0) (zs:=[]) (.inl ⟨rfl,rfl,rfl,rfl⟩)
  exact ⟨none,0,l,by rw [hcs,← h1],Kd.C_of_reads (d:=(0 : Int)) (h1:=fun _ => rfl) h2,h5,h3,h4⟩
 ·simp at hcs
  have hr : ∃ l : List Int,len = l.length ∧ ReadsInt w k (some a) l.length l ∧ l.length ≤ maxLen ∧ (∀ x ∈ l,(Lit.int k x).wf = true):=by
   refine ⟨zs.take len,?_,?_,?_,fun x hx => hwf x (List.mem_of_mem_take hx)⟩
   ·rw [List.length_take,hz];split <;> omega
   ·have hlen : (zs.take len).length = len:=by rw [List.length_take,hz];split <;> omega
    refine ⟨rfl,by rw [hlen];exact Nat.le_trans hl hm,fun hn => ⟨a,rfl,fun j hj => ?_⟩⟩
    rw [hlen] at hj
    have hj2 : j < zs.length:=by rw [hz];split <;> omega
    rw [hcell j hj2]
    simp [List.getD_eq_getElem?_getD,hj]
   ·rw [List.length_take];exact Nat.le_trans (Nat.min_le_left _ _) (Nat.le_trans hl hm)
  obtain ⟨l,h1,h2,h3,h4⟩:=hr
  exact ⟨some a,cap,l,by rw [hcs,← h1],Kd.C_of_reads (d:=(0 : Int)) (h1:=fun _ => rfl) h2,by omega,h3,h4⟩
open Go.ChangeShapes Go.WideShapes Go.Deep
end Go.Proofs.YthnjbjihphbcpaaGreat.V
end
section
namespace Go.Proofs.YthnjbjihphbcpaaGreat.V
open Go Go.Proofs.YthnjbjihphbcpaaGreat.R Go.RowKit Go.Proofs.YthnjbjihphbcpaaGreat.X Go.ChangeShapes Go.WideShapes Go.Deep Go.Proofs.YthnjbjihphbcpaaGreatW.PrintWords Go.Proofs.YthnjbjihphbcpaaGreatW.PrintLast Go.Proofs.YthnjbjihphbcpaaGreatW.PrintMore
set_option linter.unusedVariables false
set_option maxRecDepth 100000 in
theorem row_bytes {H : Type} {enc : TypeId × Value → H} {w : World} {base b0 : Nat} {r : Reach} {spare : Nat → Bool} {held : Bool} {v : Value} {d : DataW H} {p : List MemPlace}
  (hv : Value.okWide Tryz.prog w r b0 22 v) (h : DataW.Trod enc Tryz.prog w base spare held 22 v d p) :
  ∃ (A : Option Addr) (c : Nat) (l : List Int),v = .slice A l.length c ∧ Kd.C (Kd.int .u8) w A l.length l ∧ l.length ≤ c ∧ l.length ≤ maxLen ∧ ∀ x ∈ l,(Lit.int .u8 x).wf = true:=by
 obtain ⟨a0,len0,cap0,rfl⟩:=okWide_slice Tryz.underlying22 hv
 obtain ⟨fuel,hf⟩:=h
 exact field_ints Tryz.underlying22 Tryz.underlying5 (by kernel_rfl) (by simpa [Value.cells] using hf)
theorem ints_of_u8 {w : World} {A : Option Addr} {l : List Int} (h : Kd.C (Kd.int .u8) w A l.length l) : 0 < l.length → ∃ ad,A = some ad ∧ ∀ (i : Nat) (x : Int),l[i]? = some x → w.cell? (ad.add i) = some (.int .u8 x):=fun hp => by
 obtain ⟨ad,e,hh⟩:=h.2.2 hp
 refine ⟨ad,e,fun i x hx => ?_⟩
 obtain ⟨c,_,hk,hc⟩:=hh i x hx
 have hk : c = [Value.int .u8 x]:=hk
 subst hk
 have:=hc 0 _ rfl
 rw [show (Kd.int IntKind.u8).sz = 1 from rfl,Nat.mul_one,Nat.add_zero] at this
 exact this
end Go.Proofs.YthnjbjihphbcpaaGreat.V
end
section
set_option linter.unusedVariables false
set_option linter.unusedSimpArgs false
namespace Go.Proofs.YthnjbjihphbcpaaGreat.V
open Go Go.Proofs.YthnjbjihphbcpaaGreat.R Go.RowKit
open Go.Proofs.YthnjbjihphbcpaaGreatW.PrintWords hiding mn mx
def L (s : ByteArray) : List UInt8:=s.data.toList
theorem L_size (s : ByteArray) : s.size = (L s).length:=by simp [L]
theorem L_mk (l : List UInt8) : L ⟨l.toArray⟩ = l:=by simp [L]
theorem L_inj {s t : ByteArray} (h : L s = L t) : s = t:=by
 cases s;cases t;simp [L] at h;subst h;rfl
theorem toList_L (s : ByteArray) : s.toList = L s:=ByteArray.toList_eq s
theorem L_extract (s : ByteArray) (a b : Nat) : L (s.extract a b) = ((L s).take b).drop a:=by
 simp [L,ByteArray.data_extract,Array.toList_extract,List.extract,List.drop_take]
theorem L_append (s t : ByteArray) : L (s ++ t) = L s ++ L t:=by simp [L,ByteArray.data_append]
theorem L_nil {s : ByteArray} : s.toList = ([] : List UInt8) ↔ L s = []:=by rw [toList_L]
theorem bt_L (s : ByteArray) (i : Int) : btI s i = (((L s).getD i.toNat 0).toNat : Int):=by
 unfold btI L
 split
 ·next h =>
  have h' : i.toNat < s.data.toList.length:=by simpa using h
  rw [List.getD_eq_getElem?_getD,List.getElem?_eq_getElem h']
  simp;rfl
 ·next h =>
  have h' : s.data.toList.length ≤ i.toNat:=by simpa using h
  rw [List.getD_eq_getElem?_getD,List.getElem?_eq_none h'];rfl
theorem w64 {x : Int} (h0 : -9223372036854775808 ≤ x) (h1 : x ≤ 9223372036854775807) : wrap64 x = x:=by unfold wrap64;omega
theorem _root_.Go.Proofs.YthnjbjihphbcpaaGreatW.PrintWords.Ev.is {α : Type} {g : Nat → Option α} {r r' : α} (h : Ev g r) (e : r = r') : Ev g r':=e ▸ h
theorem bt_suffix {s : ByteArray} {u : List UInt8} {c : UInt8} {e : List UInt8} (h : L s = u ++ c :: e) : btI s u.length = (c.toNat : Int):=by
 rw [bt_L,h];simp [List.getD_eq_getElem?_getD]
theorem size_suffix {s : ByteArray} {u e : List UInt8} (h : L s = u ++ e) : s.size = u.length + e.length:=by rw [L_size,h];simp
theorem u8_ne {c d : UInt8} (h : c ≠ d) : ¬ ((c.toNat : Int) = (d.toNat : Int)):=by
 intro e;exact h (UInt8.toNat.inj (by exact_mod_cast e))
def B (l : List UInt8) : ByteArray:=⟨l.toArray⟩
theorem B_add (a b : List UInt8) : B a ++ B b = B (a ++ b):=L_inj (by rw [L_append];unfold B;rw [L_mk,L_mk,L_mk])
theorem B_size (a : List UInt8) : (B a).size = a.length:=by rw [L_size];unfold B;rw [L_mk]
theorem B_toList (a : List UInt8) : (B a).data.toList = a:=by unfold B;simp
theorem B_L (x : ByteArray) : B (L x) = x:=L_inj (by unfold B;rw [L_mk])
def wOk (c : UInt8) : Bool:=c == 97 || c == 98
def wordB (l : List UInt8) : Bool:=l.all wOk && decide (l.length ≤ 1000)
theorem iWord_loop (s : ByteArray) (hn : s.size ≤ 4000000) : ∀ (e u : List UInt8),L s = u ++ e → Ev (fun k => impl_WordValid.l0 k s s.size u.length) (e.all wOk && decide (s.size ≤ 1000)):=by
 intro e
 induction e with
 | nil =>
  intro u h
  have hz:=size_suffix h
  simp only [List.length_nil] at hz
  refine Ev.step (f:=fun _ => some (decide (s.size ≤ 1000))) (fun k => ?_) ((Ev.now _).is (by simp))
  simp only [impl_WordValid.l0]
  rw [if_neg (by omega)]
  congr 1
  exact decide_eq_decide.mpr (by omega)
 | cons c e ih =>
  intro u h
  have hz:=size_suffix h
  simp only [List.length_cons] at hz
  have hbt:=bt_suffix h
  have hl : (u.length : Int) + 1 = (((u ++ [c]).length : Nat) : Int):=by simp
  have h2:=ih (u ++ [c]) (by rw [h];simp)
  by_cases h97 : c = 97
  ·subst h97
   refine Ev.step (fun k => ?_) (h2.is (by rfl))
   simp only [impl_WordValid.l0]
   rw [if_pos (by omega),if_pos (by omega),if_pos (by omega),hbt,if_pos (show (((97 : UInt8).toNat : Nat) : Int) = 97 from rfl),w64 (x:=(u.length : Int) + 1) (by omega) (by omega),hl]
  ·by_cases h98 : c = 98
   ·subst h98
    refine Ev.step (fun k => ?_) (h2.is (by rfl))
    simp only [impl_WordValid.l0]
    rw [if_pos (by omega),if_pos (by omega),if_pos (by omega),hbt,if_neg (by decide),if_pos (show (((98 : UInt8).toNat : Nat) : Int) = 98 from rfl),w64 (x:=(u.length : Int) + 1) (by omega) (by omega),hl]
   ·have hw : wOk c = false:=by unfold wOk;simp [h97,h98]
    refine Ev.step (f:=fun _ => some false) (fun k => ?_) ((Ev.now _).is (by simp [hw]))
    simp only [impl_WordValid.l0]
    rw [if_pos (by omega),if_pos (by omega),if_pos (by omega),hbt,if_neg (show ¬ ((c.toNat : Int) = 97) from u8_ne h97),if_neg (show ¬ ((c.toNat : Int) = 98) from u8_ne h98)]
theorem iWord_ev (s : ByteArray) (hn : s.size ≤ 4000000) : Ev (fun k => impl_WordValid.f k s) (wordB (L s)):=by
 have h:=iWord_loop s hn (L s) [] rfl
 unfold impl_WordValid.f wordB
 rw [← L_size]
 exact h
theorem sWord_loop (s : ByteArray) (hn : s.size ≤ 4000000) : ∀ (e u : List UInt8),L s = u ++ e → Ev (fun k => spec_WordValid.l0 k s s.size u.length) (e.all wOk && decide (s.size ≤ 1000)):=by
 intro e
 induction e with
 | nil =>
  intro u h
  have hz:=size_suffix h
  simp only [List.length_nil] at hz
  refine Ev.step (f:=fun _ => some (decide (s.size ≤ 1000))) (fun k => ?_) ((Ev.now _).is (by simp))
  simp only [spec_WordValid.l0]
  rw [if_neg (by omega)]
  congr 1
  exact decide_eq_decide.mpr (by omega)
 | cons c e ih =>
  intro u h
  have hz:=size_suffix h
  simp only [List.length_cons] at hz
  have hbt:=bt_suffix h
  have hl : (u.length : Int) + 1 = (((u ++ [c]).length : Nat) : Int):=by simp
  have h2:=ih (u ++ [c]) (by rw [h];simp)
  by_cases h97 : c = 97
  ·subst h97
   refine Ev.step (fun k => ?_) (h2.is (by rfl))
   simp only [spec_WordValid.l0]
   rw [if_pos (by omega),if_pos (by omega),if_pos (by omega),hbt,if_pos (show (((97 : UInt8).toNat : Nat) : Int) = 97 from rfl),w64 (x:=(u.length : Int) + 1) (by omega) (by omega),hl]
  ·by_cases h98 : c = 98
   ·subst h98
    refine Ev.step (fun k => ?_) (h2.is (by rfl))
    simp only [spec_WordValid.l0]
    rw [if_pos (by omega),if_pos (by omega),if_pos (by omega),hbt,if_neg (by decide),if_pos (show (((98 : UInt8).toNat : Nat) : Int) = 98 from rfl),w64 (x:=(u.length : Int) + 1) (by omega) (by omega),hl]
   ·have hw : wOk c = false:=by unfold wOk;simp [h97,h98]
    refine Ev.step (f:=fun _ => some false) (fun k => ?_) ((Ev.now _).is (by simp [hw]))
    simp only [spec_WordValid.l0]
    rw [if_pos (by omega),if_pos (by omega),if_pos (by omega),hbt,if_neg (show ¬ ((c.toNat : Int) = 97) from u8_ne h97),if_neg (show ¬ ((c.toNat : Int) = 98) from u8_ne h98)]
theorem sWord_ev (s : ByteArray) (hn : s.size ≤ 4000000) : Ev (fun k => spec_WordValid.f k s) (wordB (L s)):=by
 have h:=sWord_loop s hn (L s) [] rfl
 unfold spec_WordValid.f wordB
 rw [← L_size]
 exact h
theorem rd_mid (pre : List Int) (x : Int) (t : List Int) : rdI (pre ++ x :: t) (pre.length : Int) = x:=by simp [rdI,List.getD_eq_getElem?_getD]
theorem rd_nat (l : List Int) (i : Nat) : rdI l (i : Int) = l.getD i 0:=by simp [rdI]
theorem snoc_len (pre : List Int) (x : Int) : (((pre ++ [x]).length : Nat) : Int) = (pre.length : Int) + 1:=by simp
theorem wf_in {n : Int} (h : (Lit.int .i64 n).wf = true) : -9223372036854775808 ≤ n ∧ n ≤ 9223372036854775807:=by
 have hmin : IntKind.i64.min = -9223372036854775808:=rfl
 have hmax : IntKind.i64.max = 9223372036854775807:=rfl
 simp only [Lit.wf,Bool.and_eq_true,decide_eq_true_eq] at h
 omega
theorem maxLen_eq : maxLen = 9223372036854775807:=rfl
theorem ev_all {α : Type} {f : Nat → Nat → Option α} {g : Nat → α} (n : Nat) (h : ∀ i,i < n → Ev (f i) (g i)) : ∃ K0,∀ K,K0 ≤ K → ∀ i,i < n → f i K = some (g i):=by
 induction n with
 | zero => exact ⟨0,fun _ _ i hi => by omega⟩
 | succ n ih =>
  obtain ⟨K0,h0⟩:=ih (fun i hi => h i (by omega))
  obtain ⟨K1,h1⟩:=h n (by omega)
  refine ⟨max K0 K1,fun K hK i hi => ?_⟩
  by_cases e : i = n
  ·subst e;exact h1 K (by omega)
  ·exact h0 K (by omega) i (by omega)
theorem ev_up {α : Type} {f : Nat → Option α} {p : Nat → Nat → Option α} {r : α} (h : Ev f r) (hp : ∃ K0,∀ K,K0 ≤ K → ∀ j,LeO (f j) (p K (j + 1))) (hm : ∀ K j,LeO (p K j) (p K (j + 1))) : Ev (fun K => p K K) r:=by
 obtain ⟨K1,h1⟩:=h
 obtain ⟨K0,h0⟩:=hp
 refine ⟨max K0 (K1 + 1),fun K hK => ?_⟩
 have a:=h0 K (by omega) K1 r (h1 K1 (Nat.le_refl _))
 exact at_rounds (g:=p K) (hm K) (show K1 + 1 ≤ K by omega) a
theorem ev_some {α : Type} {f : Nat → Option α} {r : α} (h : ∀ k,f k = some r) : Ev f r:=⟨0,fun k _ => h k⟩
theorem up_loop {β : Type} (n : Nat) (L : Nat → Nat → Option β) (r : β) (step : ∀ i,i < n → Ev (L (i + 1)) r → Ev (L i) r) (h : Ev (L n) r) : Ev (L 0) r:=by
 have go : ∀ d,d ≤ n → Ev (L (n - d)) r:=by
  intro d
  induction d with
  | zero => intro _;exact h
  | succ d ih =>
   intro hd
   have e : n - (d + 1) + 1 = n - d:=by omega
   exact step (n - (d + 1)) (by omega) (by rw [e];exact ih (by omega))
 have:=go n (Nat.le_refl _)
 rwa [Nat.sub_self] at this
def tab (N : Nat) (F : Nat → Int) : List Int:=(List.range N).map F
theorem tab_length (N : Nat) (F : Nat → Int) : (tab N F).length = N:=by simp [tab]
theorem tab_snoc (N : Nat) (F : Nat → Int) : tab N F ++ [F N] = tab (N + 1) F:=by simp [tab,List.range_succ]
theorem tab_get (N : Nat) (F : Nat → Int) (j : Nat) (h : j < N) : (tab N F).getD j 0 = F j:=by
 simp [tab,List.getD_eq_getElem?_getD,List.getElem?_map,List.getElem?_range h]
theorem tab_congr (N : Nat) (F G : Nat → Int) (h : ∀ j,j < N → F j = G j) : tab N F = tab N G:=by
 unfold tab
 exact List.map_congr_left (fun j hj => h j (List.mem_range.mp hj))
theorem mem_tab {N : Nat} {F : Nat → Int} {x : Int} : x ∈ tab N F ↔ ∃ j,j < N ∧ F j = x:=by simp [tab]
theorem eq_tab (l : List Int) (N : Nat) (h : l.length = N) : l = tab N (fun j => l.getD j 0):=by
 apply List.ext_getElem
 ·simp [tab,h]
 ·intro i h1 h2
  simp [tab,List.getD_eq_getElem?_getD,List.getElem?_eq_getElem h1]
theorem fold_snoc {β : Type} (n : Nat) (f : β → Nat → β) (b : β) : (List.range (n + 1)).foldl f b = f ((List.range n).foldl f b) n:=by simp [List.range_succ]
theorem Ev_t {α : Type} {f g : Nat → Option α} {r : α} {c : Prop} [Decidable c] (h : c) (k : Ev f r) : Ev (fun n => if c then f n else g n) r:=Ev.congr (fun n => if_pos h) k
theorem Ev_f {α : Type} {f g : Nat → Option α} {r : α} {c : Prop} [Decidable c] (h : ¬ c) (k : Ev g r) : Ev (fun n => if c then f n else g n) r:=Ev.congr (fun n => if_neg h) k
def okCost (x : Int) : Bool:=decide (0 ≤ x ∧ x ≤ 1000000)
def MV (n : Int) (l : List Int) : Prop:=1 ≤ n ∧ n ≤ 4 ∧ (l.length : Int) = n * n ∧ ∀ x ∈ l,0 ≤ x ∧ x ≤ 1000000
def GV (n : Int) (l : List Int) : Prop:=MV n l ∧ ∀ x ∈ l,x ≤ 3
instance (n : Int) (l : List Int) : Decidable (MV n l):=by unfold MV;infer_instance
instance (n : Int) (l : List Int) : Decidable (GV n l):=by unfold GV;infer_instance
theorem icost (a : Int) : impl_CostValid.f a = some (okCost a):=by
 unfold impl_CostValid.f okCost
 by_cases h : a ≥ 0
 ·rw [if_pos h];by_cases h2 : a ≤ 1000000 <;> simp [h2] <;> omega
 ·rw [if_neg h];simp;omega
theorem sIn (a lo hi : Int) : spec_l1In.f a lo hi = some (decide (lo ≤ a ∧ a ≤ hi)):=by
 unfold spec_l1In.f
 by_cases h : a ≥ lo
 ·rw [if_pos h];by_cases h2 : a ≤ hi <;> simp [h2] <;> omega
 ·rw [if_neg h];simp;omega
theorem indexG {α : Type} (rdA : List α → Int → α) (hrd : ∀ (pre : List α) (x : α) (t : List α),rdA (pre ++ x :: t) (pre.length : Int) = x) (q : α → Bool) (p : Nat → α → Option Bool) (l : List α) (hp : ∀ x ∈ l,Ev (fun k => p k x) (q x)) (L0 : Nat → List α → Int → Int → Option Int)
  (hL : ∀ k x0 x7 x8,L0 (k + 1) x0 x7 x8 = if x8 < x7 then (if 0 ≤ x8 then (if x8 < (x0.length : Int) then ((p k (rdA x0 x8)).bind fun t1 => if t1 = true then some x8 else L0 k x0 x7 (wrap64 (x8 + 1))) else none) else none) else some (-1)) (h : l.length ≤ 9223372036854775807) :
  Ev (fun k => (L0 k l (l.length : Int) 0).bind fun t1 => some (decide (t1 ≥ 0))) (l.any q):=by
 have go : ∀ (t pre : List α),l = pre ++ t → ∃ z : Int,Ev (fun k => L0 k l (l.length : Int) (pre.length : Int)) z ∧ decide (z ≥ 0) = t.any q:=by
  intro t
  induction t with
  | nil =>
   intro pre hl
   refine ⟨-1,?_,rfl⟩
   refine Ev.step (f:=fun _ => some (-1)) (fun k => ?_) (Ev.now _)
   rw [hL,if_neg (by rw [hl];simp)]
  | cons x t ih =>
   intro pre hl
   have hlen : l.length = pre.length + (t.length + 1):=by rw [hl];simp
   have hx : rdA l (pre.length : Int) = x:=by rw [hl,hrd]
   have hpx:=hp x (by rw [hl];simp)
   have a0 : (pre.length : Int) < (l.length : Int):=by omega
   cases hq : q x with
   | true =>
    rw [hq] at hpx
    refine ⟨pre.length,?_,by simp [hq]⟩
    refine Ev.step (f:=fun k => (p k x).bind fun t1 => if t1 = true then some (pre.length : Int) else L0 k l (l.length : Int) (wrap64 ((pre.length : Int) + 1))) (fun k => ?_) (Ev.bind hpx (Ev.congr (f:=fun _ => some (pre.length : Int)) (fun k => if_pos rfl) (Ev.now _)))
    rw [hL,if_pos a0,if_pos (Int.natCast_nonneg _),if_pos a0,hx]
   | false =>
    rw [hq] at hpx
    obtain ⟨z,hz,hd⟩:=ih (pre ++ [x]) (by simp [hl])
    refine ⟨z,?_,by simp [hq,hd]⟩
    have e : (((pre ++ [x]).length : Nat) : Int) = wrap64 ((pre.length : Int) + 1):=by rw [w64 (by omega) (by omega)];simp
    rw [e] at hz
    refine Ev.step (f:=fun k => (p k x).bind fun t1 => if t1 = true then some (pre.length : Int) else L0 k l (l.length : Int) (wrap64 ((pre.length : Int) + 1))) (fun k => ?_) (Ev.bind hpx (Ev.congr (fun k => if_neg (by simp)) hz))
    rw [hL,if_pos a0,if_pos (Int.natCast_nonneg _),if_pos a0,hx]
 obtain ⟨z,hz,hd⟩:=go l [] rfl
 exact Ev.bind hz ((Ev.now _).is hd)
theorem index_mv (l : List Int) (h : l.length ≤ maxLen) : Ev (fun k => slices_ContainsFunc_int_int.f k l) (l.any fun x => !(okCost x)):=by
 rw [maxLen_eq] at h
 unfold slices_ContainsFunc_int_int.f slices_IndexFunc_int_int.f
 exact indexG rdI rd_mid (fun x => !(okCost x)) (fun _ x => impl_MatrixValid_1.f x) l (fun x _ => ev_some (fun _ => by unfold impl_MatrixValid_1.f;rw [icost,Option.bind_some,Bool.decide_eq_true])) (fun k a b c => slices_IndexFunc_int_int.l0 k a b c) (fun k a b c => by simp only [slices_IndexFunc_int_int.l0]) h
theorem iMV (n : Int) (l : List Int) (hl : l.length ≤ maxLen) : Ev (fun k => impl_MatrixValid.f k n l) (decide (MV n l)):=by
 have no : ∀ f : Nat → Option Bool,(∀ k,f k = some false) → ¬ MV n l → Ev f (decide (MV n l)):=fun f h h2 => (ev_some h).is (by rw [decide_eq_false h2])
 by_cases h1 : n < 1
 ·exact no _ (fun k => by unfold impl_MatrixValid.f;rw [if_pos h1]) (fun h => by unfold MV at h;omega)
 by_cases h2 : n > 4
 ·exact no _ (fun k => by unfold impl_MatrixValid.f;rw [if_neg h1,if_pos h2]) (fun h => by unfold MV at h;omega)
 have hnn : 0 ≤ n * n ∧ n * n ≤ 16:=by
  have : n = 1 ∨ n = 2 ∨ n = 3 ∨ n = 4:=by omega
  rcases this with rfl|rfl|rfl|rfl <;> omega
 by_cases h3 : (l.length : Int) = wrap64 (n * n)
 ·rw [w64 (by omega) (by omega)] at h3
  refine Ev.congr (f:=?f1) (fun k => ?h1) ?k1
  case h1 => unfold impl_MatrixValid.f;rw [if_neg h1,if_neg h2,w64 (x:=n * n) (by omega) (by omega),if_pos h3] <;> exact rfl
  refine Ev.bind (index_mv l hl) ?_
  refine (ev_some (fun k => rfl)).is ?_
  rw [Bool.decide_eq_true]
  rw [Bool.eq_iff_iff]
  simp only [Bool.not_eq_true',List.any_eq_false,Bool.not_eq_true',Bool.not_eq_false,decide_eq_true_eq]
  constructor
  ·intro h;exact ⟨by omega,by omega,h3,fun x hx => by simpa [okCost] using h x hx⟩
  ·intro h x hx;simpa [okCost] using h.2.2.2 x hx
 ·refine no _ (fun k => by unfold impl_MatrixValid.f;rw [if_neg h1,if_neg h2,if_neg h3]) (fun h => ?_)
  rw [w64 (by omega) (by omega)] at h3
  exact h3 h.2.2.1
theorem div_mod_at (n i k : Nat) (hk : k < n) : (i * n + k) / n = i ∧ (i * n + k) % n = k:=by
 have hn : 0 < n:=by omega
 constructor
 ·rw [Nat.mul_comm,Nat.mul_add_div hn,Nat.div_eq_of_lt hk,Nat.add_zero]
 ·rw [Nat.mul_comm,Nat.mul_add_mod,Nat.mod_eq_of_lt hk]
theorem cell_lt (n i k : Nat) (hi : i < n) (hk : k < n) : i * n + k < n * n:=by
 have : (i + 1) * n ≤ n * n:=Nat.mul_le_mul_right n hi
 rw [Nat.succ_mul] at this
 omega
theorem sq_le (n : Nat) (h : n ≤ 4) : n * n ≤ 16:=by
 have:=Nat.mul_le_mul h h
 omega
theorem row_le (n i : Nat) (hn : n ≤ 4) (hi : i ≤ n) : i * n ≤ 16:=by
 have:=Nat.mul_le_mul (Nat.le_trans hi hn) hn
 omega
def cutF (n : Nat) (g : Nat → Nat → Int) : Int → Int → Option Int:=fun i k => if 0 ≤ i ∧ i < n ∧ 0 ≤ k ∧ k < n then some (g i.toNat k.toNat) else none
theorem cutF_at (n : Nat) (g : Nat → Nat → Int) (i k : Nat) (hi : i < n) (hk : k < n) : cutF n g (i : Int) (k : Int) = some (g i k):=by
 unfold cutF;rw [if_pos (by omega)];simp
def sqL (n : Nat) (g : Nat → Nat → Int) : List Int:=tab (n * n) (fun m => g (m / n) (m % n))
theorem sqL_get (n : Nat) (g : Nat → Nat → Int) (i k : Nat) (hi : i < n) (hk : k < n) : (sqL n g).getD (i * n + k) 0 = g i k:=by
 unfold sqL
 rw [tab_get _ _ _ (cell_lt n i k hi hk)]
 obtain ⟨h1,h2⟩:=div_mod_at n i k hk
 rw [h1,h2]
theorem sqL_congr (n : Nat) (g h : Nat → Nat → Int) (e : ∀ i k,i < n → k < n → g i k = h i k) : sqL n g = sqL n h:=by
 refine tab_congr _ _ _ (fun j hj => e _ _ (Nat.div_lt_of_lt_mul hj) (Nat.mod_lt _ ?_))
 rcases n with _|n
 ·simp at hj
 ·omega
theorem eq_sqL (n : Nat) (l : List Int) (h : l.length = n * n) : l = sqL n (fun i k => l.getD (i * n + k) 0):=by
 refine (eq_tab l _ h).trans (tab_congr _ _ _ (fun j _ => ?_))
 show l.getD j 0 = l.getD (j / n * n + j % n) 0
 rw [Nat.mul_comm,Nat.div_add_mod]
theorem filledG (n : Nat) (hn : n ≤ 4) (g : Nat → Nat → Int) (c : Nat → Int → Int → Option Int) (hc : ∀ i,i < n → ∀ k,k < n → Ev (fun K => c K (i : Int) (k : Int)) (g i k)) (L0 : Nat → Int → Int → Int → Int → List Int → Option (Int × List Int)) (L1 : Nat → Int → Int → Int → Int → Int → Int → Int → List Int → Option (Int × List Int))
  (h0 : ∀ k x0 x10 x11 y z,L0 (k + 1) x0 x10 x11 y z = if x11 < x10 then L1 k x0 x11 x10 x11 x0 0 y z else some (y,z))
  (h1 : ∀ k x0 x6 x10 x11 x14 x15 y z,L1 (k + 1) x0 x6 x10 x11 x14 x15 y z = if x15 < x14 then ((c k x6 x15).bind fun t1 => if z.length < 17592186044416 then L1 k x0 x6 x10 x11 x14 (wrap64 (x15 + 1)) y (z ++ [t1]) else none) else L0 k x0 x10 (wrap64 (x11 + 1)) y z) :
  Ev (fun k => L0 k (n : Int) (n : Int) 0 (n : Int) []) ((n : Int),sqL n g):=by
 have inner : ∀ (i : Nat) (r : Int × List Int),i < n → Ev (fun j => L0 j n n ((i + 1 : Nat) : Int) n (tab ((i + 1) * n) (fun m => g (m / n) (m % n)))) r →
   Ev (fun j => L0 j n n (i : Int) n (tab (i * n) (fun m => g (m / n) (m % n)))) r:=by
  intro i r hi h
  refine Ev.step (f:=fun j => L1 j n i n i n ((0 : Nat) : Int) n (tab (i * n + 0) (fun m => g (m / n) (m % n)))) (fun k => ?_) ?_
  ·rw [h0,if_pos (by omega)];rfl
  refine up_loop n (fun k j => L1 j n i n i n (k : Int) n (tab (i * n + k) (fun m => g (m / n) (m % n)))) r (fun k hk hs => ?_) ?_
  ·have hr:=row_le n i hn (by omega)
   obtain ⟨d1,d2⟩:=div_mod_at n i k hk
   have e : tab (i * n + k) (fun m => g (m / n) (m % n)) ++ [g i k] = tab (i * n + (k + 1)) (fun m => g (m / n) (m % n)):=by
    rw [← Nat.add_assoc,← tab_snoc,d1,d2]
   have b0 : (tab (i * n + k) (fun m => g (m / n) (m % n))).length < 17592186044416:=by rw [tab_length];omega
   have a0 : (k : Int) < (n : Int):=by omega
   have wk : wrap64 ((k : Int) + 1) = ((k + 1 : Nat) : Int):=by rw [w64 (by omega) (by omega)];rfl
   refine Ev.step (f:=fun j => (c j (i : Int) (k : Int)).bind fun t1 => if (tab (i * n + k) (fun m => g (m / n) (m % n))).length < 17592186044416 then L1 j n i n i n (wrap64 ((k : Int) + 1)) n (tab (i * n + k) (fun m => g (m / n) (m % n)) ++ [t1]) else none) (fun j => ?_) (Ev.bind (hc i hi k hk) (Ev_t b0 ?_))
   ·rw [h1,if_pos a0]
   ·rw [wk,e];exact hs
  ·refine Ev.step (fun j => ?_) h
   rw [h1,if_neg (by omega),w64 (by omega) (by omega),Nat.succ_mul];rfl
 refine Ev.congr (f:=fun j => L0 j n n ((0 : Nat) : Int) n (tab (0 * n) (fun m => g (m / n) (m % n)))) (fun k => ?_) ?_
 ·simp [tab]
 refine up_loop n (fun i j => L0 j n n (i : Int) n (tab (i * n) (fun m => g (m / n) (m % n)))) _ (fun i hi hs => inner i _ hi hs) ?_
 refine Ev.step (f:=fun _ => some ((n : Int),sqL n g)) (fun j => ?_) (Ev.now _)
 rw [h0,if_neg (by omega)];rfl
theorem at_eq (n : Nat) (hn : n ≤ 4) (l : List Int) (hl : l.length = n * n) (i k : Nat) (hi : i < n) (hk : k < n) : impl_Matrix_at.f (n : Int) l (i : Int) (k : Int) = some (l.getD (i * n + k) 0):=by
 have hc:=cell_lt n i k hi hk
 have hr:=row_le n i hn (by omega)
 have e : wrap64 (wrap64 ((i : Int) * (n : Int)) + k) = ((i * n + k : Nat) : Int):=by
  have : (i : Int) * (n : Int) = ((i * n : Nat) : Int):=by simp
  rw [this,w64 (x:=((i * n : Nat) : Int)) (by omega) (by omega),w64 (by omega) (by omega)];simp
 unfold impl_Matrix_at.f
 rw [e,if_pos (by omega),if_pos (by omega),rd_nat]
theorem tdiv_nat (m n : Nat) : Int.tdiv (m : Int) (n : Int) = ((m / n : Nat) : Int):=by rw [Int.tdiv_eq_ediv_of_nonneg (by omega)];simp
theorem tmod_nat (m n : Nat) : Int.tmod (m : Int) (n : Int) = ((m % n : Nat) : Int):=by rw [Int.tmod_eq_emod_of_nonneg (by omega)];simp
theorem idx1 (n m l : Nat) (hn : n ≤ 4) (hi : m / n < n) (hl : l < n) : wrap64 (wrap64 (wrap64 (Int.tdiv (m : Int) (n : Int)) * (n : Int)) + l) = ((m / n * n + l : Nat) : Int):=by
 have r1:=row_le n (m / n) hn (by omega)
 rw [tdiv_nat]
 obtain ⟨q,hq⟩ : ∃ q : Nat,m / n = q:=⟨_,rfl⟩
 rw [hq] at hi r1 ⊢
 have h1 : ((q : Nat) : Int) * (n : Int) = ((q * n : Nat) : Int):=by simp
 obtain ⟨s,hs⟩ : ∃ s : Nat,q * n = s:=⟨_,rfl⟩
 rw [w64 (x:=((q : Nat) : Int)) (by omega) (by omega),h1]
 rw [hs] at r1 ⊢
 clear h1 hs hq
 rw [w64 (x:=((s : Nat) : Int)) (by omega) (by omega),w64 (by omega) (by omega)];simp
theorem idx2 (n m l : Nat) (hn : n ≤ 4) (hk : m % n < n) (hl : l < n) : wrap64 (wrap64 ((l : Int) * (n : Int)) + Int.tmod (m : Int) (n : Int)) = ((l * n + m % n : Nat) : Int):=by
 have r2:=row_le n l hn (by omega)
 rw [tmod_nat]
 obtain ⟨q,hq⟩ : ∃ q : Nat,m % n = q:=⟨_,rfl⟩
 rw [hq] at hk ⊢
 have h1 : (l : Int) * (n : Int) = ((l * n : Nat) : Int):=by simp
 obtain ⟨s,hs⟩ : ∃ s : Nat,l * n = s:=⟨_,rfl⟩
 rw [h1]
 rw [hs] at r2 ⊢
 clear h1 hs hq
 rw [w64 (x:=((s : Nat) : Int)) (by omega) (by omega),w64 (by omega) (by omega)];simp
theorem MV_nat {n : Int} {l : List Int} (h : MV n l) : ∃ m : Nat,n = (m : Int) ∧ 1 ≤ m ∧ m ≤ 4 ∧ l.length = m * m:=by
 refine ⟨n.toNat,?_⟩
 have h1:=h.1
 have h2:=h.2.1
 have h3:=h.2.2.1
 obtain ⟨m,rfl⟩ : ∃ m : Nat,n = (m : Int):=⟨n.toNat,by omega⟩
 refine ⟨by simp,by simp;omega,by simp;omega,?_⟩
 simp only [Int.toNat_natCast]
 exact_mod_cast h3
theorem Ev_sz {α : Type} {o : Option Int} {z : Int} {g : Nat → Int → Option α} {r : α} (h : o = some z) (k : Ev (fun n => g n z) r) : Ev (fun n => o.bind (g n)) r:=Ev.congr (fun n => by rw [h];rfl) k
theorem rdS_mid (pre : List Stp) (x : Stp) (t : List Stp) : rdT (pre ++ x :: t) (pre.length : Int) = x:=by simp [rdT,List.getD_eq_getElem?_getD]
theorem snocA {α : Type} (pre : List α) (x : α) : (((pre ++ [x]).length : Nat) : Int) = (pre.length : Int) + 1:=by simp
def mrk (n : Int) : Option Int → List Int → Bool
 | _,[] => true
 | p,x :: t => decide (0 ≤ x ∧ x < n) && (match p with|none => true|some y => decide (y < x)) && mrk n (some x) t
def stepOk (n : Int) (s : Stp) : Bool:=decide (0 ≤ s.f0 ∧ s.f0 < n ∧ 0 ≤ s.f2 ∧ s.f2 < n ∧ 0 ≤ s.f3 ∧ s.f3 ≤ 3 ∧ (s.f1.toList = ([97] : List UInt8) ∨ s.f1.toList = ([98] : List UInt8)))
def bef (s t : Stp) : Bool:=if s.f0 = t.f0 then (if s.f1.toList = t.f1.toList then decide (s.f2 < t.f2) else Op.bytesLess s.f1.toList t.f1.toList) else decide (s.f0 < t.f0)
def stp (n : Int) : Option Stp → List Stp → Bool
 | _,[] => true
 | p,x :: t => stepOk n x && (match p with|none => true|some y => bef y x) && stp n (some x) t
def AV (n : Int) (s f : List Int) (t : List Stp) : Bool:=decide (1 ≤ n ∧ n ≤ 4 ∧ t.length ≤ 24) && mrk n none s && mrk n none f && stp n none t
theorem iMarks (n : Int) (l : List Int) (h : l.length ≤ 1000000000) : Ev (fun k => impl_statesOk.f k l n) (mrk n none l):=by
 have go : ∀ (t pre : List Int),l = pre ++ t → Ev (fun k => impl_statesOk.l0 k l n l (l.length : Int) (pre.length : Int)) (mrk n pre.getLast? t):=by
  intro t
  induction t with
  | nil =>
   intro pre hl
   refine Ev.step (f:=fun _ => some true) (fun k => ?_) (Ev.now _)
   simp only [impl_statesOk.l0];rw [if_neg (by rw [hl];simp)]
  | cons x t ih =>
   intro pre hl
   have hlen : l.length = pre.length + (t.length + 1):=by rw [hl];simp
   have hx : rdI l (pre.length : Int) = x:=by rw [hl,rd_mid]
   have i1:=ih (pre ++ [x]) (by simp [hl])
   rw [List.getLast?_concat,snoc_len] at i1
   by_cases h0 : x < 0
   ·refine Ev.step (f:=fun _ => some false) (fun k => ?_) ((Ev.now _).is ?_)
    ·simp only [impl_statesOk.l0];rw [if_pos (by omega),if_pos (by omega),if_pos (by omega),hx,if_pos h0]
    ·simp only [mrk];rw [decide_eq_false (by omega)];rfl
   by_cases h1 : x ≥ n
   ·refine Ev.step (f:=fun _ => some false) (fun k => ?_) ((Ev.now _).is ?_)
    ·simp only [impl_statesOk.l0];rw [if_pos (by omega),if_pos (by omega),if_pos (by omega),hx,if_neg h0,if_pos h1]
    ·simp only [mrk];rw [decide_eq_false (by omega)];rfl
   rcases List.eq_nil_or_concat pre with rfl | ⟨q,y,rfl⟩
   ·refine Ev.step (fun k => ?_) (i1.is ?_)
    ·simp only [impl_statesOk.l0];rw [if_pos (by omega),if_pos (by omega),if_pos (by omega),hx,if_neg h0,if_neg h1,if_neg (by simp),w64 (by omega) (by omega)]
    ·simp only [mrk,List.getLast?_nil];rw [decide_eq_true (by omega)];rfl
   ·rw [List.concat_eq_append] at *
    have e : wrap64 (((q ++ [y]).length : Int) - 1) = (q.length : Int):=by rw [snoc_len,w64 (by omega) (by rw [List.length_append] at hlen;omega)];omega
    have hy : rdI l (q.length : Int) = y:=by rw [hl,List.append_assoc];exact rd_mid q y (x :: t)
    have hq:=hlen
    rw [List.length_append,List.length_singleton] at hq
    by_cases h2 : y ≥ x
    ·refine Ev.step (f:=fun _ => some false) (fun k => ?_) ((Ev.now _).is ?_)
     ·simp only [impl_statesOk.l0];rw [if_pos (by omega),if_pos (by omega),if_pos (by omega),hx,if_neg h0,if_neg h1,if_pos (by rw [snoc_len];omega),e,if_pos (by omega),if_pos (by omega),hy,if_pos h2]
     ·simp only [mrk,List.getLast?_concat];rw [decide_eq_false (p:=y < x) (by omega)];simp
    ·refine Ev.step (fun k => ?_) (i1.is ?_)
     ·simp only [impl_statesOk.l0];rw [if_pos (by omega),if_pos (by omega),if_pos (by omega),hx,if_neg h0,if_neg h1,if_pos (by rw [snoc_len];omega),e,if_pos (by omega),if_pos (by omega),hy,if_neg h2,w64 (by omega) (by omega)]
     ·simp only [mrk,List.getLast?_concat];rw [decide_eq_true (p:=y < x) (by omega),decide_eq_true (by omega)];rfl
 exact go l [] rfl
theorem sMarks (n : Int) (hn : 1 ≤ n ∧ n ≤ 4) (l : List Int) (h : l.length ≤ 1000000000) : Ev (fun k => spec_l3Marks.f k n l) (mrk n none l):=by
 have go : ∀ (t pre : List Int),l = pre ++ t → Ev (fun k => spec_l3Marks.l0 k n l l (l.length : Int) (pre.length : Int)) (mrk n pre.getLast? t):=by
  intro t
  induction t with
  | nil =>
   intro pre hl
   refine Ev.step (f:=fun _ => some true) (fun k => ?_) (Ev.now _)
   simp only [spec_l3Marks.l0];rw [if_neg (by rw [hl];simp)]
  | cons x t ih =>
   intro pre hl
   have hlen : l.length = pre.length + (t.length + 1):=by rw [hl];simp
   have hx : rdI l (pre.length : Int) = x:=by rw [hl,rd_mid]
   have i1:=ih (pre ++ [x]) (by simp [hl])
   rw [List.getLast?_concat,snoc_len] at i1
   have hw : wrap64 (n - 1) = n - 1:=w64 (by omega) (by omega)
   by_cases h0 : 0 ≤ x ∧ x < n
   case neg =>
    refine Ev.step (f:=fun _ => some false) (fun k => ?_) ((Ev.now _).is ?_)
    ·simp only [spec_l3Marks.l0];rw [if_pos (by omega),if_pos (by omega),if_pos (by omega),hx,sIn,hw,decide_eq_false (by omega),Option.bind_some,if_neg (by simp)]
    ·simp only [mrk];rw [decide_eq_false h0];rfl
   have hd : decide (0 ≤ x ∧ x ≤ n - 1) = true:=decide_eq_true (by omega)
   rcases List.eq_nil_or_concat pre with rfl | ⟨q,y,rfl⟩
   ·refine Ev.step (fun k => ?_) (i1.is ?_)
    ·simp only [spec_l3Marks.l0];rw [if_pos (by omega),if_pos (by omega),if_pos (by omega),hx,sIn,hw,hd,Option.bind_some,if_pos rfl,if_neg (by simp),w64 (by omega) (by omega)]
    ·simp only [mrk,List.getLast?_nil];rw [decide_eq_true h0];rfl
   ·rw [List.concat_eq_append] at *
    have e : wrap64 (((q ++ [y]).length : Int) - 1) = (q.length : Int):=by rw [snoc_len,w64 (by omega) (by rw [List.length_append] at hlen;omega)];omega
    have hy : rdI l (q.length : Int) = y:=by rw [hl,List.append_assoc];exact rd_mid q y (x :: t)
    have hq:=hlen
    rw [List.length_append,List.length_singleton] at hq
    by_cases h2 : y ≥ x
    ·refine Ev.step (f:=fun _ => some false) (fun k => ?_) ((Ev.now _).is ?_)
     ·simp only [spec_l3Marks.l0];rw [if_pos (by omega),if_pos (by omega),if_pos (by omega),hx,sIn,hw,hd,Option.bind_some,if_pos rfl,if_pos (by rw [snoc_len];omega),e,if_pos (by omega),if_pos (by omega),hy,if_pos h2]
     ·simp only [mrk,List.getLast?_concat];rw [decide_eq_false (p:=y < x) (by omega)];simp
    ·refine Ev.step (fun k => ?_) (i1.is ?_)
     ·simp only [spec_l3Marks.l0];rw [if_pos (by omega),if_pos (by omega),if_pos (by omega),hx,sIn,hw,hd,Option.bind_some,if_pos rfl,if_pos (by rw [snoc_len];omega),e,if_pos (by omega),if_pos (by omega),hy,if_neg h2,w64 (by omega) (by omega)]
     ·simp only [mrk,List.getLast?_concat];rw [decide_eq_true (p:=y < x) (by omega),decide_eq_true h0];rfl
 exact go l [] rfl
def cmp0 (a b : Int) : Int:=if a < b then -1 else if a > b then 1 else 0
def ordL (s t : Stp) : Int:=if cmp0 s.f0 t.f0 = 0 then (if Lib.compareBytes s.f1.data.toList t.f1.data.toList = 0 then cmp0 s.f2 t.f2 else Lib.compareBytes s.f1.data.toList t.f1.data.toList) else cmp0 s.f0 t.f0
theorem cmp_eq (a b : Int) : cmp_Compare_int.f a b = some (cmp0 a b):=by
 unfold cmp_Compare_int.f cmp_isNaN_int.f cmp0
 simp only [decide_true,Bool.not_true,Option.bind_some,Bool.false_eq_true,if_false]
 by_cases h : a < b
 ·rw [if_pos h,if_pos h]
 ·rw [if_neg h,if_neg h];by_cases h2 : a > b
  ·rw [if_pos h2,if_pos h2]
  ·rw [if_neg h2,if_neg h2]
theorem cmpOr_ev (l : List Int) (h : l.length ≤ 1000000000) : Ev (fun k => cmp_Or_int.f k l) ((l.find? (· != 0)).getD 0):=by
 have go : ∀ (t pre : List Int),l = pre ++ t → Ev (fun k => cmp_Or_int.l0 k l (l.length : Int) (pre.length : Int)) ((t.find? (· != 0)).getD 0):=by
  intro t
  induction t with
  | nil =>
   intro pre hl
   refine Ev.step (f:=fun _ => some 0) (fun k => ?_) (Ev.now _)
   simp only [cmp_Or_int.l0];rw [if_neg (by rw [hl];simp)]
  | cons x t ih =>
   intro pre hl
   have hlen : l.length = pre.length + (t.length + 1):=by rw [hl];simp
   have hx : rdI l (pre.length : Int) = x:=by rw [hl,rd_mid]
   have i1:=ih (pre ++ [x]) (by simp [hl])
   rw [snoc_len] at i1
   by_cases h0 : x = 0
   ·refine Ev.step (fun k => ?_) (i1.is ?_)
    ·simp only [cmp_Or_int.l0];rw [if_pos (by omega),if_pos (by omega),if_pos (by omega),hx,if_pos h0,w64 (by omega) (by omega)]
    ·simp [List.find?_cons,h0]
   ·refine Ev.step (f:=fun _ => some x) (fun k => ?_) ((Ev.now _).is ?_)
    ·simp only [cmp_Or_int.l0];rw [if_pos (by omega),if_pos (by omega),if_pos (by omega),hx,if_neg h0]
    ·simp [List.find?_cons,h0]
 exact go l [] rfl
theorem iOrder (s t : Stp) : Ev (fun k => impl_stepOrder.f k s.f0 s.f1 s.f2 s.f3 t.f0 t.f1 t.f2 t.f3) (ordL s t):=by
 refine Ev.congr (f:=?f1) (fun k => ?h1) ?k1
 case h1 => unfold impl_stepOrder.f strings_Compare.f bytealg_CompareString.f;rw [cmp_eq,cmp_eq,Option.bind_some,Option.bind_some,Option.bind_some,Option.bind_some] <;> exact rfl
 refine (Ev.bind (cmpOr_ev _ (by simp)) (Ev.now _)).is ?_
 unfold ordL
 by_cases h : cmp0 s.f0 t.f0 = 0
 ·by_cases h2 : Lib.compareBytes s.f1.data.toList t.f1.data.toList = 0
  ·by_cases h3 : cmp0 s.f2 t.f2 = 0 <;> simp [List.find?_cons,h,h2,h3]
  ·simp [List.find?_cons,h,h2]
 ·simp [List.find?_cons,h]
theorem sBefore (s t : Stp) : spec_l3Before.f s.f0 s.f1 s.f2 s.f3 t.f0 t.f1 t.f2 t.f3 = some (bef s t):=by
 unfold spec_l3Before.f bef
 by_cases h : s.f0 = t.f0
 ·rw [if_pos h,if_pos h];by_cases h2 : s.f1.toList = t.f1.toList
  ·rw [if_pos h2,if_pos h2]
  ·rw [if_neg h2,if_neg h2]
 ·rw [if_neg h,if_neg h]
theorem cmp0_lt {a b : Int} : cmp0 a b < 0 ↔ a < b:=by
 unfold cmp0
 by_cases h : a < b
 ·simp [h]
 ·by_cases h2 : a > b <;> simp [h,h2]
theorem cmp0_eq {a b : Int} : cmp0 a b = 0 ↔ a = b:=by
 unfold cmp0
 by_cases h : a < b
 ·rw [if_pos h];omega
 ·by_cases h2 : a > b
  ·rw [if_neg h,if_pos h2];omega
  ·rw [if_neg h,if_neg h2];omega
theorem ord_bef {n : Int} {s t : Stp} (hs : stepOk n s = true) (ht : stepOk n t = true) : ordL s t < 0 ↔ bef s t = true:=by
 unfold stepOk at hs ht
 have hs:=of_decide_eq_true hs
 have ht:=of_decide_eq_true ht
 unfold ordL bef
 have e1:=toList_L s.f1
 have e2:=toList_L t.f1
 unfold L at e1 e2
 rw [← e1,← e2]
 by_cases h : s.f0 = t.f0
 ·rw [if_pos (cmp0_eq.mpr h),if_pos h]
  rcases hs.2.2.2.2.2.2 with a|a <;> rcases ht.2.2.2.2.2.2 with b|b <;> rw [a,b]
  ·rw [if_pos rfl,show Lib.compareBytes ([97] : List UInt8) [97] = 0 by decide,if_pos rfl,cmp0_lt,decide_eq_true_eq]
  ·rw [if_neg (show ¬ Lib.compareBytes ([97] : List UInt8) [98] = 0 by decide),if_neg (by decide)];decide
  ·rw [if_neg (show ¬ Lib.compareBytes ([98] : List UInt8) [97] = 0 by decide),if_neg (by decide)];decide
  ·rw [if_pos rfl,show Lib.compareBytes ([98] : List UInt8) [98] = 0 by decide,if_pos rfl,cmp0_lt,decide_eq_true_eq]
 ·rw [if_neg (fun g => h (cmp0_eq.mp g)),if_neg h,cmp0_lt,decide_eq_true_eq]
theorem iSteps (n : Int) (s f : List Int) (t : List Stp) (h : t.length ≤ 1000000000) : Ev (fun k => impl_AutomatonValid.l0 k t (t.length : Int) 0 n s f t) (stp n none t):=by
 have go : ∀ (u pre : List Stp),t = pre ++ u → (∀ y,pre.getLast? = some y → stepOk n y = true) → Ev (fun k => impl_AutomatonValid.l0 k t (t.length : Int) (pre.length : Int) n s f t) (stp n pre.getLast? u):=by
  intro u
  induction u with
  | nil =>
   intro pre hl _
   refine Ev.step (f:=fun _ => some true) (fun k => ?_) (Ev.now _)
   simp only [impl_AutomatonValid.l0];rw [if_neg (by rw [hl];simp)]
  | cons x u ih =>
   intro pre hl hp
   have hlen : t.length = pre.length + (u.length + 1):=by rw [hl];simp
   have hx : rdT t (pre.length : Int) = x:=by rw [hl,rdS_mid]
   have tail : stepOk n x = true → Ev (fun k => if (pre.length : Int) > 0 then (if 0 ≤ (wrap64 ((pre.length : Int) - 1)) then (if (wrap64 ((pre.length : Int) - 1)) < (t.length : Int) then ((impl_stepOrder.f k ((rdT t (wrap64 ((pre.length : Int) - 1))).f0) ((rdT t (wrap64 ((pre.length : Int) - 1))).f1) ((rdT t (wrap64 ((pre.length : Int) - 1))).f2) ((rdT t (wrap64 ((pre.length : Int) - 1))).f3) x.f0 x.f1 x.f2 x.f3).bind fun z => (if z ≥ 0 then (some false) else (impl_AutomatonValid.l0 k t (t.length : Int) (wrap64 ((pre.length : Int) + 1)) n s f t))) else none) else none) else (impl_AutomatonValid.l0 k t (t.length : Int) (wrap64 ((pre.length : Int) + 1)) n s f t)) (stp n pre.getLast? (x :: u)):=by
    intro hok
    have i1:=ih (pre ++ [x]) (by simp [hl]) (fun y hy => by rw [List.getLast?_concat] at hy;obtain rfl:=Option.some.inj hy;exact hok)
    rw [List.getLast?_concat,snocA] at i1
    have ew : wrap64 ((pre.length : Int) + 1) = (pre.length : Int) + 1:=w64 (by omega) (by omega)
    rw [ew]
    rcases List.eq_nil_or_concat pre with rfl | ⟨q,y,rfl⟩
    ·refine Ev.congr (fun k => by rw [if_neg (by simp)] <;> exact rfl) (i1.is ?_)
     simp only [stp,List.getLast?_nil,hok,Bool.true_and]
    ·rw [List.concat_eq_append] at *
     have hq:=hlen
     rw [List.length_append,List.length_singleton] at hq
     have e : wrap64 (((q ++ [y]).length : Int) - 1) = (q.length : Int):=by rw [snocA,w64 (by omega) (by omega)];omega
     have hy : rdT t (q.length : Int) = y:=by rw [hl,List.append_assoc];exact rdS_mid q y (x :: u)
     have hoy : stepOk n y = true:=hp y (by rw [List.getLast?_concat])
     refine Ev.congr (f:=?f1) (fun k => ?h1) ?k1
     case h1 => rw [e,if_pos (by rw [snocA];omega),if_pos (by omega),if_pos (by omega),hy] <;> exact rfl
     refine Ev.bind (iOrder y x) ?_
     by_cases hb : bef y x = true
     ·refine Ev.congr (fun k => if_neg (by have:=(ord_bef hoy hok).mpr hb;omega)) (i1.is ?_)
      simp only [stp,List.getLast?_concat,hok,hb,Bool.true_and]
     ·refine Ev.congr (f:=fun _ => some false) (fun k => if_pos (Int.not_lt.mp fun h => hb ((ord_bef hoy hok).mp h))) ((Ev.now _).is ?_)
      simp only [stp,List.getLast?_concat,hok,Bool.true_and]
      rw [Bool.not_eq_true] at hb
      rw [hb];rfl
   by_cases hok : stepOk n x = true
   ·have ho:=of_decide_eq_true (show decide _ = true from hok)
    refine Ev.step (fun k => ?_) (tail hok)
    simp only [impl_AutomatonValid.l0]
    rw [if_pos (by omega),if_pos (by omega),if_pos (by omega),hx,if_neg (by omega),if_neg (by omega),if_neg (by omega),if_neg (by omega)]
    rcases ho.2.2.2.2.2.2 with a|a
    ·rw [if_pos a,if_neg (by omega),if_neg (by omega)]
    ·rw [if_neg (by rw [a];decide),if_pos a,if_neg (by omega),if_neg (by omega)]
   ·refine Ev.step (f:=fun _ => some false) (fun k => ?_) ((Ev.now _).is ?_)
    ·simp only [impl_AutomatonValid.l0]
     rw [if_pos (by omega),if_pos (by omega),if_pos (by omega),hx]
     by_cases a1 : x.f0 < 0
     ·rw [if_pos a1]
     by_cases a2 : x.f0 ≥ n
     ·rw [if_neg a1,if_pos a2]
     by_cases a3 : x.f2 < 0
     ·rw [if_neg a1,if_neg a2,if_pos a3]
     by_cases a4 : x.f2 ≥ n
     ·rw [if_neg a1,if_neg a2,if_neg a3,if_pos a4]
     rw [if_neg a1,if_neg a2,if_neg a3,if_neg a4]
     by_cases b1 : x.f1.toList = ([97] : List UInt8)
     ·rw [if_pos b1]
      by_cases a5 : x.f3 < 0
      ·rw [if_pos a5]
      by_cases a6 : x.f3 > 3
      ·rw [if_neg a5,if_pos a6]
      exact absurd (show stepOk n x = true from decide_eq_true ⟨by omega,by omega,by omega,by omega,by omega,by omega,.inl b1⟩) hok
     ·rw [if_neg b1]
      by_cases b2 : x.f1.toList = ([98] : List UInt8)
      ·rw [if_pos b2]
       by_cases a5 : x.f3 < 0
       ·rw [if_pos a5]
       by_cases a6 : x.f3 > 3
       ·rw [if_neg a5,if_pos a6]
       exact absurd (show stepOk n x = true from decide_eq_true ⟨by omega,by omega,by omega,by omega,by omega,by omega,.inr b2⟩) hok
      ·rw [if_neg b2]
    ·rw [Bool.not_eq_true] at hok
     simp only [stp,hok,Bool.false_and]
 exact go t [] rfl (fun y hy => by simp at hy)
theorem sStepOk (n : Int) (hn : 1 ≤ n ∧ n ≤ 4) (x : Stp) : spec_l3Step.f n x.f0 x.f1 x.f2 x.f3 = some (stepOk n x):=by
 unfold spec_l3Step.f stepOk
 rw [sIn,sIn,sIn,w64 (x:=n - 1) (by omega) (by omega),Option.bind_some]
 by_cases a1 : 0 ≤ x.f0 ∧ x.f0 ≤ n - 1
 ·rw [decide_eq_true a1,if_pos rfl,Option.bind_some]
  by_cases a2 : 0 ≤ x.f2 ∧ x.f2 ≤ n - 1
  ·rw [decide_eq_true a2,if_pos rfl,Option.bind_some]
   by_cases a3 : 0 ≤ x.f3 ∧ x.f3 ≤ 3
   ·rw [decide_eq_true a3,if_pos rfl]
    by_cases b : x.f1.toList = ([97] : List UInt8)
    ·rw [if_pos b,decide_eq_true (by refine ⟨?_,?_,?_,?_,?_,?_,.inl b⟩ <;> omega)]
    ·rw [if_neg b]
     by_cases b2 : x.f1.toList = ([98] : List UInt8)
     ·rw [decide_eq_true b2,decide_eq_true (by refine ⟨?_,?_,?_,?_,?_,?_,.inr b2⟩ <;> omega)]
     ·rw [decide_eq_false b2,decide_eq_false (by intro g;rcases g.2.2.2.2.2.2 with c|c;exact b c;exact b2 c)]
   ·rw [decide_eq_false a3,if_neg (by simp),decide_eq_false (by omega)]
  ·rw [decide_eq_false a2,if_neg (by simp),decide_eq_false (by omega)]
 ·rw [decide_eq_false a1,if_neg (by simp),decide_eq_false (by omega)]
theorem sSteps (n : Int) (hn : 1 ≤ n ∧ n ≤ 4) (s f : List Int) (t : List Stp) (h : t.length ≤ 1000000000) : Ev (fun k => spec_AutomatonValid.l0 k t (t.length : Int) 0 n s f t) (stp n none t):=by
 have go : ∀ (u pre : List Stp),t = pre ++ u → Ev (fun k => spec_AutomatonValid.l0 k t (t.length : Int) (pre.length : Int) n s f t) (stp n pre.getLast? u):=by
  intro u
  induction u with
  | nil =>
   intro pre hl
   refine Ev.step (f:=fun _ => some true) (fun k => ?_) (Ev.now _)
   simp only [spec_AutomatonValid.l0];rw [if_neg (by rw [hl];simp)]
  | cons x u ih =>
   intro pre hl
   have hlen : t.length = pre.length + (u.length + 1):=by rw [hl];simp
   have hx : rdT t (pre.length : Int) = x:=by rw [hl,rdS_mid]
   have i1:=ih (pre ++ [x]) (by simp [hl])
   rw [List.getLast?_concat,snocA] at i1
   by_cases hok : stepOk n x = true
   ·rcases List.eq_nil_or_concat pre with rfl | ⟨q,y,rfl⟩
    ·refine Ev.step (fun k => ?_) (i1.is ?_)
     ·simp only [spec_AutomatonValid.l0];rw [if_pos (by omega),if_pos (by omega),if_pos (by omega),hx,sStepOk n hn,hok,Option.bind_some,if_pos rfl,if_neg (by simp),w64 (by omega) (by omega)]
     ·simp only [stp,List.getLast?_nil,hok,Bool.true_and]
    ·rw [List.concat_eq_append] at *
     have hq:=hlen
     rw [List.length_append,List.length_singleton] at hq
     have e : wrap64 (((q ++ [y]).length : Int) - 1) = (q.length : Int):=by rw [snocA,w64 (by omega) (by omega)];omega
     have hy : rdT t (q.length : Int) = y:=by rw [hl,List.append_assoc];exact rdS_mid q y (x :: u)
     by_cases hb : bef y x = true
     ·refine Ev.step (fun k => ?_) (i1.is ?_)
      ·simp only [spec_AutomatonValid.l0];rw [if_pos (by omega),if_pos (by omega),if_pos (by omega),hx,sStepOk n hn,hok,Option.bind_some,if_pos rfl,if_pos (by rw [snocA];omega),e,if_pos (by omega),if_pos (by omega),hy,sBefore,hb,Option.bind_some,if_pos rfl,w64 (by omega) (by omega)]
      ·simp only [stp,List.getLast?_concat,hok,hb,Bool.true_and]
     ·rw [Bool.not_eq_true] at hb
      refine Ev.step (f:=fun _ => some false) (fun k => ?_) ((Ev.now _).is ?_)
      ·simp only [spec_AutomatonValid.l0];rw [if_pos (by omega),if_pos (by omega),if_pos (by omega),hx,sStepOk n hn,hok,Option.bind_some,if_pos rfl,if_pos (by rw [snocA];omega),e,if_pos (by omega),if_pos (by omega),hy,sBefore,hb,Option.bind_some,if_neg (by simp)]
      ·simp only [stp,List.getLast?_concat,hok,hb,Bool.true_and];rfl
   ·rw [Bool.not_eq_true] at hok
    refine Ev.step (f:=fun _ => some false) (fun k => ?_) ((Ev.now _).is ?_)
    ·simp only [spec_AutomatonValid.l0];rw [if_pos (by omega),if_pos (by omega),if_pos (by omega),hx,sStepOk n hn,hok,Option.bind_some,if_neg (by simp)]
    ·simp only [stp,hok,Bool.false_and]
 exact go t [] rfl
theorem iAV (n : Int) (s f : List Int) (t : List Stp) (hs : s.length ≤ 1000000000) (hf : f.length ≤ 1000000000) (ht : t.length ≤ 1000000000) : Ev (fun k => impl_AutomatonValid.f k n s f t) (AV n s f t):=by
 have bad : ∀ g : Nat → Option Bool,(∀ k,g k = some false) → AV n s f t = false → Ev g (AV n s f t):=fun g hg he => ⟨0,fun k _ => by rw [hg,he]⟩
 by_cases h1 : n < 1
 ·exact bad _ (fun k => by unfold impl_AutomatonValid.f;rw [if_pos h1]) (by unfold AV;rw [decide_eq_false (by omega)];rfl)
 by_cases h2 : n > 4
 ·exact bad _ (fun k => by unfold impl_AutomatonValid.f;rw [if_neg h1,if_pos h2]) (by unfold AV;rw [decide_eq_false (by omega)];rfl)
 by_cases h3 : (t.length : Int) > 24
 ·exact bad _ (fun k => by unfold impl_AutomatonValid.f;rw [if_neg h1,if_neg h2,if_pos h3]) (by unfold AV;rw [decide_eq_false (by omega)];rfl)
 have hd : decide (1 ≤ n ∧ n ≤ 4 ∧ t.length ≤ 24) = true:=decide_eq_true (by omega)
 refine Ev.congr (f:=?f1) (fun k => ?h1) ?k1
 case h1 => unfold impl_AutomatonValid.f;rw [if_neg h1,if_neg h2,if_neg h3] <;> exact rfl
 refine Ev.bind (iMarks n s hs) ?_
 by_cases g1 : mrk n none s = true
 case neg =>
  exact bad _ (fun k => by rw [if_neg g1]) (by unfold AV;rw [Bool.not_eq_true] at g1;rw [g1];simp)
 refine Ev_t g1 ?_
 refine Ev.bind (iMarks n f hf) ?_
 by_cases g2 : mrk n none f = true
 case neg =>
  rw [Bool.not_eq_true] at g2
  exact bad _ (fun k => by rw [g2];rfl) (by unfold AV;rw [g2];simp)
 refine Ev.congr (fun k => by rw [if_pos g2]) ((iSteps n s f t ht).is ?_)
 unfold AV;rw [hd,g1,g2];rfl
theorem sAV (n : Int) (s f : List Int) (t : List Stp) (hs : s.length ≤ 1000000000) (hf : f.length ≤ 1000000000) (ht : t.length ≤ 1000000000) : Ev (fun k => spec_AutomatonValid.f k n s f t) (AV n s f t):=by
 have bad : ∀ g : Nat → Option Bool,(∀ k,g k = some false) → AV n s f t = false → Ev g (AV n s f t):=fun g hg he => ⟨0,fun k _ => by rw [hg,he]⟩
 by_cases h1 : 1 ≤ n ∧ n ≤ 4
 case neg => exact bad _ (fun k => by unfold spec_AutomatonValid.f;rw [sIn,decide_eq_false h1,Option.bind_some,if_neg (by simp)]) (by unfold AV;rw [decide_eq_false (by omega)];rfl)
 refine Ev.congr (f:=?f1) (fun k => ?h1) ?k1
 case h1 => unfold spec_AutomatonValid.f;rw [sIn,decide_eq_true h1,Option.bind_some,if_pos rfl] <;> exact rfl
 refine Ev.bind (sMarks n h1 s hs) ?_
 by_cases g1 : mrk n none s = true
 case neg =>
  exact bad _ (fun k => by rw [if_neg g1]) (by unfold AV;rw [Bool.not_eq_true] at g1;rw [g1];simp)
 refine Ev_t g1 ?_
 refine Ev.bind (sMarks n h1 f hf) ?_
 by_cases g2 : mrk n none f = true
 case neg =>
  exact bad _ (fun k => by rw [if_neg g2]) (by unfold AV;rw [Bool.not_eq_true] at g2;rw [g2];simp)
 refine Ev_t g2 ?_
 by_cases h3 : (t.length : Int) > 24
 ·exact bad _ (fun k => by rw [if_pos h3]) (by unfold AV;rw [decide_eq_false (by omega)];rfl)
 refine Ev.congr (fun k => by rw [if_neg h3]) ((sSteps n h1 s f t ht).is ?_)
 unfold AV;rw [decide_eq_true (by omega),g1,g2];rfl
theorem mrk_mem {n : Int} : ∀ {l : List Int} {p : Option Int},mrk n p l = true → ∀ x ∈ l,0 ≤ x ∧ x < n
 | [],_,_,x,hx => by cases hx
 | y :: t,p,h,x,hx => by
  simp only [mrk,Bool.and_eq_true,decide_eq_true_eq] at h
  rcases List.mem_cons.mp hx with rfl|hx
  ·exact h.1.1
  ·exact mrk_mem h.2 x hx
theorem cellZ {n i k : Int} (hn : 1 ≤ n ∧ n ≤ 4) (hi : 0 ≤ i ∧ i < n) (hk : 0 ≤ k ∧ k < n) : 0 ≤ i * n + k ∧ i * n + k < n * n ∧ i * n + k ≤ 16 ∧ 0 ≤ i * n ∧ i * n ≤ 16:=by
 have h1 : n = 1 ∨ n = 2 ∨ n = 3 ∨ n = 4:=by omega
 rcases h1 with rfl|rfl|rfl|rfl <;> omega
theorem cellW {n i k : Int} (hn : 1 ≤ n ∧ n ≤ 4) (hi : 0 ≤ i ∧ i < n) (hk : 0 ≤ k ∧ k < n) : wrap64 (wrap64 (i * n) + k) = i * n + k:=by
 have c:=cellZ hn hi hk
 rw [w64 (x:=i * n) (by omega) (by omega),w64 (by omega) (by omega)]
theorem AV_parts {n : Int} {s f : List Int} {t : List Stp} (h : AV n s f t = true) : (1 ≤ n ∧ n ≤ 4) ∧ t.length ≤ 24 ∧ mrk n none s = true ∧ mrk n none f = true ∧ stp n none t = true:=by
 simp only [AV,Bool.and_eq_true,decide_eq_true_eq] at h
 exact ⟨⟨h.1.1.1.1,h.1.1.1.2.1⟩,h.1.1.1.2.2,h.1.1.2,h.1.2,h.2⟩
def cvS (x : Stp) : Stp:=⟨x.f0,x.f1,x.f2,x.f3⟩
theorem rdL_mid (pre : List Stp) (x : Stp) (t : List Stp) : rdT (pre ++ x :: t) (pre.length : Int) = x:=by simp [rdT,List.getD_eq_getElem?_getD]
def count : Int → Nat → List Int
 | _,0 => []
 | k,n + 1 => k :: count (k + 1) n
theorem count_length (n : Nat) : ∀ k,(count k n).length = n:=by induction n with
 | zero => intro k;rfl
 | succ n ih => intro k;simp [count,ih]
theorem bless : ∀ (a b : List UInt8),Op.bytesLess a b = decide (Lib.compareBytes a b < 0)
 | [],[] => rfl
 | [],_ :: _ => rfl
 | _ :: _,[] => rfl
 | a :: x,b :: y => by
  have e : Lib.compareBytes (a :: x) (b :: y) = if a < b then -1 else if b < a then 1 else Lib.compareBytes x y:=rfl
  by_cases h1 : a < b
  ·have h2 : Op.bytesLess (a :: x) (b :: y) = true:=by simp [Op.bytesLess,h1]
   exact h2.trans (decide_eq_true (by rw [e,if_pos h1];decide)).symm
  ·by_cases h2 : b < a
   ·have h3 : (a == b) = false:=by
     rw [beq_eq_false_iff_ne]
     rintro rfl
     exact h1 h2
    have h4 : Op.bytesLess (a :: x) (b :: y) = false:=by simp [Op.bytesLess,h1,h3]
    exact h4.trans (decide_eq_false (by rw [e,if_neg h1,if_pos h2];decide)).symm
   ·have q : a = b:=UInt8.le_antisymm (UInt8.not_lt.1 h2) (UInt8.not_lt.1 h1)
    subst q
    have h4 : Op.bytesLess (a :: x) (a :: y) = Op.bytesLess x y:=by simp [Op.bytesLess,h1]
    refine h4.trans ((bless x y).trans (decide_eq_decide.2 ?_))
    rw [e,if_neg h1,if_neg h1]
theorem bef_ord (s t : Stp) : bef s t = decide (ordT s t < 0):=by
 have e1:=toList_L s.f1
 have e2:=toList_L t.f1
 unfold L at e1 e2
 unfold bef
 by_cases h : s.f0 = t.f0
 ·rw [if_pos h]
  by_cases g : s.f1.toList = t.f1.toList
  ·rw [if_pos g]
   refine decide_eq_decide.2 ?_
   rw [ordT_lt,e1.symm.trans (g.trans e2),cB_refl]
   constructor
   ·exact fun q => .inr ⟨h,.inr ⟨rfl,q⟩⟩
   ·rintro (q | ⟨_,q | ⟨_,q⟩⟩)
    ·omega
    ·omega
    ·exact q
  ·rw [if_neg g,bless]
   refine decide_eq_decide.2 ?_
   rw [ordT_lt,e1,e2]
   constructor
   ·exact fun q => .inr ⟨h,.inl q⟩
   ·rintro (q | ⟨_,q | ⟨q,_⟩⟩)
    ·omega
    ·exact q
    ·exact absurd (e1.trans (q.trans e2.symm)) g
 ·rw [if_neg h]
  refine decide_eq_decide.2 ?_
  rw [ordT_lt]
  constructor
  ·exact .inl
  ·rintro (q | ⟨q,_⟩)
   ·exact q
   ·exact absurd q h
def ascT (t : List Stp) : Prop:=t.Pairwise fun x y => ordT x y < 0
def ascI (l : List Int) : Prop:=l.Pairwise fun x y => x < y
theorem stp_asc {n : Int} : ∀ {t : List Stp} {p : Option Stp},stp n p t = true ↔ (∀ x ∈ t,stepOk n x = true) ∧ ascT t ∧ ∀ y,p = some y → ∀ x ∈ t,ordT y x < 0
 | [],p => by simp [stp,ascT]
 | x :: t,p => by
  simp only [stp,Bool.and_eq_true,stp_asc (t:=t) (p:=some x),ascT,List.pairwise_cons,List.mem_cons,forall_eq_or_imp]
  constructor
  ·rintro ⟨⟨h1,h2⟩,h3,h4,h5⟩
   refine ⟨⟨h1,h3⟩,⟨h5 x rfl,h4⟩,?_⟩
   rintro y rfl
   simp only [bef_ord,decide_eq_true_eq] at h2
   exact ⟨h2,fun z hz => ordT_trans h2 (h5 x rfl z hz)⟩
  ·rintro ⟨⟨h1,h3⟩,⟨h4,h5⟩,h6⟩
   refine ⟨⟨h1,?_⟩,h3,h5,fun y hy => by cases hy;exact h4⟩
   cases p with
   | none => rfl
   | some y => simp only [bef_ord,decide_eq_true_eq];exact (h6 y rfl).1
theorem mrk_asc {n : Int} : ∀ {t : List Int} {p : Option Int},mrk n p t = true ↔ (∀ x ∈ t,0 ≤ x ∧ x < n) ∧ ascI t ∧ ∀ y,p = some y → ∀ x ∈ t,y < x
 | [],p => by simp [mrk,ascI]
 | x :: t,p => by
  simp only [mrk,Bool.and_eq_true,mrk_asc (t:=t) (p:=some x),ascI,List.pairwise_cons,List.mem_cons,forall_eq_or_imp,decide_eq_true_eq]
  constructor
  ·rintro ⟨⟨h1,h2⟩,h3,h4,h5⟩
   refine ⟨⟨h1,h3⟩,⟨h5 x rfl,h4⟩,?_⟩
   rintro y rfl
   simp only [decide_eq_true_eq] at h2
   exact ⟨h2,fun z hz => Int.lt_trans h2 (h5 x rfl z hz)⟩
  ·rintro ⟨⟨h1,h3⟩,⟨h4,h5⟩,h6⟩
   refine ⟨⟨h1,?_⟩,h3,h5,fun y hy => by cases hy;exact h4⟩
   cases p with
   | none => rfl
   | some y => simp only [decide_eq_true_eq];exact (h6 y rfl).1
theorem asc_ne {t : List Stp} (h : ascT t) {x y : Stp} (hx : x ∈ t) (hy : y ∈ t) (e : ordT x y = 0) : x = y:=by
 induction t with
 | nil => cases hx
 | cons z t ih =>
  unfold ascT at h
  rw [List.pairwise_cons] at h
  rcases List.mem_cons.1 hx with q1|q1
  ·rcases List.mem_cons.1 hy with q2|q2
   ·rw [q1,q2]
   ·have:=h.1 y q2;rw [← q1] at this;omega
  ·rcases List.mem_cons.1 hy with q2|q2
   ·have:=h.1 x q1
    have:=ordT_neg x y
    rw [← q2] at *
    omega
   ·exact ih h.2 q1 q2
theorem sortT_of {u t : List Stp} (h : ascT u) (p : u.Perm t) : sortT t = u:=by
 refine List.Perm.eq_of_pairwise (le:=fun x y => ¬ ordT y x < 0) (fun x y hx hy q1 q2 => ?_) (sortT_sorted t) (h.imp fun {x y} q => ?_) ((sortT_perm t).trans p.symm)
 ·have hx : x ∈ u:=p.symm.subset ((sortT_perm t).subset hx)
  have:=ordT_neg x y
  exact asc_ne h hx hy (by omega)
 ·have:=ordT_neg x y
  omega
theorem sortT_id {t : List Stp} (h : ascT t) : sortT t = t:=sortT_of h (.refl _)
theorem sortI_of {u t : List Int} (h : ascI u) (p : u.Perm t) : sortI t = u:=by
 refine List.Perm.eq_of_pairwise (le:=fun x y => x ≤ y) (fun x y _ _ q1 q2 => Int.le_antisymm q1 q2) (sortI_sorted t) (h.imp fun {x y} q => Int.le_of_lt q) ((sortI_perm t).trans p.symm)
theorem sortI_id {t : List Int} (h : ascI t) : sortI t = t:=sortI_of h (.refl _)
def putL : List Stp → Stp → List Stp
 | [],s => [s]
 | y :: l,s => if bef y s = true then y :: putL l s else if bef s y = true then s :: y :: l else ⟨y.f0,y.f1,y.f2,mn y.f3 s.f3⟩ :: l
theorem putL_len : ∀ (l : List Stp) (s : Stp),(putL l s).length ≤ l.length + 1
 | [],s => Nat.le_refl _
 | y :: l,s => by
  simp only [putL]
  split
  ·have:=putL_len l s;simp only [List.length_cons];omega
  ·split <;> simp
theorem ord_mn (y s x : Stp) : ordT ⟨y.f0,y.f1,y.f2,mn y.f3 s.f3⟩ x = ordT y x:=rfl
theorem putL_mem {l : List Stp} {s z : Stp} (h : z ∈ putL l s) : ordT s z = 0 ∨ ∃ x ∈ l,ordT x z = 0:=by
 have rf : ∀ a : Stp,ordT a a = 0:=fun a => ordT_zero.2 ⟨rfl,rfl,rfl⟩
 induction l with
 | nil =>
  simp only [putL,List.mem_singleton] at h
  subst h
  exact .inl (rf _)
 | cons y l ih =>
  simp only [putL] at h
  split at h
  ·rcases List.mem_cons.1 h with rfl|h
   ·exact .inr ⟨_,List.mem_cons_self ..,rf _⟩
   ·rcases ih h with q | ⟨x,q1,q2⟩
    ·exact .inl q
    ·exact .inr ⟨x,List.mem_cons_of_mem _ q1,q2⟩
  ·split at h
   ·rcases List.mem_cons.1 h with rfl|h
    ·exact .inl (rf _)
    ·exact .inr ⟨z,h,rf _⟩
   ·rcases List.mem_cons.1 h with rfl|h
    ·exact .inr ⟨y,List.mem_cons_self ..,by rw [ordT_zero];exact ⟨rfl,rfl,rfl⟩⟩
    ·exact .inr ⟨z,List.mem_cons_of_mem _ h,rf _⟩
theorem ord_same2 {y z s : Stp} (h : ordT s z = 0) : ordT y z = ordT y s:=by
 have a:=ordT_same (u:=y) h
 have b:=ordT_neg y z
 have c:=ordT_neg y s
 omega
theorem putL_asc {l : List Stp} (h : ascT l) (s : Stp) : ascT (putL l s):=by
 induction l with
 | nil => simp [putL,ascT]
 | cons y l ih =>
  unfold ascT at h ih ⊢
  rw [List.pairwise_cons] at h
  simp only [putL,bef_ord,decide_eq_true_eq]
  split
  ·rename_i q
   rw [List.pairwise_cons]
   refine ⟨fun z hz => ?_,ih h.2⟩
   rcases putL_mem hz with e | ⟨x,hx,e⟩
   ·rw [ord_same2 e];exact q
   ·rw [ord_same2 e];exact h.1 x hx
  ·split
   ·rename_i q
    rw [List.pairwise_cons,List.pairwise_cons]
    refine ⟨fun z hz => ?_,h.1,h.2⟩
    rcases List.mem_cons.1 hz with rfl|hz
    ·exact q
    ·exact ordT_trans q (h.1 z hz)
   ·rw [List.pairwise_cons]
    exact ⟨fun z hz => by rw [ord_mn];exact h.1 z hz,h.2⟩
theorem putL_perm {l : List Stp} {s : Stp} (h : ∀ y ∈ l,ordT y s ≠ 0) : (putL l s).Perm (s :: l):=by
 induction l with
 | nil => exact .refl _
 | cons y l ih =>
  simp only [putL,bef_ord,decide_eq_true_eq]
  split
  ·exact ((ih fun z hz => h z (List.mem_cons_of_mem _ hz)).cons y).trans (.swap ..)
  ·split
   ·exact .refl _
   ·have:=h y (List.mem_cons_self ..)
    have:=ordT_neg y s
    omega
def putAll (l u : List Stp) : List Stp:=u.foldl putL l
theorem putAll_len : ∀ (u l : List Stp),(putAll l u).length ≤ l.length + u.length
 | [],l => Nat.le_refl _
 | x :: u,l => by
  have h1:=putAll_len u (putL l x)
  have h2:=putL_len l x
  simp only [putAll,List.foldl_cons,List.length_cons] at *
  omega
theorem putAll_perm : ∀ (u l : List Stp),(l ++ u).Pairwise (fun x y => ordT x y ≠ 0) → (putAll l u).Perm (l ++ u)
 | [],l,_ => by rw [List.append_nil];exact .refl _
 | x :: u,l,h => by
  have hl : ∀ y ∈ l,ordT y x ≠ 0:=fun y hy => (List.pairwise_append.1 h).2.2 y hy x (List.mem_cons_self ..)
  have p:=putL_perm hl
  have e : (putL l x ++ u).Perm (l ++ x :: u):=(p.append_right u).trans (List.perm_middle.symm)
  refine (putAll_perm u (putL l x) ?_).trans e
  exact (e.pairwise_iff (fun {a b} q => by have:=ordT_neg a b;omega)).2 h
theorem putAll_asc : ∀ (u l : List Stp),ascT l → ascT (putAll l u)
 | [],l,h => h
 | x :: u,l,h => putAll_asc u (putL l x) (putL_asc h x)
theorem sortT_put {u : List Stp} (h : u.Pairwise fun x y => ordT x y ≠ 0) : sortT u = putAll [] u :=
 sortT_of (putAll_asc u [] List.Pairwise.nil) (by simpa using putAll_perm u [] (by simpa using h))
theorem put_ev (x : List Stp) (hx : x.length ≤ 1000000) (s : Stp) : Ev (fun k => spec_l3Put.f k x s.f0 s.f1 s.f2 s.f3) (putL x s):=by
 have ins : ∀ (pre v : List Stp),x = pre ++ v → (if (pre.length : Int) ≤ (x.length : Int) then (if ([] : List Stp).length + ((x.drop 0).take ((pre.length : Int).toNat - 0)).length ≤ 3518437208883 then (if (([] : List Stp) ++ ((x.drop 0).take ((pre.length : Int).toNat - 0))).length < 3518437208883 then (if (x.length : Int) ≤ (x.length : Int) then (if ((([] : List Stp) ++ ((x.drop 0).take ((pre.length : Int).toNat - 0))) ++ [(⟨s.f0,s.f1,s.f2,s.f3⟩ : Stp)]).length + ((x.drop (pre.length : Int).toNat).take (x.length - (pre.length : Int).toNat)).length ≤ 3518437208883 then (some (((([] : List Stp) ++ ((x.drop 0).take ((pre.length : Int).toNat - 0))) ++ [(⟨s.f0,s.f1,s.f2,s.f3⟩ : Stp)]) ++ ((x.drop (pre.length : Int).toNat).take (x.length - (pre.length : Int).toNat)))) else none) else none) else none) else none) else none) = some (pre ++ s :: v):=by
  intro pre v hp
  have hl : x.length = pre.length + v.length:=by rw [hp];simp
  have e1 : (x.drop 0).take ((pre.length : Int).toNat - 0) = pre:=by rw [Int.toNat_natCast,List.drop_zero,Nat.sub_zero,hp];exact List.take_left
  have e2 : (x.drop (pre.length : Int).toNat).take (x.length - (pre.length : Int).toNat) = v:=by
   rw [Int.toNat_natCast,hl,Nat.add_sub_cancel_left,hp,List.drop_left];exact List.take_length
  rw [e1,e2,if_pos (by omega),if_pos (by simp only [List.length_nil];omega),if_pos (by rw [List.nil_append];omega),if_pos (Int.le_refl _),if_pos (by simp only [List.nil_append,List.length_append,List.length_cons,List.length_nil];omega)]
  simp
 have go : ∀ (v pre : List Stp),x = pre ++ v → Ev (fun k => spec_l3Put.l0 k x (pre.length : Int) s.f0 s.f1 s.f2 s.f3) (pre ++ putL v s):=by
  intro v
  induction v with
  | nil =>
   intro pre hp
   refine Ev.step (f:=fun _ => some (pre ++ [s])) (fun k => ?_) (Ev.now _)
   simp only [spec_l3Put.l0]
   rw [if_neg (by rw [hp];simp),if_pos (Int.natCast_nonneg _)]
   exact ins pre [] hp
  | cons y v ih =>
   intro pre hp
   have hlen : x.length = pre.length + (v.length + 1):=by rw [hp];simp
   have hy : rdT x (pre.length : Int) = y:=by rw [hp,rdS_mid]
   have a0 : (pre.length : Int) < (x.length : Int):=by omega
   have wn : wrap64 ((pre.length : Int) + 1) = ((pre.length + 1 : Nat) : Int):=by rw [w64 (by omega) (by omega)];rfl
   have i1:=ih (pre ++ [y]) (by rw [hp];simp)
   rw [List.length_append,List.length_singleton] at i1
   simp only [putL]
   by_cases h1 : bef y s = true
   ·rw [if_pos h1]
    refine Ev.step (fun k => ?_) (i1.is (by simp))
    simp only [spec_l3Put.l0]
    rw [if_pos a0,if_pos (Int.natCast_nonneg _),hy,sBefore y s,h1,Option.bind_some,if_pos rfl,wn]
   ·have h1f : bef y s = false:=Bool.eq_false_iff.2 h1
    rw [if_neg h1]
    by_cases h2 : bef s y = true
    ·rw [if_pos h2]
     refine Ev.step (f:=fun _ => some (pre ++ s :: y :: v)) (fun k => ?_) (Ev.now _)
     simp only [spec_l3Put.l0]
     rw [if_pos a0,if_pos (Int.natCast_nonneg _),hy,sBefore y s,h1f,Option.bind_some,if_neg (by simp),sBefore s y,h2,Option.bind_some,if_pos rfl]
     exact ins pre (y :: v) hp
    ·have h2f : bef s y = false:=Bool.eq_false_iff.2 h2
     rw [if_neg h2]
     refine Ev.step (f:=fun _ => some (pre ++ (⟨y.f0,y.f1,y.f2,mn y.f3 s.f3⟩ : Stp) :: v)) (fun k => ?_) (Ev.now _)
     simp only [spec_l3Put.l0]
     rw [if_pos a0,if_pos (Int.natCast_nonneg _),hy,sBefore y s,h1f,Option.bind_some,if_neg (by simp),sBefore s y,h2f,Option.bind_some,if_neg (by simp),if_pos (by simp only [List.length_nil];omega),if_pos (by rw [List.nil_append];exact a0)]
     rw [List.nil_append,hy,Int.toNat_natCast,hp]
     congr 1
     rw [List.set_append_right _ _ (Nat.le_refl _),Nat.sub_self,List.set_cons_zero]
 have:=go x [] rfl
 unfold spec_l3Put.f
 exact this
abbrev At5:=Int × List Int × List Int × List Stp × Bool
def wholeR (n : Int) (s f : List Int) (t : List Stp) : At5:=if AV n s f t = true then (n,s,f,t,true) else (0,[],[],[],false)
theorem made_ev (n : Int) (s f : List Int) (t : List Stp) (hs : s.length ≤ 1000000) (hf : f.length ≤ 1000000) (ht : t.length ≤ 1000000) : Ev (fun k => impl_made.f k n s f t) (wholeR n (sortI s) (sortI f) (sortT t)):=by
 have l1:=sortI_length s
 have l2:=sortI_length f
 have l3:=sortT_length t
 unfold impl_made.f wholeR slices_Clone_int_int.f slices_Clone_impl_Step_impl_Step.f slices_Sort_int_int.f slices_SortFunc_impl_Step_impl_Step.f
 simp only [if_pos (show s.length ≤ 1000000000 from by omega),if_pos (show f.length ≤ 1000000000 from by omega),if_pos (show t.length ≤ 1000000000 from by omega),Option.bind_some]
 refine Ev.bind (iAV n (sortI s) (sortI f) (sortT t) (by omega) (by omega) (by omega)) ?_
 by_cases h : AV n (sortI s) (sortI f) (sortT t) = true
 ·exact (Ev_t h (Ev.now _)).is (if_pos h).symm
 ·exact (Ev_f h (Ev.now _)).is (if_neg h).symm
theorem AV_iff {n : Int} {s f : List Int} {t : List Stp} : AV n s f t = true ↔ (1 ≤ n ∧ n ≤ 4 ∧ t.length ≤ 24) ∧ ((∀ x ∈ s,0 ≤ x ∧ x < n) ∧ ascI s) ∧ ((∀ x ∈ f,0 ≤ x ∧ x < n) ∧ ascI f) ∧ (∀ x ∈ t,stepOk n x = true) ∧ ascT t:=by
 unfold AV
 simp only [Bool.and_eq_true,decide_eq_true_eq,mrk_asc,stp_asc]
 constructor
 ·rintro ⟨⟨⟨h1,h2,h3,_⟩,h4,h5,_⟩,h6,h7,_⟩
  exact ⟨h1,⟨h2,h3⟩,⟨h4,h5⟩,h6,h7⟩
 ·rintro ⟨h1,⟨h2,h3⟩,⟨h4,h5⟩,h6,h7⟩
  exact ⟨⟨⟨h1,h2,h3,fun y q => by cases q⟩,h4,h5,fun y q => by cases q⟩,h6,h7,fun y q => by cases q⟩
theorem asc_count {n : Int} : ∀ (l : List Int) (lo : Int),(∀ x ∈ l,lo ≤ x ∧ x < n) → ascI l → (l.length : Int) ≤ max 0 (n - lo)
 | [],lo,_,_ => by simp only [List.length_nil];omega
 | x :: l,lo,h,hs => by
  unfold ascI at hs
  rw [List.pairwise_cons] at hs
  have h0:=h x (List.mem_cons_self ..)
  have:=asc_count l (x + 1) (fun y hy => ⟨by have:=hs.1 y hy;omega,(h y (List.mem_cons_of_mem _ hy)).2⟩) hs.2
  simp only [List.length_cons]
  omega
theorem AV_len {n : Int} {s f : List Int} {t : List Stp} (h : AV n s f t = true) : s.length ≤ 4 ∧ f.length ≤ 4 ∧ t.length ≤ 24:=by
 obtain ⟨h1,⟨h2,h3⟩,⟨h4,h5⟩,h6,h7⟩:=AV_iff.1 h
 have a:=asc_count s 0 h2 h3
 have b:=asc_count f 0 h4 h5
 omega
theorem set_mid (pre : List Stp) (x y : Stp) (u : List Stp) : (pre ++ x :: u).set pre.length y = pre ++ y :: u:=by
 rw [List.set_append_right _ _ (Nat.le_refl _),Nat.sub_self,List.set_cons_zero]
theorem Ev_o {α γ : Type} {o : Option γ} {z : γ} {g : Nat → γ → Option α} {r : α} (h : o = some z) (k : Ev (fun n => g n z) r) : Ev (fun n => o.bind (g n)) r:=Ev.congr (fun n => by rw [h];rfl) k
def Sm (r : At5) : Prop:=r.2.1.length ≤ 1000000 ∧ r.2.2.1.length ≤ 1000000 ∧ r.2.2.2.1.length ≤ 1000000
theorem whole_sm {n : Int} {s f : List Int} {t : List Stp} : Sm (wholeR n s f t):=by
 unfold wholeR
 by_cases h : AV n s f t = true
 ·rw [if_pos h]
  have:=AV_len h
  exact ⟨by show s.length ≤ _;omega,by show f.length ≤ _;omega,by show t.length ≤ _;omega⟩
 ·rw [if_neg h];exact ⟨Nat.zero_le _,Nat.zero_le _,Nat.zero_le _⟩
theorem ev_list {α γ : Type} {r : γ} (t : List α) (F : List α → Nat → Option γ) (step : ∀ (pre : List α) (x : α) (v : List α),t = pre ++ x :: v → Ev (F (pre ++ [x])) r → Ev (F pre) r) (fin : Ev (F t) r) : Ev (F []) r:=by
 have go : ∀ (v pre : List α),t = pre ++ v → Ev (F pre) r:=by
  intro v
  induction v with
  | nil => intro pre h;rw [List.append_nil] at h;rw [← h];exact fin
  | cons x v ih => intro pre h;exact step pre x v h (ih (pre ++ [x]) (by rw [h];simp))
 exact go t [] rfl
theorem at_T {t pre v : List Stp} {x : Stp} (h : t = pre ++ x :: v) (hl : t.length ≤ 1000000) : (pre.length : Int) < (t.length : Int) ∧ rdT t (pre.length : Int) = x ∧ wrap64 ((pre.length : Int) + 1) = (((pre ++ [x]).length : Nat) : Int):=by
 have e : t.length = pre.length + (v.length + 1):=by rw [h];simp
 refine ⟨by omega,by rw [h,rdS_mid],?_⟩
 rw [w64 (by omega) (by omega)];simp
theorem at_I {t pre v : List Int} {x : Int} (h : t = pre ++ x :: v) (hl : t.length ≤ 1000000) : (pre.length : Int) < (t.length : Int) ∧ rdI t (pre.length : Int) = x ∧ wrap64 ((pre.length : Int) + 1) = (((pre ++ [x]).length : Nat) : Int):=by
 have e : t.length = pre.length + (v.length + 1):=by rw [h];simp
 refine ⟨by omega,by rw [h,rd_mid],?_⟩
 rw [w64 (by omega) (by omega)];simp
def noneR : At5:=(0,[],[],[],false)
theorem none_sm : Sm noneR:=⟨Nat.zero_le _,Nat.zero_le _,Nat.zero_le _⟩
theorem map_asc {g : Stp → Stp} (h : ∀ x y : Stp,ordT x y < 0 → ordT (g x) (g y) < 0) {t : List Stp} (ht : ascT t) : ascT (t.map g):=by
 unfold ascT at *
 rw [List.pairwise_map]
 exact ht.imp fun {a b} q => h a b q
theorem asc_diff {t : List Stp} (h : ascT t) : t.Pairwise fun x y => ordT x y ≠ 0:=h.imp fun {a b} q => by omega
theorem diff_map {g : Stp → Stp} {t : List Stp} (h : ∀ x ∈ t,∀ y ∈ t,ordT (g x) (g y) = 0 → ordT x y = 0) (ht : ascT t) : (t.map g).Pairwise fun x y => ordT x y ≠ 0:=by
 rw [List.pairwise_map]
 unfold ascT at ht
 refine List.Pairwise.imp_of_mem (fun {a b} ha hb q e => ?_) ht
 have:=h a ha b hb e
 omega
theorem len_flat {α β : Type} (f : α → List β) (b : Nat) : ∀ (l : List α),(∀ x ∈ l,(f x).length ≤ b) → (l.flatMap f).length ≤ b * l.length
 | [],_ => by simp
 | x :: l,h => by
  have h1:=len_flat f b l fun y hy => h y (List.mem_cons_of_mem _ hy)
  have h2:=h x (List.mem_cons_self ..)
  rw [List.flatMap_cons,List.length_append,List.length_cons,Nat.mul_succ]
  omega
def unitE (i k : Nat) : Int:=if i = k then 0 else 1000000
def oneE (i k : Nat) : Int:=if i = k then 0 else 3
theorem iUnit (n : Nat) (h1 : 1 ≤ n) (h4 : n ≤ 4) : Ev (fun k => impl_UnitMatrix.f k (n : Int)) ((n : Int),sqL n unitE,true):=by
 unfold impl_UnitMatrix.f
 refine Ev_f (by omega) (Ev_f (by omega) ?_)
 refine Ev.bind (a:=((n : Int),sqL n unitE)) ?_ (Ev.now _)
 unfold impl_filled.f
 refine filledG n h4 unitE (fun _ y0 y1 => impl_UnitMatrix_1.f y0 y1) (fun i hi k hk => ?_) (fun k p q r y z => impl_filled.l0 k p q r y z) (fun k p q r u v x y z => impl_filled.l1 k p q r u v x y z) (fun _ _ _ _ _ _ => by simp only [impl_filled.l0]) (fun _ _ _ _ _ _ _ _ _ => by simp only [impl_filled.l1])
 refine Ev.congr (f:=fun _ => some (unitE i k)) (fun _ => ?_) (Ev.now _)
 unfold impl_UnitMatrix_1.f unitE
 by_cases e : i = k
 ·subst e;rw [if_pos rfl,if_pos rfl]
 ·rw [if_neg (by omega),if_neg e]
theorem unit_MV (n : Nat) (h1 : 1 ≤ n) (h4 : n ≤ 4) : MV (n : Int) (sqL n unitE):=by
 refine ⟨by omega,by omega,?_,?_⟩
 ·unfold sqL;rw [tab_length];exact_mod_cast rfl
 ·intro x hx
  unfold sqL tab at hx
  obtain ⟨m,_,rfl⟩:=List.mem_map.mp hx
  unfold unitE
  by_cases e : m / n = m % n
  ·simp only [e,if_true];omega
  ·rw [if_neg e];omega
theorem MV_of {n : Nat} (h1 : 1 ≤ n) (h4 : n ≤ 4) (g : Nat → Nat → Int) (h : ∀ i k,i < n → k < n → 0 ≤ g i k ∧ g i k ≤ 1000000) : MV (n : Int) (sqL n g):=by
 refine ⟨by omega,by omega,?_,?_⟩
 ·unfold sqL;rw [tab_length];exact_mod_cast rfl
 ·intro x hx
  unfold sqL at hx
  obtain ⟨j,hj,rfl⟩:=mem_tab.mp hx
  exact h _ _ (Nat.div_lt_of_lt_mul hj) (Nat.mod_lt _ (by omega))
theorem MV_len {n : Nat} {l : List Int} (h : MV (n : Int) l) : l.length = n * n:=by
 have:=h.2.2.1
 exact_mod_cast this
theorem MV_at {n : Nat} {l : List Int} (h : MV (n : Int) l) (i k : Nat) (hi : i < n) (hk : k < n) : 0 ≤ l.getD (i * n + k) 0 ∧ l.getD (i * n + k) 0 ≤ 1000000:=by
 have hc:=cell_lt n i k hi hk
 have hl:=MV_len h
 rw [List.getD_eq_getElem?_getD,List.getElem?_eq_getElem (by omega)]
 exact h.2.2.2 _ (List.getElem_mem _)
theorem MV_max {n : Nat} {l : List Int} (h : MV (n : Int) l) : l.length ≤ maxLen:=by
 have h1:=h.2.1
 have:=sq_le n (by omega)
 have:=MV_len h
 rw [maxLen_eq];omega
theorem sUnit (n : Nat) (h1 : 1 ≤ n) (h4 : n ≤ 4) : Ev (fun k => spec_l2Unit.f k (n : Int)) ((n : Int),sqL n unitE):=by
 have hs:=sq_le n h4
 have e0 : wrap64 ((n : Int) * (n : Int)) = ((n * n : Nat) : Int):=by
  have : (n : Int) * (n : Int) = ((n * n : Nat) : Int):=by simp
  rw [this,w64 (by omega) (by omega)]
 refine Ev.congr (f:=fun k => spec_l2Unit.l0 k (n : Int) ((n * n : Nat) : Int) ((0 : Nat) : Int) n (tab 0 (fun m => unitE (m / n) (m % n)))) (fun k => ?_) ?_
 ·unfold spec_l2Unit.f;rw [e0];simp [tab]
 refine up_loop (n * n) (fun m k => spec_l2Unit.l0 k (n : Int) ((n * n : Nat) : Int) (m : Int) n (tab m (fun m => unitE (m / n) (m % n)))) _ (fun m hm hnext => ?_) ?_
 ·have hi : m / n < n:=Nat.div_lt_of_lt_mul hm
  have e1 : wrap64 (Int.tdiv (m : Int) (n : Int)) = ((m / n : Nat) : Int):=by
   rw [tdiv_nat]
   obtain ⟨q,hq⟩ : ∃ q : Nat,m / n = q:=⟨_,rfl⟩
   rw [hq] at hi ⊢
   exact w64 (by omega) (by omega)
  have e2 : Int.tmod (m : Int) (n : Int) = ((m % n : Nat) : Int):=tmod_nat m n
  have e : tab m (fun m => unitE (m / n) (m % n)) ++ [unitE (m / n) (m % n)] = tab (m + 1) (fun m => unitE (m / n) (m % n)):=tab_snoc m (fun m => unitE (m / n) (m % n))
  refine Ev.step (fun k => ?_) hnext
  simp only [spec_l2Unit.l0]
  rw [if_pos (by omega),if_neg (by omega),e1,e2,tab_length]
  by_cases h : m / n = m % n
  ·have hu : unitE (m / n) (m % n) = 0:=by unfold unitE;rw [if_pos h]
   rw [hu] at e
   rw [if_pos (by rw [h]),if_pos (by omega),w64 (by omega) (by omega),e];rfl
  ·have hu : unitE (m / n) (m % n) = 1000000:=by unfold unitE;rw [if_neg h]
   rw [hu] at e
   rw [if_neg (by intro g;exact h (by exact_mod_cast g)),if_pos (by omega),w64 (by omega) (by omega),e];rfl
 ·refine Ev.step (f:=fun _ => some ((n : Int),sqL n unitE)) (fun j => ?_) (Ev.now _)
  simp only [spec_l2Unit.l0]
  rw [if_neg (by omega)];rfl
def stepL (n : Nat) (c : List UInt8) (t : List Stp) (l : List Int) : List Int:=t.foldl (fun (l : List Int) (s : Stp) => if s.f1.toList = c then l.set (s.f0 * (n : Int) + s.f2).toNat s.f3 else l) l
def cst (n : Nat) : List Int:=List.replicate (n * n) 1000000
theorem stepL_len (n : Nat) (c : List UInt8) : ∀ (t : List Stp) (l : List Int),(stepL n c t l).length = l.length:=by
 intro t
 induction t with
 | nil => intro l;rfl
 | cons s t ih =>
  intro l
  show (stepL n c t (if s.f1.toList = c then l.set (s.f0 * n + s.f2).toNat s.f3 else l)).length = l.length
  rw [ih]
  by_cases h : s.f1.toList = c
  ·rw [if_pos h,List.length_set]
  ·rw [if_neg h]
theorem stp_mem {n : Int} : ∀ {t : List Stp} {p : Option Stp},stp n p t = true → ∀ x ∈ t,stepOk n x = true
 | [],_,_,x,hx => by cases hx
 | y :: t,p,h,x,hx => by
  simp only [stp,Bool.and_eq_true] at h
  rcases List.mem_cons.mp hx with rfl|hx
  ·exact h.1.1
  ·exact stp_mem h.2 x hx
theorem stepL_MV (n : Nat) (h1 : 1 ≤ n) (h4 : n ≤ 4) (c : List UInt8) : ∀ (t : List Stp) (l : List Int),(∀ x ∈ t,stepOk n x = true) → MV (n : Int) l → MV (n : Int) (stepL n c t l):=by
 intro t
 induction t with
 | nil => intro l _ h;exact h
 | cons s t ih =>
  intro l ht h
  show MV (n : Int) (stepL n c t (if s.f1.toList = c then l.set (s.f0 * n + s.f2).toNat s.f3 else l))
  refine ih _ (fun x hx => ht x (List.mem_cons_of_mem _ hx)) ?_
  by_cases e : s.f1.toList = c
  ·rw [if_pos e]
   refine ⟨h.1,h.2.1,by rw [List.length_set];exact h.2.2.1,fun x hx => ?_⟩
   rcases List.mem_or_eq_of_mem_set hx with hx|rfl
   ·exact h.2.2.2 x hx
   ·have o:=of_decide_eq_true (show decide _ = true from ht s (by simp));omega
  ·rw [if_neg e];exact h
theorem cst_MV (n : Nat) (h1 : 1 ≤ n) (h4 : n ≤ 4) : MV (n : Int) (cst n):=by
 refine ⟨by omega,by omega,?_,fun x hx => ?_⟩
 ·unfold cst;rw [List.length_replicate];exact_mod_cast rfl
 ·rw [(List.mem_replicate.mp hx).2];omega
theorem cst_sq (n : Nat) : sqL n (fun _ _ => 1000000) = cst n:=by
 unfold sqL tab cst
 rw [List.map_const',List.length_range]
theorem iStepLoop (n : Nat) (h1 : 1 ≤ n) (h4 : n ≤ 4) (s f : List Int) (x : ByteArray) (t : List Stp) (ht : ∀ y ∈ t,stepOk n y = true) (hl : t.length ≤ 1000000000) (l : List Int) (hc : l.length = n * n) :
  Ev (fun k => impl_StepMatrix.l0 k x t (t.length : Int) 0 n l) ((n : Int),stepL n x.toList t l,true):=by
 have go : ∀ (u pre : List Stp) (l : List Int),t = pre ++ u → l.length = n * n → Ev (fun k => impl_StepMatrix.l0 k x t (t.length : Int) (pre.length : Int) n l) ((n : Int),stepL n x.toList u l,true):=by
  intro u
  induction u with
  | nil =>
   intro pre l hp _
   refine Ev.step (f:=fun _ => some ((n : Int),l,true)) (fun k => ?_) (Ev.now _)
   simp only [impl_StepMatrix.l0];rw [if_neg (by rw [hp];simp)]
  | cons y u ih =>
   intro pre l hp hc
   have hlen : t.length = pre.length + (u.length + 1):=by rw [hp];simp
   have hx : rdT t (pre.length : Int) = y:=by rw [hp,rdS_mid]
   have o:=of_decide_eq_true (show decide _ = true from ht y (by rw [hp];simp))
   have c:=cellZ (n:=(n : Int)) (i:=y.f0) (k:=y.f2) (by omega) (by omega) (by omega)
   have cw:=cellW (n:=(n : Int)) (i:=y.f0) (k:=y.f2) (by omega) (by omega) (by omega)
   have hc2 : (l.length : Int) = (n : Int) * (n : Int):=by rw [hc];simp
   by_cases e : y.f1.toList = x.toList
   ·refine Ev.step (fun k => ?_) ((ih (pre ++ [y]) (l.set (y.f0 * n + y.f2).toNat y.f3) (by simp [hp]) (by rw [List.length_set];exact hc)).is ?_)
    ·simp only [impl_StepMatrix.l0]
     rw [if_pos (by omega),if_pos (by omega),if_pos (by omega),hx,if_pos e,cw,if_pos (by omega),if_pos (by omega),w64 (x:=(pre.length : Int) + 1) (by omega) (by omega),snocA]
    ·show _ = ((n : Int),stepL n x.toList u (if y.f1.toList = x.toList then l.set (y.f0 * n + y.f2).toNat y.f3 else l),true)
     rw [if_pos e]
   ·refine Ev.step (fun k => ?_) ((ih (pre ++ [y]) l (by simp [hp]) hc).is ?_)
    ·simp only [impl_StepMatrix.l0]
     rw [if_pos (by omega),if_pos (by omega),if_pos (by omega),hx,if_neg e,w64 (x:=(pre.length : Int) + 1) (by omega) (by omega),snocA]
    ·show _ = ((n : Int),stepL n x.toList u (if y.f1.toList = x.toList then l.set (y.f0 * n + y.f2).toNat y.f3 else l),true)
     rw [if_neg e]
 exact go t [] l rfl hc
theorem sStepLoop (n : Nat) (h1 : 1 ≤ n) (h4 : n ≤ 4) (s f : List Int) (x : ByteArray) (t : List Stp) (ht : ∀ y ∈ t,stepOk n y = true) (hl : t.length ≤ 1000000000) (l : List Int) (hc : l.length = n * n) :
  Ev (fun k => spec_l3Matrix.l1 k x t (t.length : Int) 0 n s f t n l) ((n : Int),stepL n x.toList t l):=by
 have go : ∀ (u pre : List Stp) (l : List Int),t = pre ++ u → l.length = n * n → Ev (fun k => spec_l3Matrix.l1 k x t (t.length : Int) (pre.length : Int) n s f t n l) ((n : Int),stepL n x.toList u l):=by
  intro u
  induction u with
  | nil =>
   intro pre l hp _
   refine Ev.step (f:=fun _ => some ((n : Int),l)) (fun k => ?_) (Ev.now _)
   simp only [spec_l3Matrix.l1];rw [if_neg (by rw [hp];simp)]
  | cons y u ih =>
   intro pre l hp hc
   have hlen : t.length = pre.length + (u.length + 1):=by rw [hp];simp
   have hx : rdT t (pre.length : Int) = y:=by rw [hp,rdS_mid]
   have o:=of_decide_eq_true (show decide _ = true from ht y (by rw [hp];simp))
   have c:=cellZ (n:=(n : Int)) (i:=y.f0) (k:=y.f2) (by omega) (by omega) (by omega)
   have cw:=cellW (n:=(n : Int)) (i:=y.f0) (k:=y.f2) (by omega) (by omega) (by omega)
   have hc2 : (l.length : Int) = (n : Int) * (n : Int):=by rw [hc];simp
   by_cases e : y.f1.toList = x.toList
   ·refine Ev.step (fun k => ?_) ((ih (pre ++ [y]) (l.set (y.f0 * n + y.f2).toNat y.f3) (by simp [hp]) (by rw [List.length_set];exact hc)).is ?_)
    ·simp only [spec_l3Matrix.l1]
     rw [if_pos (by omega),if_pos (by omega),if_pos (by omega),hx,if_pos e,cw,if_pos (by omega),if_pos (by omega),w64 (x:=(pre.length : Int) + 1) (by omega) (by omega),snocA]
    ·show _ = ((n : Int),stepL n x.toList u (if y.f1.toList = x.toList then l.set (y.f0 * n + y.f2).toNat y.f3 else l))
     rw [if_pos e]
   ·refine Ev.step (fun k => ?_) ((ih (pre ++ [y]) l (by simp [hp]) hc).is ?_)
    ·simp only [spec_l3Matrix.l1]
     rw [if_pos (by omega),if_pos (by omega),if_pos (by omega),hx,if_neg e,w64 (x:=(pre.length : Int) + 1) (by omega) (by omega),snocA]
    ·show _ = ((n : Int),stepL n x.toList u (if y.f1.toList = x.toList then l.set (y.f0 * n + y.f2).toNat y.f3 else l))
     rw [if_neg e]
 exact go t [] l rfl hc
theorem sLetter (n : Nat) (h1 : 1 ≤ n) (h4 : n ≤ 4) (s f : List Int) (x : ByteArray) (t : List Stp) (ht : ∀ y ∈ t,stepOk n y = true) (hl : t.length ≤ 1000000000) :
  Ev (fun k => spec_l3Matrix.f k n s f t x) ((n : Int),stepL n x.toList t (cst n)):=by
 have hs:=sq_le n h4
 have e0 : wrap64 ((n : Int) * (n : Int)) = ((n * n : Nat) : Int):=by
  have : (n : Int) * (n : Int) = ((n * n : Nat) : Int):=by simp
  rw [this,w64 (by omega) (by omega)]
 refine Ev.congr (f:=fun k => spec_l3Matrix.l0 k x ((n * n : Nat) : Int) ((0 : Nat) : Int) n s f t n (List.replicate 0 1000000)) (fun k => ?_) ?_
 ·unfold spec_l3Matrix.f;rw [e0];rfl
 refine up_loop (n * n) (fun m k => spec_l3Matrix.l0 k x ((n * n : Nat) : Int) (m : Int) n s f t n (List.replicate m 1000000)) _ (fun m hm hnext => ?_) ?_
 ·refine Ev.step (fun k => ?_) hnext
  simp only [spec_l3Matrix.l0]
  rw [if_pos (by omega),List.length_replicate,if_pos (by omega),w64 (by omega) (by omega),← List.replicate_succ'];rfl
 ·refine Ev.step (fun k => ?_) (sStepLoop n h1 h4 s f x t ht hl (cst n) (by unfold cst;rw [List.length_replicate]))
  simp only [spec_l3Matrix.l0]
  rw [if_neg (by omega)];rfl
theorem iLetter (n : Nat) (s f : List Int) (x : ByteArray) (t : List Stp) (hv : AV n s f t = true) (hs : s.length ≤ 1000000000) (hf : f.length ≤ 1000000000) (hl : t.length ≤ 1000000000) (hx : x.toList = ([97] : List UInt8) ∨ x.toList = ([98] : List UInt8)) :
  Ev (fun k => impl_StepMatrix.f k n s f t x) ((n : Int),stepL n x.toList t (cst n),true):=by
 obtain ⟨h1,h2,h3,h4,h5⟩:=AV_parts hv
 unfold impl_StepMatrix.f
 refine Ev.bind (iAV n s f t hs hf hl) (Ev_t hv ?_)
 have fl : Ev (fun k => impl_filled_b.f k (n : Int)) ((n : Int),cst n):=by
  unfold impl_filled_b.f
  have:=filledG n (by omega) (fun _ _ => 1000000) (fun K y0 y1 => impl_StepMatrix_1.f y0 y1) (fun i _ k _ => ev_some (fun K => rfl)) (fun k p q r y z => impl_filled_b.l0 k p q r y z) (fun k p q r u v x y z => impl_filled_b.l1 k p q r u v x y z) (fun _ _ _ _ _ _ => by simp only [impl_filled_b.l0]) (fun _ _ _ _ _ _ _ _ _ => by simp only [impl_filled_b.l1])
  rw [cst_sq] at this
  exact this
 have st:=iStepLoop n (by omega) (by omega) s f x t (stp_mem h5) hl (cst n) (by unfold cst;rw [List.length_replicate])
 by_cases e : x.toList = ([97] : List UInt8)
 ·exact Ev_t e (Ev.bind fl st)
 ·exact Ev_f e (Ev_t (hx.resolve_left e) (Ev.bind fl st))
def letL (n : Nat) (t : List Stp) (c : UInt8) : List Int:=stepL n [c] t (cst n)
theorem letL_MV (n : Nat) (h1 : 1 ≤ n) (h4 : n ≤ 4) (t : List Stp) (ht : ∀ y ∈ t,stepOk n y = true) (c : UInt8) : MV (n : Int) (letL n t c):=stepL_MV n h1 h4 [c] t (cst n) ht (cst_MV n h1 h4)
def addC (x y : Int) : Int:=mn (x + y) 1000000
def mulCE (n : Nat) (a b : List Int) (i k : Nat) : Int:=(List.range n).foldl (fun acc l => mn acc (addC (a.getD (i * n + l) 0) (b.getD (l * n + k) 0))) 1000000
def mulCL (n : Nat) (a b : List Int) : List Int:=sqL n (mulCE n a b)
theorem mn_le1 (x y : Int) : mn x y ≤ x ∧ mn x y ≤ y:=by unfold mn;by_cases h : y < x <;> simp only [h,if_true,if_false] <;> omega
theorem mn_ge {x y t : Int} (h1 : t ≤ x) (h2 : t ≤ y) : t ≤ mn x y:=by unfold mn;by_cases h : y < x <;> simp only [h,if_true,if_false] <;> omega
theorem addC_in {x y : Int} (hx : 0 ≤ x) (hy : 0 ≤ y) : 0 ≤ addC x y ∧ addC x y ≤ 1000000:=⟨mn_ge (by omega) (by omega),(mn_le1 _ _).2⟩
theorem mulCE_in {n : Nat} {a b : List Int} (ha : MV (n : Int) a) (hb : MV (n : Int) b) (i k : Nat) (hi : i < n) (hk : k < n) : 0 ≤ mulCE n a b i k ∧ mulCE n a b i k ≤ 1000000:=by
 unfold mulCE
 have go : ∀ m,m ≤ n → 0 ≤ (List.range m).foldl (fun acc l => mn acc (addC (a.getD (i * n + l) 0) (b.getD (l * n + k) 0))) 1000000 ∧ (List.range m).foldl (fun acc l => mn acc (addC (a.getD (i * n + l) 0) (b.getD (l * n + k) 0))) 1000000 ≤ 1000000:=by
  intro m
  induction m with
  | zero => intro _;exact ⟨by simp,by simp⟩
  | succ m ih =>
   intro hm
   have h:=ih (by omega)
   rw [fold_snoc]
   have c:=addC_in (MV_at ha i m hi (by omega)).1 (MV_at hb m k (by omega) hk).1
   exact ⟨mn_ge h.1 c.1,Int.le_trans (mn_le1 _ _).1 h.2⟩
 exact go n (Nat.le_refl _)
theorem mulCL_MV {n : Nat} {a b : List Int} (ha : MV (n : Int) a) (hb : MV (n : Int) b) : MV (n : Int) (mulCL n a b):=by
 have h1:=ha.1
 have h2:=ha.2.1
 exact MV_of (by omega) (by omega) _ (fun i k hi hk => mulCE_in ha hb i k hi hk)
theorem iMulCCell {n : Nat} {a b : List Int} (ha : MV (n : Int) a) (hb : MV (n : Int) b) (i k : Nat) (hi : i < n) (hk : k < n) : Ev (fun K => impl_MulMatrix_1.f K (i : Int) (k : Int) (n : Int) a (n : Int) b) (mulCE n a b i k):=by
 have hn : n ≤ 4:=by have:=ha.2.1;omega
 refine up_loop n (fun l K => impl_MulMatrix_1.l0 K i k ((List.range l).foldl (fun acc l => mn acc (addC (a.getD (i * n + l) 0) (b.getD (l * n + k) 0))) 1000000) n (l : Int) n a n b) _ (fun l hl hs => ?_) ?_
 ·refine Ev.step (fun j => ?_) hs
  have c1:=MV_at ha i l hi hl
  have c2:=MV_at hb l k hl hk
  simp only [impl_MulMatrix_1.l0,impl_AddCost.f]
  rw [if_pos (by omega),at_eq n hn a (MV_len ha) i l hi hl,Option.bind_some,at_eq n hn b (MV_len hb) l k hl hk,Option.bind_some,icost,Option.bind_some,icost,Option.bind_some,if_pos (by unfold okCost;exact decide_eq_true c1),if_pos (by unfold okCost;exact decide_eq_true c2),Option.bind_some,w64 (x:=(l : Int) + 1) (by omega) (by omega),fold_snoc]
  obtain ⟨x,hx⟩ : ∃ x,a.getD (i * n + l) 0 = x:=⟨_,rfl⟩
  obtain ⟨y,hy⟩ : ∃ y,b.getD (l * n + k) 0 = y:=⟨_,rfl⟩
  rw [hx] at c1
  rw [hy] at c2
  rw [hx,hy,w64 (x:=x + y) (by omega) (by omega)];rfl
 ·refine Ev.step (f:=fun _ => some (mulCE n a b i k)) (fun j => ?_) (Ev.now _)
  simp only [impl_MulMatrix_1.l0]
  rw [if_neg (by omega)];rfl
theorem iMulC {n : Nat} {a b : List Int} (ha : MV (n : Int) a) (hb : MV (n : Int) b) : Ev (fun k => impl_MulMatrix.f k n a n b) ((n : Int),mulCL n a b,true):=by
 have hn : n ≤ 4:=by have:=ha.2.1;omega
 unfold impl_MulMatrix.f
 have e : Ev (fun k => impl_alike.f k n a n b) true:=by
  unfold impl_alike.f
  refine Ev.bind (iMV n a (MV_max ha)) (Ev_t (decide_eq_true ha) ?_)
  refine Ev.bind (iMV n b (MV_max hb)) (Ev_t (decide_eq_true hb) ?_)
  exact (Ev.now _).is (by simp)
 refine Ev.bind e (Ev_t rfl ?_)
 refine Ev.bind (a:=((n : Int),mulCL n a b)) ?_ (Ev.now _)
 unfold impl_filled_c.f
 exact filledG n hn (mulCE n a b) (fun K y0 y1 => impl_MulMatrix_1.f K y0 y1 n a n b) (fun i hi k hk => iMulCCell ha hb i k hi hk) (fun k p q r y z => impl_filled_c.l0 k p q r n a n b y z) (fun k p q r u v x y z => impl_filled_c.l1 k p q r u v x n a n b y z) (fun _ _ _ _ _ _ => by simp only [impl_filled_c.l0]) (fun _ _ _ _ _ _ _ _ _ => by simp only [impl_filled_c.l1])
theorem sMulC {n : Nat} {a b : List Int} (ha : MV (n : Int) a) (hb : MV (n : Int) b) : Ev (fun k => spec_l2Mul.f k n a n b) ((n : Int),mulCL n a b):=by
 have hn : n ≤ 4:=by have:=ha.2.1;omega
 have h0 : 1 ≤ n:=by have:=ha.1;omega
 have hla:=MV_len ha
 have hlb:=MV_len hb
 have hs:=sq_le n hn
 have e0 : wrap64 ((n : Int) * (n : Int)) = ((n * n : Nat) : Int):=by
  have : (n : Int) * (n : Int) = ((n * n : Nat) : Int):=by simp
  rw [this,w64 (by omega) (by omega)]
 refine Ev.congr (f:=fun k => spec_l2Mul.l0 k ((n * n : Nat) : Int) ((0 : Nat) : Int) n a n b n (tab 0 (fun m => mulCE n a b (m / n) (m % n)))) (fun k => ?_) ?_
 ·unfold spec_l2Mul.f;rw [e0];simp [tab]
 refine up_loop (n * n) (fun m k => spec_l2Mul.l0 k ((n * n : Nat) : Int) (m : Int) n a n b n (tab m (fun m => mulCE n a b (m / n) (m % n)))) _ (fun m hm hnext => ?_) ?_
 ·have hi : m / n < n:=Nat.div_lt_of_lt_mul hm
  have hk : m % n < n:=Nat.mod_lt _ (by omega)
  have hB : ¬ (n : Int) = 0:=by omega
  have eq1 : wrap64 (Int.tdiv (m : Int) (n : Int)) = ((m / n : Nat) : Int):=by
   rw [tdiv_nat]
   obtain ⟨q,hq⟩ : ∃ q : Nat,m / n = q:=⟨_,rfl⟩
   rw [hq] at hi ⊢
   exact w64 (by omega) (by omega)
  have er1 : Int.tmod (m : Int) (n : Int) = ((m % n : Nat) : Int):=tmod_nat m n
  refine Ev.step (f:=fun k => spec_l2Mul.l1 k ((m / n : Nat) : Int) ((m % n : Nat) : Int) ((List.range 0).foldl (fun acc l => mn acc (addC (a.getD (m / n * n + l) 0) (b.getD (l * n + m % n) 0))) 1000000) ((n * n : Nat) : Int) m n ((0 : Nat) : Int) n a n b n (tab m (fun m => mulCE n a b (m / n) (m % n)))) (fun k => ?_) ?_
  ·simp only [spec_l2Mul.l0];rw [if_pos (by omega),if_neg hB,eq1,er1];rfl
  refine up_loop n (fun l k => spec_l2Mul.l1 k ((m / n : Nat) : Int) ((m % n : Nat) : Int) ((List.range l).foldl (fun acc l => mn acc (addC (a.getD (m / n * n + l) 0) (b.getD (l * n + m % n) 0))) 1000000) ((n * n : Nat) : Int) m n (l : Int) n a n b n (tab m (fun m => mulCE n a b (m / n) (m % n)))) _ (fun l hl hs2 => ?_) ?_
  ·refine Ev.step (fun j => ?_) hs2
   have c1:=cell_lt n (m / n) l hi hl
   have c2:=cell_lt n l (m % n) hl hk
   have hA : (l : Int) < (n : Int):=by omega
   have hC : (((m / n * n + l : Nat)) : Int) < (a.length : Int):=by rw [hla];exact_mod_cast c1
   have hD : (((l * n + m % n : Nat)) : Int) < (b.length : Int):=by rw [hlb];exact_mod_cast c2
   have hE : wrap64 ((l : Int) + 1) = ((l + 1 : Nat) : Int):=by rw [w64 (by omega) (by omega)];rfl
   have e1:=idx1 n m l hn hi hl
   have e2:=idx2 n m l hn hk hl
   rw [eq1] at e1
   rw [er1] at e2
   have d1:=MV_at ha (m / n) l hi hl
   have d2:=MV_at hb l (m % n) hl hk
   have hadd : spec_l1Add.f (a.getD (m / n * n + l) 0) (b.getD (l * n + m % n) 0) = some (addC (a.getD (m / n * n + l) 0) (b.getD (l * n + m % n) 0)):=by
    obtain ⟨x,hx⟩ : ∃ x,a.getD (m / n * n + l) 0 = x:=⟨_,rfl⟩
    obtain ⟨y,hy⟩ : ∃ y,b.getD (l * n + m % n) 0 = y:=⟨_,rfl⟩
    rw [hx] at d1
    rw [hy] at d2
    rw [hx,hy]
    unfold spec_l1Add.f addC
    rw [w64 (x:=x + y) (by omega) (by omega)]
   simp only [spec_l2Mul.l1]
   rw [if_pos hA,e1,e2,if_pos (Int.natCast_nonneg _),if_pos hC,if_pos (Int.natCast_nonneg _),if_pos hD,rd_nat,rd_nat,hadd,Option.bind_some,hE,fold_snoc]
  ·refine Ev.step (fun j => ?_) hnext
   simp only [spec_l2Mul.l1]
   rw [if_neg (by omega),tab_length,if_pos (by omega),w64 (by omega) (by omega)]
   have e : tab m (fun m => mulCE n a b (m / n) (m % n)) ++ [mulCE n a b (m / n) (m % n)] = tab (m + 1) (fun m => mulCE n a b (m / n) (m % n)):=tab_snoc m (fun m => mulCE n a b (m / n) (m % n))
   show spec_l2Mul.l0 j _ _ _ _ _ _ _ (tab m (fun m => mulCE n a b (m / n) (m % n)) ++ [mulCE n a b (m / n) (m % n)]) = _
   rw [e];rfl
 ·refine Ev.step (f:=fun _ => some ((n : Int),mulCL n a b)) (fun j => ?_) (Ev.now _)
  simp only [spec_l2Mul.l0]
  rw [if_neg (by omega)];rfl
def wordL (n : Nat) (t : List Stp) (w : List UInt8) (a : List Int) : List Int:=w.foldl (fun a c => mulCL n a (letL n t c)) a
theorem wordL_MV (n : Nat) (h1 : 1 ≤ n) (h4 : n ≤ 4) (t : List Stp) (ht : ∀ y ∈ t,stepOk n y = true) : ∀ (w : List UInt8) (a : List Int),MV (n : Int) a → MV (n : Int) (wordL n t w a)
 | [],_,h => h
 | c :: w,a,h => wordL_MV n h1 h4 t ht w _ (mulCL_MV h (letL_MV n h1 h4 t ht c))
theorem sWordLoop (n : Nat) (h1 : 1 ≤ n) (h4 : n ≤ 4) (t : List Stp) (ht : ∀ y ∈ t,stepOk n y = true) (w : ByteArray) (hw : w.size ≤ 1000) : ∀ (e u : List UInt8) (a : List Int),L w = u ++ e → e.all wOk = true → MV (n : Int) a →
  Ev (fun k => spec_l4Matrix.l0 k w w.size u.length n a n (letL n t 97) n (letL n t 98)) ((n : Int),wordL n t e a):=by
 intro e
 induction e with
 | nil =>
  intro u a h _ _
  have hz:=size_suffix h
  simp only [List.length_nil] at hz
  refine Ev.step (f:=fun _ => some ((n : Int),a)) (fun k => ?_) (Ev.now _)
  simp only [spec_l4Matrix.l0];rw [if_neg (by omega)]
 | cons c e ih =>
  intro u a h ho ha
  have hz:=size_suffix h
  simp only [List.length_cons] at hz
  have hbt:=bt_suffix h
  have hl : (u.length : Int) + 1 = (((u ++ [c]).length : Nat) : Int):=by simp
  simp only [List.all_cons,Bool.and_eq_true] at ho
  have h2:=ih (u ++ [c]) (mulCL n a (letL n t c)) (by rw [h];simp) ho.2 (mulCL_MV ha (letL_MV n h1 h4 t ht c))
  refine Ev.step (f:=fun k => (spec_l2Mul.f k n a n (letL n t c)).bind fun b => spec_l4Matrix.l0 k w w.size ((u ++ [c]).length : Int) b.1 b.2 n (letL n t 97) n (letL n t 98)) (fun k => ?_) (Ev.bind (sMulC ha (letL_MV n h1 h4 t ht c)) h2)
  simp only [spec_l4Matrix.l0]
  rw [if_pos (by omega),if_pos (by omega),if_pos (by omega),hbt,w64 (x:=(u.length : Int) + 1) (by omega) (by omega),hl]
  have hc : c = 97 ∨ c = 98:=by have:=ho.1;unfold wOk at this;simpa using this
  rcases hc with rfl|rfl
  ·rw [if_pos (show (((97 : UInt8).toNat : Nat) : Int) = 97 from rfl)]
  ·rw [if_neg (by decide)]
theorem one_letter (w : ByteArray) {u : List UInt8} {c : UInt8} {e : List UInt8} (h : L w = u ++ c :: e) : (w.extract u.length (u.length + 1)).toList = [c]:=by
 rw [toList_L,L_extract,h]
 rw [List.drop_take,List.drop_left']
 ·simp
 ·rfl
theorem iWordLoop (n : Nat) (s f : List Int) (t : List Stp) (hv : AV n s f t = true) (hs : s.length ≤ 1000000000) (hf : f.length ≤ 1000000000) (hl : t.length ≤ 1000000000) (w : ByteArray) (hw : w.size ≤ 1000) : ∀ (e u : List UInt8) (a : List Int),L w = u ++ e → e.all wOk = true → MV (n : Int) a →
  Ev (fun k => impl_WordMatrix.l0 k w w.size u.length n s f t n a) ((n : Int),wordL n t e a,true):=by
 obtain ⟨h1,h2,h3,h4,h5⟩:=AV_parts hv
 have ht:=stp_mem h5
 intro e
 induction e with
 | nil =>
  intro u a h _ _
  have hz:=size_suffix h
  simp only [List.length_nil] at hz
  refine Ev.step (f:=fun _ => some ((n : Int),a,true)) (fun k => ?_) (Ev.now _)
  simp only [impl_WordMatrix.l0];rw [if_neg (by omega)]
 | cons c e ih =>
  intro u a h ho ha
  have hz:=size_suffix h
  simp only [List.length_cons] at hz
  have hl2 : (u.length : Int) + 1 = (((u ++ [c]).length : Nat) : Int):=by simp
  simp only [List.all_cons,Bool.and_eq_true] at ho
  have hc : c = 97 ∨ c = 98:=by have:=ho.1;unfold wOk at this;simpa using this
  have hm:=letL_MV n (by omega) (by omega) t ht c
  have h2:=ih (u ++ [c]) (mulCL n a (letL n t c)) (by rw [h];simp) ho.2 (mulCL_MV ha hm)
  have e1:=one_letter w h
  have hlet : Ev (fun k => impl_StepMatrix.f k n s f t (w.extract u.length (u.length + 1))) ((n : Int),letL n t c,true):=by
   have:=iLetter n s f (w.extract u.length (u.length + 1)) t hv hs hf hl (by rw [e1];rcases hc with rfl|rfl <;> simp)
   rw [e1] at this
   exact this
  refine Ev.step (f:=fun k => (impl_StepMatrix.f k n s f t (w.extract u.length (u.length + 1))).bind fun m => (impl_MulMatrix.f k n a m.1 m.2.1).bind fun b => impl_WordMatrix.l0 k w w.size ((u ++ [c]).length : Int) n s f t b.1 b.2.1) (fun k => ?_) (Ev.bind hlet (Ev.bind (iMulC ha hm) h2))
  simp only [impl_WordMatrix.l0]
  rw [if_pos (by omega),w64 (x:=(u.length : Int) + 1) (by omega) (by omega),if_pos (by omega),if_pos (by omega),if_pos (by omega),← hl2]
  rfl
def wmR (n : Int) (s f : List Int) (t : List Stp) (w : ByteArray) : Int × List Int × Bool:=if AV n s f t = true ∧ wordB (L w) = true then (n,wordL n.toNat t (L w) (sqL n.toNat unitE),true) else (0,[],false)
theorem wordB_size {w : ByteArray} (h : wordB (L w) = true) : w.size ≤ 1000 ∧ (L w).all wOk = true:=by
 unfold wordB at h
 rw [Bool.and_eq_true,decide_eq_true_eq,← L_size] at h
 exact ⟨h.2,h.1⟩
theorem iWordM (n : Int) (s f : List Int) (t : List Stp) (w : ByteArray) (hs : s.length ≤ 1000000000) (hf : f.length ≤ 1000000000) (hl : t.length ≤ 1000000000) (hw : w.size ≤ 4000000) : Ev (fun k => impl_WordMatrix.f k n s f t w) (wmR n s f t w):=by
 have bad : ¬ (AV n s f t = true ∧ wordB (L w) = true) → wmR n s f t w = (0,[],false):=fun he => by unfold wmR;rw [if_neg he]
 unfold impl_WordMatrix.f
 refine Ev.bind (iAV n s f t hs hf hl) ?_
 by_cases g1 : AV n s f t = true
 case neg => exact Ev_f g1 ((Ev.now _).is (bad (fun h => g1 h.1)).symm)
 refine Ev_t g1 (Ev.bind (iWord_ev w hw) ?_)
 by_cases g2 : wordB (L w) = true
 case neg => exact Ev_f g2 ((Ev.now _).is (bad (fun h => g2 h.2)).symm)
 refine Ev_t g2 ?_
 obtain ⟨h1,h2,h3,h4,h5⟩:=AV_parts g1
 obtain ⟨z1,z2⟩:=wordB_size g2
 obtain ⟨m,rfl⟩ : ∃ m : Nat,n = (m : Int):=⟨n.toNat,by omega⟩
 refine Ev.bind (iUnit m (by omega) (by omega)) ?_
 refine (iWordLoop m s f t g1 hs hf hl w z1 (L w) [] (sqL m unitE) rfl z2 (unit_MV m (by omega) (by omega))).is ?_
 unfold wmR;rw [if_pos ⟨g1,g2⟩];rfl
theorem sWordMx (m : Nat) (s f : List Int) (t : List Stp) (w : ByteArray) (g1 : AV m s f t = true) (g2 : wordB (L w) = true) (hl : t.length ≤ 1000000000) : Ev (fun k => spec_l4Matrix.f k m s f t w) ((m : Int),wordL m t (L w) (sqL m unitE)):=by
 obtain ⟨h1,h2,h3,h4,h5⟩:=AV_parts g1
 obtain ⟨z1,z2⟩:=wordB_size g2
 unfold spec_l4Matrix.f
 have la : (⟨#[97]⟩ : ByteArray).toList = [97]:=by rw [toList_L];rfl
 have lb : (⟨#[98]⟩ : ByteArray).toList = [98]:=by rw [toList_L];rfl
 have a1:=sLetter m (by omega) (by omega) s f ⟨#[97]⟩ t (stp_mem h5) hl
 have a2:=sLetter m (by omega) (by omega) s f ⟨#[98]⟩ t (stp_mem h5) hl
 rw [la] at a1
 rw [lb] at a2
 refine Ev.bind (sUnit m (by omega) (by omega)) (Ev.bind a1 (Ev.bind a2 ?_))
 exact sWordLoop m (by omega) (by omega) t (stp_mem h5) w z1 (L w) [] (sqL m unitE) rfl z2 (unit_MV m (by omega) (by omega))
theorem sAsked (n : Int) (s f : List Int) (t : List Stp) (w : ByteArray) (hs : s.length ≤ 1000000000) (hf : f.length ≤ 1000000000) (hl : t.length ≤ 1000000000) (hw : w.size ≤ 4000000) : Ev (fun k => spec_l4Asked.f k n s f t w) (AV n s f t && wordB (L w)):=by
 unfold spec_l4Asked.f
 refine Ev.bind (sAV n s f t hs hf hl) ?_
 by_cases g1 : AV n s f t = true
 ·refine Ev_t g1 (Ev.bind (sWord_ev w hw) ((Ev.now _).is (by rw [g1];rfl)))
 ·refine Ev_f g1 ((Ev.now _).is (by rw [Bool.not_eq_true] at g1;rw [g1];rfl))
theorem sWordM (n : Int) (s f : List Int) (t : List Stp) (w : ByteArray) (hs : s.length ≤ 1000000000) (hf : f.length ≤ 1000000000) (hl : t.length ≤ 1000000000) (hw : w.size ≤ 4000000) : Ev (fun k => spec_WordMatrix.f k n s f t w) (wmR n s f t w):=by
 unfold spec_WordMatrix.f
 refine Ev.bind (sAsked n s f t w hs hf hl hw) ?_
 by_cases g : AV n s f t = true ∧ wordB (L w) = true
 ·obtain ⟨h1,h2,h3,h4,h5⟩:=AV_parts g.1
  obtain ⟨m,rfl⟩ : ∃ m : Nat,n = (m : Int):=⟨n.toNat,by omega⟩
  refine Ev_t (by rw [g.1,g.2];rfl) (Ev.bind (sWordMx m s f t w g.1 g.2 hl) ((Ev.now _).is ?_))
  unfold wmR;rw [if_pos g];rfl
 ·refine Ev_f (by rw [Bool.and_eq_true];exact g) ((Ev.now _).is ?_)
  unfold wmR;rw [if_neg g]
theorem wmR_len (n : Int) (s f : List Int) (t : List Stp) (w : ByteArray) : (wmR n s f t w).2.1.length ≤ 1048576:=by
 unfold wmR
 by_cases g : AV n s f t = true ∧ wordB (L w) = true
 ·rw [if_pos g]
  obtain ⟨h1,h2,h3,h4,h5⟩:=AV_parts g.1
  obtain ⟨m,rfl⟩ : ∃ m : Nat,n = (m : Int):=⟨n.toNat,by omega⟩
  have h:=wordL_MV m (by omega) (by omega) t (stp_mem h5) (L w) (sqL m unitE) (unit_MV m (by omega) (by omega))
  have:=MV_len h
  have:=sq_le m (by omega)
  show (wordL m t (L w) (sqL m unitE)).length ≤ 1048576
  omega
 ·rw [if_neg g];decide
theorem le_mn {x a b : Int} : x ≤ mn a b ↔ x ≤ a ∧ x ≤ b:=⟨fun h => ⟨by have:=(mn_le1 a b).1;omega,by have:=(mn_le1 a b).2;omega⟩,fun h => mn_ge h.1 h.2⟩
theorem le_foldmn (f : Nat → Int) (x : Int) : ∀ (ls : List Nat) (acc : Int),x ≤ ls.foldl (fun a l => mn a (f l)) acc ↔ x ≤ acc ∧ ∀ l ∈ ls,x ≤ f l
 | [],acc => by simp
 | l :: ls,acc => by
  rw [List.foldl_cons,le_foldmn f x ls,le_mn]
  constructor
  ·rintro ⟨⟨h1,h2⟩,h3⟩
   exact ⟨h1,fun y hy => by rcases List.mem_cons.1 hy with rfl|h;exact h2;exact h3 y h⟩
  ·rintro ⟨h1,h2⟩
   exact ⟨⟨h1,h2 l (List.mem_cons_self ..)⟩,fun y hy => h2 y (List.mem_cons_of_mem _ hy)⟩
theorem eq_le' {a b : Int} (h : ∀ x,x ≤ a ↔ x ≤ b) : a = b:=Int.le_antisymm ((h a).1 (Int.le_refl a)) ((h b).2 (Int.le_refl b))
def mvE (n : Nat) (a v : List Int) (p : Nat) : Int:=(List.range n).foldl (fun acc l => mn acc (addC (a.getD (p * n + l) 0) (v.getD l 0))) 1000000
def mvL (n : Nat) (a v : List Int) : List Int:=(List.range n).map (mvE n a v)
theorem le_mvE {n : Nat} {a v : List Int} {p : Nat} {x : Int} : x ≤ mvE n a v p ↔ x ≤ 1000000 ∧ ∀ l,l < n → x ≤ a.getD (p * n + l) 0 + v.getD l 0:=by
 unfold mvE
 rw [le_foldmn (fun l => addC (a.getD (p * n + l) 0) (v.getD l 0))]
 constructor
 ·rintro ⟨h1,h2⟩
  exact ⟨h1,fun l hl => (le_mn.1 (h2 l (List.mem_range.2 hl))).1⟩
 ·rintro ⟨h1,h2⟩
  exact ⟨h1,fun l hl => le_mn.2 ⟨h2 l (List.mem_range.1 hl),h1⟩⟩
theorem le_mulCE {n : Nat} {a b : List Int} {i k : Nat} {x : Int} : x ≤ mulCE n a b i k ↔ x ≤ 1000000 ∧ ∀ l,l < n → x ≤ a.getD (i * n + l) 0 + b.getD (l * n + k) 0:=by
 unfold mulCE
 rw [le_foldmn (fun l => addC (a.getD (i * n + l) 0) (b.getD (l * n + k) 0))]
 constructor
 ·rintro ⟨h1,h2⟩
  exact ⟨h1,fun l hl => (le_mn.1 (h2 l (List.mem_range.2 hl))).1⟩
 ·rintro ⟨h1,h2⟩
  exact ⟨h1,fun l hl => le_mn.2 ⟨h2 l (List.mem_range.1 hl),h1⟩⟩
theorem mvL_get (n : Nat) (a v : List Int) (p : Nat) (hp : p < n) : (mvL n a v).getD p 0 = mvE n a v p:=by
 unfold mvL
 rw [List.getD_eq_getElem?_getD,List.getElem?_map,List.getElem?_range hp]
 rfl
theorem mv_mul {n : Nat} {a b v : List Int} (ha : MV (n : Int) a) (hb : MV (n : Int) b) (hv : ∀ l,l < n → 0 ≤ v.getD l 0) (p : Nat) (hp : p < n) : mvE n (mulCL n a b) v p = mvE n a (mvL n b v) p:=by
 refine eq_le' fun x => ?_
 rw [le_mvE,le_mvE]
 constructor
 ·rintro ⟨h1,h2⟩
  refine ⟨h1,fun l hl => ?_⟩
  rw [mvL_get n b v l hl]
  have ha0:=MV_at ha p l hp hl
  have : x - a.getD (p * n + l) 0 ≤ mvE n b v l:=by
   refine le_mvE.2 ⟨by omega,fun k hk => ?_⟩
   have h3:=h2 k hk
   unfold mulCL at h3
   rw [sqL_get n _ p k hp hk] at h3
   have h4 : x - v.getD k 0 ≤ mulCE n a b p k:=by omega
   have:=(le_mulCE.1 h4).2 l hl
   omega
  omega
 ·rintro ⟨h1,h2⟩
  refine ⟨h1,fun k hk => ?_⟩
  unfold mulCL
  rw [sqL_get n _ p k hp hk]
  have hv0:=hv k hk
  have : x - v.getD k 0 ≤ mulCE n a b p k:=by
   refine le_mulCE.2 ⟨by omega,fun l hl => ?_⟩
   have h3:=h2 l hl
   rw [mvL_get n b v l hl] at h3
   have h4 : x - a.getD (p * n + l) 0 ≤ mvE n b v l:=by omega
   have:=(le_mvE.1 h4).2 k hk
   omega
  omega
theorem mvL_mul {n : Nat} {a b v : List Int} (ha : MV (n : Int) a) (hb : MV (n : Int) b) (hv : ∀ l,l < n → 0 ≤ v.getD l 0) : mvL n (mulCL n a b) v = mvL n a (mvL n b v):=by
 unfold mvL
 refine List.map_congr_left fun p hp => ?_
 exact mv_mul ha hb hv p (List.mem_range.1 hp)
theorem mvE_in {n : Nat} {a v : List Int} (ha : MV (n : Int) a) (hv : ∀ l,l < n → 0 ≤ v.getD l 0) (p : Nat) (hp : p < n) : 0 ≤ mvE n a v p ∧ mvE n a v p ≤ 1000000:=by
 refine ⟨le_mvE.2 ⟨by omega,fun l hl => ?_⟩,(le_mvE.1 (Int.le_refl _)).1⟩
 have h1:=MV_at ha p l hp hl
 have h2:=hv l hl
 omega
def colL (n : Nat) (t : List Stp) : List UInt8 → List Int → List Int
 | [],v => v
 | c :: w,v => mvL n (letL n t c) (colL n t w v)
theorem mvL_in {n : Nat} {a v : List Int} (ha : MV (n : Int) a) (hv : ∀ l,l < n → 0 ≤ v.getD l 0) : ∀ l,l < n → 0 ≤ (mvL n a v).getD l 0 ∧ (mvL n a v).getD l 0 ≤ 1000000:=by
 intro l hl
 rw [mvL_get n a v l hl]
 exact mvE_in ha hv l hl
theorem colL_in (n : Nat) (h1 : 1 ≤ n) (h4 : n ≤ 4) (t : List Stp) (ht : ∀ y ∈ t,stepOk n y = true) : ∀ (w : List UInt8) (v : List Int),(∀ l,l < n → 0 ≤ v.getD l 0) → ∀ l,l < n → 0 ≤ (colL n t w v).getD l 0
 | [],v,hv => hv
 | c :: w,v,hv => fun l hl => (mvL_in (letL_MV n h1 h4 t ht c) (colL_in n h1 h4 t ht w v hv) l hl).1
theorem word_col (n : Nat) (h1 : 1 ≤ n) (h4 : n ≤ 4) (t : List Stp) (ht : ∀ y ∈ t,stepOk n y = true) (v : List Int) (hv : ∀ l,l < n → 0 ≤ v.getD l 0) : ∀ (w : List UInt8) (a : List Int),MV (n : Int) a → mvL n (wordL n t w a) v = mvL n a (colL n t w v)
 | [],a,_ => rfl
 | c :: w,a,ha => by
  have hc:=letL_MV n h1 h4 t ht c
  show mvL n (wordL n t w (mulCL n a (letL n t c))) v = _
  rw [word_col n h1 h4 t ht v hv w _ (mulCL_MV ha hc)]
  exact mvL_mul ha hc (colL_in n h1 h4 t ht w v hv)
theorem unit_col (n : Nat) (v : List Int) (hl : v.length = n) (hv : ∀ l,l < n → 0 ≤ v.getD l 0 ∧ v.getD l 0 ≤ 1000000) : mvL n (sqL n unitE) v = v:=by
 apply List.ext_getElem?
 intro p
 by_cases hp : p < n
 ·have e1:=mvL_get n (sqL n unitE) v p hp
  have : mvE n (sqL n unitE) v p = v.getD p 0:=by
   refine eq_le' fun x => ?_
   rw [le_mvE]
   constructor
   ·rintro ⟨_,h2⟩
    have:=h2 p hp
    rw [sqL_get n _ p p hp hp] at this
    simp [unitE] at this
    simpa using this
   ·intro h
    have hp1:=hv p hp
    refine ⟨by omega,fun l hl => ?_⟩
    rw [sqL_get n _ p l hp hl]
    have h3:=hv l hl
    unfold unitE
    by_cases e : p = l
    ·subst e;simp;simpa using h
    ·simp [e];simp at h h3 hp1;omega
  rw [this] at e1
  have l1 : (mvL n (sqL n unitE) v).length = n:=by simp [mvL]
  rw [List.getElem?_eq_getElem (by omega),List.getElem?_eq_getElem (by omega)]
  simp only [List.getD_eq_getElem?_getD,List.getElem?_eq_getElem (show p < (mvL n (sqL n unitE) v).length by omega),List.getElem?_eq_getElem (show p < v.length by omega),Option.getD_some] at e1
  rw [e1]
 ·rw [List.getElem?_eq_none (by simp [mvL];omega),List.getElem?_eq_none (by omega)]
def endL (c : List UInt8) (t : List Stp) (v nx : List Int) : List Int:=t.foldl (fun (nx : List Int) (s : Stp) => if s.f1.toList = c then nx.set s.f0.toNat (mn (nx.getD s.f0.toNat 0) (s.f3 + v.getD s.f2.toNat 0)) else nx) nx
theorem endL_len (c : List UInt8) (v : List Int) : ∀ (t : List Stp) (nx : List Int),(endL c t v nx).length = nx.length
 | [],nx => rfl
 | s :: t,nx => by
  show (endL c t v (if s.f1.toList = c then nx.set s.f0.toNat (mn (nx.getD s.f0.toNat 0) (s.f3 + v.getD s.f2.toNat 0)) else nx)).length = nx.length
  rw [endL_len c v t]
  by_cases h : s.f1.toList = c
  ·rw [if_pos h,List.length_set]
  ·rw [if_neg h]
theorem getD_set' (l : List Int) (i j : Nat) (x : Int) (hj : j < l.length) : (l.set i x).getD j 0 = if i = j then x else l.getD j 0:=by
 simp only [List.getD_eq_getElem?_getD,List.getElem?_set]
 by_cases h : i = j
 ·subst h;simp [hj]
 ·simp [h]
theorem le_endL (c : List UInt8) (v : List Int) (x : Int) (p : Nat) : ∀ (t : List Stp) (nx : List Int),p < nx.length → (x ≤ (endL c t v nx).getD p 0 ↔ x ≤ nx.getD p 0 ∧ ∀ s ∈ t,s.f1.toList = c → s.f0.toNat = p → x ≤ s.f3 + v.getD s.f2.toNat 0)
 | [],nx,_ => by
  show x ≤ nx.getD p 0 ↔ _
  exact ⟨fun h => ⟨h,fun s hs => by cases hs⟩,fun h => h.1⟩
 | s :: t,nx,hp => by
  show x ≤ (endL c t v (if s.f1.toList = c then nx.set s.f0.toNat (mn (nx.getD s.f0.toNat 0) (s.f3 + v.getD s.f2.toNat 0)) else nx)).getD p 0 ↔ _
  have key : x ≤ (if s.f1.toList = c then nx.set s.f0.toNat (mn (nx.getD s.f0.toNat 0) (s.f3 + v.getD s.f2.toNat 0)) else nx).getD p 0 ↔ x ≤ nx.getD p 0 ∧ (s.f1.toList = c → s.f0.toNat = p → x ≤ s.f3 + v.getD s.f2.toNat 0):=by
   by_cases h : s.f1.toList = c
   ·rw [if_pos h,getD_set' _ _ _ _ hp]
    by_cases e : s.f0.toNat = p
    ·rw [if_pos e,le_mn,e]
     exact ⟨fun q => ⟨q.1,fun _ _ => q.2⟩,fun q => ⟨q.1,q.2 h rfl⟩⟩
    ·rw [if_neg e]
     exact ⟨fun q => ⟨q,fun _ e' => absurd e' e⟩,fun q => q.1⟩
   ·rw [if_neg h]
    exact ⟨fun q => ⟨q,fun h' => absurd h' h⟩,fun q => q.1⟩
  rw [le_endL c v x p t _ (by by_cases h : s.f1.toList = c <;> simp [h,hp]),key]
  constructor
  ·rintro ⟨⟨h1,h2⟩,h3⟩
   refine ⟨h1,fun y hy => ?_⟩
   rcases List.mem_cons.1 hy with rfl|hy
   ·exact h2
   ·exact h3 y hy
  ·rintro ⟨h1,h2⟩
   exact ⟨⟨h1,h2 s (List.mem_cons_self ..)⟩,fun y hy => h2 y (List.mem_cons_of_mem _ hy)⟩
def num (s : Stp) : Int:=s.f0 * 8 + (if s.f1.toList = ([97] : List UInt8) then 0 else 4) + s.f2
theorem bef_num {n : Int} (h4 : n ≤ 4) {x y : Stp} (hx : stepOk n x = true) (hy : stepOk n y = true) (h : bef x y = true) : num x < num y:=by
 have ox:=of_decide_eq_true hx
 have oy:=of_decide_eq_true hy
 obtain ⟨x1,x2,x3,x4,x5,x6,x7⟩:=ox
 obtain ⟨y1,y2,y3,y4,y5,y6,y7⟩:=oy
 unfold bef at h
 unfold num
 by_cases e : x.f0 = y.f0
 ·rw [if_pos e] at h
  rcases x7 with q1|q1 <;> rcases y7 with q2|q2 <;> rw [q1,q2] at h ⊢
  ·have h:=of_decide_eq_true (show decide (x.f2 < y.f2) = true from h)
   omega
  ·have r1 : (if ([97] : List UInt8) = [97] then (0 : Int) else 4) = 0:=if_pos rfl
   have r2 : (if ([98] : List UInt8) = [97] then (0 : Int) else 4) = 4:=if_neg (by decide)
   rw [r1,r2];omega
  ·rw [if_neg (by decide)] at h
   exact absurd h (by decide)
  ·have h:=of_decide_eq_true (show decide (x.f2 < y.f2) = true from h)
   omega
 ·rw [if_neg e] at h
  have h:=of_decide_eq_true h
  have b : ∀ (s : Stp),(0 : Int) ≤ (if s.f1.toList = ([97] : List UInt8) then (0 : Int) else 4) ∧ (if s.f1.toList = ([97] : List UInt8) then (0 : Int) else 4) ≤ 4:=fun s => by split <;> omega
  have bx:=b x
  have bY:=b y
  omega
theorem stp_lt {n : Int} (h4 : n ≤ 4) : ∀ {t : List Stp} {y : Stp},stepOk n y = true → stp n (some y) t = true → ∀ x ∈ t,num y < num x
 | [],_,_,_,x,hx => by cases hx
 | z :: t,y,hy,h,x,hx => by
  simp only [stp,Bool.and_eq_true] at h
  have h1:=bef_num h4 hy h.1.1 h.1.2
  rcases List.mem_cons.mp hx with rfl|hx
  ·exact h1
  ·exact Int.lt_trans h1 (stp_lt h4 h.1.1 h.2 x hx)
theorem stp_uniq {n : Int} (h4 : n ≤ 4) : ∀ {t : List Stp} {p : Option Stp},stp n p t = true → ∀ x ∈ t,∀ y ∈ t,num x = num y → x = y
 | [],_,_,x,hx,_,_,_ => by cases hx
 | z :: t,p,h,x,hx,y,hy,e => by
  simp only [stp,Bool.and_eq_true] at h
  rcases List.mem_cons.mp hx with ex|hx' <;> rcases List.mem_cons.mp hy with ey|hy'
  ·rw [ex,ey]
  ·rw [ex] at e;have:=stp_lt h4 h.1.1 h.2 y hy';omega
  ·rw [ey] at e;have:=stp_lt h4 h.1.1 h.2 x hx';omega
  ·exact stp_uniq h4 h.2 x hx' y hy' e
theorem stepL_get (n : Nat) (c : List UInt8) (p q : Nat) (hp : p < n) (hq : q < n) : ∀ (t : List Stp) (l : List Int),l.length = n * n → (∀ y ∈ t,stepOk n y = true) →
  (∃ s ∈ t,s.f1.toList = c ∧ s.f0.toNat = p ∧ s.f2.toNat = q ∧ (stepL n c t l).getD (p * n + q) 0 = s.f3) ∨ ((∀ s ∈ t,s.f1.toList = c → s.f0.toNat = p → s.f2.toNat = q → False) ∧ (stepL n c t l).getD (p * n + q) 0 = l.getD (p * n + q) 0)
 | [],l,_,_ => .inr ⟨fun s hs => (by cases hs),rfl⟩
 | s :: t,l,hl,ht => by
  have hlt : p * n + q < n * n:=by
   have : (p + 1) * n ≤ n * n:=Nat.mul_le_mul_right n hp
   rw [Nat.succ_mul] at this;omega
  have e : stepL n c (s :: t) l = stepL n c t (if s.f1.toList = c then l.set (s.f0 * (n : Int) + s.f2).toNat s.f3 else l):=rfl
  rw [e]
  have hl' : (if s.f1.toList = c then l.set (s.f0 * (n : Int) + s.f2).toNat s.f3 else l).length = n * n:=by by_cases h : s.f1.toList = c <;> simp [h,hl]
  rcases stepL_get n c p q hp hq t _ hl' (fun y hy => ht y (List.mem_cons_of_mem _ hy)) with ⟨y,hy,h⟩ | ⟨h1,h2⟩
  ·exact .inl ⟨y,List.mem_cons_of_mem _ hy,h⟩
  ·rw [h2]
   have os:=of_decide_eq_true (show decide _ = true from ht s (List.mem_cons_self ..))
   have e1 : (s.f0 * (n : Int) + s.f2).toNat = s.f0.toNat * n + s.f2.toNat:=by
    obtain ⟨m0,f0⟩ : ∃ m : Nat,s.f0 = (m : Int):=⟨s.f0.toNat,by omega⟩
    obtain ⟨m2,f2⟩ : ∃ m : Nat,s.f2 = (m : Int):=⟨s.f2.toNat,by omega⟩
    rw [f0,f2]
    have : ((m0 : Int) * (n : Int) + (m2 : Int)) = ((m0 * n + m2 : Nat) : Int):=by push_cast;rfl
    rw [this]
    simp only [Int.toNat_natCast]
   by_cases hc : s.f1.toList = c
   ·rw [if_pos hc,getD_set' _ _ _ _ (by omega),e1]
    by_cases k : s.f0.toNat = p ∧ s.f2.toNat = q
    ·obtain ⟨k1,k2⟩:=k
     exact .inl ⟨s,List.mem_cons_self ..,hc,k1,k2,by rw [k1,k2,if_pos rfl]⟩
    ·have hne : ¬ s.f0.toNat * n + s.f2.toNat = p * n + q:=by
      intro hh
      have hq2 : s.f2.toNat < n:=by omega
      have d1 : (s.f0.toNat * n + s.f2.toNat) / n = s.f0.toNat:=by rw [Nat.mul_comm,Nat.mul_add_div (by omega),Nat.div_eq_of_lt hq2];rfl
      have d2 : (p * n + q) / n = p:=by rw [Nat.mul_comm,Nat.mul_add_div (by omega),Nat.div_eq_of_lt hq];rfl
      have e0 : s.f0.toNat = p:=by rw [← d1,hh,d2]
      exact k ⟨e0,by rw [e0] at hh;omega⟩
     rw [if_neg hne]
     refine .inr ⟨fun y hy a b d => ?_,rfl⟩
     rcases List.mem_cons.mp hy with rfl|hy
     ·exact k ⟨b,d⟩
     ·exact h1 y hy a b d
   ·rw [if_neg hc]
    refine .inr ⟨fun y hy a b d => ?_,rfl⟩
    rcases List.mem_cons.mp hy with rfl|hy
    ·exact hc a
    ·exact h1 y hy a b d
theorem col_step (n : Nat) (h4 : n ≤ 4) (t : List Stp) (hs : stp (n : Int) none t = true) (c : UInt8) (v : List Int) (hv : ∀ l,l < n → 0 ≤ v.getD l 0) : mvL n (letL n t c) v = endL [c] t v (List.replicate n 1000000):=by
 have ht:=stp_mem hs
 have lenE : (endL [c] t v (List.replicate n 1000000)).length = n:=by rw [endL_len,List.length_replicate]
 have lenM : (mvL n (letL n t c) v).length = n:=by simp [mvL]
 apply List.ext_getElem (by rw [lenE,lenM])
 intro p hp1 hp2
 have hp : p < n:=by omega
 have key : (mvL n (letL n t c) v).getD p 0 = (endL [c] t v (List.replicate n 1000000)).getD p 0:=by
  rw [mvL_get n _ v p hp]
  refine eq_le' fun x => ?_
  rw [le_mvE,le_endL [c] v x p t _ (by rw [List.length_replicate];exact hp)]
  have e0 : (List.replicate n (1000000 : Int)).getD p 0 = 1000000:=by simp [List.getD_eq_getElem?_getD,hp]
  rw [e0]
  have hcst : (cst n).length = n * n:=by unfold cst;rw [List.length_replicate]
  constructor
  ·rintro ⟨h1,h2⟩
   refine ⟨h1,fun s hs' hc hf => ?_⟩
   have os:=of_decide_eq_true (show decide _ = true from ht s hs')
   have hq : s.f2.toNat < n:=by omega
   have h3:=h2 s.f2.toNat hq
   have : (letL n t c).getD (p * n + s.f2.toNat) 0 = s.f3:=by
    rcases stepL_get n [c] p s.f2.toNat hp hq t (cst n) hcst ht with ⟨y,hy,a,b,d,e⟩ | ⟨hn,_⟩
    ·have oy:=of_decide_eq_true (show decide _ = true from ht y hy)
     have : y = s:=stp_uniq (by omega) hs y hy s hs' (by unfold num;rw [a,hc,show y.f0 = s.f0 from (by omega),show y.f2 = s.f2 from (by omega)])
     unfold letL
     rw [e,this]
    ·exact (hn s hs' hc hf rfl).elim
   rw [this] at h3
   exact h3
  ·rintro ⟨h1,h2⟩
   refine ⟨h1,fun q hq => ?_⟩
   have v0:=hv q hq
   rcases stepL_get n [c] p q hp hq t (cst n) hcst ht with ⟨y,hy,a,b,d,e⟩ | ⟨_,e⟩
   ·unfold letL
    rw [e,← d]
    exact h2 y hy a b
   ·unfold letL
    rw [e]
    have hlt : p * n + q < n * n:=by
     have : (p + 1) * n ≤ n * n:=Nat.mul_le_mul_right n hp
     rw [Nat.succ_mul] at this;omega
    have : (cst n).getD (p * n + q) 0 = 1000000:=by unfold cst;simp [List.getD_eq_getElem?_getD,hlt]
    rw [this];omega
 simpa [List.getD_eq_getElem?_getD,hp1,hp2] using key
def finL (n : Nat) (f : List Int) : List Int:=f.foldl (fun (v : List Int) (q : Int) => v.set q.toNat 0) (List.replicate n 1000000)
theorem fin_get (l : Nat) : ∀ (f : List Int) (v : List Int),l < v.length → (f.foldl (fun (v : List Int) (q : Int) => v.set q.toNat 0) v).length = v.length ∧ (((∃ q ∈ f,q.toNat = l) ∧ (f.foldl (fun (v : List Int) (q : Int) => v.set q.toNat 0) v).getD l 0 = 0) ∨ ((∀ q ∈ f,q.toNat = l → False) ∧ (f.foldl (fun (v : List Int) (q : Int) => v.set q.toNat 0) v).getD l 0 = v.getD l 0) ∨ ((∃ q ∈ f,q.toNat = l) ∧ False))
 | [],v,_ => ⟨rfl,.inr (.inl ⟨fun q hq => (by cases hq),rfl⟩)⟩
 | q :: f,v,hl => by
  have ih:=fin_get l f (v.set q.toNat 0) (by rw [List.length_set];exact hl)
  rw [List.foldl_cons]
  refine ⟨by rw [ih.1,List.length_set],?_⟩
  rcases ih.2 with ⟨⟨y,hy,e⟩,h⟩ | ⟨h1,h2⟩ | ⟨_,h⟩
  ·exact .inl ⟨⟨y,List.mem_cons_of_mem _ hy,e⟩,h⟩
  ·by_cases e : q.toNat = l
   ·refine .inl ⟨⟨q,List.mem_cons_self ..,e⟩,?_⟩
    rw [h2,getD_set' _ _ _ _ hl,if_pos e]
   ·refine .inr (.inl ⟨fun y hy e' => ?_,?_⟩)
    ·rcases List.mem_cons.mp hy with ey|hy
     ·rw [ey] at e';exact e e'
     ·exact h1 y hy e'
    ·rw [h2,getD_set' _ _ _ _ hl,if_neg e]
  ·exact h.elim
theorem finL_len (n : Nat) (f : List Int) (h : 1 ≤ n) : (finL n f).length = n:=by
 have:=(fin_get 0 f (List.replicate n 1000000) (by rw [List.length_replicate];omega)).1
 rw [List.length_replicate] at this;exact this
theorem finL_get (n : Nat) (f : List Int) (l : Nat) (hl : l < n) : ((∃ q ∈ f,q.toNat = l) ∧ (finL n f).getD l 0 = 0) ∨ ((∀ q ∈ f,q.toNat = l → False) ∧ (finL n f).getD l 0 = 1000000):=by
 rcases (fin_get l f (List.replicate n 1000000) (by rw [List.length_replicate];exact hl)).2 with h | ⟨h1,h2⟩ | ⟨_,h⟩
 ·exact .inl h
 ·refine .inr ⟨h1,?_⟩
  show (f.foldl (fun (v : List Int) (q : Int) => v.set q.toNat 0) (List.replicate n 1000000)).getD l 0 = _
  rw [h2];simp [List.getD_eq_getElem?_getD,hl]
 ·exact h.elim
theorem finL_in (n : Nat) (f : List Int) (l : Nat) (hl : l < n) : 0 ≤ (finL n f).getD l 0 ∧ (finL n f).getD l 0 ≤ 1000000:=by
 rcases finL_get n f l hl with ⟨_,h⟩ | ⟨_,h⟩ <;> rw [h] <;> omega
def leastL (n : Nat) (s f d : List Int) : Int:=s.foldl (fun acc p => f.foldl (fun acc q => mn acc (d.getD (p.toNat * n + q.toNat) 0)) acc) 1000000
def costL (s v : List Int) : Int:=s.foldl (fun acc p => mn acc (v.getD p.toNat 0)) 1000000
theorem le_foldI (g : Int → Int) (x : Int) : ∀ (ls : List Int) (acc : Int),x ≤ ls.foldl (fun a l => mn a (g l)) acc ↔ x ≤ acc ∧ ∀ l ∈ ls,x ≤ g l
 | [],acc => by simp
 | l :: ls,acc => by
  rw [List.foldl_cons,le_foldI g x ls,le_mn]
  constructor
  ·rintro ⟨⟨h1,h2⟩,h3⟩
   exact ⟨h1,fun y hy => by rcases List.mem_cons.1 hy with rfl|h;exact h2;exact h3 y h⟩
  ·rintro ⟨h1,h2⟩
   exact ⟨⟨h1,h2 l (List.mem_cons_self ..)⟩,fun y hy => h2 y (List.mem_cons_of_mem _ hy)⟩
theorem le_foldI2 (f : List Int) (g : Int → Int → Int) (x : Int) : ∀ (ls : List Int) (acc : Int),x ≤ ls.foldl (fun a l => f.foldl (fun a q => mn a (g l q)) a) acc ↔ x ≤ acc ∧ ∀ l ∈ ls,∀ q ∈ f,x ≤ g l q
 | [],acc => by simp
 | l :: ls,acc => by
  rw [List.foldl_cons,le_foldI2 f g x ls,le_foldI]
  constructor
  ·rintro ⟨⟨h1,h2⟩,h3⟩
   exact ⟨h1,fun y hy => by rcases List.mem_cons.1 hy with rfl|h;exact h2;exact h3 y h⟩
  ·rintro ⟨h1,h2⟩
   exact ⟨⟨h1,h2 l (List.mem_cons_self ..)⟩,fun y hy => h2 y (List.mem_cons_of_mem _ hy)⟩
theorem least_cost (n : Nat) (s f d : List Int) (hs : ∀ p ∈ s,p.toNat < n) (hf : ∀ q ∈ f,q.toNat < n) (hd : MV (n : Int) d) : leastL n s f d = costL s (mvL n d (finL n f)):=by
 refine eq_le' fun x => ?_
 unfold leastL costL
 rw [le_foldI2 f (fun p q => d.getD (p.toNat * n + q.toNat) 0),le_foldI (fun p => (mvL n d (finL n f)).getD p.toNat 0)]
 constructor
 ·rintro ⟨h1,h2⟩
  refine ⟨h1,fun p hp => ?_⟩
  show x ≤ (mvL n d (finL n f)).getD p.toNat 0
  rw [mvL_get n d _ _ (hs p hp),le_mvE]
  refine ⟨h1,fun l hl => ?_⟩
  have d0:=MV_at hd p.toNat l (hs p hp) hl
  rcases finL_get n f l hl with ⟨⟨q,hq,e⟩,h⟩ | ⟨_,h⟩
  ·have h3:=h2 p hp q hq
   simp only [e] at h3
   rw [h];omega
  ·rw [h];omega
 ·rintro ⟨h1,h2⟩
  refine ⟨h1,fun p hp q hq => ?_⟩
  have h3:=h2 p hp
  have h3 : x ≤ (mvL n d (finL n f)).getD p.toNat 0:=h3
  rw [mvL_get n d _ _ (hs p hp),le_mvE] at h3
  have h4:=h3.2 q.toNat (hf q hq)
  rcases finL_get n f q.toNat (hf q hq) with ⟨_,h⟩ | ⟨hn,_⟩
  ·rw [h] at h4;simpa using h4
  ·exact (hn q hq rfl).elim
theorem col_full (n : Nat) (h1 : 1 ≤ n) (h4 : n ≤ 4) (t : List Stp) (ht : ∀ y ∈ t,stepOk n y = true) (f : List Int) : ∀ (w : List UInt8),(colL n t w (finL n f)).length = n ∧ ∀ l,l < n → 0 ≤ (colL n t w (finL n f)).getD l 0 ∧ (colL n t w (finL n f)).getD l 0 ≤ 1000000
 | [] => ⟨finL_len n f h1,fun l hl => finL_in n f l hl⟩
 | c :: w => ⟨by simp [colL,mvL],fun l hl => mvL_in (letL_MV n h1 h4 t ht c) (fun l hl => ((col_full n h1 h4 t ht f w).2 l hl).1) l hl⟩
theorem cost_word (n : Nat) (h1 : 1 ≤ n) (h4 : n ≤ 4) (s f : List Int) (t : List Stp) (ht : ∀ y ∈ t,stepOk n y = true) (hs : ∀ p ∈ s,p.toNat < n) (hf : ∀ q ∈ f,q.toNat < n) (hu : MV (n : Int) (sqL n unitE)) (w : List UInt8) : leastL n s f (wordL n t w (sqL n unitE)) = costL s (colL n t w (finL n f)):=by
 rw [least_cost n s f _ hs hf (wordL_MV n h1 h4 t ht w _ hu),word_col n h1 h4 t ht _ (fun l hl => (finL_in n f l hl).1) w _ hu,unit_col n _ (col_full n h1 h4 t ht f w).1 (col_full n h1 h4 t ht f w).2]
theorem sLeast (n : Nat) (h1 : 1 ≤ n) (h4 : n ≤ 4) (s f : List Int) (t : List Stp) (d : List Int) (hd : MV (n : Int) d) (hs : ∀ p ∈ s,0 ≤ p ∧ p < (n : Int)) (hf : ∀ q ∈ f,0 ≤ q ∧ q < (n : Int)) (ls : s.length ≤ 1000000000) (lf : f.length ≤ 1000000000) : Ev (fun k => spec_l4Least.f k (n : Int) s f t (n : Int) d) (leastL n s f d):=by
 have inner : ∀ (p : Int) (i : Int) (R : Int),0 ≤ p → p < (n : Int) → ∀ (v pre : List Int) (acc : Int),f = pre ++ v → Ev (fun k => spec_l4Least.l0 k (v.foldl (fun a q => mn a (d.getD (p.toNat * n + q.toNat) 0)) acc) s (s.length : Int) (wrap64 (i + 1)) (n : Int) s f t (n : Int) d) R →
   Ev (fun k => spec_l4Least.l1 k acc p s (s.length : Int) i f (f.length : Int) (pre.length : Int) (n : Int) s f t (n : Int) d) R:=by
  intro p i R hp0 hpn v
  induction v with
  | nil =>
   intro pre acc hp h
   refine Ev.step (fun k => ?_) h
   simp only [spec_l4Least.l1];rw [if_neg (by rw [hp];simp)];rfl
  | cons y v ih =>
   intro pre acc hp h
   have hlen : f.length = pre.length + (v.length + 1):=by rw [hp];simp
   have hx : rdI f (pre.length : Int) = y:=by rw [hp,rd_mid]
   obtain ⟨y0,yn⟩:=hf y (by rw [hp];simp)
   have c:=cellZ (n:=(n : Int)) (i:=p) (k:=y) (by omega) (by omega) (by omega)
   have cw:=cellW (n:=(n : Int)) (i:=p) (k:=y) (by omega) (by omega) (by omega)
   have hd2:=hd.2.2.1
   have e : rdI d (p * (n : Int) + y) = d.getD (p.toNat * n + y.toNat) 0:=by
    obtain ⟨m0,f0⟩ : ∃ m : Nat,p = (m : Int):=⟨p.toNat,by omega⟩
    obtain ⟨m2,f2⟩ : ∃ m : Nat,y = (m : Int):=⟨y.toNat,by omega⟩
    have : ((m0 : Int) * (n : Int) + (m2 : Int)) = ((m0 * n + m2 : Nat) : Int):=by push_cast;rfl
    rw [f0,f2,this]
    unfold rdI
    simp only [Int.toNat_natCast]
   refine Ev.step (fun k => ?_) (ih (pre ++ [y]) (mn acc (d.getD (p.toNat * n + y.toNat) 0)) (by simp [hp]) h)
   simp only [spec_l4Least.l1]
   rw [if_pos (by omega),if_pos (by omega),if_pos (by omega),hx,cw,if_pos (by omega),if_pos (by omega),e,w64 (x:=(pre.length : Int) + 1) (by omega) (by omega),snocA]
 have outer : ∀ (u pre : List Int) (acc : Int),s = pre ++ u → Ev (fun k => spec_l4Least.l0 k acc s (s.length : Int) (pre.length : Int) (n : Int) s f t (n : Int) d) (u.foldl (fun a p => f.foldl (fun a q => mn a (d.getD (p.toNat * n + q.toNat) 0)) a) acc):=by
  intro u
  induction u with
  | nil =>
   intro pre acc hp
   refine Ev.step (f:=fun _ => some acc) (fun k => ?_) (Ev.now _)
   simp only [spec_l4Least.l0];rw [if_neg (by rw [hp];simp)]
  | cons y u ih =>
   intro pre acc hp
   have hlen : s.length = pre.length + (u.length + 1):=by rw [hp];simp
   have hx : rdI s (pre.length : Int) = y:=by rw [hp,rd_mid]
   obtain ⟨y0,yn⟩:=hs y (by rw [hp];simp)
   refine Ev.step (fun k => ?_) (inner y (pre.length : Int) _ y0 yn f [] acc rfl ?_)
   ·simp only [spec_l4Least.l0]
    rw [if_pos (by omega),if_pos (by omega),if_pos (by omega),hx];rfl
   ·rw [w64 (x:=(pre.length : Int) + 1) (by omega) (by omega),← snocA]
    exact ih (pre ++ [y]) _ (by simp [hp])
 exact outer s [] 1000000 rfl
end Go.Proofs.YthnjbjihphbcpaaGreat.V
end
section
set_option linter.unusedVariables false
set_option linter.unusedSimpArgs false
namespace Go.Proofs.YthnjbjihphbcpaaGreat.V
open Go Go.Proofs.YthnjbjihphbcpaaGreat.R Go.RowKit
open Go.Proofs.YthnjbjihphbcpaaGreatW.PrintWords hiding mn mx
theorem wnat {i : Nat} (h : i < 1000000000000) : wrap64 ((i : Int) + 1) = ((i + 1 : Nat) : Int):=by rw [w64 (by omega) (by omega)];rfl
theorem xor_nat (a b : Nat) (ha : a < 4611686018427387904) (hb : b < 4611686018427387904) : xorK .i64 (a : Int) (b : Int) = ((a ^^^ b : Nat) : Int):=by
 have hx : a ^^^ b < 2 ^ 62:=Nat.xor_lt_two_pow (by omega) (by omega)
 have h1 : (BitVec.ofInt 64 (a : Int)).toNat = a:=by
  rw [BitVec.ofInt_natCast,BitVec.toNat_ofNat];exact Nat.mod_eq_of_lt (by omega)
 have h2 : (BitVec.ofInt 64 (b : Int)).toNat = b:=by
  rw [BitVec.ofInt_natCast,BitVec.toNat_ofNat];exact Nat.mod_eq_of_lt (by omega)
 show IntKind.i64.wrap ((BitVec.ofInt 64 (a : Int) ^^^ BitVec.ofInt 64 (b : Int)).toNat : Int) = _
 rw [BitVec.toNat_xor,h1,h2]
 simp [IntKind.wrap,IntKind.bits,IntKind.signed]
 omega
def Bytes (l : List Int) : Prop := ∀ x ∈ l,0 ≤ x ∧ x ≤ 255
theorem bytes_of {l : List Int} (h : ∀ x ∈ l,(Lit.int .u8 x).wf = true) : Bytes l:=by
 intro x hx
 have:=h x hx
 have hmin : IntKind.u8.min = 0:=rfl
 have hmax : IntKind.u8.max = 255:=rfl
 simp only [Lit.wf,Bool.and_eq_true,decide_eq_true_eq] at this
 omega
theorem rd_byte {l : List Int} (h : Bytes l) (i : Int) : ∃ b : Nat,rdI l i = (b : Int) ∧ b ≤ 255:=by
 have : 0 ≤ rdI l i ∧ rdI l i ≤ 255:=by
  unfold rdI
  rw [List.getD_eq_getElem?_getD]
  by_cases hj : i.toNat < l.length
  ·rw [List.getElem?_eq_getElem hj];exact h _ (List.getElem_mem hj)
  ·rw [List.getElem?_eq_none (by omega)];simp
 exact ⟨(rdI l i).toNat,by omega,by omega⟩
theorem mixed (b c s q : Nat) (hb : b ≤ 255) (hc : c ≤ 255) (hs : s ≤ 1000000) (hq : q ≤ 1000000) :
  wrap64 ((wrap64 ((wrap64 ((wrap64 ((wrap64 (b : Int)) * 131)) + (wrap64 ((wrap64 (c : Int)) * 1117)))) + (wrap64 ((s : Int) * 29)))) + (wrap64 ((wrap64 (q : Int)) * 53))) = ((b * 131 + c * 1117 + s * 29 + q * 53 : Nat) : Int):=by
 rw [w64 (x:=(b : Int)) (by omega) (by omega),w64 (x:=(c : Int)) (by omega) (by omega),w64 (x:=(q : Int)) (by omega) (by omega),w64 (x:=(b : Int) * 131) (by omega) (by omega),w64 (x:=(c : Int) * 1117) (by omega) (by omega),w64 (x:=(s : Int) * 29) (by omega) (by omega),w64 (x:=(q : Int) * 53) (by omega) (by omega),
  w64 (x:=(b : Int) * 131 + (c : Int) * 1117) (by omega) (by omega),w64 (x:=(b : Int) * 131 + (c : Int) * 1117 + (s : Int) * 29) (by omega) (by omega),w64 (x:=(b : Int) * 131 + (c : Int) * 1117 + (s : Int) * 29 + (q : Int) * 53) (by omega) (by omega)]
 omega
theorem second (s : Nat) (hs : s ≤ 1000000) : wrap64 ((wrap64 ((s : Int) * 7)) + 3) = ((s * 7 + 3 : Nat) : Int):=by
 rw [w64 (x:=(s : Int) * 7) (by omega) (by omega),w64 (x:=(s : Int) * 7 + 3) (by omega) (by omega)];omega
theorem at_up (s : Nat) (hs : s ≤ 1000000) : wrap64 ((s : Int) + 1) = ((s + 1 : Nat) : Int):=by rw [w64 (x:=(s : Int) + 1) (by omega) (by omega)];omega
theorem at_down (s : Nat) (hs : s ≤ 1000000) : wrap64 (((s + 1 : Nat) : Int) - 1) = (s : Int):=by rw [w64 (x:=((s + 1 : Nat) : Int) - 1) (by omega) (by omega)];omega
theorem at_64 (m : Nat) (hm : m ≤ 100000000) : wrap64 (Int.tdiv (m : Int) 64) = ((m / 64 : Nat) : Int):=by
 have hmq : m / 64 ≤ 100000000:=Nat.le_trans (Nat.div_le_self _ _) hm
 have : (64 : Int) = ((64 : Nat) : Int):=rfl
 rw [this,tdiv_nat,w64 (x:=((m / 64 : Nat) : Int)) (by omega) (by omega)]
theorem pick_r (l : List Int) (hl : l.length ≤ 2000) (hb : Bytes l) (s n : Nat) (hs : s ≤ 1000000) (h1 : 1 ≤ n) (hn : n ≤ 1000000) :
  ∃ v : Nat,v < n ∧ spec_l13Rd_pick.f (n : Int) l (s : Int) = some ((v : Int),l,((s + 1 : Nat) : Int)):=by
 have hn0 : ¬ (n : Int) < 1:=by omega
 have hnz : ¬ (n : Int) = 0:=by omega
 obtain ⟨L,hL⟩ : ∃ L,l.length = L:=⟨_,rfl⟩
 unfold spec_l13Rd_pick.f
 rw [if_neg hn0,at_up s hs,at_down s hs,hL]
 by_cases h0 : (L : Int) = 0
 ·exact ⟨0,by omega,by rw [if_pos h0];rfl⟩
 rw [if_neg h0]
 have hL1 : 1 ≤ L:=by omega
 by_cases hlt : s < L
 ·obtain ⟨b,hb1,hb2⟩:=rd_byte hb (s : Int)
  refine ⟨b % n,Nat.mod_lt _ (by omega),?_⟩
  rw [if_pos (by omega),if_pos (by omega),if_neg hnz,hb1,w64 (x:=(b : Int)) (by omega) (by omega),tmod_nat]
 ·obtain ⟨b,hb1,hb2⟩:=rd_byte hb ((s % L : Nat) : Int)
  obtain ⟨c,hc1,hc2⟩:=rd_byte hb (((s * 7 + 3) % L : Nat) : Int)
  have hq : s / L ≤ 1000000:=Nat.le_trans (Nat.div_le_self _ _) hs
  obtain ⟨q,hqe⟩ : ∃ q,s / L = q:=⟨_,rfl⟩
  rw [hqe] at hq
  obtain ⟨m,hm⟩ : ∃ m : Nat,b * 131 + c * 1117 + s * 29 + q * 53 = m:=⟨_,rfl⟩
  have hmb : m ≤ 100000000:=by omega
  have hmq : m / 64 ≤ 100000000:=Nat.le_trans (Nat.div_le_self _ _) hmb
  have m1 : s % L < L:=Nat.mod_lt _ (by omega)
  have m2 : (s * 7 + 3) % L < L:=Nat.mod_lt _ (by omega)
  have x1 : m < 4611686018427387904:=by omega
  have x2 : m / 64 < 4611686018427387904:=by omega
  have y1 : ¬ (s : Int) < (L : Int):=by omega
  have y2 : ((s % L : Nat) : Int) < (L : Int):=by omega
  have y3 : (((s * 7 + 3) % L : Nat) : Int) < (L : Int):=by omega
  refine ⟨(m ^^^ (m / 64)) % n,Nat.mod_lt _ (by omega),?_⟩
  rw [if_neg y1,tmod_nat,if_pos (Int.natCast_nonneg _),if_pos y2,second s hs,tmod_nat,if_pos (Int.natCast_nonneg _),if_pos y3,if_neg hnz,hb1,hc1,tdiv_nat,hqe,mixed b c s q hb2 hc2 hs hq,hm,at_64 m hmb,xor_nat m (m / 64) x1 x2,tmod_nat]
theorem of_r (l : List Int) (hl : l.length ≤ 2000) (hb : Bytes l) (s : Nat) (hs : s ≤ 1000000) (z : List ByteArray) (h1 : 1 ≤ z.length) (hn : z.length ≤ 1000000) :
  ∃ x ∈ z,spec_l13Rd_of.f z l (s : Int) = some (x,l,((s + 1 : Nat) : Int)):=by
 obtain ⟨v,hv,h⟩:=pick_r l hl hb s z.length hs h1 hn
 refine ⟨z[v],List.getElem_mem hv,?_⟩
 unfold spec_l13Rd_of.f
 rw [h,Option.bind_some]
 show (if (0 : Int) ≤ (v : Int) then (if (v : Int) < (z.length : Int) then some (rdS z (v : Int),l,((s + 1 : Nat) : Int)) else none) else none) = _
 rw [if_pos (by omega),if_pos (by omega)]
 simp [rdS,List.getD_eq_getElem?_getD,hv]
theorem num_r (l : List Int) (hl : l.length ≤ 2000) (hb : Bytes l) (s : Nat) (hs : s ≤ 1000000) (z : List Int) (h1 : 1 ≤ z.length) (hn : z.length ≤ 1000000) :
  ∃ x ∈ z,spec_l13Rd_num.f z l (s : Int) = some (x,l,((s + 1 : Nat) : Int)):=by
 obtain ⟨v,hv,h⟩:=pick_r l hl hb s z.length hs h1 hn
 refine ⟨z[v],List.getElem_mem hv,?_⟩
 unfold spec_l13Rd_num.f
 rw [h,Option.bind_some]
 show (if (0 : Int) ≤ (v : Int) then (if (v : Int) < (z.length : Int) then some (rdI z (v : Int),l,((s + 1 : Nat) : Int)) else none) else none) = _
 rw [if_pos (by omega),if_pos (by omega)]
 simp [rdI,List.getD_eq_getElem?_getD,hv]
theorem bnd {α β γ : Type} {o : Option γ} {z : γ} {g : Nat → γ → Option α} {r : α} (h : o = some z) (k : Ev (fun n => g n z) r) : Ev (fun n => o.bind (g n)) r:=Ev.congr (fun n => by rw [h];rfl) k
theorem some_r (l : List Int) (hl : l.length ≤ 2000) (hb : Bytes l) (n : Nat) (hn : n ≤ 100) (s : Nat) (hs : s ≤ 900000) : ∃ r : List Int,r.length ≤ n ∧ Ev (fun k => spec_l3Some.f k (n : Int) l (s : Int)) (r,l,((s + n : Nat) : Int)):=by
 have go : ∀ (d i s : Nat) (acc : List Int),i + d = n → acc.length ≤ i → s ≤ 900000 + i → ∃ r : List Int,r.length ≤ n ∧ Ev (fun k => spec_l3Some.l0 k acc (n : Int) (i : Int) l (s : Int)) (r,l,((s + d : Nat) : Int)):=by
  intro d
  induction d with
  | zero =>
   intro i s acc hi ha hs
   refine ⟨acc,by omega,?_⟩
   refine Ev.step (f:=fun _ => some (acc,l,(s : Int))) (fun k => ?_) ((Ev.now _).is (by simp))
   simp only [spec_l3Some.l0];rw [if_neg (by omega)]
  | succ d ih =>
   intro i s acc hi ha hs
   obtain ⟨v,_,hv⟩:=pick_r l hl hb s 2 (by omega) (by omega) (by omega)
   have hv : spec_l13Rd_pick.f 2 l (s : Int) = some ((v : Int),l,((s + 1 : Nat) : Int)):=hv
   have wn : wrap64 ((i : Int) + 1) = ((i + 1 : Nat) : Int):=wnat (by omega)
   have a0 : (i : Int) < (n : Int):=by clear wn;omega
   have b0 : acc.length < 17592186044416:=by clear wn;omega
   have es : s + (d + 1) = s + 1 + d:=by omega
   rw [es]
   by_cases q : (v : Int) = 0
   ·obtain ⟨r,r0,r1⟩:=ih (i + 1) (s + 1) (acc ++ [(i : Int)]) (by omega) (by simp;omega) (by omega)
    refine ⟨r,r0,Ev.step (fun k => ?_) r1⟩
    simp only [spec_l3Some.l0]
    rw [if_pos a0,hv,Option.bind_some,if_pos q,if_pos b0,wn]
   ·obtain ⟨r,r0,r1⟩:=ih (i + 1) (s + 1) acc (by omega) (by omega) (by omega)
    refine ⟨r,r0,Ev.step (fun k => ?_) r1⟩
    simp only [spec_l3Some.l0]
    rw [if_pos a0,hv,Option.bind_some,if_neg q,wn]
 unfold spec_l3Some.f
 exact go n 0 s [] (by omega) (Nat.le_refl _) (by omega)
theorem before_r (a0 : Int) (a1 : ByteArray) (a2 a3 b0 : Int) (b1 : ByteArray) (b2 b3 : Int) : ∃ b,spec_l3Before.f a0 a1 a2 a3 b0 b1 b2 b3 = some b:=by
 unfold spec_l3Before.f
 by_cases h : a0 = b0
 ·rw [if_pos h]
  by_cases h2 : a1.toList = b1.toList
  ·rw [if_pos h2];exact ⟨_,rfl⟩
  ·rw [if_neg h2];exact ⟨_,rfl⟩
 ·rw [if_neg h];exact ⟨_,rfl⟩
theorem put_r (x : List Stp) (hx : x.length ≤ 1000) (a : Int) (b : ByteArray) (c d : Int) : ∃ r : List Stp,r.length ≤ x.length + 1 ∧ Ev (fun k => spec_l3Put.f k x a b c d) r:=by
 have ins : ∀ i : Nat,i ≤ x.length → ∃ r : List Stp,r.length ≤ x.length + 1 ∧ (if (i : Int) ≤ (x.length : Int) then (if ([] : List Stp).length + ((x.drop 0).take ((i : Int).toNat - 0)).length ≤ 3518437208883 then (if (([] : List Stp) ++ ((x.drop 0).take ((i : Int).toNat - 0))).length < 3518437208883 then (if (x.length : Int) ≤ (x.length : Int) then (if ((([] : List Stp) ++ ((x.drop 0).take ((i : Int).toNat - 0))) ++ [(⟨a,b,c,d⟩ : Stp)]).length + ((x.drop (i : Int).toNat).take (x.length - (i : Int).toNat)).length ≤ 3518437208883 then (some (((([] : List Stp) ++ ((x.drop 0).take ((i : Int).toNat - 0))) ++ [(⟨a,b,c,d⟩ : Stp)]) ++ ((x.drop (i : Int).toNat).take (x.length - (i : Int).toNat)))) else none) else none) else none) else none) else none) = some r:=fun i hi => by
  have l1 : ((x.drop 0).take ((i : Int).toNat - 0)).length = i:=by rw [Int.toNat_natCast,List.drop_zero,List.length_take];omega
  have l2 : ((x.drop (i : Int).toNat).take (x.length - (i : Int).toNat)).length = x.length - i:=by rw [Int.toNat_natCast,List.length_take,List.length_drop];omega
  refine ⟨_,?_,by rw [if_pos (by omega),if_pos (by rw [l1];simp only [List.length_nil];omega),if_pos (by rw [List.length_append,l1];simp only [List.length_nil];omega),if_pos (Int.le_refl _),if_pos (by rw [List.length_append,List.length_append,l1,l2];simp only [List.length_nil,List.length_cons];omega)]⟩
  rw [List.length_append,List.length_append,List.length_append,l1,l2];simp only [List.length_nil,List.length_cons];omega
 have go : ∀ (m i : Nat),i + m = x.length → ∃ r : List Stp,r.length ≤ x.length + 1 ∧ Ev (fun k => spec_l3Put.l0 k x (i : Int) a b c d) r:=by
  intro m
  induction m with
  | zero =>
   intro i hi
   obtain ⟨r,r0,r1⟩:=ins i (by omega)
   refine ⟨r,r0,Ev.step (f:=fun _ => some r) (fun k => ?_) (Ev.now _)⟩
   simp only [spec_l3Put.l0]
   rw [if_neg (by omega),if_pos (Int.natCast_nonneg _)];exact r1
  | succ m ih =>
   intro i hi
   obtain ⟨t1,h1⟩:=before_r (rdT x (i : Int)).f0 (rdT x (i : Int)).f1 (rdT x (i : Int)).f2 (rdT x (i : Int)).f3 a b c d
   obtain ⟨t2,h2⟩:=before_r a b c d (rdT x (i : Int)).f0 (rdT x (i : Int)).f1 (rdT x (i : Int)).f2 (rdT x (i : Int)).f3
   have wn : wrap64 ((i : Int) + 1) = ((i + 1 : Nat) : Int):=wnat (by omega)
   have a0 : (i : Int) < (x.length : Int):=by clear wn;omega
   cases t1 with
   | true =>
    obtain ⟨r,r0,r1⟩:=ih (i + 1) (by omega)
    refine ⟨r,r0,Ev.step (fun k => ?_) r1⟩
    simp only [spec_l3Put.l0]
    rw [if_pos a0,if_pos (Int.natCast_nonneg _),h1,Option.bind_some,if_pos rfl,wn]
   | false =>
    cases t2 with
    | true =>
     obtain ⟨r,r0,r1⟩:=ins i (by omega)
     refine ⟨r,r0,Ev.step (f:=fun _ => some r) (fun k => ?_) (Ev.now _)⟩
     simp only [spec_l3Put.l0]
     rw [if_pos a0,if_pos (Int.natCast_nonneg _),h1,Option.bind_some,if_neg (by simp),h2,Option.bind_some,if_pos rfl];exact r1
    | false =>
     refine ⟨(([] : List Stp) ++ x).set (i : Int).toNat (⟨(rdT (([] : List Stp) ++ x) (i : Int)).f0,(rdT (([] : List Stp) ++ x) (i : Int)).f1,(rdT (([] : List Stp) ++ x) (i : Int)).f2,(mn (rdT (([] : List Stp) ++ x) (i : Int)).f3 d)⟩ : Stp),by simp,Ev.step (f:=fun _ => some _) (fun k => ?_) (Ev.now _)⟩
     simp only [spec_l3Put.l0]
     rw [if_pos a0,if_pos (Int.natCast_nonneg _),h1,Option.bind_some,if_neg (by simp),h2,Option.bind_some,if_neg (by simp),if_pos (by simp only [List.length_nil];omega),if_pos (by rw [List.nil_append];exact a0)]
 unfold spec_l3Put.f
 exact go x.length 0 (by omega)
theorem known0 : ∀ k,spec_l3Known.f (k + 300) 0 = some (1,[0],[0],[⟨0,⟨#[97]⟩,0,1⟩,⟨0,⟨#[98]⟩,0,0⟩]):=by
 intro k
 kernel_rfl
theorem known1 : ∀ k,spec_l3Known.f (k + 300) 1 = some (2,[0],[1],[⟨0,⟨#[97]⟩,0,0⟩,⟨0,⟨#[97]⟩,1,1⟩,⟨1,⟨#[98]⟩,1,0⟩]):=by
 intro k
 kernel_rfl
theorem known2 : ∀ k,spec_l3Known.f (k + 300) 2 = some (2,[0,1],[0,1],[⟨0,⟨#[97]⟩,0,1⟩,⟨0,⟨#[98]⟩,0,0⟩,⟨1,⟨#[97]⟩,1,0⟩,⟨1,⟨#[98]⟩,1,1⟩]):=by
 intro k
 kernel_rfl
theorem known3 : ∀ k,spec_l3Known.f (k + 300) 3 = some (3,[0],[0,2],[⟨0,⟨#[97]⟩,0,0⟩,⟨0,⟨#[97]⟩,1,0⟩,⟨0,⟨#[98]⟩,0,1⟩,⟨1,⟨#[97]⟩,1,1⟩,⟨1,⟨#[98]⟩,2,0⟩,⟨2,⟨#[97]⟩,2,0⟩,⟨2,⟨#[98]⟩,2,0⟩]):=by
 intro k
 kernel_rfl
theorem known4 : ∀ k,spec_l3Known.f (k + 300) 4 = some (2,[0],[0],[⟨0,⟨#[97]⟩,1,1⟩,⟨1,⟨#[98]⟩,0,0⟩]):=by
 intro k
 kernel_rfl
theorem known5 : ∀ k,spec_l3Known.f (k + 300) 5 = some (3,[0],[2],[⟨0,⟨#[97]⟩,0,0⟩,⟨0,⟨#[98]⟩,0,0⟩,⟨0,⟨#[98]⟩,1,0⟩,⟨1,⟨#[97]⟩,1,1⟩,⟨1,⟨#[98]⟩,2,0⟩,⟨2,⟨#[97]⟩,2,0⟩,⟨2,⟨#[98]⟩,2,0⟩]):=by
 intro k
 kernel_rfl
theorem known6 : ∀ k,spec_l3Known.f (k + 300) 6 = some (1,[0],[0],[⟨0,⟨#[97]⟩,0,0⟩]):=by
 intro k
 kernel_rfl
theorem known7 : ∀ k,spec_l3Known.f (k + 300) 7 = some (2,[0],[0,1],[⟨0,⟨#[97]⟩,0,0⟩,⟨0,⟨#[98]⟩,1,1⟩,⟨1,⟨#[97]⟩,0,0⟩,⟨1,⟨#[98]⟩,1,0⟩]):=by
 intro k
 kernel_rfl
theorem known8 : ∀ k,spec_l3Known.f (k + 300) 8 = some (2,[0],[1],[⟨0,⟨#[97]⟩,1,2⟩,⟨1,⟨#[97]⟩,1,0⟩,⟨1,⟨#[98]⟩,0,1⟩]):=by
 intro k
 kernel_rfl
def Small (r : Int × List Int × List Int × List Stp) : Prop:=r.2.1.length ≤ 100 ∧ r.2.2.1.length ≤ 100 ∧ r.2.2.2.length ≤ 100
theorem known_r (v : Nat) (hv : v < 9) : ∃ r,Small r ∧ Ev (fun k => spec_l3Known.f k (v : Int)) r:=by
 have ev : ∀ r,(∀ k,spec_l3Known.f (k + 300) (v : Int) = some r) → Ev (fun k => spec_l3Known.f k (v : Int)) r:=fun r h => ⟨300,fun k hk => by have:=h (k - 300);rwa [Nat.sub_add_cancel hk] at this⟩
 have : v = 0 ∨ v = 1 ∨ v = 2 ∨ v = 3 ∨ v = 4 ∨ v = 5 ∨ v = 6 ∨ v = 7 ∨ v = 8:=by omega
 rcases this with rfl|rfl|rfl|rfl|rfl|rfl|rfl|rfl|rfl
 ·exact ⟨_,⟨by decide,by decide,by decide⟩,ev _ known0⟩
 ·exact ⟨_,⟨by decide,by decide,by decide⟩,ev _ known1⟩
 ·exact ⟨_,⟨by decide,by decide,by decide⟩,ev _ known2⟩
 ·exact ⟨_,⟨by decide,by decide,by decide⟩,ev _ known3⟩
 ·exact ⟨_,⟨by decide,by decide,by decide⟩,ev _ known4⟩
 ·exact ⟨_,⟨by decide,by decide,by decide⟩,ev _ known5⟩
 ·exact ⟨_,⟨by decide,by decide,by decide⟩,ev _ known6⟩
 ·exact ⟨_,⟨by decide,by decide,by decide⟩,ev _ known7⟩
 ·exact ⟨_,⟨by decide,by decide,by decide⟩,ev _ known8⟩
theorem steps_r (l : List Int) (hl : l.length ≤ 2000) (hb : Bytes l) (n : Nat) (h1 : 1 ≤ n) (h4 : n ≤ 10) (st fi : List Int) (hs0 : st.length ≤ 100) (hf0 : fi.length ≤ 100) (c : Nat) (hc : c ≤ 60) : ∀ (d i s : Nat) (x : List Stp),i + d = c → x.length ≤ i → s ≤ 900000 + 4 * i →
  ∃ (r : Int × List Int × List Int × List Stp) (s' : Nat),Small r ∧ s' ≤ 900000 + 4 * c ∧ Ev (fun k => spec_l3Draw.l0 k (n : Int) (c : Int) (i : Int) l (s : Int) (n : Int) st fi x) (r.1,r.2.1,r.2.2.1,r.2.2.2,l,(s' : Int)):=by
 intro d
 induction d with
 | zero =>
  intro i s x hi hx hs
  refine ⟨((n : Int),st,fi,x),s,⟨hs0,hf0,by show x.length ≤ 100;omega⟩,by omega,?_⟩
  refine Ev.step (f:=fun _ => some ((n : Int),st,fi,x,l,(s : Int))) (fun k => ?_) (Ev.now _)
  simp only [spec_l3Draw.l0];rw [if_neg (by omega)]
 | succ d ih =>
  intro i s x hi hx hs
  obtain ⟨v1,_,p1⟩:=pick_r l hl hb s n (by omega) h1 (by omega)
  obtain ⟨v2,_,p2⟩:=of_r l hl hb (s + 1) (by omega) [(⟨#[97]⟩ : ByteArray),(⟨#[98]⟩ : ByteArray)] (by simp) (by simp)
  obtain ⟨v3,_,p3⟩:=pick_r l hl hb (s + 1 + 1) n (by omega) h1 (by omega)
  obtain ⟨v4,_,p4⟩:=num_r l hl hb (s + 1 + 1 + 1) (by omega) [0,1,0,1,2,0] (by simp) (by simp)
  obtain ⟨y,hy,py⟩:=put_r x (by omega) (v1 : Int) v2 (v3 : Int) v4
  obtain ⟨r,s',g1,g2,g3⟩:=ih (i + 1) (s + 1 + 1 + 1 + 1) y (by omega) (by omega) (by omega)
  have wn : wrap64 ((i : Int) + 1) = ((i + 1 : Nat) : Int):=wnat (by omega)
  have a0 : (i : Int) < (c : Int):=by clear wn;omega
  rw [← wn] at g3
  refine ⟨r,s',g1,g2,?_⟩
  refine Ev.step (f:=fun k => (spec_l3Put.f k x (v1 : Int) v2 (v3 : Int) v4).bind fun t16 => spec_l3Draw.l0 k (n : Int) (c : Int) (wrap64 ((i : Int) + 1)) l ((s + 1 + 1 + 1 + 1 : Nat) : Int) (n : Int) st fi t16) (fun k => ?_) (Ev.bind py g3)
  simp only [spec_l3Draw.l0]
  rw [if_pos a0,p1,Option.bind_some,p2,Option.bind_some,p3,Option.bind_some,p4,Option.bind_some]
theorem w1p (v : Nat) (h : v ≤ 1000000) : wrap64 (1 + (v : Int)) = ((v + 1 : Nat) : Int):=by rw [w64 (by omega) (by omega)];omega
theorem w2p (v : Nat) (h : v ≤ 1000000) : wrap64 (wrap64 (2 * ((v + 1 : Nat) : Int)) + 1) = ((2 * (v + 1) + 1 : Nat) : Int):=by rw [w64 (x:=2 * ((v + 1 : Nat) : Int)) (by omega) (by omega),w64 (by omega) (by omega)];omega
theorem draw_r (l : List Int) (hl : l.length ≤ 2000) (hb : Bytes l) (m : Nat) (h1 : 1 ≤ m) (h4 : m ≤ 4) (s : Nat) (hs : s ≤ 800000) :
  ∃ (r : Int × List Int × List Int × List Stp) (s' : Nat),Small r ∧ s' ≤ 901000 ∧ Ev (fun k => spec_l3Draw.f k (m : Int) l (s : Int)) (r.1,r.2.1,r.2.2.1,r.2.2.2,l,(s' : Int)):=by
 have rest : ∀ s : Nat,s ≤ 850000 → ∃ (r : Int × List Int × List Int × List Stp) (s' : Nat),Small r ∧ s' ≤ 901000 ∧ Ev (fun k => (spec_l13Rd_pick.f (m : Int) l (s : Int)).bind fun t8 => (spec_l3Some.f k (wrap64 (1 + t8.1)) t8.2.1 t8.2.2).bind fun t9 => (spec_l3Some.f k (wrap64 (1 + t8.1)) t9.2.1 t9.2.2).bind fun t10 => (spec_l13Rd_pick.f (wrap64 ((wrap64 (2 * (wrap64 (1 + t8.1)))) + 1)) t10.2.1 t10.2.2).bind fun t11 => spec_l3Draw.l0 k (wrap64 (1 + t8.1)) (wrap64 (1 + t11.1)) 0 t11.2.1 t11.2.2 (wrap64 (1 + t8.1)) t9.1 t10.1 ([] : List Stp)) (r.1,r.2.1,r.2.2.1,r.2.2.2,l,(s' : Int)):=fun s hs => by
  obtain ⟨v,hv,p1⟩:=pick_r l hl hb s m (by omega) h1 (by omega)
  obtain ⟨st,hst,p2⟩:=some_r l hl hb (v + 1) (by omega) (s + 1) (by omega)
  obtain ⟨fi,hfi,p3⟩:=some_r l hl hb (v + 1) (by omega) (s + 1 + (v + 1)) (by omega)
  obtain ⟨c,hc,p4⟩:=pick_r l hl hb (s + 1 + (v + 1) + (v + 1)) (2 * (v + 1) + 1) (by omega) (by omega) (by omega)
  obtain ⟨r,s',g1,g2,g3⟩:=steps_r l hl hb (v + 1) (by omega) (by omega) st fi (by omega) (by omega) (c + 1) (by omega) (c + 1) 0 (s + 1 + (v + 1) + (v + 1) + 1) [] (by omega) (Nat.le_refl _) (by omega)
  refine ⟨r,s',g1,by omega,?_⟩
  have e1:=w1p v (by omega)
  have e2:=w2p v
  have e3:=w1p c
  replace e2:=e2 (by clear e1 e2 e3;omega)
  replace e3:=e3 (by clear e1 e2 e3;omega)
  refine Ev.bind (ev_some (fun _ => p1)) ?_
  simp only [e1]
  refine Ev.bind p2 (Ev.bind p3 ?_)
  simp only [e2]
  refine Ev.bind (ev_some (fun _ => p4)) ?_
  simp only [e3]
  exact g3
 obtain ⟨v,hv,p1⟩:=pick_r l hl hb s 3 (by omega) (by omega) (by omega)
 have p1 : spec_l13Rd_pick.f 3 l (s : Int) = some ((v : Int),l,((s + 1 : Nat) : Int)):=p1
 by_cases q : (v : Int) = 0
 ·obtain ⟨u,hu,p2⟩:=pick_r l hl hb (s + 1) 9 (by omega) (by omega) (by omega)
  have p2 : spec_l13Rd_pick.f 9 l ((s + 1 : Nat) : Int) = some ((u : Int),l,((s + 1 + 1 : Nat) : Int)):=p2
  obtain ⟨r,r1,r2⟩:=known_r u hu
  by_cases q2 : r.1 ≤ (m : Int)
  ·refine ⟨r,s + 1 + 1,r1,by omega,?_⟩
   unfold spec_l3Draw.f
   exact Ev.bind (ev_some (fun _ => p1)) (Ev_t q (Ev.bind (ev_some (fun _ => p2)) (Ev.bind r2 (Ev_t q2 (Ev.now _)))))
  ·obtain ⟨r',s',g1,g2,g3⟩:=rest (s + 1 + 1) (by omega)
   refine ⟨r',s',g1,g2,?_⟩
   unfold spec_l3Draw.f
   exact Ev.bind (ev_some (fun _ => p1)) (Ev_t q (Ev.bind (ev_some (fun _ => p2)) (Ev.bind r2 (Ev_f q2 g3))))
 ·obtain ⟨r',s',g1,g2,g3⟩:=rest (s + 1) (by omega)
  refine ⟨r',s',g1,g2,?_⟩
  unfold spec_l3Draw.f
  exact Ev.bind (ev_some (fun _ => p1)) (Ev_f q g3)
theorem bad_r (l : List Int) (hl : l.length ≤ 2000) (hb : Bytes l) (a : Int × List Int × List Int × List Stp) (ha : Small a) (s : Nat) (hs : s ≤ 901000) :
  ∃ (r : Int × List Int × List Int × List Stp) (s' : Nat),(r.2.1.length ≤ 1000 ∧ r.2.2.1.length ≤ 1000 ∧ r.2.2.2.length ≤ 1000) ∧ s' ≤ 902000 ∧ spec_l3Bad.f a.1 a.2.1 a.2.2.1 a.2.2.2 l (s : Int) = some (r.1,r.2.1,r.2.2.1,r.2.2.2,l,(s' : Int)):=by
 obtain ⟨a0,a1,a2,a3⟩:=a
 obtain ⟨h1,h2,h3⟩:=ha
 have h1 : a1.length ≤ 100:=h1
 have h2 : a2.length ≤ 100:=h2
 have h3 : a3.length ≤ 100:=h3
 obtain ⟨v,_,p1⟩:=pick_r l hl hb s 36 (by omega) (by omega) (by omega)
 have p1 : spec_l13Rd_pick.f 36 l (s : Int) = some ((v : Int),l,((s + 1 : Nat) : Int)):=p1
 unfold spec_l3Bad.f
 simp only [p1,Option.bind_some]
 by_cases c0 : (v : Int) = 0
 ·obtain ⟨x,_,p2⟩:=num_r l hl hb (s + 1) (by omega) [0,5,(-1),1,9223372036854775807] (by simp) (by simp)
  refine ⟨(x,a1,a2,a3),s + 1 + 1,⟨by show a1.length ≤ 1000;omega,by show a2.length ≤ 1000;omega,by show a3.length ≤ 1000;omega⟩,by omega,?_⟩
  rw [if_pos c0,p2,Option.bind_some]
 rw [if_neg c0]
 by_cases c1 : (v : Int) = 1
 ·obtain ⟨w,_,p2⟩:=pick_r l hl hb (s + 1) 2 (by omega) (by omega) (by omega)
  have p2 : spec_l13Rd_pick.f 2 l ((s + 1 : Nat) : Int) = some ((w : Int),l,((s + 1 + 1 : Nat) : Int)):=p2
  obtain ⟨x,_,p3⟩:=of_r l hl hb (s + 1 + 1) (by omega) [(⟨#[97]⟩ : ByteArray),(⟨#[99]⟩ : ByteArray),(⟨#[]⟩ : ByteArray)] (by simp) (by simp)
  obtain ⟨y,_,p4⟩:=num_r l hl hb (s + 1 + 1 + 1) (by omega) [0,4,(-1)] (by simp) (by simp)
  obtain ⟨z,_,p5⟩:=num_r l hl hb (s + 1 + 1 + 1 + 1) (by omega) [0,4,(-1)] (by simp) (by simp)
  refine ⟨(a0,a1,a2,(([] : List Stp) ++ a3) ++ [(⟨(w : Int),x,y,z⟩ : Stp)]),s + 1 + 1 + 1 + 1 + 1,⟨by show a1.length ≤ 1000;omega,by show a2.length ≤ 1000;omega,by simp;omega⟩,by omega,?_⟩
  rw [if_pos c1,if_pos (by simp only [List.length_nil];omega),p2,Option.bind_some,p3,Option.bind_some,p4,Option.bind_some,p5,Option.bind_some,if_pos (by simp;omega)]
 rw [if_neg c1]
 by_cases c2 : (v : Int) = 2
 ·obtain ⟨x,_,p2⟩:=num_r l hl hb (s + 1) (by omega) [0,4,(-1)] (by simp) (by simp)
  refine ⟨(a0,(([] : List Int) ++ a1) ++ [x],a2,a3),s + 1 + 1,⟨by simp;omega,by show a2.length ≤ 1000;omega,by show a3.length ≤ 1000;omega⟩,by omega,?_⟩
  rw [if_pos c2,if_pos (by simp only [List.length_nil];omega),p2,Option.bind_some,if_pos (by simp;omega)]
 ·exact ⟨(a0,a1,a2,a3),s + 1,⟨by show a1.length ≤ 1000;omega,by show a2.length ≤ 1000;omega,by show a3.length ≤ 1000;omega⟩,by omega,by rw [if_neg c2]⟩
theorem word_r (l : List Int) (hl : l.length ≤ 2000) (hb : Bytes l) (s : Nat) (hs : s ≤ 902000) : ∃ (w : ByteArray) (s' : Nat),w.size ≤ 100 ∧ s' ≤ 903000 ∧ Ev (fun k => spec_l4Word.f k l (s : Int)) (w,l,(s' : Int)):=by
 have loop : ∀ (c : Nat),c ≤ 20 → ∀ (d i s : Nat) (x : ByteArray),i + d = c → x.size ≤ i → s ≤ 902200 + i → ∃ (w : ByteArray) (s' : Nat),w.size ≤ c ∧ s' ≤ 902200 + c ∧ Ev (fun k => spec_l4Draw.l0 k x (c : Int) (i : Int) l (s : Int)) (w,l,(s' : Int)):=by
  intro c hc d
  induction d with
  | zero =>
   intro i s x hi hx hs
   refine ⟨x,s,by omega,by omega,?_⟩
   refine Ev.step (f:=fun _ => some (x,l,(s : Int))) (fun k => ?_) (Ev.now _)
   simp only [spec_l4Draw.l0];rw [if_neg (by omega)]
  | succ d ih =>
   intro i s x hi hx hs
   obtain ⟨y,hy,p⟩:=of_r l hl hb s (by omega) [(⟨#[97]⟩ : ByteArray),(⟨#[98]⟩ : ByteArray)] (by simp) (by simp)
   have ysz : y.size = 1:=by
    simp only [List.mem_cons,List.not_mem_nil,or_false] at hy
    rcases hy with rfl|rfl <;> rfl
   obtain ⟨w,s',g1,g2,g3⟩:=ih (i + 1) (s + 1) (x ++ y) (by omega) (by rw [ByteArray.size_append];omega) (by omega)
   have wn : wrap64 ((i : Int) + 1) = ((i + 1 : Nat) : Int):=wnat (by omega)
   have a0 : (i : Int) < (c : Int):=by clear wn;omega
   have z0 : x.size + y.size ≤ 9223372036854775807:=by clear wn;omega
   refine ⟨w,s',g1,g2,Ev.step (fun k => ?_) g3⟩
   simp only [spec_l4Draw.l0]
   rw [if_pos a0,p,Option.bind_some,if_pos z0,wn]
 have dr : ∀ (a s : Nat),a ≤ 18 → s ≤ 902100 → ∃ (w : ByteArray) (s' : Nat),w.size ≤ 20 ∧ s' ≤ 902300 ∧ Ev (fun k => spec_l4Draw.f k (a : Int) l (s : Int)) (w,l,(s' : Int)):=fun a s ha hs => by
  obtain ⟨c,hc,p⟩:=pick_r l hl hb s (a + 1) (by omega) (by omega) (by omega)
  obtain ⟨w,s',g1,g2,g3⟩:=loop c (by omega) c 0 (s + 1) ⟨#[]⟩ (by omega) (Nat.le_refl _) (by omega)
  refine ⟨w,s',by omega,by omega,?_⟩
  unfold spec_l4Draw.f
  rw [wnat (by omega)]
  exact Ev.bind (ev_some (fun _ => p)) g3
 obtain ⟨v,_,p1⟩:=pick_r l hl hb s 24 (by omega) (by omega) (by omega)
 have p1 : spec_l13Rd_pick.f 24 l (s : Int) = some ((v : Int),l,((s + 1 : Nat) : Int)):=p1
 by_cases q : (v : Int) = 0
 ·obtain ⟨w,s',g1,g2,g3⟩:=dr 4 (s + 1) (by omega) (by omega)
  obtain ⟨y,hy,p2⟩:=of_r l hl hb s' (by omega) [(⟨#[99]⟩ : ByteArray),(⟨#[32]⟩ : ByteArray),(⟨#[65]⟩ : ByteArray)] (by simp) (by simp)
  have ysz : y.size = 1:=by
   simp only [List.mem_cons,List.not_mem_nil,or_false] at hy
   rcases hy with rfl|rfl|rfl <;> rfl
  refine ⟨w ++ y,s' + 1,by rw [ByteArray.size_append];omega,by omega,?_⟩
  unfold spec_l4Word.f
  exact Ev.bind (ev_some (fun _ => p1)) (Ev_t q (Ev.bind g3 (Ev.bind (ev_some (fun _ => p2)) (Ev_t (by show w.size + y.size ≤ _;omega) (Ev.now _)))))
 ·obtain ⟨w,s',g1,g2,g3⟩:=dr 9 (s + 1) (by omega) (by omega)
  refine ⟨w,s',by omega,by omega,?_⟩
  unfold spec_l4Word.f
  exact Ev.bind (ev_some (fun _ => p1)) (Ev_f q (Ev.bind g3 (Ev.now _)))
theorem any_r (l : List Int) (hl : l.length ≤ 2000) (hb : Bytes l) : ∃ (r : Int × List Int × List Int × List Stp) (s' : Nat),(r.2.1.length ≤ 1000 ∧ r.2.2.1.length ≤ 1000 ∧ r.2.2.2.length ≤ 1000) ∧ s' ≤ 902000 ∧ Ev (fun k => spec_l3Any.f k l 0) (r.1,r.2.1,r.2.2.1,r.2.2.2,l,(s' : Int)):=by
 obtain ⟨a,s1,a1,a2,a3⟩:=draw_r l hl hb 3 (by omega) (by omega) 0 (by omega)
 obtain ⟨r,s',g1,g2,g3⟩:=bad_r l hl hb a a1 s1 a2
 refine ⟨r,s',g1,g2,?_⟩
 unfold spec_l3Any.f
 exact Ev.bind a3 (Ev.bind (ev_some (fun _ => g3)) (Ev.now _))
theorem open_r (l : List Int) (hb : Bytes l) : ∃ z : List Int,z.length ≤ 2000 ∧ Bytes z ∧ spec_l13Open.f l = some (z,0):=by
 unfold spec_l13Open.f
 by_cases h : (l.length : Int) > 2000
 ·refine ⟨(l.drop 0).take (2000 - 0),by rw [List.length_take];omega,fun x hx => hb x (List.mem_of_mem_drop (List.mem_of_mem_take hx)),?_⟩
  rw [if_pos h,if_pos (by omega)]
 ·exact ⟨l,by omega,hb,by rw [if_neg h]⟩
theorem wordMatrix_r (l : List Int) (hb : Bytes l) : ∃ (r : Int × List Int × List Int × List Stp) (w : ByteArray),(r.2.1.length ≤ 1000 ∧ r.2.2.1.length ≤ 1000 ∧ r.2.2.2.length ≤ 1000) ∧ w.size ≤ 100 ∧ Ev (fun k => spec_DrawWordMatrix.f k l) (r.1,r.2.1,r.2.2.1,r.2.2.2,w):=by
 obtain ⟨z,z1,z2,z3⟩:=open_r l hb
 obtain ⟨r,s',g1,g2,g3⟩:=any_r z z1 z2
 obtain ⟨w,s2,w1,w2,w3⟩:=word_r z z1 z2 s' g2
 refine ⟨r,w,g1,w1,?_⟩
 unfold spec_DrawWordMatrix.f spec_l4Some.f
 exact Ev.bind (ev_some (fun _ => z3)) (Ev.bind (Ev.bind g3 (Ev.bind w3 (Ev.now _))) (Ev.now _))
theorem steps_q (l : List Int) (hl : l.length ≤ 2000) (hb : Bytes l) (n : Nat) (h1 : 1 ≤ n) (h4 : n ≤ 10) (st fi : List Int) (hs0 : st.length ≤ 100) (hf0 : fi.length ≤ 100) (B : Nat) (hB : B ≤ 910000) (c : Nat) (hc : c ≤ 60) : ∀ (d i s : Nat) (x : List Stp),i + d = c → x.length ≤ i → s ≤ B + 4 * i →
  ∃ (r : Int × List Int × List Int × List Stp) (s' : Nat),Small r ∧ s' ≤ B + 4 * c ∧ Ev (fun k => spec_l3Draw.l0 k (n : Int) (c : Int) (i : Int) l (s : Int) (n : Int) st fi x) (r.1,r.2.1,r.2.2.1,r.2.2.2,l,(s' : Int)):=by
 intro d
 induction d with
 | zero =>
  intro i s x hi hx hs
  refine ⟨((n : Int),st,fi,x),s,⟨hs0,hf0,by show x.length ≤ 100;omega⟩,by omega,?_⟩
  refine Ev.step (f:=fun _ => some ((n : Int),st,fi,x,l,(s : Int))) (fun k => ?_) (Ev.now _)
  simp only [spec_l3Draw.l0];rw [if_neg (by omega)]
 | succ d ih =>
  intro i s x hi hx hs
  obtain ⟨v1,_,p1⟩:=pick_r l hl hb s n (by omega) h1 (by omega)
  obtain ⟨v2,_,p2⟩:=of_r l hl hb (s + 1) (by omega) [(⟨#[97]⟩ : ByteArray),(⟨#[98]⟩ : ByteArray)] (by simp) (by simp)
  obtain ⟨v3,_,p3⟩:=pick_r l hl hb (s + 1 + 1) n (by omega) h1 (by omega)
  obtain ⟨v4,_,p4⟩:=num_r l hl hb (s + 1 + 1 + 1) (by omega) [0,1,0,1,2,0] (by simp) (by simp)
  obtain ⟨y,hy,py⟩:=put_r x (by omega) (v1 : Int) v2 (v3 : Int) v4
  obtain ⟨r,s',g1,g2,g3⟩:=ih (i + 1) (s + 1 + 1 + 1 + 1) y (by omega) (by omega) (by omega)
  have wn : wrap64 ((i : Int) + 1) = ((i + 1 : Nat) : Int):=wnat (by omega)
  have a0 : (i : Int) < (c : Int):=by clear wn;omega
  rw [← wn] at g3
  refine ⟨r,s',g1,g2,?_⟩
  refine Ev.step (f:=fun k => (spec_l3Put.f k x (v1 : Int) v2 (v3 : Int) v4).bind fun t16 => spec_l3Draw.l0 k (n : Int) (c : Int) (wrap64 ((i : Int) + 1)) l ((s + 1 + 1 + 1 + 1 : Nat) : Int) (n : Int) st fi t16) (fun k => ?_) (Ev.bind py g3)
  simp only [spec_l3Draw.l0]
  rw [if_pos a0,p1,Option.bind_some,p2,Option.bind_some,p3,Option.bind_some,p4,Option.bind_some]
theorem draw_q (l : List Int) (hl : l.length ≤ 2000) (hb : Bytes l) (m : Nat) (h1 : 1 ≤ m) (h4 : m ≤ 4) (s : Nat) (hs : s ≤ 800000) :
  ∃ (r : Int × List Int × List Int × List Stp) (s' : Nat),Small r ∧ s' ≤ s + 1000 ∧ Ev (fun k => spec_l3Draw.f k (m : Int) l (s : Int)) (r.1,r.2.1,r.2.2.1,r.2.2.2,l,(s' : Int)):=by
 have rest : ∀ s : Nat,s ≤ 850000 → ∃ (r : Int × List Int × List Int × List Stp) (s' : Nat),Small r ∧ s' ≤ s + 500 ∧ Ev (fun k => (spec_l13Rd_pick.f (m : Int) l (s : Int)).bind fun t8 => (spec_l3Some.f k (wrap64 (1 + t8.1)) t8.2.1 t8.2.2).bind fun t9 => (spec_l3Some.f k (wrap64 (1 + t8.1)) t9.2.1 t9.2.2).bind fun t10 => (spec_l13Rd_pick.f (wrap64 ((wrap64 (2 * (wrap64 (1 + t8.1)))) + 1)) t10.2.1 t10.2.2).bind fun t11 => spec_l3Draw.l0 k (wrap64 (1 + t8.1)) (wrap64 (1 + t11.1)) 0 t11.2.1 t11.2.2 (wrap64 (1 + t8.1)) t9.1 t10.1 ([] : List Stp)) (r.1,r.2.1,r.2.2.1,r.2.2.2,l,(s' : Int)):=fun s hs => by
  obtain ⟨v,hv,p1⟩:=pick_r l hl hb s m (by omega) h1 (by omega)
  obtain ⟨st,hst,p2⟩:=some_r l hl hb (v + 1) (by omega) (s + 1) (by omega)
  obtain ⟨fi,hfi,p3⟩:=some_r l hl hb (v + 1) (by omega) (s + 1 + (v + 1)) (by omega)
  obtain ⟨c,hc,p4⟩:=pick_r l hl hb (s + 1 + (v + 1) + (v + 1)) (2 * (v + 1) + 1) (by omega) (by omega) (by omega)
  obtain ⟨r,s',g1,g2,g3⟩:=steps_q l hl hb (v + 1) (by omega) (by omega) st fi (by omega) (by omega) (s + 1 + (v + 1) + (v + 1) + 1) (by omega) (c + 1) (by omega) (c + 1) 0 (s + 1 + (v + 1) + (v + 1) + 1) [] (by omega) (Nat.le_refl _) (by omega)
  refine ⟨r,s',g1,by omega,?_⟩
  have e1:=w1p v (by omega)
  have e2:=w2p v
  have e3:=w1p c
  replace e2:=e2 (by clear e1 e2 e3;omega)
  replace e3:=e3 (by clear e1 e2 e3;omega)
  refine Ev.bind (ev_some (fun _ => p1)) ?_
  simp only [e1]
  refine Ev.bind p2 (Ev.bind p3 ?_)
  simp only [e2]
  refine Ev.bind (ev_some (fun _ => p4)) ?_
  simp only [e3]
  exact g3
 obtain ⟨v,hv,p1⟩:=pick_r l hl hb s 3 (by omega) (by omega) (by omega)
 have p1 : spec_l13Rd_pick.f 3 l (s : Int) = some ((v : Int),l,((s + 1 : Nat) : Int)):=p1
 by_cases q : (v : Int) = 0
 ·obtain ⟨u,hu,p2⟩:=pick_r l hl hb (s + 1) 9 (by omega) (by omega) (by omega)
  have p2 : spec_l13Rd_pick.f 9 l ((s + 1 : Nat) : Int) = some ((u : Int),l,((s + 1 + 1 : Nat) : Int)):=p2
  obtain ⟨r,r1,r2⟩:=known_r u hu
  by_cases q2 : r.1 ≤ (m : Int)
  ·refine ⟨r,s + 1 + 1,r1,by omega,?_⟩
   unfold spec_l3Draw.f
   exact Ev.bind (ev_some (fun _ => p1)) (Ev_t q (Ev.bind (ev_some (fun _ => p2)) (Ev.bind r2 (Ev_t q2 (Ev.now _)))))
  ·obtain ⟨r',s',g1,g2,g3⟩:=rest (s + 1 + 1) (by omega)
   refine ⟨r',s',g1,by omega,?_⟩
   unfold spec_l3Draw.f
   exact Ev.bind (ev_some (fun _ => p1)) (Ev_t q (Ev.bind (ev_some (fun _ => p2)) (Ev.bind r2 (Ev_f q2 g3))))
 ·obtain ⟨r',s',g1,g2,g3⟩:=rest (s + 1) (by omega)
  refine ⟨r',s',g1,by omega,?_⟩
  unfold spec_l3Draw.f
  exact Ev.bind (ev_some (fun _ => p1)) (Ev_f q g3)
theorem bad_q (l : List Int) (hl : l.length ≤ 2000) (hb : Bytes l) (a : Int × List Int × List Int × List Stp) (ha : Small a) (s : Nat) (hs : s ≤ 901000) :
  ∃ (r : Int × List Int × List Int × List Stp) (s' : Nat),(r.2.1.length ≤ 1000 ∧ r.2.2.1.length ≤ 1000 ∧ r.2.2.2.length ≤ 1000) ∧ s' ≤ s + 10 ∧ spec_l3Bad.f a.1 a.2.1 a.2.2.1 a.2.2.2 l (s : Int) = some (r.1,r.2.1,r.2.2.1,r.2.2.2,l,(s' : Int)):=by
 obtain ⟨a0,a1,a2,a3⟩:=a
 obtain ⟨h1,h2,h3⟩:=ha
 have h1 : a1.length ≤ 100:=h1
 have h2 : a2.length ≤ 100:=h2
 have h3 : a3.length ≤ 100:=h3
 obtain ⟨v,_,p1⟩:=pick_r l hl hb s 36 (by omega) (by omega) (by omega)
 have p1 : spec_l13Rd_pick.f 36 l (s : Int) = some ((v : Int),l,((s + 1 : Nat) : Int)):=p1
 unfold spec_l3Bad.f
 simp only [p1,Option.bind_some]
 by_cases c0 : (v : Int) = 0
 ·obtain ⟨x,_,p2⟩:=num_r l hl hb (s + 1) (by omega) [0,5,(-1),1,9223372036854775807] (by simp) (by simp)
  refine ⟨(x,a1,a2,a3),s + 1 + 1,⟨by show a1.length ≤ 1000;omega,by show a2.length ≤ 1000;omega,by show a3.length ≤ 1000;omega⟩,by omega,?_⟩
  rw [if_pos c0,p2,Option.bind_some]
 rw [if_neg c0]
 by_cases c1 : (v : Int) = 1
 ·obtain ⟨w,_,p2⟩:=pick_r l hl hb (s + 1) 2 (by omega) (by omega) (by omega)
  have p2 : spec_l13Rd_pick.f 2 l ((s + 1 : Nat) : Int) = some ((w : Int),l,((s + 1 + 1 : Nat) : Int)):=p2
  obtain ⟨x,_,p3⟩:=of_r l hl hb (s + 1 + 1) (by omega) [(⟨#[97]⟩ : ByteArray),(⟨#[99]⟩ : ByteArray),(⟨#[]⟩ : ByteArray)] (by simp) (by simp)
  obtain ⟨y,_,p4⟩:=num_r l hl hb (s + 1 + 1 + 1) (by omega) [0,4,(-1)] (by simp) (by simp)
  obtain ⟨z,_,p5⟩:=num_r l hl hb (s + 1 + 1 + 1 + 1) (by omega) [0,4,(-1)] (by simp) (by simp)
  refine ⟨(a0,a1,a2,(([] : List Stp) ++ a3) ++ [(⟨(w : Int),x,y,z⟩ : Stp)]),s + 1 + 1 + 1 + 1 + 1,⟨by show a1.length ≤ 1000;omega,by show a2.length ≤ 1000;omega,by simp;omega⟩,by omega,?_⟩
  rw [if_pos c1,if_pos (by simp only [List.length_nil];omega),p2,Option.bind_some,p3,Option.bind_some,p4,Option.bind_some,p5,Option.bind_some,if_pos (by simp;omega)]
 rw [if_neg c1]
 by_cases c2 : (v : Int) = 2
 ·obtain ⟨x,_,p2⟩:=num_r l hl hb (s + 1) (by omega) [0,4,(-1)] (by simp) (by simp)
  refine ⟨(a0,(([] : List Int) ++ a1) ++ [x],a2,a3),s + 1 + 1,⟨by simp;omega,by show a2.length ≤ 1000;omega,by show a3.length ≤ 1000;omega⟩,by omega,?_⟩
  rw [if_pos c2,if_pos (by simp only [List.length_nil];omega),p2,Option.bind_some,if_pos (by simp;omega)]
 ·exact ⟨(a0,a1,a2,a3),s + 1,⟨by show a1.length ≤ 1000;omega,by show a2.length ≤ 1000;omega,by show a3.length ≤ 1000;omega⟩,by omega,by rw [if_neg c2]⟩
end Go.Proofs.YthnjbjihphbcpaaGreat.V
end
section
set_option linter.unusedVariables false
set_option linter.unusedSimpArgs false
namespace Go.Proofs.YthnjbjihphbcpaaGreat.V
open Go Go.Proofs.YthnjbjihphbcpaaGreat.R Go.RowKit
open Go.Proofs.YthnjbjihphbcpaaGreatW.PrintWords hiding mn mx
theorem endL_hit (c : List UInt8) (v : List Int) (p : Nat) (t : List Stp) (nx : List Int) (hp : p < nx.length) (hlt : (endL c t v nx).getD p 0 < nx.getD p 0) : ∃ s ∈ t,s.f1.toList = c ∧ s.f0.toNat = p ∧ s.f3 + v.getD s.f2.toNat 0 = (endL c t v nx).getD p 0:=by
 have h:=(le_endL c v ((endL c t v nx).getD p 0) p t nx hp).1 (Int.le_refl _)
 have h2 : ¬ (endL c t v nx).getD p 0 + 1 ≤ (endL c t v nx).getD p 0:=by omega
 rw [le_endL c v _ p t nx hp] at h2
 by_cases q : ∀ s ∈ t,s.f1.toList = c → s.f0.toNat = p → (endL c t v nx).getD p 0 + 1 ≤ s.f3 + v.getD s.f2.toNat 0
 ·exact absurd ⟨by omega,q⟩ h2
 ·simp only [Classical.not_forall] at q
  obtain ⟨s,q1,q2,q3,q4⟩:=q
  have:=h.2 s q1 q2 q3
  exact ⟨s,q1,q2,q3,by omega⟩
theorem le_costL (v s : List Int) (x : Int) : x ≤ costL s v ↔ x ≤ 1000000 ∧ ∀ l ∈ s,x ≤ v.getD l.toNat 0:=le_foldI (fun p => v.getD p.toNat 0) x s 1000000
theorem costL_hit (v : List Int) (s : List Int) (h : costL s v < 1000000) : ∃ p ∈ s,v.getD p.toNat 0 = costL s v:=by
 by_cases q : ∀ p ∈ s,costL s v + 1 ≤ v.getD p.toNat 0
 ·have:=(le_costL v s _).2 ⟨by omega,q⟩;omega
 ·simp only [Classical.not_forall] at q
  obtain ⟨p,q1,q2⟩:=q
  have:=((le_costL v s _).1 (Int.le_refl _)).2 p q1
  exact ⟨p,q1,by omega⟩
theorem costL_in (v s : List Int) (hv : ∀ p ∈ s,0 ≤ v.getD p.toNat 0) : 0 ≤ costL s v ∧ costL s v ≤ 1000000:=⟨(le_costL v s 0).2 ⟨by omega,hv⟩,((le_costL v s _).1 (Int.le_refl _)).1⟩
def endsL (n : Nat) (t : List Stp) (f : List Int) : List UInt8 → List (List Int)
 | [] => [finL n f]
 | c :: w => endsL n t f w ++ [colL n t (c :: w) (finL n f)]
theorem endsL_len (n : Nat) (t : List Stp) (f : List Int) : ∀ w,(endsL n t f w).length = w.length + 1
 | [] => rfl
 | c :: w => by simp [endsL,endsL_len n t f w]
theorem endsL_get (n : Nat) (t : List Stp) (f : List Int) : ∀ (u e : List UInt8),(endsL n t f (u ++ e)).getD e.length [] = colL n t e (finL n f)
 | [],[] => rfl
 | [],c :: e => by
  show (endsL n t f e ++ [colL n t (c :: e) (finL n f)]).getD (e.length + 1) [] = _
  rw [List.getD_eq_getElem?_getD,List.getElem?_append_right (by rw [endsL_len];omega),endsL_len]
  simp
 | c :: u,e => by
  show (endsL n t f (u ++ e) ++ [colL n t (c :: (u ++ e)) (finL n f)]).getD e.length [] = _
  have:=endsL_get n t f u e
  rw [List.getD_eq_getElem?_getD] at this ⊢
  rw [List.getElem?_append_left (by rw [endsL_len];simp;omega)]
  exact this
def hitB (n : Nat) (t : List Stp) (f : List Int) (c : UInt8) (w : List UInt8) (p : Int) (s : Stp) : Bool:=decide (s.f0 = p ∧ s.f1.toList = [c] ∧ s.f3 + (colL n t w (finL n f)).getD s.f2.toNat 0 = (colL n t (c :: w) (finL n f)).getD p.toNat 0)
theorem hit_ex (n : Nat) (h1 : 1 ≤ n) (h4 : n ≤ 4) (t : List Stp) (hs : stp (n : Int) none t = true) (f : List Int) (c : UInt8) (w : List UInt8) (p : Int) (h0 : 0 ≤ p) (hp : p < (n : Int)) (hlt : (colL n t (c :: w) (finL n f)).getD p.toNat 0 < 1000000) : ∃ s,t.find? (hitB n t f c w p) = some s:=by
 have ht:=stp_mem hs
 have e:=col_step n h4 t hs c (colL n t w (finL n f)) (fun l hl => ((col_full n h1 h4 t ht f w).2 l hl).1)
 have e : colL n t (c :: w) (finL n f) = endL [c] t (colL n t w (finL n f)) (List.replicate n 1000000):=e
 have hpn : p.toNat < n:=by omega
 obtain ⟨s,q1,q2,q3,q4⟩:=endL_hit [c] (colL n t w (finL n f)) p.toNat t (List.replicate n 1000000) (by rw [List.length_replicate];exact hpn) (by
  rw [← e]
  have : (List.replicate n (1000000 : Int)).getD p.toNat 0 = 1000000:=by simp [List.getD_eq_getElem?_getD,hpn]
  rw [this];exact hlt)
 have os:=of_decide_eq_true (show decide _ = true from ht s q1)
 have : hitB n t f c w p s = true:=decide_eq_true ⟨by omega,q2,by rw [q4,← e]⟩
 cases q : t.find? (hitB n t f c w p) with
 | some s => exact ⟨s,rfl⟩
 | none => exact absurd this (List.find?_eq_none.1 q s q1)
def runL (n : Nat) (t : List Stp) (f : List Int) : List UInt8 → Int → List Int
 | [],_ => []
 | c :: w,p => match t.find? (hitB n t f c w p) with
  | some s => s.f2 :: runL n t f w s.f2
  | none => []
theorem runL_len (n : Nat) (t : List Stp) (f : List Int) : ∀ w p,(runL n t f w p).length ≤ w.length
 | [],_ => Nat.le_refl _
 | c :: w,p => by
  unfold runL
  split
  ·simp only [List.length_cons];have:=runL_len n t f w;rename_i s _;have:=this s.f2;omega
  ·simp
def startB (v : List Int) (c : Int) (q : Int) : Bool:=decide (v.getD q.toNat 0 = c)
theorem start_ex (v s : List Int) (h : costL s v < 1000000) : ∃ q,s.find? (startB v (costL s v)) = some q:=by
 obtain ⟨p,h1,h2⟩:=costL_hit v s h
 cases q : s.find? (startB v (costL s v)) with
 | some s => exact ⟨s,rfl⟩
 | none => exact absurd (decide_eq_true h2) (List.find?_eq_none.1 q p h1)
def runR (n : Int) (s f : List Int) (t : List Stp) (w : ByteArray) : List Int × Bool :=
 if AV n s f t = true ∧ wordB (L w) = true ∧ costL s (colL n.toNat t (L w) (finL n.toNat f)) < 1000000 then
  match s.find? (startB (colL n.toNat t (L w) (finL n.toNat f)) (costL s (colL n.toNat t (L w) (finL n.toNat f)))) with
  | some q => (q :: runL n.toNat t f (L w) q,true)
  | none => ([],true)
 else ([],false)
theorem endL_cons (c : List UInt8) (s : Stp) (t : List Stp) (v nx : List Int) : endL c (s :: t) v nx = endL c t v (if s.f1.toList = c then nx.set s.f0.toNat (mn (nx.getD s.f0.toNat 0) (s.f3 + v.getD s.f2.toNat 0)) else nx):=rfl
theorem plt {a b c : Nat} (h : b = a + (c + 1)) : (a : Int) < (b : Int):=by omega
theorem psm {a b c : Nat} (h : b = a + (c + 1)) (hb : b ≤ 1000000000) : a < 1000000000000:=by omega
theorem wpre {α : Type} {pre : List α} {y : α} {b c : Nat} (h : b = pre.length + (c + 1)) (hb : b ≤ 1000000000) : wrap64 ((pre.length : Int) + 1) = (((pre ++ [y]).length : Nat) : Int):=by rw [wnat (psm h hb),List.length_append];rfl
theorem wadd {a b : Int} (h : 0 ≤ a ∧ a ≤ 1000000000) (h' : 0 ≤ b ∧ b ≤ 1000000000) : wrap64 (a + b) = a + b:=w64 (by omega) (by omega)
theorem wsub {a b c : Int} (e : a + b = c) (h' : 0 ≤ b ∧ b ≤ 1000000000) : wrap64 (c - a) = b:=by rw [← e,w64 (by omega) (by omega)];omega
theorem lt_of_add {a b c : Int} (e : a + b = c) (h0 : 0 ≤ a) (h : c < 1000000) : b < 1000000:=by omega
theorem int_nat {y : Int} (h : 0 ≤ y) : ∃ m : Nat,y = (m : Int):=⟨y.toNat,by omega⟩
theorem toNat_lt' {y : Int} {n : Nat} (h : y < (n : Int)) (h0 : 0 ≤ y) : y.toNat < n:=by omega
theorem iEnd2 (n : Nat) (s f : List Int) (t : List Stp) (ht : ∀ y ∈ t,stepOk n y = true) (hl : t.length ≤ 1000000000) (w : ByteArray) (hw : w.size ≤ 1000) (v : List Int) (hv : v.length = n) (hvb : ∀ l,l < n → 0 ≤ v.getD l 0 ∧ v.getD l 0 ≤ 1000000) (o : List (List Int)) (ho : o.length ≤ 2000) (i : Nat) (c : UInt8) (hi : i < w.size) (hc : (w.extract i (i + 1)).toList = [c]) (R : List (List Int)) :
  ∀ (u pre : List Stp) (nx : List Int),t = pre ++ u → nx.length = n →
   Ev (fun k => impl_toEnd.l1 k w (endL [c] u v nx) (o ++ [endL [c] u v nx]) (wrap64 ((i : Int) - 1)) (n : Int) s f t) R →
   Ev (fun k => impl_toEnd.l2 k w v o (i : Int) nx t (t.length : Int) (pre.length : Int) (n : Int) s f t) R:=by
 intro u
 induction u with
 | nil =>
  intro pre nx hp hn h
  refine Ev.step (fun k => ?_) h
  simp only [impl_toEnd.l2];rw [if_neg (by rw [hp];simp),if_pos (by omega)];rfl
 | cons y u ih =>
  intro pre nx hp hn h
  have hlen : t.length = pre.length + (u.length + 1):=by rw [hp];simp
  have hx : rdT t (pre.length : Int) = y:=by rw [hp,rdS_mid]
  obtain ⟨o1,o2,o3,o4,o5,o6,_⟩:=of_decide_eq_true (show decide _ = true from ht y (by rw [hp];simp))
  have a0 : (pre.length : Int) < (t.length : Int):=Int.ofNat_lt.2 (by clear ih h;omega)
  have a1 : 0 ≤ (pre.length : Int):=Int.natCast_nonneg _
  have a2 : 0 ≤ (i : Int):=Int.natCast_nonneg _
  have a3 : (i : Int) ≤ ((i + 1 : Nat) : Int):=Int.ofNat_le.2 (Nat.le_succ i)
  have a4 : ((i + 1 : Nat) : Int) ≤ (w.size : Int):=Int.ofNat_le.2 hi
  have wi : wrap64 ((i : Int) + 1) = ((i + 1 : Nat) : Int):=wnat (by clear ih h;omega)
  have wp : wrap64 ((pre.length : Int) + 1) = (((pre ++ [y]).length : Nat) : Int):=by rw [wnat (by clear ih h;omega),List.length_append];rfl
  rw [endL_cons] at h
  by_cases e : y.f1.toList = [c]
  ·rw [if_pos e] at h
   have b:=hvb y.f2.toNat (by omega)
   have a5 : y.f0 < (nx.length : Int):=by omega
   have a6 : y.f2 < (v.length : Int):=by omega
   have hw3 : wrap64 (y.f3 + v.getD y.f2.toNat 0) = y.f3 + v.getD y.f2.toNat 0:=w64 (by omega) (by omega)
   refine Ev.step (fun k => ?_) (ih (pre ++ [y]) (nx.set y.f0.toNat (mn (nx.getD y.f0.toNat 0) (y.f3 + v.getD y.f2.toNat 0))) (by simp [hp]) (by rw [List.length_set];exact hn) h)
   simp only [impl_toEnd.l2]
   rw [if_pos a0,if_pos a1,if_pos a0,if_pos a2,wi,if_pos a3,if_pos a4,hx]
   simp only [Int.toNat_natCast]
   rw [if_pos (e.trans hc.symm),if_pos o1,if_pos a5,if_pos o3,if_pos a6,wp]
   unfold rdI
   rw [hw3]
  ·rw [if_neg e] at h
   refine Ev.step (fun k => ?_) (ih (pre ++ [y]) nx (by simp [hp]) hn h)
   simp only [impl_toEnd.l2]
   rw [if_pos a0,if_pos a1,if_pos a0,if_pos a2,wi,if_pos a3,if_pos a4,hx]
   simp only [Int.toNat_natCast]
   rw [if_neg (fun q => e (q.trans hc)),wp]
theorem repInt (n : Nat) (h1 : 1 ≤ n) (h4 : n ≤ 4) : slices_Repeat_int_int.f [1000000] (n : Int) = some (List.replicate n 1000000):=by
 unfold slices_Repeat_int_int.f
 rw [if_pos ⟨rfl,by omega,by omega⟩]
 simp [rdI]
theorem iEnd1 (n : Nat) (h1 : 1 ≤ n) (h4 : n ≤ 4) (s f : List Int) (t : List Stp) (hs : stp (n : Int) none t = true) (hl : t.length ≤ 1000000000) (w : ByteArray) (hw : w.size ≤ 1000) :
  ∀ (m : Nat) (u e : List UInt8),u.length = m → L w = u ++ e → Ev (fun k => impl_toEnd.l1 k w (colL n t e (finL n f)) (endsL n t f e) ((u.length : Int) - 1) (n : Int) s f t) (endsL n t f (L w)):=by
 have ht:=stp_mem hs
 intro m
 induction m with
 | zero =>
  intro u e hm he
  have : u = []:=List.eq_nil_of_length_eq_zero hm
  subst this
  refine Ev.step (f:=fun _ => some (endsL n t f e)) (fun k => ?_) ((Ev.now _).is (by rw [he];rfl))
  simp only [impl_toEnd.l1];rw [if_neg (by simp)]
 | succ m ih =>
  intro u e hm he
  obtain ⟨u',c,rfl⟩ : ∃ u' c,u = u' ++ [c]:=by
   rcases List.eq_nil_or_concat u with h | ⟨u',c,h⟩
   ·subst h;simp at hm
   ·exact ⟨u',c,by simpa using h⟩
  have he' : L w = u' ++ c :: e:=by rw [he];simp
  have hz:=size_suffix he'
  simp only [List.length_cons] at hz
  have full:=col_full n h1 h4 t ht f e
  have ex : (((u' ++ [c]).length : Nat) : Int) - 1 = (u'.length : Int):=by simp
  have step:=col_step n h4 t hs c (colL n t e (finL n f)) (fun l hl => (full.2 l hl).1)
  have step : colL n t (c :: e) (finL n f) = endL [c] t (colL n t e (finL n f)) (List.replicate n 1000000):=step
  have nxt:=ih u' (c :: e) (by simpa using hm) he'
  refine Ev.step (fun k => ?_) (iEnd2 n s f t ht hl w hw (colL n t e (finL n f)) full.1 full.2 (endsL n t f e) (by rw [endsL_len];omega) u'.length c (by omega) (one_letter w he') (endsL n t f (L w)) t [] (List.replicate n 1000000) rfl (by simp) ?_)
  ·simp only [impl_toEnd.l1]
   rw [ex,if_pos (by omega),repInt n h1 h4,Option.bind_some];rfl
  ·rw [← step,w64 (by omega) (by omega)]
   exact nxt
theorem iEnd0 (n : Nat) (s f : List Int) (t : List Stp) (hf : ∀ q ∈ f,0 ≤ q ∧ q < (n : Int)) (lf : f.length ≤ 1000000000) (w : ByteArray) (R : List (List Int)) :
  ∀ (u pre : List Int) (v : List Int),f = pre ++ u → v.length = n →
   Ev (fun k => impl_toEnd.l1 k w (u.foldl (fun (v : List Int) (q : Int) => v.set q.toNat 0) v) [u.foldl (fun (v : List Int) (q : Int) => v.set q.toNat 0) v] (wrap64 ((w.size : Int) - 1)) (n : Int) s f t) R →
   Ev (fun k => impl_toEnd.l0 k w v f (f.length : Int) (pre.length : Int) (n : Int) s f t) R:=by
 intro u
 induction u with
 | nil =>
  intro pre v hp hn h
  refine Ev.step (fun k => ?_) h
  simp only [impl_toEnd.l0];rw [if_neg (by rw [hp];simp)];rfl
 | cons y u ih =>
  intro pre v hp hn h
  have hlen : f.length = pre.length + (u.length + 1):=by rw [hp];simp
  have hx : rdI f (pre.length : Int) = y:=by rw [hp,rd_mid]
  obtain ⟨y0,yn⟩:=hf y (by rw [hp];simp)
  have a0 : (pre.length : Int) < (f.length : Int):=by omega
  have wp : wrap64 ((pre.length : Int) + 1) = (((pre ++ [y]).length : Nat) : Int):=by rw [w64 (by omega) (by omega),snocA]
  refine Ev.step (fun k => ?_) (ih (pre ++ [y]) (v.set y.toNat 0) (by simp [hp]) (by simp [hn]) h)
  simp only [impl_toEnd.l0]
  rw [if_pos a0,if_pos (by omega),if_pos a0,hx,if_pos y0,if_pos (by omega),wp]
theorem iToEnd (n : Nat) (h1 : 1 ≤ n) (h4 : n ≤ 4) (s f : List Int) (t : List Stp) (hs : stp (n : Int) none t = true) (hl : t.length ≤ 1000000000) (hf : ∀ q ∈ f,0 ≤ q ∧ q < (n : Int)) (lf : f.length ≤ 1000000000) (w : ByteArray) (hw : w.size ≤ 1000) : Ev (fun k => impl_toEnd.f k (n : Int) s f t w) (endsL n t f (L w)):=by
 unfold impl_toEnd.f
 simp only [repInt n h1 h4,Option.bind_some]
 refine iEnd0 n s f t hf lf w _ f [] (List.replicate n 1000000) rfl (by simp) ?_
 rw [w64 (by omega) (by omega)]
 have h:=iEnd1 n h1 h4 s f t hs hl w hw (L w).length (L w) [] rfl (by simp)
 rw [← L_size] at h
 exact h
theorem iCost0 (n : Nat) (w : ByteArray) (o : List (List Int)) (v : List Int) (hv : v.length = n) (ho : (w.size : Int) < (o.length : Int)) (hr : rdL o (w.size : Int) = v) (s : List Int) (hs : ∀ q ∈ s,0 ≤ q ∧ q < (n : Int)) (ls : s.length ≤ 1000000000) :
  ∀ (u pre : List Int) (acc : Int),s = pre ++ u → Ev (fun k => impl_CostOf.l0 k w o acc s (s.length : Int) (pre.length : Int)) (u.foldl (fun acc p => mn acc (v.getD p.toNat 0)) acc):=by
 intro u
 induction u with
 | nil =>
  intro pre acc hp
  refine Ev.step (f:=fun _ => some acc) (fun k => ?_) (Ev.now _)
  simp only [impl_CostOf.l0];rw [if_neg (by rw [hp];simp)]
 | cons y u ih =>
  intro pre acc hp
  have hlen : s.length = pre.length + (u.length + 1):=by rw [hp];simp
  have hx : rdI s (pre.length : Int) = y:=by rw [hp,rd_mid]
  obtain ⟨y0,yn⟩:=hs y (by rw [hp];simp)
  have a0 : (pre.length : Int) < (s.length : Int):=by omega
  have wp : wrap64 ((pre.length : Int) + 1) = (((pre ++ [y]).length : Nat) : Int):=by rw [w64 (by omega) (by omega),snocA]
  refine Ev.step (fun k => ?_) (ih (pre ++ [y]) (mn acc (v.getD y.toNat 0)) (by simp [hp]))
  simp only [impl_CostOf.l0]
  rw [if_pos a0,if_pos (by omega),if_pos a0,if_pos (by omega),if_pos ho,hx,if_pos y0,hr,if_pos (by omega),wp];rfl
def costR (n : Int) (s f : List Int) (t : List Stp) (w : ByteArray) : Int:=if AV n s f t = true ∧ wordB (L w) = true then costL s (colL n.toNat t (L w) (finL n.toNat f)) else -1
theorem iCostOf (n : Int) (s f : List Int) (t : List Stp) (w : ByteArray) (ls : s.length ≤ 1000000000) (lf : f.length ≤ 1000000000) (hl : t.length ≤ 1000000000) (hw : w.size ≤ 4000000) : Ev (fun k => impl_CostOf.f k n s f t w) (costR n s f t w):=by
 unfold impl_CostOf.f
 refine Ev.bind (iAV n s f t ls lf hl) ?_
 by_cases g1 : AV n s f t = true
 case neg => exact Ev_f g1 ((Ev.now _).is (by unfold costR;rw [if_neg (fun h => g1 h.1)]))
 refine Ev_t g1 (Ev.bind (iWord_ev w hw) ?_)
 by_cases g2 : wordB (L w) = true
 case neg => exact Ev_f g2 ((Ev.now _).is (by unfold costR;rw [if_neg (fun h => g2 h.2)]))
 refine Ev_t g2 ?_
 obtain ⟨h1,h2,h3,h4,h5⟩:=AV_parts g1
 obtain ⟨z1,z2⟩:=wordB_size g2
 obtain ⟨m,rfl⟩ : ∃ m : Nat,n = (m : Int):=⟨n.toNat,by omega⟩
 refine Ev.bind (iToEnd m (by omega) (by omega) s f t h5 hl (mrk_mem h4) lf w z1) ?_
 have full:=col_full m (by omega) (by omega) t (stp_mem h5) f (L w)
 have hg:=endsL_get m t f [] (L w)
 rw [List.nil_append,← L_size] at hg
 have hr : rdL (endsL m t f (L w)) (w.size : Int) = colL m t (L w) (finL m f):=by unfold rdL;rw [Int.toNat_natCast];exact hg
 refine (iCost0 m w (endsL m t f (L w)) _ full.1 (by rw [endsL_len,← L_size];omega) hr s (mrk_mem h3) ls s [] 1000000 rfl).is ?_
 unfold costR costL
 rw [if_pos ⟨g1,g2⟩];rfl
theorem sCost (m : Nat) (s f : List Int) (t : List Stp) (w : ByteArray) (g1 : AV m s f t = true) (g2 : wordB (L w) = true) (ls : s.length ≤ 1000000000) (lf : f.length ≤ 1000000000) (hl : t.length ≤ 1000000000) : Ev (fun k => spec_l4Cost.f k (m : Int) s f t w) (costL s (colL m t (L w) (finL m f))):=by
 obtain ⟨h1,h2,h3,h4,h5⟩:=AV_parts g1
 have hu:=unit_MV m (by omega) (by omega)
 have hM:=wordL_MV m (by omega) (by omega) t (stp_mem h5) (L w) (sqL m unitE) hu
 unfold spec_l4Cost.f
 refine Ev.bind (sWordMx m s f t w g1 g2 hl) (Ev.bind (sLeast m (by omega) (by omega) s f t _ hM (mrk_mem h3) (mrk_mem h4) ls lf) ((Ev.now _).is ?_))
 exact cost_word m (by omega) (by omega) s f t (stp_mem h5) (fun q hq => by have:=mrk_mem h3 q hq;omega) (fun q hq => by have:=mrk_mem h4 q hq;omega) hu (L w)
def Rn (t : List Stp) : List UInt8 → Int → Int → Int → Prop
 | [],p,q,d => p = q ∧ d = 0
 | c :: w,p,q,d => ∃ (s : Stp) (e : Int),s ∈ t ∧ s.f0 = p ∧ s.f1.toList = [c] ∧ Rn t w s.f2 q e ∧ d = s.f3 + e
theorem mn_ge' {a b x : Int} : x ≤ a → x ≤ b → x ≤ mn a b:=fun h1 h2 => by unfold mn;split <;> assumption
def Lst (R : Int → Prop) (v : Int) : Prop:=v ≤ 1000000 ∧ (∀ d,R d → v ≤ d) ∧ (v < 1000000 → R v)
theorem Lst.uniq {R R' : Int → Prop} {v v' : Int} (h : Lst R v) (h' : Lst R' v') (e : ∀ d,R d ↔ R' d) : v = v':=by
 have a : v ≤ v':=by
  by_cases q : v' < 1000000
  ·exact h.2.1 v' ((e v').2 (h'.2.2 q))
  ·have:=h.1;omega
 have b : v' ≤ v:=by
  by_cases q : v < 1000000
  ·exact h'.2.1 v ((e v).1 (h.2.2 q))
  ·have:=h'.1;omega
 omega
theorem Lst.nn {R : Int → Prop} {v : Int} (h : Lst R v) (n : ∀ d,R d → 0 ≤ d) : 0 ≤ v:=by
 by_cases q : v < 1000000
 ·exact n v (h.2.2 q)
 ·omega
theorem Lst.or {R R' : Int → Prop} {v v' : Int} (h : Lst R v) (h' : Lst R' v') : Lst (fun d => R d ∨ R' d) (mn v v'):=by
 have a:=mn_le1 v v'
 refine ⟨by have:=h.1;omega,fun d g => ?_,fun q => ?_⟩
 ·rcases g with g|g
  ·have:=h.2.1 d g;omega
  ·have:=h'.2.1 d g;omega
 ·have:=mn_ge' (a:=v) (b:=v') (x:=mn v v' + 1)
  by_cases g : v = mn v v'
  ·left;rw [← g];exact h.2.2 (by omega)
  ·have : v' = mn v v':=by
    by_cases g2 : v' = mn v v'
    ·exact g2
    ·have:=this (by omega) (by omega);omega
   right;rw [← this];exact h'.2.2 (by omega)
theorem Lst.add {R R' : Int → Prop} {v v' : Int} (h : Lst R v) (h' : Lst R' v') (n : ∀ d,R d → 0 ≤ d) (n' : ∀ d,R' d → 0 ≤ d) : Lst (fun d => ∃ a b,R a ∧ R' b ∧ d = a + b) (mn (v + v') 1000000):=by
 have m:=mn_le1 (v + v') 1000000
 have p:=h.nn n
 have p':=h'.nn n'
 refine ⟨m.2,?_,fun q => ?_⟩
 ·rintro d ⟨a,b,ha,hb,rfl⟩
  have:=h.2.1 a ha
  have:=h'.2.1 b hb
  omega
 ·have e : mn (v + v') 1000000 = v + v':=by
   have:=mn_ge' (a:=v + v') (b:=1000000) (x:=mn (v + v') 1000000 + 1)
   by_cases g : v + v' = mn (v + v') 1000000
   ·exact g.symm
   ·have:=this (by omega) (by omega);omega
  rw [e] at q ⊢
  exact ⟨v,v',h.2.2 (by omega),h'.2.2 (by omega),rfl⟩
theorem Rn_nn {t : List Stp} (ht : ∀ x ∈ t,0 ≤ x.f3) : ∀ {w : List UInt8} {p q d : Int},Rn t w p q d → 0 ≤ d
 | [],_,_,_,h => by have:=h.2;omega
 | _ :: _,_,_,_,⟨s,e,hs,_,_,hr,he⟩ => by have:=ht s hs;have:=Rn_nn ht hr;omega
theorem stepOk_all {n : Int} {x : Stp} (h : stepOk n x = true) : 0 ≤ x.f0 ∧ x.f0 < n ∧ 0 ≤ x.f2 ∧ x.f2 < n ∧ 0 ≤ x.f3:=by
 have q:=of_decide_eq_true (show decide _ = true from h)
 exact ⟨q.1,q.2.1,q.2.2.1,q.2.2.2.1,q.2.2.2.2.1⟩
theorem Rn_nn' {n : Int} {t : List Stp} (ht : ∀ x ∈ t,stepOk n x = true) {w : List UInt8} {p q d : Int} (h : Rn t w p q d) : 0 ≤ d:=Rn_nn (fun x hx => (stepOk_all (ht x hx)).2.2.2.2) h
theorem Rn_in {n : Int} {t : List Stp} (ht : ∀ x ∈ t,stepOk n x = true) : ∀ {w : List UInt8} {p q d : Int},0 ≤ p ∧ p < n → Rn t w p q d → 0 ≤ q ∧ q < n
 | [],_,_,_,hp,h => by have:=h.1;omega
 | _ :: _,_,_,_,_,⟨s,e,hs,_,_,hr,_⟩ => Rn_in ht ⟨(stepOk_all (ht s hs)).2.2.1,(stepOk_all (ht s hs)).2.2.2.1⟩ hr
theorem Rn_mono {t u : List Stp} (h : ∀ x ∈ t,x ∈ u) : ∀ {w : List UInt8} {p q d : Int},Rn t w p q d → Rn u w p q d
 | [],_,_,_,g => g
 | _ :: _,_,_,_,⟨s,e,hs,a,b,hr,c⟩ => ⟨s,e,h s hs,a,b,Rn_mono h hr,c⟩
theorem col_runs (n : Nat) (h1 : 1 ≤ n) (h4 : n ≤ 4) (t : List Stp) (hs : stp (n : Int) none t = true) (f : List Int) (hf : ∀ q ∈ f,0 ≤ q ∧ q < (n : Int)) : ∀ (w : List UInt8) (p : Int),0 ≤ p → p < (n : Int) → Lst (fun d => ∃ q ∈ f,Rn t w p q d) ((colL n t w (finL n f)).getD p.toNat 0):=by
 intro w
 have ht:=stp_mem hs
 induction w with
 | nil =>
  intro p p0 pn
  have e : colL n t [] (finL n f) = finL n f:=rfl
  rw [e]
  rcases finL_get n f p.toNat (by omega) with ⟨⟨q,hq,e⟩,h⟩ | ⟨hno,h⟩
  ·rw [h]
   have:=hf q hq
   refine ⟨by omega,?_,fun _ => ⟨q,hq,by omega,rfl⟩⟩
   rintro d ⟨q',_,_,e2⟩
   omega
  ·rw [h]
   refine ⟨Int.le_refl _,?_,fun h => absurd h (by omega)⟩
   rintro d ⟨q',hq',e1,_⟩
   exact (hno q' hq' (by rw [e1])).elim
 | cons c w ih =>
  intro p p0 pn
  have full:=col_full n h1 h4 t ht f w
  have full2:=col_full n h1 h4 t ht f (c :: w)
  have step:=col_step n h4 t hs c (colL n t w (finL n f)) (fun l hl => (full.2 l hl).1)
  have step : colL n t (c :: w) (finL n f) = endL [c] t (colL n t w (finL n f)) (List.replicate n 1000000):=step
  refine ⟨(full2.2 p.toNat (by omega)).2,?_,fun hlt => ?_⟩
  ·rintro d ⟨q,hq,s,e,hm,s0,s1,hr,rfl⟩
   have le:=((le_endL [c] (colL n t w (finL n f)) ((endL [c] t (colL n t w (finL n f)) (List.replicate n 1000000)).getD p.toNat 0) p.toNat t (List.replicate n 1000000) (by rw [List.length_replicate];omega)).1 (Int.le_refl _)).2 s hm s1 (by rw [s0])
   rw [← step] at le
   have os:=stepOk_all (ht s hm)
   have:=(ih s.f2 os.2.2.1 os.2.2.2.1).2.1 e ⟨q,hq,hr⟩
   omega
  ·obtain ⟨s0,hs0⟩:=hit_ex n h1 h4 t hs f c w p p0 pn hlt
   have hm:=List.mem_of_find?_eq_some hs0
   have os:=stepOk_all (ht s0 hm)
   have hh : hitB n t f c w p s0 = true:=by simpa using List.find?_some hs0
   obtain ⟨g1,g2,g3⟩:=of_decide_eq_true (show decide _ = true from hh)
   obtain ⟨q,hq,hr⟩:=(ih s0.f2 os.2.2.1 os.2.2.2.1).2.2 (by have:=os.2.2.2.2;omega)
   exact ⟨q,hq,s0,_,hm,g1,g2,hr,g3.symm⟩
def Acc (s f : List Int) (t : List Stp) (w : List UInt8) (d : Int) : Prop := ∃ p ∈ s,∃ q ∈ f,Rn t w p q d
theorem cost_runs {n : Int} {s f : List Int} {t : List Stp} (g : AV n s f t = true) {w : ByteArray} (hw : wordB (L w) = true) : Lst (Acc s f t (L w)) (costR n s f t w):=by
 obtain ⟨h1,h2,h3,h4,h5⟩:=AV_parts g
 unfold costR
 rw [if_pos ⟨g,hw⟩]
 obtain ⟨m,rfl⟩ : ∃ m : Nat,n = (m : Int):=⟨n.toNat,by omega⟩
 have hf : ∀ q ∈ f,0 ≤ q ∧ q < (m : Int):=mrk_mem h4
 have hs : ∀ q ∈ s,0 ≤ q ∧ q < (m : Int):=mrk_mem h3
 have key:=col_runs m (by omega) (by omega) t h5 f hf (L w)
 rw [Int.toNat_natCast]
 refine ⟨((le_costL _ _ _).1 (Int.le_refl _)).1,?_,fun h => ?_⟩
 ·rintro d ⟨p,hp,q,hq,hr⟩
  have a:=((le_costL (colL m t (L w) (finL m f)) s _).1 (Int.le_refl _)).2 p hp
  have b:=(key p (hs p hp).1 (hs p hp).2).2.1 d ⟨q,hq,hr⟩
  omega
 ·obtain ⟨p,hp,e⟩:=costL_hit _ _ h
  obtain ⟨q,hq,hr⟩:=(key p (hs p hp).1 (hs p hp).2).2.2 (by rw [e];exact h)
  rw [e] at hr
  exact ⟨p,hp,q,hq,hr⟩
theorem acc_nn {n : Int} {s f : List Int} {t : List Stp} (g : AV n s f t = true) {w : List UInt8} {d : Int} (h : Acc s f t w d) : 0 ≤ d:=by
 obtain ⟨p,_,q,_,hr⟩:=h
 obtain ⟨_,_,_,_,h5⟩:=AV_parts g
 exact Rn_nn' (stp_mem h5) hr
theorem cost_in {n : Int} {s f : List Int} {t : List Stp} (g : AV n s f t = true) {w : ByteArray} (hw : wordB (L w) = true) : 0 ≤ costR n s f t w ∧ costR n s f t w ≤ 1000000:=⟨(cost_runs g hw).nn fun d => acc_nn g,(cost_runs g hw).1⟩
theorem daSame_ev (a : List Int) (h : a.length ≤ 1000000000) : Ev (fun k => laws_daSame.f k a a) true:=by
 have go : ∀ (t pre : List Int),a = pre ++ t → Ev (fun k => laws_daSame.l0 k a a (a.length : Int) (pre.length : Int)) true:=by
  intro t
  induction t with
  | nil =>
   intro pre hp
   refine Ev.step (f:=fun _ => some (decide ((a.length : Int) = (a.length : Int)))) (fun k => ?_) ((Ev.now _).is (decide_eq_true rfl))
   simp only [laws_daSame.l0];rw [if_neg (by rw [hp];simp)]
  | cons x t ih =>
   intro pre hp
   have hlen : a.length = pre.length + (t.length + 1):=by rw [hp];simp
   have a0 : (pre.length : Int) < (a.length : Int):=by omega
   have e : (((pre ++ [x]).length : Nat) : Int) = wrap64 ((pre.length : Int) + 1):=by rw [w64 (by omega) (by omega)];simp
   have nx:=ih (pre ++ [x]) (by simp [hp])
   rw [e] at nx
   refine Ev.step (fun k => ?_) nx
   simp only [laws_daSame.l0]
   rw [if_pos a0,if_pos (Int.natCast_nonneg _),if_pos a0,if_pos a0,if_pos trivial]
 have e : mn (a.length : Int) (a.length : Int) = (a.length : Int):=by unfold mn;rw [if_neg (by omega)]
 unfold laws_daSame.f
 rw [e]
 exact go a [] rfl
theorem daMatrix_ev (n : Int) (a : List Int) (h : a.length ≤ 1000000000) : Ev (fun k => laws_daMatrix.f k n a n a) true:=by
 unfold laws_daMatrix.f
 exact Ev_t rfl (Ev.bind (daSame_ev a h) (Ev.now _))
def rvS (x : Stp) : Stp:=⟨x.f2,x.f1,x.f0,x.f3⟩
theorem iRevLoop (t : List Stp) (ht : t.length ≤ 1000) : Ev (fun k => impl_stepped.f k t) (t.map rvS):=by
 unfold impl_stepped.f
 refine ev_list t (fun pre k => impl_stepped.l0 k (pre.map rvS) t (t.length : Int) (pre.length : Int)) (fun pre x v h i1 => ?_) ?_
 ·obtain ⟨a0,hx',wn⟩:=at_T h (by omega)
  have hl' : pre.length ≤ t.length:=by rw [h];simp
  refine Ev.step (fun k => ?_) i1
  simp only [impl_stepped.l0,impl_ReverseAutomaton_1.f]
  rw [if_pos a0,if_pos (Int.natCast_nonneg _),if_pos a0,hx',Option.bind_some,if_pos (by rw [List.length_map];omega),wn,List.map_append]
  rfl
 ·refine Ev.step (f:=fun _ => some (t.map rvS)) (fun k => ?_) (Ev.now _)
  simp only [impl_stepped.l0];rw [if_neg (by omega)]
theorem rev_AV {n : Int} {s f : List Int} {t : List Stp} (h : AV n s f t = true) : AV n f s (sortT (t.map rvS)) = true ∧ ∀ x,x ∈ sortT (t.map rvS) ↔ x ∈ t.map rvS:=by
 obtain ⟨h1,h2,h4,h6,h7⟩:=AV_iff.1 h
 have hd : (t.map rvS).Pairwise fun x y => ordT x y ≠ 0:=diff_map (fun x hx y hy e => by
  obtain ⟨a,b,c⟩:=ordT_zero.1 e
  exact ordT_zero.2 ⟨c,b,a⟩) h7
 have hp : (putAll [] (t.map rvS)).Perm (t.map rvS):=by simpa using putAll_perm (t.map rvS) [] (by simpa using hd)
 rw [sortT_put hd]
 refine ⟨AV_iff.2 ⟨⟨h1.1,h1.2.1,by rw [hp.length_eq,List.length_map];exact h1.2.2⟩,h4,h2,fun x hx => ?_,putAll_asc _ _ List.Pairwise.nil⟩,fun x => hp.mem_iff⟩
 obtain ⟨y,hy,rfl⟩:=List.mem_map.1 (hp.subset hx)
 have q:=of_decide_eq_true (show decide _ = true from h6 y hy)
 exact decide_eq_true ⟨q.2.2.1,q.2.2.2.1,q.1,q.2.1,q.2.2.2.2.1,q.2.2.2.2.2.1,q.2.2.2.2.2.2⟩
theorem iRev (n : Int) (s f : List Int) (t : List Stp) (hs : s.length ≤ 1048576) (hf : f.length ≤ 1048576) (ht : t.length ≤ 1048576) : Ev (fun k => impl_ReverseAutomaton.f k n s f t) (if AV n s f t = true then (n,f,s,sortT (t.map rvS),true) else noneR):=by
 unfold impl_ReverseAutomaton.f
 refine Ev.bind (iAV n s f t (by omega) (by omega) (by omega)) ?_
 by_cases h : AV n s f t = true
 ·have hl:=AV_len h
  obtain ⟨h1,h2,h4,h6,h7⟩:=AV_iff.1 h
  refine Ev_t h (Ev.bind (iRevLoop t (by omega)) (Ev.bind (made_ev n f s (t.map rvS) (by omega) (by omega) (by rw [List.length_map];omega)) ((Ev.now _).is ?_)))
  rw [if_pos h,sortI_id h2.2,sortI_id h4.2]
  unfold wholeR
  rw [if_pos (rev_AV h).1]
 ·exact (Ev_f h (Ev.now _)).is (if_neg h).symm
theorem Rn_append {t : List Stp} : ∀ {u v : List UInt8} {p m q a b : Int},Rn t u p m a → Rn t v m q b → Rn t (u ++ v) p q (a + b)
 | [],v,p,m,q,a,b,h,g => by
  obtain ⟨rfl,rfl⟩:=h
  rw [Int.zero_add];exact g
 | c :: u,v,p,m,q,a,b,⟨s,e,hs,s0,s1,hr,hd⟩,g => ⟨s,e + b,hs,s0,s1,Rn_append hr g,by omega⟩
theorem Rn_back {t u : List Stp} (h : ∀ x ∈ t,rvS x ∈ u) : ∀ {w : List UInt8} {p q d : Int},Rn t w p q d → Rn u w.reverse q p d
 | [],p,q,d,g => ⟨g.1.symm,g.2⟩
 | c :: w,p,q,d,⟨s,e,hs,a,b,hr,hd⟩ => by
  have r:=Rn_back h hr
  have one : Rn u [c] s.f2 p s.f3:=⟨rvS s,0,h s hs,rfl,b,⟨a,rfl⟩,by show s.f3 = s.f3 + 0;omega⟩
  have j:=Rn_append r one
  rw [List.reverse_cons,hd,Int.add_comm]
  exact j
theorem cost_back {n : Int} {s f : List Int} {t : List Stp} (g : AV n s f t = true) {w v : ByteArray} (hw : wordB (L w) = true) (hv : L v = (L w).reverse) : costR n f s (sortT (t.map rvS)) v = costR n s f t w:=by
 obtain ⟨g2,mem⟩:=rev_AV g
 have hv2 : wordB (L v) = true:=by
  rw [hv]
  unfold wordB at *
  rw [Bool.and_eq_true,decide_eq_true_eq] at *
  refine ⟨?_,by rw [List.length_reverse];exact hw.2⟩
  rw [List.all_eq_true] at *
  exact fun x hx => hw.1 x (List.mem_reverse.1 hx)
 refine (cost_runs g2 hv2).uniq (cost_runs g hw) fun d => ?_
 rw [hv]
 constructor
 ·rintro ⟨p,hp,q,hq,hr⟩
  have:=Rn_back (u:=t) (fun x hx => by
   obtain ⟨y,hy,rfl⟩:=List.mem_map.1 ((mem x).1 hx)
   exact hy) hr
  rw [List.reverse_reverse] at this
  exact ⟨q,hq,p,hp,this⟩
 ·rintro ⟨p,hp,q,hq,hr⟩
  exact ⟨q,hq,p,hp,Rn_back (fun x hx => (mem _).2 (List.mem_map_of_mem hx)) hr⟩
theorem rv_loop : ∀ (m : Nat) (mid pre post : List Int),mid.length = m → (pre ++ mid ++ post).length ≤ 100000 → Ev (fun k => slices_Reverse_byte_byte.l0 k (pre ++ mid ++ post) (pre.length : Int) ((pre.length : Int) + (mid.length : Int) - 1)) (pre ++ mid.reverse ++ post):=by
 intro m
 induction m using Nat.strongRecOn with
 | _ m ih =>
  intro mid pre post hm hl
  by_cases h : m ≤ 1
  ·have e : mid.reverse = mid:=by
    match mid,hm with
    | [],_ => rfl
    | [x],_ => rfl
    | _ :: _ :: _,hm => simp only [List.length_cons] at hm;omega
   rw [e]
   refine Ev.step (f:=fun _ => some (pre ++ mid ++ post)) (fun k => ?_) (Ev.now _)
   simp only [slices_Reverse_byte_byte.l0]
   rw [if_neg (by omega)]
  ·obtain ⟨a,mid1,rfl⟩ : ∃ a r,mid = a :: r:=by
    cases mid with
    | nil => simp only [List.length_nil] at hm;omega
    | cons a r => exact ⟨a,r,rfl⟩
   rcases List.eq_nil_or_concat mid1 with e | ⟨mid2,b,e⟩
   ·rw [e] at hm;simp only [List.length_cons,List.length_nil] at hm;omega
   ·rw [List.concat_eq_append] at e
    subst e
    have lm : (a :: (mid2 ++ [b])).length = mid2.length + 2:=by simp
    have lt : (pre ++ a :: (mid2 ++ [b]) ++ post).length = pre.length + (mid2.length + 2) + post.length:=by simp only [List.length_append,lm]
    have nx:=ih mid2.length (by omega) mid2 (pre ++ [b]) (a :: post) rfl (by simp only [List.length_append,List.length_cons,List.length_nil];omega)
    have j : (pre.length : Int) + ((a :: (mid2 ++ [b])).length : Int) - 1 = ((pre.length + mid2.length + 1 : Nat) : Int):=by rw [lm];omega
    have ra : rdI (pre ++ a :: (mid2 ++ [b]) ++ post) (pre.length : Int) = a:=by
     have : pre ++ a :: (mid2 ++ [b]) ++ post = pre ++ a :: (mid2 ++ [b] ++ post):=by simp
     rw [this,rd_mid]
    have rb : rdI (pre ++ a :: (mid2 ++ [b]) ++ post) ((pre.length + mid2.length + 1 : Nat) : Int) = b:=by
     have : pre ++ a :: (mid2 ++ [b]) ++ post = (pre ++ a :: mid2) ++ b :: post:=by simp
     have l : pre.length + mid2.length + 1 = (pre ++ a :: mid2).length:=by simp;omega
     rw [this,l,rd_mid]
    have s1 : (pre ++ a :: (mid2 ++ [b]) ++ post).set pre.length b = pre ++ b :: (mid2 ++ [b] ++ post):=by
     have : pre ++ a :: (mid2 ++ [b]) ++ post = pre ++ a :: (mid2 ++ [b] ++ post):=by simp
     rw [this,List.set_append_right _ _ (Nat.le_refl _),Nat.sub_self,List.set_cons_zero]
    have s2 : (pre ++ b :: (mid2 ++ [b] ++ post)).set (pre.length + mid2.length + 1) a = (pre ++ [b]) ++ mid2 ++ (a :: post):=by
     have q : pre ++ b :: (mid2 ++ [b] ++ post) = (pre ++ b :: mid2) ++ b :: post:=by simp
     have l : pre.length + mid2.length + 1 = (pre ++ b :: mid2).length:=by simp;omega
     rw [q,l,List.set_append_right _ _ (Nat.le_refl _),Nat.sub_self,List.set_cons_zero]
     simp
    have res : (pre ++ [b]) ++ mid2.reverse ++ (a :: post) = pre ++ (a :: (mid2 ++ [b])).reverse ++ post:=by simp
    rw [res] at nx
    have i1 : wrap64 ((pre.length : Int) + 1) = (((pre ++ [b]).length : Nat) : Int):=by rw [w64 (by omega) (by omega)];simp
    have i2 : wrap64 (((pre.length + mid2.length + 1 : Nat) : Int) - 1) = (((pre ++ [b]).length : Nat) : Int) + (mid2.length : Int) - 1:=by rw [w64 (by omega) (by omega)];simp;omega
    have c1 : (pre.length : Int) < ((pre.length + mid2.length + 1 : Nat) : Int):=by omega
    have c2 : ((pre.length + mid2.length + 1 : Nat) : Int) < ((pre ++ a :: (mid2 ++ [b]) ++ post).length : Int):=by rw [lt];omega
    have c3 : (pre.length : Int) < ((pre ++ a :: (mid2 ++ [b]) ++ post).length : Int):=by rw [lt];omega
    refine Ev.step (fun k => ?_) nx
    simp only [slices_Reverse_byte_byte.l0]
    rw [j,if_pos c1,if_pos (Int.natCast_nonneg _),if_pos c2,if_pos (Int.natCast_nonneg _),if_pos c3,List.length_set,if_pos c2,ra,rb,Int.toNat_natCast,Int.toNat_natCast,s1,s2,i1,i2]
theorem iReverse (l : List Int) (h : l.length ≤ 100000) : Ev (fun k => slices_Reverse_byte_byte.f k l) l.reverse:=by
 unfold slices_Reverse_byte_byte.f
 rw [w64 (x:=(l.length : Int) - 1) (by omega) (by omega)]
 have:=rv_loop l.length l [] [] rfl (by simpa using h)
 simpa using this
theorem nums_rev (w : ByteArray) : strOfNums (numsOf w).reverse = B (L w).reverse:=by
 unfold strOfNums numsOf B L
 congr 2
 rw [← List.map_reverse,List.map_map]
 conv => rhs;rw [← List.map_id w.data.toList.reverse]
 refine List.map_congr_left fun x _ => ?_
 simp
def prefR (n : Int) (s f : List Int) (t : List Stp) (w : ByteArray) : List Int × Bool:=if AV n s f t = true ∧ wordB (L w) = true then ((List.range (w.size + 1)).map (fun i => costR n s f t (w.extract 0 i)),true) else ([],false)
theorem prefR_len (n : Int) (s f : List Int) (t : List Stp) (w : ByteArray) : (prefR n s f t w).1.length ≤ 1001:=by
 unfold prefR
 split
 ·rename_i h
  have:=(wordB_size h.2).1
  show ((List.range (w.size + 1)).map _).length ≤ _
  rw [List.length_map,List.length_range];omega
 ·exact Nat.zero_le _
theorem wordB_pre {w : List UInt8} (h : wordB w = true) (i : Nat) : wordB (w.take i) = true:=by
 unfold wordB at *
 simp only [Bool.and_eq_true,decide_eq_true_eq,List.all_eq_true,List.length_take] at *
 exact ⟨fun x hx => h.1 x (List.mem_of_mem_take hx),by omega⟩
theorem L_pre (w : ByteArray) (i : Nat) : L (w.extract 0 i) = (L w).take i:=by rw [L_extract,List.drop_zero]
theorem cols_back {m : Nat} {s f : List Int} {t : List Stp} (g : AV (m : Int) s f t = true) {w : ByteArray} (hw : wordB (L w) = true) : (endsL m (sortT (t.map rvS)) s (L w).reverse).map (costL f) = (List.range (w.size + 1)).map (fun i => costR (m : Int) s f t (w.extract 0 i)):=by
 have hl : (L w).length = w.size:=(L_size w).symm
 refine List.ext_getElem (by rw [List.length_map,List.length_map,endsL_len,List.length_range,List.length_reverse,hl]) fun i h1 h2 => ?_
 rw [List.getElem_map,List.getElem_map,List.getElem_range]
 have hi : i ≤ w.size:=by rw [List.length_map,List.length_range] at h2;omega
 have eg:=endsL_get m (sortT (t.map rvS)) s ((L w).drop i).reverse ((L w).take i).reverse
 rw [← List.reverse_append,List.take_append_drop] at eg
 have lt : ((L w).take i).reverse.length = i:=by rw [List.length_reverse,List.length_take];omega
 rw [lt] at eg
 have hi2 : i < (endsL m (sortT (t.map rvS)) s (L w).reverse).length:=by rw [endsL_len,List.length_reverse,hl];omega
 rw [List.getD_eq_getElem?_getD,List.getElem?_eq_getElem hi2,Option.getD_some] at eg
 rw [eg]
 have hp : wordB (L (w.extract 0 i)) = true:=by rw [L_pre];exact wordB_pre hw i
 have lb : L (B ((L w).take i).reverse) = (L (w.extract 0 i)).reverse:=by unfold B;rw [L_mk,L_pre]
 rw [← cost_back g hp lb]
 unfold costR
 have hb : wordB (L (B ((L w).take i).reverse)) = true:=by
  rw [lb]
  unfold wordB at hp ⊢
  rw [Bool.and_eq_true,decide_eq_true_eq] at hp ⊢
  refine ⟨?_,by rw [List.length_reverse];exact hp.2⟩
  rw [List.all_eq_true] at hp ⊢
  exact fun x hx => hp.1 x (List.mem_reverse.1 hx)
 rw [if_pos ⟨(rev_AV g).1,hb⟩,Int.toNat_natCast]
 have : L (B ((L w).take i).reverse) = ((L w).take i).reverse:=by unfold B;rw [L_mk]
 rw [this]
theorem iPrefLoop (m : Nat) (h1 : 1 ≤ m) (h4 : m ≤ 4) (s f : List Int) (t : List Stp) (lf : f.length ≤ 1000) (hf : ∀ q ∈ f,0 ≤ q ∧ q < (m : Int)) (E : List (List Int)) (lE : E.length ≤ 2000) (hE : ∀ v ∈ E,v.length = m) : Ev (fun k => impl_PrefixCosts.l0 k [] E (E.length : Int) 0 (m : Int) s f t) (E.map (costL f),true):=by
 have key:=ev_list (r:=(E.map (costL f),true)) E (fun pre k => impl_PrefixCosts.l0 k (pre.map (costL f)) E (E.length : Int) (pre.length : Int) (m : Int) s f t) (fun pre x v h i1 => ?_) ?_
 ·exact key
 ·have hlen : E.length = pre.length + (v.length + 1):=by rw [h];simp
  have a0 : (pre.length : Int) < (E.length : Int):=by omega
  have hx : rdL E (pre.length : Int) = x:=by rw [h];simp [rdL]
  have hxl:=hE x (by rw [h];simp)
  have wn : wrap64 ((pre.length : Int) + 1) = (((pre ++ [x]).length : Nat) : Int):=by rw [w64 (by omega) (by omega)];simp
  have inner : ∀ (u p : List Int) (acc : Int),f = p ++ u → u.foldl (fun a q => mn a (x.getD q.toNat 0)) acc = costL f x → Ev (fun k => impl_PrefixCosts.l1 k (pre.map (costL f)) x acc E (E.length : Int) (pre.length : Int) f (f.length : Int) (p.length : Int) (m : Int) s f t) (E.map (costL f),true):=by
   intro u
   induction u with
   | nil =>
    intro p acc hp ha
    have ha : acc = costL f x:=ha
    refine Ev.step (fun k => ?_) i1
    simp only [impl_PrefixCosts.l1]
    rw [if_neg (by rw [hp];simp),if_pos (by rw [List.length_map];omega),wn,List.map_append,ha]
    rfl
   | cons y u ih =>
    intro p acc hp ha
    have hlen2 : f.length = p.length + (u.length + 1):=by rw [hp];simp
    have hy : rdI f (p.length : Int) = y:=by rw [hp,rd_mid]
    obtain ⟨y0,yn⟩:=hf y (by rw [hp];simp)
    have nx:=ih (p ++ [y]) (mn acc (x.getD y.toNat 0)) (by simp [hp]) ha
    have b0 : (p.length : Int) < (f.length : Int):=by omega
    have wp : wrap64 ((p.length : Int) + 1) = (((p ++ [y]).length : Nat) : Int):=by rw [w64 (by omega) (by omega)];simp
    have bx : y < (x.length : Int):=by rw [hxl];exact yn
    refine Ev.step (fun k => ?_) nx
    simp only [impl_PrefixCosts.l1]
    rw [if_pos b0,if_pos (Int.natCast_nonneg _),if_pos b0,hy,if_pos y0,if_pos bx,wp]
    rfl
  refine Ev.step (fun k => ?_) (inner f [] 1000000 rfl rfl)
  simp only [impl_PrefixCosts.l0]
  rw [if_pos a0,if_pos (Int.natCast_nonneg _),if_pos a0,hx]
  rfl
 ·refine Ev.step (f:=fun _ => some (E.map (costL f),true)) (fun k => ?_) (Ev.now _)
  simp only [impl_PrefixCosts.l0];rw [if_neg (by omega)]
theorem endsL_full (n : Nat) (h1 : 1 ≤ n) (h4 : n ≤ 4) (t : List Stp) (ht : ∀ y ∈ t,stepOk n y = true) (f : List Int) : ∀ w,∀ v ∈ endsL n t f w,v.length = n
 | [],v,hv => by
  have : v = finL n f:=by simpa [endsL] using hv
  rw [this];exact (col_full n h1 h4 t ht f []).1
 | c :: w,v,hv => by
  unfold endsL at hv
  rcases List.mem_append.1 hv with h|h
  ·exact endsL_full n h1 h4 t ht f w v h
  ·rw [List.mem_singleton.1 h];exact (col_full n h1 h4 t ht f (c :: w)).1
theorem iPrefix (n : Int) (s f : List Int) (t : List Stp) (w : ByteArray) (hs : s.length ≤ 1048576) (hf : f.length ≤ 1048576) (ht : t.length ≤ 1048576) (hw : w.size ≤ 4000000) : Ev (fun k => impl_PrefixCosts.f k n s f t w) (prefR n s f t w):=by
 unfold impl_PrefixCosts.f prefR
 refine Ev.bind (iRev n s f t hs hf ht) ?_
 by_cases g : AV n s f t = true
 case neg =>
  rw [if_neg g]
  exact (Ev_f (by simp [noneR]) (Ev.now _)).is (if_neg (fun q => g q.1)).symm
 rw [if_pos g]
 refine Ev_t rfl (Ev.bind (iWord_ev w hw) ?_)
 by_cases hB : wordB (L w) = true
 case neg => exact (Ev_f hB (Ev.now _)).is (if_neg (fun q => hB q.2)).symm
 obtain ⟨h1,h2,h3,h4,h5⟩:=AV_parts g
 obtain ⟨g1,g2,g3,g4,g5⟩:=AV_parts (rev_AV g).1
 obtain ⟨m,rfl⟩ : ∃ m : Nat,n = (m : Int):=⟨n.toNat,by omega⟩
 have hz:=(wordB_size hB).1
 have l1:=AV_len g
 have l2:=AV_len (rev_AV g).1
 have bz : (B (L w).reverse).size ≤ 1000:=by rw [B_size,List.length_reverse,← L_size];omega
 have nl : (numsOf w).length ≤ 100000:=by
  have : (numsOf w).length = w.size:=by unfold numsOf;rw [List.length_map];rfl
  omega
 have te:=iToEnd m (by omega) (by omega) f s (sortT (t.map rvS)) g5 (by omega) (mrk_mem h3) (by omega) (B (L w).reverse) bz
 have eb : L (B (L w).reverse) = (L w).reverse:=by unfold B;rw [L_mk]
 rw [eb] at te
 have le : (endsL m (sortT (t.map rvS)) s (L w).reverse).length ≤ 2000:=by rw [endsL_len,List.length_reverse,← L_size];omega
 refine Ev_t hB (Ev_t (by omega) (Ev.bind (iReverse (numsOf w) nl) ?_))
 rw [nums_rev]
 refine (Ev.bind te (iPrefLoop m (by omega) (by omega) s f t (by omega) (mrk_mem h4) _ le (endsL_full m (by omega) (by omega) _ (stp_mem g5) s _))).is ?_
 rw [if_pos ⟨g,hB⟩,cols_back g hB]
theorem sPrefix (n : Int) (s f : List Int) (t : List Stp) (w : ByteArray) (hs : s.length ≤ 1048576) (hf : f.length ≤ 1048576) (ht : t.length ≤ 1048576) (hw : w.size ≤ 4000000) : Ev (fun k => spec_PrefixCosts.f k n s f t w) (prefR n s f t w):=by
 have asked : Ev (fun k => spec_l4Asked.f k n s f t w) (AV n s f t && wordB (L w)):=by
  unfold spec_l4Asked.f
  refine Ev.bind (sAV n s f t (by omega) (by omega) (by omega)) ?_
  by_cases g : AV n s f t = true
  ·exact Ev_t g ((Ev.bind (sWord_ev w (by omega)) (Ev.now _)).is (by rw [g,Bool.true_and]))
  ·exact Ev_f g ((Ev.now _).is (by rw [Bool.eq_false_iff.2 g,Bool.false_and]))
 unfold spec_PrefixCosts.f prefR
 refine Ev.bind asked ?_
 by_cases g : AV n s f t = true ∧ wordB (L w) = true
 case neg => exact (Ev_f (by simpa using g) (Ev.now _)).is (if_neg g).symm
 rw [if_pos g]
 refine Ev_t (by rw [g.1,g.2];rfl) ?_
 obtain ⟨h1,h2,h3,h4,h5⟩:=AV_parts g.1
 obtain ⟨m,rfl⟩ : ∃ m : Nat,n = (m : Int):=⟨n.toNat,by omega⟩
 have hz:=(wordB_size g.2).1
 have l1:=AV_len g.1
 rw [show wrap64 ((w.size : Int) + 1) = ((w.size + 1 : Nat) : Int) from by rw [w64 (by omega) (by omega)];omega]
 have go : ∀ (d i : Nat),i + d = w.size + 1 → Ev (fun k => spec_PrefixCosts.l0 k w ((List.range i).map (fun i => costR (m : Int) s f t (w.extract 0 i))) ((w.size + 1 : Nat) : Int) (i : Int) (m : Int) s f t) ((List.range (w.size + 1)).map (fun i => costR (m : Int) s f t (w.extract 0 i)),true):=by
  intro d
  induction d with
  | zero =>
   intro i h
   have h : i = w.size + 1:=by omega
   subst h
   refine Ev.step (f:=fun _ => some ((List.range (w.size + 1)).map (fun i => costR (m : Int) s f t (w.extract 0 i)),true)) (fun k => ?_) (Ev.now _)
   simp only [spec_PrefixCosts.l0];rw [if_neg (Int.lt_irrefl _)]
  | succ d ih =>
   intro i h
   have nx:=ih (i + 1) (by omega)
   rw [List.range_succ,List.map_append] at nx
   have hp : wordB (L (w.extract 0 i)) = true:=by rw [L_pre];exact wordB_pre g.2 i
   have sc : Ev (fun k => spec_l4Cost.f k (m : Int) s f t (w.extract 0 i)) (costR (m : Int) s f t (w.extract 0 i)):=by
    refine (sCost m s f t (w.extract 0 i) g.1 hp (by omega) (by omega) (by omega)).is ?_
    unfold costR
    rw [if_pos ⟨g.1,hp⟩,Int.toNat_natCast]
   have a0 : (i : Int) < ((w.size + 1 : Nat) : Int):=by omega
   have b0 : (i : Int) ≤ (w.size : Int):=by omega
   have wi : wrap64 ((i : Int) + 1) = ((i + 1 : Nat) : Int):=by rw [w64 (by omega) (by omega)];rfl
   refine Ev.step (f:=?f1) (fun k => ?_) ?k1
   rotate_left
   ·simp only [spec_PrefixCosts.l0]
    rw [if_pos a0,if_pos (Int.natCast_nonneg _),if_pos b0,Int.toNat_natCast,wi] <;> exact rfl
   ·exact Ev.bind sc (Ev_t (by rw [List.length_map,List.length_range];omega) nx)
 exact go (w.size + 1) 0 (by omega)
end Go.Proofs.YthnjbjihphbcpaaGreat.V
end
section
set_option linter.unusedVariables false
set_option linter.unusedSimpArgs false
namespace Go.Proofs.YthnjbjihphbcpaaGreat.V
open Go Go.Proofs.YthnjbjihphbcpaaGreat.R Go.RowKit
open Go.Proofs.YthnjbjihphbcpaaGreatW.PrintWords hiding mn mx
theorem mx_ext {n : Nat} {a b : List Int} (ha : a.length = n * n) (hb : b.length = n * n) (h : ∀ i k,i < n → k < n → a.getD (i * n + k) 0 = b.getD (i * n + k) 0) : a = b:=by
 refine List.ext_getElem (by rw [ha,hb]) fun m h1 h2 => ?_
 have hm : m < n * n:=by omega
 have hn : 0 < n:=by
  rcases Nat.eq_zero_or_pos n with e|e
  ·rw [e] at hm;omega
  ·exact e
 have q:=h (m / n) (m % n) (Nat.div_lt_of_lt_mul hm) (Nat.mod_lt _ hn)
 rw [Nat.div_add_mod' m n] at q
 rw [List.getD_eq_getElem?_getD,List.getD_eq_getElem?_getD,List.getElem?_eq_getElem h1,List.getElem?_eq_getElem h2] at q
 exact q
theorem mul_get {n : Nat} {a b : List Int} (i k : Nat) (hi : i < n) (hk : k < n) : (mulCL n a b).getD (i * n + k) 0 = mulCE n a b i k:=by
 unfold mulCL
 rw [sqL_get n _ i k hi hk]
theorem mul_assocC {n : Nat} {a b c : List Int} (ha : MV (n : Int) a) (hb : MV (n : Int) b) (hc : MV (n : Int) c) : mulCL n (mulCL n a b) c = mulCL n a (mulCL n b c):=by
 refine mx_ext (MV_len (mulCL_MV (mulCL_MV ha hb) hc)) (MV_len (mulCL_MV ha (mulCL_MV hb hc))) fun i k hi hk => ?_
 rw [mul_get i k hi hk,mul_get i k hi hk]
 refine eq_le' fun x => ?_
 rw [le_mulCE,le_mulCE]
 constructor
 ·rintro ⟨h1,h2⟩
  refine ⟨h1,fun l hl => ?_⟩
  rw [mul_get l k hl hk]
  have ha0:=MV_at ha i l hi hl
  have : x - a.getD (i * n + l) 0 ≤ mulCE n b c l k:=by
   refine le_mulCE.2 ⟨by omega,fun j hj => ?_⟩
   have h3:=h2 j hj
   rw [mul_get i j hi hj] at h3
   have h4 : x - c.getD (j * n + k) 0 ≤ mulCE n a b i j:=by omega
   have:=(le_mulCE.1 h4).2 l hl
   omega
  omega
 ·rintro ⟨h1,h2⟩
  refine ⟨h1,fun j hj => ?_⟩
  rw [mul_get i j hi hj]
  have hc0:=MV_at hc j k hj hk
  have : x - c.getD (j * n + k) 0 ≤ mulCE n a b i j:=by
   refine le_mulCE.2 ⟨by omega,fun l hl => ?_⟩
   have h3:=h2 l hl
   rw [mul_get l k hl hk] at h3
   have h4 : x - a.getD (i * n + l) 0 ≤ mulCE n b c l k:=by omega
   have:=(le_mulCE.1 h4).2 j hj
   omega
  omega
theorem mul_unitR {n : Nat} (h1 : 1 ≤ n) (h4 : n ≤ 4) {a : List Int} (ha : MV (n : Int) a) : mulCL n a (sqL n unitE) = a:=by
 refine mx_ext (MV_len (mulCL_MV ha (unit_MV n h1 h4))) (MV_len ha) fun i k hi hk => ?_
 rw [mul_get i k hi hk]
 have b0:=MV_at ha i k hi hk
 refine eq_le' fun x => ?_
 rw [le_mulCE]
 constructor
 ·rintro ⟨_,h2⟩
  have:=h2 k hk
  rw [sqL_get n _ k k hk hk] at this
  unfold unitE at this
  rw [if_pos rfl] at this
  omega
 ·intro h
  refine ⟨by omega,fun l hl => ?_⟩
  rw [sqL_get n _ l k hl hk]
  have a0:=MV_at ha i l hi hl
  unfold unitE
  by_cases e : l = k
  ·rw [if_pos e,e];omega
  ·rw [if_neg e];omega
theorem mul_unitL {n : Nat} (h1 : 1 ≤ n) (h4 : n ≤ 4) {a : List Int} (ha : MV (n : Int) a) : mulCL n (sqL n unitE) a = a:=by
 refine mx_ext (MV_len (mulCL_MV (unit_MV n h1 h4) ha)) (MV_len ha) fun i k hi hk => ?_
 rw [mul_get i k hi hk]
 have b0:=MV_at ha i k hi hk
 refine eq_le' fun x => ?_
 rw [le_mulCE]
 constructor
 ·rintro ⟨_,h2⟩
  have:=h2 i hi
  rw [sqL_get n _ i i hi hi] at this
  unfold unitE at this
  rw [if_pos rfl] at this
  omega
 ·intro h
  refine ⟨by omega,fun l hl => ?_⟩
  rw [sqL_get n _ i l hi hl]
  have a0:=MV_at ha l k hl hk
  unfold unitE
  by_cases e : i = l
  ·rw [if_pos e,← e];omega
  ·rw [if_neg e];omega
theorem word_from (n : Nat) (h1 : 1 ≤ n) (h4 : n ≤ 4) (t : List Stp) (ht : ∀ y ∈ t,stepOk n y = true) : ∀ (v : List UInt8) (a : List Int),MV (n : Int) a → wordL n t v a = mulCL n a (wordL n t v (sqL n unitE)):=by
 intro v
 induction v with
 | nil =>
  intro a ha
  show a = mulCL n a (sqL n unitE)
  rw [mul_unitR h1 h4 ha]
 | cons c v ih =>
  intro a ha
  have hc:=letL_MV n h1 h4 t ht c
  have hu:=unit_MV n h1 h4
  show wordL n t v (mulCL n a (letL n t c)) = mulCL n a (wordL n t v (mulCL n (sqL n unitE) (letL n t c)))
  rw [mul_unitL h1 h4 hc,ih _ (mulCL_MV ha hc),ih _ hc,mul_assocC ha hc (wordL_MV n h1 h4 t ht v _ hu)]
theorem word_split (n : Nat) (h1 : 1 ≤ n) (h4 : n ≤ 4) (t : List Stp) (ht : ∀ y ∈ t,stepOk n y = true) (u v : List UInt8) : mulCL n (wordL n t u (sqL n unitE)) (wordL n t v (sqL n unitE)) = wordL n t (u ++ v) (sqL n unitE):=by
 rw [← word_from n h1 h4 t ht v _ (wordL_MV n h1 h4 t ht u _ (unit_MV n h1 h4))]
 unfold wordL
 rw [List.foldl_append]
theorem wordB_post {w : List UInt8} (h : wordB w = true) (i : Nat) : wordB (w.drop i) = true:=by
 unfold wordB at *
 simp only [Bool.and_eq_true,decide_eq_true_eq,List.all_eq_true,List.length_drop] at *
 exact ⟨fun x hx => h.1 x (List.mem_of_mem_drop hx),by omega⟩
theorem rd_map (g : Nat → Int) (m i : Nat) (h : i < m) : rdI ((List.range m).map g) (i : Int) = g i:=by
 unfold rdI
 rw [Int.toNat_natCast,List.getD_eq_getElem?_getD,List.getElem?_map,List.getElem?_range h]
 rfl
theorem PureFnWordMatrix (l : List Int) (l' : List Int) (e0 : l.length ≤ maxLen) (e1 : ∀ x ∈ l,(Lit.int .u8 x).wf = true) (e2 : l.length * 1 ≤ 140737488351232) (g0 : l'.length ≤ maxLen) (g1 : ∀ x ∈ l',(Lit.int .u8 x).wf = true) (g2 : l'.length * 1 ≤ 140737488351232) : ∃ k,laws_FnWordMatrix.f k l l' = some true:=by
 refine Ev.rounds (g:=fun k => laws_FnWordMatrix.f k l l') (r:=true) ?_
 unfold laws_FnWordMatrix.f
 by_cases h0 : (l.length : Int) > 1048576
 ·exact Ev_t h0 (Ev.now _)
 refine Ev_f h0 ?_
 by_cases h0' : (l'.length : Int) > 1048576
 ·exact Ev_t h0' (Ev.now _)
 refine Ev_f h0' ?_
 obtain ⟨⟨n,s,f,t⟩,w,⟨ls,lf,lt⟩,lw,hd⟩:=wordMatrix_r l (bytes_of e1)
 have ls : s.length ≤ 1000:=ls
 have lf : f.length ≤ 1000:=lf
 have lt : t.length ≤ 1000:=lt
 have hd : Ev (fun k => spec_DrawWordMatrix.f k l) (n,s,f,t,w):=hd
 have c1 : s.length ≤ 1048576:=by omega
 have c2 : f.length ≤ 1048576:=by omega
 have c3 : t.length ≤ 1048576:=by omega
 have c4 : w.size ≤ 4000000:=by omega
 have iw:=iWordM n s f t w (by omega) (by omega) (by omega) (by omega)
 have sw:=sWordM n s f t w (by omega) (by omega) (by omega) (by omega)
 have lr:=wmR_len n s f t w
 have dm:=daMatrix_ev (wmR n s f t w).1 (wmR n s f t w).2.1 (by omega)
 refine Ev.bind hd (Ev.bind iw (Ev.bind sw (Ev.bind dm (Ev_t rfl (Ev_f (by simp) ?_)))))
 by_cases g : AV n s f t = true ∧ wordB (L w) = true
 case neg =>
  have e : wmR n s f t w = (0,[],false):=by unfold wmR;rw [if_neg g]
  rw [e] at dm ⊢
  exact Ev_f (by simp) (Ev.bind dm (Ev_t rfl (Ev.now _)))
 obtain ⟨k1,k2⟩:=g
 obtain ⟨h1,h2,h3,h4,h5⟩:=AV_parts k1
 obtain ⟨z1,z2⟩:=wordB_size k2
 obtain ⟨m,rfl⟩ : ∃ m : Nat,n = (m : Int):=⟨n.toNat,by omega⟩
 have ht:=stp_mem h5
 have e : wmR (m : Int) s f t w = ((m : Int),wordL m t (L w) (sqL m unitE),true):=by unfold wmR;rw [if_pos ⟨k1,k2⟩];rfl
 obtain ⟨K,hK⟩ : ∃ K,l'.length % (w.size + 1) = K:=⟨_,rfl⟩
 have Kle : K ≤ w.size:=by
  have q : l'.length % (w.size + 1) < w.size + 1:=Nat.mod_lt l'.length (Nat.succ_pos w.size)
  rw [hK] at q
  omega
 have ww : wrap64 ((w.size : Int) + 1) = ((w.size + 1 : Nat) : Int):=by rw [w64 (by omega) (by omega)];rfl
 have tm : (l'.length : Int).tmod ((w.size + 1 : Nat) : Int) = (K : Int):=by rw [tmod_nat,hK]
 have hM:=wordL_MV m (by omega) (by omega) t ht (L w) (sqL m unitE) (unit_MV m (by omega) (by omega))
 have lu : L (w.extract 0 K) = (L w).take K:=L_pre w K
 have lv : L (w.extract K w.size) = (L w).drop K:=by rw [L_extract,L_size,List.take_length]
 have wu : wordB (L (w.extract 0 K)) = true:=by rw [lu];exact wordB_pre k2 K
 have wv : wordB (L (w.extract K w.size)) = true:=by rw [lv];exact wordB_post k2 K
 have zu : (w.extract 0 K).size ≤ 1000:=(wordB_size wu).1
 have zv : (w.extract K w.size).size ≤ 1000:=(wordB_size wv).1
 have iu:=iWordM (m : Int) s f t (w.extract 0 K) (by omega) (by omega) (by omega) (by omega)
 have iv:=iWordM (m : Int) s f t (w.extract K w.size) (by omega) (by omega) (by omega) (by omega)
 have eu : wmR (m : Int) s f t (w.extract 0 K) = ((m : Int),wordL m t ((L w).take K) (sqL m unitE),true):=by unfold wmR;rw [if_pos ⟨k1,wu⟩,lu];rfl
 have ev : wmR (m : Int) s f t (w.extract K w.size) = ((m : Int),wordL m t ((L w).drop K) (sqL m unitE),true):=by unfold wmR;rw [if_pos ⟨k1,wv⟩,lv];rfl
 rw [eu] at iu
 rw [ev] at iv
 have hu:=unit_MV m (by omega) (by omega)
 have im:=iMulC (wordL_MV m (by omega) (by omega) t ht ((L w).take K) _ hu) (wordL_MV m (by omega) (by omega) t ht ((L w).drop K) _ hu)
 rw [word_split m (by omega) (by omega) t ht,List.take_append_drop] at im
 have ip:=iPrefix (m : Int) s f t w c1 c2 c3 c4
 have sp:=sPrefix (m : Int) s f t w c1 c2 c3 c4
 have ep : prefR (m : Int) s f t w = ((List.range (w.size + 1)).map (fun i => costR (m : Int) s f t (w.extract 0 i)),true):=by unfold prefR;rw [if_pos ⟨k1,k2⟩]
 rw [ep] at ip sp
 rw [e] at dm ⊢
 have lM : (wordL m t (L w) (sqL m unitE)).length ≤ 1000000000:=by rw [MV_len hM];have:=sq_le m (by omega);omega
 have whole : w.extract 0 w.size = w:=L_inj (by rw [L_pre,L_size,List.take_length])
 have lp : ((List.range (w.size + 1)).map (fun i => costR (m : Int) s f t (w.extract 0 i))).length = w.size + 1:=by rw [List.length_map,List.length_range]
 have d1 : ¬ ((w.size + 1 : Nat) : Int) = 0:=by
  intro q
  exact absurd (Int.ofNat.inj q) (Nat.succ_ne_zero _)
 have d2 : (K : Int) ≤ (w.size : Int):=Int.ofNat_le.2 Kle
 have lpI : ((((List.range (w.size + 1)).map (fun i => costR (m : Int) s f t (w.extract 0 i))).length : Nat) : Int) = ((w.size + 1 : Nat) : Int):=congrArg (fun (x : Nat) => (x : Int)) lp
 have d3 : (K : Int) < ((((List.range (w.size + 1)).map (fun i => costR (m : Int) s f t (w.extract 0 i))).length : Nat) : Int):=by rw [lpI];exact Int.ofNat_lt.2 (Nat.lt_succ_of_le Kle)
 have d4 : (w.size : Int) < ((((List.range (w.size + 1)).map (fun i => costR (m : Int) s f t (w.extract 0 i))).length : Nat) : Int):=by rw [lpI];exact Int.ofNat_lt.2 (Nat.lt_succ_self _)
 have d5 : ((List.range (w.size + 1)).map (fun i => costR (m : Int) s f t (w.extract 0 i))).length ≤ 1000000000:=by rw [lp];exact Nat.le_trans (Nat.succ_le_succ z1) (by decide)
 have zu4 : (w.extract 0 K).size ≤ 4000000:=Nat.le_trans zu (by decide)
 have b1 : s.length ≤ 1000000000:=Nat.le_trans c1 (by decide)
 have b2 : f.length ≤ 1000000000:=Nat.le_trans c2 (by decide)
 have b3 : t.length ≤ 1000000000:=Nat.le_trans c3 (by decide)
 have cu:=iCostOf (m : Int) s f t (w.extract 0 K) b1 b2 b3 zu4
 have cw:=iCostOf (m : Int) s f t w b1 b2 b3 c4
 have dM:=daMatrix_ev (m : Int) (wordL m t (L w) (sqL m unitE)) lM
 have dS:=daSame_ev ((List.range (w.size + 1)).map (fun i => costR (m : Int) s f t (w.extract 0 i))) d5
 have r1:=rd_map (fun i => costR (m : Int) s f t (w.extract 0 i)) (w.size + 1) K (Nat.lt_succ_of_le Kle)
 have r2:=rd_map (fun i => costR (m : Int) s f t (w.extract 0 i)) (w.size + 1) w.size (Nat.lt_succ_self _)
 rw [whole] at r2
 refine Ev_t rfl ?_
 dsimp only
 rw [ww,tm,Int.toNat_natCast]
 refine Ev_f d1 (Ev_t (Int.natCast_nonneg _) (Ev_t d2 (Ev.bind iu (Ev_t (Int.le_refl _) (Ev.bind iv (Ev.bind im (Ev.bind ip (Ev.bind sp (Ev_t rfl (Ev.bind dM (Ev_t rfl (Ev_t rfl (Ev.bind dS (Ev_t rfl ?_))))))))))))))
 exact Ev_t lpI (Ev_t d3 (Ev.bind cu (Ev_t r1 (Ev_t (Int.natCast_nonneg _) (Ev_t d4 (Ev.bind cw ((Ev.now _).is (decide_eq_true r2))))))))
end Go.Proofs.YthnjbjihphbcpaaGreat.V
end
