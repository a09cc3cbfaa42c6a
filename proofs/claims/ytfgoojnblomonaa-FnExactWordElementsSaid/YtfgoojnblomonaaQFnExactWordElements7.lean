import Derived.Test.YtfgoojnblomonaaQFnExactWordElements2
import Derived.Test.YtfgoojnblomonaaQFnExactWordElements4
import Derived.Deep.Slices
import Derived.Deep.Fields
import Derived.ChangeSame
import Derived.ChangeSlices
import Derived.Lib.SmallJoins
import Derived.WalkKit
import Derived.ProofKit
import Derived.OpenShut
import Derived.ShutString
import Derived.ChangeOld
import Derived.Below
import Derived.Test.YtfgoojnblomonaaQFnExactWordElements6
import Derived.Lib.Bytealg
import Derived.Lib.Repeat
import Derived.Test.YtfgoojnblomonaaQFnExactWordElements3
section
namespace Go.Proofs.Ytfgoojnblomonaa.V
open Go Go.Proofs.Ytfgoojnblomonaa.R Go.RowKit Go.Proofs.Ytfgoojnblomonaa.X Go.ChangeShapes Go.WideShapes Go.Deep Go.Proofs.YtfgoojnblomonaaW.PrintWords Go.Proofs.YtfgoojnblomonaaW.PrintLast Go.Proofs.YtfgoojnblomonaaW.PrintMore
set_option linter.unusedVariables false
open Go.ChangeShapes Go.WideShapes Go.Deep
theorem field_ints {H : Type} {enc : TypeId × Value → H} {P : Program} {w : World} {base : Nat} {spare : Nat → Bool} {held : Bool} {t e : TypeId} {k : IntKind} {fuel : Nat} {v : Value} {x : DataW H × List MemPlace}
  (ht : P.underlying t = some (.slice e)) (he : P.underlying e = some (.int k)) (hc : P.cellsOf e = 1) (h : DataW.trod enc P w base spare held fuel t [v] = some x) :
  ∃ (A : Option Addr) (c : Nat) (l : List Int),v = .slice A l.length c ∧ Kd.C (Kd.int k) w A l.length l ∧ l.length ≤ c ∧ l.length ≤ maxLen ∧ ∀ n ∈ l,(Lit.int k n).wf = true:=by
 rcases open_ints ht he hc h with ⟨hcs,_⟩ | ⟨a,len,cap,zs,hcs,_,hl,hm,hz,_,hcell,hwf⟩
 ·simp at hcs
  obtain ⟨l,h1,h2,h3,h4,h5⟩:=ReadsInt.ofRowC (k:=k) (w:=w) (a:=none) (len:=0) (cap:=0) (zs:=[]) (.inl ⟨rfl,rfl,rfl,rfl⟩)
  exact ⟨none,0,l,by rw [hcs,← h1],Kd.C_of_reads (d:=(0 : Int)) (h1:=fun _ => rfl) h2,h5,h3,h4⟩
 ·simp at hcs
  have hr : ∃ l : List Int,len = l.length ∧ ReadsInt w k (some a) l.length l ∧ l.length ≤ maxLen ∧ (∀ x ∈ l,(Lit.int k x).wf = true):=by
   refine ⟨zs.take len,?_,?_,?_,fun x hx => hwf x (List.mem_of_mem_take hx)⟩
   ·rw [List.length_take,hz];split <;> omega
   ·have hlen : (zs.take len).length = len:=by rw [List.length_take,hz];split <;> omega
    refine ⟨rfl,by rw [hlen];exact Nat.le_trans hl hm,fun hn => ⟨a,rfl,fun j hj => ?_⟩⟩
    rw [hlen] at hj
    have hj2 : j < zs.length:=by rw [hz];split <;> omega
    rw [hcell j hj2]
    simp [List.getD_eq_getElem?_getD,hj]
   ·rw [List.length_take];exact Nat.le_trans (Nat.min_le_left _ _) (Nat.le_trans hl hm)
  obtain ⟨l,h1,h2,h3,h4⟩:=hr
  exact ⟨some a,cap,l,by rw [hcs,← h1],Kd.C_of_reads (d:=(0 : Int)) (h1:=fun _ => rfl) h2,by omega,h3,h4⟩
theorem field_int {H : Type} {enc : TypeId × Value → H} {P : Program} {w : World} {base : Nat} {spare : Nat → Bool} {held : Bool} {t : TypeId} {k : IntKind} {fuel : Nat} {v : Value} {x : DataW H × List MemPlace}
  (ht : P.underlying t = some (.int k)) (h : DataW.trod enc P w base spare held fuel t [v] = some x) : ∃ n : Int,v = .int k n ∧ (Lit.int k n).wf = true:=by
 obtain ⟨n,h1,_,h2⟩:=DataW.trod_int ht h
 simp at h1
 exact ⟨n,h1,h2⟩
theorem field_str {H : Type} {enc : TypeId × Value → H} {P : Program} {w : World} {base : Nat} {spare : Nat → Bool} {held : Bool} {t : TypeId} {fuel : Nat} {v : Value} {x : DataW H × List MemPlace}
  (ht : P.underlying t = some .string) (h : DataW.trod enc P w base spare held fuel t [v] = some x) : ∃ s : ByteArray,v = .string s ∧ s.size ≤ maxLen:=by
 obtain ⟨s,h1,_,h2⟩:=DataW.trod_string ht h
 simp at h1
 exact ⟨s,h1,h2⟩
open Go.ChangeShapes Go.WideShapes Go.Deep
set_option maxRecDepth 100000 in
theorem field_steps {H : Type} {enc : TypeId × Value → H} {w : World} {base : Nat} {spare : Nat → Bool} {held : Bool} {fuel : Nat} {v : Value} {x : DataW H × List MemPlace}
  (h : DataW.trod enc Try.prog w base spare held fuel 23 [v] = some x) :
  ∃ (A : Option Addr) (c : Nat) (l : List Stp),v = .slice A l.length c ∧ StepRow w A l ∧ l.length ≤ c ∧ l.length ≤ maxLen ∧ ∀ s ∈ l,(Lit.int .i64 s.f0).wf = true ∧ s.f1.size ≤ maxLen ∧ (Lit.int .i64 s.f2).wf = true ∧ (Lit.int .i64 s.f3).wf = true:=by
 rcases open_slice Try.underlying23 h with ⟨hcs,_⟩ | ⟨a,len,cap,m,n,D,Pl,hcs,_,hl,hm,hmm,_,hi⟩
 ·simp at hcs
  exact ⟨none,0,[],hcs,fun h => absurd h (by simp),Nat.le_refl _,by simp,fun s hs => by cases hs⟩
 ·simp at hcs
  have hlm : len ≤ m:=by rw [hmm];split <;> omega
  have one : ∀ i,i < len → ∃ s : Stp,(∀ u : Nat,∀ y,[Value.int .i64 s.f0,.string s.f1,.int .i64 s.f2,.int .i64 s.f3][u]? = some y → w.cell? (a.add (i * 4 + u)) = some y) ∧ (Lit.int .i64 s.f0).wf = true ∧ s.f1.size ≤ maxLen ∧ (Lit.int .i64 s.f2).wf = true ∧ (Lit.int .i64 s.f3).wf = true:=by
   intro i hil
   obtain ⟨cs',hc,ht'⟩:=hi i (by omega)
   rw [show Try.prog.cellsOf 65 = 4 by kernel_rfl] at hc
   obtain ⟨_,hcl,hat⟩:=World.cells?_some hc
   match cs',hcl with
   | [q0,q1,q2,q3],_ =>
   obtain ⟨y0,y1,y2,y3,n',_,_,t0,t1,t2,t3⟩:=Go.Joins.trod_struct4 Try.underlying65 ht'
   have ei : Try.prog.cellsOf 3 = 1:=by kernel_rfl
   have es : Try.prog.cellsOf 9 = 1:=by kernel_rfl
   have t0 : DataW.trod enc Try.prog w base spare held n' 3 [q0] = some y0:=by simpa [ei,es] using t0
   have t1 : DataW.trod enc Try.prog w base spare held n' 9 [q1] = some y1:=by simpa [ei,es] using t1
   have t2 : DataW.trod enc Try.prog w base spare held n' 3 [q2] = some y2:=by simpa [ei,es] using t2
   have t3 : DataW.trod enc Try.prog w base spare held n' 3 [q3] = some y3:=by simpa [ei,es] using t3
   have hat' : ∀ u,u < 4 → w.cell? (a.add (i * 4 + u)) = [q0,q1,q2,q3][u]?:=fun u hu => by rw [← Go.Deep.add_add];exact hat u hu
   have c0:=hat' 0 (by omega)
   have c1:=hat' 1 (by omega)
   have c2:=hat' 2 (by omega)
   have c3:=hat' 3 (by omega)
   clear hat hat' hc ht'
   obtain ⟨z0,rfl,w0⟩:=field_int Try.underlying3 t0
   obtain ⟨z1,rfl,w1⟩:=field_str Try.underlying9 t1
   obtain ⟨z2,rfl,w2⟩:=field_int Try.underlying3 t2
   obtain ⟨z3,rfl,w3⟩:=field_int Try.underlying3 t3
   refine ⟨⟨z0,z1,z2,z3⟩,?_,w0,w1,w2,w3⟩
   intro u y hu
   match u,hu with
   | 0,hu => obtain rfl:=Option.some.inj hu;exact c0
   | 1,hu => obtain rfl:=Option.some.inj hu;exact c1
   | 2,hu => obtain rfl:=Option.some.inj hu;exact c2
   | 3,hu => obtain rfl:=Option.some.inj hu;exact c3
   | u + 4,hu => simp at hu
  obtain ⟨l,hll,hlp⟩ : ∃ l : List Stp,l.length = len ∧ ∀ i s,l[i]? = some s → (∀ u : Nat,∀ y,[Value.int .i64 s.f0,.string s.f1,.int .i64 s.f2,.int .i64 s.f3][u]? = some y → w.cell? (a.add (i * 4 + u)) = some y) ∧ (Lit.int .i64 s.f0).wf = true ∧ s.f1.size ≤ maxLen ∧ (Lit.int .i64 s.f2).wf = true ∧ (Lit.int .i64 s.f3).wf = true:=by
   have : ∀ q,q ≤ len → ∃ l : List Stp,l.length = q ∧ ∀ i s,l[i]? = some s → (∀ u : Nat,∀ y,[Value.int .i64 s.f0,.string s.f1,.int .i64 s.f2,.int .i64 s.f3][u]? = some y → w.cell? (a.add (i * 4 + u)) = some y) ∧ (Lit.int .i64 s.f0).wf = true ∧ s.f1.size ≤ maxLen ∧ (Lit.int .i64 s.f2).wf = true ∧ (Lit.int .i64 s.f3).wf = true:=by
    intro q
    induction q with
    | zero => intro _;exact ⟨[],rfl,fun i s h => by simp at h⟩
    | succ q ih =>
     intro hq
     obtain ⟨l,h1,h2⟩:=ih (by omega)
     obtain ⟨s,hs⟩:=one q (by omega)
     refine ⟨l ++ [s],by simp [h1],fun i s' h => ?_⟩
     by_cases e : i < l.length
     ·rw [List.getElem?_append_left e] at h;exact h2 i s' h
     ·rw [List.getElem?_append_right (by omega)] at h
      have : i = q:=by
       have:=(List.getElem?_eq_some_iff.mp h).1
       simp at this;omega
      subst this
      rw [h1,Nat.sub_self] at h
      obtain rfl:=Option.some.inj h
      exact hs
   exact this len (Nat.le_refl _)
  refine ⟨some a,cap,l,by rw [hcs,hll],?_,by omega,by omega,fun s hs => ?_⟩
  ·exact fun _ => ⟨a,rfl,fun i s h => (hlp i s h).1⟩
  ·obtain ⟨i,hi',rfl⟩:=List.mem_iff_getElem.mp hs
   exact (hlp i _ (List.getElem?_eq_getElem hi')).2
theorem ints_of {w : World} {A : Option Addr} {l : List Int} (h : Kd.C (Kd.int .i64) w A l.length l) : 0 < l.length → ∃ ad,A = some ad ∧ ∀ (i : Nat) (x : Int),l[i]? = some x → w.cell? (ad.add i) = some (.int .i64 x):=fun hp => by
 obtain ⟨ad,e,hh⟩:=h.2.2 hp
 refine ⟨ad,e,fun i x hx => ?_⟩
 obtain ⟨c,_,hk,hc⟩:=hh i x hx
 have hk : c = [Value.int .i64 x]:=hk
 subst hk
 have:=hc 0 _ rfl
 rw [show (Kd.int IntKind.i64).sz = 1 from rfl,Nat.mul_one,Nat.add_zero] at this
 exact this
theorem automaton_vr {w : World} {n : Int} {A1 A2 A3 : Option Addr} {c1 c2 c3 : Nat} {l1 l2 : List Int} {l3 : List Stp} (h1 : Kd.C (Kd.int .i64) w A1 l1.length l1) (q1 : l1.length ≤ c1) (h2 : Kd.C (Kd.int .i64) w A2 l2.length l2) (q2 : l2.length ≤ c2) (h3 : StepRow w A3 l3) (q3 : l3.length ≤ c3) :
  VR w okT R.M0 (.agg [.int .i64 n,.imm (.I .i64 l1),.imm (.I .i64 l2),.imm (.T l3)]) (.agg #[.int .i64 n,.slice A1 l1.length c1,.slice A2 l2.length c2,.slice A3 l3.length c3]):=by
 refine VR.agg_of _ [_,_,_,_] rfl fun i v V p q => ?_
 match i with
 | 0 => cases p;cases q;exact .closed (.int _ _)
 | 1 => cases p;cases q;exact ints_vr q1 (ints_of h1)
 | 2 => cases p;cases q;exact ints_vr q2 (ints_of h2)
 | 3 => cases p;cases q;exact h3.vr q3
 | i + 4 => simp at p
set_option maxRecDepth 100000 in
theorem row_automaton {H : Type} {enc : TypeId × Value → H} {w : World} {base b0 : Nat} {r : Reach} {spare : Nat → Bool} {held : Bool} {v : Value} {d : DataW H} {p : List MemPlace}
  (hv : Value.okWide Try.prog w r b0 25 v) (h : DataW.Trod enc Try.prog w base spare held 25 v d p) :
  ∃ (n : Int) (A1 : Option Addr) (c1 : Nat) (l1 : List Int) (A2 : Option Addr) (c2 : Nat) (l2 : List Int) (A3 : Option Addr) (c3 : Nat) (l3 : List Stp),v = .agg #[.int .i64 n,.slice A1 l1.length c1,.slice A2 l2.length c2,.slice A3 l3.length c3] ∧
   Kd.C (Kd.int .i64) w A1 l1.length l1 ∧ l1.length ≤ c1 ∧ Kd.C (Kd.int .i64) w A2 l2.length l2 ∧ l2.length ≤ c2 ∧ StepRow w A3 l3 ∧ l3.length ≤ c3 ∧ (Lit.int .i64 n).wf = true ∧
   l1.length ≤ maxLen ∧ (∀ x ∈ l1,(Lit.int .i64 x).wf = true) ∧ l2.length ≤ maxLen ∧ (∀ x ∈ l2,(Lit.int .i64 x).wf = true) ∧ l3.length ≤ maxLen ∧ (∀ s ∈ l3,(Lit.int .i64 s.f0).wf = true ∧ s.f1.size ≤ maxLen ∧ (Lit.int .i64 s.f2).wf = true ∧ (Lit.int .i64 s.f3).wf = true):=by
 obtain ⟨v0,v1,v2,v3,y0,y1,y2,y3,n,rfl,_,_,h0,h1,h2,h3⟩:=Go.Joins.open_agg4 Try.underlying25 (by kernel_rfl) (by kernel_rfl) hv h
 obtain ⟨z,rfl,hz⟩:=field_int Try.underlying3 h0
 obtain ⟨A1,c1,l1,rfl,hC1,hc1,hm1,hw1⟩:=field_ints Try.underlying22 Try.underlying3 (by kernel_rfl) h1
 obtain ⟨A2,c2,l2,rfl,hC2,hc2,hm2,hw2⟩:=field_ints Try.underlying22 Try.underlying3 (by kernel_rfl) h2
 obtain ⟨A3,c3,l3,rfl,hC3,hc3,hm3,hw3⟩:=field_steps h3
 exact ⟨z,A1,c1,l1,A2,c2,l2,A3,c3,l3,rfl,hC1,hc1,hC2,hc2,hC3,hc3,hz,hm1,hw1,hm2,hw2,hm3,hw3⟩
end Go.Proofs.Ytfgoojnblomonaa.V
end
section
set_option linter.unusedVariables false
set_option linter.unusedSimpArgs false
namespace Go.Proofs.Ytfgoojnblomonaa.V
open Go Go.Proofs.Ytfgoojnblomonaa.R Go.RowKit
open Go.Proofs.YtfgoojnblomonaaW.PrintWords hiding mn mx
def L (s : ByteArray) : List UInt8:=s.data.toList
theorem L_size (s : ByteArray) : s.size = (L s).length:=by simp [L]
theorem L_mk (l : List UInt8) : L ⟨l.toArray⟩ = l:=by simp [L]
theorem L_inj {s t : ByteArray} (h : L s = L t) : s = t:=by
 cases s;cases t;simp [L] at h;subst h;rfl
theorem toList_L (s : ByteArray) : s.toList = L s:=ByteArray.toList_eq s
theorem L_extract (s : ByteArray) (a b : Nat) : L (s.extract a b) = ((L s).take b).drop a:=by
 simp [L,ByteArray.data_extract,Array.toList_extract,List.extract,List.drop_take]
theorem L_append (s t : ByteArray) : L (s ++ t) = L s ++ L t:=by simp [L,ByteArray.data_append]
theorem L_nil {s : ByteArray} : s.toList = ([] : List UInt8) ↔ L s = []:=by rw [toList_L]
theorem bt_L (s : ByteArray) (i : Int) : btI s i = (((L s).getD i.toNat 0).toNat : Int):=by
 unfold btI L
 split
 ·next h =>
  have h' : i.toNat < s.data.toList.length:=by simpa using h
  rw [List.getD_eq_getElem?_getD,List.getElem?_eq_getElem h']
  simp;rfl
 ·next h =>
  have h' : s.data.toList.length ≤ i.toNat:=by simpa using h
  rw [List.getD_eq_getElem?_getD,List.getElem?_eq_none h'];rfl
theorem w64 {x : Int} (h0 : -9223372036854775808 ≤ x) (h1 : x ≤ 9223372036854775807) : wrap64 x = x:=by unfold wrap64;omega
theorem _root_.Go.Proofs.YtfgoojnblomonaaW.PrintWords.Ev.is {α : Type} {g : Nat → Option α} {r r' : α} (h : Ev g r) (e : r = r') : Ev g r':=e ▸ h
theorem bt_suffix {s : ByteArray} {u : List UInt8} {c : UInt8} {e : List UInt8} (h : L s = u ++ c :: e) : btI s u.length = (c.toNat : Int):=by
 rw [bt_L,h];simp [List.getD_eq_getElem?_getD]
theorem size_suffix {s : ByteArray} {u e : List UInt8} (h : L s = u ++ e) : s.size = u.length + e.length:=by rw [L_size,h];simp
theorem u8_ne {c d : UInt8} (h : c ≠ d) : ¬ ((c.toNat : Int) = (d.toNat : Int)):=by
 intro e;exact h (UInt8.toNat.inj (by exact_mod_cast e))
def B (l : List UInt8) : ByteArray:=⟨l.toArray⟩
theorem B_add (a b : List UInt8) : B a ++ B b = B (a ++ b):=L_inj (by rw [L_append];unfold B;rw [L_mk,L_mk,L_mk])
theorem B_size (a : List UInt8) : (B a).size = a.length:=by rw [L_size];unfold B;rw [L_mk]
theorem B_toList (a : List UInt8) : (B a).data.toList = a:=by unfold B;simp
theorem B_L (x : ByteArray) : B (L x) = x:=L_inj (by unfold B;rw [L_mk])
def wOk (c : UInt8) : Bool:=c == 97 || c == 98
def wordB (l : List UInt8) : Bool:=l.all wOk && decide (l.length ≤ 1000)
theorem rd_mid (pre : List Int) (x : Int) (t : List Int) : rdI (pre ++ x :: t) (pre.length : Int) = x:=by simp [rdI,List.getD_eq_getElem?_getD]
theorem rd_nat (l : List Int) (i : Nat) : rdI l (i : Int) = l.getD i 0:=by simp [rdI]
theorem snoc_len (pre : List Int) (x : Int) : (((pre ++ [x]).length : Nat) : Int) = (pre.length : Int) + 1:=by simp
theorem wf_in {n : Int} (h : (Lit.int .i64 n).wf = true) : -9223372036854775808 ≤ n ∧ n ≤ 9223372036854775807:=by
 have hmin : IntKind.i64.min = -9223372036854775808:=rfl
 have hmax : IntKind.i64.max = 9223372036854775807:=rfl
 simp only [Lit.wf,Bool.and_eq_true,decide_eq_true_eq] at h
 omega
theorem maxLen_eq : maxLen = 9223372036854775807:=rfl
theorem ev_all {α : Type} {f : Nat → Nat → Option α} {g : Nat → α} (n : Nat) (h : ∀ i,i < n → Ev (f i) (g i)) : ∃ K0,∀ K,K0 ≤ K → ∀ i,i < n → f i K = some (g i):=by
 induction n with
 | zero => exact ⟨0,fun _ _ i hi => by omega⟩
 | succ n ih =>
  obtain ⟨K0,h0⟩:=ih (fun i hi => h i (by omega))
  obtain ⟨K1,h1⟩:=h n (by omega)
  refine ⟨max K0 K1,fun K hK i hi => ?_⟩
  by_cases e : i = n
  ·subst e;exact h1 K (by omega)
  ·exact h0 K (by omega) i (by omega)
theorem ev_up {α : Type} {f : Nat → Option α} {p : Nat → Nat → Option α} {r : α} (h : Ev f r) (hp : ∃ K0,∀ K,K0 ≤ K → ∀ j,LeO (f j) (p K (j + 1))) (hm : ∀ K j,LeO (p K j) (p K (j + 1))) : Ev (fun K => p K K) r:=by
 obtain ⟨K1,h1⟩:=h
 obtain ⟨K0,h0⟩:=hp
 refine ⟨max K0 (K1 + 1),fun K hK => ?_⟩
 have a:=h0 K (by omega) K1 r (h1 K1 (Nat.le_refl _))
 exact at_rounds (g:=p K) (hm K) (show K1 + 1 ≤ K by omega) a
theorem ev_some {α : Type} {f : Nat → Option α} {r : α} (h : ∀ k,f k = some r) : Ev f r:=⟨0,fun k _ => h k⟩
theorem up_loop {β : Type} (n : Nat) (L : Nat → Nat → Option β) (r : β) (step : ∀ i,i < n → Ev (L (i + 1)) r → Ev (L i) r) (h : Ev (L n) r) : Ev (L 0) r:=by
 have go : ∀ d,d ≤ n → Ev (L (n - d)) r:=by
  intro d
  induction d with
  | zero => intro _;exact h
  | succ d ih =>
   intro hd
   have e : n - (d + 1) + 1 = n - d:=by omega
   exact step (n - (d + 1)) (by omega) (by rw [e];exact ih (by omega))
 have:=go n (Nat.le_refl _)
 rwa [Nat.sub_self] at this
def tab (N : Nat) (F : Nat → Int) : List Int:=(List.range N).map F
theorem tab_length (N : Nat) (F : Nat → Int) : (tab N F).length = N:=by simp [tab]
theorem tab_snoc (N : Nat) (F : Nat → Int) : tab N F ++ [F N] = tab (N + 1) F:=by simp [tab,List.range_succ]
theorem tab_get (N : Nat) (F : Nat → Int) (j : Nat) (h : j < N) : (tab N F).getD j 0 = F j:=by
 simp [tab,List.getD_eq_getElem?_getD,List.getElem?_map,List.getElem?_range h]
theorem tab_congr (N : Nat) (F G : Nat → Int) (h : ∀ j,j < N → F j = G j) : tab N F = tab N G:=by
 unfold tab
 exact List.map_congr_left (fun j hj => h j (List.mem_range.mp hj))
theorem mem_tab {N : Nat} {F : Nat → Int} {x : Int} : x ∈ tab N F ↔ ∃ j,j < N ∧ F j = x:=by simp [tab]
theorem eq_tab (l : List Int) (N : Nat) (h : l.length = N) : l = tab N (fun j => l.getD j 0):=by
 apply List.ext_getElem
 ·simp [tab,h]
 ·intro i h1 h2
  simp [tab,List.getD_eq_getElem?_getD,List.getElem?_eq_getElem h1]
theorem fold_snoc {β : Type} (n : Nat) (f : β → Nat → β) (b : β) : (List.range (n + 1)).foldl f b = f ((List.range n).foldl f b) n:=by simp [List.range_succ]
theorem Ev_t {α : Type} {f g : Nat → Option α} {r : α} {c : Prop} [Decidable c] (h : c) (k : Ev f r) : Ev (fun n => if c then f n else g n) r:=Ev.congr (fun n => if_pos h) k
theorem Ev_f {α : Type} {f g : Nat → Option α} {r : α} {c : Prop} [Decidable c] (h : ¬ c) (k : Ev g r) : Ev (fun n => if c then f n else g n) r:=Ev.congr (fun n => if_neg h) k
def okCost (x : Int) : Bool:=decide (0 ≤ x ∧ x ≤ 1000000)
def MV (n : Int) (l : List Int) : Prop:=1 ≤ n ∧ n ≤ 4 ∧ (l.length : Int) = n * n ∧ ∀ x ∈ l,0 ≤ x ∧ x ≤ 1000000
def GV (n : Int) (l : List Int) : Prop:=MV n l ∧ ∀ x ∈ l,x ≤ 3
instance (n : Int) (l : List Int) : Decidable (MV n l):=by unfold MV;infer_instance
instance (n : Int) (l : List Int) : Decidable (GV n l):=by unfold GV;infer_instance
theorem icost (a : Int) : impl_CostValid.f a = some (okCost a):=by
 unfold impl_CostValid.f okCost
 by_cases h : a ≥ 0
 ·rw [if_pos h];by_cases h2 : a ≤ 1000000 <;> simp [h2] <;> omega
 ·rw [if_neg h];simp;omega
theorem sIn (a lo hi : Int) : spec_l1In.f a lo hi = some (decide (lo ≤ a ∧ a ≤ hi)):=by
 unfold spec_l1In.f
 by_cases h : a ≥ lo
 ·rw [if_pos h];by_cases h2 : a ≤ hi <;> simp [h2] <;> omega
 ·rw [if_neg h];simp;omega
theorem indexG {α : Type} (rdA : List α → Int → α) (hrd : ∀ (pre : List α) (x : α) (t : List α),rdA (pre ++ x :: t) (pre.length : Int) = x) (q : α → Bool) (p : Nat → α → Option Bool) (l : List α) (hp : ∀ x ∈ l,Ev (fun k => p k x) (q x)) (L0 : Nat → List α → Int → Int → Option Int)
  (hL : ∀ k x0 x7 x8,L0 (k + 1) x0 x7 x8 = if x8 < x7 then (if 0 ≤ x8 then (if x8 < (x0.length : Int) then ((p k (rdA x0 x8)).bind fun t1 => if t1 = true then some x8 else L0 k x0 x7 (wrap64 (x8 + 1))) else none) else none) else some (-1)) (h : l.length ≤ 9223372036854775807) :
  Ev (fun k => (L0 k l (l.length : Int) 0).bind fun t1 => some (decide (t1 ≥ 0))) (l.any q):=by
 have go : ∀ (t pre : List α),l = pre ++ t → ∃ z : Int,Ev (fun k => L0 k l (l.length : Int) (pre.length : Int)) z ∧ decide (z ≥ 0) = t.any q:=by
  intro t
  induction t with
  | nil =>
   intro pre hl
   refine ⟨-1,?_,rfl⟩
   refine Ev.step (f:=fun _ => some (-1)) (fun k => ?_) (Ev.now _)
   rw [hL,if_neg (by rw [hl];simp)]
  | cons x t ih =>
   intro pre hl
   have hlen : l.length = pre.length + (t.length + 1):=by rw [hl];simp
   have hx : rdA l (pre.length : Int) = x:=by rw [hl,hrd]
   have hpx:=hp x (by rw [hl];simp)
   have a0 : (pre.length : Int) < (l.length : Int):=by omega
   cases hq : q x with
   | true =>
    rw [hq] at hpx
    refine ⟨pre.length,?_,by simp [hq]⟩
    refine Ev.step (f:=fun k => (p k x).bind fun t1 => if t1 = true then some (pre.length : Int) else L0 k l (l.length : Int) (wrap64 ((pre.length : Int) + 1))) (fun k => ?_) (Ev.bind hpx (Ev.congr (f:=fun _ => some (pre.length : Int)) (fun k => if_pos rfl) (Ev.now _)))
    rw [hL,if_pos a0,if_pos (Int.natCast_nonneg _),if_pos a0,hx]
   | false =>
    rw [hq] at hpx
    obtain ⟨z,hz,hd⟩:=ih (pre ++ [x]) (by simp [hl])
    refine ⟨z,?_,by simp [hq,hd]⟩
    have e : (((pre ++ [x]).length : Nat) : Int) = wrap64 ((pre.length : Int) + 1):=by rw [w64 (by omega) (by omega)];simp
    rw [e] at hz
    refine Ev.step (f:=fun k => (p k x).bind fun t1 => if t1 = true then some (pre.length : Int) else L0 k l (l.length : Int) (wrap64 ((pre.length : Int) + 1))) (fun k => ?_) (Ev.bind hpx (Ev.congr (fun k => if_neg (by simp)) hz))
    rw [hL,if_pos a0,if_pos (Int.natCast_nonneg _),if_pos a0,hx]
 obtain ⟨z,hz,hd⟩:=go l [] rfl
 exact Ev.bind hz ((Ev.now _).is hd)
theorem index_mv (l : List Int) (h : l.length ≤ maxLen) : Ev (fun k => slices_ContainsFunc_int_int.f k l) (l.any fun x => !(okCost x)):=by
 rw [maxLen_eq] at h
 unfold slices_ContainsFunc_int_int.f slices_IndexFunc_int_int.f
 exact indexG rdI rd_mid (fun x => !(okCost x)) (fun _ x => impl_MatrixValid_1.f x) l (fun x _ => ev_some (fun _ => by unfold impl_MatrixValid_1.f;rw [icost,Option.bind_some,Bool.decide_eq_true])) (fun k a b c => slices_IndexFunc_int_int.l0 k a b c) (fun k a b c => by simp only [slices_IndexFunc_int_int.l0]) h
theorem index_gv (l : List Int) (h : l.length ≤ maxLen) : Ev (fun k => slices_ContainsFunc_int_int_b.f k l) (l.any fun x => decide (x > 3)):=by
 rw [maxLen_eq] at h
 unfold slices_ContainsFunc_int_int_b.f slices_IndexFunc_int_int_b.f
 exact indexG rdI rd_mid (fun x => decide (x > 3)) (fun _ x => impl_GradesValid_1.f x) l (fun x _ => ev_some (fun _ => rfl)) (fun k a b c => slices_IndexFunc_int_int_b.l0 k a b c) (fun k a b c => by simp only [slices_IndexFunc_int_int_b.l0]) h
theorem iMV (n : Int) (l : List Int) (hl : l.length ≤ maxLen) : Ev (fun k => impl_MatrixValid.f k n l) (decide (MV n l)):=by
 have no : ∀ f : Nat → Option Bool,(∀ k,f k = some false) → ¬ MV n l → Ev f (decide (MV n l)):=fun f h h2 => (ev_some h).is (by rw [decide_eq_false h2])
 by_cases h1 : n < 1
 ·exact no _ (fun k => by unfold impl_MatrixValid.f;rw [if_pos h1]) (fun h => by unfold MV at h;omega)
 by_cases h2 : n > 4
 ·exact no _ (fun k => by unfold impl_MatrixValid.f;rw [if_neg h1,if_pos h2]) (fun h => by unfold MV at h;omega)
 have hnn : 0 ≤ n * n ∧ n * n ≤ 16:=by
  have : n = 1 ∨ n = 2 ∨ n = 3 ∨ n = 4:=by omega
  rcases this with rfl|rfl|rfl|rfl <;> omega
 by_cases h3 : (l.length : Int) = wrap64 (n * n)
 ·rw [w64 (by omega) (by omega)] at h3
  refine Ev.congr (f:=?f1) (fun k => ?h1) ?k1
  case h1 => unfold impl_MatrixValid.f;rw [if_neg h1,if_neg h2,w64 (x:=n * n) (by omega) (by omega),if_pos h3] <;> exact rfl
  refine Ev.bind (index_mv l hl) ?_
  refine (ev_some (fun k => rfl)).is ?_
  rw [Bool.decide_eq_true]
  rw [Bool.eq_iff_iff]
  simp only [Bool.not_eq_true',List.any_eq_false,Bool.not_eq_true',Bool.not_eq_false,decide_eq_true_eq]
  constructor
  ·intro h;exact ⟨by omega,by omega,h3,fun x hx => by simpa [okCost] using h x hx⟩
  ·intro h x hx;simpa [okCost] using h.2.2.2 x hx
 ·refine no _ (fun k => by unfold impl_MatrixValid.f;rw [if_neg h1,if_neg h2,if_neg h3]) (fun h => ?_)
  rw [w64 (by omega) (by omega)] at h3
  exact h3 h.2.2.1
theorem iGV (n : Int) (l : List Int) (hl : l.length ≤ maxLen) : Ev (fun k => impl_GradesValid.f k n l) (decide (GV n l)):=by
 unfold impl_GradesValid.f
 refine Ev.bind (iMV n l hl) ?_
 by_cases h : MV n l
 ·refine Ev_t (decide_eq_true h) (Ev.bind (index_gv l hl) ((Ev.now _).is ?_))
  rw [Bool.decide_eq_true,Bool.eq_iff_iff]
  simp only [Bool.not_eq_true',List.any_eq_false,decide_eq_true_eq]
  exact ⟨fun g => ⟨h,fun x hx => by have:=g x hx;omega⟩,fun g x hx => by have:=g.2 x hx;omega⟩
 ·exact Ev_f (by rw [decide_eq_false h];simp) ((Ev.now _).is (by rw [decide_eq_false (fun g : GV n l => h g.1)]))
theorem div_mod_at (n i k : Nat) (hk : k < n) : (i * n + k) / n = i ∧ (i * n + k) % n = k:=by
 have hn : 0 < n:=by omega
 constructor
 ·rw [Nat.mul_comm,Nat.mul_add_div hn,Nat.div_eq_of_lt hk,Nat.add_zero]
 ·rw [Nat.mul_comm,Nat.mul_add_mod,Nat.mod_eq_of_lt hk]
theorem cell_lt (n i k : Nat) (hi : i < n) (hk : k < n) : i * n + k < n * n:=by
 have : (i + 1) * n ≤ n * n:=Nat.mul_le_mul_right n hi
 rw [Nat.succ_mul] at this
 omega
theorem sq_le (n : Nat) (h : n ≤ 4) : n * n ≤ 16:=by
 have:=Nat.mul_le_mul h h
 omega
theorem row_le (n i : Nat) (hn : n ≤ 4) (hi : i ≤ n) : i * n ≤ 16:=by
 have:=Nat.mul_le_mul (Nat.le_trans hi hn) hn
 omega
def cutF (n : Nat) (g : Nat → Nat → Int) : Int → Int → Option Int:=fun i k => if 0 ≤ i ∧ i < n ∧ 0 ≤ k ∧ k < n then some (g i.toNat k.toNat) else none
theorem cutF_at (n : Nat) (g : Nat → Nat → Int) (i k : Nat) (hi : i < n) (hk : k < n) : cutF n g (i : Int) (k : Int) = some (g i k):=by
 unfold cutF;rw [if_pos (by omega)];simp
def sqL (n : Nat) (g : Nat → Nat → Int) : List Int:=tab (n * n) (fun m => g (m / n) (m % n))
theorem sqL_get (n : Nat) (g : Nat → Nat → Int) (i k : Nat) (hi : i < n) (hk : k < n) : (sqL n g).getD (i * n + k) 0 = g i k:=by
 unfold sqL
 rw [tab_get _ _ _ (cell_lt n i k hi hk)]
 obtain ⟨h1,h2⟩:=div_mod_at n i k hk
 rw [h1,h2]
theorem sqL_congr (n : Nat) (g h : Nat → Nat → Int) (e : ∀ i k,i < n → k < n → g i k = h i k) : sqL n g = sqL n h:=by
 refine tab_congr _ _ _ (fun j hj => e _ _ (Nat.div_lt_of_lt_mul hj) (Nat.mod_lt _ ?_))
 rcases n with _|n
 ·simp at hj
 ·omega
theorem eq_sqL (n : Nat) (l : List Int) (h : l.length = n * n) : l = sqL n (fun i k => l.getD (i * n + k) 0):=by
 refine (eq_tab l _ h).trans (tab_congr _ _ _ (fun j _ => ?_))
 show l.getD j 0 = l.getD (j / n * n + j % n) 0
 rw [Nat.mul_comm,Nat.div_add_mod]
theorem filledG (n : Nat) (hn : n ≤ 4) (g : Nat → Nat → Int) (c : Nat → Int → Int → Option Int) (hc : ∀ i,i < n → ∀ k,k < n → Ev (fun K => c K (i : Int) (k : Int)) (g i k)) (L0 : Nat → Int → Int → Int → Int → List Int → Option (Int × List Int)) (L1 : Nat → Int → Int → Int → Int → Int → Int → Int → List Int → Option (Int × List Int))
  (h0 : ∀ k x0 x10 x11 y z,L0 (k + 1) x0 x10 x11 y z = if x11 < x10 then L1 k x0 x11 x10 x11 x0 0 y z else some (y,z))
  (h1 : ∀ k x0 x6 x10 x11 x14 x15 y z,L1 (k + 1) x0 x6 x10 x11 x14 x15 y z = if x15 < x14 then ((c k x6 x15).bind fun t1 => if z.length < 17592186044416 then L1 k x0 x6 x10 x11 x14 (wrap64 (x15 + 1)) y (z ++ [t1]) else none) else L0 k x0 x10 (wrap64 (x11 + 1)) y z) :
  Ev (fun k => L0 k (n : Int) (n : Int) 0 (n : Int) []) ((n : Int),sqL n g):=by
 have inner : ∀ (i : Nat) (r : Int × List Int),i < n → Ev (fun j => L0 j n n ((i + 1 : Nat) : Int) n (tab ((i + 1) * n) (fun m => g (m / n) (m % n)))) r →
   Ev (fun j => L0 j n n (i : Int) n (tab (i * n) (fun m => g (m / n) (m % n)))) r:=by
  intro i r hi h
  refine Ev.step (f:=fun j => L1 j n i n i n ((0 : Nat) : Int) n (tab (i * n + 0) (fun m => g (m / n) (m % n)))) (fun k => ?_) ?_
  ·rw [h0,if_pos (by omega)];rfl
  refine up_loop n (fun k j => L1 j n i n i n (k : Int) n (tab (i * n + k) (fun m => g (m / n) (m % n)))) r (fun k hk hs => ?_) ?_
  ·have hr:=row_le n i hn (by omega)
   obtain ⟨d1,d2⟩:=div_mod_at n i k hk
   have e : tab (i * n + k) (fun m => g (m / n) (m % n)) ++ [g i k] = tab (i * n + (k + 1)) (fun m => g (m / n) (m % n)):=by
    rw [← Nat.add_assoc,← tab_snoc,d1,d2]
   have b0 : (tab (i * n + k) (fun m => g (m / n) (m % n))).length < 17592186044416:=by rw [tab_length];omega
   have a0 : (k : Int) < (n : Int):=by omega
   have wk : wrap64 ((k : Int) + 1) = ((k + 1 : Nat) : Int):=by rw [w64 (by omega) (by omega)];rfl
   refine Ev.step (f:=fun j => (c j (i : Int) (k : Int)).bind fun t1 => if (tab (i * n + k) (fun m => g (m / n) (m % n))).length < 17592186044416 then L1 j n i n i n (wrap64 ((k : Int) + 1)) n (tab (i * n + k) (fun m => g (m / n) (m % n)) ++ [t1]) else none) (fun j => ?_) (Ev.bind (hc i hi k hk) (Ev_t b0 ?_))
   ·rw [h1,if_pos a0]
   ·rw [wk,e];exact hs
  ·refine Ev.step (fun j => ?_) h
   rw [h1,if_neg (by omega),w64 (by omega) (by omega),Nat.succ_mul];rfl
 refine Ev.congr (f:=fun j => L0 j n n ((0 : Nat) : Int) n (tab (0 * n) (fun m => g (m / n) (m % n)))) (fun k => ?_) ?_
 ·simp [tab]
 refine up_loop n (fun i j => L0 j n n (i : Int) n (tab (i * n) (fun m => g (m / n) (m % n)))) _ (fun i hi hs => inner i _ hi hs) ?_
 refine Ev.step (f:=fun _ => some ((n : Int),sqL n g)) (fun j => ?_) (Ev.now _)
 rw [h0,if_neg (by omega)];rfl
theorem at_eq (n : Nat) (hn : n ≤ 4) (l : List Int) (hl : l.length = n * n) (i k : Nat) (hi : i < n) (hk : k < n) : impl_Matrix_at.f (n : Int) l (i : Int) (k : Int) = some (l.getD (i * n + k) 0):=by
 have hc:=cell_lt n i k hi hk
 have hr:=row_le n i hn (by omega)
 have e : wrap64 (wrap64 ((i : Int) * (n : Int)) + k) = ((i * n + k : Nat) : Int):=by
  have : (i : Int) * (n : Int) = ((i * n : Nat) : Int):=by simp
  rw [this,w64 (x:=((i * n : Nat) : Int)) (by omega) (by omega),w64 (by omega) (by omega)];simp
 unfold impl_Matrix_at.f
 rw [e,if_pos (by omega),if_pos (by omega),rd_nat]
theorem tdiv_nat (m n : Nat) : Int.tdiv (m : Int) (n : Int) = ((m / n : Nat) : Int):=by rw [Int.tdiv_eq_ediv_of_nonneg (by omega)];simp
theorem tmod_nat (m n : Nat) : Int.tmod (m : Int) (n : Int) = ((m % n : Nat) : Int):=by rw [Int.tmod_eq_emod_of_nonneg (by omega)];simp
theorem idx1 (n m l : Nat) (hn : n ≤ 4) (hi : m / n < n) (hl : l < n) : wrap64 (wrap64 (wrap64 (Int.tdiv (m : Int) (n : Int)) * (n : Int)) + l) = ((m / n * n + l : Nat) : Int):=by
 have r1:=row_le n (m / n) hn (by omega)
 rw [tdiv_nat]
 obtain ⟨q,hq⟩ : ∃ q : Nat,m / n = q:=⟨_,rfl⟩
 rw [hq] at hi r1 ⊢
 have h1 : ((q : Nat) : Int) * (n : Int) = ((q * n : Nat) : Int):=by simp
 obtain ⟨s,hs⟩ : ∃ s : Nat,q * n = s:=⟨_,rfl⟩
 rw [w64 (x:=((q : Nat) : Int)) (by omega) (by omega),h1]
 rw [hs] at r1 ⊢
 clear h1 hs hq
 rw [w64 (x:=((s : Nat) : Int)) (by omega) (by omega),w64 (by omega) (by omega)];simp
theorem idx2 (n m l : Nat) (hn : n ≤ 4) (hk : m % n < n) (hl : l < n) : wrap64 (wrap64 ((l : Int) * (n : Int)) + Int.tmod (m : Int) (n : Int)) = ((l * n + m % n : Nat) : Int):=by
 have r2:=row_le n l hn (by omega)
 rw [tmod_nat]
 obtain ⟨q,hq⟩ : ∃ q : Nat,m % n = q:=⟨_,rfl⟩
 rw [hq] at hk ⊢
 have h1 : (l : Int) * (n : Int) = ((l * n : Nat) : Int):=by simp
 obtain ⟨s,hs⟩ : ∃ s : Nat,l * n = s:=⟨_,rfl⟩
 rw [h1]
 rw [hs] at r2 ⊢
 clear h1 hs hq
 rw [w64 (x:=((s : Nat) : Int)) (by omega) (by omega),w64 (by omega) (by omega)];simp
theorem MV_nat {n : Int} {l : List Int} (h : MV n l) : ∃ m : Nat,n = (m : Int) ∧ 1 ≤ m ∧ m ≤ 4 ∧ l.length = m * m:=by
 refine ⟨n.toNat,?_⟩
 have h1:=h.1
 have h2:=h.2.1
 have h3:=h.2.2.1
 obtain ⟨m,rfl⟩ : ∃ m : Nat,n = (m : Int):=⟨n.toNat,by omega⟩
 refine ⟨by simp,by simp;omega,by simp;omega,?_⟩
 simp only [Int.toNat_natCast]
 exact_mod_cast h3
theorem toIntS_ev (l : List Int) (h : l.length ≤ 1048576) : Ev (fun k => laws_toIntS.f k l) l:=by
 have go : ∀ (t pre : List Int),l = pre ++ t → Ev (fun k => laws_toIntS.l0 k l (pre ++ List.replicate t.length 0) (pre.length : Int)) l:=by
  intro t
  induction t with
  | nil =>
   intro pre hl
   refine Ev.step (f:=fun _ => some l) (fun k => ?_) (Ev.now _)
   simp only [laws_toIntS.l0]
   rw [if_neg (by rw [hl];simp)]
   simp [hl]
  | cons x t ih =>
   intro pre hl
   have hlen : l.length = pre.length + (t.length + 1):=by rw [hl];simp
   refine Ev.step (fun k => ?_) (ih (pre ++ [x]) (by simp [hl]))
   simp only [laws_toIntS.l0]
   rw [if_pos (by omega),if_pos (by omega),if_pos (by simp;omega),w64 (by omega) (by omega),hl,rd_mid,snoc_len,← hl]
   congr 1
   simp [List.replicate_succ,List.set_append]
 refine Ev.congr (fun k => ?_) (go l [] rfl)
 unfold laws_toIntS.f
 rw [if_pos (by omega),if_pos (by omega)]
 simp
theorem eqIntS_ev (a b : List Int) (h : a.length ≤ 1000000000) : Ev (fun k => laws_eqIntS.f k a b) (decide (a = b)):=by
 by_cases hl : a.length = b.length
 ·have go : ∀ (t u pre : List Int),a = pre ++ t → b = pre ++ u → Ev (fun k => laws_eqIntS.l0 k a b (pre.length : Int)) (decide (a = b)):=by
   intro t
   induction t with
   | nil =>
    intro u pre ha hb
    have hu : u = []:=by
     have h1:=congrArg List.length ha
     have h2:=congrArg List.length hb
     simp at h1 h2
     exact List.length_eq_zero_iff.mp (by omega)
    subst hu
    have hab : a = b:=by rw [ha,hb]
    refine Ev.step (f:=fun _ => some true) (fun k => ?_) ((Ev.now _).is (by rw [decide_eq_true hab]))
    simp only [laws_eqIntS.l0]
    rw [if_neg (by rw [ha];simp)]
   | cons x t ih =>
    intro u pre ha hb
    have hla : a.length = pre.length + (t.length + 1):=by rw [ha];simp
    cases u with
    | nil => have h2:=congrArg List.length hb;simp at h2;omega
    | cons y u =>
     by_cases hxy : x = y
     ·subst hxy
      refine Ev.step (fun k => ?_) (ih u (pre ++ [x]) (by simp [ha]) (by simp [hb]))
      simp only [laws_eqIntS.l0]
      rw [if_pos (by omega),if_pos (by omega),if_pos (by omega),w64 (by omega) (by omega),snoc_len,if_pos (by rw [ha,hb,rd_mid,rd_mid])]
     ·have hab : ¬ a = b:=by
       intro e
       rw [ha,hb] at e
       have:=List.append_cancel_left e
       simp at this
       exact hxy this.1
      refine Ev.step (f:=fun _ => some false) (fun k => ?_) ((Ev.now _).is (by rw [decide_eq_false hab]))
      simp only [laws_eqIntS.l0]
      rw [if_pos (by omega),if_pos (by omega),if_pos (by omega),if_neg (by rw [ha,hb,rd_mid,rd_mid];exact hxy)]
  refine Ev.congr (fun k => ?_) (go a b [] rfl rfl)
  unfold laws_eqIntS.f
  rw [if_pos (by omega)];rfl
 ·have hab : ¬ a = b:=fun e => hl (by rw [e])
  refine Ev.congr (f:=fun _ => some false) (fun k => ?_) ((Ev.now _).is (by rw [decide_eq_false hab]))
  unfold laws_eqIntS.f
  rw [if_neg (by omega)]
theorem eqMatrix_ev (n : Int) (l : List Int) (h : l.length ≤ 1000000000) : Ev (fun k => laws_eqMatrix.f k n l n l) true:=by
 refine Ev.congr (f:=?f1) (fun k => ?h1) ?k1
 case h1 => unfold laws_eqMatrix.f;rw [if_pos rfl] <;> exact rfl
 exact Ev.bind (eqIntS_ev l l h) (Ev.congr (f:=fun _ => some true) (fun k => by simp) (Ev.now _))
theorem Ev_sz {α : Type} {o : Option Int} {z : Int} {g : Nat → Int → Option α} {r : α} (h : o = some z) (k : Ev (fun n => g n z) r) : Ev (fun n => o.bind (g n)) r:=Ev.congr (fun n => by rw [h];rfl) k
theorem rdS_mid (pre : List Stp) (x : Stp) (t : List Stp) : rdT (pre ++ x :: t) (pre.length : Int) = x:=by simp [rdT,List.getD_eq_getElem?_getD]
theorem snocA {α : Type} (pre : List α) (x : α) : (((pre ++ [x]).length : Nat) : Int) = (pre.length : Int) + 1:=by simp
def mrk (n : Int) : Option Int → List Int → Bool
 | _,[] => true
 | p,x :: t => decide (0 ≤ x ∧ x < n) && (match p with|none => true|some y => decide (y < x)) && mrk n (some x) t
def stepOk (n : Int) (s : Stp) : Bool:=decide (0 ≤ s.f0 ∧ s.f0 < n ∧ 0 ≤ s.f2 ∧ s.f2 < n ∧ 0 ≤ s.f3 ∧ s.f3 ≤ 3 ∧ (s.f1.toList = ([97] : List UInt8) ∨ s.f1.toList = ([98] : List UInt8)))
def bef (s t : Stp) : Bool:=if s.f0 = t.f0 then (if s.f1.toList = t.f1.toList then decide (s.f2 < t.f2) else Op.bytesLess s.f1.toList t.f1.toList) else decide (s.f0 < t.f0)
def stp (n : Int) : Option Stp → List Stp → Bool
 | _,[] => true
 | p,x :: t => stepOk n x && (match p with|none => true|some y => bef y x) && stp n (some x) t
def AV (n : Int) (s f : List Int) (t : List Stp) : Bool:=decide (1 ≤ n ∧ n ≤ 4 ∧ t.length ≤ 24) && mrk n none s && mrk n none f && stp n none t
theorem iMarks (n : Int) (l : List Int) (h : l.length ≤ 1000000000) : Ev (fun k => impl_statesOk.f k l n) (mrk n none l):=by
 have go : ∀ (t pre : List Int),l = pre ++ t → Ev (fun k => impl_statesOk.l0 k l n l (l.length : Int) (pre.length : Int)) (mrk n pre.getLast? t):=by
  intro t
  induction t with
  | nil =>
   intro pre hl
   refine Ev.step (f:=fun _ => some true) (fun k => ?_) (Ev.now _)
   simp only [impl_statesOk.l0];rw [if_neg (by rw [hl];simp)]
  | cons x t ih =>
   intro pre hl
   have hlen : l.length = pre.length + (t.length + 1):=by rw [hl];simp
   have hx : rdI l (pre.length : Int) = x:=by rw [hl,rd_mid]
   have i1:=ih (pre ++ [x]) (by simp [hl])
   rw [List.getLast?_concat,snoc_len] at i1
   by_cases h0 : x < 0
   ·refine Ev.step (f:=fun _ => some false) (fun k => ?_) ((Ev.now _).is ?_)
    ·simp only [impl_statesOk.l0];rw [if_pos (by omega),if_pos (by omega),if_pos (by omega),hx,if_pos h0]
    ·simp only [mrk];rw [decide_eq_false (by omega)];rfl
   by_cases h1 : x ≥ n
   ·refine Ev.step (f:=fun _ => some false) (fun k => ?_) ((Ev.now _).is ?_)
    ·simp only [impl_statesOk.l0];rw [if_pos (by omega),if_pos (by omega),if_pos (by omega),hx,if_neg h0,if_pos h1]
    ·simp only [mrk];rw [decide_eq_false (by omega)];rfl
   rcases List.eq_nil_or_concat pre with rfl | ⟨q,y,rfl⟩
   ·refine Ev.step (fun k => ?_) (i1.is ?_)
    ·simp only [impl_statesOk.l0];rw [if_pos (by omega),if_pos (by omega),if_pos (by omega),hx,if_neg h0,if_neg h1,if_neg (by simp),w64 (by omega) (by omega)]
    ·simp only [mrk,List.getLast?_nil];rw [decide_eq_true (by omega)];rfl
   ·rw [List.concat_eq_append] at *
    have e : wrap64 (((q ++ [y]).length : Int) - 1) = (q.length : Int):=by rw [snoc_len,w64 (by omega) (by rw [List.length_append] at hlen;omega)];omega
    have hy : rdI l (q.length : Int) = y:=by rw [hl,List.append_assoc];exact rd_mid q y (x :: t)
    have hq:=hlen
    rw [List.length_append,List.length_singleton] at hq
    by_cases h2 : y ≥ x
    ·refine Ev.step (f:=fun _ => some false) (fun k => ?_) ((Ev.now _).is ?_)
     ·simp only [impl_statesOk.l0];rw [if_pos (by omega),if_pos (by omega),if_pos (by omega),hx,if_neg h0,if_neg h1,if_pos (by rw [snoc_len];omega),e,if_pos (by omega),if_pos (by omega),hy,if_pos h2]
     ·simp only [mrk,List.getLast?_concat];rw [decide_eq_false (p:=y < x) (by omega)];simp
    ·refine Ev.step (fun k => ?_) (i1.is ?_)
     ·simp only [impl_statesOk.l0];rw [if_pos (by omega),if_pos (by omega),if_pos (by omega),hx,if_neg h0,if_neg h1,if_pos (by rw [snoc_len];omega),e,if_pos (by omega),if_pos (by omega),hy,if_neg h2,w64 (by omega) (by omega)]
     ·simp only [mrk,List.getLast?_concat];rw [decide_eq_true (p:=y < x) (by omega),decide_eq_true (by omega)];rfl
 exact go l [] rfl
theorem sMarks (n : Int) (hn : 1 ≤ n ∧ n ≤ 4) (l : List Int) (h : l.length ≤ 1000000000) : Ev (fun k => spec_l3Marks.f k n l) (mrk n none l):=by
 have go : ∀ (t pre : List Int),l = pre ++ t → Ev (fun k => spec_l3Marks.l0 k n l l (l.length : Int) (pre.length : Int)) (mrk n pre.getLast? t):=by
  intro t
  induction t with
  | nil =>
   intro pre hl
   refine Ev.step (f:=fun _ => some true) (fun k => ?_) (Ev.now _)
   simp only [spec_l3Marks.l0];rw [if_neg (by rw [hl];simp)]
  | cons x t ih =>
   intro pre hl
   have hlen : l.length = pre.length + (t.length + 1):=by rw [hl];simp
   have hx : rdI l (pre.length : Int) = x:=by rw [hl,rd_mid]
   have i1:=ih (pre ++ [x]) (by simp [hl])
   rw [List.getLast?_concat,snoc_len] at i1
   have hw : wrap64 (n - 1) = n - 1:=w64 (by omega) (by omega)
   by_cases h0 : 0 ≤ x ∧ x < n
   case neg =>
    refine Ev.step (f:=fun _ => some false) (fun k => ?_) ((Ev.now _).is ?_)
    ·simp only [spec_l3Marks.l0];rw [if_pos (by omega),if_pos (by omega),if_pos (by omega),hx,sIn,hw,decide_eq_false (by omega),Option.bind_some,if_neg (by simp)]
    ·simp only [mrk];rw [decide_eq_false h0];rfl
   have hd : decide (0 ≤ x ∧ x ≤ n - 1) = true:=decide_eq_true (by omega)
   rcases List.eq_nil_or_concat pre with rfl | ⟨q,y,rfl⟩
   ·refine Ev.step (fun k => ?_) (i1.is ?_)
    ·simp only [spec_l3Marks.l0];rw [if_pos (by omega),if_pos (by omega),if_pos (by omega),hx,sIn,hw,hd,Option.bind_some,if_pos rfl,if_neg (by simp),w64 (by omega) (by omega)]
    ·simp only [mrk,List.getLast?_nil];rw [decide_eq_true h0];rfl
   ·rw [List.concat_eq_append] at *
    have e : wrap64 (((q ++ [y]).length : Int) - 1) = (q.length : Int):=by rw [snoc_len,w64 (by omega) (by rw [List.length_append] at hlen;omega)];omega
    have hy : rdI l (q.length : Int) = y:=by rw [hl,List.append_assoc];exact rd_mid q y (x :: t)
    have hq:=hlen
    rw [List.length_append,List.length_singleton] at hq
    by_cases h2 : y ≥ x
    ·refine Ev.step (f:=fun _ => some false) (fun k => ?_) ((Ev.now _).is ?_)
     ·simp only [spec_l3Marks.l0];rw [if_pos (by omega),if_pos (by omega),if_pos (by omega),hx,sIn,hw,hd,Option.bind_some,if_pos rfl,if_pos (by rw [snoc_len];omega),e,if_pos (by omega),if_pos (by omega),hy,if_pos h2]
     ·simp only [mrk,List.getLast?_concat];rw [decide_eq_false (p:=y < x) (by omega)];simp
    ·refine Ev.step (fun k => ?_) (i1.is ?_)
     ·simp only [spec_l3Marks.l0];rw [if_pos (by omega),if_pos (by omega),if_pos (by omega),hx,sIn,hw,hd,Option.bind_some,if_pos rfl,if_pos (by rw [snoc_len];omega),e,if_pos (by omega),if_pos (by omega),hy,if_neg h2,w64 (by omega) (by omega)]
     ·simp only [mrk,List.getLast?_concat];rw [decide_eq_true (p:=y < x) (by omega),decide_eq_true h0];rfl
 exact go l [] rfl
def cmp0 (a b : Int) : Int:=if a < b then -1 else if a > b then 1 else 0
def ordL (s t : Stp) : Int:=if cmp0 s.f0 t.f0 = 0 then (if Lib.compareBytes s.f1.data.toList t.f1.data.toList = 0 then cmp0 s.f2 t.f2 else Lib.compareBytes s.f1.data.toList t.f1.data.toList) else cmp0 s.f0 t.f0
theorem cmp_eq (a b : Int) : cmp_Compare_int.f a b = some (cmp0 a b):=by
 unfold cmp_Compare_int.f cmp_isNaN_int.f cmp0
 simp only [decide_true,Bool.not_true,Option.bind_some,Bool.false_eq_true,if_false]
 by_cases h : a < b
 ·rw [if_pos h,if_pos h]
 ·rw [if_neg h,if_neg h];by_cases h2 : a > b
  ·rw [if_pos h2,if_pos h2]
  ·rw [if_neg h2,if_neg h2]
theorem cmpOr_ev (l : List Int) (h : l.length ≤ 1000000000) : Ev (fun k => cmp_Or_int.f k l) ((l.find? (· != 0)).getD 0):=by
 have go : ∀ (t pre : List Int),l = pre ++ t → Ev (fun k => cmp_Or_int.l0 k l (l.length : Int) (pre.length : Int)) ((t.find? (· != 0)).getD 0):=by
  intro t
  induction t with
  | nil =>
   intro pre hl
   refine Ev.step (f:=fun _ => some 0) (fun k => ?_) (Ev.now _)
   simp only [cmp_Or_int.l0];rw [if_neg (by rw [hl];simp)]
  | cons x t ih =>
   intro pre hl
   have hlen : l.length = pre.length + (t.length + 1):=by rw [hl];simp
   have hx : rdI l (pre.length : Int) = x:=by rw [hl,rd_mid]
   have i1:=ih (pre ++ [x]) (by simp [hl])
   rw [snoc_len] at i1
   by_cases h0 : x = 0
   ·refine Ev.step (fun k => ?_) (i1.is ?_)
    ·simp only [cmp_Or_int.l0];rw [if_pos (by omega),if_pos (by omega),if_pos (by omega),hx,if_pos h0,w64 (by omega) (by omega)]
    ·simp [List.find?_cons,h0]
   ·refine Ev.step (f:=fun _ => some x) (fun k => ?_) ((Ev.now _).is ?_)
    ·simp only [cmp_Or_int.l0];rw [if_pos (by omega),if_pos (by omega),if_pos (by omega),hx,if_neg h0]
    ·simp [List.find?_cons,h0]
 exact go l [] rfl
theorem iOrder (s t : Stp) : Ev (fun k => impl_stepOrder.f k s.f0 s.f1 s.f2 s.f3 t.f0 t.f1 t.f2 t.f3) (ordL s t):=by
 refine Ev.congr (f:=?f1) (fun k => ?h1) ?k1
 case h1 => unfold impl_stepOrder.f strings_Compare.f bytealg_CompareString.f;rw [cmp_eq,cmp_eq,Option.bind_some,Option.bind_some,Option.bind_some,Option.bind_some] <;> exact rfl
 refine (Ev.bind (cmpOr_ev _ (by simp)) (Ev.now _)).is ?_
 unfold ordL
 by_cases h : cmp0 s.f0 t.f0 = 0
 ·by_cases h2 : Lib.compareBytes s.f1.data.toList t.f1.data.toList = 0
  ·by_cases h3 : cmp0 s.f2 t.f2 = 0 <;> simp [List.find?_cons,h,h2,h3]
  ·simp [List.find?_cons,h,h2]
 ·simp [List.find?_cons,h]
theorem sBefore (s t : Stp) : spec_l3Before.f s.f0 s.f1 s.f2 s.f3 t.f0 t.f1 t.f2 t.f3 = some (bef s t):=by
 unfold spec_l3Before.f bef
 by_cases h : s.f0 = t.f0
 ·rw [if_pos h,if_pos h];by_cases h2 : s.f1.toList = t.f1.toList
  ·rw [if_pos h2,if_pos h2]
  ·rw [if_neg h2,if_neg h2]
 ·rw [if_neg h,if_neg h]
theorem cmp0_lt {a b : Int} : cmp0 a b < 0 ↔ a < b:=by
 unfold cmp0
 by_cases h : a < b
 ·simp [h]
 ·by_cases h2 : a > b <;> simp [h,h2]
theorem cmp0_eq {a b : Int} : cmp0 a b = 0 ↔ a = b:=by
 unfold cmp0
 by_cases h : a < b
 ·rw [if_pos h];omega
 ·by_cases h2 : a > b
  ·rw [if_neg h,if_pos h2];omega
  ·rw [if_neg h,if_neg h2];omega
theorem ord_bef {n : Int} {s t : Stp} (hs : stepOk n s = true) (ht : stepOk n t = true) : ordL s t < 0 ↔ bef s t = true:=by
 unfold stepOk at hs ht
 have hs:=of_decide_eq_true hs
 have ht:=of_decide_eq_true ht
 unfold ordL bef
 have e1:=toList_L s.f1
 have e2:=toList_L t.f1
 unfold L at e1 e2
 rw [← e1,← e2]
 by_cases h : s.f0 = t.f0
 ·rw [if_pos (cmp0_eq.mpr h),if_pos h]
  rcases hs.2.2.2.2.2.2 with a|a <;> rcases ht.2.2.2.2.2.2 with b|b <;> rw [a,b]
  ·rw [if_pos rfl,show Lib.compareBytes ([97] : List UInt8) [97] = 0 by decide,if_pos rfl,cmp0_lt,decide_eq_true_eq]
  ·rw [if_neg (show ¬ Lib.compareBytes ([97] : List UInt8) [98] = 0 by decide),if_neg (by decide)];decide
  ·rw [if_neg (show ¬ Lib.compareBytes ([98] : List UInt8) [97] = 0 by decide),if_neg (by decide)];decide
  ·rw [if_pos rfl,show Lib.compareBytes ([98] : List UInt8) [98] = 0 by decide,if_pos rfl,cmp0_lt,decide_eq_true_eq]
 ·rw [if_neg (fun g => h (cmp0_eq.mp g)),if_neg h,cmp0_lt,decide_eq_true_eq]
theorem iSteps (n : Int) (s f : List Int) (t : List Stp) (h : t.length ≤ 1000000000) : Ev (fun k => impl_AutomatonValid.l0 k t (t.length : Int) 0 n s f t) (stp n none t):=by
 have go : ∀ (u pre : List Stp),t = pre ++ u → (∀ y,pre.getLast? = some y → stepOk n y = true) → Ev (fun k => impl_AutomatonValid.l0 k t (t.length : Int) (pre.length : Int) n s f t) (stp n pre.getLast? u):=by
  intro u
  induction u with
  | nil =>
   intro pre hl _
   refine Ev.step (f:=fun _ => some true) (fun k => ?_) (Ev.now _)
   simp only [impl_AutomatonValid.l0];rw [if_neg (by rw [hl];simp)]
  | cons x u ih =>
   intro pre hl hp
   have hlen : t.length = pre.length + (u.length + 1):=by rw [hl];simp
   have hx : rdT t (pre.length : Int) = x:=by rw [hl,rdS_mid]
   have tail : stepOk n x = true → Ev (fun k => if (pre.length : Int) > 0 then (if 0 ≤ (wrap64 ((pre.length : Int) - 1)) then (if (wrap64 ((pre.length : Int) - 1)) < (t.length : Int) then ((impl_stepOrder.f k ((rdT t (wrap64 ((pre.length : Int) - 1))).f0) ((rdT t (wrap64 ((pre.length : Int) - 1))).f1) ((rdT t (wrap64 ((pre.length : Int) - 1))).f2) ((rdT t (wrap64 ((pre.length : Int) - 1))).f3) x.f0 x.f1 x.f2 x.f3).bind fun z => (if z ≥ 0 then (some false) else (impl_AutomatonValid.l0 k t (t.length : Int) (wrap64 ((pre.length : Int) + 1)) n s f t))) else none) else none) else (impl_AutomatonValid.l0 k t (t.length : Int) (wrap64 ((pre.length : Int) + 1)) n s f t)) (stp n pre.getLast? (x :: u)):=by
    intro hok
    have i1:=ih (pre ++ [x]) (by simp [hl]) (fun y hy => by rw [List.getLast?_concat] at hy;obtain rfl:=Option.some.inj hy;exact hok)
    rw [List.getLast?_concat,snocA] at i1
    have ew : wrap64 ((pre.length : Int) + 1) = (pre.length : Int) + 1:=w64 (by omega) (by omega)
    rw [ew]
    rcases List.eq_nil_or_concat pre with rfl | ⟨q,y,rfl⟩
    ·refine Ev.congr (fun k => by rw [if_neg (by simp)] <;> exact rfl) (i1.is ?_)
     simp only [stp,List.getLast?_nil,hok,Bool.true_and]
    ·rw [List.concat_eq_append] at *
     have hq:=hlen
     rw [List.length_append,List.length_singleton] at hq
     have e : wrap64 (((q ++ [y]).length : Int) - 1) = (q.length : Int):=by rw [snocA,w64 (by omega) (by omega)];omega
     have hy : rdT t (q.length : Int) = y:=by rw [hl,List.append_assoc];exact rdS_mid q y (x :: u)
     have hoy : stepOk n y = true:=hp y (by rw [List.getLast?_concat])
     refine Ev.congr (f:=?f1) (fun k => ?h1) ?k1
     case h1 => rw [e,if_pos (by rw [snocA];omega),if_pos (by omega),if_pos (by omega),hy] <;> exact rfl
     refine Ev.bind (iOrder y x) ?_
     by_cases hb : bef y x = true
     ·refine Ev.congr (fun k => if_neg (by have:=(ord_bef hoy hok).mpr hb;omega)) (i1.is ?_)
      simp only [stp,List.getLast?_concat,hok,hb,Bool.true_and]
     ·refine Ev.congr (f:=fun _ => some false) (fun k => if_pos (Int.not_lt.mp fun h => hb ((ord_bef hoy hok).mp h))) ((Ev.now _).is ?_)
      simp only [stp,List.getLast?_concat,hok,Bool.true_and]
      rw [Bool.not_eq_true] at hb
      rw [hb];rfl
   by_cases hok : stepOk n x = true
   ·have ho:=of_decide_eq_true (show decide _ = true from hok)
    refine Ev.step (fun k => ?_) (tail hok)
    simp only [impl_AutomatonValid.l0]
    rw [if_pos (by omega),if_pos (by omega),if_pos (by omega),hx,if_neg (by omega),if_neg (by omega),if_neg (by omega),if_neg (by omega)]
    rcases ho.2.2.2.2.2.2 with a|a
    ·rw [if_pos a,if_neg (by omega),if_neg (by omega)]
    ·rw [if_neg (by rw [a];decide),if_pos a,if_neg (by omega),if_neg (by omega)]
   ·refine Ev.step (f:=fun _ => some false) (fun k => ?_) ((Ev.now _).is ?_)
    ·simp only [impl_AutomatonValid.l0]
     rw [if_pos (by omega),if_pos (by omega),if_pos (by omega),hx]
     by_cases a1 : x.f0 < 0
     ·rw [if_pos a1]
     by_cases a2 : x.f0 ≥ n
     ·rw [if_neg a1,if_pos a2]
     by_cases a3 : x.f2 < 0
     ·rw [if_neg a1,if_neg a2,if_pos a3]
     by_cases a4 : x.f2 ≥ n
     ·rw [if_neg a1,if_neg a2,if_neg a3,if_pos a4]
     rw [if_neg a1,if_neg a2,if_neg a3,if_neg a4]
     by_cases b1 : x.f1.toList = ([97] : List UInt8)
     ·rw [if_pos b1]
      by_cases a5 : x.f3 < 0
      ·rw [if_pos a5]
      by_cases a6 : x.f3 > 3
      ·rw [if_neg a5,if_pos a6]
      exact absurd (show stepOk n x = true from decide_eq_true ⟨by omega,by omega,by omega,by omega,by omega,by omega,.inl b1⟩) hok
     ·rw [if_neg b1]
      by_cases b2 : x.f1.toList = ([98] : List UInt8)
      ·rw [if_pos b2]
       by_cases a5 : x.f3 < 0
       ·rw [if_pos a5]
       by_cases a6 : x.f3 > 3
       ·rw [if_neg a5,if_pos a6]
       exact absurd (show stepOk n x = true from decide_eq_true ⟨by omega,by omega,by omega,by omega,by omega,by omega,.inr b2⟩) hok
      ·rw [if_neg b2]
    ·rw [Bool.not_eq_true] at hok
     simp only [stp,hok,Bool.false_and]
 exact go t [] rfl (fun y hy => by simp at hy)
theorem sStepOk (n : Int) (hn : 1 ≤ n ∧ n ≤ 4) (x : Stp) : spec_l3Step.f n x.f0 x.f1 x.f2 x.f3 = some (stepOk n x):=by
 unfold spec_l3Step.f stepOk
 rw [sIn,sIn,sIn,w64 (x:=n - 1) (by omega) (by omega),Option.bind_some]
 by_cases a1 : 0 ≤ x.f0 ∧ x.f0 ≤ n - 1
 ·rw [decide_eq_true a1,if_pos rfl,Option.bind_some]
  by_cases a2 : 0 ≤ x.f2 ∧ x.f2 ≤ n - 1
  ·rw [decide_eq_true a2,if_pos rfl,Option.bind_some]
   by_cases a3 : 0 ≤ x.f3 ∧ x.f3 ≤ 3
   ·rw [decide_eq_true a3,if_pos rfl]
    by_cases b : x.f1.toList = ([97] : List UInt8)
    ·rw [if_pos b,decide_eq_true (by refine ⟨?_,?_,?_,?_,?_,?_,.inl b⟩ <;> omega)]
    ·rw [if_neg b]
     by_cases b2 : x.f1.toList = ([98] : List UInt8)
     ·rw [decide_eq_true b2,decide_eq_true (by refine ⟨?_,?_,?_,?_,?_,?_,.inr b2⟩ <;> omega)]
     ·rw [decide_eq_false b2,decide_eq_false (by intro g;rcases g.2.2.2.2.2.2 with c|c;exact b c;exact b2 c)]
   ·rw [decide_eq_false a3,if_neg (by simp),decide_eq_false (by omega)]
  ·rw [decide_eq_false a2,if_neg (by simp),decide_eq_false (by omega)]
 ·rw [decide_eq_false a1,if_neg (by simp),decide_eq_false (by omega)]
theorem sSteps (n : Int) (hn : 1 ≤ n ∧ n ≤ 4) (s f : List Int) (t : List Stp) (h : t.length ≤ 1000000000) : Ev (fun k => spec_AutomatonValid.l0 k t (t.length : Int) 0 n s f t) (stp n none t):=by
 have go : ∀ (u pre : List Stp),t = pre ++ u → Ev (fun k => spec_AutomatonValid.l0 k t (t.length : Int) (pre.length : Int) n s f t) (stp n pre.getLast? u):=by
  intro u
  induction u with
  | nil =>
   intro pre hl
   refine Ev.step (f:=fun _ => some true) (fun k => ?_) (Ev.now _)
   simp only [spec_AutomatonValid.l0];rw [if_neg (by rw [hl];simp)]
  | cons x u ih =>
   intro pre hl
   have hlen : t.length = pre.length + (u.length + 1):=by rw [hl];simp
   have hx : rdT t (pre.length : Int) = x:=by rw [hl,rdS_mid]
   have i1:=ih (pre ++ [x]) (by simp [hl])
   rw [List.getLast?_concat,snocA] at i1
   by_cases hok : stepOk n x = true
   ·rcases List.eq_nil_or_concat pre with rfl | ⟨q,y,rfl⟩
    ·refine Ev.step (fun k => ?_) (i1.is ?_)
     ·simp only [spec_AutomatonValid.l0];rw [if_pos (by omega),if_pos (by omega),if_pos (by omega),hx,sStepOk n hn,hok,Option.bind_some,if_pos rfl,if_neg (by simp),w64 (by omega) (by omega)]
     ·simp only [stp,List.getLast?_nil,hok,Bool.true_and]
    ·rw [List.concat_eq_append] at *
     have hq:=hlen
     rw [List.length_append,List.length_singleton] at hq
     have e : wrap64 (((q ++ [y]).length : Int) - 1) = (q.length : Int):=by rw [snocA,w64 (by omega) (by omega)];omega
     have hy : rdT t (q.length : Int) = y:=by rw [hl,List.append_assoc];exact rdS_mid q y (x :: u)
     by_cases hb : bef y x = true
     ·refine Ev.step (fun k => ?_) (i1.is ?_)
      ·simp only [spec_AutomatonValid.l0];rw [if_pos (by omega),if_pos (by omega),if_pos (by omega),hx,sStepOk n hn,hok,Option.bind_some,if_pos rfl,if_pos (by rw [snocA];omega),e,if_pos (by omega),if_pos (by omega),hy,sBefore,hb,Option.bind_some,if_pos rfl,w64 (by omega) (by omega)]
      ·simp only [stp,List.getLast?_concat,hok,hb,Bool.true_and]
     ·rw [Bool.not_eq_true] at hb
      refine Ev.step (f:=fun _ => some false) (fun k => ?_) ((Ev.now _).is ?_)
      ·simp only [spec_AutomatonValid.l0];rw [if_pos (by omega),if_pos (by omega),if_pos (by omega),hx,sStepOk n hn,hok,Option.bind_some,if_pos rfl,if_pos (by rw [snocA];omega),e,if_pos (by omega),if_pos (by omega),hy,sBefore,hb,Option.bind_some,if_neg (by simp)]
      ·simp only [stp,List.getLast?_concat,hok,hb,Bool.true_and];rfl
   ·rw [Bool.not_eq_true] at hok
    refine Ev.step (f:=fun _ => some false) (fun k => ?_) ((Ev.now _).is ?_)
    ·simp only [spec_AutomatonValid.l0];rw [if_pos (by omega),if_pos (by omega),if_pos (by omega),hx,sStepOk n hn,hok,Option.bind_some,if_neg (by simp)]
    ·simp only [stp,hok,Bool.false_and]
 exact go t [] rfl
theorem iAV (n : Int) (s f : List Int) (t : List Stp) (hs : s.length ≤ 1000000000) (hf : f.length ≤ 1000000000) (ht : t.length ≤ 1000000000) : Ev (fun k => impl_AutomatonValid.f k n s f t) (AV n s f t):=by
 have bad : ∀ g : Nat → Option Bool,(∀ k,g k = some false) → AV n s f t = false → Ev g (AV n s f t):=fun g hg he => ⟨0,fun k _ => by rw [hg,he]⟩
 by_cases h1 : n < 1
 ·exact bad _ (fun k => by unfold impl_AutomatonValid.f;rw [if_pos h1]) (by unfold AV;rw [decide_eq_false (by omega)];rfl)
 by_cases h2 : n > 4
 ·exact bad _ (fun k => by unfold impl_AutomatonValid.f;rw [if_neg h1,if_pos h2]) (by unfold AV;rw [decide_eq_false (by omega)];rfl)
 by_cases h3 : (t.length : Int) > 24
 ·exact bad _ (fun k => by unfold impl_AutomatonValid.f;rw [if_neg h1,if_neg h2,if_pos h3]) (by unfold AV;rw [decide_eq_false (by omega)];rfl)
 have hd : decide (1 ≤ n ∧ n ≤ 4 ∧ t.length ≤ 24) = true:=decide_eq_true (by omega)
 refine Ev.congr (f:=?f1) (fun k => ?h1) ?k1
 case h1 => unfold impl_AutomatonValid.f;rw [if_neg h1,if_neg h2,if_neg h3] <;> exact rfl
 refine Ev.bind (iMarks n s hs) ?_
 by_cases g1 : mrk n none s = true
 case neg =>
  exact bad _ (fun k => by rw [if_neg g1]) (by unfold AV;rw [Bool.not_eq_true] at g1;rw [g1];simp)
 refine Ev_t g1 ?_
 refine Ev.bind (iMarks n f hf) ?_
 by_cases g2 : mrk n none f = true
 case neg =>
  rw [Bool.not_eq_true] at g2
  exact bad _ (fun k => by rw [g2];rfl) (by unfold AV;rw [g2];simp)
 refine Ev.congr (fun k => by rw [if_pos g2]) ((iSteps n s f t ht).is ?_)
 unfold AV;rw [hd,g1,g2];rfl
theorem sAV (n : Int) (s f : List Int) (t : List Stp) (hs : s.length ≤ 1000000000) (hf : f.length ≤ 1000000000) (ht : t.length ≤ 1000000000) : Ev (fun k => spec_AutomatonValid.f k n s f t) (AV n s f t):=by
 have bad : ∀ g : Nat → Option Bool,(∀ k,g k = some false) → AV n s f t = false → Ev g (AV n s f t):=fun g hg he => ⟨0,fun k _ => by rw [hg,he]⟩
 by_cases h1 : 1 ≤ n ∧ n ≤ 4
 case neg => exact bad _ (fun k => by unfold spec_AutomatonValid.f;rw [sIn,decide_eq_false h1,Option.bind_some,if_neg (by simp)]) (by unfold AV;rw [decide_eq_false (by omega)];rfl)
 refine Ev.congr (f:=?f1) (fun k => ?h1) ?k1
 case h1 => unfold spec_AutomatonValid.f;rw [sIn,decide_eq_true h1,Option.bind_some,if_pos rfl] <;> exact rfl
 refine Ev.bind (sMarks n h1 s hs) ?_
 by_cases g1 : mrk n none s = true
 case neg =>
  exact bad _ (fun k => by rw [if_neg g1]) (by unfold AV;rw [Bool.not_eq_true] at g1;rw [g1];simp)
 refine Ev_t g1 ?_
 refine Ev.bind (sMarks n h1 f hf) ?_
 by_cases g2 : mrk n none f = true
 case neg =>
  exact bad _ (fun k => by rw [if_neg g2]) (by unfold AV;rw [Bool.not_eq_true] at g2;rw [g2];simp)
 refine Ev_t g2 ?_
 by_cases h3 : (t.length : Int) > 24
 ·exact bad _ (fun k => by rw [if_pos h3]) (by unfold AV;rw [decide_eq_false (by omega)];rfl)
 refine Ev.congr (fun k => by rw [if_neg h3]) ((sSteps n h1 s f t ht).is ?_)
 unfold AV;rw [decide_eq_true (by omega),g1,g2];rfl
theorem mrk_mem {n : Int} : ∀ {l : List Int} {p : Option Int},mrk n p l = true → ∀ x ∈ l,0 ≤ x ∧ x < n
 | [],_,_,x,hx => by cases hx
 | y :: t,p,h,x,hx => by
  simp only [mrk,Bool.and_eq_true,decide_eq_true_eq] at h
  rcases List.mem_cons.mp hx with rfl|hx
  ·exact h.1.1
  ·exact mrk_mem h.2 x hx
theorem cellZ {n i k : Int} (hn : 1 ≤ n ∧ n ≤ 4) (hi : 0 ≤ i ∧ i < n) (hk : 0 ≤ k ∧ k < n) : 0 ≤ i * n + k ∧ i * n + k < n * n ∧ i * n + k ≤ 16 ∧ 0 ≤ i * n ∧ i * n ≤ 16:=by
 have h1 : n = 1 ∨ n = 2 ∨ n = 3 ∨ n = 4:=by omega
 rcases h1 with rfl|rfl|rfl|rfl <;> omega
theorem cellW {n i k : Int} (hn : 1 ≤ n ∧ n ≤ 4) (hi : 0 ≤ i ∧ i < n) (hk : 0 ≤ k ∧ k < n) : wrap64 (wrap64 (i * n) + k) = i * n + k:=by
 have c:=cellZ hn hi hk
 rw [w64 (x:=i * n) (by omega) (by omega),w64 (by omega) (by omega)]
theorem AV_parts {n : Int} {s f : List Int} {t : List Stp} (h : AV n s f t = true) : (1 ≤ n ∧ n ≤ 4) ∧ t.length ≤ 24 ∧ mrk n none s = true ∧ mrk n none f = true ∧ stp n none t = true:=by
 simp only [AV,Bool.and_eq_true,decide_eq_true_eq] at h
 exact ⟨⟨h.1.1.1.1,h.1.1.1.2.1⟩,h.1.1.1.2.2,h.1.1.2,h.1.2,h.2⟩
def cvS (x : Stp) : Stp:=⟨x.f0,x.f1,x.f2,x.f3⟩
theorem rdL_mid (pre : List Stp) (x : Stp) (t : List Stp) : rdT (pre ++ x :: t) (pre.length : Int) = x:=by simp [rdT,List.getD_eq_getElem?_getD]
theorem toStepS_ev (l : List Stp) (h : l.length ≤ 1048576) : Ev (fun k => laws_toStepS.f k l) (l.map cvS):=by
 have go : ∀ (t pre : List Stp),l = pre ++ t → Ev (fun k => laws_toStepS.l0 k l (pre.map cvS ++ List.replicate t.length zStp) (pre.length : Int)) (l.map cvS):=by
  intro t
  induction t with
  | nil =>
   intro pre hl
   refine Ev.step (f:=fun _ => some (l.map cvS)) (fun k => ?_) (Ev.now _)
   simp only [laws_toStepS.l0]
   rw [if_neg (by rw [hl];simp)]
   simp [hl]
  | cons x t ih =>
   intro pre hl
   have hlen : l.length = pre.length + (t.length + 1):=by rw [hl];simp
   have hx : rdT l (pre.length : Int) = x:=by rw [hl,rdL_mid]
   refine Ev.step (fun k => ?_) (ih (pre ++ [x]) (by simp [hl]))
   simp only [laws_toStepS.l0,laws_toStep.f]
   rw [if_pos (by omega),if_pos (by omega),hx,Option.bind_some,if_pos (by simp;omega),w64 (by omega) (by omega),snocA]
   congr 1
   simp [List.replicate_succ,List.set_append,cvS]
 refine Ev.congr (fun k => ?_) (go l [] rfl)
 unfold laws_toStepS.f
 rw [if_pos (by omega),if_pos (by omega)]
 simp
 rfl
theorem eqStepS_ev (a : List Stp) (h : a.length ≤ 1000000000) : Ev (fun k => laws_eqStepS.f k a a) true:=by
 have go : ∀ (t pre : List Stp),a = pre ++ t → Ev (fun k => laws_eqStepS.l0 k a a (pre.length : Int)) true:=by
  intro t
  induction t with
  | nil =>
   intro pre hl
   refine Ev.step (f:=fun _ => some true) (fun k => ?_) (Ev.now _)
   simp only [laws_eqStepS.l0]
   rw [if_neg (by rw [hl];simp)]
  | cons x t ih =>
   intro pre hl
   have hlen : a.length = pre.length + (t.length + 1):=by rw [hl];simp
   have hx : rdT a (pre.length : Int) = x:=by rw [hl,rdS_mid]
   refine Ev.step (fun k => ?_) (ih (pre ++ [x]) (by simp [hl]))
   simp only [laws_eqStepS.l0,laws_eqStep.f]
   rw [if_pos (by omega),if_pos (by omega),if_pos (by omega)]
   simp only [if_true,Option.bind_some]
   rw [w64 (by omega) (by omega),snocA]
 refine Ev.congr (fun k => ?_) (go a [] rfl)
 unfold laws_eqStepS.f
 rw [if_pos rfl];rfl
theorem toAutomaton_ev (n : Int) (s f : List Int) (t : List Stp) (hs : s.length ≤ 1048576) (hf : f.length ≤ 1048576) (ht : t.length ≤ 1048576) : Ev (fun k => laws_toAutomaton.f k n s f t) (n,s,f,t.map cvS):=by
 refine Ev.congr (f:=?f1) (fun k => ?h1) ?k1
 case h1 => unfold laws_toAutomaton.f;exact rfl
 exact Ev.bind (toIntS_ev s hs) (Ev.bind (toIntS_ev f hf) (Ev.bind (toStepS_ev t ht) (Ev.now _)))
theorem eqAutomaton_ev (n : Int) (s f : List Int) (t : List Stp) (hs : s.length ≤ 1000000000) (hf : f.length ≤ 1000000000) (ht : t.length ≤ 1000000000) : Ev (fun k => laws_eqAutomaton.f k n s f t n s f t) true:=by
 refine Ev.congr (f:=?f1) (fun k => ?h1) ?k1
 case h1 => unfold laws_eqAutomaton.f;rw [if_pos rfl] <;> exact rfl
 refine Ev.bind (eqIntS_ev s s hs) (Ev_t (by simp) (Ev.bind (eqIntS_ev f f hf) (Ev_t (by simp) (Ev.bind (eqStepS_ev t ht) (Ev_t rfl (Ev.now _))))))
theorem szIntS_eq (l : List Int) (z : Int) (h : l.length ≤ maxLen) (h0 : 0 ≤ z) (h1 : z ≤ 1048576) : laws_szIntS.f l z = some (if (l.length : Int) ≤ z then z - l.length else -1):=by
 rw [maxLen_eq] at h
 unfold laws_szIntS.f
 rw [w64 (by omega) (by omega)]
 by_cases hl : (l.length : Int) ≤ z
 ·rw [if_neg (by omega),if_pos hl]
 ·rw [if_pos (by omega),if_neg hl]
theorem szStepS_ev (l : List Stp) (h : l.length ≤ maxLen) (hx : ∀ x ∈ l,x.f1.size ≤ maxLen) (z : Int) (h0 : 0 ≤ z) (h1 : z ≤ 1048576) : ∃ r : Int,Ev (fun k => laws_szStepS.f k l z) r ∧ (r < 0 ∨ (0 ≤ r ∧ r ≤ z ∧ l.length ≤ z)):=by
 rw [maxLen_eq] at h
 by_cases hl : (l.length : Int) ≤ z
 ·have go : ∀ (t pre : List Stp) (y : Int),l = pre ++ t → 0 ≤ y → y ≤ z → ∃ r : Int,Ev (fun k => laws_szStepS.l0 k l y (pre.length : Int)) r ∧ (r < 0 ∨ (0 ≤ r ∧ r ≤ z)):=by
   intro t
   induction t with
   | nil =>
    intro pre y hp hy hz
    refine ⟨y,Ev.step (f:=fun _ => some y) (fun k => ?_) (Ev.now _),.inr ⟨hy,hz⟩⟩
    simp only [laws_szStepS.l0]
    rw [if_neg (by rw [hp];simp)]
   | cons x t ih =>
    intro pre y hp hy hz
    have hlen : l.length = pre.length + (t.length + 1):=by rw [hp];simp
    have hr : rdT l (pre.length : Int) = x:=by rw [hp,rdL_mid]
    have hm:=hx x (by rw [hp];simp)
    rw [maxLen_eq] at hm
    have hw : wrap64 (y - (x.f1.size : Int)) = y - x.f1.size:=w64 (by omega) (by omega)
    by_cases hq : y - x.f1.size < 0
    ·refine ⟨-1,Ev.step (f:=fun _ => some (-1)) (fun k => ?_) (Ev.now _),.inl (by omega)⟩
     simp only [laws_szStepS.l0,laws_szStep.f]
     rw [if_pos (by omega),if_pos (by omega),hr,hw,if_pos hq,Option.bind_some,if_pos (by omega)]
    ·obtain ⟨r,e,c⟩:=ih (pre ++ [x]) (y - x.f1.size) (by simp [hp]) (by omega) (by omega)
     refine ⟨r,Ev.step (fun k => ?_) e,c⟩
     simp only [laws_szStepS.l0,laws_szStep.f]
     rw [if_pos (by omega),if_pos (by omega),hr,hw,if_neg hq,Option.bind_some,if_neg hq,w64 (by omega) (by omega),snocA]
  obtain ⟨r,e,c⟩:=go l [] (z - l.length) rfl (by omega) (by omega)
  refine ⟨r,Ev.congr (fun k => ?_) e,c.imp id (fun c => ⟨c.1,c.2,by omega⟩)⟩
  unfold laws_szStepS.f
  rw [w64 (by omega) (by omega),if_neg (by omega)];rfl
 ·refine ⟨-1,Ev.congr (f:=fun _ => some (-1)) (fun k => ?_) (Ev.now _),.inl (by omega)⟩
  unfold laws_szStepS.f
  rw [w64 (by omega) (by omega),if_pos (by omega)]
theorem szAutomaton_ev (n : Int) (s f : List Int) (t : List Stp) (hs : s.length ≤ maxLen) (hf : f.length ≤ maxLen) (ht : t.length ≤ maxLen) (hx : ∀ x ∈ t,x.f1.size ≤ maxLen) (z : Int) (h0 : 0 ≤ z) (h1 : z ≤ 1048576) :
  ∃ r : Int,Ev (fun k => laws_szAutomaton.f k n s f t z) r ∧ (r < 0 ∨ (0 ≤ r ∧ r ≤ z ∧ s.length ≤ 1048576 ∧ f.length ≤ 1048576 ∧ t.length ≤ 1048576)):=by
 by_cases a1 : (s.length : Int) ≤ z
 case neg => exact ⟨-1,Ev.congr (f:=fun _ => some (-1)) (fun k => by unfold laws_szAutomaton.f;rw [szIntS_eq s z hs h0 h1,if_neg a1,Option.bind_some,if_pos (by omega)]) (Ev.now _),.inl (by omega)⟩
 by_cases a2 : (f.length : Int) ≤ z - s.length
 case neg => exact ⟨-1,Ev.congr (f:=fun _ => some (-1)) (fun k => by unfold laws_szAutomaton.f;rw [szIntS_eq s z hs h0 h1,if_pos a1,Option.bind_some,if_neg (by omega),szIntS_eq f _ hf (by omega) (by omega),if_neg a2,Option.bind_some,if_pos (by omega)]) (Ev.now _),.inl (by omega)⟩
 obtain ⟨r,e,c⟩:=szStepS_ev t ht hx (z - s.length - f.length) (by omega) (by omega)
 by_cases hr : r < 0
 ·refine ⟨-1,?_,.inl (by omega)⟩
  unfold laws_szAutomaton.f
  simp only [szIntS_eq s z hs h0 h1,if_pos a1,Option.bind_some,if_neg (show ¬ z - (s.length : Int) < 0 by omega),szIntS_eq f (z - (s.length : Int)) hf (by omega) (by omega),if_pos a2,if_neg (show ¬ z - (s.length : Int) - (f.length : Int) < 0 by omega)]
  exact Ev.bind e (Ev_t hr (Ev.now _))
 ·have c:=c.resolve_left hr
  refine ⟨r,?_,.inr ⟨c.1,by omega,by omega,by omega,by omega⟩⟩
  unfold laws_szAutomaton.f
  simp only [szIntS_eq s z hs h0 h1,if_pos a1,Option.bind_some,if_neg (show ¬ z - (s.length : Int) < 0 by omega),szIntS_eq f (z - (s.length : Int)) hf (by omega) (by omega),if_pos a2,if_neg (show ¬ z - (s.length : Int) - (f.length : Int) < 0 by omega)]
  exact Ev.bind e (Ev_f hr (Ev.now _))
def count : Int → Nat → List Int
 | _,0 => []
 | k,n + 1 => k :: count (k + 1) n
theorem count_length (n : Nat) : ∀ k,(count k n).length = n:=by induction n with
 | zero => intro k;rfl
 | succ n ih => intro k;simp [count,ih]
theorem markIntS_ev (l : List Int) (c : Int) (h : l.length ≤ 1000000000) (h0 : 0 ≤ c) (h1 : c ≤ 1000000000) : Ev (fun k => laws_markIntS.f k l c) (c + l.length,count c l.length):=by
 have go : ∀ (t pre : List Int) (m : Int),pre.length + t.length = l.length → m = c + pre.length → Ev (fun k => laws_markIntS.l0 k (pre ++ t) m (pre.length : Int)) (c + l.length,pre ++ count m t.length):=by
  intro t
  induction t with
  | nil =>
   intro pre m hl hm
   refine Ev.step (f:=fun _ => some (m,pre)) (fun k => ?_) ((Ev.now _).is ?_)
   ·simp only [laws_markIntS.l0];rw [if_neg (by simp)];simp
   ·simp at hl;simp [count];omega
  | cons x t ih =>
   intro pre m hl hm
   simp at hl
   have i:=ih (pre ++ [m]) (m + 1) (by simp;omega) (by simp;omega)
   refine Ev.step (fun k => ?_) (i.is (by simp [count]))
   simp only [laws_markIntS.l0]
   rw [if_pos (by simp;omega),if_pos (by omega),w64 (by omega) (by omega),w64 (by omega) (by omega),snoc_len]
   congr 1
   simp [List.set_append]
 exact (go l [] c (by simp) (by simp))
theorem heldIntS_ev (n : Nat) (c : Int) (h : n ≤ 1000000000) (h0 : 0 ≤ c) (h1 : c ≤ 1000000000) : Ev (fun k => laws_heldIntS.f k (count c n) c) (c + n):=by
 have go : ∀ (m : Nat) (pre : List Int) (z : Int),pre.length + m = n → z = c + pre.length → Ev (fun k => laws_heldIntS.l0 k (pre ++ count z m) z (pre.length : Int)) (c + n):=by
  intro m
  induction m with
  | zero =>
   intro pre z hl hz
   refine Ev.step (f:=fun _ => some z) (fun k => ?_) ((Ev.now _).is (by omega))
   simp only [laws_heldIntS.l0];rw [if_neg (by simp [count])]
  | succ m ih =>
   intro pre z hl hz
   have i:=ih (pre ++ [z]) (z + 1) (by simp;omega) (by simp;omega)
   show Ev (fun k => laws_heldIntS.l0 k (pre ++ z :: count (z + 1) m) z (pre.length : Int)) (c + n)
   refine Ev.step (fun k => ?_) i
   simp only [laws_heldIntS.l0]
   rw [if_pos (by simp [count_length];omega),if_pos (by omega),if_pos (by rw [rd_mid]),w64 (by omega) (by omega),w64 (by omega) (by omega),snoc_len]
   simp
 exact go n [] c (by simp) (by simp)
theorem markText_ev (c : Int) (h0 : 1 ≤ c) (h1 : c ≤ 1000000000) : ∃ r,Ev (fun k => laws_markText.f k c) r:=by
 have go : ∀ (d : Nat) (x : Int) (s : ByteArray),0 ≤ x → x.toNat ≤ d → s.size + d ≤ 2000000000 → ∃ r,Ev (fun k => laws_markText.l0 k x s) r:=by
  intro d
  induction d with
  | zero =>
   intro x s hx hd hs
   refine ⟨_,Ev.step (f:=fun _ => some ((⟨#[109]⟩ : ByteArray) ++ s)) (fun k => ?_) (Ev.now _)⟩
   simp only [laws_markText.l0];rw [if_neg (by omega),if_pos (by omega)]
  | succ d ih =>
   intro x s hx hd hs
   by_cases hx0 : x > 0
   ·have e1 : Int.tdiv x 10 = x / 10:=Int.tdiv_eq_ediv_of_nonneg (by omega)
    have hz : (strOfNums [(wrap64 (48 + (Int.tmod x 10))) % 256]).size = 1:=rfl
    obtain ⟨r,hr⟩:=ih (x / 10) (strOfNums [(wrap64 (48 + (Int.tmod x 10))) % 256] ++ s) (by omega) (by omega) (by rw [ByteArray.size_append,hz];omega)
    refine ⟨r,Ev.step (fun k => ?_) hr⟩
    simp only [laws_markText.l0]
    rw [if_pos hx0,hz,if_pos (by omega),e1,w64 (x:=x / 10) (by omega) (by omega)]
   ·refine ⟨_,Ev.step (f:=fun _ => some ((⟨#[109]⟩ : ByteArray) ++ s)) (fun k => ?_) (Ev.now _)⟩
    simp only [laws_markText.l0];rw [if_neg hx0,if_pos (by omega)]
 obtain ⟨r,hr⟩:=go c.toNat c ⟨#[]⟩ (by omega) (Nat.le_refl _) (by show 0 + c.toNat ≤ 2000000000;omega)
 exact ⟨r,Ev.congr (fun k => by unfold laws_markText.f;rw [if_neg (by omega)]) hr⟩
theorem markStepS_ev (l : List Stp) (c : Int) (h : l.length ≤ 20000000) (h0 : 1 ≤ c) (h1 : c ≤ 20000000) : ∃ l',Ev (fun k => laws_markStepS.f k l c) (c + 4 * l.length,l'):=by
 have go : ∀ (d : Nat) (m : List Stp) (i : Nat) (z : Int),m.length = l.length → i + d = l.length → z = c + 4 * i → ∃ l',Ev (fun k => laws_markStepS.l0 k m z (i : Int)) (c + 4 * l.length,l'):=by
  intro d
  induction d with
  | zero =>
   intro m i z hm hi hz
   refine ⟨m,Ev.step (f:=fun _ => some (z,m)) (fun k => ?_) ((Ev.now _).is (by rw [hz];congr 1;omega))⟩
   simp only [laws_markStepS.l0];rw [if_neg (by omega)]
  | succ d ih =>
   intro m i z hm hi hz
   obtain ⟨r,hr⟩:=markText_ev (z + 1) (by omega) (by omega)
   have i1 : (i : Int) < (m.length : Int):=by omega
   have i2 : 0 ≤ (i : Int):=by omega
   have key : ∀ m' : List Stp,m'.length = l.length → ∃ l',Ev (fun k => laws_markStepS.l0 k m' (z + 1 + 1 + 1 + 1) ((i + 1 : Nat) : Int)) (c + 4 * l.length,l'):=fun m' hm' => ih m' (i + 1) (z + 1 + 1 + 1 + 1) hm' (by omega) (by rw [hz];push_cast;omega)
   have hw1 : wrap64 (z + 1) = z + 1:=w64 (by omega) (by omega)
   have hw2 : wrap64 (z + 1 + 1) = z + 1 + 1:=w64 (by omega) (by omega)
   have hw3 : wrap64 (z + 1 + 1 + 1) = z + 1 + 1 + 1:=w64 (by omega) (by omega)
   have hw4 : wrap64 (z + 1 + 1 + 1 + 1) = z + 1 + 1 + 1 + 1:=w64 (by omega) (by omega)
   have hw5 : wrap64 ((i : Int) + 1) = ((i + 1 : Nat) : Int):=by rw [w64 (by omega) (by omega)];rfl
   have pS : ∀ {f g : Nat → Option (Int × List Stp)},(∀ k,f (k + 1) = g k) → (∃ l',Ev g (c + 4 * l.length,l')) → ∃ l',Ev f (c + 4 * l.length,l'):=fun h e => e.elim fun l' e => ⟨l',Ev.step h e⟩
   have pB : ∀ {α : Type} {f : Nat → Option α} {a : α} {g : Nat → α → Option (Int × List Stp)},Ev f a → (∃ l',Ev (fun k => g k a) (c + 4 * l.length,l')) → ∃ l',Ev (fun k => (f k).bind (g k)) (c + 4 * l.length,l'):=fun h e => e.elim fun l' e => ⟨l',Ev.bind h e⟩
   refine pS (fun k => by simp only [laws_markStepS.l0];rw [if_pos i1,if_pos i2,hw1] <;> exact rfl) ?_
   refine pB hr ?_
   simp only [List.length_set,if_pos i1,hw1,hw2,hw3,hw4,hw5]
   exact key _ (by simp only [List.length_set];exact hm)
 exact go l.length l 0 c rfl (by omega) (by simp)
theorem markAutomaton_ev (n : Int) (s f : List Int) (t : List Stp) (hs : s.length ≤ 1048576) (hf : f.length ≤ 1048576) (ht : t.length ≤ 1048576) : ∃ (z : Int) (s' f' : List Int) (t' : List Stp),Ev (fun k => laws_markAutomaton.f k n s f t 1) (z,s',f',t') ∧ 1 ≤ z ∧ z ≤ 20000000:=by
 obtain ⟨t',h⟩:=markStepS_ev t (1 + s.length + f.length) (by omega) (by omega) (by omega)
 refine ⟨1 + s.length + f.length + 4 * t.length,count 1 s.length,count (1 + s.length) f.length,t',?_,by omega,by omega⟩
 unfold laws_markAutomaton.f
 exact Ev.bind (markIntS_ev s 1 (by omega) (by omega) (by omega)) (Ev.bind (markIntS_ev f (1 + s.length) (by omega) (by omega) (by omega)) (Ev.bind h (Ev.now _)))
def unitE (i k : Nat) : Int:=if i = k then 0 else 1000000
def oneE (i k : Nat) : Int:=if i = k then 0 else 3
theorem unit_MV (n : Nat) (h1 : 1 ≤ n) (h4 : n ≤ 4) : MV (n : Int) (sqL n unitE):=by
 refine ⟨by omega,by omega,?_,?_⟩
 ·unfold sqL;rw [tab_length];exact_mod_cast rfl
 ·intro x hx
  unfold sqL tab at hx
  obtain ⟨m,_,rfl⟩:=List.mem_map.mp hx
  unfold unitE
  by_cases e : m / n = m % n
  ·simp only [e,if_true];omega
  ·rw [if_neg e];omega
def mulE (n : Nat) (a b : List Int) (i k : Nat) : Int:=(List.range n).foldl (fun acc l => mn acc (mx (a.getD (i * n + l) 0) (b.getD (l * n + k) 0))) 3
def mulL (n : Nat) (a b : List Int) : List Int:=sqL n (mulE n a b)
theorem mulL_length (n : Nat) (a b : List Int) : (mulL n a b).length = n * n:=by simp [mulL,sqL,tab_length]
theorem iMulCell (n : Nat) (hn : n ≤ 4) (a b : List Int) (ha : a.length = n * n) (hb : b.length = n * n) (i k : Nat) (hi : i < n) (hk : k < n) :
  Ev (fun K => impl_MulGrades_1.f K (i : Int) (k : Int) (n : Int) a (n : Int) b) (mulE n a b i k):=by
 refine up_loop n (fun l K => impl_MulGrades_1.l0 K i k ((List.range l).foldl (fun acc l => mn acc (mx (a.getD (i * n + l) 0) (b.getD (l * n + k) 0))) 3) n (l : Int) n a n b) _ (fun l hl hs => ?_) ?_
 ·refine Ev.step (fun j => ?_) hs
  simp only [impl_MulGrades_1.l0]
  rw [if_pos (by omega),at_eq n hn a ha i l hi hl,Option.bind_some,at_eq n hn b hb l k hl hk,Option.bind_some,w64 (by omega) (by omega),fold_snoc];rfl
 ·refine Ev.step (f:=fun _ => some (mulE n a b i k)) (fun j => ?_) (Ev.now _)
  simp only [impl_MulGrades_1.l0]
  rw [if_neg (by omega)];rfl
theorem GV_len {n : Nat} {l : List Int} (h : GV (n : Int) l) : l.length = n * n:=by
 have:=h.1.2.2.1
 exact_mod_cast this
theorem GV_le {n : Nat} {l : List Int} (h : GV (n : Int) l) : n ≤ 4 ∧ 1 ≤ n:=by
 have h1:=h.1.1
 have h2:=h.1.2.1
 omega
theorem GV_nat {n : Int} {l : List Int} (h : GV n l) : ∃ m : Nat,n = (m : Int):=⟨n.toNat,by have:=h.1.1;omega⟩
theorem iMul (n : Nat) (a b : List Int) (ha : GV n a) (hb : GV n b) : Ev (fun k => impl_MulGrades.f k n a n b) ((n : Int),mulL n a b,true):=by
 have hn:=(GV_le ha).1
 have hla:=GV_len ha
 have hlb:=GV_len hb
 have hs:=sq_le n hn
 have hm : ∀ l : List Int,l.length = n * n → l.length ≤ maxLen:=fun l h => by rw [maxLen_eq];omega
 unfold impl_MulGrades.f
 refine Ev.bind (iGV n a (hm a hla)) (Ev_t (decide_eq_true ha) (Ev.bind (iGV n b (hm b hlb)) (Ev_t (decide_eq_true hb) (Ev_t rfl ?_))))
 refine Ev.bind (a:=((n : Int),mulL n a b)) ?_ (Ev.now _)
 unfold impl_filled_c.f
 exact filledG n hn (mulE n a b) (fun K y0 y1 => impl_MulGrades_1.f K y0 y1 n a n b) (fun i hi k hk => iMulCell n hn a b hla hlb i k hi hk) (fun k p q r y z => impl_filled_c.l0 k p q r n a n b y z) (fun k p q r u v x y z => impl_filled_c.l1 k p q r u v x n a n b y z) (fun _ _ _ _ _ _ => by simp only [impl_filled_c.l0]) (fun _ _ _ _ _ _ _ _ _ => by simp only [impl_filled_c.l1])
def mulR (n : Int) (a : List Int) (m : Int) (b : List Int) : Int × List Int × Bool:=if GV n a ∧ GV m b ∧ n = m then (n,mulL n.toNat a b,true) else (0,[],false)
theorem iMul_any (n : Int) (a : List Int) (m : Int) (b : List Int) (ha : a.length ≤ maxLen) (hb : b.length ≤ maxLen) : Ev (fun k => impl_MulGrades.f k n a m b) (mulR n a m b):=by
 by_cases h : GV n a ∧ GV m b ∧ n = m
 ·obtain ⟨h1,h2,rfl⟩:=h
  obtain ⟨z,rfl⟩:=GV_nat h1
  refine (iMul z a b h1 h2).is ?_
  unfold mulR;rw [if_pos ⟨h1,h2,rfl⟩];rfl
 ·have hr : mulR n a m b = (0,[],false):=by unfold mulR;rw [if_neg h]
  rw [hr]
  unfold impl_MulGrades.f
  refine Ev.bind (iGV n a ha) ?_
  by_cases h1 : GV n a
  ·refine Ev_t (decide_eq_true h1) (Ev.bind (iGV m b hb) ?_)
   by_cases h2 : GV m b
   ·exact Ev_t (decide_eq_true h2) (Ev_f (fun e => h ⟨h1,h2,e⟩) (Ev.now _))
   ·exact Ev_f (by rw [decide_eq_false h2];simp) (Ev.now _)
  ·exact Ev_f (by rw [decide_eq_false h1];simp) (Ev.now _)
theorem sMul (n : Nat) (hn : n ≤ 4) (h0 : 1 ≤ n) (a b : List Int) (hla : a.length = n * n) (hlb : b.length = n * n) : Ev (fun k => spec_l6Mul.f k n a n b) ((n : Int),mulL n a b):=by
 have hs:=sq_le n hn
 have e0 : wrap64 ((n : Int) * (n : Int)) = ((n * n : Nat) : Int):=by
  have : (n : Int) * (n : Int) = ((n * n : Nat) : Int):=by simp
  rw [this,w64 (by omega) (by omega)]
 refine Ev.congr (f:=fun k => spec_l6Mul.l0 k ((n * n : Nat) : Int) ((0 : Nat) : Int) n a n b n (tab 0 (fun m => mulE n a b (m / n) (m % n)))) (fun k => ?_) ?_
 ·unfold spec_l6Mul.f;rw [e0];simp [tab]
 refine up_loop (n * n) (fun m k => spec_l6Mul.l0 k ((n * n : Nat) : Int) (m : Int) n a n b n (tab m (fun m => mulE n a b (m / n) (m % n)))) _ (fun m hm hnext => ?_) ?_
 ·have hi : m / n < n:=Nat.div_lt_of_lt_mul hm
  have hk : m % n < n:=Nat.mod_lt _ (by omega)
  refine Ev.step (f:=fun k => spec_l6Mul.l1 k m ((List.range 0).foldl (fun acc l => mn acc (mx (a.getD (m / n * n + l) 0) (b.getD (l * n + m % n) 0))) 3) ((n * n : Nat) : Int) m n ((0 : Nat) : Int) n a n b n (tab m (fun m => mulE n a b (m / n) (m % n)))) (fun k => ?_) ?_
  ·simp only [spec_l6Mul.l0];rw [if_pos (by omega)];rfl
  refine up_loop n (fun l k => spec_l6Mul.l1 k m ((List.range l).foldl (fun acc l => mn acc (mx (a.getD (m / n * n + l) 0) (b.getD (l * n + m % n) 0))) 3) ((n * n : Nat) : Int) m n (l : Int) n a n b n (tab m (fun m => mulE n a b (m / n) (m % n)))) _ (fun l hl hs2 => ?_) ?_
  ·refine Ev.step (fun j => ?_) hs2
   have c1:=cell_lt n (m / n) l hi hl
   have c2:=cell_lt n l (m % n) hl hk
   have r1:=row_le n (m / n) hn (by omega)
   have r2:=row_le n l hn (by omega)
   have hA : (l : Int) < (n : Int):=by omega
   have hB : ¬ (n : Int) = 0:=by omega
   have hC : (((m / n * n + l : Nat)) : Int) < (a.length : Int):=by rw [hla];exact_mod_cast c1
   have hD : (((l * n + m % n : Nat)) : Int) < (b.length : Int):=by rw [hlb];exact_mod_cast c2
   have hE : wrap64 ((l : Int) + 1) = ((l + 1 : Nat) : Int):=by rw [w64 (by omega) (by omega)];rfl
   have e1:=idx1 n m l hn hi hl
   have e2:=idx2 n m l hn hk hl
   simp only [spec_l6Mul.l1]
   rw [if_pos hA,if_neg hB,e1,e2,if_pos (Int.natCast_nonneg _),if_pos hC,if_pos (Int.natCast_nonneg _),if_pos hD,rd_nat,rd_nat,hE,fold_snoc]
  ·refine Ev.step (fun j => ?_) hnext
   simp only [spec_l6Mul.l1]
   rw [if_neg (by omega),tab_length,if_pos (by omega),w64 (by omega) (by omega)]
   have e : tab m (fun m => mulE n a b (m / n) (m % n)) ++ [mulE n a b (m / n) (m % n)] = tab (m + 1) (fun m => mulE n a b (m / n) (m % n)):=tab_snoc m (fun m => mulE n a b (m / n) (m % n))
   show spec_l6Mul.l0 j _ _ _ _ _ _ _ (tab m (fun m => mulE n a b (m / n) (m % n)) ++ [mulE n a b (m / n) (m % n)]) = _
   rw [e];rfl
 ·refine Ev.step (f:=fun _ => some ((n : Int),mulL n a b)) (fun j => ?_) (Ev.now _)
  simp only [spec_l6Mul.l0]
  rw [if_neg (by omega)];rfl
theorem slicesEq_ev (a b : List Int) (h : a.length ≤ 1000000000) : Ev (fun k => slices_Equal_int_int.f k a b) (decide (a = b)):=by
 by_cases hl : a.length = b.length
 ·have go : ∀ (t u pre : List Int),a = pre ++ t → b = pre ++ u → Ev (fun k => slices_Equal_int_int.l0 k a b (a.length : Int) (pre.length : Int)) (decide (a = b)):=by
   intro t
   induction t with
   | nil =>
    intro u pre ha hb
    have hu : u = []:=by
     have h1:=congrArg List.length ha
     have h2:=congrArg List.length hb
     simp at h1 h2
     exact List.length_eq_zero_iff.mp (by omega)
    subst hu
    have hab : a = b:=by rw [ha,hb]
    refine Ev.step (f:=fun _ => some true) (fun k => ?_) ((Ev.now _).is (by rw [decide_eq_true hab]))
    simp only [slices_Equal_int_int.l0]
    rw [if_neg (by rw [ha];simp)]
   | cons x t ih =>
    intro u pre ha hb
    have hla : a.length = pre.length + (t.length + 1):=by rw [ha];simp
    cases u with
    | nil => have h2:=congrArg List.length hb;simp at h2;omega
    | cons y u =>
     by_cases hxy : x = y
     ·subst hxy
      refine Ev.step (fun k => ?_) (ih u (pre ++ [x]) (by simp [ha]) (by simp [hb]))
      simp only [slices_Equal_int_int.l0]
      rw [if_pos (by omega),if_pos (by omega),if_pos (by omega),if_pos (by omega),w64 (x:=(pre.length : Int) + 1) (by omega) (by omega),snoc_len,if_pos (by rw [ha,hb,rd_mid,rd_mid])]
     ·have hab : ¬ a = b:=by
       intro e
       rw [ha,hb] at e
       have:=List.append_cancel_left e
       simp at this
       exact hxy this.1
      refine Ev.step (f:=fun _ => some false) (fun k => ?_) ((Ev.now _).is (by rw [decide_eq_false hab]))
      simp only [slices_Equal_int_int.l0]
      rw [if_pos (by omega),if_pos (by omega),if_pos (by omega),if_pos (by omega),if_neg (by rw [ha,hb,rd_mid,rd_mid];exact hxy)]
  refine Ev.congr (fun k => ?_) (go a b [] rfl rfl)
  unfold slices_Equal_int_int.f
  rw [if_pos (by omega)];rfl
 ·have hab : ¬ a = b:=fun e => hl (by rw [e])
  refine Ev.congr (f:=fun _ => some false) (fun k => ?_) ((Ev.now _).is (by rw [decide_eq_false hab]))
  unfold slices_Equal_int_int.f
  rw [if_neg (by omega)]
theorem iSame_ev (n : Int) (a : List Int) (m : Int) (b : List Int) (h : a.length ≤ 1000000000) : Ev (fun k => impl_SameMatrix.f k n a m b) (decide (n = m ∧ a = b)):=by
 unfold impl_SameMatrix.f
 by_cases e : n = m
 ·exact Ev_t e (Ev.bind (slicesEq_ev a b h) ((Ev.now _).is (by simp [e])))
 ·exact Ev_f e ((Ev.now _).is (by simp [e]))
theorem sSame_ev (a b : List Int) (hl : a.length = b.length) (h : a.length ≤ 1000000000) : Ev (fun k => spec_l2Same.f k a b) (decide (a = b)):=by
 have go : ∀ (t u pre : List Int),a = pre ++ t → b = pre ++ u → Ev (fun k => spec_l2Same.l0 k a b (a.length : Int) (pre.length : Int)) (decide (a = b)):=by
  intro t
  induction t with
  | nil =>
   intro u pre ha hb
   have hu : u = []:=by
    have h1:=congrArg List.length ha
    have h2:=congrArg List.length hb
    simp at h1 h2
    exact List.length_eq_zero_iff.mp (by omega)
   subst hu
   have hab : a = b:=by rw [ha,hb]
   refine Ev.step (f:=fun _ => some (decide ((a.length : Int) = (b.length : Int)))) (fun k => ?_) ((Ev.now _).is (by rw [decide_eq_true hab,hl];simp))
   simp only [spec_l2Same.l0]
   rw [if_neg (by rw [ha];simp)]
  | cons x t ih =>
   intro u pre ha hb
   have hla : a.length = pre.length + (t.length + 1):=by rw [ha];simp
   cases u with
   | nil => have h2:=congrArg List.length hb;simp at h2;omega
   | cons y u =>
    by_cases hxy : x = y
    ·subst hxy
     refine Ev.step (fun k => ?_) (ih u (pre ++ [x]) (by simp [ha]) (by simp [hb]))
     simp only [spec_l2Same.l0]
     rw [if_pos (by omega),if_pos (by omega),if_pos (by omega),if_pos (by omega),w64 (x:=(pre.length : Int) + 1) (by omega) (by omega),snoc_len,if_pos (by rw [ha,hb,rd_mid,rd_mid])]
    ·have hab : ¬ a = b:=by
      intro e
      rw [ha,hb] at e
      have:=List.append_cancel_left e
      simp at this
      exact hxy this.1
     refine Ev.step (f:=fun _ => some false) (fun k => ?_) ((Ev.now _).is (by rw [decide_eq_false hab]))
     simp only [spec_l2Same.l0]
     rw [if_pos (by omega),if_pos (by omega),if_pos (by omega),if_pos (by omega),if_neg (by rw [ha,hb,rd_mid,rd_mid];exact hxy)]
 refine Ev.congr (fun k => ?_) (go a b [] rfl rfl)
 unfold spec_l2Same.f
 have e : mn (a.length : Int) (b.length : Int) = (a.length : Int):=by unfold mn;rw [if_neg (by omega)]
 rw [e];rfl
def Idem (n : Int) (l : List Int) : Prop:=GV n l ∧ mulL n.toNat l l = l
instance (n : Int) (l : List Int) : Decidable (Idem n l):=by unfold Idem;infer_instance
theorem len_of_GV {n : Int} {l : List Int} (h : GV n l) : l.length ≤ 16:=by
 obtain ⟨m,rfl⟩:=GV_nat h
 have h1:=GV_len h
 have h2:=sq_le m (GV_le h).1
 omega
theorem iIdem (n : Int) (l : List Int) (h : l.length ≤ maxLen) : Ev (fun k => impl_IsIdempotent.f k n l) (decide (Idem n l)):=by
 unfold impl_IsIdempotent.f
 refine Ev.bind (iMul_any n l n l h h) ?_
 by_cases g : GV n l
 ·have e : mulR n l n l = (n,mulL n.toNat l l,true):=by unfold mulR;rw [if_pos ⟨g,g,rfl⟩]
  rw [e]
  refine Ev_t rfl ?_
  have h16:=len_of_GV g
  obtain ⟨m,rfl⟩:=GV_nat g
  have h2:=sq_le m (GV_le g).1
  refine Ev.bind (iSame_ev (m : Int) (mulL m l l) m l (by rw [mulL_length];omega)) ((Ev.now _).is ?_)
  rw [Bool.eq_iff_iff]
  simp only [decide_eq_true_eq]
  exact ⟨fun x => ⟨g,x.2⟩,fun x => ⟨by trivial,x.2⟩⟩
 ·have e : mulR n l n l = (0,[],false):=by unfold mulR;rw [if_neg (fun x => g x.1)]
  rw [e]
  exact Ev_f (by simp) ((Ev.now _).is (by rw [decide_eq_false (fun x : Idem n l => g x.1)]))
theorem sIdemG (n : Nat) (l : List Int) (g : GV n l) : Ev (fun k => spec_l6Idempotent.f k n l) (decide (Idem n l)):=by
 have hn:=GV_le g
 have hl:=GV_len g
 have h2:=sq_le n hn.1
 unfold spec_l6Idempotent.f
 refine Ev.bind (sMul n hn.1 hn.2 l l hl hl) ?_
 refine Ev.bind (sSame_ev (mulL n l l) l (by rw [mulL_length,hl]) (by rw [mulL_length];omega)) ((Ev.now _).is ?_)
 rw [Bool.eq_iff_iff]
 simp only [decide_eq_true_eq]
 exact ⟨fun x => ⟨g,x⟩,fun x => x.2⟩
theorem mn_le (x y t : Int) : mn x y ≤ t ↔ x ≤ t ∨ y ≤ t:=by unfold mn;by_cases h : y < x <;> simp only [h,if_true,if_false] <;> omega
theorem mx_le (x y t : Int) : mx x y ≤ t ↔ x ≤ t ∧ y ≤ t:=by unfold mx;by_cases h : x < y <;> simp only [h,if_true,if_false] <;> omega
theorem fold_le (n : Nat) (F : Nat → Int) (c t : Int) : (List.range n).foldl (fun acc l => mn acc (F l)) c ≤ t ↔ c ≤ t ∨ ∃ l,l < n ∧ F l ≤ t:=by
 induction n with
 | zero => simp
 | succ n ih =>
  rw [fold_snoc,mn_le,ih]
  constructor
  ·rintro ((h | ⟨l,h1,h2⟩)|h)
   ·exact Or.inl h
   ·exact Or.inr ⟨l,by omega,h2⟩
   ·exact Or.inr ⟨n,by omega,h⟩
  ·rintro (h | ⟨l,h1,h2⟩)
   ·exact Or.inl (Or.inl h)
   ·by_cases e : l = n
    ·subst e;exact Or.inr h2
    ·exact Or.inl (Or.inr ⟨l,by omega,h2⟩)
theorem mulE_le (n : Nat) (a b : List Int) (i k : Nat) (t : Int) : mulE n a b i k ≤ t ↔ 3 ≤ t ∨ ∃ l,l < n ∧ a.getD (i * n + l) 0 ≤ t ∧ b.getD (l * n + k) 0 ≤ t:=by
 unfold mulE
 rw [fold_le n (fun l => mx (a.getD (i * n + l) 0) (b.getD (l * n + k) 0)) 3 t]
 constructor
 ·rintro (h | ⟨l,h1,h2⟩)
  ·exact Or.inl h
  ·rw [mx_le] at h2;exact Or.inr ⟨l,h1,h2.1,h2.2⟩
 ·rintro (h | ⟨l,h1,h2,h3⟩)
  ·exact Or.inl h
  ·exact Or.inr ⟨l,h1,by rw [mx_le];exact ⟨h2,h3⟩⟩
theorem mulL_get (n : Nat) (a b : List Int) (i k : Nat) (hi : i < n) (hk : k < n) : (mulL n a b).getD (i * n + k) 0 = mulE n a b i k:=sqL_get n _ i k hi hk
theorem eq_of_le (x y : Int) (h : ∀ t,x ≤ t ↔ y ≤ t) : x = y:=by
 have h1:=(h y).mpr (Int.le_refl _)
 have h2:=(h x).mp (Int.le_refl _)
 omega
theorem mul_assoc' (n : Nat) (a b c : List Int) : mulL n (mulL n a b) c = mulL n a (mulL n b c):=by
 unfold mulL
 refine sqL_congr n _ _ (fun i k hi hk => eq_of_le _ _ (fun t => ?_))
 show mulE n (mulL n a b) c i k ≤ t ↔ mulE n a (mulL n b c) i k ≤ t
 rw [mulE_le,mulE_le]
 constructor
 ·rintro (h | ⟨l,hl,h1,h2⟩)
  ·exact Or.inl h
  ·rw [mulL_get n a b i l hi hl,mulE_le] at h1
   rcases h1 with h1 | ⟨m,hm,h3,h4⟩
   ·exact Or.inl h1
   ·refine Or.inr ⟨m,hm,h3,?_⟩
    rw [mulL_get n b c m k hm hk,mulE_le]
    exact Or.inr ⟨l,hl,h4,h2⟩
 ·rintro (h | ⟨m,hm,h1,h2⟩)
  ·exact Or.inl h
  ·rw [mulL_get n b c m k hm hk,mulE_le] at h2
   rcases h2 with h2 | ⟨l,hl,h3,h4⟩
   ·exact Or.inl h2
   ·refine Or.inr ⟨l,hl,?_,h4⟩
    rw [mulL_get n a b i l hi hl,mulE_le]
    exact Or.inr ⟨m,hm,h1,h3⟩
def pw (n : Nat) (l : List Int) : Nat → List Int
 | 0 => l
 | m + 1 => mulL n (pw n l m) l
theorem pw_add (n : Nat) (l : List Int) (a b : Nat) : mulL n (pw n l a) (pw n l b) = pw n l (a + b + 1):=by
 induction b with
 | zero => rfl
 | succ b ih => show mulL n (pw n l a) (mulL n (pw n l b) l) = mulL n (pw n l (a + (b + 1))) l;rw [← mul_assoc',ih];rfl
def Gr (l : List Int) : Prop := ∀ x ∈ l,0 ≤ x ∧ x ≤ 3
theorem gr_getD {l : List Int} (h : Gr l) (j : Nat) : 0 ≤ l.getD j 0 ∧ l.getD j 0 ≤ 3:=by
 rw [List.getD_eq_getElem?_getD]
 by_cases hj : j < l.length
 ·rw [List.getElem?_eq_getElem hj];exact h _ (List.getElem_mem hj)
 ·rw [List.getElem?_eq_none (by omega)];simp
theorem mulE_in (n : Nat) (a b : List Int) (ha : Gr a) (hb : Gr b) (i k : Nat) : 0 ≤ mulE n a b i k ∧ mulE n a b i k ≤ 3:=by
 constructor
 ·have h:=mulE_le n a b i k (-1)
  have : ¬ mulE n a b i k ≤ -1:=by
   rw [h]
   rintro (h | ⟨l,_,h1,_⟩)
   ·omega
   ·have:=(gr_getD ha (i * n + l)).1;omega
  omega
 ·rw [mulE_le];exact Or.inl (Int.le_refl _)
theorem mul_gr (n : Nat) (a b : List Int) (ha : Gr a) (hb : Gr b) : Gr (mulL n a b):=by
 intro x hx
 obtain ⟨j,hj,rfl⟩:=mem_tab.mp hx
 exact mulE_in n a b ha hb _ _
theorem pw_gr (n : Nat) (l : List Int) (h : Gr l) (m : Nat) : Gr (pw n l m):=by
 induction m with
 | zero => exact h
 | succ m ih => exact mul_gr n _ _ ih h
theorem pw_len (n : Nat) (l : List Int) (h : l.length = n * n) (m : Nat) : (pw n l m).length = n * n:=by
 cases m with
 | zero => exact h
 | succ m => exact mulL_length n _ _
theorem pigeon (N : Nat) : ∀ f : Nat → Nat,(∀ i,i ≤ N → f i < N) → ∃ i j,i < j ∧ j ≤ N ∧ f i = f j:=by
 induction N with
 | zero => intro f h;exact absurd (h 0 (Nat.le_refl _)) (by omega)
 | succ N ih =>
  intro f h
  by_cases e : ∃ i,i ≤ N ∧ f i = f (N + 1)
  ·obtain ⟨i,h1,h2⟩:=e
   exact ⟨i,N + 1,by omega,Nat.le_refl _,h2⟩
  ·have ne : ∀ i,i ≤ N → f i ≠ f (N + 1):=fun i hi he => e ⟨i,hi,he⟩
   obtain ⟨i,j,h1,h2,h3⟩:=ih (fun i => if f i > f (N + 1) then f i - 1 else f i) (fun i hi => by
    have a:=h i (by omega)
    have b:=h (N + 1) (Nat.le_refl _)
    have c:=ne i hi
    show (if f i > f (N + 1) then f i - 1 else f i) < N
    by_cases d : f i > f (N + 1)
    ·rw [if_pos d];omega
    ·rw [if_neg d];omega)
   refine ⟨i,j,h1,by omega,?_⟩
   have c1:=ne i (by omega)
   have c2:=ne j h2
   have h3' : (if f i > f (N + 1) then f i - 1 else f i) = (if f j > f (N + 1) then f j - 1 else f j):=h3
   by_cases d1 : f i > f (N + 1) <;> by_cases d2 : f j > f (N + 1)
   ·rw [if_pos d1,if_pos d2] at h3';omega
   ·rw [if_pos d1,if_neg d2] at h3';omega
   ·rw [if_neg d1,if_pos d2] at h3';omega
   ·rw [if_neg d1,if_neg d2] at h3';omega
def code : List Int → Nat
 | [] => 0
 | x :: t => x.toNat + 4 * code t
theorem code_lt (l : List Int) (h : Gr l) : code l < 4 ^ l.length:=by
 induction l with
 | nil => simp [code]
 | cons x t ih =>
  have h1:=h x (by simp)
  have h2:=ih (fun y hy => h y (by simp [hy]))
  rw [List.length_cons,Nat.pow_succ]
  simp only [code]
  omega
theorem code_inj (l : List Int) : ∀ m : List Int,Gr l → Gr m → l.length = m.length → code l = code m → l = m:=by
 induction l with
 | nil => intro m _ _ h _;cases m with
  | nil => rfl
  | cons => simp at h
 | cons x t ih =>
  intro m hl hm h e
  cases m with
  | nil => simp at h
  | cons y u =>
   have h1:=hl x (by simp)
   have h2:=hm y (by simp)
   simp only [code] at e
   have e1 : x = y:=by omega
   have e2 : code t = code u:=by omega
   rw [e1,ih u (fun z hz => hl z (by simp [hz])) (fun z hz => hm z (by simp [hz])) (by simpa using h) e2]
theorem pw_again (n : Nat) (l : List Int) (i d : Nat) (h : pw n l i = pw n l (i + d)) : ∀ m,i ≤ m → ∀ q,pw n l m = pw n l (m + q * d):=by
 have one : ∀ m,i ≤ m → pw n l m = pw n l (m + d):=by
  intro m hm
  obtain ⟨x,rfl⟩:=Nat.le.dest hm
  cases x with
  | zero => exact h
  | succ x =>
   have a:=pw_add n l i x
   have b:=pw_add n l (i + d) x
   rw [← h] at b
   have e : i + d + x + 1 = i + (x + 1) + d:=by omega
   rw [← e,← b,a];rfl
 intro m hm q
 induction q with
 | zero => simp
 | succ q ih =>
  rw [ih,one (m + q * d) (by omega)]
  congr 1
  rw [Nat.succ_mul];omega
theorem some_idem (n : Nat) (l : List Int) (hl : l.length = n * n) (hg : Gr l) : ∃ m,mulL n (pw n l m) (pw n l m) = pw n l m:=by
 obtain ⟨i,j,hij,_,he⟩:=pigeon (4 ^ (n * n)) (fun m => code (pw n l m)) (fun m _ => by
  have:=code_lt (pw n l m) (pw_gr n l hg m)
  rwa [pw_len n l hl m] at this)
 have he2 : pw n l i = pw n l j:=code_inj _ _ (pw_gr n l hg i) (pw_gr n l hg j) (by rw [pw_len n l hl,pw_len n l hl]) he
 obtain ⟨d,rfl⟩ : ∃ d,j = i + (d + 1):=⟨j - i - 1,by omega⟩
 have per:=pw_again n l i (d + 1) he2
 have hM : i ≤ (i + 1) * (d + 1) - 1:=by
  have : i + 1 ≤ (i + 1) * (d + 1):=Nat.le_mul_of_pos_right _ (by omega)
  omega
 have hp : 1 ≤ (i + 1) * (d + 1):=Nat.mul_pos (by omega) (by omega)
 refine ⟨(i + 1) * (d + 1) - 1,?_⟩
 rw [pw_add,per _ hM (i + 1)]
 congr 1
theorem least (P : Nat → Prop) (h : ∃ m,P m) : ∃ m,P m ∧ ∀ j,j < m → ¬ P j:=by
 obtain ⟨m,hm⟩:=h
 induction m using Nat.strongRecOn with
 | _ m ih =>
  by_cases e : ∃ j,j < m ∧ P j
  ·obtain ⟨j,h1,h2⟩:=e
   exact ih j h1 h2
  ·exact ⟨m,hm,fun j h1 h2 => e ⟨j,h1,h2⟩⟩
def ag (x : Int) : Int:=if x = 1 then 2 else x
def stE (n : Nat) (a : List Int) (i k : Nat) : Int:=(List.range n).foldl (fun acc l => mn acc (mx (mx (a.getD (i * n + l) 0) (ag (a.getD (l * n + l) 0))) (a.getD (l * n + k) 0))) 3
def stL (n : Nat) (a : List Int) : List Int:=sqL n (stE n a)
def stabR (n : Int) (l : List Int) : Int × List Int × Bool:=if Idem n l then (n,stL n.toNat l,true) else (0,[],false)
theorem stL_length (n : Nat) (a : List Int) : (stL n a).length = n * n:=by simp [stL,sqL,tab_length]
theorem stabR_len (n : Int) (l : List Int) : (stabR n l).2.1.length ≤ 16:=by
 unfold stabR
 by_cases g : Idem n l
 ·rw [if_pos g]
  obtain ⟨m,rfl⟩:=GV_nat g.1
  have:=sq_le m (GV_le g.1).1
  show (stL m l).length ≤ 16
  rw [stL_length];exact this
 ·rw [if_neg g];simp
theorem iStCell (n : Nat) (hn : n ≤ 4) (a : List Int) (ha : a.length = n * n) (i k : Nat) (hi : i < n) (hk : k < n) :
  Ev (fun K => impl_Stabilise_1.f K (i : Int) (k : Int) (n : Int) a) (stE n a i k):=by
 refine up_loop n (fun l K => impl_Stabilise_1.l0 K i k ((List.range l).foldl (fun acc l => mn acc (mx (mx (a.getD (i * n + l) 0) (ag (a.getD (l * n + l) 0))) (a.getD (l * n + k) 0))) 3) n (l : Int) n a) _ (fun l hl hs => ?_) ?_
 ·refine Ev.step (fun j => ?_) hs
  simp only [impl_Stabilise_1.l0]
  rw [if_pos (by omega),at_eq n hn a ha l l hl hl,Option.bind_some]
  by_cases e : a.getD (l * n + l) 0 = 1
  ·rw [if_pos e,at_eq n hn a ha i l hi hl,Option.bind_some,at_eq n hn a ha l k hl hk,Option.bind_some,w64 (x:=(l : Int) + 1) (by omega) (by omega),fold_snoc];unfold ag;rw [if_pos e];rfl
  ·rw [if_neg e,at_eq n hn a ha i l hi hl,Option.bind_some,at_eq n hn a ha l k hl hk,Option.bind_some,w64 (x:=(l : Int) + 1) (by omega) (by omega),fold_snoc];unfold ag;rw [if_neg e];rfl
 ·refine Ev.step (f:=fun _ => some (stE n a i k)) (fun j => ?_) (Ev.now _)
  simp only [impl_Stabilise_1.l0]
  rw [if_neg (by omega)];rfl
theorem iStab (n : Int) (l : List Int) (hl : l.length ≤ maxLen) : Ev (fun k => impl_Stabilise.f k n l) (stabR n l):=by
 unfold impl_Stabilise.f
 refine Ev.bind (iIdem n l hl) ?_
 by_cases g : Idem n l
 ·refine Ev_t (decide_eq_true g) ?_
  have e : stabR n l = (n,stL n.toNat l,true):=by unfold stabR;rw [if_pos g]
  rw [e]
  obtain ⟨m,rfl⟩:=GV_nat g.1
  refine Ev.bind (a:=((m : Int),stL m l)) ?_ (Ev.now _)
  unfold impl_filled_d.f
  exact filledG m (GV_le g.1).1 (stE m l) (fun K y0 y1 => impl_Stabilise_1.f K y0 y1 m l) (fun i hi k hk => iStCell m (GV_le g.1).1 l (GV_len g.1) i k hi hk) (fun k p q r y z => impl_filled_d.l0 k p q r m l y z) (fun k p q r u v x y z => impl_filled_d.l1 k p q r u v x m l y z) (fun _ _ _ _ _ _ => by simp only [impl_filled_d.l0]) (fun _ _ _ _ _ _ _ _ _ => by simp only [impl_filled_d.l1])
 ·refine Ev_f (by rw [decide_eq_false g];simp) ((Ev.now _).is ?_)
  unfold stabR;rw [if_neg g]
theorem sAgain (x : Int) : spec_l6Again.f x = some (ag x):=by
 unfold spec_l6Again.f ag
 by_cases e : x = 1
 ·rw [if_pos e,if_pos e]
 ·rw [if_neg e,if_neg e]
theorem idx3 (n l : Nat) (hn : n ≤ 4) (hl : l < n) : wrap64 (wrap64 ((l : Int) * (n : Int)) + (l : Int)) = ((l * n + l : Nat) : Int):=by
 have r2:=row_le n l hn (by omega)
 have : (l : Int) * (n : Int) = ((l * n : Nat) : Int):=by simp
 rw [this,w64 (x:=((l * n : Nat) : Int)) (by omega) (by omega),w64 (x:=((l * n : Nat) : Int) + (l : Int)) (by omega) (by omega)]
 simp
theorem sStab1 (n : Nat) (hn : n ≤ 4) (h0 : 1 ≤ n) (a : List Int) (hla : a.length = n * n) : Ev (fun k => spec_l6Stable.f k n a) ((n : Int),stL n a):=by
 have hs:=sq_le n hn
 have e0 : wrap64 ((n : Int) * (n : Int)) = ((n * n : Nat) : Int):=by
  have : (n : Int) * (n : Int) = ((n * n : Nat) : Int):=by simp
  rw [this,w64 (by omega) (by omega)]
 refine Ev.congr (f:=fun k => spec_l6Stable.l0 k ((n * n : Nat) : Int) ((0 : Nat) : Int) n a n (tab 0 (fun m => stE n a (m / n) (m % n)))) (fun k => ?_) ?_
 ·unfold spec_l6Stable.f;rw [e0];simp [tab]
 refine up_loop (n * n) (fun m k => spec_l6Stable.l0 k ((n * n : Nat) : Int) (m : Int) n a n (tab m (fun m => stE n a (m / n) (m % n)))) _ (fun m hm hnext => ?_) ?_
 ·have hi : m / n < n:=Nat.div_lt_of_lt_mul hm
  have hk : m % n < n:=Nat.mod_lt _ (by omega)
  refine Ev.step (f:=fun k => spec_l6Stable.l1 k m ((List.range 0).foldl (fun acc l => mn acc (mx (mx (a.getD (m / n * n + l) 0) (ag (a.getD (l * n + l) 0))) (a.getD (l * n + m % n) 0))) 3) ((n * n : Nat) : Int) m n ((0 : Nat) : Int) n a n (tab m (fun m => stE n a (m / n) (m % n)))) (fun k => ?_) ?_
  ·simp only [spec_l6Stable.l0];rw [if_pos (by omega)];rfl
  refine up_loop n (fun l k => spec_l6Stable.l1 k m ((List.range l).foldl (fun acc l => mn acc (mx (mx (a.getD (m / n * n + l) 0) (ag (a.getD (l * n + l) 0))) (a.getD (l * n + m % n) 0))) 3) ((n * n : Nat) : Int) m n (l : Int) n a n (tab m (fun m => stE n a (m / n) (m % n)))) _ (fun l hl hs2 => ?_) ?_
  ·refine Ev.step (fun j => ?_) hs2
   have c1:=cell_lt n (m / n) l hi hl
   have c2:=cell_lt n l (m % n) hl hk
   have c3:=cell_lt n l l hl hl
   have hA : (l : Int) < (n : Int):=by omega
   have hB : ¬ (n : Int) = 0:=by omega
   have hC : (((m / n * n + l : Nat)) : Int) < (a.length : Int):=by rw [hla];exact_mod_cast c1
   have hD : (((l * n + m % n : Nat)) : Int) < (a.length : Int):=by rw [hla];exact_mod_cast c2
   have hF : (((l * n + l : Nat)) : Int) < (a.length : Int):=by rw [hla];exact_mod_cast c3
   have hE : wrap64 ((l : Int) + 1) = ((l + 1 : Nat) : Int):=by rw [w64 (by omega) (by omega)];rfl
   have e1:=idx1 n m l hn hi hl
   have e2:=idx2 n m l hn hk hl
   have e3:=idx3 n l hn hl
   simp only [spec_l6Stable.l1]
   rw [if_pos hA,if_neg hB,e1,e2,e3,if_pos (Int.natCast_nonneg _),if_pos hC,if_pos (Int.natCast_nonneg _),if_pos hF,sAgain,Option.bind_some,if_pos (Int.natCast_nonneg _),if_pos hD,rd_nat,rd_nat,rd_nat,hE,fold_snoc]
  ·refine Ev.step (fun j => ?_) hnext
   simp only [spec_l6Stable.l1]
   rw [if_neg (by omega),tab_length,if_pos (by omega),w64 (x:=(m : Int) + 1) (by omega) (by omega)]
   have e : tab m (fun m => stE n a (m / n) (m % n)) ++ [stE n a (m / n) (m % n)] = tab (m + 1) (fun m => stE n a (m / n) (m % n)):=tab_snoc m (fun m => stE n a (m / n) (m % n))
   show spec_l6Stable.l0 j _ _ _ _ _ (tab m (fun m => stE n a (m / n) (m % n)) ++ [stE n a (m / n) (m % n)]) = _
   rw [e];rfl
 ·refine Ev.step (f:=fun _ => some ((n : Int),stL n a)) (fun j => ?_) (Ev.now _)
  simp only [spec_l6Stable.l0]
  rw [if_neg (by omega)];rfl
theorem MV_of {n : Nat} (h1 : 1 ≤ n) (h4 : n ≤ 4) (g : Nat → Nat → Int) (h : ∀ i k,i < n → k < n → 0 ≤ g i k ∧ g i k ≤ 1000000) : MV (n : Int) (sqL n g):=by
 refine ⟨by omega,by omega,?_,?_⟩
 ·unfold sqL;rw [tab_length];exact_mod_cast rfl
 ·intro x hx
  unfold sqL at hx
  obtain ⟨j,hj,rfl⟩:=mem_tab.mp hx
  exact h _ _ (Nat.div_lt_of_lt_mul hj) (Nat.mod_lt _ (by omega))
theorem MV_len {n : Nat} {l : List Int} (h : MV (n : Int) l) : l.length = n * n:=by
 have:=h.2.2.1
 exact_mod_cast this
theorem MV_at {n : Nat} {l : List Int} (h : MV (n : Int) l) (i k : Nat) (hi : i < n) (hk : k < n) : 0 ≤ l.getD (i * n + k) 0 ∧ l.getD (i * n + k) 0 ≤ 1000000:=by
 have hc:=cell_lt n i k hi hk
 have hl:=MV_len h
 rw [List.getD_eq_getElem?_getD,List.getElem?_eq_getElem (by omega)]
 exact h.2.2.2 _ (List.getElem_mem _)
theorem MV_max {n : Nat} {l : List Int} (h : MV (n : Int) l) : l.length ≤ maxLen:=by
 have h1:=h.2.1
 have:=sq_le n (by omega)
 have:=MV_len h
 rw [maxLen_eq];omega
def stepL (n : Nat) (c : List UInt8) (t : List Stp) (l : List Int) : List Int:=t.foldl (fun (l : List Int) (s : Stp) => if s.f1.toList = c then l.set (s.f0 * (n : Int) + s.f2).toNat s.f3 else l) l
def cst (n : Nat) : List Int:=List.replicate (n * n) 1000000
theorem stepL_len (n : Nat) (c : List UInt8) : ∀ (t : List Stp) (l : List Int),(stepL n c t l).length = l.length:=by
 intro t
 induction t with
 | nil => intro l;rfl
 | cons s t ih =>
  intro l
  show (stepL n c t (if s.f1.toList = c then l.set (s.f0 * n + s.f2).toNat s.f3 else l)).length = l.length
  rw [ih]
  by_cases h : s.f1.toList = c
  ·rw [if_pos h,List.length_set]
  ·rw [if_neg h]
theorem stp_mem {n : Int} : ∀ {t : List Stp} {p : Option Stp},stp n p t = true → ∀ x ∈ t,stepOk n x = true
 | [],_,_,x,hx => by cases hx
 | y :: t,p,h,x,hx => by
  simp only [stp,Bool.and_eq_true] at h
  rcases List.mem_cons.mp hx with rfl|hx
  ·exact h.1.1
  ·exact stp_mem h.2 x hx
theorem stepL_MV (n : Nat) (h1 : 1 ≤ n) (h4 : n ≤ 4) (c : List UInt8) : ∀ (t : List Stp) (l : List Int),(∀ x ∈ t,stepOk n x = true) → MV (n : Int) l → MV (n : Int) (stepL n c t l):=by
 intro t
 induction t with
 | nil => intro l _ h;exact h
 | cons s t ih =>
  intro l ht h
  show MV (n : Int) (stepL n c t (if s.f1.toList = c then l.set (s.f0 * n + s.f2).toNat s.f3 else l))
  refine ih _ (fun x hx => ht x (List.mem_cons_of_mem _ hx)) ?_
  by_cases e : s.f1.toList = c
  ·rw [if_pos e]
   refine ⟨h.1,h.2.1,by rw [List.length_set];exact h.2.2.1,fun x hx => ?_⟩
   rcases List.mem_or_eq_of_mem_set hx with hx|rfl
   ·exact h.2.2.2 x hx
   ·have o:=of_decide_eq_true (show decide _ = true from ht s (by simp));omega
  ·rw [if_neg e];exact h
theorem cst_MV (n : Nat) (h1 : 1 ≤ n) (h4 : n ≤ 4) : MV (n : Int) (cst n):=by
 refine ⟨by omega,by omega,?_,fun x hx => ?_⟩
 ·unfold cst;rw [List.length_replicate];exact_mod_cast rfl
 ·rw [(List.mem_replicate.mp hx).2];omega
theorem cst_sq (n : Nat) : sqL n (fun _ _ => 1000000) = cst n:=by
 unfold sqL tab cst
 rw [List.map_const',List.length_range]
theorem iStepLoop (n : Nat) (h1 : 1 ≤ n) (h4 : n ≤ 4) (s f : List Int) (x : ByteArray) (t : List Stp) (ht : ∀ y ∈ t,stepOk n y = true) (hl : t.length ≤ 1000000000) (l : List Int) (hc : l.length = n * n) :
  Ev (fun k => impl_StepMatrix.l0 k x t (t.length : Int) 0 n l) ((n : Int),stepL n x.toList t l,true):=by
 have go : ∀ (u pre : List Stp) (l : List Int),t = pre ++ u → l.length = n * n → Ev (fun k => impl_StepMatrix.l0 k x t (t.length : Int) (pre.length : Int) n l) ((n : Int),stepL n x.toList u l,true):=by
  intro u
  induction u with
  | nil =>
   intro pre l hp _
   refine Ev.step (f:=fun _ => some ((n : Int),l,true)) (fun k => ?_) (Ev.now _)
   simp only [impl_StepMatrix.l0];rw [if_neg (by rw [hp];simp)]
  | cons y u ih =>
   intro pre l hp hc
   have hlen : t.length = pre.length + (u.length + 1):=by rw [hp];simp
   have hx : rdT t (pre.length : Int) = y:=by rw [hp,rdS_mid]
   have o:=of_decide_eq_true (show decide _ = true from ht y (by rw [hp];simp))
   have c:=cellZ (n:=(n : Int)) (i:=y.f0) (k:=y.f2) (by omega) (by omega) (by omega)
   have cw:=cellW (n:=(n : Int)) (i:=y.f0) (k:=y.f2) (by omega) (by omega) (by omega)
   have hc2 : (l.length : Int) = (n : Int) * (n : Int):=by rw [hc];simp
   by_cases e : y.f1.toList = x.toList
   ·refine Ev.step (fun k => ?_) ((ih (pre ++ [y]) (l.set (y.f0 * n + y.f2).toNat y.f3) (by simp [hp]) (by rw [List.length_set];exact hc)).is ?_)
    ·simp only [impl_StepMatrix.l0]
     rw [if_pos (by omega),if_pos (by omega),if_pos (by omega),hx,if_pos e,cw,if_pos (by omega),if_pos (by omega),w64 (x:=(pre.length : Int) + 1) (by omega) (by omega),snocA]
    ·show _ = ((n : Int),stepL n x.toList u (if y.f1.toList = x.toList then l.set (y.f0 * n + y.f2).toNat y.f3 else l),true)
     rw [if_pos e]
   ·refine Ev.step (fun k => ?_) ((ih (pre ++ [y]) l (by simp [hp]) hc).is ?_)
    ·simp only [impl_StepMatrix.l0]
     rw [if_pos (by omega),if_pos (by omega),if_pos (by omega),hx,if_neg e,w64 (x:=(pre.length : Int) + 1) (by omega) (by omega),snocA]
    ·show _ = ((n : Int),stepL n x.toList u (if y.f1.toList = x.toList then l.set (y.f0 * n + y.f2).toNat y.f3 else l),true)
     rw [if_neg e]
 exact go t [] l rfl hc
theorem sStepLoop (n : Nat) (h1 : 1 ≤ n) (h4 : n ≤ 4) (s f : List Int) (x : ByteArray) (t : List Stp) (ht : ∀ y ∈ t,stepOk n y = true) (hl : t.length ≤ 1000000000) (l : List Int) (hc : l.length = n * n) :
  Ev (fun k => spec_l3Matrix.l1 k x t (t.length : Int) 0 n s f t n l) ((n : Int),stepL n x.toList t l):=by
 have go : ∀ (u pre : List Stp) (l : List Int),t = pre ++ u → l.length = n * n → Ev (fun k => spec_l3Matrix.l1 k x t (t.length : Int) (pre.length : Int) n s f t n l) ((n : Int),stepL n x.toList u l):=by
  intro u
  induction u with
  | nil =>
   intro pre l hp _
   refine Ev.step (f:=fun _ => some ((n : Int),l)) (fun k => ?_) (Ev.now _)
   simp only [spec_l3Matrix.l1];rw [if_neg (by rw [hp];simp)]
  | cons y u ih =>
   intro pre l hp hc
   have hlen : t.length = pre.length + (u.length + 1):=by rw [hp];simp
   have hx : rdT t (pre.length : Int) = y:=by rw [hp,rdS_mid]
   have o:=of_decide_eq_true (show decide _ = true from ht y (by rw [hp];simp))
   have c:=cellZ (n:=(n : Int)) (i:=y.f0) (k:=y.f2) (by omega) (by omega) (by omega)
   have cw:=cellW (n:=(n : Int)) (i:=y.f0) (k:=y.f2) (by omega) (by omega) (by omega)
   have hc2 : (l.length : Int) = (n : Int) * (n : Int):=by rw [hc];simp
   by_cases e : y.f1.toList = x.toList
   ·refine Ev.step (fun k => ?_) ((ih (pre ++ [y]) (l.set (y.f0 * n + y.f2).toNat y.f3) (by simp [hp]) (by rw [List.length_set];exact hc)).is ?_)
    ·simp only [spec_l3Matrix.l1]
     rw [if_pos (by omega),if_pos (by omega),if_pos (by omega),hx,if_pos e,cw,if_pos (by omega),if_pos (by omega),w64 (x:=(pre.length : Int) + 1) (by omega) (by omega),snocA]
    ·show _ = ((n : Int),stepL n x.toList u (if y.f1.toList = x.toList then l.set (y.f0 * n + y.f2).toNat y.f3 else l))
     rw [if_pos e]
   ·refine Ev.step (fun k => ?_) ((ih (pre ++ [y]) l (by simp [hp]) hc).is ?_)
    ·simp only [spec_l3Matrix.l1]
     rw [if_pos (by omega),if_pos (by omega),if_pos (by omega),hx,if_neg e,w64 (x:=(pre.length : Int) + 1) (by omega) (by omega),snocA]
    ·show _ = ((n : Int),stepL n x.toList u (if y.f1.toList = x.toList then l.set (y.f0 * n + y.f2).toNat y.f3 else l))
     rw [if_neg e]
 exact go t [] l rfl hc
theorem sLetter (n : Nat) (h1 : 1 ≤ n) (h4 : n ≤ 4) (s f : List Int) (x : ByteArray) (t : List Stp) (ht : ∀ y ∈ t,stepOk n y = true) (hl : t.length ≤ 1000000000) :
  Ev (fun k => spec_l3Matrix.f k n s f t x) ((n : Int),stepL n x.toList t (cst n)):=by
 have hs:=sq_le n h4
 have e0 : wrap64 ((n : Int) * (n : Int)) = ((n * n : Nat) : Int):=by
  have : (n : Int) * (n : Int) = ((n * n : Nat) : Int):=by simp
  rw [this,w64 (by omega) (by omega)]
 refine Ev.congr (f:=fun k => spec_l3Matrix.l0 k x ((n * n : Nat) : Int) ((0 : Nat) : Int) n s f t n (List.replicate 0 1000000)) (fun k => ?_) ?_
 ·unfold spec_l3Matrix.f;rw [e0];rfl
 refine up_loop (n * n) (fun m k => spec_l3Matrix.l0 k x ((n * n : Nat) : Int) (m : Int) n s f t n (List.replicate m 1000000)) _ (fun m hm hnext => ?_) ?_
 ·refine Ev.step (fun k => ?_) hnext
  simp only [spec_l3Matrix.l0]
  rw [if_pos (by omega),List.length_replicate,if_pos (by omega),w64 (by omega) (by omega),← List.replicate_succ'];rfl
 ·refine Ev.step (fun k => ?_) (sStepLoop n h1 h4 s f x t ht hl (cst n) (by unfold cst;rw [List.length_replicate]))
  simp only [spec_l3Matrix.l0]
  rw [if_neg (by omega)];rfl
theorem iLetter (n : Nat) (s f : List Int) (x : ByteArray) (t : List Stp) (hv : AV n s f t = true) (hs : s.length ≤ 1000000000) (hf : f.length ≤ 1000000000) (hl : t.length ≤ 1000000000) (hx : x.toList = ([97] : List UInt8) ∨ x.toList = ([98] : List UInt8)) :
  Ev (fun k => impl_StepMatrix.f k n s f t x) ((n : Int),stepL n x.toList t (cst n),true):=by
 obtain ⟨h1,h2,h3,h4,h5⟩:=AV_parts hv
 unfold impl_StepMatrix.f
 refine Ev.bind (iAV n s f t hs hf hl) (Ev_t hv ?_)
 have fl : Ev (fun k => impl_filled.f k (n : Int)) ((n : Int),cst n):=by
  unfold impl_filled.f
  have:=filledG n (by omega) (fun _ _ => 1000000) (fun K y0 y1 => impl_StepMatrix_1.f y0 y1) (fun i _ k _ => ev_some (fun K => rfl)) (fun k p q r y z => impl_filled.l0 k p q r y z) (fun k p q r u v x y z => impl_filled.l1 k p q r u v x y z) (fun _ _ _ _ _ _ => by simp only [impl_filled.l0]) (fun _ _ _ _ _ _ _ _ _ => by simp only [impl_filled.l1])
  rw [cst_sq] at this
  exact this
 have st:=iStepLoop n (by omega) (by omega) s f x t (stp_mem h5) hl (cst n) (by unfold cst;rw [List.length_replicate])
 by_cases e : x.toList = ([97] : List UInt8)
 ·exact Ev_t e (Ev.bind fl st)
 ·exact Ev_f e (Ev_t (hx.resolve_left e) (Ev.bind fl st))
def letL (n : Nat) (t : List Stp) (c : UInt8) : List Int:=stepL n [c] t (cst n)
theorem letL_MV (n : Nat) (h1 : 1 ≤ n) (h4 : n ≤ 4) (t : List Stp) (ht : ∀ y ∈ t,stepOk n y = true) (c : UInt8) : MV (n : Int) (letL n t c):=stepL_MV n h1 h4 [c] t (cst n) ht (cst_MV n h1 h4)
def gr (x : Int) : Int:=if x = 0 then 0 else if x = 1000000 then 3 else 1
def gradesR (n : Int) (l : List Int) : Int × List Int × Bool:=if MV n l then (n,l.map gr,true) else (0,[],false)
theorem gradesR_len (n : Int) (l : List Int) (h : l.length ≤ 1048576) : (gradesR n l).2.1.length ≤ 1048576:=by
 unfold gradesR
 by_cases g : MV n l
 ·rw [if_pos g];simpa using h
 ·rw [if_neg g];simp
theorem iGrades (n : Int) (l : List Int) (hl : l.length ≤ maxLen) : Ev (fun k => impl_GradesOf.f k n l) (gradesR n l):=by
 unfold impl_GradesOf.f
 refine Ev.bind (iMV n l hl) ?_
 by_cases g : MV n l
 ·refine Ev_t (decide_eq_true g) ?_
  have e : gradesR n l = (n,l.map gr,true):=by unfold gradesR;rw [if_pos g]
  rw [e]
  obtain ⟨m,rfl,h1,h4,hs⟩:=MV_nat g
  have em : l.map gr = sqL m (fun i k => gr (l.getD (i * m + k) 0)):=by
   rw [eq_sqL m (l.map gr) (by simpa using hs)]
   refine sqL_congr m _ _ (fun i k hi hk => ?_)
   have hc:=cell_lt m i k hi hk
   have hc' : i * m + k < l.length:=by omega
   simp [List.getD_eq_getElem?_getD,List.getElem?_eq_getElem hc']
  rw [em]
  refine Ev.bind (a:=((m : Int),sqL m (fun i k => gr (l.getD (i * m + k) 0)))) ?_ (Ev.now _)
  unfold impl_filled_b.f
  refine filledG m h4 (fun i k => gr (l.getD (i * m + k) 0)) (fun K y0 y1 => impl_GradesOf_1.f y0 y1 m l) (fun i hi k hk => ev_some (fun K => ?_)) (fun k p q r y z => impl_filled_b.l0 k p q r m l y z) (fun k p q r u v x y z => impl_filled_b.l1 k p q r u v x m l y z) (fun _ _ _ _ _ _ => by simp only [impl_filled_b.l0]) (fun _ _ _ _ _ _ _ _ _ => by simp only [impl_filled_b.l1])
  unfold impl_GradesOf_1.f gr
  rw [at_eq m h4 l hs i k hi hk,Option.bind_some]
  by_cases a : l.getD (i * m + k) 0 = 0
  ·rw [if_pos a,if_pos a]
  ·rw [if_neg a,if_neg a]
   by_cases b : l.getD (i * m + k) 0 = 1000000
   ·rw [if_pos b,if_pos b]
   ·rw [if_neg b,if_neg b]
 ·refine Ev_f (by rw [decide_eq_false g];simp) ((Ev.now _).is ?_)
  unfold gradesR;rw [if_neg g]
theorem sGradesL (n : Int) (l : List Int) (hl : l.length ≤ 1048576) : Ev (fun k => spec_l6Grades.f k n l) (n,l.map gr):=by
 have go : ∀ (t pre : List Int),l = pre ++ t → Ev (fun k => spec_l6Grades.l0 k l (l.length : Int) (pre.length : Int) n (pre.map gr)) (n,l.map gr):=by
  intro t
  induction t with
  | nil =>
   intro pre hp
   refine Ev.step (f:=fun _ => some (n,pre.map gr)) (fun k => ?_) ((Ev.now _).is (by rw [hp];simp))
   simp only [spec_l6Grades.l0];rw [if_neg (by rw [hp];simp)]
  | cons x t ih =>
   intro pre hp
   have hlen : l.length = pre.length + (t.length + 1):=by rw [hp];simp
   have hx : rdI l (pre.length : Int) = x:=by rw [hp,rd_mid]
   have hi:=ih (pre ++ [x]) (by simp [hp])
   refine Ev.step (fun k => ?_) hi
   simp only [spec_l6Grades.l0]
   rw [if_pos (by omega),if_pos (by omega),if_pos (by omega),hx,w64 (x:=(pre.length : Int) + 1) (by omega) (by omega),snoc_len,List.map_append,List.map_cons,List.map_nil]
   have hm : (pre.map gr).length < 17592186044416:=by rw [List.length_map];omega
   by_cases a : x = 0
   ·have e : gr x = 0:=by unfold gr;rw [if_pos a]
    rw [if_pos a,if_pos hm,e]
   ·rw [if_neg a]
    by_cases b : x = 1000000
    ·have e : gr x = 3:=by unfold gr;rw [if_neg a,if_pos b]
     rw [if_pos b,if_pos hm,e]
    ·have e : gr x = 1:=by unfold gr;rw [if_neg a,if_neg b]
     rw [if_neg b,if_pos hm,e]
 exact go l [] rfl
theorem GV_iff (n : Nat) (l : List Int) : GV n l ↔ 1 ≤ n ∧ n ≤ 4 ∧ l.length = n * n ∧ Gr l:=by
 constructor
 ·intro h
  refine ⟨(GV_le h).2,(GV_le h).1,GV_len h,fun x hx => ⟨(h.1.2.2.2 x hx).1,h.2 x hx⟩⟩
 ·rintro ⟨h1,h2,h3,h4⟩
  refine ⟨⟨by omega,by omega,by rw [h3];simp,fun x hx => ⟨(h4 x hx).1,?_⟩⟩,fun x hx => (h4 x hx).2⟩
  have:=(h4 x hx).2
  omega
theorem GV_mul (n : Nat) (a b : List Int) (ha : GV n a) (hb : GV n b) : GV n (mulL n a b):=by
 rw [GV_iff] at ha hb ⊢
 exact ⟨ha.1,ha.2.1,mulL_length n a b,mul_gr n a b ha.2.2.2 hb.2.2.2⟩
theorem big16 {n : Nat} {l : List Int} (h : GV n l) : l.length ≤ maxLen:=by have:=len_of_GV h;rw [maxLen_eq];omega
theorem unit_gr (n : Nat) : (sqL n unitE).map gr = sqL n oneE:=by
 unfold sqL tab
 rw [List.map_map]
 refine List.map_congr_left (fun m _ => ?_)
 show gr (unitE (m / n) (m % n)) = oneE (m / n) (m % n)
 unfold unitE oneE gr
 by_cases e : m / n = m % n
 ·rw [if_pos e,if_pos e];rfl
 ·rw [if_neg e,if_neg e];rfl
theorem one_GV (n : Nat) (h1 : 1 ≤ n) (h4 : n ≤ 4) : GV (n : Int) (sqL n oneE):=by
 refine ⟨⟨by omega,by omega,?_,?_⟩,?_⟩
 ·unfold sqL;rw [tab_length];exact_mod_cast rfl
 ·intro x hx
  unfold sqL tab at hx
  obtain ⟨m,_,rfl⟩:=List.mem_map.mp hx
  unfold oneE
  by_cases e : m / n = m % n
  ·simp only [e,if_true];omega
  ·rw [if_neg e];omega
 ·intro x hx
  unfold sqL tab at hx
  obtain ⟨m,_,rfl⟩:=List.mem_map.mp hx
  unfold oneE
  by_cases e : m / n = m % n
  ·simp only [e,if_true];omega
  ·rw [if_neg e];omega
theorem mul_one' (n : Nat) (a : List Int) (h : GV (n : Int) a) : mulL n a (sqL n oneE) = a:=by
 have hg : Gr a:=fun x hx => ⟨(h.1.2.2.2 x hx).1,h.2 x hx⟩
 conv => rhs;rw [eq_sqL n a (GV_len h)]
 unfold mulL
 refine sqL_congr n _ _ (fun i k hi hk => ?_)
 refine eq_of_le _ _ (fun t => ?_)
 rw [mulE_le]
 have hb:=gr_getD hg (i * n + k)
 constructor
 ·rintro (h3 | ⟨l,hl,h1,h2⟩)
  ·omega
  ·rw [sqL_get n oneE l k hl hk] at h2
   unfold oneE at h2
   by_cases e : l = k
   ·subst e;exact h1
   ·rw [if_neg e] at h2;omega
 ·intro ht
  refine Or.inr ⟨k,hk,ht,?_⟩
  rw [sqL_get n oneE k k hk hk]
  unfold oneE
  rw [if_pos rfl];omega
theorem one_mul' (n : Nat) (a : List Int) (h : GV (n : Int) a) : mulL n (sqL n oneE) a = a:=by
 have hg : Gr a:=fun x hx => ⟨(h.1.2.2.2 x hx).1,h.2 x hx⟩
 conv => rhs;rw [eq_sqL n a (GV_len h)]
 unfold mulL
 refine sqL_congr n _ _ (fun i k hi hk => ?_)
 refine eq_of_le _ _ (fun t => ?_)
 rw [mulE_le]
 have hb:=gr_getD hg (i * n + k)
 constructor
 ·rintro (h3 | ⟨l,hl,h1,h2⟩)
  ·omega
  ·rw [sqL_get n oneE i l hi hl] at h1
   unfold oneE at h1
   by_cases e : i = l
   ·subst e;exact h2
   ·rw [if_neg e] at h1;omega
 ·intro ht
  refine Or.inr ⟨i,hi,?_,ht⟩
  rw [sqL_get n oneE i i hi hi]
  unfold oneE
  rw [if_pos rfl];omega
theorem stE_le (n : Nat) (a : List Int) (i k : Nat) (t : Int) : stE n a i k ≤ t ↔ 3 ≤ t ∨ ∃ l,l < n ∧ a.getD (i * n + l) 0 ≤ t ∧ ag (a.getD (l * n + l) 0) ≤ t ∧ a.getD (l * n + k) 0 ≤ t:=by
 unfold stE
 rw [fold_le n (fun l => mx (mx (a.getD (i * n + l) 0) (ag (a.getD (l * n + l) 0))) (a.getD (l * n + k) 0)) 3 t]
 constructor
 ·rintro (h | ⟨l,h1,h2⟩)
  ·exact Or.inl h
  ·rw [mx_le,mx_le] at h2;exact Or.inr ⟨l,h1,h2.1.1,h2.1.2,h2.2⟩
 ·rintro (h | ⟨l,h1,h2,h3,h4⟩)
  ·exact Or.inl h
  ·exact Or.inr ⟨l,h1,by rw [mx_le,mx_le];exact ⟨⟨h2,h3⟩,h4⟩⟩
theorem ag_ge (x : Int) : x ≤ ag x:=by unfold ag;by_cases h : x = 1 <;> simp only [h,if_true,if_false] <;> omega
theorem ag_mono (x y : Int) (h : x ≤ y) : ag x ≤ ag y:=by
 unfold ag
 by_cases h1 : x = 1
 ·rw [if_pos h1];by_cases h2 : y = 1
  ·rw [if_pos h2];omega
  ·rw [if_neg h2];omega
 ·rw [if_neg h1];by_cases h2 : y = 1
  ·rw [if_pos h2];omega
  ·rw [if_neg h2];omega
theorem ag_ag (x : Int) : ag (ag x) = ag x:=by
 unfold ag
 by_cases h1 : x = 1
 ·rw [if_pos h1,if_neg (by omega)]
 ·rw [if_neg h1,if_neg h1]
theorem ag_le2 (x : Int) (h : x ≤ 2) : ag x ≤ 2:=by
 unfold ag
 by_cases h1 : x = 1
 ·rw [if_pos h1];omega
 ·rw [if_neg h1];exact h
section
variable {n : Nat} {a : List Int}
theorem st_get (i k : Nat) (hi : i < n) (hk : k < n) : (stL n a).getD (i * n + k) 0 = stE n a i k:=sqL_get n _ i k hi hk
theorem idem_le (h : mulL n a a = a) (i k : Nat) (hi : i < n) (hk : k < n) (t : Int) : a.getD (i * n + k) 0 ≤ t ↔ 3 ≤ t ∨ ∃ l,l < n ∧ a.getD (i * n + l) 0 ≤ t ∧ a.getD (l * n + k) 0 ≤ t:=by
 rw [← mulE_le,← mulL_get n a a i k hi hk,h]
theorem trans_le (h : mulL n a a = a) (i l k : Nat) (hi : i < n) (hl : l < n) (hk : k < n) (t : Int) (h1 : a.getD (i * n + l) 0 ≤ t) (h2 : a.getD (l * n + k) 0 ≤ t) : a.getD (i * n + k) 0 ≤ t :=
 (idem_le h i k hi hk t).mpr (Or.inr ⟨l,hl,h1,h2⟩)
theorem st_left (h : mulL n a a = a) : mulL n a (stL n a) = stL n a:=by
 refine sqL_congr n _ _ (fun i k hi hk => eq_of_le _ _ (fun t => ?_))
 rw [mulE_le,stE_le]
 constructor
 ·rintro (h1 | ⟨j,hj,h1,h2⟩)
  ·exact Or.inl h1
  ·rw [st_get j k hj hk,stE_le] at h2
   rcases h2 with h2 | ⟨l,hl,h2,h3,h4⟩
   ·exact Or.inl h2
   ·exact Or.inr ⟨l,hl,trans_le h i j l hi hj hl t h1 h2,h3,h4⟩
 ·rintro (h1 | ⟨l,hl,h1,h2,h3⟩)
  ·exact Or.inl h1
  ·rcases (idem_le h i l hi hl t).mp h1 with h4 | ⟨j,hj,h4,h5⟩
   ·exact Or.inl h4
   ·exact Or.inr ⟨j,hj,h4,by rw [st_get j k hj hk,stE_le];exact Or.inr ⟨l,hl,h5,h2,h3⟩⟩
theorem st_right (h : mulL n a a = a) : mulL n (stL n a) a = stL n a:=by
 refine sqL_congr n _ _ (fun i k hi hk => eq_of_le _ _ (fun t => ?_))
 rw [mulE_le,stE_le]
 constructor
 ·rintro (h1 | ⟨j,hj,h1,h2⟩)
  ·exact Or.inl h1
  ·rw [st_get i j hi hj,stE_le] at h1
   rcases h1 with h1 | ⟨l,hl,h1,h3,h4⟩
   ·exact Or.inl h1
   ·exact Or.inr ⟨l,hl,h1,h3,trans_le h l j k hl hj hk t h4 h2⟩
 ·rintro (h1 | ⟨l,hl,h1,h2,h3⟩)
  ·exact Or.inl h1
  ·rcases (idem_le h l k hl hk t).mp h3 with h4 | ⟨j,hj,h4,h5⟩
   ·exact Or.inl h4
   ·exact Or.inr ⟨j,hj,by rw [st_get i j hi hj,stE_le];exact Or.inr ⟨l,hl,h1,h2,h4⟩,h5⟩
theorem st_mid (h : mulL n a a = a) (i l k : Nat) (hi : i < n) (hl : l < n) (hk : k < n) (t : Int) (h1 : a.getD (i * n + l) 0 ≤ t) (h2 : ag (a.getD (l * n + l) 0) ≤ t) (h3 : a.getD (l * n + k) 0 ≤ t) :
  stE n a i l ≤ t ∧ stE n a l k ≤ t:=by
 have h4 : a.getD (l * n + l) 0 ≤ t:=Int.le_trans (ag_ge _) h2
 exact ⟨by rw [stE_le];exact Or.inr ⟨l,hl,h1,h2,h4⟩,by rw [stE_le];exact Or.inr ⟨l,hl,h4,h2,h3⟩⟩
theorem st_idem (h : mulL n a a = a) : mulL n (stL n a) (stL n a) = stL n a:=by
 refine sqL_congr n _ _ (fun i k hi hk => eq_of_le _ _ (fun t => ?_))
 rw [mulE_le]
 constructor
 ·rintro (h1 | ⟨j,hj,h1,h2⟩)
  ·rw [stE_le];exact Or.inl h1
  ·rw [st_get i j hi hj,stE_le] at h1
   rw [st_get j k hj hk,stE_le] at h2
   rw [stE_le]
   rcases h1 with h1 | ⟨l,hl,h1,h3,h4⟩
   ·exact Or.inl h1
   ·rcases h2 with h2 | ⟨m,hm,h5,h6,h7⟩
    ·exact Or.inl h2
    ·exact Or.inr ⟨l,hl,h1,h3,trans_le h l m k hl hm hk t (trans_le h l j m hl hj hm t h4 h5) h7⟩
 ·intro h1
  rw [stE_le] at h1
  rcases h1 with h1 | ⟨l,hl,h1,h2,h3⟩
  ·exact Or.inl h1
  ·obtain ⟨x,y⟩:=st_mid h i l k hi hl hk t h1 h2 h3
   exact Or.inr ⟨l,hl,by rw [st_get i l hi hl];exact x,by rw [st_get l k hl hk];exact y⟩
theorem st_st (h : mulL n a a = a) : stL n (stL n a) = stL n a:=by
 refine sqL_congr n _ _ (fun i k hi hk => eq_of_le _ _ (fun t => ?_))
 rw [stE_le]
 constructor
 ·rintro (h1 | ⟨l,hl,h1,h2,h3⟩)
  ·rw [stE_le];exact Or.inl h1
  ·rw [← st_get i k hi hk]
   exact trans_le (st_idem h) i l k hi hl hk t h1 h3
 ·intro h1
  rw [stE_le] at h1
  rcases h1 with h1 | ⟨l,hl,h1,h2,h3⟩
  ·exact Or.inl h1
  ·obtain ⟨x,y⟩:=st_mid h i l k hi hl hk t h1 h2 h3
   refine Or.inr ⟨l,hl,by rw [st_get i l hi hl];exact x,?_,by rw [st_get l k hl hk];exact y⟩
   rw [st_get l l hl hl]
   have z : stE n a l l ≤ ag (a.getD (l * n + l) 0):=by
    rw [stE_le];exact Or.inr ⟨l,hl,ag_ge _,Int.le_refl _,ag_ge _⟩
   have w:=ag_mono _ _ z
   rw [ag_ag] at w
   exact Int.le_trans w h2
theorem st_ge (h : mulL n a a = a) (hg : Gr a) (i k : Nat) (hi : i < n) (hk : k < n) : a.getD (i * n + k) 0 ≤ stE n a i k:=by
 have h1:=(stE_le n a i k (stE n a i k)).mp (Int.le_refl _)
 rcases h1 with h1 | ⟨l,hl,h1,_,h3⟩
 ·have:=(gr_getD hg (i * n + k)).2;omega
 ·exact trans_le h i l k hi hl hk _ h1 h3
theorem loop_at (h : mulL n a a = a) (i k : Nat) (hi : i < n) (hk : k < n) (h2 : a.getD (i * n + k) 0 ≤ 2) : ∃ l,l < n ∧ a.getD (i * n + l) 0 ≤ 2 ∧ a.getD (l * n + l) 0 ≤ 2 ∧ a.getD (l * n + k) 0 ≤ 2:=by
 let P : Nat → Prop:=fun x => x < n ∧ a.getD (i * n + x) 0 ≤ 2 ∧ a.getD (x * n + k) 0 ≤ 2
 have dense : ∀ x y,x < n → y < n → a.getD (x * n + y) 0 ≤ 2 → ∃ z,z < n ∧ a.getD (x * n + z) 0 ≤ 2 ∧ a.getD (z * n + y) 0 ≤ 2:=by
  intro x y hx hy hxy
  rcases (idem_le h x y hx hy 2).mp hxy with e|e
  ·omega
  ·exact e
 have start : ∃ x,P x:=dense i k hi hk h2
 have next : ∀ x,P x → ∃ y,P y ∧ a.getD (x * n + y) 0 ≤ 2:=by
  rintro x ⟨hx,h3,h4⟩
  obtain ⟨z,hz,h5,h6⟩:=dense x k hx hk h4
  exact ⟨z,⟨hz,trans_le h i x z hi hx hz 2 h3 h5,h6⟩,h5⟩
 let sq : Nat → {x // P x}:=fun m => Nat.rec (motive:=fun _ => {x // P x}) ⟨Classical.choose start,Classical.choose_spec start⟩ (fun _ x => ⟨Classical.choose (next x.1 x.2),(Classical.choose_spec (next x.1 x.2)).1⟩) m
 have one : ∀ m,a.getD ((sq m).1 * n + (sq (m + 1)).1) 0 ≤ 2:=fun m => (Classical.choose_spec (next (sq m).1 (sq m).2)).2
 have far : ∀ d m,a.getD ((sq m).1 * n + (sq (m + (d + 1))).1) 0 ≤ 2:=by
  intro d
  induction d with
  | zero => exact one
  | succ d ih => intro m;exact trans_le h _ _ _ (sq m).2.1 (sq (m + (d + 1))).2.1 (sq (m + (d + 1 + 1))).2.1 2 (ih m) (one (m + (d + 1)))
 obtain ⟨x,y,hxy,_,he⟩:=pigeon n (fun m => (sq m).1) (fun m _ => (sq m).2.1)
 obtain ⟨d,rfl⟩ : ∃ d,y = x + (d + 1):=⟨y - x - 1,by omega⟩
 have f:=far d x
 have he' : (sq x).1 = (sq (x + (d + 1))).1:=he
 rw [← he'] at f
 exact ⟨(sq x).1,(sq x).2.1,(sq x).2.2.1,f,(sq x).2.2.2⟩
theorem st_never (h : mulL n a a = a) (hg : Gr a) (i k : Nat) (hi : i < n) (hk : k < n) (h3 : stE n a i k = 3) : a.getD (i * n + k) 0 = 3:=by
 have b:=(gr_getD hg (i * n + k)).2
 by_cases e : a.getD (i * n + k) 0 ≤ 2
 ·obtain ⟨l,hl,h4,h5,h6⟩:=loop_at h i k hi hk e
  have : stE n a i k ≤ 2:=by rw [stE_le];exact Or.inr ⟨l,hl,h4,ag_le2 _ h5,h6⟩
  omega
 ·omega
end
theorem stE_in (n : Nat) (a : List Int) (ha : Gr a) (i k : Nat) : 0 ≤ stE n a i k ∧ stE n a i k ≤ 3:=by
 constructor
 ·have h:=stE_le n a i k (-1)
  have : ¬ stE n a i k ≤ -1:=by
   rw [h]
   rintro (h | ⟨l,_,h1,_⟩)
   ·omega
   ·have:=(gr_getD ha (i * n + l)).1;omega
  omega
 ·rw [stE_le];exact Or.inl (Int.le_refl _)
theorem GV_st (n : Nat) (a : List Int) (h : GV n a) : GV n (stL n a):=by
 rw [GV_iff] at h ⊢
 refine ⟨h.1,h.2.1,stL_length n a,?_⟩
 intro x hx
 obtain ⟨j,hj,rfl⟩:=mem_tab.mp hx
 exact stE_in n a h.2.2.2 _ _
inductive Reads : List UInt8 → List Part → List UInt8 → Prop
 | done : Reads [] [] []
 | letter (c : UInt8) (e : List UInt8) (ps : List Part) (r : List UInt8) : (c = 97 ∨ c = 98) → Reads e ps r → Reads (c :: e) ((⟨⟨#[c]⟩,[]⟩ : Part) :: ps) r
 | again (e : List UInt8) (w : List Part) (e2 : List UInt8) (ps : List Part) (r : List UInt8) : Reads e w (41 :: 35 :: e2) → w ≠ [] → Reads e2 ps r → Reads (40 :: e) ((⟨⟨#[]⟩,w⟩ : Part) :: ps) r
 | other (c : UInt8) (e : List UInt8) : c ≠ 97 → c ≠ 98 → c ≠ 40 → Reads (c :: e) [] (c :: e)
 | bad (e : List UInt8) (w : List Part) (r1 : List UInt8) : Reads e w r1 → (w = [] ∨ ∀ e2,r1 ≠ 41 :: 35 :: e2) → Reads (40 :: e) [] (40 :: e)
theorem Reads.suffix {e ps r} (h : Reads e ps r) : ∃ v,e = v ++ r:=by
 induction h with
 | done => exact ⟨[],rfl⟩
 | letter c e ps r _ _ ih => obtain ⟨v,rfl⟩:=ih;exact ⟨c :: v,rfl⟩
 | again e w e2 ps r _ _ _ ih1 ih2 =>
  obtain ⟨v1,rfl⟩:=ih1;obtain ⟨v2,rfl⟩:=ih2
  exact ⟨40 :: (v1 ++ 41 :: 35 :: v2),by simp⟩
 | other c e => exact ⟨[],rfl⟩
 | bad e w r1 => exact ⟨[],rfl⟩
theorem Reads.none {e r} (h : Reads e [] r) : r = e:=by cases h <;> rfl
theorem Reads.some {e ps r} (h : Reads e ps r) (hp : ps ≠ []) : r.length < e.length:=by
 cases h with
 | done => exact absurd rfl hp
 | letter c e ps r _ h => obtain ⟨v,rfl⟩:=h.suffix;simp;omega
 | again e w e2 ps r h1 _ h2 => obtain ⟨v1,rfl⟩:=h1.suffix;obtain ⟨v2,rfl⟩:=h2.suffix;simp;omega
 | other c e => exact absurd rfl hp
 | bad e w r1 => exact absurd rfl hp
theorem Reads.le {e ps r} (h : Reads e ps r) : r.length ≤ e.length:=by obtain ⟨v,rfl⟩:=h.suffix;simp
theorem Reads.parts {e ps r} (h : Reads e ps r) : ps.length + r.length ≤ e.length:=by
 induction h with
 | done => simp
 | letter c e ps r _ _ ih => simp;omega
 | again e w e2 ps r h1 _ _ ih1 ih2 => have:=h1.le;simp at *;omega
 | other c e => simp
 | bad e w r1 => simp
theorem reads_all (n : Nat) : ∀ e : List UInt8,e.length ≤ n → ∃ ps r,Reads e ps r:=by
 induction n with
 | zero => intro e h;cases e with
  | nil => exact ⟨[],[],.done⟩
  | cons c e => simp at h
 | succ n ih =>
  intro e h
  cases e with
  | nil => exact ⟨[],[],.done⟩
  | cons c e =>
   simp at h
   by_cases h1 : c = 97 ∨ c = 98
   ·obtain ⟨ps,r,hr⟩:=ih e h;exact ⟨_,_,.letter c e ps r h1 hr⟩
   ·by_cases h2 : c = 40
    ·subst h2
     obtain ⟨w,r1,hw⟩:=ih e h
     by_cases h3 : w = [] ∨ ∀ e2,r1 ≠ 41 :: 35 :: e2
     ·exact ⟨_,_,.bad e w r1 hw h3⟩
     ·obtain ⟨h4,h5⟩:=not_or.mp h3
      obtain ⟨e2,h6⟩:=Classical.not_forall.mp h5
      have h6:=Classical.not_not.mp h6
      subst h6
      have:=hw.le
      obtain ⟨ps,r,hr⟩:=ih e2 (by simp at this;omega)
      exact ⟨_,_,.again e w e2 ps r hw h4 hr⟩
    ·exact ⟨_,_,.other c e (fun h => h1 (.inl h)) (fun h => h1 (.inr h)) h2⟩
def endv (s : ByteArray) (r : List UInt8) (b : Int) : Int :=
 if r = [] ∨ r.head? = some 41 then (if (s.size : Int) - r.length = b then -1 else (s.size : Int) - r.length) else -1
theorem prefix_eval (y : ByteArray) : strings_HasPrefix.f y ⟨#[41,35]⟩ = some ((L y).take 2 == [41,35]):=by
 have h2 : (⟨#[41,35]⟩ : ByteArray).size = 2:=rfl
 have hl : (⟨#[41,35]⟩ : ByteArray).toList = [41,35]:=by rw [toList_L];rfl
 unfold strings_HasPrefix.f stringslite_HasPrefix.f
 rw [h2,hl,toList_L,L_extract,L_size]
 cases h : L y with
 | nil => simp
 | cons a t =>
  cases t with
  | nil => simp
  | cons b t =>
   simp
   rw [if_pos (by omega),if_pos (by omega)]
   rfl
theorem prefix_no {l : List UInt8} (h : ∀ e2,l ≠ 41 :: 35 :: e2) : (l.take 2 == [41,35]) = false:=by
 cases l with
 | nil => rfl
 | cons a t =>
  cases t with
  | nil => simp
  | cons b t =>
   simp
   rintro rfl rfl
   exact h t rfl
theorem parts_reads {e ps r} (h : Reads e ps r) : ∀ (x : ByteArray) (out : List Part),L x = e → out.length + x.size ≤ 1000000 →
  Ev (fun k => impl_readParts.l0 k x out) (out ++ ps,⟨r.toArray⟩):=by
 induction h with
 | done =>
  intro x out hx hn
  refine Ev.step (f:=fun _ => some (out,x)) (fun k => ?_) ((Ev.now _).is ?_)
  ·simp only [impl_readParts.l0];rw [if_pos (by rw [toList_L,hx])]
  ·simp;exact L_inj (by rw [hx];rfl)
 | letter c e ps r hc h ih =>
  intro x out hx hn
  have hz : x.size = e.length + 1:=by rw [L_size,hx];simp
  have hbt : btI x 0 = (c.toNat : Int):=by rw [bt_L,hx];simp
  have h1 : L (x.extract 1 x.size) = e:=by rw [L_extract,hx,L_size,hx];simp
  have h0 : x.extract 0 1 = ⟨#[c]⟩:=L_inj (by rw [L_extract,hx];simp [L])
  refine Ev.step (f:=fun k => impl_readParts.l0 k (x.extract 1 x.size) (out ++ [(⟨⟨#[c]⟩,[]⟩ : Part)])) (fun k => ?_) ?_
  ·simp only [impl_readParts.l0];rw [if_neg (by rw [toList_L,hx];simp),if_pos (by omega)]
   rcases hc with rfl|rfl
   ·rw [if_pos (by rw [hbt];rfl),if_pos (by omega),if_pos (by omega),if_pos (Int.le_refl _),h0]
   ·rw [if_neg (by rw [hbt];decide),if_pos (by rw [hbt];rfl),if_pos (by omega),if_pos (by omega),if_pos (Int.le_refl _),h0]
  ·exact (ih (x.extract 1 x.size) _ h1 (by simp only [List.length_append,List.length_cons,List.length_nil];rw [L_size,h1];omega)).is (by simp)
 | again e w e2 ps r h1 hw h2 ih1 ih2 =>
  intro x out hx hn
  have hz : x.size = e.length + 1:=by rw [L_size,hx];simp
  have hbt : btI x 0 = 40:=by rw [bt_L,hx];rfl
  have he : L (x.extract 1 x.size) = e:=by rw [L_extract,hx,L_size,hx];simp
  have hle:=h1.le
  simp at hle
  refine Ev.step (f:=?f1) (fun k => ?h1) ?k1
  case h1 => simp only [impl_readParts.l0];rw [if_neg (by rw [toList_L,hx];simp),if_pos (by omega),if_neg (by rw [hbt];decide),if_neg (by rw [hbt];decide),if_pos hbt,if_pos (by omega),if_pos (Int.le_refl _)] <;> exact rfl
  have i1:=ih1 (x.extract 1 x.size) [] he (by simp only [List.length_nil];rw [L_size,he];omega)
  have hy : L (⟨(41 :: 35 :: e2 : List UInt8).toArray⟩ : ByteArray) = 41 :: 35 :: e2:=L_mk _
  have hyz : (⟨(41 :: 35 :: e2 : List UInt8).toArray⟩ : ByteArray).size = e2.length + 2:=by rw [L_size,hy];simp
  refine Ev.bind (a:=([] ++ w,⟨(41 :: 35 :: e2 : List UInt8).toArray⟩)) (Ev.step (fun k => by simp only [impl_readParts.f]) i1) ?_
  have hwl : 0 < w.length:=by cases w with
   | nil => exact absurd rfl hw
   | cons a b => simp
  have h2' : L ((⟨(41 :: 35 :: e2 : List UInt8).toArray⟩ : ByteArray).extract 2 (⟨(41 :: 35 :: e2 : List UInt8).toArray⟩ : ByteArray).size) = e2:=by rw [L_extract,hyz,hy];simp
  have i2:=ih2 _ (out ++ [(⟨⟨#[]⟩,w⟩ : Part)]) h2' (by rw [L_size _,h2'];simp only [List.length_append,List.length_cons,List.length_nil];omega)
  refine Ev.congr (fun k => ?_) (i2.is (by simp))
  dsimp only
  rw [List.nil_append,if_pos (by omega),prefix_eval,hy,show (List.take 2 (41 :: 35 :: e2) == [41,35]) = true from rfl,Option.bind_some,if_pos rfl,if_pos (by omega),if_pos (by omega),if_pos (Int.le_refl _)]
 | other c e c1 c2 c3 =>
  intro x out hx hn
  have hz : x.size = e.length + 1:=by rw [L_size,hx];simp
  have hbt : btI x 0 = (c.toNat : Int):=by rw [bt_L,hx];simp
  have hxe : x = ⟨(c :: e).toArray⟩:=L_inj (by rw [hx,L_mk])
  refine Ev.step (f:=fun _ => some (out,x)) (fun k => ?_) ((Ev.now _).is (by rw [List.append_nil,← hxe]))
  ·simp only [impl_readParts.l0];rw [if_neg (by rw [toList_L,hx];simp),if_pos (by omega),if_neg (by rw [hbt];exact u8_ne c1),if_neg (by rw [hbt];exact u8_ne c2),if_neg (by rw [hbt];exact u8_ne c3)]
 | bad e w r1 h1 hw ih =>
  intro x out hx hn
  have hz : x.size = e.length + 1:=by rw [L_size,hx];simp
  have hbt : btI x 0 = 40:=by rw [bt_L,hx];rfl
  have he : L (x.extract 1 x.size) = e:=by rw [L_extract,hx,L_size,hx];simp
  have hxe : x = ⟨(40 :: e).toArray⟩:=L_inj (by rw [hx,L_mk])
  refine Ev.step (f:=?f2) (fun k => ?h2) ?k2
  case h2 => simp only [impl_readParts.l0];rw [if_neg (by rw [toList_L,hx];simp),if_pos (by omega),if_neg (by rw [hbt];decide),if_neg (by rw [hbt];decide),if_pos hbt,if_pos (by omega),if_pos (Int.le_refl _)] <;> exact rfl
  have i1:=ih (x.extract 1 x.size) [] he (by simp only [List.length_nil];rw [L_size,he];omega)
  refine Ev.bind (a:=([] ++ w,⟨r1.toArray⟩)) (Ev.step (fun k => by simp only [impl_readParts.f]) i1) ?_
  refine Ev.congr (f:=fun _ => some (out,x)) (fun k => ?_) ((Ev.now _).is (by rw [List.append_nil,← hxe]))
  dsimp only
  by_cases hwl : w = []
  ·subst hwl;rw [if_neg (by simp)]
  ·have hwl' : 0 < w.length:=by cases w with
    | nil => exact absurd rfl hwl
    | cons a b => simp
   have hn : ∀ e2,r1 ≠ 41 :: 35 :: e2:=by
    rcases hw with h'|h'
    ·exact absurd h' hwl
    ·exact h'
   rw [List.nil_append,if_pos (by omega),prefix_eval,L_mk,prefix_no hn,Option.bind_some,if_neg (by simp)]
theorem parts_eval (s : ByteArray) (hs : s.size ≤ 120) : ∃ ps r,Reads (L s) ps r ∧ Ev (fun k => impl_parts.f k s) (ps,decide (ps ≠ [] ∧ r = [])):=by
 obtain ⟨ps,r,h⟩:=reads_all (L s).length (L s) (Nat.le_refl _)
 refine ⟨ps,r,h,?_⟩
 have h1:=parts_reads h s [] rfl (by simp;omega)
 refine Ev.congr (f:=?f1) (fun k => ?h1) ?k1
 case h1 => unfold impl_parts.f;rw [if_neg (by omega)] <;> exact rfl
 refine Ev.bind (Ev.step (fun k => by simp only [impl_readParts.f]) h1) ?_
 refine Ev.congr (f:=fun _ => some (ps,decide (ps ≠ [] ∧ r = []))) (fun k => ?_) (Ev.now _)
 dsimp only
 rw [List.nil_append,toList_L,L_mk]
 cases ps with
 | nil => simp
 | cons p ps => simp <;> (cases r <;> simp)
theorem parts_long (s : ByteArray) (hs : 120 < s.size) : Ev (fun k => impl_parts.f k s) ([],false):=by
 refine Ev.congr (f:=fun _ => some ([],false)) (fun k => ?_) (Ev.now _)
 unfold impl_parts.f;rw [if_pos (by omega)]
theorem gr_GV (n : Nat) (l : List Int) (h : MV (n : Int) l) : GV (n : Int) (l.map gr):=by
 have hg : ∀ x,0 ≤ gr x ∧ gr x ≤ 3:=by
  intro x
  unfold gr
  by_cases a : x = 0
  ·rw [if_pos a];omega
  ·by_cases b : x = 1000000
   ·rw [if_neg a,if_pos b];omega
   ·rw [if_neg a,if_neg b];omega
 refine ⟨⟨h.1,h.2.1,by rw [List.length_map];exact h.2.2.1,?_⟩,?_⟩
 ·intro x hx;obtain ⟨y,_,rfl⟩:=List.mem_map.mp hx;have:=hg y;omega
 ·intro x hx;obtain ⟨y,_,rfl⟩:=List.mem_map.mp hx;exact (hg y).2
def lgr (n : Nat) (t : List Stp) (c : UInt8) : List Int:=(letL n t c).map gr
def resV (n : Nat) : Option (List Int) → Int × List Int × Bool
 | some b => ((n : Int),b,true)
 | none => (0,[],false)
theorem B_toL (l : List UInt8) : (⟨l.toArray⟩ : ByteArray).toList = l:=by rw [toList_L,L_mk]
theorem iLetG (n : Nat) (s f : List Int) (t : List Stp) (hv : AV n s f t = true) (hs : s.length ≤ 1000000000) (hf : f.length ≤ 1000000000) (hl : t.length ≤ 1000000000) (c : UInt8) (hc : c = 97 ∨ c = 98) (r : Int × List Int × Bool) (g : Nat → Int × List Int × Bool → Option (Int × List Int × Bool)) (hg : Ev (fun k => g k ((n : Int),lgr n t c,true)) r) :
  Ev (fun k => (impl_StepMatrix.f k n s f t ⟨#[c]⟩).bind fun m => (impl_GradesOf.f k m.1 m.2.1).bind fun v => g k v) r:=by
 obtain ⟨h1,h2,h3,h4,h5⟩:=AV_parts hv
 have e : (⟨#[c]⟩ : ByteArray).toList = [c]:=B_toL [c]
 have a:=iLetter n s f ⟨#[c]⟩ t hv hs hf hl (by rw [e];rcases hc with rfl|rfl <;> simp)
 rw [e] at a
 have hm:=letL_MV n (by omega) (by omega) t (stp_mem h5) c
 refine Ev.bind a (Ev.bind (iGrades n (letL n t c) (MV_max hm)) ?_)
 have e2 : gradesR (n : Int) (letL n t c) = ((n : Int),lgr n t c,true):=by unfold gradesR;rw [if_pos hm];rfl
 rw [e2];exact hg
theorem sLetG (n : Nat) (s f : List Int) (t : List Stp) (hv : AV n s f t = true) (hl : t.length ≤ 1000000000) (c : UInt8) (r : Int × List Int × Bool) (g : Nat → Int × List Int → Option (Int × List Int × Bool)) (hg : Ev (fun k => g k ((n : Int),lgr n t c)) r) :
  Ev (fun k => (spec_l3Matrix.f k n s f t ⟨#[c]⟩).bind fun m => (spec_l6Grades.f k m.1 m.2).bind fun v => g k v) r:=by
 obtain ⟨h1,h2,h3,h4,h5⟩:=AV_parts hv
 have e : (⟨#[c]⟩ : ByteArray).toList = [c]:=B_toL [c]
 have a:=sLetter n (by omega) (by omega) s f ⟨#[c]⟩ t (stp_mem h5) hl
 rw [e] at a
 have hm:=letL_MV n (by omega) (by omega) t (stp_mem h5) c
 have hz:=MV_len hm
 have hq:=sq_le n (by omega)
 exact Ev.bind a (Ev.bind (sGradesL n (letL n t c) (by omega)) hg)
inductive VP (n : Nat) (t : List Stp) : List Part → Option (List Int) → Prop
 | nil : VP n t [] (some (sqL n oneE))
 | letter (c : UInt8) (ps : List Part) (o : Option (List Int)) : (c = 97 ∨ c = 98) → VP n t ps o → VP n t ((⟨⟨#[c]⟩,[]⟩ : Part) :: ps) (o.map (mulL n (lgr n t c)))
 | again (w ps : List Part) (o1 o : Option (List Int)) : VP n t w o1 → VP n t ps o → VP n t ((⟨⟨#[]⟩,w⟩ : Part) :: ps) ((o1.bind fun M => if Idem n M then some (stL n M) else none).bind fun M => o.map (mulL n M))
theorem VP.app {n : Nat} {t : List Stp} {ps : List Part} {o : Option (List Int)} (h : VP n t ps o) : ∀ {qs : List Part} {o' : Option (List Int)},VP n t qs o' → (∀ x,o' = some x → GV (n : Int) x) → VP n t (ps ++ qs) (o.bind fun x => o'.map (mulL n x)):=by
 induction h with
 | nil =>
  intro qs o' h' g
  have e : (some (sqL n oneE)).bind (fun x => o'.map (mulL n x)) = o':=by
   cases o' with
   | none => rfl
   | some y => show some (mulL n (sqL n oneE) y) = some y;rw [one_mul' n y (g y rfl)]
  rw [e];exact h'
 | letter c ps o hc _ ih =>
  intro qs o' h' g
  have e : (o.map (mulL n (lgr n t c))).bind (fun x => o'.map (mulL n x)) = (o.bind fun x => o'.map (mulL n x)).map (mulL n (lgr n t c)):=by
   cases o with
   | none => rfl
   | some x =>
    cases o' with
    | none => rfl
    | some y => show some (mulL n (mulL n (lgr n t c) x) y) = some (mulL n (lgr n t c) (mulL n x y));rw [mul_assoc']
  rw [e];exact VP.letter c _ _ hc (ih h' g)
 | again w ps o1 o hw _ _ ih =>
  intro qs o' h' g
  have e : ((o1.bind fun M => if Idem n M then some (stL n M) else none).bind fun M => o.map (mulL n M)).bind (fun x => o'.map (mulL n x)) = (o1.bind fun M => if Idem n M then some (stL n M) else none).bind fun M => (o.bind fun x => o'.map (mulL n x)).map (mulL n M):=by
   cases (o1.bind fun M => if Idem (n : Int) M then some (stL n M) else none) with
   | none => rfl
   | some M =>
    cases o with
    | none => rfl
    | some x =>
     cases o' with
     | none => rfl
     | some y => show some (mulL n (mulL n M x) y) = some (mulL n M (mulL n x y));rw [mul_assoc']
  rw [e];exact VP.again w _ o1 _ hw (ih h' g)
def VW (n : Nat) (t : List Stp) (ps : List Part) (v : List Int → Option (List Int)) : Prop := ∃ o,VP n t ps o ∧ (∀ x,o = some x → GV (n : Int) x) ∧ ∀ a,GV (n : Int) a → v a = o.map (mulL n a)
end Go.Proofs.Ytfgoojnblomonaa.V
end
section
set_option linter.unusedVariables false
set_option linter.unusedSimpArgs false
namespace Go.Proofs.Ytfgoojnblomonaa.V
open Go Go.Proofs.Ytfgoojnblomonaa.R Go.RowKit
open Go.Proofs.YtfgoojnblomonaaW.PrintWords hiding mn mx
def WF (n : Nat) (L : List Elm) : Prop := ∀ e ∈ L,e.f0 = (n : Int) ∧ GV (n : Int) e.f1 ∧ e.f2.size ≤ 120
theorem WF_snoc {n : Nat} {L : List Elm} (h : WF n L) {m : List Int} {x : ByteArray} (hm : GV (n : Int) m) (hx : x.size ≤ 120) : WF n (L ++ [(⟨(n : Int),m,x⟩ : Elm)]):=by
 intro e he
 rcases List.mem_append.1 he with h1|h1
 ·exact h e h1
 ·rw [List.mem_singleton.1 h1];exact ⟨rfl,hm,hx⟩
theorem rdE_mid (pre : List Elm) (x : Elm) (t : List Elm) : rdE (pre ++ x :: t) (pre.length : Int) = x:=by simp [rdE,List.getD_eq_getElem?_getD]
theorem rdE_mem {L : List Elm} {i : Nat} (h : i < L.length) : rdE L (i : Int) ∈ L:=by
 unfold rdE
 rw [Int.toNat_natCast,List.getD_eq_getElem?_getD,List.getElem?_eq_getElem h]
 exact List.getElem_mem h
def putL (n : Nat) (L : List Elm) (m : List Int) (x : ByteArray) : List Elm × Bool :=
 if L.any (fun e => decide (e.f1 = m)) = true then (L,true) else if 120 ≤ L.length ∨ 120 < x.size then (L,false) else (L ++ [(⟨(n : Int),m,x⟩ : Elm)],true)
theorem putL_good {n : Nat} {L : List Elm} {m : List Int} {x : ByteArray} (h : WF n L) (hl : L.length ≤ 120) (hm : GV (n : Int) m) : WF n (putL n L m x).1 ∧ (putL n L m x).1.length ≤ 120 ∧ ∃ e,(putL n L m x).1 = L ++ e:=by
 unfold putL
 by_cases a : L.any (fun e => decide (e.f1 = m)) = true
 ·rw [if_pos a];exact ⟨h,hl,[],by simp⟩
 ·rw [if_neg a]
  by_cases b : 120 ≤ L.length ∨ 120 < x.size
  ·rw [if_pos b];exact ⟨h,hl,[],by simp⟩
  ·rw [if_neg b]
   exact ⟨WF_snoc h hm (by omega),by simp;omega,_,rfl⟩
theorem iSame_any (n : Nat) (L : List Elm) (h : WF n L) (m : List Int) : L.any (fun e => decide (e.f0 = (n : Int) ∧ e.f1 = m)) = L.any (fun e => decide (e.f1 = m)):=by
 induction L with
 | nil => rfl
 | cons x t ih =>
  rw [List.any_cons,List.any_cons,ih (fun e he => h e (List.mem_cons_of_mem _ he))]
  have:=(h x (List.mem_cons_self ..)).1
  simp [this]
theorem iContains (n : Nat) (L : List Elm) (h : WF n L) (hl : L.length ≤ 1000) (m : List Int) : Ev (fun k => slices_ContainsFunc_impl_Element_impl_Element.f k L (n : Int) m) (L.any (fun e => decide (e.f1 = m))):=by
 unfold slices_ContainsFunc_impl_Element_impl_Element.f slices_IndexFunc_impl_Element_impl_Element.f
 rw [← iSame_any n L h m]
 refine indexG rdE rdE_mid (fun e => decide (e.f0 = (n : Int) ∧ e.f1 = m)) (fun k e => impl_found_put_1.f k e.f0 e.f1 e.f2 (n : Int) m) L (fun x hx => ?_) (fun k a b c => slices_IndexFunc_impl_Element_impl_Element.l0 k a b c (n : Int) m) (fun k a b c => by simp only [slices_IndexFunc_impl_Element_impl_Element.l0]) (by omega)
 unfold impl_found_put_1.f
 exact Ev.bind (iSame_ev x.f0 x.f1 (n : Int) m (by have:=len_of_GV (h x hx).2.1;omega)) (Ev.now _)
theorem putL_any {n : Nat} {L : List Elm} {m : List Int} {x : ByteArray} (a : L.any (fun e => decide (e.f1 = m)) = true) : putL n L m x = (L,true):=by unfold putL;rw [if_pos a]
theorem putL_full {n : Nat} {L : List Elm} {m : List Int} {x : ByteArray} (a : ¬ L.any (fun e => decide (e.f1 = m)) = true) (b : 120 ≤ L.length ∨ 120 < x.size) : putL n L m x = (L,false):=by unfold putL;rw [if_neg a,if_pos b]
theorem putL_new {n : Nat} {L : List Elm} {m : List Int} {x : ByteArray} (a : ¬ L.any (fun e => decide (e.f1 = m)) = true) (b : ¬ (120 ≤ L.length ∨ 120 < x.size)) : putL n L m x = (L ++ [(⟨(n : Int),m,x⟩ : Elm)],true):=by unfold putL;rw [if_neg a,if_neg b]
theorem iPut (n : Nat) (L : List Elm) (h : WF n L) (hl : L.length ≤ 120) (m : List Int) (x : ByteArray) : Ev (fun k => impl_found_put.f k (n : Int) m x L true) (putL n L m x):=by
 unfold impl_found_put.f
 refine Ev.bind (iContains n L h (by omega) m) ?_
 by_cases a : L.any (fun e => decide (e.f1 = m)) = true
 ·rw [putL_any a];exact Ev_t a (Ev.now _)
 ·refine Ev_f a ?_
  by_cases b : (L.length : Int) ≥ 120
  ·rw [putL_full a (.inl (by omega))];exact Ev_t b (Ev.now _)
  ·refine Ev_f b ?_
   by_cases c : (x.size : Int) > 120
   ·rw [putL_full a (.inr (by omega))];exact Ev_t c (Ev.now _)
   ·rw [putL_new a (by omega)];exact Ev_f c (Ev_t (by omega) (Ev.now _))
theorem iPut_off (n : Nat) (L : List Elm) (h : WF n L) (hl : L.length ≤ 120) (m : List Int) (x : ByteArray) : ∃ L',Ev (fun k => impl_found_put.f k (n : Int) m x L false) (L',false):=by
 unfold impl_found_put.f
 by_cases a : L.any (fun e => decide (e.f1 = m)) = true
 ·exact ⟨L,Ev.bind (iContains n L h (by omega) m) (Ev_t a (Ev.now _))⟩
 by_cases b : (L.length : Int) ≥ 120
 ·exact ⟨L,Ev.bind (iContains n L h (by omega) m) (Ev_f a (Ev_t b (Ev.now _)))⟩
 by_cases c : (x.size : Int) > 120
 ·exact ⟨L,Ev.bind (iContains n L h (by omega) m) (Ev_f a (Ev_f b (Ev_t c (Ev.now _))))⟩
 ·exact ⟨L ++ [(⟨(n : Int),m,x⟩ : Elm)],Ev.bind (iContains n L h (by omega) m) (Ev_f a (Ev_f b (Ev_f c (Ev_t (by omega) (Ev.now _)))))⟩
theorem sPutLoop (n : Nat) (L : List Elm) (h : WF n L) (hl : L.length ≤ 120) (m : List Int) (hm : GV (n : Int) m) (x : ByteArray) (F : Bool) (P0 : Nat → ByteArray → List Elm → Int → Int → Bool → Int → List Int → Option (List Elm × Bool)) (hP : ∀ k x2 y1 x12 x13 y0_1 y2_0 y2_1,P0 (k + 1) x2 y1 x12 x13 y0_1 y2_0 y2_1 = (if x13 < x12 then (if 0 ≤ x13 then (if x13 < (y1.length : Int) then ((spec_l2Same.f k ((rdE y1 x13).f1) y2_1).bind fun t1 => (if t1 = true then (some (y1,y0_1)) else (P0 k x2 y1 x12 (wrap64 (x13 + 1)) y0_1 y2_0 y2_1))) else none) else none) else (if y0_1 = true then (some (y1,true)) else (if (y1.length : Int) ≥ 120 then (some (y1,true)) else (if (decide ((x2.size : Int) > 120)) = true then (some (y1,(decide ((x2.size : Int) > 120)))) else (if y1.length < 2932031007402 then (some ((y1 ++ [(⟨y2_0,y2_1,x2⟩ : Elm)]),(decide ((x2.size : Int) > 120)))) else none)))))) : ∀ (t pre : List Elm),L = pre ++ t →
  Ev (fun k => P0 k x L (L.length : Int) (pre.length : Int) F (n : Int) m) (if t.any (fun e => decide (e.f1 = m)) = true then (L,F) else if F = true ∨ 120 ≤ L.length ∨ 120 < x.size then (L,true) else (L ++ [(⟨(n : Int),m,x⟩ : Elm)],false)):=by
 intro t
 induction t with
 | nil =>
  intro pre hp
  have hpl : pre.length = L.length:=by rw [hp];simp
  refine Ev.step (f:=fun k => if F = true then some (L,true) else if (L.length : Int) ≥ 120 then some (L,true) else if (decide ((x.size : Int) > 120)) = true then some (L,(decide ((x.size : Int) > 120))) else if L.length < 2932031007402 then some (L ++ [(⟨(n : Int),m,x⟩ : Elm)],(decide ((x.size : Int) > 120))) else none) (fun k => ?_) ?_
  ·rw [hP,if_neg (by rw [hpl];exact Int.lt_irrefl _)]
  ·show Ev _ (if F = true ∨ 120 ≤ L.length ∨ 120 < x.size then (L,true) else (L ++ [(⟨(n : Int),m,x⟩ : Elm)],false))
   cases F with
   | true => exact Ev_t rfl ((Ev.now _).is (if_pos (.inl rfl)).symm)
   | false =>
    refine Ev_f (by simp) ?_
    by_cases b : (L.length : Int) ≥ 120
    ·exact Ev_t b ((Ev.now _).is (if_pos (.inr (.inl (by omega)))).symm)
    ·refine Ev_f b ?_
     by_cases c : (x.size : Int) > 120
     ·exact Ev_t (decide_eq_true c) ((Ev.now _).is (by rw [decide_eq_true c,if_pos (.inr (.inr (by omega)))]))
     ·exact Ev_f (by rw [decide_eq_false c];simp) (Ev_t (by omega) ((Ev.now _).is (by rw [decide_eq_false c,if_neg (by simp;omega)])))
 | cons y t ih =>
  intro pre hp
  have hlen : L.length = pre.length + (t.length + 1):=by rw [hp];simp
  have hx : rdE L (pre.length : Int) = y:=by rw [hp,rdE_mid]
  have hy:=h y (by rw [hp];simp)
  have a0 : (pre.length : Int) < (L.length : Int):=by omega
  have e : (((pre ++ [y]).length : Nat) : Int) = wrap64 ((pre.length : Int) + 1):=by rw [w64 (by omega) (by omega)];simp
  have l1:=len_of_GV hy.2.1
  obtain ⟨g1,_,_,_⟩:=(GV_iff n m).1 hm
  have ly:=((GV_iff n y.f1).1 hy.2.1).2.2.1
  have lm:=((GV_iff n m).1 hm).2.2.1
  have sm:=sSame_ev y.f1 m (by rw [ly,lm]) (by omega)
  refine Ev.step (f:=fun k => (spec_l2Same.f k y.f1 m).bind fun t1 => if t1 = true then some (L,F) else P0 k x L (L.length : Int) (wrap64 ((pre.length : Int) + 1)) F (n : Int) m) (fun k => ?_) (Ev.bind sm ?_)
  ·rw [hP,if_pos a0,if_pos (Int.natCast_nonneg _),if_pos a0,hx]
  ·by_cases q : y.f1 = m
   ·rw [if_pos (by simp [q])]
    exact Ev_t (decide_eq_true q) (Ev.now _)
   ·have nx:=ih (pre ++ [y]) (by simp [hp])
    rw [e] at nx
    have e2 : (y :: t).any (fun e => decide (e.f1 = m)) = t.any (fun e => decide (e.f1 = m)):=by simp [q]
    rw [e2]
    exact Ev_f (by rw [decide_eq_false q];simp) nx
theorem sPut (n : Nat) (L : List Elm) (h : WF n L) (hl : L.length ≤ 120) (m : List Int) (hm : GV (n : Int) m) (x : ByteArray) : Ev (fun k => spec_l8Closer_put.f k (n : Int) m x L false) ((putL n L m x).1,!(putL n L m x).2):=by
 unfold spec_l8Closer_put.f
 refine (sPutLoop n L h hl m hm x false spec_l8Closer_put.l0 (fun _ _ _ _ _ _ _ _ => by simp only [spec_l8Closer_put.l0]) L [] rfl).is ?_
 by_cases a : L.any (fun e => decide (e.f1 = m)) = true
 ·rw [putL_any a,if_pos a];rfl
 ·rw [if_neg a]
  by_cases b : 120 ≤ L.length ∨ 120 < x.size
  ·rw [if_pos (.inr b),putL_full a b];rfl
  ·rw [if_neg (by simp;omega),putL_new a b];rfl
theorem sPut_off (n : Nat) (L : List Elm) (h : WF n L) (hl : L.length ≤ 120) (m : List Int) (hm : GV (n : Int) m) (x : ByteArray) : Ev (fun k => spec_l8Closer_put.f k (n : Int) m x L true) (L,true):=by
 unfold spec_l8Closer_put.f
 refine (sPutLoop n L h hl m hm x true spec_l8Closer_put.l0 (fun _ _ _ _ _ _ _ _ => by simp only [spec_l8Closer_put.l0]) L [] rfl).is ?_
 by_cases a : L.any (fun e => decide (e.f1 = m)) = true
 ·rw [if_pos a]
 ·rw [if_neg a,if_pos (.inl rfl)]
theorem sPut_b (n : Nat) (L : List Elm) (h : WF n L) (hl : L.length ≤ 120) (m : List Int) (hm : GV (n : Int) m) (x : ByteArray) : Ev (fun k => spec_l8Closer_put_b.f k (n : Int) m x L false) ((putL n L m x).1,!(putL n L m x).2):=by
 unfold spec_l8Closer_put_b.f
 refine (sPutLoop n L h hl m hm x false spec_l8Closer_put_b.l0 (fun _ _ _ _ _ _ _ _ => by simp only [spec_l8Closer_put_b.l0]) L [] rfl).is ?_
 by_cases a : L.any (fun e => decide (e.f1 = m)) = true
 ·rw [putL_any a,if_pos a];rfl
 ·rw [if_neg a]
  by_cases b : 120 ≤ L.length ∨ 120 < x.size
  ·rw [if_pos (.inr b),putL_full a b];rfl
  ·rw [if_neg (by simp;omega),putL_new a b];rfl
theorem sPut_b_off (n : Nat) (L : List Elm) (h : WF n L) (hl : L.length ≤ 120) (m : List Int) (hm : GV (n : Int) m) (x : ByteArray) : Ev (fun k => spec_l8Closer_put_b.f k (n : Int) m x L true) (L,true):=by
 unfold spec_l8Closer_put_b.f
 refine (sPutLoop n L h hl m hm x true spec_l8Closer_put_b.l0 (fun _ _ _ _ _ _ _ _ => by simp only [spec_l8Closer_put_b.l0]) L [] rfl).is ?_
 by_cases a : L.any (fun e => decide (e.f1 = m)) = true
 ·rw [if_pos a]
 ·rw [if_neg a,if_pos (.inl rfl)]
end Go.Proofs.Ytfgoojnblomonaa.V
end
section
set_option linter.unusedVariables false
set_option linter.unusedSimpArgs false
namespace Go.Proofs.Ytfgoojnblomonaa.V
open Go Go.Proofs.Ytfgoojnblomonaa.R Go.RowKit
open Go.Proofs.YtfgoojnblomonaaW.PrintWords hiding mn mx
theorem wnat {i : Nat} (h : i < 1000000000000) : wrap64 ((i : Int) + 1) = ((i + 1 : Nat) : Int):=by rw [w64 (by omega) (by omega)];rfl
theorem wf_mul {n : Nat} {a b : List Int} (ha : GV (n : Int) a) (hb : GV (n : Int) b) : Ev (fun k => impl_MulGrades.f k (n : Int) a (n : Int) b) ((n : Int),mulL n a b,true) ∧ Ev (fun k => spec_l6Mul.f k (n : Int) a (n : Int) b) ((n : Int),mulL n a b) ∧ GV (n : Int) (mulL n a b) :=
 ⟨iMul n a b ha hb,sMul n (GV_le ha).1 (GV_le ha).2 a b (GV_len ha) (GV_len hb),GV_mul n a b ha hb⟩
theorem sz2 {a b : ByteArray} (ha : a.size ≤ 1000) (hb : b.size ≤ 1000) : a.size + b.size ≤ 9223372036854775807:=by omega
theorem iValLetter (n : Nat) (s f : List Int) (t : List Stp) (hv : AV n s f t = true) (hs : s.length ≤ 1000000000) (hf : f.length ≤ 1000000000) (hl : t.length ≤ 1000000000) (c : UInt8) (hc : c = 97 ∨ c = 98) : Ev (fun k => impl_ValueOf.f k (n : Int) s f t ⟨#[c]⟩) ((n : Int),lgr n t c,true):=by
 have hr : Reads [c] [(⟨⟨#[c]⟩,[]⟩ : Part)] []:=Reads.letter c [] [] [] hc Reads.done
 have hx : L (⟨#[c]⟩ : ByteArray) = [c]:=L_mk [c]
 have z1 : (⟨#[c]⟩ : ByteArray).size = 1:=rfl
 have h1:=parts_reads hr ⟨#[c]⟩ [] hx (by simp only [List.length_nil];omega)
 have hp : Ev (fun k => impl_parts.f k ⟨#[c]⟩) ([(⟨⟨#[c]⟩,[]⟩ : Part)],true):=by
  unfold impl_parts.f
  refine Ev_f (by rw [z1];decide) (Ev.bind (Ev.step (fun k => by simp only [impl_readParts.f]) h1) (Ev_t (by simp) ((Ev.now _).is ?_)))
  simp [L_nil,L_mk]
 have hval : Ev (fun k => impl_value.f k (n : Int) s f t [(⟨⟨#[c]⟩,[]⟩ : Part)]) ((n : Int),lgr n t c,true):=by
  refine Ev.step (f:=fun k => impl_value.l0 k [(⟨⟨#[c]⟩,[]⟩ : Part)] 1 0 (n : Int) s f t 0 []) (fun k => by simp only [impl_value.f];rfl) ?_
  have e2 : Ev (fun k => impl_value.l0 k [(⟨⟨#[c]⟩,[]⟩ : Part)] 1 1 (n : Int) s f t (n : Int) (lgr n t c)) ((n : Int),lgr n t c,true):=by
   refine Ev.step (f:=fun _ => some ((n : Int),lgr n t c,true)) (fun k => ?_) (Ev.now _)
   simp only [impl_value.l0];rw [if_neg (by decide)]
  refine Ev.step (fun k => ?_) (iLetG n s f t hv hs hf hl c hc ((n : Int),lgr n t c,true) (fun k v => impl_value.l0 k [(⟨⟨#[c]⟩,[]⟩ : Part)] 1 1 (n : Int) s f t v.1 v.2.1) e2)
  simp only [impl_value.l0]
  have r0 : rdP [(⟨⟨#[c]⟩,[]⟩ : Part)] 0 = ⟨⟨#[c]⟩,[]⟩:=rfl
  have w1 : wrap64 (0 + 1) = 1:=w64 (by omega) (by omega)
  rw [if_pos (by decide),if_pos (by decide),if_pos (by simp),r0,if_neg (by rw [toList_L,hx];simp),w1]
  simp only [Int.lt_irrefl,gt_iff_lt,if_false]
 unfold impl_ValueOf.f
 exact Ev.bind hp (Ev_t rfl (Ev.bind (iAV n s f t hs hf hl) (Ev_t hv (Ev.bind hval (Ev.now _)))))
def abL : List ByteArray:=[(⟨#[97]⟩ : ByteArray),(⟨#[98]⟩ : ByteArray)]
theorem own_list (n : Nat) (M : List Elm) (hM : WF n M) (hl : M.length ≤ 1000) : Ev (fun k => spec_l13OwnListElement.f k M) M:=by
 have go : ∀ (t pre : List Elm),M = pre ++ t → Ev (fun k => spec_l13OwnListElement.l0 k pre M (M.length : Int) (pre.length : Int)) M:=by
  intro t
  induction t with
  | nil =>
   intro pre hp
   refine Ev.step (f:=fun _ => some pre) (fun k => ?_) ((Ev.now _).is (by rw [hp];simp))
   simp only [spec_l13OwnListElement.l0];rw [if_neg (by rw [hp];simp)]
  | cons y t ih =>
   intro pre hp
   have hlen : M.length = pre.length + (t.length + 1):=by rw [hp];simp
   have hx : rdE M (pre.length : Int) = y:=by rw [hp,rdE_mid]
   have hy:=hM y (by rw [hp];simp)
   have l16:=len_of_GV hy.2.1
   have a0 : (pre.length : Int) < (M.length : Int):=by omega
   have z : ([] : List Int).length + y.f1.length ≤ 17592186044416:=by simp only [List.length_nil];omega
   have b0 : pre.length < 2932031007402:=by omega
   have e : (((pre ++ [y]).length : Nat) : Int) = wrap64 ((pre.length : Int) + 1):=by rw [w64 (by omega) (by omega)];simp
   have nx:=ih (pre ++ [y]) (by simp [hp])
   rw [e] at nx
   refine Ev.step (fun k => ?_) nx
   simp only [spec_l13OwnListElement.l0,spec_l13OwnElement.f,spec_l13OwnMatrix.f]
   rw [if_pos a0,if_pos (Int.natCast_nonneg _),if_pos a0,hx,if_pos z]
   simp only [Option.bind_some,List.nil_append]
   rw [if_pos b0]
 unfold spec_l13OwnListElement.f
 exact go M [] rfl
def DF (L : List Elm) : Prop:=L.Pairwise (fun a b => a.f1 ≠ b.f1)
theorem putL_DF {n : Nat} {L : List Elm} {m : List Int} {x : ByteArray} (h : DF L) : DF (putL n L m x).1:=by
 by_cases a : L.any (fun e => decide (e.f1 = m)) = true
 ·rw [putL_any a];exact h
 ·by_cases b : 120 ≤ L.length ∨ 120 < x.size
  ·rw [putL_full a b];exact h
  ·rw [putL_new a b]
   refine List.pairwise_append.2 ⟨h,List.pairwise_singleton _ _,fun e he y hy => ?_⟩
   rw [List.mem_singleton.1 hy]
   intro c
   exact a (List.any_eq_true.2 ⟨e,he,decide_eq_true c⟩)
set_option linter.unusedSectionVars false
section
variable (n : Nat) (s f : List Int) (t : List Stp) (hv : AV n s f t = true) (hs : s.length ≤ 1000000000) (hf : f.length ≤ 1000000000) (hl : t.length ≤ 1000000000)
def ltW : List Elm:=[(⟨(n : Int),lgr n t 97,⟨#[97]⟩⟩ : Elm),(⟨(n : Int),lgr n t 98,⟨#[98]⟩⟩ : Elm)]
theorem lgr_GV (hv : AV n s f t = true) (c : UInt8) : GV (n : Int) (lgr n t c):=by
 obtain ⟨h1,h2,h3,h4,h5⟩:=AV_parts hv
 exact gr_GV n _ (letL_MV n (by omega) (by omega) t (stp_mem h5) c)
include hv hs hf hl
theorem iW_step (mI : List Int) (tI : ByteArray) (hm : GV (n : Int) mI) (ht : tI.size ≤ 120) (c : UInt8) (hc : c = 97 ∨ c = 98) (i : Nat) (hi : i < 2) (hr : rdS abL (i : Int) = ⟨#[c]⟩) (L : List Elm) (F : Bool) (p : List Elm × Bool)
  (hp : Ev (fun k => impl_found_put.f k (n : Int) (mulL n mI (lgr n t c)) (tI ++ ⟨#[c]⟩) L F) p) (R : List Elm × Bool) (h : Ev (fun k => impl_WordElements_1.l0 k abL 2 ((i + 1 : Nat) : Int) p.1 p.2 (n : Int) s f t (n : Int) mI tI) R) :
  Ev (fun k => impl_WordElements_1.l0 k abL 2 (i : Int) L F (n : Int) s f t (n : Int) mI tI) R:=by
 have val:=iValLetter n s f t hv hs hf hl c hc
 have a0 : (i : Int) < 2:=by omega
 have a1 : (i : Int) < (abL.length : Int):=by show (i : Int) < 2;omega
 have wn : wrap64 ((i : Int) + 1) = ((i + 1 : Nat) : Int):=wnat (by omega)
 have z1 : (⟨#[c]⟩ : ByteArray).size = 1:=rfl
 have z : tI.size + (⟨#[c]⟩ : ByteArray).size ≤ 9223372036854775807:=by rw [z1];clear wn;omega
 refine Ev.step (f:=fun k => (impl_ValueOf.f k (n : Int) s f t ⟨#[c]⟩).bind fun t1 => (impl_MulGrades.f k (n : Int) mI t1.1 t1.2.1).bind fun t2 => if tI.size + (⟨#[c]⟩ : ByteArray).size ≤ 9223372036854775807 then (impl_found_put.f k t2.1 t2.2.1 (tI ++ ⟨#[c]⟩) L F).bind fun t3 => impl_WordElements_1.l0 k abL 2 ((i + 1 : Nat) : Int) t3.1 t3.2 (n : Int) s f t (n : Int) mI tI else none) (fun k => ?_) (Ev.bind val (Ev.bind (wf_mul hm (lgr_GV n s f t hv c)).1 (Ev_t z (Ev.bind hp h))))
 simp only [impl_WordElements_1.l0]
 rw [if_pos a0,if_pos (Int.natCast_nonneg _),if_pos a1,hr,wn]
theorem iW_end (mI : List Int) (tI : ByteArray) (L : List Elm) (F : Bool) : Ev (fun k => impl_WordElements_1.l0 k abL 2 ((1 + 1 : Nat) : Int) L F (n : Int) s f t (n : Int) mI tI) (L,F):=by
 refine Ev.step (f:=fun _ => some (L,F)) (fun k => ?_) (Ev.now _)
 simp only [impl_WordElements_1.l0];rw [if_neg (by decide)]
theorem sW_step (mI : List Int) (tI : ByteArray) (hm : GV (n : Int) mI) (ht : tI.size ≤ 120) (c : UInt8) (at_ : Int) (i : Nat) (hi : i < 2) (hr : rdE (ltW n t) (i : Int) = ⟨(n : Int),lgr n t c,⟨#[c]⟩⟩) (L : List Elm) (F : Bool) (p : List Elm × Bool)
  (hp : Ev (fun k => spec_l8Closer_put_b.f k (n : Int) (mulL n mI (lgr n t c)) (tI ++ ⟨#[c]⟩) L F) p) (R : List Elm × Bool) (h : Ev (fun k => spec_l8Elements.l2 k false (ltW n t) at_ (ltW n t) 2 ((i + 1 : Nat) : Int) p.1 p.2 (n : Int) mI tI) R) :
  Ev (fun k => spec_l8Elements.l2 k false (ltW n t) at_ (ltW n t) 2 (i : Int) L F (n : Int) mI tI) R:=by
 have a0 : (i : Int) < 2:=by omega
 have a1 : (i : Int) < ((ltW n t).length : Int):=by show (i : Int) < 2;omega
 have wn : wrap64 ((i : Int) + 1) = ((i + 1 : Nat) : Int):=wnat (by omega)
 have z1 : (⟨#[c]⟩ : ByteArray).size = 1:=rfl
 have z : tI.size + (⟨#[c]⟩ : ByteArray).size ≤ 9223372036854775807:=by rw [z1];clear wn;omega
 refine Ev.step (f:=fun k => (spec_l6Mul.f k (n : Int) mI (n : Int) (lgr n t c)).bind fun t7 => if tI.size + (⟨#[c]⟩ : ByteArray).size ≤ 9223372036854775807 then (spec_l8Closer_put_b.f k t7.1 t7.2 (tI ++ ⟨#[c]⟩) L F).bind fun t8 => spec_l8Elements.l2 k false (ltW n t) at_ (ltW n t) 2 ((i + 1 : Nat) : Int) t8.1 t8.2 (n : Int) mI tI else none) (fun k => ?_) (Ev.bind (wf_mul hm (lgr_GV n s f t hv c)).2.1 (Ev_t z (Ev.bind hp h)))
 simp only [spec_l8Elements.l2]
 rw [if_pos a0,if_pos (Int.natCast_nonneg _),if_pos a1,hr,wn]
 simp only [Bool.false_eq_true,if_false]
theorem sW_end (mI : List Int) (tI : ByteArray) (at_ : Int) (L : List Elm) (F : Bool) (R : List Elm × Bool) (h : Ev (fun k => spec_l8Elements.l1 k false (ltW n t) (wrap64 (at_ + 1)) L F) R) : Ev (fun k => spec_l8Elements.l2 k false (ltW n t) at_ (ltW n t) 2 ((1 + 1 : Nat) : Int) L F (n : Int) mI tI) R:=by
 refine Ev.step (fun k => ?_) h
 simp only [spec_l8Elements.l2];rw [if_neg (by decide)]
theorem iPutW (L : List Elm) (h : WF n L) (hl : L.length ≤ 120) (m : List Int) (x : ByteArray) : Ev (fun k => impl_found_put.f k (n : Int) m x L true) (putL n L m x):=iPut n L h hl m x
theorem one_bothW (L : List Elm) (hL : WF n L) (hD : DF L) (hl0 : L.length ≤ 120) (i : Nat) (hi : i < L.length) :
  ∃ P : List Elm × Bool,WF n P.1 ∧ DF P.1 ∧ P.1.length ≤ 120 ∧ (P.2 = true → Ev (fun k => impl_WordElements_1.f k (i : Int) L true (n : Int) s f t) (P.1,true)) ∧ (P.2 = false → ∃ L',Ev (fun k => impl_WordElements_1.f k (i : Int) L true (n : Int) s f t) (L',false)) ∧
   ∀ R,Ev (fun k => spec_l8Elements.l1 k false (ltW n t) (wrap64 ((i : Int) + 1)) P.1 (!P.2)) R → Ev (fun k => spec_l8Elements.l1 k false (ltW n t) (i : Int) L false) R:=by
 obtain ⟨e0,e1,e2⟩:=hL (rdE L (i : Int)) (rdE_mem hi)
 have a0 : (i : Int) < (L.length : Int):=by omega
 have gA:=GV_mul n _ _ e1 (lgr_GV n s f t hv 97)
 have gB:=GV_mul n _ _ e1 (lgr_GV n s f t hv 98)
 have imS : ∀ R,Ev (fun k => impl_WordElements_1.l0 k abL 2 ((0 : Nat) : Int) L true (n : Int) s f t (n : Int) (rdE L (i : Int)).f1 (rdE L (i : Int)).f2) R → Ev (fun k => impl_WordElements_1.f k (i : Int) L true (n : Int) s f t) R:=fun R h => by
  unfold impl_WordElements_1.f
  refine Ev_t (Int.natCast_nonneg _) (Ev_t a0 ?_)
  rw [e0];exact h
 have spS : ∀ R,Ev (fun k => spec_l8Elements.l2 k false (ltW n t) (i : Int) (ltW n t) 2 ((0 : Nat) : Int) L false (n : Int) (rdE L (i : Int)).f1 (rdE L (i : Int)).f2) R → Ev (fun k => spec_l8Elements.l1 k false (ltW n t) (i : Int) L false) R:=fun R h => by
  refine Ev.step (fun k => ?_) h
  simp only [spec_l8Elements.l1]
  rw [if_pos a0,if_neg (by simp),if_pos (Int.natCast_nonneg _),if_neg (by simp),e0]
  rfl
 obtain ⟨w1,w2,ex1,w3⟩:=putL_good (x:=(rdE L (i : Int)).f2 ++ ⟨#[97]⟩) hL hl0 gA
 have d1:=putL_DF (n:=n) (m:=mulL n (rdE L (i : Int)).f1 (lgr n t 97)) (x:=(rdE L (i : Int)).f2 ++ ⟨#[97]⟩) hD
 have ip1:=iPutW n s f t hv hs hf hl L hL hl0 (mulL n (rdE L (i : Int)).f1 (lgr n t 97)) ((rdE L (i : Int)).f2 ++ ⟨#[97]⟩)
 have sp1:=sPut_b n L hL hl0 _ gA ((rdE L (i : Int)).f2 ++ ⟨#[97]⟩)
 obtain ⟨p1,hp1⟩ : ∃ p,putL n L (mulL n (rdE L (i : Int)).f1 (lgr n t 97)) ((rdE L (i : Int)).f2 ++ ⟨#[97]⟩) = p:=⟨_,rfl⟩
 rw [hp1] at w1 w2 w3 ip1 sp1 d1
 obtain ⟨L1,b1⟩:=p1
 have w1 : WF n L1:=w1
 have w2 : L1.length ≤ 120:=w2
 have d1 : DF L1:=d1
 have iA:=iW_step n s f t hv hs hf hl _ _ e1 e2 97 (.inl rfl) 0 (by omega) rfl L true _ ip1
 have sA:=sW_step n s f t hv hs hf hl _ _ e1 e2 97 (i : Int) 0 (by omega) rfl L false _ sp1
 cases b1 with
 | false =>
  obtain ⟨L',hL'⟩:=iPut_off n L1 w1 w2 (mulL n (rdE L (i : Int)).f1 (lgr n t 98)) ((rdE L (i : Int)).f2 ++ ⟨#[98]⟩)
  refine ⟨(L1,false),w1,d1,w2,(fun h => by cases h),fun _ => ⟨L',?_⟩,fun R h => ?_⟩
  ·exact imS _ (iA _ (iW_step n s f t hv hs hf hl _ _ e1 e2 98 (.inr rfl) 1 (by omega) rfl L1 false _ hL' _ (iW_end n s f t hv hs hf hl _ _ L' false)))
  ·exact spS _ (sA _ (sW_step n s f t hv hs hf hl _ _ e1 e2 98 (i : Int) 1 (by omega) rfl L1 true _ (sPut_b_off n L1 w1 w2 _ gB _) _ (sW_end n s f t hv hs hf hl _ _ _ _ _ R h)))
 | true =>
  obtain ⟨v1,v2,ex2,v3⟩:=putL_good (x:=(rdE L (i : Int)).f2 ++ ⟨#[98]⟩) w1 w2 gB
  have d2:=putL_DF (n:=n) (m:=mulL n (rdE L (i : Int)).f1 (lgr n t 98)) (x:=(rdE L (i : Int)).f2 ++ ⟨#[98]⟩) d1
  have ip2:=iPutW n s f t hv hs hf hl L1 w1 w2 (mulL n (rdE L (i : Int)).f1 (lgr n t 98)) ((rdE L (i : Int)).f2 ++ ⟨#[98]⟩)
  have sp2:=sPut_b n L1 w1 w2 _ gB ((rdE L (i : Int)).f2 ++ ⟨#[98]⟩)
  obtain ⟨p2,hp2⟩ : ∃ p,putL n L1 (mulL n (rdE L (i : Int)).f1 (lgr n t 98)) ((rdE L (i : Int)).f2 ++ ⟨#[98]⟩) = p:=⟨_,rfl⟩
  rw [hp2] at v1 v2 v3 ip2 sp2 d2
  obtain ⟨L2,b2⟩:=p2
  have im:=imS _ (iA _ (iW_step n s f t hv hs hf hl _ _ e1 e2 98 (.inr rfl) 1 (by omega) rfl L1 true _ ip2 _ (iW_end n s f t hv hs hf hl _ _ L2 b2)))
  refine ⟨(L2,b2),v1,d2,v2,(fun h => by have h : b2 = true:=h;subst h;exact im),(fun h => by have h : b2 = false:=h;subst h;exact ⟨L2,im⟩),fun R h => ?_⟩
  exact spS _ (sA _ (sW_step n s f t hv hs hf hl _ _ e1 e2 98 (i : Int) 1 (by omega) rfl L1 false _ sp2 _ (sW_end n s f t hv hs hf hl _ _ _ _ _ R h)))
theorem iSearchOffW (x : Int) (L : List Elm) : Ev (fun k => impl_search.l1 k x (n : Int) s f t L false) ([],false):=by
 refine Ev.step (f:=fun _ => some ([],false)) (fun k => ?_) (Ev.now _)
 simp only [impl_search.l1]
 by_cases a : x < (L.length : Int)
 ·rw [if_pos a,if_neg (by simp)]
 ·rw [if_neg a,if_neg (by simp)]
theorem sElemOffW (x : Int) (L : List Elm) : Ev (fun k => spec_l8Elements.l1 k false (ltW n t) x L true) (L,false):=by
 refine Ev.step (f:=fun _ => some (L,false)) (fun k => ?_) (Ev.now _)
 simp only [spec_l8Elements.l1]
 by_cases a : x < (L.length : Int)
 ·rw [if_pos a,if_pos trivial];simp
 ·rw [if_neg a];simp
theorem outer_bothW : ∀ (d i : Nat) (L : List Elm),i + d = 121 → WF n L → DF L → L.length ≤ 120 →
  ∃ r : List Elm × Bool,WF n r.1 ∧ DF r.1 ∧ r.1.length ≤ 120 ∧ (r.2 = false → r.1 = []) ∧ Ev (fun k => impl_search.l1 k (i : Int) (n : Int) s f t L true) r ∧ ∃ q,Ev (fun k => spec_l8Elements.l1 k false (ltW n t) (i : Int) L false) (q,r.2) ∧ (r.2 = true → q = r.1):=by
 intro d
 induction d with
 | zero =>
  intro i L hi hL hD hl
  refine ⟨(L,true),hL,hD,hl,(fun h => by cases h),?_,L,?_,fun _ => rfl⟩
  ·refine Ev.step (f:=fun _ => some (L,true)) (fun k => ?_) (Ev.now _)
   simp only [impl_search.l1];rw [if_neg (by omega),if_pos trivial]
  ·refine Ev.step (f:=fun _ => some (L,true)) (fun k => ?_) (Ev.now _)
   simp only [spec_l8Elements.l1];rw [if_neg (by omega)];simp
 | succ d ih =>
  intro i L hi hL hD hl0
  by_cases a : i < L.length
  ·obtain ⟨P,q1,q1d,q2,q3,q4,q5⟩:=one_bothW n s f t hv hs hf hl L hL hD hl0 i a
   have a0 : (i : Int) < (L.length : Int):=by omega
   have imS : ∀ (u : List Elm × Bool) (R : List Elm × Bool),Ev (fun k => impl_WordElements_1.f k (i : Int) L true (n : Int) s f t) u → Ev (fun k => impl_search.l1 k (wrap64 ((i : Int) + 1)) (n : Int) s f t u.1 u.2) R → Ev (fun k => impl_search.l1 k (i : Int) (n : Int) s f t L true) R:=fun u R h1 h2 => by
    refine Ev.step (f:=fun k => (impl_WordElements_1.f k (i : Int) L true (n : Int) s f t).bind fun t4 => impl_search.l1 k (wrap64 ((i : Int) + 1)) (n : Int) s f t t4.1 t4.2) (fun k => ?_) (Ev.bind h1 h2)
    simp only [impl_search.l1];rw [if_pos a0,if_pos trivial]
   obtain ⟨P1,P2⟩:=P
   cases P2 with
   | false =>
    obtain ⟨L',h'⟩:=q4 rfl
    refine ⟨([],false),(fun e he => by cases he),List.Pairwise.nil,by simp,fun _ => rfl,imS _ _ h' (iSearchOffW n s f t hv hs hf hl _ _),P1,q5 _ (sElemOffW n s f t hv hs hf hl _ _),fun h => by cases h⟩
   | true =>
    obtain ⟨r,r1,r1d,r2,r0,r3,q,s1,s2⟩:=ih (i + 1) P1 (by omega) q1 q1d q2
    have wn : wrap64 ((i : Int) + 1) = ((i + 1 : Nat) : Int):=wnat (by clear q3 q4 q5;omega)
    rw [← wn] at r3 s1
    exact ⟨r,r1,r1d,r2,r0,imS _ _ (q3 rfl) r3,q,q5 _ s1,s2⟩
  ·refine ⟨(L,true),hL,hD,hl0,(fun h => by cases h),?_,L,?_,fun _ => rfl⟩
   ·refine Ev.step (f:=fun _ => some (L,true)) (fun k => ?_) (Ev.now _)
    simp only [impl_search.l1];rw [if_neg (by omega),if_pos trivial]
   ·refine Ev.step (f:=fun _ => some (L,true)) (fun k => ?_) (Ev.now _)
    simp only [spec_l8Elements.l1];rw [if_neg (by omega)];simp
theorem letters_bothW (c : UInt8) (hc : c = 97 ∨ c = 98) (i : Nat) (hi : i < 2) (hr : rdS abL (i : Int) = ⟨#[c]⟩) (M : List Elm) (hM : WF n M) (hD : DF M) (hMl : M.length ≤ 10) (lt : List Elm) (hlt : lt.length ≤ 10) :
  ∃ M' e,M' = M ++ e ∧ e.length ≤ 1 ∧ WF n M' ∧ DF M' ∧ (∀ R,Ev (fun k => impl_search.l0 k abL 2 ((i + 1 : Nat) : Int) (n : Int) s f t (n : Int) s f t M' true) R → Ev (fun k => impl_search.l0 k abL 2 (i : Int) (n : Int) s f t (n : Int) s f t M true) R) ∧
   (∀ R,Ev (fun k => spec_l8Elements.l0 k false (lt ++ [(⟨(n : Int),lgr n t c,⟨#[c]⟩⟩ : Elm)]) abL 2 ((i + 1 : Nat) : Int) (n : Int) s f t M' false) R → Ev (fun k => spec_l8Elements.l0 k false lt abL 2 (i : Int) (n : Int) s f t M false) R):=by
 obtain ⟨h1,h2,h3,h4,h5⟩:=AV_parts hv
 have hm:=letL_MV n (by omega) (by omega) t (stp_mem h5) c
 have hg : GV (n : Int) (lgr n t c):=gr_GV n _ hm
 have z1 : (⟨#[c]⟩ : ByteArray).size = 1:=rfl
 obtain ⟨w1,w2,e,w3⟩:=putL_good (x:=(⟨#[c]⟩ : ByteArray)) hM (by omega) hg
 have hb : (putL n M (lgr n t c) ⟨#[c]⟩).2 = true:=by
  unfold putL
  by_cases a : M.any (fun e => decide (e.f1 = lgr n t c)) = true
  ·rw [if_pos a]
  ·rw [if_neg a,if_neg (by omega)]
 have hel : e.length ≤ 1:=by
  have : (putL n M (lgr n t c) ⟨#[c]⟩).1.length ≤ M.length + 1:=by
   unfold putL
   by_cases a : M.any (fun e => decide (e.f1 = lgr n t c)) = true
   ·rw [if_pos a];simp
   ·rw [if_neg a,if_neg (by omega)];simp
  rw [w3,List.length_append] at this;omega
 have ip:=iPut n M hM (by omega) (lgr n t c) ⟨#[c]⟩
 have sp:=sPut n M hM (by omega) (lgr n t c) hg ⟨#[c]⟩
 have val:=iValLetter n s f t hv hs hf hl c hc
 have a0 : (i : Int) < 2:=by omega
 have a1 : (i : Int) < (abL.length : Int):=by show (i : Int) < 2;omega
 have b0 : lt.length < 2932031007402:=by omega
 have wn : wrap64 ((i : Int) + 1) = ((i + 1 : Nat) : Int):=wnat (by omega)
 refine ⟨_,e,w3,hel,w1,putL_DF hD,fun R h => ?_,fun R h => ?_⟩
 ·refine Ev.step (f:=fun k => (impl_ValueOf.f k (n : Int) s f t ⟨#[c]⟩).bind fun t2 => (impl_found_put.f k t2.1 t2.2.1 ⟨#[c]⟩ M true).bind fun t3 => impl_search.l0 k abL 2 ((i + 1 : Nat) : Int) (n : Int) s f t (n : Int) s f t t3.1 t3.2) (fun k => ?_) (Ev.bind val (Ev.bind ip (by rw [hb];exact h)))
  simp only [impl_search.l0]
  rw [if_pos a0,if_pos (Int.natCast_nonneg _),if_pos a1,hr,wn]
 ·have sl:=sLetG n s f t hv hl c
  have e1 : (⟨#[c]⟩ : ByteArray).toList = [c]:=B_toL [c]
  have a:=sLetter n (by omega) (by omega) s f ⟨#[c]⟩ t (stp_mem h5) hl
  rw [e1] at a
  have hz:=MV_len hm
  have hq:=sq_le n (by omega)
  have gl:=sGradesL (n : Int) (letL n t c) (by clear wn;omega)
  rw [hb] at sp
  refine Ev.step (f:=fun k => (spec_l3Matrix.f k (n : Int) s f t ⟨#[c]⟩).bind fun t1 => (spec_l6Grades.f k t1.1 t1.2).bind fun t2 => if lt.length < 2932031007402 then (spec_l8Closer_put.f k t2.1 t2.2 ⟨#[c]⟩ M false).bind fun t3 => spec_l8Elements.l0 k false (lt ++ [(⟨t2.1,t2.2,⟨#[c]⟩⟩ : Elm)]) abL 2 ((i + 1 : Nat) : Int) (n : Int) s f t t3.1 t3.2 else none) (fun k => ?_) (Ev.bind a (Ev.bind gl (Ev_t b0 (Ev.bind sp h))))
  simp only [spec_l8Elements.l0]
  rw [if_pos a0,if_pos (Int.natCast_nonneg _),if_pos a1,hr,wn]
theorem elements_bothW : ∃ r : List Elm × Bool,WF n r.1 ∧ DF r.1 ∧ r.1.length ≤ 120 ∧ (r.2 = false → r.1 = []) ∧ Ev (fun k => impl_search.f k (n : Int) s f t (n : Int) s f t) r ∧ ∃ q,Ev (fun k => spec_l8Elements.f k (n : Int) s f t false) (q,r.2) ∧ (r.2 = true → q = r.1):=by
 obtain ⟨M1,e1,m1,l1,w1,d1,i1,s1⟩:=letters_bothW n s f t hv hs hf hl 97 (.inl rfl) 0 (by omega) rfl [] (fun e he => by cases he) List.Pairwise.nil (by simp) [] (by simp)
 have hM1 : M1.length ≤ 1:=by rw [m1,List.nil_append];exact l1
 obtain ⟨M2,e2,m2,l2,w2,d2,i2,s2⟩:=letters_bothW n s f t hv hs hf hl 98 (.inr rfl) 1 (by omega) rfl M1 w1 d1 (by omega) ([] ++ [(⟨(n : Int),lgr n t 97,⟨#[97]⟩⟩ : Elm)]) (by simp)
 have hM2 : M2.length ≤ 2:=by rw [m2,List.length_append];omega
 obtain ⟨r,r1,r1d,r2,r0,r3,q,q1,q2⟩:=outer_bothW n s f t hv hs hf hl 121 0 M2 (by omega) w2 d2 (by omega)
 refine ⟨r,r1,r1d,r2,r0,?_,q,?_,q2⟩
 ·unfold impl_search.f
  refine Ev.bind (iAV n s f t hs hf hl) (Ev_t hv ?_)
  refine i1 _ (i2 _ (Ev.step (fun k => ?_) r3))
  simp only [impl_search.l0];rw [if_neg (by decide)];rfl
 ·unfold spec_l8Elements.f
  refine s1 _ (s2 _ (Ev.step (fun k => ?_) q1))
  simp only [spec_l8Elements.l0];rw [if_neg (by decide)];rfl
end
theorem wordElements_both (n : Int) (s f : List Int) (t : List Stp) (hs : s.length ≤ 1000000000) (hf : f.length ≤ 1000000000) (hl : t.length ≤ 1000000000) :
  ∃ (m : Nat) (r : List Elm × Bool),WF m r.1 ∧ DF r.1 ∧ r.1.length ≤ 120 ∧ Ev (fun k => impl_WordElements.f k n s f t) r ∧ Ev (fun k => spec_WordElements.f k n s f t) r:=by
 by_cases hv : AV n s f t = true
 ·obtain ⟨h1,h2,h3,h4,h5⟩:=AV_parts hv
  obtain ⟨m,rfl⟩ : ∃ m : Nat,n = (m : Int):=⟨n.toNat,by omega⟩
  obtain ⟨⟨r1,r2⟩,w,wd,l,z,i,q,q1,q2⟩:=elements_bothW m s f t hv hs hf hl
  refine ⟨m,(r1,r2),w,wd,l,?_,?_⟩
  ·unfold impl_WordElements.f
   exact Ev.bind i (Ev.now _)
  ·unfold spec_WordElements.f
   have raw : Ev (fun k => spec_l8RawWordElements.f k (m : Int) s f t) (r1,r2):=by
    unfold spec_l8RawWordElements.f
    refine Ev.bind (sAV m s f t hs hf hl) (Ev_t hv (Ev.bind q1 ?_))
    cases r2 with
    | true => exact Ev_t rfl ((Ev.now _).is (by have e : q = r1:=q2 rfl;rw [e]))
    | false => exact Ev_f (by simp) ((Ev.now _).is (by have e : r1 = []:=z rfl;rw [e]))
   exact Ev.bind raw (Ev.bind (own_list m r1 w (by have l : r1.length ≤ 120:=l;omega)) (Ev.now _))
 ·refine ⟨0,([],false),(fun e he => by cases he),List.Pairwise.nil,by simp,?_,?_⟩
  ·unfold impl_WordElements.f impl_search.f
   exact Ev.bind (Ev.bind (iAV n s f t hs hf hl) (Ev_f hv (Ev.now _))) (Ev.now _)
  ·unfold spec_WordElements.f spec_l8RawWordElements.f
   exact Ev.bind (Ev.bind (sAV n s f t hs hf hl) (Ev_f hv (Ev.now _))) (Ev.bind (own_list 0 [] (fun e he => by cases he) (by simp)) (Ev.now _))
end Go.Proofs.Ytfgoojnblomonaa.V
end
section
set_option linter.unusedVariables false
set_option linter.unusedSimpArgs false
namespace Go.Proofs.Ytfgoojnblomonaa.V
open Go Go.Proofs.Ytfgoojnblomonaa.R Go.RowKit
open Go.Proofs.YtfgoojnblomonaaW.PrintWords hiding mn mx
theorem eqElementS_ev (n : Nat) (M : List Elm) (hM : WF n M) (hl : M.length ≤ 1000) : Ev (fun k => laws_eqElementS.f k M M) true:=by
 have go : ∀ (t pre : List Elm),M = pre ++ t → Ev (fun k => laws_eqElementS.l0 k M M (pre.length : Int)) true:=by
  intro t
  induction t with
  | nil =>
   intro pre hp
   refine Ev.step (f:=fun _ => some true) (fun k => ?_) (Ev.now _)
   simp only [laws_eqElementS.l0];rw [if_neg (by rw [hp];simp)]
  | cons y t ih =>
   intro pre hp
   have hlen : M.length = pre.length + (t.length + 1):=by rw [hp];simp
   have hx : rdE M (pre.length : Int) = y:=by rw [hp,rdE_mid]
   have hy:=hM y (by rw [hp];simp)
   have l16:=len_of_GV hy.2.1
   have a0 : (pre.length : Int) < (M.length : Int):=by omega
   have e : (((pre ++ [y]).length : Nat) : Int) = wrap64 ((pre.length : Int) + 1):=by rw [w64 (by omega) (by omega)];simp
   have nx:=ih (pre ++ [y]) (by simp [hp])
   rw [e] at nx
   refine Ev.step (f:=fun k => (laws_eqElement.f k y.f0 y.f1 y.f2 y.f0 y.f1 y.f2).bind fun t1 => if t1 = true then laws_eqElementS.l0 k M M (wrap64 ((pre.length : Int) + 1)) else some false) (fun k => ?_) (Ev.bind (r:=true) ?_ (Ev_t rfl nx))
   ·simp only [laws_eqElementS.l0]
    rw [if_pos a0,if_pos (Int.natCast_nonneg _),hx]
    first|done|rw [if_pos a0]
   ·unfold laws_eqElement.f
    exact Ev.bind (eqMatrix_ev y.f0 y.f1 (by omega)) (Ev_t rfl (Ev_t rfl (Ev.now _)))
 unfold laws_eqElementS.f
 exact Ev_t rfl (go M [] rfl)
theorem markHeldE (n : Nat) : ∀ (t pre : List Elm) (c : Int),WF n t → pre.length + t.length ≤ 120 → 1 ≤ c → c + 18 * t.length ≤ 3000 →
  ∃ (t' : List Elm) (q : Int),t'.length = t.length ∧ Ev (fun k => laws_markElementS.l0 k (pre ++ t) c (pre.length : Int)) (q,pre ++ t') ∧ (∀ pre2 : List Elm,pre2.length = pre.length → Ev (fun k => laws_heldElementS.l0 k (pre2 ++ t') c (pre2.length : Int)) q) ∧ 0 ≤ q:=by
 intro t
 induction t with
 | nil =>
  intro pre c _ hl h1 h2
  refine ⟨[],c,rfl,?_,fun pre2 hp => ?_,by omega⟩
  ·refine Ev.step (f:=fun _ => some (c,pre ++ [])) (fun k => ?_) (Ev.now _)
   simp only [laws_markElementS.l0];rw [if_neg (by simp)]
  ·refine Ev.step (f:=fun _ => some c) (fun k => ?_) (Ev.now _)
   simp only [laws_heldElementS.l0];rw [if_neg (by simp)]
 | cons y t ih =>
  intro pre c hw hl h1 h2
  have hy:=hw y (List.mem_cons_self ..)
  have l16:=len_of_GV hy.2.1
  have hl : pre.length + (t.length + 1) ≤ 120:=hl
  have h2 : c + 18 * ((t.length + 1 : Nat) : Int) ≤ 3000:=h2
  have w1 : wrap64 (c + 1) = c + 1:=w64 (by omega) (by omega)
  have hm:=markIntS_ev y.f1 (c + 1) (by omega) (by omega) (by omega)
  obtain ⟨x,hx⟩:=markText_ev (c + 1 + y.f1.length) (by omega) (by omega)
  have w2 : wrap64 (c + 1 + y.f1.length + 1) = c + 1 + y.f1.length + 1:=w64 (by omega) (by omega)
  have w3 : wrap64 ((pre.length : Int) + 1) = ((pre ++ [(⟨c,count (c + 1) y.f1.length,x⟩ : Elm)]).length : Int):=by rw [w64 (by omega) (by omega)];simp
  obtain ⟨t',q,g1,g2,g3,g4⟩:=ih (pre ++ [(⟨c,count (c + 1) y.f1.length,x⟩ : Elm)]) (c + 1 + y.f1.length + 1) (fun e he => hw e (List.mem_cons_of_mem _ he)) (by simp only [List.length_append,List.length_cons,List.length_nil];omega) (by omega) (by omega)
  have a0 : (pre.length : Int) < ((pre ++ y :: t).length : Int):=by simp only [List.length_append,List.length_cons];omega
  refine ⟨(⟨c,count (c + 1) y.f1.length,x⟩ : Elm) :: t',q,by simp [g1],?_,fun pre2 hp => ?_,g4⟩
  ·have es : (pre ++ y :: t).set pre.length (⟨c,count (c + 1) y.f1.length,x⟩ : Elm) = pre ++ [(⟨c,count (c + 1) y.f1.length,x⟩ : Elm)] ++ t:=by
    rw [List.set_append,if_neg (by omega)];simp
   refine Ev.step (f:=fun k => (laws_markIntS.f k y.f1 (c + 1)).bind fun u => (laws_markText.f k u.1).bind fun s => laws_markElementS.l0 k ((pre ++ y :: t).set pre.length ⟨c,u.2,s⟩) (wrap64 (u.1 + 1)) ((pre ++ [(⟨c,count (c + 1) y.f1.length,x⟩ : Elm)]).length : Int)) (fun k => ?_) (Ev.bind hm (Ev.bind hx ?_))
   ·simp only [laws_markElementS.l0]
    rw [if_pos a0,if_pos (Int.natCast_nonneg _),rdE_mid,w1,w3,Int.toNat_natCast]
   ·show Ev (fun k => laws_markElementS.l0 k ((pre ++ y :: t).set pre.length ⟨c,count (c + 1) y.f1.length,x⟩) (wrap64 (c + 1 + y.f1.length + 1)) _) _
    rw [es,w2]
    exact g2.is (by simp)
  ·have a1 : (pre2.length : Int) < ((pre2 ++ (⟨c,count (c + 1) y.f1.length,x⟩ : Elm) :: t').length : Int):=by simp only [List.length_append,List.length_cons];omega
   have w4 : wrap64 ((pre2.length : Int) + 1) = ((pre2 ++ [(⟨c,count (c + 1) y.f1.length,x⟩ : Elm)]).length : Int):=by rw [w64 (by omega) (by omega)];simp
   have nx:=g3 (pre2 ++ [(⟨c,count (c + 1) y.f1.length,x⟩ : Elm)]) (by simp [hp])
   rw [List.append_assoc,List.singleton_append] at nx
   have hh:=heldIntS_ev y.f1.length (c + 1) (by omega) (by omega) (by omega)
   refine Ev.step (f:=fun k => (laws_heldIntS.f k (count (c + 1) y.f1.length) (c + 1)).bind fun t1 => if t1 < 0 then some (-1) else (laws_markText.f k t1).bind fun t2 => if x.toList = t2.toList then laws_heldElementS.l0 k (pre2 ++ (⟨c,count (c + 1) y.f1.length,x⟩ : Elm) :: t') (wrap64 (t1 + 1)) ((pre2 ++ [(⟨c,count (c + 1) y.f1.length,x⟩ : Elm)]).length : Int) else some (-1)) (fun k => ?_) (Ev.bind hh (Ev_f (by omega) (Ev.bind hx (Ev_t rfl ?_))))
   ·simp only [laws_heldElementS.l0]
    rw [if_pos a1,if_pos (Int.natCast_nonneg _),rdE_mid,if_pos rfl,w1,w4]
   ·rw [w2];exact nx
theorem PureFnExactWordElements (n : Int) (s f : List Int) (t : List Stp) (hn : (Lit.int .i64 n).wf = true) (hs : s.length ≤ maxLen) (hs2 : ∀ x ∈ s,(Lit.int .i64 x).wf = true) (hf : f.length ≤ maxLen) (hf2 : ∀ x ∈ f,(Lit.int .i64 x).wf = true) (ht : t.length ≤ maxLen) (ht2 : ∀ x ∈ t,(Lit.int .i64 x.f0).wf = true ∧ x.f1.size ≤ maxLen ∧ (Lit.int .i64 x.f2).wf = true ∧ (Lit.int .i64 x.f3).wf = true) : PureWE n s f t:=by
 obtain ⟨z,⟨K0,hz⟩,hc⟩:=szAutomaton_ev n s f t hs hf ht (fun x hx => (ht2 x hx).2.1) 1048576 (by omega) (by omega)
 by_cases h1 : z < 0
 ·exact ⟨K0,z,hz K0 (Nat.le_refl _),.inl h1⟩
 have hc:=hc.resolve_left h1
 have hcv : t.map cvS = t:=by
  have : cvS = id:=by funext x;rfl
  rw [this,List.map_id]
 have a1:=toAutomaton_ev n s f t hc.2.2.1 hc.2.2.2.1 hc.2.2.2.2
 rw [hcv] at a1
 obtain ⟨m,⟨ws,ok⟩,w,wd,l,b1,b2⟩:=wordElements_both n s f t (by omega) (by omega) (by omega)
 have w : WF m ws:=w
 have wd : DF ws:=wd
 have l : ws.length ≤ 120:=l
 have c1:=eqElementS_ev m ws w (by omega)
 have c2:=eqAutomaton_ev n s f t (by omega) (by omega) (by omega)
 obtain ⟨z2,s',f',t',hmk,hz0,hz1⟩:=markAutomaton_ev n s f t hc.2.2.1 hc.2.2.2.1 hc.2.2.2.2
 obtain ⟨ms,q,g1,g2,g3,g4⟩:=markHeldE m ws [] 1 w (by simpa using l) (by omega) (by omega)
 have g3:=g3 [] rfl
 obtain ⟨K1,k1⟩:=a1
 obtain ⟨K2,k2⟩:=b1
 obtain ⟨K3,k3⟩:=b2
 obtain ⟨K4,k4⟩:=c1
 obtain ⟨K5,k5⟩:=c2
 obtain ⟨K6,k6⟩:=hmk
 obtain ⟨K7,k7⟩:=g2
 obtain ⟨K8,k8⟩:=g3
 obtain ⟨K,hK⟩ : ∃ K,K = K0 + K1 + K2 + K3 + K4 + K5 + K6 + K7 + K8:=⟨_,rfl⟩
 refine ⟨K,z,hz K (by omega),.inr ⟨ws,ok,(z2,s',f',t'),(q,ms),?_⟩⟩
 exact {
  toA:=k1 K (by omega)
  spec:=k3 K (by omega)
  impl:=k2 K (by omega)
  eqE:=k4 K (by omega)
  eqA:=k5 K (by omega)
  markA:=k6 K (by omega)
  markA0:=by show ¬ z2 < 0;omega
  mark:=k7 K (by omega)
  held:=k8 K (by omega)
  held0:=by show ¬ q < 0;omega
  len:=fun i j x y hx hy => by
   have:=GV_len (w x (List.mem_of_getElem? hx)).2.1
   have:=GV_len (w y (List.mem_of_getElem? hy)).2.1
   omega
  ne:=fun i j x y hx hy e => by
   have P:=List.pairwise_iff_getElem.1 wd
   obtain ⟨h1,e1⟩:=List.getElem?_eq_some_iff.1 hx
   obtain ⟨h2,e2⟩:=List.getElem?_eq_some_iff.1 hy
   rcases Nat.lt_trichotomy i j with c|c|c
   ·exact absurd (by rw [e1,e2];exact e) (P i j h1 h2 c)
   ·exact c
   ·exact absurd (by rw [e1,e2];exact e.symm) (P j i h2 h1 c) }
end Go.Proofs.Ytfgoojnblomonaa.V
end
