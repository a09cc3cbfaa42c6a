import Derived.Test.YtfgoojnblomonaaGreatQFnGrowth7
import Derived.Test.YtfgoojnblomonaaGreatQFnGrowth6
import Derived.Lib.Bytealg
import Derived.Lib.Repeat
import Derived.Test.YtfgoojnblomonaaGreatQFnGrowth4
import Derived.Test.YtfgoojnblomonaaGreatQFnGrowth3
section
set_option linter.unusedVariables false
set_option linter.unusedSimpArgs false
namespace Go.Proofs.YtfgoojnblomonaaGreat.V
open Go Go.Proofs.YtfgoojnblomonaaGreat.R Go.RowKit
open Go.Proofs.YtfgoojnblomonaaGreatW.PrintWords hiding mn mx
def szD : Nat → Nat
 | 0 => 3
 | d + 1 => 3 * (szD d + 3)
def stD : Nat → Nat
 | 0 => 4
 | d + 1 => 1 + 3 * (stD d + 1)
theorem szD_pos : ∀ d,1 ≤ szD d
 | 0 => by decide
 | d + 1 => by unfold szD;omega
theorem stD_pos : ∀ d,1 ≤ stD d
 | 0 => by decide
 | d + 1 => by unfold stD;omega
theorem wr_up (i : Nat) (h : i ≤ 4000000000) : wrap64 ((i : Int) + 1) = ((i + 1 : Nat) : Int):=by rw [w64 (x:=(i : Int) + 1) (by omega) (by omega)];omega
theorem wr_one (v : Nat) (h : v ≤ 4000000000) : wrap64 (1 + (v : Int)) = ((v + 1 : Nat) : Int):=by rw [w64 (x:=1 + (v : Int)) (by omega) (by omega)];omega
theorem wr_down (d : Nat) (h : d ≤ 4000000000) : wrap64 (((d + 1 : Nat) : Int) - 1) = (d : Int):=by rw [w64 (x:=((d + 1 : Nat) : Int) - 1) (by omega) (by omega)];omega
theorem wr_sum (a b : Nat) (h : a + b ≤ 4000000000) : wrap64 ((a : Int) + (b : Int)) = ((a + b : Nat) : Int):=by rw [w64 (x:=(a : Int) + (b : Int)) (by omega) (by omega)];omega
theorem bsize1 (c : UInt8) : (⟨#[c]⟩ : ByteArray).size = 1:=rfl
theorem bsize2 (c d : UInt8) : (⟨#[c,d]⟩ : ByteArray).size = 2:=rfl
theorem l7draw_r (l : List Int) (hl : l.length ≤ 2000) (hb : Bytes l) : ∀ (d s : Nat),d ≤ 1000 → s + stD d ≤ 990000 → szD d ≤ 100000 → ∃ (e : ByteArray) (s' : Nat),1 ≤ e.size ∧ e.size ≤ szD d ∧ s' ≤ s + stD d ∧ Ev (fun k => spec_l7Draw.f k (d : Int) l (s : Int)) (e,l,(s' : Int)):=by
 intro d
 induction d with
 | zero =>
  intro s _ hs hd
  have hs' : s + 4 ≤ 990000:=hs
  obtain ⟨v,hv,h⟩:=pick_r l hl hb s 3 (by omega) (by omega) (by omega)
  have loop : ∀ (m i : Nat) (acc : ByteArray) (q : Nat),i + m = v + 1 → acc.size + m ≤ 1000000 → q + m ≤ 991000 → ∃ (e : ByteArray) (q' : Nat),acc.size + m ≤ e.size ∧ e.size ≤ acc.size + m ∧ q' ≤ q + m ∧ Ev (fun k => spec_l7Draw.l0 k 0 acc ((v + 1 : Nat) : Int) (i : Int) l (q : Int)) (e,l,(q' : Int)):=by
   intro m
   induction m with
   | zero =>
    intro i acc q hi ha hq
    refine ⟨acc,q,by omega,by omega,by omega,Ev.step (f:=fun _ => some (acc,l,(q : Int))) (fun k => ?_) (Ev.now _)⟩
    simp only [spec_l7Draw.l0];rw [if_neg (by omega)]
   | succ m ih =>
    intro i acc q hi ha hq
    obtain ⟨x,hx,ho⟩:=of_r l hl hb q (by omega) [(⟨#[97]⟩ : ByteArray),(⟨#[98]⟩ : ByteArray)] (by simp) (by simp)
    have hxs : x.size = 1:=by
     simp only [List.mem_cons,List.not_mem_nil,or_false] at hx
     rcases hx with rfl|rfl <;> rfl
    have hax : (acc ++ x).size = acc.size + 1:=by rw [ByteArray.size_append,hxs]
    obtain ⟨e,q',h1,h2,h3,h4⟩:=ih (i + 1) (acc ++ x) (q + 1) (by omega) (by omega) (by omega)
    refine ⟨e,q',by omega,by omega,by omega,?_⟩
    refine Ev.step (f:=?fz1) (fun k => ?hz1) ?kz1
    case hz1 => simp only [spec_l7Draw.l0];rw [if_pos (by omega),if_neg (by omega)] <;> exact rfl
    refine Ev.bind (ev_some (fun _ => ho)) (Ev_t (by show acc.size + x.size ≤ 9223372036854775807;omega) ?_)
    simp only [wr_up i (by omega)]
    exact h4
  obtain ⟨e,q',h1,h2,h3,h4⟩:=loop (v + 1) 0 ⟨#[]⟩ (s + 1) (by omega) (by have : (⟨#[]⟩ : ByteArray).size = 0:=rfl;omega) (by omega)
  have z0 : (⟨#[]⟩ : ByteArray).size = 0:=rfl
  refine ⟨e,q',by omega,by unfold szD;omega,by unfold stD;omega,?_⟩
  refine Ev.step (f:=?fz2) (fun k => ?hz2) ?kz2
  case hz2 => simp only [spec_l7Draw.f] <;> exact rfl
  refine Ev.bind (ev_some (fun _ => h)) ?_
  show Ev (fun k => spec_l7Draw.l0 k 0 ⟨#[]⟩ (wrap64 (1 + (v : Int))) 0 l ((s + 1 : Nat) : Int)) _
  rw [wr_one v (by omega)]
  exact h4
 | succ d ihd =>
  intro s hdl0 hs hd
  have hdl : d ≤ 4000000000:=by omega
  have hdl1 : d ≤ 1000:=by omega
  obtain ⟨S,hS⟩ : ∃ S,stD d = S:=⟨_,rfl⟩
  obtain ⟨Z,hZ⟩ : ∃ Z,szD d = Z:=⟨_,rfl⟩
  have p1:=stD_pos d
  have p2:=szD_pos d
  have hs' : s + (1 + 3 * (S + 1)) ≤ 990000:=by rw [← hS];exact hs
  have hd' : 3 * (Z + 3) ≤ 100000:=by rw [← hZ];exact hd
  rw [hS] at p1
  rw [hZ] at p2
  rw [hS,hZ] at ihd
  obtain ⟨v,hv,h⟩:=pick_r l hl hb s 3 (by omega) (by omega) (by omega)
  have loop : ∀ (m i : Nat) (acc : ByteArray) (q : Nat),i + m = v + 1 → acc.size + m * (Z + 3) ≤ 1000000 → q + m * (S + 1) ≤ 990000 → ∃ (e : ByteArray) (q' : Nat),acc.size + m ≤ e.size ∧ e.size ≤ acc.size + m * (Z + 3) ∧ q' ≤ q + m * (S + 1) ∧ Ev (fun k => spec_l7Draw.l0 k ((d + 1 : Nat) : Int) acc ((v + 1 : Nat) : Int) (i : Int) l (q : Int)) (e,l,(q' : Int)):=by
   intro m
   induction m with
   | zero =>
    intro i acc q hi ha hq
    refine ⟨acc,q,by omega,by omega,by omega,Ev.step (f:=fun _ => some (acc,l,(q : Int))) (fun k => ?_) (Ev.now _)⟩
    simp only [spec_l7Draw.l0];rw [if_neg (by omega)]
   | succ m ih =>
    intro i acc q hi ha hq
    rw [Nat.succ_mul] at ha hq
    have g1 : (m + 1) * (Z + 3) = m * (Z + 3) + (Z + 3):=Nat.succ_mul _ _
    have g2 : (m + 1) * (S + 1) = m * (S + 1) + (S + 1):=Nat.succ_mul _ _
    obtain ⟨A,hA⟩ : ∃ A,m * (Z + 3) = A:=⟨_,rfl⟩
    obtain ⟨C,hC⟩ : ∃ C,m * (S + 1) = C:=⟨_,rfl⟩
    rw [hA] at ih g1 ha
    rw [hC] at ih g2 hq
    rw [g1,g2]
    obtain ⟨u,hu,hpk⟩:=pick_r l hl hb q 3 (by omega) (by omega) (by omega)
    have hlt : (i : Int) < ((v + 1 : Nat) : Int):=by omega
    have hdp : ((d + 1 : Nat) : Int) > 0:=by omega
    by_cases hz : u = 0
    ·subst hz
     obtain ⟨x,q1,x1,x2,x3,x4⟩:=ihd (q + 1) hdl1 (by omega) (by omega)
     have hsz : ((acc ++ (⟨#[40]⟩ : ByteArray)) ++ x ++ (⟨#[41,35]⟩ : ByteArray)).size = acc.size + 1 + x.size + 2:=by
      rw [ByteArray.size_append,ByteArray.size_append,ByteArray.size_append,bsize1,bsize2]
     obtain ⟨e,q',h1,h2,h3,h4⟩:=ih (i + 1) ((acc ++ (⟨#[40]⟩ : ByteArray)) ++ x ++ (⟨#[41,35]⟩ : ByteArray)) q1 (by omega) (by omega) (by omega)
     refine ⟨e,q',by omega,by omega,by omega,?_⟩
     refine Ev.step (f:=?fz3) (fun k => ?hz3) ?kz3
     case hz3 => simp only [spec_l7Draw.l0];rw [if_pos hlt,if_pos hdp] <;> exact rfl
     refine Ev.bind (ev_some (fun _ => hpk)) (Ev_t rfl (Ev_t (show acc.size + 1 ≤ 9223372036854775807 by omega) ?_))
     simp only [wr_down d hdl]
     refine Ev.bind x4 (Ev_t (by show (acc ++ (⟨#[40]⟩ : ByteArray)).size + x.size ≤ 9223372036854775807;rw [ByteArray.size_append,bsize1];omega) (Ev_t (by show ((acc ++ (⟨#[40]⟩ : ByteArray)) ++ x).size + 2 ≤ 9223372036854775807;rw [ByteArray.size_append,ByteArray.size_append,bsize1];omega) ?_))
     simp only [wr_up i (by omega)]
     exact h4
    ·obtain ⟨x,hx,ho⟩:=of_r l hl hb (q + 1) (by omega) [(⟨#[97]⟩ : ByteArray),(⟨#[98]⟩ : ByteArray)] (by simp) (by simp)
     have hxs : x.size = 1:=by
      simp only [List.mem_cons,List.not_mem_nil,or_false] at hx
      rcases hx with rfl|rfl <;> rfl
     have hax : (acc ++ x).size = acc.size + 1:=by rw [ByteArray.size_append,hxs]
     obtain ⟨e,q',h1,h2,h3,h4⟩:=ih (i + 1) (acc ++ x) (q + 1 + 1) (by omega) (by omega) (by omega)
     refine ⟨e,q',by omega,by omega,by omega,?_⟩
     refine Ev.step (f:=?fz4) (fun k => ?hz4) ?kz4
     case hz4 => simp only [spec_l7Draw.l0];rw [if_pos hlt,if_pos hdp] <;> exact rfl
     refine Ev.bind (ev_some (fun _ => hpk)) (Ev_f (show ¬ (u : Int) = 0 by omega) ?_)
     refine Ev.bind (ev_some (fun _ => ho)) (Ev_t (by show acc.size + x.size ≤ 9223372036854775807;omega) ?_)
     simp only [wr_up i (by omega)]
     exact h4
  have v1 : (v + 1) * (Z + 3) ≤ 3 * (Z + 3):=Nat.mul_le_mul_right _ (by omega)
  have v2 : (v + 1) * (S + 1) ≤ 3 * (S + 1):=Nat.mul_le_mul_right _ (by omega)
  have z0 : (⟨#[]⟩ : ByteArray).size = 0:=rfl
  obtain ⟨e,q',h1,h2,h3,h4⟩:=loop (v + 1) 0 ⟨#[]⟩ (s + 1) (by omega) (by omega) (by omega)
  have r1 : szD (d + 1) = 3 * (Z + 3):=by rw [← hZ];rfl
  have r2 : stD (d + 1) = 1 + 3 * (S + 1):=by rw [← hS];rfl
  refine ⟨e,q',by omega,by omega,by omega,?_⟩
  refine Ev.step (f:=?fz5) (fun k => ?hz5) ?kz5
  case hz5 => simp only [spec_l7Draw.f] <;> exact rfl
  refine Ev.bind (ev_some (fun _ => h)) ?_
  show Ev (fun k => spec_l7Draw.l0 k ((d + 1 : Nat) : Int) ⟨#[]⟩ (wrap64 (1 + (v : Int))) 0 l ((s + 1 : Nat) : Int)) _
  rw [wr_one v (by omega)]
  exact h4
theorem szD3 (d : Nat) (hd : d < 3) : szD d ≤ 100 ∧ stD d ≤ 100:=by
 have : d = 0 ∨ d = 1 ∨ d = 2:=by omega
 rcases this with rfl|rfl|rfl <;> decide
theorem l7text_r (l : List Int) (hl : l.length ≤ 2000) (hb : Bytes l) (s : Nat) (hs : s ≤ 980000) : ∃ (e : ByteArray) (s' : Nat),e.size ≤ 1000 ∧ s' ≤ s + 1000 ∧ Ev (fun k => spec_l7Text.f k l (s : Int)) (e,l,(s' : Int)):=by
 obtain ⟨d,hd,h⟩:=pick_r l hl hb s 3 (by omega) (by omega) (by omega)
 obtain ⟨b1,b2⟩:=szD3 d hd
 obtain ⟨e,s1,h1,h2,h3,h4⟩:=l7draw_r l hl hb d (s + 1) (by omega) (by omega) (by omega)
 obtain ⟨c,hc,hp⟩:=pick_r l hl hb s1 12 (by omega) (by omega) (by omega)
 by_cases hz : c = 0
 ·obtain ⟨k0,hk0,hk⟩:=pick_r l hl hb (s1 + 1) e.size (by omega) (by omega) (by omega)
  obtain ⟨x,hx,ho⟩:=of_r l hl hb (s1 + 1 + 1) (by omega) [(⟨#[]⟩ : ByteArray),(⟨#[40]⟩ : ByteArray),(⟨#[41]⟩ : ByteArray),(⟨#[35]⟩ : ByteArray),(⟨#[41,35]⟩ : ByteArray),(⟨#[99]⟩ : ByteArray)] (by simp) (by simp)
  have hxs : x.size ≤ 2:=by
   simp only [List.mem_cons,List.not_mem_nil,or_false] at hx
   rcases hx with rfl|rfl|rfl|rfl|rfl|rfl <;> decide
  obtain ⟨u,hu,hpu⟩:=pick_r l hl hb (s1 + 1 + 1 + 1) 2 (by omega) (by omega) (by omega)
  refine ⟨((e.extract 0 k0) ++ x) ++ (e.extract (k0 + u) e.size),s1 + 1 + 1 + 1 + 1,?_,by omega,?_⟩
  ·rw [ByteArray.size_append,ByteArray.size_append,ByteArray.size_extract,ByteArray.size_extract];omega
  ·unfold spec_l7Text.f
   refine Ev.bind (ev_some (fun _ => h)) (Ev.bind h4 (Ev.bind (ev_some (fun _ => hp)) (Ev_f (by show ¬ (c : Int) > 0;omega) (Ev.bind (ev_some (fun _ => hk)) ?_))))
   refine Ev_t (by show (0 : Int) ≤ (k0 : Int);omega) (Ev_t (by show (k0 : Int) ≤ (e.size : Int);omega) (Ev.bind (ev_some (fun _ => ho)) ?_))
   refine Ev_t (by show (e.extract 0 (k0 : Int).toNat).size + x.size ≤ 9223372036854775807;rw [ByteArray.size_extract];omega) (Ev.bind (ev_some (fun _ => hpu)) ?_)
   simp only [wr_sum k0 u (by omega)]
   refine Ev_t (by omega) (Ev_t (by omega) (Ev_t (by omega) (Ev_t (by rw [ByteArray.size_append,ByteArray.size_extract,ByteArray.size_extract];omega) ((Ev.now _).is ?_))))
   rw [Int.toNat_natCast,Int.toNat_natCast]
 ·refine ⟨e,s1 + 1,by omega,by omega,?_⟩
  unfold spec_l7Text.f
  exact Ev.bind (ev_some (fun _ => h)) (Ev.bind h4 (Ev.bind (ev_some (fun _ => hp)) (Ev_t (by show (c : Int) > 0;omega) (Ev.now _))))
theorem l7some_r (l : List Int) (hl : l.length ≤ 2000) (hb : Bytes l) : ∃ (r : Int × List Int × List Int × List Stp) (e : ByteArray) (s' : Nat),(r.2.1.length ≤ 1000 ∧ r.2.2.1.length ≤ 1000 ∧ r.2.2.2.length ≤ 1000) ∧ e.size ≤ 1000 ∧ s' ≤ 920000 ∧ Ev (fun k => spec_l7Some.f k l 0) (r.1,r.2.1,r.2.2.1,r.2.2.2,e,l,(s' : Int)):=by
 obtain ⟨r,s1,g1,g2,g3⟩:=any_r l hl hb
 obtain ⟨e,s2,e1,e2,e3⟩:=l7text_r l hl hb s1 (by omega)
 have loop : ∀ (m i : Nat) (e : ByteArray) (s : Nat),i + m = 3 → e.size ≤ 1000 → s + m * 200 ≤ 920000 → ∃ (e' : ByteArray) (s' : Nat),e'.size ≤ 1000 ∧ s' ≤ 920000 ∧ Ev (fun k => spec_l7Some.l0 k e (i : Int) l (s : Int) r.1 r.2.1 r.2.2.1 r.2.2.2) (r.1,r.2.1,r.2.2.1,r.2.2.2,e',l,(s' : Int)):=by
  intro m
  induction m with
  | zero =>
   intro i e s hi he hs
   refine ⟨e,s,he,by omega,Ev.step (f:=fun _ => some (r.1,r.2.1,r.2.2.1,r.2.2.2,e,l,(s : Int))) (fun k => ?_) (Ev.now _)⟩
   simp only [spec_l7Some.l0];rw [if_neg (by omega)]
  | succ m ih =>
   intro i e s hi he hs
   obtain ⟨v,_,_,v1,_⟩:=value_both r.1 r.2.1 r.2.2.1 r.2.2.2 e (by omega) (by omega) (by omega)
   have a0 : (i : Int) < 3:=by omega
   have st : ∀ {r' : _},Ev (fun k => (spec_ValueOf.f k r.1 r.2.1 r.2.2.1 r.2.2.2 e).bind fun t3 => (if t3.2.2 = true then (some (r.1,r.2.1,r.2.2.1,r.2.2.2,e,l,(s : Int))) else ((spec_l13Rd_pick.f 4 l (s : Int)).bind fun t4 => (if t4.1 = 0 then (some (r.1,r.2.1,r.2.2.1,r.2.2.2,e,t4.2.1,t4.2.2)) else ((spec_l13Rd_pick.f 3 t4.2.1 t4.2.2).bind fun t5 => ((spec_l7Draw.f k t5.1 t5.2.1 t5.2.2).bind fun t6 => (spec_l7Some.l0 k t6.1 (wrap64 ((i : Int) + 1)) t6.2.1 t6.2.2 r.1 r.2.1 r.2.2.1 r.2.2.2))))))) r' → Ev (fun k => spec_l7Some.l0 k e (i : Int) l (s : Int) r.1 r.2.1 r.2.2.1 r.2.2.2) r':=fun h => Ev.step (fun k => by simp only [spec_l7Some.l0];rw [if_pos a0]) h
   by_cases q : v.2.2 = true
   ·exact ⟨e,s,he,by omega,st (Ev.bind v1 (Ev_t q (Ev.now _)))⟩
   obtain ⟨c,_,p1⟩:=pick_r l hl hb s 4 (by omega) (by omega) (by omega)
   by_cases q2 : (c : Int) = 0
   ·exact ⟨e,s + 1,he,by omega,st (Ev.bind v1 (Ev_f q (Ev.bind (ev_some (fun _ => p1)) (Ev_t q2 (Ev.now _)))))⟩
   obtain ⟨d,hd,p2⟩:=pick_r l hl hb (s + 1) 3 (by omega) (by omega) (by omega)
   obtain ⟨b1,b2⟩:=szD3 d hd
   obtain ⟨e',s',h1,h2,h3,h4⟩:=l7draw_r l hl hb d (s + 1 + 1) (by omega) (by omega) (by omega)
   obtain ⟨e2,s3,k1,k2,k3⟩:=ih (i + 1) e' s' (by omega) (by omega) (by omega)
   refine ⟨e2,s3,k1,k2,st (Ev.bind v1 (Ev_f q (Ev.bind (ev_some (fun _ => p1)) (Ev_f q2 (Ev.bind (ev_some (fun _ => p2)) (Ev.bind h4 ?_))))))⟩
   simp only [wr_up i (by omega)]
   exact k3
 obtain ⟨e',s',k1,k2,k3⟩:=loop 3 0 e s2 rfl e1 (by omega)
 refine ⟨r,e',s',g1,k1,k2,?_⟩
 unfold spec_l7Some.f
 exact Ev.bind g3 (Ev.bind e3 k3)
theorem sLeast (n : Nat) (h1 : 1 ≤ n) (h4 : n ≤ 4) (s f : List Int) (t : List Stp) (d : List Int) (hd : MV (n : Int) d) (hs : ∀ p ∈ s,0 ≤ p ∧ p < (n : Int)) (hf : ∀ q ∈ f,0 ≤ q ∧ q < (n : Int)) (ls : s.length ≤ 1000000000) (lf : f.length ≤ 1000000000) : Ev (fun k => spec_l4Least.f k (n : Int) s f t (n : Int) d) (leastL n s f d):=by
 have inner : ∀ (p : Int) (i : Int) (R : Int),0 ≤ p → p < (n : Int) → ∀ (v pre : List Int) (acc : Int),f = pre ++ v → Ev (fun k => spec_l4Least.l0 k (v.foldl (fun a q => mn a (d.getD (p.toNat * n + q.toNat) 0)) acc) s (s.length : Int) (wrap64 (i + 1)) (n : Int) s f t (n : Int) d) R →
   Ev (fun k => spec_l4Least.l1 k acc p s (s.length : Int) i f (f.length : Int) (pre.length : Int) (n : Int) s f t (n : Int) d) R:=by
  intro p i R hp0 hpn v
  induction v with
  | nil =>
   intro pre acc hp h
   refine Ev.step (fun k => ?_) h
   simp only [spec_l4Least.l1];rw [if_neg (by rw [hp];simp)];rfl
  | cons y v ih =>
   intro pre acc hp h
   have hlen : f.length = pre.length + (v.length + 1):=by rw [hp];simp
   have hx : rdI f (pre.length : Int) = y:=by rw [hp,rd_mid]
   obtain ⟨y0,yn⟩:=hf y (by rw [hp];simp)
   have c:=cellZ (n:=(n : Int)) (i:=p) (k:=y) (by omega) (by omega) (by omega)
   have cw:=cellW (n:=(n : Int)) (i:=p) (k:=y) (by omega) (by omega) (by omega)
   have hd2:=hd.2.2.1
   have e : rdI d (p * (n : Int) + y) = d.getD (p.toNat * n + y.toNat) 0:=by
    obtain ⟨m0,f0⟩ : ∃ m : Nat,p = (m : Int):=⟨p.toNat,by omega⟩
    obtain ⟨m2,f2⟩ : ∃ m : Nat,y = (m : Int):=⟨y.toNat,by omega⟩
    have : ((m0 : Int) * (n : Int) + (m2 : Int)) = ((m0 * n + m2 : Nat) : Int):=by push_cast;rfl
    rw [f0,f2,this]
    unfold rdI
    simp only [Int.toNat_natCast]
   refine Ev.step (fun k => ?_) (ih (pre ++ [y]) (mn acc (d.getD (p.toNat * n + y.toNat) 0)) (by simp [hp]) h)
   simp only [spec_l4Least.l1]
   rw [if_pos (by omega),if_pos (by omega),if_pos (by omega),hx,cw,if_pos (by omega),if_pos (by omega),e,w64 (x:=(pre.length : Int) + 1) (by omega) (by omega),snocA]
 have outer : ∀ (u pre : List Int) (acc : Int),s = pre ++ u → Ev (fun k => spec_l4Least.l0 k acc s (s.length : Int) (pre.length : Int) (n : Int) s f t (n : Int) d) (u.foldl (fun a p => f.foldl (fun a q => mn a (d.getD (p.toNat * n + q.toNat) 0)) a) acc):=by
  intro u
  induction u with
  | nil =>
   intro pre acc hp
   refine Ev.step (f:=fun _ => some acc) (fun k => ?_) (Ev.now _)
   simp only [spec_l4Least.l0];rw [if_neg (by rw [hp];simp)]
  | cons y u ih =>
   intro pre acc hp
   have hlen : s.length = pre.length + (u.length + 1):=by rw [hp];simp
   have hx : rdI s (pre.length : Int) = y:=by rw [hp,rd_mid]
   obtain ⟨y0,yn⟩:=hs y (by rw [hp];simp)
   refine Ev.step (fun k => ?_) (inner y (pre.length : Int) _ y0 yn f [] acc rfl ?_)
   ·simp only [spec_l4Least.l0]
    rw [if_pos (by omega),if_pos (by omega),if_pos (by omega),hx];rfl
   ·rw [w64 (x:=(pre.length : Int) + 1) (by omega) (by omega),← snocA]
    exact ih (pre ++ [y]) _ (by simp [hp])
 exact outer s [] 1000000 rfl
theorem endL_hit (c : List UInt8) (v : List Int) (p : Nat) (t : List Stp) (nx : List Int) (hp : p < nx.length) (hlt : (endL c t v nx).getD p 0 < nx.getD p 0) : ∃ s ∈ t,s.f1.toList = c ∧ s.f0.toNat = p ∧ s.f3 + v.getD s.f2.toNat 0 = (endL c t v nx).getD p 0:=by
 have h:=(le_endL c v ((endL c t v nx).getD p 0) p t nx hp).1 (Int.le_refl _)
 have h2 : ¬ (endL c t v nx).getD p 0 + 1 ≤ (endL c t v nx).getD p 0:=by omega
 rw [le_endL c v _ p t nx hp] at h2
 by_cases q : ∀ s ∈ t,s.f1.toList = c → s.f0.toNat = p → (endL c t v nx).getD p 0 + 1 ≤ s.f3 + v.getD s.f2.toNat 0
 ·exact absurd ⟨by omega,q⟩ h2
 ·simp only [Classical.not_forall] at q
  obtain ⟨s,q1,q2,q3,q4⟩:=q
  have:=h.2 s q1 q2 q3
  exact ⟨s,q1,q2,q3,by omega⟩
theorem le_costL (v s : List Int) (x : Int) : x ≤ costL s v ↔ x ≤ 1000000 ∧ ∀ l ∈ s,x ≤ v.getD l.toNat 0:=le_foldI (fun p => v.getD p.toNat 0) x s 1000000
theorem costL_hit (v : List Int) (s : List Int) (h : costL s v < 1000000) : ∃ p ∈ s,v.getD p.toNat 0 = costL s v:=by
 by_cases q : ∀ p ∈ s,costL s v + 1 ≤ v.getD p.toNat 0
 ·have:=(le_costL v s _).2 ⟨by omega,q⟩;omega
 ·simp only [Classical.not_forall] at q
  obtain ⟨p,q1,q2⟩:=q
  have:=((le_costL v s _).1 (Int.le_refl _)).2 p q1
  exact ⟨p,q1,by omega⟩
theorem costL_in (v s : List Int) (hv : ∀ p ∈ s,0 ≤ v.getD p.toNat 0) : 0 ≤ costL s v ∧ costL s v ≤ 1000000:=⟨(le_costL v s 0).2 ⟨by omega,hv⟩,((le_costL v s _).1 (Int.le_refl _)).1⟩
def endsL (n : Nat) (t : List Stp) (f : List Int) : List UInt8 → List (List Int)
 | [] => [finL n f]
 | c :: w => endsL n t f w ++ [colL n t (c :: w) (finL n f)]
theorem endsL_len (n : Nat) (t : List Stp) (f : List Int) : ∀ w,(endsL n t f w).length = w.length + 1
 | [] => rfl
 | c :: w => by simp [endsL,endsL_len n t f w]
theorem endsL_get (n : Nat) (t : List Stp) (f : List Int) : ∀ (u e : List UInt8),(endsL n t f (u ++ e)).getD e.length [] = colL n t e (finL n f)
 | [],[] => rfl
 | [],c :: e => by
  show (endsL n t f e ++ [colL n t (c :: e) (finL n f)]).getD (e.length + 1) [] = _
  rw [List.getD_eq_getElem?_getD,List.getElem?_append_right (by rw [endsL_len];omega),endsL_len]
  simp
 | c :: u,e => by
  show (endsL n t f (u ++ e) ++ [colL n t (c :: (u ++ e)) (finL n f)]).getD e.length [] = _
  have:=endsL_get n t f u e
  rw [List.getD_eq_getElem?_getD] at this ⊢
  rw [List.getElem?_append_left (by rw [endsL_len];simp;omega)]
  exact this
def hitB (n : Nat) (t : List Stp) (f : List Int) (c : UInt8) (w : List UInt8) (p : Int) (s : Stp) : Bool:=decide (s.f0 = p ∧ s.f1.toList = [c] ∧ s.f3 + (colL n t w (finL n f)).getD s.f2.toNat 0 = (colL n t (c :: w) (finL n f)).getD p.toNat 0)
theorem hit_ex (n : Nat) (h1 : 1 ≤ n) (h4 : n ≤ 4) (t : List Stp) (hs : stp (n : Int) none t = true) (f : List Int) (c : UInt8) (w : List UInt8) (p : Int) (h0 : 0 ≤ p) (hp : p < (n : Int)) (hlt : (colL n t (c :: w) (finL n f)).getD p.toNat 0 < 1000000) : ∃ s,t.find? (hitB n t f c w p) = some s:=by
 have ht:=stp_mem hs
 have e:=col_step n h4 t hs c (colL n t w (finL n f)) (fun l hl => ((col_full n h1 h4 t ht f w).2 l hl).1)
 have e : colL n t (c :: w) (finL n f) = endL [c] t (colL n t w (finL n f)) (List.replicate n 1000000):=e
 have hpn : p.toNat < n:=by omega
 obtain ⟨s,q1,q2,q3,q4⟩:=endL_hit [c] (colL n t w (finL n f)) p.toNat t (List.replicate n 1000000) (by rw [List.length_replicate];exact hpn) (by
  rw [← e]
  have : (List.replicate n (1000000 : Int)).getD p.toNat 0 = 1000000:=by simp [List.getD_eq_getElem?_getD,hpn]
  rw [this];exact hlt)
 have os:=of_decide_eq_true (show decide _ = true from ht s q1)
 have : hitB n t f c w p s = true:=decide_eq_true ⟨by omega,q2,by rw [q4,← e]⟩
 cases q : t.find? (hitB n t f c w p) with
 | some s => exact ⟨s,rfl⟩
 | none => exact absurd this (List.find?_eq_none.1 q s q1)
def runL (n : Nat) (t : List Stp) (f : List Int) : List UInt8 → Int → List Int
 | [],_ => []
 | c :: w,p => match t.find? (hitB n t f c w p) with
  | some s => s.f2 :: runL n t f w s.f2
  | none => []
theorem runL_len (n : Nat) (t : List Stp) (f : List Int) : ∀ w p,(runL n t f w p).length ≤ w.length
 | [],_ => Nat.le_refl _
 | c :: w,p => by
  unfold runL
  split
  ·simp only [List.length_cons];have:=runL_len n t f w;rename_i s _;have:=this s.f2;omega
  ·simp
def startB (v : List Int) (c : Int) (q : Int) : Bool:=decide (v.getD q.toNat 0 = c)
theorem start_ex (v s : List Int) (h : costL s v < 1000000) : ∃ q,s.find? (startB v (costL s v)) = some q:=by
 obtain ⟨p,h1,h2⟩:=costL_hit v s h
 cases q : s.find? (startB v (costL s v)) with
 | some s => exact ⟨s,rfl⟩
 | none => exact absurd (decide_eq_true h2) (List.find?_eq_none.1 q p h1)
def runR (n : Int) (s f : List Int) (t : List Stp) (w : ByteArray) : List Int × Bool :=
 if AV n s f t = true ∧ wordB (L w) = true ∧ costL s (colL n.toNat t (L w) (finL n.toNat f)) < 1000000 then
  match s.find? (startB (colL n.toNat t (L w) (finL n.toNat f)) (costL s (colL n.toNat t (L w) (finL n.toNat f)))) with
  | some q => (q :: runL n.toNat t f (L w) q,true)
  | none => ([],true)
 else ([],false)
theorem endL_cons (c : List UInt8) (s : Stp) (t : List Stp) (v nx : List Int) : endL c (s :: t) v nx = endL c t v (if s.f1.toList = c then nx.set s.f0.toNat (mn (nx.getD s.f0.toNat 0) (s.f3 + v.getD s.f2.toNat 0)) else nx):=rfl
theorem plt {a b c : Nat} (h : b = a + (c + 1)) : (a : Int) < (b : Int):=by omega
theorem psm {a b c : Nat} (h : b = a + (c + 1)) (hb : b ≤ 1000000000) : a < 1000000000000:=by omega
theorem wpre {α : Type} {pre : List α} {y : α} {b c : Nat} (h : b = pre.length + (c + 1)) (hb : b ≤ 1000000000) : wrap64 ((pre.length : Int) + 1) = (((pre ++ [y]).length : Nat) : Int):=by rw [wnat (psm h hb),List.length_append];rfl
theorem wadd {a b : Int} (h : 0 ≤ a ∧ a ≤ 1000000000) (h' : 0 ≤ b ∧ b ≤ 1000000000) : wrap64 (a + b) = a + b:=w64 (by omega) (by omega)
theorem wsub {a b c : Int} (e : a + b = c) (h' : 0 ≤ b ∧ b ≤ 1000000000) : wrap64 (c - a) = b:=by rw [← e,w64 (by omega) (by omega)];omega
theorem lt_of_add {a b c : Int} (e : a + b = c) (h0 : 0 ≤ a) (h : c < 1000000) : b < 1000000:=by omega
theorem int_nat {y : Int} (h : 0 ≤ y) : ∃ m : Nat,y = (m : Int):=⟨y.toNat,by omega⟩
theorem toNat_lt' {y : Int} {n : Nat} (h : y < (n : Int)) (h0 : 0 ≤ y) : y.toNat < n:=by omega
theorem iEnd2 (n : Nat) (s f : List Int) (t : List Stp) (ht : ∀ y ∈ t,stepOk n y = true) (hl : t.length ≤ 1000000000) (w : ByteArray) (hw : w.size ≤ 1000) (v : List Int) (hv : v.length = n) (hvb : ∀ l,l < n → 0 ≤ v.getD l 0 ∧ v.getD l 0 ≤ 1000000) (o : List (List Int)) (ho : o.length ≤ 2000) (i : Nat) (c : UInt8) (hi : i < w.size) (hc : (w.extract i (i + 1)).toList = [c]) (R : List (List Int)) :
  ∀ (u pre : List Stp) (nx : List Int),t = pre ++ u → nx.length = n →
   Ev (fun k => impl_toEnd.l1 k w (endL [c] u v nx) (o ++ [endL [c] u v nx]) (wrap64 ((i : Int) - 1)) (n : Int) s f t) R →
   Ev (fun k => impl_toEnd.l2 k w v o (i : Int) nx t (t.length : Int) (pre.length : Int) (n : Int) s f t) R:=by
 intro u
 induction u with
 | nil =>
  intro pre nx hp hn h
  refine Ev.step (fun k => ?_) h
  simp only [impl_toEnd.l2];rw [if_neg (by rw [hp];simp),if_pos (by omega)];rfl
 | cons y u ih =>
  intro pre nx hp hn h
  have hlen : t.length = pre.length + (u.length + 1):=by rw [hp];simp
  have hx : rdT t (pre.length : Int) = y:=by rw [hp,rdS_mid]
  obtain ⟨o1,o2,o3,o4,o5,o6,_⟩:=of_decide_eq_true (show decide _ = true from ht y (by rw [hp];simp))
  have a0 : (pre.length : Int) < (t.length : Int):=Int.ofNat_lt.2 (by clear ih h;omega)
  have a1 : 0 ≤ (pre.length : Int):=Int.natCast_nonneg _
  have a2 : 0 ≤ (i : Int):=Int.natCast_nonneg _
  have a3 : (i : Int) ≤ ((i + 1 : Nat) : Int):=Int.ofNat_le.2 (Nat.le_succ i)
  have a4 : ((i + 1 : Nat) : Int) ≤ (w.size : Int):=Int.ofNat_le.2 hi
  have wi : wrap64 ((i : Int) + 1) = ((i + 1 : Nat) : Int):=wnat (by clear ih h;omega)
  have wp : wrap64 ((pre.length : Int) + 1) = (((pre ++ [y]).length : Nat) : Int):=by rw [wnat (by clear ih h;omega),List.length_append];rfl
  rw [endL_cons] at h
  by_cases e : y.f1.toList = [c]
  ·rw [if_pos e] at h
   have b:=hvb y.f2.toNat (by omega)
   have a5 : y.f0 < (nx.length : Int):=by omega
   have a6 : y.f2 < (v.length : Int):=by omega
   have hw3 : wrap64 (y.f3 + v.getD y.f2.toNat 0) = y.f3 + v.getD y.f2.toNat 0:=w64 (by omega) (by omega)
   refine Ev.step (fun k => ?_) (ih (pre ++ [y]) (nx.set y.f0.toNat (mn (nx.getD y.f0.toNat 0) (y.f3 + v.getD y.f2.toNat 0))) (by simp [hp]) (by rw [List.length_set];exact hn) h)
   simp only [impl_toEnd.l2]
   rw [if_pos a0,if_pos a1,if_pos a0,if_pos a2,wi,if_pos a3,if_pos a4,hx]
   simp only [Int.toNat_natCast]
   rw [if_pos (e.trans hc.symm),if_pos o1,if_pos a5,if_pos o3,if_pos a6,wp]
   unfold rdI
   rw [hw3]
  ·rw [if_neg e] at h
   refine Ev.step (fun k => ?_) (ih (pre ++ [y]) nx (by simp [hp]) hn h)
   simp only [impl_toEnd.l2]
   rw [if_pos a0,if_pos a1,if_pos a0,if_pos a2,wi,if_pos a3,if_pos a4,hx]
   simp only [Int.toNat_natCast]
   rw [if_neg (fun q => e (q.trans hc)),wp]
theorem repInt (n : Nat) (h1 : 1 ≤ n) (h4 : n ≤ 4) : slices_Repeat_int_int.f [1000000] (n : Int) = some (List.replicate n 1000000):=by
 unfold slices_Repeat_int_int.f
 rw [if_pos ⟨rfl,by omega,by omega⟩]
 simp [rdI]
theorem iEnd1 (n : Nat) (h1 : 1 ≤ n) (h4 : n ≤ 4) (s f : List Int) (t : List Stp) (hs : stp (n : Int) none t = true) (hl : t.length ≤ 1000000000) (w : ByteArray) (hw : w.size ≤ 1000) :
  ∀ (m : Nat) (u e : List UInt8),u.length = m → L w = u ++ e → Ev (fun k => impl_toEnd.l1 k w (colL n t e (finL n f)) (endsL n t f e) ((u.length : Int) - 1) (n : Int) s f t) (endsL n t f (L w)):=by
 have ht:=stp_mem hs
 intro m
 induction m with
 | zero =>
  intro u e hm he
  have : u = []:=List.eq_nil_of_length_eq_zero hm
  subst this
  refine Ev.step (f:=fun _ => some (endsL n t f e)) (fun k => ?_) ((Ev.now _).is (by rw [he];rfl))
  simp only [impl_toEnd.l1];rw [if_neg (by simp)]
 | succ m ih =>
  intro u e hm he
  obtain ⟨u',c,rfl⟩ : ∃ u' c,u = u' ++ [c]:=by
   rcases List.eq_nil_or_concat u with h | ⟨u',c,h⟩
   ·subst h;simp at hm
   ·exact ⟨u',c,by simpa using h⟩
  have he' : L w = u' ++ c :: e:=by rw [he];simp
  have hz:=size_suffix he'
  simp only [List.length_cons] at hz
  have full:=col_full n h1 h4 t ht f e
  have ex : (((u' ++ [c]).length : Nat) : Int) - 1 = (u'.length : Int):=by simp
  have step:=col_step n h4 t hs c (colL n t e (finL n f)) (fun l hl => (full.2 l hl).1)
  have step : colL n t (c :: e) (finL n f) = endL [c] t (colL n t e (finL n f)) (List.replicate n 1000000):=step
  have nxt:=ih u' (c :: e) (by simpa using hm) he'
  refine Ev.step (fun k => ?_) (iEnd2 n s f t ht hl w hw (colL n t e (finL n f)) full.1 full.2 (endsL n t f e) (by rw [endsL_len];omega) u'.length c (by omega) (one_letter w he') (endsL n t f (L w)) t [] (List.replicate n 1000000) rfl (by simp) ?_)
  ·simp only [impl_toEnd.l1]
   rw [ex,if_pos (by omega),repInt n h1 h4,Option.bind_some];rfl
  ·rw [← step,w64 (by omega) (by omega)]
   exact nxt
theorem iEnd0 (n : Nat) (s f : List Int) (t : List Stp) (hf : ∀ q ∈ f,0 ≤ q ∧ q < (n : Int)) (lf : f.length ≤ 1000000000) (w : ByteArray) (R : List (List Int)) :
  ∀ (u pre : List Int) (v : List Int),f = pre ++ u → v.length = n →
   Ev (fun k => impl_toEnd.l1 k w (u.foldl (fun (v : List Int) (q : Int) => v.set q.toNat 0) v) [u.foldl (fun (v : List Int) (q : Int) => v.set q.toNat 0) v] (wrap64 ((w.size : Int) - 1)) (n : Int) s f t) R →
   Ev (fun k => impl_toEnd.l0 k w v f (f.length : Int) (pre.length : Int) (n : Int) s f t) R:=by
 intro u
 induction u with
 | nil =>
  intro pre v hp hn h
  refine Ev.step (fun k => ?_) h
  simp only [impl_toEnd.l0];rw [if_neg (by rw [hp];simp)];rfl
 | cons y u ih =>
  intro pre v hp hn h
  have hlen : f.length = pre.length + (u.length + 1):=by rw [hp];simp
  have hx : rdI f (pre.length : Int) = y:=by rw [hp,rd_mid]
  obtain ⟨y0,yn⟩:=hf y (by rw [hp];simp)
  have a0 : (pre.length : Int) < (f.length : Int):=by omega
  have wp : wrap64 ((pre.length : Int) + 1) = (((pre ++ [y]).length : Nat) : Int):=by rw [w64 (by omega) (by omega),snocA]
  refine Ev.step (fun k => ?_) (ih (pre ++ [y]) (v.set y.toNat 0) (by simp [hp]) (by simp [hn]) h)
  simp only [impl_toEnd.l0]
  rw [if_pos a0,if_pos (by omega),if_pos a0,hx,if_pos y0,if_pos (by omega),wp]
theorem iToEnd (n : Nat) (h1 : 1 ≤ n) (h4 : n ≤ 4) (s f : List Int) (t : List Stp) (hs : stp (n : Int) none t = true) (hl : t.length ≤ 1000000000) (hf : ∀ q ∈ f,0 ≤ q ∧ q < (n : Int)) (lf : f.length ≤ 1000000000) (w : ByteArray) (hw : w.size ≤ 1000) : Ev (fun k => impl_toEnd.f k (n : Int) s f t w) (endsL n t f (L w)):=by
 unfold impl_toEnd.f
 simp only [repInt n h1 h4,Option.bind_some]
 refine iEnd0 n s f t hf lf w _ f [] (List.replicate n 1000000) rfl (by simp) ?_
 rw [w64 (by omega) (by omega)]
 have h:=iEnd1 n h1 h4 s f t hs hl w hw (L w).length (L w) [] rfl (by simp)
 rw [← L_size] at h
 exact h
theorem iCost0 (n : Nat) (w : ByteArray) (o : List (List Int)) (v : List Int) (hv : v.length = n) (ho : (w.size : Int) < (o.length : Int)) (hr : rdL o (w.size : Int) = v) (s : List Int) (hs : ∀ q ∈ s,0 ≤ q ∧ q < (n : Int)) (ls : s.length ≤ 1000000000) :
  ∀ (u pre : List Int) (acc : Int),s = pre ++ u → Ev (fun k => impl_CostOf.l0 k w o acc s (s.length : Int) (pre.length : Int)) (u.foldl (fun acc p => mn acc (v.getD p.toNat 0)) acc):=by
 intro u
 induction u with
 | nil =>
  intro pre acc hp
  refine Ev.step (f:=fun _ => some acc) (fun k => ?_) (Ev.now _)
  simp only [impl_CostOf.l0];rw [if_neg (by rw [hp];simp)]
 | cons y u ih =>
  intro pre acc hp
  have hlen : s.length = pre.length + (u.length + 1):=by rw [hp];simp
  have hx : rdI s (pre.length : Int) = y:=by rw [hp,rd_mid]
  obtain ⟨y0,yn⟩:=hs y (by rw [hp];simp)
  have a0 : (pre.length : Int) < (s.length : Int):=by omega
  have wp : wrap64 ((pre.length : Int) + 1) = (((pre ++ [y]).length : Nat) : Int):=by rw [w64 (by omega) (by omega),snocA]
  refine Ev.step (fun k => ?_) (ih (pre ++ [y]) (mn acc (v.getD y.toNat 0)) (by simp [hp]))
  simp only [impl_CostOf.l0]
  rw [if_pos a0,if_pos (by omega),if_pos a0,if_pos (by omega),if_pos ho,hx,if_pos y0,hr,if_pos (by omega),wp];rfl
def costR (n : Int) (s f : List Int) (t : List Stp) (w : ByteArray) : Int:=if AV n s f t = true ∧ wordB (L w) = true then costL s (colL n.toNat t (L w) (finL n.toNat f)) else -1
theorem iCostOf (n : Int) (s f : List Int) (t : List Stp) (w : ByteArray) (ls : s.length ≤ 1000000000) (lf : f.length ≤ 1000000000) (hl : t.length ≤ 1000000000) (hw : w.size ≤ 4000000) : Ev (fun k => impl_CostOf.f k n s f t w) (costR n s f t w):=by
 unfold impl_CostOf.f
 refine Ev.bind (iAV n s f t ls lf hl) ?_
 by_cases g1 : AV n s f t = true
 case neg => exact Ev_f g1 ((Ev.now _).is (by unfold costR;rw [if_neg (fun h => g1 h.1)]))
 refine Ev_t g1 (Ev.bind (iWord_ev w hw) ?_)
 by_cases g2 : wordB (L w) = true
 case neg => exact Ev_f g2 ((Ev.now _).is (by unfold costR;rw [if_neg (fun h => g2 h.2)]))
 refine Ev_t g2 ?_
 obtain ⟨h1,h2,h3,h4,h5⟩:=AV_parts g1
 obtain ⟨z1,z2⟩:=wordB_size g2
 obtain ⟨m,rfl⟩ : ∃ m : Nat,n = (m : Int):=⟨n.toNat,by omega⟩
 refine Ev.bind (iToEnd m (by omega) (by omega) s f t h5 hl (mrk_mem h4) lf w z1) ?_
 have full:=col_full m (by omega) (by omega) t (stp_mem h5) f (L w)
 have hg:=endsL_get m t f [] (L w)
 rw [List.nil_append,← L_size] at hg
 have hr : rdL (endsL m t f (L w)) (w.size : Int) = colL m t (L w) (finL m f):=by unfold rdL;rw [Int.toNat_natCast];exact hg
 refine (iCost0 m w (endsL m t f (L w)) _ full.1 (by rw [endsL_len,← L_size];omega) hr s (mrk_mem h3) ls s [] 1000000 rfl).is ?_
 unfold costR costL
 rw [if_pos ⟨g1,g2⟩];rfl
theorem sCost (m : Nat) (s f : List Int) (t : List Stp) (w : ByteArray) (g1 : AV m s f t = true) (g2 : wordB (L w) = true) (ls : s.length ≤ 1000000000) (lf : f.length ≤ 1000000000) (hl : t.length ≤ 1000000000) : Ev (fun k => spec_l4Cost.f k (m : Int) s f t w) (costL s (colL m t (L w) (finL m f))):=by
 obtain ⟨h1,h2,h3,h4,h5⟩:=AV_parts g1
 have hu:=unit_MV m (by omega) (by omega)
 have hM:=wordL_MV m (by omega) (by omega) t (stp_mem h5) (L w) (sqL m unitE) hu
 unfold spec_l4Cost.f
 refine Ev.bind (sWordMx m s f t w g1 g2 hl) (Ev.bind (sLeast m (by omega) (by omega) s f t _ hM (mrk_mem h3) (mrk_mem h4) ls lf) ((Ev.now _).is ?_))
 exact cost_word m (by omega) (by omega) s f t (stp_mem h5) (fun q hq => by have:=mrk_mem h3 q hq;omega) (fun q hq => by have:=mrk_mem h4 q hq;omega) hu (L w)
theorem Ev_eq {α β : Type} {o : Option α} {a : α} {g : Nat → α → Option β} {r : β} (h : o = some a) (k : Ev (fun n => g n a) r) : Ev (fun n => o.bind (g n)) r:=Ev.congr (fun n => by rw [h];rfl) k
theorem rep_pos (w : List UInt8) (i t : Nat) (h : i < t) : Lib.repeatL w (t - i) = w ++ Lib.repeatL w (t - (i + 1)):=by
 obtain ⟨d,rfl⟩ : ∃ d,t = i + (d + 1):=⟨t - i - 1,by omega⟩
 rw [show i + (d + 1) - i = d + 1 by omega,show i + (d + 1) - (i + 1) = d by omega];rfl
theorem sTimes (n : Int) (rest w : List UInt8) (t : Nat) (ht : (t : Int) ≤ 9223372036854775807) (hw : 1 ≤ w.length) (hw2 : w.length ≤ 1000000000) : ∀ (m i : Nat) (acc : List UInt8),i ≤ t → 1001 - acc.length ≤ m → acc.length ≤ 10000000000 →
  ∃ acc2 : List UInt8,(acc.length + (Lib.repeatL w (t - i)).length ≤ 1000 → acc2 = acc ++ Lib.repeatL w (t - i)) ∧ (1000 < acc.length + (Lib.repeatL w (t - i)).length → 1000 < acc2.length) ∧ acc2.length ≤ max acc.length (1000 + w.length)
   ∧ ∀ r,Ev (fun k => spec_l7Expand.l0 k (B rest) n (B acc2)) r → Ev (fun k => spec_l7Expand.l1 k n (B acc) (B rest) (B w) (t : Int) (i : Int)) r:=by
 intro m
 induction m with
 | zero =>
  intro i acc hi hm ha
  refine ⟨acc,fun h => by omega,fun _ => by omega,by omega,fun r hr => ?_⟩
  refine Ev.step (fun k => ?_) hr
  simp only [spec_l7Expand.l1]
  by_cases h : (i : Int) < (t : Int)
  ·rw [if_pos h,B_size,if_neg (by omega)]
  ·rw [if_neg h]
 | succ m ih =>
  intro i acc hi hm ha
  by_cases h : i < t
  ·by_cases hs : acc.length ≤ 1000
   ·have e:=rep_pos w i t h
    obtain ⟨acc2,h1,h2,h3,h4⟩:=ih (i + 1) (acc ++ w) h (by simp;omega) (by simp;omega)
    rw [List.length_append] at h1 h2 h3
    refine ⟨acc2,?_,?_,by omega,fun r hr => ?_⟩
    ·rw [e,List.length_append];intro hl;rw [h1 (by omega),List.append_assoc]
    ·rw [e,List.length_append];intro hl;exact h2 (by omega)
    ·refine Ev.step (fun k => ?_) (h4 r hr)
     simp only [spec_l7Expand.l1]
     rw [if_pos (by omega),B_size,B_size,if_pos (by omega),if_pos (by omega),B_add,w64 (x:=(i : Int) + 1) (by omega) (by omega)]
     rfl
   ·refine ⟨acc,fun hl => by omega,fun _ => by omega,by omega,fun r hr => ?_⟩
    refine Ev.step (fun k => ?_) hr
    simp only [spec_l7Expand.l1]
    rw [if_pos (by omega),B_size,if_neg (by omega)]
  ·have e : t - i = 0:=by omega
   rw [e]
   refine ⟨acc,fun _ => by simp [Lib.repeatL],fun hl => by simpa [Lib.repeatL] using hl,by omega,fun r hr => ?_⟩
   refine Ev.step (fun k => ?_) hr
   simp only [spec_l7Expand.l1]
   rw [if_neg (by omega)]
theorem times_fit (a m : Nat) (n : Nat) (hm : 1 ≤ m) (ha : a ≤ 1000) : ((n : Int) > wrap64 (Int.tdiv (wrap64 (1000 - (a : Int))) (m : Int))) ↔ 1000 < a + n * m:=by
 have e1 : wrap64 (1000 - (a : Int)) = ((1000 - a : Nat) : Int):=by rw [w64 (x:=1000 - (a : Int)) (by omega) (by omega)];omega
 have hq : (1000 - a) / m ≤ 1000 - a:=Nat.div_le_self _ _
 have e2 : wrap64 (Int.tdiv ((1000 - a : Nat) : Int) (m : Int)) = (((1000 - a) / m : Nat) : Int):=by
  rw [tdiv_nat]
  obtain ⟨q,hq2⟩ : ∃ q,(1000 - a) / m = q:=⟨_,rfl⟩
  rw [hq2] at hq ⊢
  clear e1 hq2
  rw [w64 (x:=(q : Int)) (by omega) (by omega)]
 rw [e1,e2]
 clear e1 e2
 have h:=Nat.div_lt_iff_lt_mul (x:=1000 - a) (y:=n) hm
 constructor
 ·intro g
  have : (1000 - a) / m < n:=by omega
  have:=h.mp this
  omega
 ·intro g
  have : (1000 - a) / m < n:=h.mpr (by omega)
  omega
theorem iTimes (w : List UInt8) (t : Nat) (a : Nat) (ha : a ≤ 1000) (hw : 1 ≤ w.length) (h : ¬ 1000 < a + t * w.length) : strings_Repeat.f (B w) (t : Int) = some (B (Lib.repeatL w t)):=by
 have ht : t ≤ t * w.length:=Nat.le_mul_of_pos_right _ hw
 unfold strings_Repeat.f
 rw [if_pos ⟨Int.natCast_nonneg _,by omega,by rw [B_size,Int.toNat_natCast,Nat.mul_comm];omega⟩,B_toList,Int.toNat_natCast]
 rfl
inductive XP (t : Nat) : List Part → List UInt8 → Prop
 | nil : XP t [] []
 | cons (p : Part) (ps : List Part) (Y X : List UInt8) : XP t p.f1 Y → XP t ps X → XP t (p :: ps) ((if L p.f0 = [] then Lib.repeatL Y t else L p.f0) ++ X)
theorem XP.fn {t : Nat} {ps : List Part} {X : List UInt8} (h : XP t ps X) : ∀ {X' : List UInt8},XP t ps X' → X = X':=by
 induction h with
 | nil => intro X' h';cases h';rfl
 | cons p ps Y X _ _ ih1 ih2 =>
  intro X' h'
  cases h' with
  | cons _ _ Y' X2 h1 h2 => rw [ih1 h1,ih2 h2]
theorem XP.app {t : Nat} {ps : List Part} {X : List UInt8} (h : XP t ps X) : ∀ {qs : List Part} {Y : List UInt8},XP t qs Y → XP t (ps ++ qs) (X ++ Y):=by
 induction h with
 | nil => intro qs Y h';exact h'
 | cons p ps Y X h1 _ _ ih2 =>
  intro qs Z h'
  rw [List.append_assoc]
  exact XP.cons p (ps ++ qs) Y (X ++ Z) h1 (ih2 h')
theorem XP.letter (t : Nat) (c : UInt8) (ps : List Part) (X : List UInt8) (h : XP t ps X) : XP t ((⟨⟨#[c]⟩,[]⟩ : Part) :: ps) ([c] ++ X):=XP.cons (⟨⟨#[c]⟩,[]⟩ : Part) ps [] X XP.nil h
theorem XP.again (t : Nat) (w ps : List Part) (Y X : List UInt8) (h1 : XP t w Y) (h2 : XP t ps X) : XP t ((⟨⟨#[]⟩,w⟩ : Part) :: ps) (Lib.repeatL Y t ++ X):=XP.cons (⟨⟨#[]⟩,w⟩ : Part) ps Y X h1 h2
def exR (acc X : List UInt8) : ByteArray × Bool:=if acc.length + X.length ≤ 1000 then (B (acc ++ X),true) else (B [],false)
theorem exR_nil (acc : List UInt8) (h : acc.length ≤ 1000) : exR acc [] = (B acc,true):=by unfold exR;rw [if_pos (by simpa using h)];simp
theorem exR_app (acc X Y : List UInt8) : exR (acc ++ X) Y = exR acc (X ++ Y):=by unfold exR;rw [List.length_append,List.length_append,List.append_assoc,Nat.add_assoc]
theorem expand_reads (t : Nat) (ht0 : 1 ≤ t) (ht : (t : Int) ≤ 9223372036854775807) (n : Nat) : ∀ (e : List UInt8) (ps : List Part),e.length ≤ n → n ≤ 1000 → Reads e ps [] → ∃ X : List UInt8,XP t ps X ∧ (ps ≠ [] → 1 ≤ X.length) ∧
  (∀ acc : List UInt8,acc.length ≤ 10000000 → ∃ v : List UInt8,Ev (fun k => spec_l7Expand.l0 k (B e) (t : Int) (B acc)) (B v) ∧ v.length ≤ max acc.length (1000 * (n + 1) + 1) ∧ (acc.length + X.length ≤ 1000 → v = acc ++ X) ∧ (1000 < acc.length + X.length → 1000 < v.length)) ∧
  (∀ (pre : List Part) (acc : List UInt8),pre.length + ps.length ≤ 1000000 → acc.length ≤ 1000 → Ev (fun k => impl_expand.l0 k (t : Int) (B acc) (pre ++ ps) ((pre ++ ps).length) pre.length) (exR acc X)):=by
 have stop : ∀ acc : List UInt8,Ev (fun k => spec_l7Expand.l0 k (B []) (t : Int) (B acc)) (B acc):=by
  intro acc
  refine Ev.step (f:=fun _ => some (B acc)) (fun k => ?_) (Ev.now _)
  simp only [spec_l7Expand.l0];rw [if_pos (by rw [toList_L];unfold B;rw [L_mk])]
 have full : ∀ (e acc : List UInt8),e ≠ [] → 1000 < acc.length → Ev (fun k => spec_l7Expand.l0 k (B e) (t : Int) (B acc)) (B acc):=by
  intro e acc he ha
  refine Ev.step (f:=fun _ => some (B acc)) (fun k => ?_) (Ev.now _)
  simp only [spec_l7Expand.l0];rw [if_neg (by rw [toList_L];unfold B;rw [L_mk];exact he),if_neg (by rw [B_size];omega)]
 have enter : ∀ (e acc : List UInt8) (r : ByteArray),e ≠ [] → acc.length ≤ 1000 → Ev (fun k => (spec_l7Next.f k (B e)).bind fun t1 => (if t1.2.1 = true then ((spec_l7Expand.f k t1.1 (t : Int)).bind fun t2 => (spec_l7Expand.l1 k (t : Int) (B acc) t1.2.2 t2 (t : Int) 0)) else (spec_l7Expand.l1 k (t : Int) (B acc) t1.2.2 t1.1 1 0))) r → Ev (fun k => spec_l7Expand.l0 k (B e) (t : Int) (B acc)) r:=by
  intro e acc r he ha h
  refine Ev.step (fun k => ?_) h
  simp only [spec_l7Expand.l0];rw [if_neg (by rw [toList_L];unfold B;rw [L_mk];exact he),if_pos (by rw [B_size];omega)]
 have iend : ∀ (pre : List Part) (acc : List UInt8),acc.length ≤ 1000 → Ev (fun k => impl_expand.l0 k (t : Int) (B acc) (pre ++ []) ((pre ++ []).length) pre.length) (exR acc []):=by
  intro pre acc ha
  rw [exR_nil acc ha]
  refine Ev.step (f:=fun _ => some (B acc,true)) (fun k => ?_) (Ev.now _)
  simp only [impl_expand.l0];rw [if_neg (by simp)]
 induction n with
 | zero =>
  intro e ps hn hm h
  have he : e = []:=List.length_eq_zero_iff.mp (by omega)
  subst he
  cases h
  exact ⟨[],XP.nil,fun h => absurd rfl h,fun acc ha => ⟨acc,stop acc,by omega,fun _ => by simp,fun h => by simpa using h⟩,fun pre acc _ ha => iend pre acc ha⟩
 | succ n ih =>
  intro e ps hn hm h
  cases h with
  | done => exact ⟨[],XP.nil,fun h => absurd rfl h,fun acc ha => ⟨acc,stop acc,by omega,fun _ => by simp,fun h => by simpa using h⟩,fun pre acc _ ha => iend pre acc ha⟩
  | letter c e ps _ hc h =>
   simp only [List.length_cons] at hn
   obtain ⟨X,xp,_,i1,i2⟩:=ih e ps (by omega) (by omega) h
   refine ⟨[c] ++ X,XP.letter t c ps X xp,fun _ => by simp,?_,?_⟩
   ·intro acc ha
    by_cases hs : acc.length ≤ 1000
    ·obtain ⟨acc2,g1,g2,g3,g4⟩:=sTimes (t : Int) e [c] 1 (by omega) (by simp) (by simp) 1001 0 acc (by omega) (by omega) (by omega)
     have er : Lib.repeatL [c] (1 - 0) = [c]:=Lib.repeatL_one _
     rw [er] at g1 g2
     simp only [List.length_cons,List.length_nil] at g1 g2 g3
     obtain ⟨v,v1,v2,v3,v4⟩:=i1 acc2 (by omega)
     refine ⟨v,?_,by omega,?_,?_⟩
     ·refine enter _ acc _ (by simp) hs ?_
      refine Ev.bind (next_letter (B (c :: e)) c e (by unfold B;rw [L_mk]) hc) (Ev_f (by simp) ?_)
      exact g4 _ v1
     ·intro hl
      simp only [List.length_append,List.length_cons,List.length_nil] at hl
      have q:=g1 (by omega)
      rw [v3 (by rw [q];simp;omega),q];simp
     ·intro hl
      simp only [List.length_append,List.length_cons,List.length_nil] at hl
      apply v4
      by_cases q : acc.length + (0 + 1) ≤ 1000
      ·rw [g1 q];simp;omega
      ·have:=g2 (by omega);omega
    ·exact ⟨acc,full _ acc (by simp) (by omega),by omega,fun hl => by omega,fun _ => by omega⟩
   ·intro pre acc hp ha
    simp only [List.length_cons] at hp
    have i2':=i2 (pre ++ [(⟨⟨#[c]⟩,[]⟩ : Part)]) (acc ++ [c]) (by simp;omega)
    have tf:=times_fit acc.length 1 1 (by omega) ha
    refine Ev.step (f:=?f1) (fun k => ?h1) ?k1
    case h1 =>
     simp only [impl_expand.l0]
     rw [if_pos (by simp;omega),if_pos (by omega),if_pos (by simp;omega),rd_at,if_neg (by rw [toList_L];simp [L]),if_neg (show ¬ (((⟨#[c]⟩ : ByteArray).size : Nat) : Int) = 0 from by show ¬ ((1 : Nat) : Int) = 0;omega),w64 (x:=(pre.length : Int) + 1) (by omega) (by omega)] <;> exact rfl
    by_cases q : 1000 < acc.length + 1 * 1
    ·refine Ev_t (by rw [B_size];exact tf.mpr q) ((Ev.now _).is ?_)
     unfold exR;rw [if_neg (by simp only [List.length_append,List.length_cons,List.length_nil];omega)];rfl
    ·refine Ev_f (by rw [B_size];exact fun z => q (tf.mp z)) ?_
     have it:=iTimes [c] 1 acc.length ha (by simp) (by simpa using q)
     rw [Lib.repeatL_one] at it
     refine Ev_eq it ?_
     refine Ev_t (by rw [B_size,B_size];simp;omega) ?_
     rw [← exR_app]
     have:=i2' (by simp;omega)
     refine Ev.congr (fun k => ?_) this
     rw [B_add];simp
  | again e w e2 ps _ h hw h2 =>
   simp only [List.length_cons] at hn
   obtain ⟨v0,hv⟩:=h.suffix
   have hel:=congrArg List.length hv
   simp only [List.length_append,List.length_cons] at hel
   obtain ⟨Y,yp,y0,j1,j2⟩:=ih v0 w (by omega) (by omega) (reads_inner h hv)
   obtain ⟨X,xp,_,i1,i2⟩:=ih e2 ps (by omega) (by omega) h2
   have hY:=y0 hw
   have hrl:=Lib.repeatL_length Y t
   have htY : t * 1 ≤ t * Y.length:=Nat.mul_le_mul_left t hY
   refine ⟨Lib.repeatL Y t ++ X,XP.again t w ps Y X yp xp,fun _ => by rw [List.length_append,hrl];omega,?_,?_⟩
   ·intro acc ha
    by_cases hs : acc.length ≤ 1000
    ·obtain ⟨u,u1,u2,u3,u4⟩:=j1 [] (by simp)
     simp only [List.length_nil,Nat.zero_add,List.nil_append] at u2 u3 u4
     have hu1 : 1 ≤ u.length:=by
      by_cases q : Y.length ≤ 1000
      ·rw [u3 q];exact hY
      ·have:=u4 (by omega);omega
     obtain ⟨acc2,g1,g2,g3,g4⟩:=sTimes (t : Int) e2 u t ht hu1 (by omega) 1001 0 acc (by omega) (by omega) (by omega)
     have hru:=Lib.repeatL_length u t
     have htu : t * 1 ≤ t * u.length:=Nat.mul_le_mul_left t hu1
     have htu2 : 1 * u.length ≤ t * u.length:=Nat.mul_le_mul_right _ ht0
     have htY2 : 1 * Y.length ≤ t * Y.length:=Nat.mul_le_mul_right _ ht0
     rw [Nat.sub_zero,hru] at g1 g2
     obtain ⟨v,v1,v2,v3,v4⟩:=i1 acc2 (by omega)
     refine ⟨v,?_,by omega,?_,?_⟩
     ·refine enter _ acc _ (by simp) hs ?_
      refine Ev.bind (next_again (B (40 :: e)) e v0 e2 w (by unfold B;rw [L_mk]) hv h hw (by rw [B_size];simp;omega)) (Ev_t rfl ?_)
      refine Ev.bind (a:=B u) ?_ ?_
      ·refine Ev.step (fun k => ?_) u1
       simp only [spec_l7Expand.f];rfl
      ·exact g4 _ v1
     ·intro hl
      rw [List.length_append,hrl] at hl
      have q:=u3 (by omega)
      subst q
      have q2:=g1 (by omega)
      rw [v3 (by rw [q2,List.length_append,hru];omega),q2,List.append_assoc]
     ·intro hl
      rw [List.length_append,hrl] at hl
      apply v4
      by_cases q : Y.length ≤ 1000
      ·have q2:=u3 q
       subst q2
       by_cases q3 : acc.length + t * u.length ≤ 1000
       ·rw [g1 q3,List.length_append,hru];omega
       ·have:=g2 (by omega);omega
      ·have:=u4 (by omega)
       have:=g2 (by omega)
       omega
    ·exact ⟨acc,full _ acc (by simp) (by omega),by omega,fun hl => by omega,fun _ => by omega⟩
   ·intro pre acc hp ha
    simp only [List.length_cons] at hp
    have htY2 : 1 * Y.length ≤ t * Y.length:=Nat.mul_le_mul_right _ ht0
    have hwl:=(reads_inner h hv).parts
    have i2':=i2 (pre ++ [(⟨⟨#[]⟩,w⟩ : Part)]) (acc ++ Lib.repeatL Y t) (by simp;omega)
    have j2':=j2 [] [] (by simp;simp at hwl;omega) (by simp)
    refine Ev.step (f:=?f2) (fun k => ?h2) ?k2
    case h2 =>
     simp only [impl_expand.l0]
     rw [if_pos (by simp;omega),if_pos (by omega),if_pos (by simp;omega),rd_at,if_pos (by rw [toList_L];simp [L]),w64 (x:=(pre.length : Int) + 1) (by omega) (by omega)] <;> exact rfl
    refine Ev.bind (a:=exR [] Y) (Ev.step (fun k => by simp only [impl_expand.f];rfl) j2') ?_
    by_cases hy : Y.length ≤ 1000
    ·have eR : exR [] Y = (B Y,true):=by unfold exR;rw [if_pos (by simpa using hy)];rfl
     rw [eR]
     refine Ev_t rfl (Ev_f (by show ¬ ((B Y).size : Int) = 0;rw [B_size];omega) ?_)
     have tf:=times_fit acc.length Y.length t hY ha
     by_cases q : 1000 < acc.length + t * Y.length
     ·refine Ev_t (by show (t : Int) > wrap64 (Int.tdiv (wrap64 (1000 - ((B acc).size : Int))) ((B Y).size : Int));rw [B_size,B_size];exact tf.mpr q) ((Ev.now _).is ?_)
      unfold exR;rw [if_neg (by rw [List.length_append,hrl];omega)];rfl
     ·refine Ev_f (by show ¬ (t : Int) > wrap64 (Int.tdiv (wrap64 (1000 - ((B acc).size : Int))) ((B Y).size : Int));rw [B_size,B_size];exact fun z => q (tf.mp z)) ?_
      refine Ev_eq (iTimes Y t acc.length ha hY q) ?_
      refine Ev_t (by rw [B_size,B_size,hrl];omega) ?_
      rw [← exR_app]
      have:=i2' (by rw [List.length_append,hrl];omega)
      refine Ev.congr (fun k => ?_) this
      rw [B_add];simp
    ·have eR : exR [] Y = (B [],false):=by unfold exR;rw [if_neg (by simpa using hy)]
     rw [eR]
     refine Ev_f (by simp) ((Ev.now _).is ?_)
     unfold exR;rw [if_neg (by rw [List.length_append,hrl];omega)];rfl
theorem expand_both (s : ByteArray) (n : Int) (hn : n ≤ 9223372036854775807) : ∃ v : ByteArray × Bool,Ev (fun k => spec_ExpandExpression.f k s n) v ∧ Ev (fun k => impl_ExpandExpression.f k s n) v:=by
 have no : ∀ ps,Ev (fun k => spec_ExpressionValid.f k s) false → Ev (fun k => impl_parts.f k s) (ps,false) → ∃ v : ByteArray × Bool,Ev (fun k => spec_ExpandExpression.f k s n) v ∧ Ev (fun k => impl_ExpandExpression.f k s n) v:=by
  intro ps hv hp
  refine ⟨(B [],false),?_,?_⟩
  ·unfold spec_ExpandExpression.f
   exact Ev.bind hv (Ev_f (by simp) (Ev.now _))
  ·unfold impl_ExpandExpression.f
   exact Ev.bind hp (Ev_f (by simp) (Ev.now _))
 by_cases h : s.size ≤ 120
 ·obtain ⟨ps,r,hr,hp⟩:=parts_eval s h
  have hv:=valid_eval s h hr
  have hle:=hr.parts
  rw [← L_size] at hle
  by_cases hb : ps ≠ [] ∧ r = []
  ·rw [decide_eq_true hb] at hv hp
   obtain ⟨hb1,rfl⟩:=hb
   by_cases h1 : n < 1
   ·refine ⟨(B [],false),?_,?_⟩
    ·unfold spec_ExpandExpression.f
     exact Ev.bind hv (Ev_t rfl (Ev_t h1 (Ev.now _)))
    ·unfold impl_ExpandExpression.f
     exact Ev.bind hp (Ev_t rfl (Ev_t h1 (Ev.now _)))
   ·obtain ⟨t,rfl⟩ : ∃ t : Nat,n = (t : Int):=⟨n.toNat,by omega⟩
    obtain ⟨X,_,_,i1,i2⟩:=expand_reads t (by omega) hn (L s).length (L s) ps (Nat.le_refl _) (by rw [← L_size];omega) hr
    obtain ⟨v,v1,v2,v3,v4⟩:=i1 [] (by simp)
    simp only [List.length_nil,Nat.zero_add,List.nil_append] at v2 v3 v4
    rw [B_L] at v1
    refine ⟨exR [] X,?_,?_⟩
    ·unfold spec_ExpandExpression.f
     refine Ev.bind hv (Ev_t rfl (Ev_f h1 ?_))
     refine Ev.bind (a:=B v) (Ev.step (fun k => by simp only [spec_l7Expand.f];rfl) v1) ?_
     by_cases hX : X.length ≤ 1000
     ·rw [v3 hX]
      refine Ev_f (by rw [B_size];omega) ((Ev.now _).is ?_)
      unfold exR;rw [if_pos (by simpa using hX)];rfl
     ·refine Ev_t (by rw [B_size];have:=v4 (by omega);omega) ((Ev.now _).is ?_)
      unfold exR;rw [if_neg (by simpa using hX)];rfl
    ·unfold impl_ExpandExpression.f
     refine Ev.bind hp (Ev_t rfl (Ev_f h1 ?_))
     exact Ev.bind (Ev.step (fun k => by simp only [impl_expand.f];rfl) (i2 [] [] (by simp;omega) (by simp))) (Ev.now _)
  ·rw [decide_eq_false hb] at hv hp
   exact no ps hv hp
 ·exact no [] (valid_long s (by omega)) (parts_long s (by omega))
theorem expand_ireads (t : Nat) (ht0 : 1 ≤ t) (ht : (t : Int) ≤ 9223372036854775807) (n : Nat) : ∀ (e : List UInt8) (ps : List Part),e.length ≤ n → n ≤ 1000 → Reads e ps [] → ∃ X : List UInt8,XP t ps X ∧ (ps ≠ [] → 1 ≤ X.length) ∧
  (∀ (pre : List Part) (acc : List UInt8),pre.length + ps.length ≤ 1000000 → acc.length ≤ 1000 → Ev (fun k => impl_expand.l0 k (t : Int) (B acc) (pre ++ ps) ((pre ++ ps).length) pre.length) (exR acc X)):=by
 have iend : ∀ (pre : List Part) (acc : List UInt8),acc.length ≤ 1000 → Ev (fun k => impl_expand.l0 k (t : Int) (B acc) (pre ++ []) ((pre ++ []).length) pre.length) (exR acc []):=by
  intro pre acc ha
  rw [exR_nil acc ha]
  refine Ev.step (f:=fun _ => some (B acc,true)) (fun k => ?_) (Ev.now _)
  simp only [impl_expand.l0];rw [if_neg (by simp)]
 induction n with
 | zero =>
  intro e ps hn hm h
  have he : e = []:=List.length_eq_zero_iff.mp (by omega)
  subst he
  cases h
  exact ⟨[],XP.nil,fun h => absurd rfl h,fun pre acc _ ha => iend pre acc ha⟩
 | succ n ih =>
  intro e ps hn hm h
  cases h with
  | done => exact ⟨[],XP.nil,fun h => absurd rfl h,fun pre acc _ ha => iend pre acc ha⟩
  | letter c e ps _ hc h =>
   simp only [List.length_cons] at hn
   obtain ⟨X,xp,_,i2⟩:=ih e ps (by omega) (by omega) h
   refine ⟨[c] ++ X,XP.letter t c ps X xp,fun _ => by simp,?_⟩
   ·intro pre acc hp ha
    simp only [List.length_cons] at hp
    have i2':=i2 (pre ++ [(⟨⟨#[c]⟩,[]⟩ : Part)]) (acc ++ [c]) (by simp;omega)
    have tf:=times_fit acc.length 1 1 (by omega) ha
    refine Ev.step (f:=?f1) (fun k => ?h1) ?k1
    case h1 =>
     simp only [impl_expand.l0]
     rw [if_pos (by simp;omega),if_pos (by omega),if_pos (by simp;omega),rd_at,if_neg (by rw [toList_L];simp [L]),if_neg (show ¬ (((⟨#[c]⟩ : ByteArray).size : Nat) : Int) = 0 from by show ¬ ((1 : Nat) : Int) = 0;omega),w64 (x:=(pre.length : Int) + 1) (by omega) (by omega)] <;> exact rfl
    by_cases q : 1000 < acc.length + 1 * 1
    ·refine Ev_t (by rw [B_size];exact tf.mpr q) ((Ev.now _).is ?_)
     unfold exR;rw [if_neg (by simp only [List.length_append,List.length_cons,List.length_nil];omega)];rfl
    ·refine Ev_f (by rw [B_size];exact fun z => q (tf.mp z)) ?_
     have it:=iTimes [c] 1 acc.length ha (by simp) (by simpa using q)
     rw [Lib.repeatL_one] at it
     refine Ev_eq it ?_
     refine Ev_t (by rw [B_size,B_size];simp;omega) ?_
     rw [← exR_app]
     have:=i2' (by simp;omega)
     refine Ev.congr (fun k => ?_) this
     rw [B_add];simp
  | again e w e2 ps _ h hw h2 =>
   simp only [List.length_cons] at hn
   obtain ⟨v0,hv⟩:=h.suffix
   have hel:=congrArg List.length hv
   simp only [List.length_append,List.length_cons] at hel
   obtain ⟨Y,yp,y0,j2⟩:=ih v0 w (by omega) (by omega) (reads_inner h hv)
   obtain ⟨X,xp,_,i2⟩:=ih e2 ps (by omega) (by omega) h2
   have hY:=y0 hw
   have hrl:=Lib.repeatL_length Y t
   have htY : t * 1 ≤ t * Y.length:=Nat.mul_le_mul_left t hY
   refine ⟨Lib.repeatL Y t ++ X,XP.again t w ps Y X yp xp,fun _ => by rw [List.length_append,hrl];omega,?_⟩
   ·intro pre acc hp ha
    simp only [List.length_cons] at hp
    have htY2 : 1 * Y.length ≤ t * Y.length:=Nat.mul_le_mul_right _ ht0
    have hwl:=(reads_inner h hv).parts
    have i2':=i2 (pre ++ [(⟨⟨#[]⟩,w⟩ : Part)]) (acc ++ Lib.repeatL Y t) (by simp;omega)
    have j2':=j2 [] [] (by simp;simp at hwl;omega) (by simp)
    refine Ev.step (f:=?f2) (fun k => ?h2) ?k2
    case h2 =>
     simp only [impl_expand.l0]
     rw [if_pos (by simp;omega),if_pos (by omega),if_pos (by simp;omega),rd_at,if_pos (by rw [toList_L];simp [L]),w64 (x:=(pre.length : Int) + 1) (by omega) (by omega)] <;> exact rfl
    refine Ev.bind (a:=exR [] Y) (Ev.step (fun k => by simp only [impl_expand.f];rfl) j2') ?_
    by_cases hy : Y.length ≤ 1000
    ·have eR : exR [] Y = (B Y,true):=by unfold exR;rw [if_pos (by simpa using hy)];rfl
     rw [eR]
     refine Ev_t rfl (Ev_f (by show ¬ ((B Y).size : Int) = 0;rw [B_size];omega) ?_)
     have tf:=times_fit acc.length Y.length t hY ha
     by_cases q : 1000 < acc.length + t * Y.length
     ·refine Ev_t (by show (t : Int) > wrap64 (Int.tdiv (wrap64 (1000 - ((B acc).size : Int))) ((B Y).size : Int));rw [B_size,B_size];exact tf.mpr q) ((Ev.now _).is ?_)
      unfold exR;rw [if_neg (by rw [List.length_append,hrl];omega)];rfl
     ·refine Ev_f (by show ¬ (t : Int) > wrap64 (Int.tdiv (wrap64 (1000 - ((B acc).size : Int))) ((B Y).size : Int));rw [B_size,B_size];exact fun z => q (tf.mp z)) ?_
      refine Ev_eq (iTimes Y t acc.length ha hY q) ?_
      refine Ev_t (by rw [B_size,B_size,hrl];omega) ?_
      rw [← exR_app]
      have:=i2' (by rw [List.length_append,hrl];omega)
      refine Ev.congr (fun k => ?_) this
      rw [B_add];simp
    ·have eR : exR [] Y = (B [],false):=by unfold exR;rw [if_neg (by simpa using hy)]
     rw [eR]
     refine Ev_f (by simp) ((Ev.now _).is ?_)
     unfold exR;rw [if_neg (by rw [List.length_append,hrl];omega)];rfl
theorem rep_all (w : List UInt8) (h : w.all wOk = true) : ∀ t,(Lib.repeatL w t).all wOk = true
 | 0 => rfl
 | t + 1 => by
  show (w ++ Lib.repeatL w t).all wOk = true
  rw [List.all_append,h,rep_all w h t];rfl
theorem xp_word (t : Nat) {e : List UInt8} {ps : List Part} {r : List UInt8} (h : Reads e ps r) : ∀ X,XP t ps X → X.all wOk = true:=by
 induction h with
 | done => intro X hX;cases hX;rfl
 | letter c e ps r hc _ ih =>
  intro X hX
  cases hX with
  | cons _ _ Y X2 h1 h2 =>
   have q:=ih X2 h2
   rw [if_neg (by simp [L]),List.all_append,q]
   rcases hc with rfl|rfl <;> rfl
 | again e w e2 ps r _ _ _ ih1 ih2 =>
  intro X hX
  cases hX with
  | cons _ _ Y X2 h1 h2 =>
   have q1:=ih1 Y h1
   have q2:=ih2 X2 h2
   rw [if_pos (by simp [L]),List.all_append,q2,rep_all Y q1 t];rfl
 | other c e => intro X hX;cases hX;rfl
 | bad e w r1 => intro X hX;cases hX;rfl
theorem exR_word {X : List UInt8} (h : X.all wOk = true) : (exR [] X).2 = true → wordB (L (exR [] X).1) = true:=by
 intro q
 unfold exR at q ⊢
 by_cases hX : ([] : List UInt8).length + X.length ≤ 1000
 ·rw [if_pos hX]
  show wordB (L (B ([] ++ X))) = true
  unfold B wordB
  rw [L_mk,List.nil_append,h]
  simp at hX
  simpa using hX
 ·rw [if_neg hX] at q;cases q
theorem expand_word (s : ByteArray) (n : Int) (hn : n ≤ 9223372036854775807) : ∃ v : ByteArray × Bool,Ev (fun k => spec_ExpandExpression.f k s n) v ∧ Ev (fun k => impl_ExpandExpression.f k s n) v ∧ (v.2 = true → wordB (L v.1) = true):=by
 have no : ∀ ps,Ev (fun k => spec_ExpressionValid.f k s) false → Ev (fun k => impl_parts.f k s) (ps,false) → ∃ v : ByteArray × Bool,Ev (fun k => spec_ExpandExpression.f k s n) v ∧ Ev (fun k => impl_ExpandExpression.f k s n) v ∧ (v.2 = true → wordB (L v.1) = true):=by
  intro ps hv hp
  refine ⟨(B [],false),?_,?_,fun h => by cases h⟩
  ·unfold spec_ExpandExpression.f
   exact Ev.bind hv (Ev_f (by simp) (Ev.now _))
  ·unfold impl_ExpandExpression.f
   exact Ev.bind hp (Ev_f (by simp) (Ev.now _))
 by_cases h : s.size ≤ 120
 ·obtain ⟨ps,r,hr,hp⟩:=parts_eval s h
  have hv:=valid_eval s h hr
  have hle:=hr.parts
  rw [← L_size] at hle
  by_cases hb : ps ≠ [] ∧ r = []
  ·rw [decide_eq_true hb] at hv hp
   obtain ⟨hb1,rfl⟩:=hb
   by_cases h1 : n < 1
   ·refine ⟨(B [],false),?_,?_,fun h => by cases h⟩
    ·unfold spec_ExpandExpression.f
     exact Ev.bind hv (Ev_t rfl (Ev_t h1 (Ev.now _)))
    ·unfold impl_ExpandExpression.f
     exact Ev.bind hp (Ev_t rfl (Ev_t h1 (Ev.now _)))
   ·obtain ⟨t,rfl⟩ : ∃ t : Nat,n = (t : Int):=⟨n.toNat,by omega⟩
    obtain ⟨X,xp,_,i1,i2⟩:=expand_reads t (by omega) hn (L s).length (L s) ps (Nat.le_refl _) (by rw [← L_size];omega) hr
    obtain ⟨v,v1,v2,v3,v4⟩:=i1 [] (by simp)
    simp only [List.length_nil,Nat.zero_add,List.nil_append] at v2 v3 v4
    rw [B_L] at v1
    refine ⟨exR [] X,?_,?_,exR_word (xp_word t hr X xp)⟩
    ·unfold spec_ExpandExpression.f
     refine Ev.bind hv (Ev_t rfl (Ev_f h1 ?_))
     refine Ev.bind (a:=B v) (Ev.step (fun k => by simp only [spec_l7Expand.f];rfl) v1) ?_
     by_cases hX : X.length ≤ 1000
     ·rw [v3 hX]
      refine Ev_f (by rw [B_size];omega) ((Ev.now _).is ?_)
      unfold exR;rw [if_pos (by simpa using hX)];rfl
     ·refine Ev_t (by rw [B_size];have:=v4 (by omega);omega) ((Ev.now _).is ?_)
      unfold exR;rw [if_neg (by simpa using hX)];rfl
    ·unfold impl_ExpandExpression.f
     refine Ev.bind hp (Ev_t rfl (Ev_f h1 ?_))
     exact Ev.bind (Ev.step (fun k => by simp only [impl_expand.f];rfl) (i2 [] [] (by simp;omega) (by simp))) (Ev.now _)
  ·rw [decide_eq_false hb] at hv hp
   exact no ps hv hp
 ·exact no [] (valid_long s (by omega)) (parts_long s (by omega))
theorem growth_loop (m : Nat) (s f : List Int) (t : List Stp) (g1 : AV m s f t = true) (ls : s.length ≤ 1000000000) (lf : f.length ≤ 1000000000) (hl : t.length ≤ 1000000000) (x : ByteArray) (hv : Ev (fun k => spec_ExpressionValid.f k x) true) (N : Nat) (hN : N ≤ 20) :
  ∀ (d i : Nat) (acc : List Int),i + d = N → acc.length = i → ∃ r : List Int × Bool,r.1.length ≤ 2000 ∧ Ev (fun k => spec_GrowthOf.l0 k x (N : Int) acc ((i + 1 : Nat) : Int) (m : Int) s f t) r ∧ Ev (fun k => impl_GrowthOf.l0 k x (N : Int) acc ((i + 1 : Nat) : Int) (m : Int) s f t) r:=by
 intro d
 induction d with
 | zero =>
  intro i acc hi ha
  refine ⟨(acc,true),by show acc.length ≤ 2000;omega,?_,?_⟩
  ·refine Ev.step (f:=fun k => (spec_ExpressionValid.f k x).bind fun t5 => some (acc,t5)) (fun k => ?_) (Ev.bind hv (Ev.now _))
   simp only [spec_GrowthOf.l0];rw [if_neg (by omega)]
  ·refine Ev.step (f:=fun _ => some (acc,true)) (fun k => ?_) (Ev.now _)
   simp only [impl_GrowthOf.l0];rw [if_neg (by omega)]
 | succ d ih =>
  intro i acc hi ha
  obtain ⟨⟨v1,v2⟩,e1,e2,e3⟩:=expand_word x ((i + 1 : Nat) : Int) (by omega)
  have c0 : ((i + 1 : Nat) : Int) ≤ (N : Int):=by omega
  cases v2 with
  | false =>
   refine ⟨([],false),by simp,?_,?_⟩
   ·refine Ev.step (f:=fun k => (spec_ExpandExpression.f k x ((i + 1 : Nat) : Int)).bind fun t3 => if t3.2 = true then (spec_l4Cost.f k (m : Int) s f t t3.1).bind fun t4 => if (acc : List Int).length < 17592186044416 then spec_GrowthOf.l0 k x (N : Int) (acc ++ [t4]) (wrap64 (((i + 1 : Nat) : Int) + 1)) (m : Int) s f t else none else some ([],false)) (fun k => by simp only [spec_GrowthOf.l0];rw [if_pos c0]) (Ev.bind e1 (Ev_f (by simp) (Ev.now _)))
   ·refine Ev.step (f:=fun k => (impl_ExpandExpression.f k x ((i + 1 : Nat) : Int)).bind fun t3 => if t3.2 = true then (impl_CostOf.f k (m : Int) s f t t3.1).bind fun t4 => if (acc : List Int).length < 17592186044416 then impl_GrowthOf.l0 k x (N : Int) (acc ++ [t4]) (wrap64 (((i + 1 : Nat) : Int) + 1)) (m : Int) s f t else none else some ([],false)) (fun k => by simp only [impl_GrowthOf.l0];rw [if_pos c0]) (Ev.bind e2 (Ev_f (by simp) (Ev.now _)))
  | true =>
   have g2:=e3 rfl
   have hw:=(wordB_size g2).1
   obtain ⟨r,r0,r1,r2⟩:=ih (i + 1) (acc ++ [costL s (colL m t (L v1) (finL m f))]) (by omega) (by simp [ha])
   have b0 : acc.length < 17592186044416:=by omega
   have wn : wrap64 (((i + 1 : Nat) : Int) + 1) = ((i + 1 + 1 : Nat) : Int):=wnat (by omega)
   have ic:=iCostOf (m : Int) s f t v1 ls lf hl (by show v1.size ≤ 4000000;have : v1.size ≤ 1000:=hw;omega)
   have ce : costR (m : Int) s f t v1 = costL s (colL m t (L v1) (finL m f)):=by unfold costR;rw [if_pos ⟨g1,g2⟩];rfl
   rw [ce] at ic
   refine ⟨r,r0,?_,?_⟩
   ·refine Ev.step (f:=fun k => (spec_ExpandExpression.f k x ((i + 1 : Nat) : Int)).bind fun t3 => if t3.2 = true then (spec_l4Cost.f k (m : Int) s f t t3.1).bind fun t4 => if acc.length < 17592186044416 then spec_GrowthOf.l0 k x (N : Int) (acc ++ [t4]) (wrap64 (((i + 1 : Nat) : Int) + 1)) (m : Int) s f t else none else some ([],false)) (fun k => by simp only [spec_GrowthOf.l0];rw [if_pos c0]) (Ev.bind e1 (Ev_t rfl (Ev.bind (sCost m s f t v1 g1 g2 ls lf hl) (Ev_t b0 ?_))))
    rw [wn];exact r1
   ·refine Ev.step (f:=fun k => (impl_ExpandExpression.f k x ((i + 1 : Nat) : Int)).bind fun t3 => if t3.2 = true then (impl_CostOf.f k (m : Int) s f t t3.1).bind fun t4 => if acc.length < 17592186044416 then impl_GrowthOf.l0 k x (N : Int) (acc ++ [t4]) (wrap64 (((i + 1 : Nat) : Int) + 1)) (m : Int) s f t else none else some ([],false)) (fun k => by simp only [impl_GrowthOf.l0];rw [if_pos c0]) (Ev.bind e2 (Ev_t rfl (Ev.bind ic (Ev_t b0 ?_))))
    rw [wn];exact r2
theorem growth_both (n : Int) (s f : List Int) (t : List Stp) (x : ByteArray) (a : Int) (ls : s.length ≤ 1000000000) (lf : f.length ≤ 1000000000) (hl : t.length ≤ 1000000000) : ∃ r : List Int × Bool,r.1.length ≤ 2000 ∧ Ev (fun k => spec_GrowthOf.f k n s f t x a) r ∧ Ev (fun k => impl_GrowthOf.f k n s f t x a) r:=by
 obtain ⟨b,ps,v1,v2⟩:=valid_both x
 have v3 : Ev (fun k => impl_ExpressionValid.f k x) b:=by unfold impl_ExpressionValid.f;exact Ev.bind v2 (Ev.now _)
 by_cases g1 : AV n s f t = true
 case neg =>
  refine ⟨([],false),by simp,?_,?_⟩
  ·unfold spec_GrowthOf.f;exact Ev.bind (sAV n s f t ls lf hl) (Ev_f g1 (Ev.now _))
  ·unfold impl_GrowthOf.f;exact Ev.bind (iAV n s f t ls lf hl) (Ev_f g1 (Ev.now _))
 obtain ⟨h1,h2,h3,h4,h5⟩:=AV_parts g1
 obtain ⟨m,rfl⟩ : ∃ m : Nat,n = (m : Int):=⟨n.toNat,by omega⟩
 have sp : ∀ r,Ev (fun k => spec_GrowthOf.l0 k x a [] 1 (m : Int) s f t) r → (0 ≤ a ∧ a ≤ 20) → Ev (fun k => spec_GrowthOf.f k (m : Int) s f t x a) r:=fun r h ha => by
  unfold spec_GrowthOf.f
  refine Ev.bind (sAV m s f t ls lf hl) (Ev_t g1 ?_)
  simp only [sIn,Option.bind_some]
  exact Ev_t (decide_eq_true ha) h
 by_cases ha : 0 ≤ a ∧ a ≤ 20
 case neg =>
  refine ⟨([],false),by simp,?_,?_⟩
  ·unfold spec_GrowthOf.f
   refine Ev.bind (sAV m s f t ls lf hl) (Ev_t g1 ?_)
   simp only [sIn,Option.bind_some]
   exact Ev_f (by rw [decide_eq_false ha];simp) (Ev.now _)
  ·unfold impl_GrowthOf.f
   refine Ev.bind (iAV m s f t ls lf hl) (Ev_t g1 (Ev.bind v3 ?_))
   by_cases hb : b = true
   ·refine Ev_t hb ?_
    by_cases q : a < 0
    ·exact Ev_t q (Ev.now _)
    ·exact Ev_f q (Ev_t (by omega) (Ev.now _))
   ·exact Ev_f hb (Ev.now _)
 obtain ⟨N,rfl⟩ : ∃ N : Nat,a = (N : Int):=⟨a.toNat,by omega⟩
 cases b with
 | false =>
  refine ⟨([],false),by simp,sp _ ?_ ha,?_⟩
  ·by_cases hN : (1 : Int) ≤ (N : Int)
   ·have ex : Ev (fun k => spec_ExpandExpression.f k x 1) (B [],false):=by unfold spec_ExpandExpression.f;exact Ev.bind v1 (Ev_f (by simp) (Ev.now _))
    exact Ev.step (f:=fun k => (spec_ExpandExpression.f k x 1).bind fun t3 => if t3.2 = true then (spec_l4Cost.f k (m : Int) s f t t3.1).bind fun t4 => if ([] : List Int).length < 17592186044416 then spec_GrowthOf.l0 k x (N : Int) ([] ++ [t4]) (wrap64 (1 + 1)) (m : Int) s f t else none else some ([],false)) (fun k => by simp only [spec_GrowthOf.l0];rw [if_pos hN]) (Ev.bind ex (Ev_f (by simp) (Ev.now _)))
   ·exact Ev.step (f:=fun k => (spec_ExpressionValid.f k x).bind fun t5 => some ([],t5)) (fun k => by simp only [spec_GrowthOf.l0];rw [if_neg hN]) (Ev.bind v1 (Ev.now _))
  ·unfold impl_GrowthOf.f
   exact Ev.bind (iAV m s f t ls lf hl) (Ev_t g1 (Ev.bind v3 (Ev_f (by simp) (Ev.now _))))
 | true =>
  obtain ⟨r,r0,r1,r2⟩:=growth_loop m s f t g1 ls lf hl x v1 N (by omega) N 0 [] (by omega) rfl
  refine ⟨r,r0,sp r r1 ha,?_⟩
  unfold impl_GrowthOf.f
  exact Ev.bind (iAV m s f t ls lf hl) (Ev_t g1 (Ev.bind v3 (Ev_t rfl (Ev_f (by omega) (Ev_f (by omega) r2)))))
theorem reads_app {e ps r} (h : Reads e ps r) : r = [] → ∀ {f : List UInt8} {qs : List Part} {r' : List UInt8},Reads f qs r' → Reads (e ++ f) (ps ++ qs) r':=by
 induction h with
 | done => intro _ f qs r' hf;exact hf
 | letter c e ps r hc h ih => intro hr f qs r' hf;exact Reads.letter c (e ++ f) (ps ++ qs) r' hc (ih hr hf)
 | again e w e2 ps r h1 hw h2 ih1 ih2 =>
  intro hr f qs r' hf
  obtain ⟨v,rfl⟩:=h1.suffix
  have a:=reads_cut h1 (Or.inr rfl) v rfl (41 :: 35 :: (e2 ++ f)) (Or.inr rfl)
  have k:=Reads.again _ w (e2 ++ f) (ps ++ qs) r' a hw (ih2 hr hf)
  simpa using k
 | other c e => intro hr;cases hr
 | bad e w r1 => intro hr;cases hr
theorem parts_of (s : ByteArray) (hs : s.size ≤ 120) {ps r} (h : Reads (L s) ps r) : Ev (fun k => impl_parts.f k s) (ps,decide (ps ≠ [] ∧ r = [])):=by
 have hz:=L_size s
 have h1:=parts_reads h s [] rfl (by simp;omega)
 refine Ev.congr (f:=?fp1) (fun k => ?hp1) ?kp1
 case hp1 => unfold impl_parts.f;rw [if_neg (by omega)] <;> exact rfl
 refine Ev.bind (Ev.step (fun k => by simp only [impl_readParts.f]) h1) ?_
 refine Ev.congr (f:=fun _ => some (ps,decide (ps ≠ [] ∧ r = []))) (fun k => ?_) (Ev.now _)
 dsimp only
 rw [List.nil_append,toList_L,L_mk]
 cases ps with
 | nil => simp
 | cons p ps => cases r <;> simp
theorem VP.fn {n : Nat} {t : List Stp} {ps : List Part} {o : Option (List Int)} (h : VP n t ps o) : ∀ {o' : Option (List Int)},VP n t ps o' → o = o':=by
 induction h with
 | nil => intro o' h';cases h';rfl
 | letter c ps o _ _ ih =>
  intro o' h'
  cases h' with
  | letter _ _ o2 _ h2 => rw [ih h2]
 | again w ps o1 o _ _ ih1 ih2 =>
  intro o' h'
  cases h' with
  | again _ _ p1 p2 g1 g2 => rw [ih1 g1,ih2 g2]
theorem value_at (m : Nat) (s f : List Int) (t : List Stp) (x : ByteArray) (hs : s.length ≤ 1000000000) (hf : f.length ≤ 1000000000) (hl : t.length ≤ 1000000000) (g1 : AV m s f t = true) (hz : x.size ≤ 120) (ps : List Part) (hne : ps ≠ []) (hR : Reads (L x) ps []) :
  ∃ o,VP m t ps o ∧ (∀ y,o = some y → GV (m : Int) y) ∧ Ev (fun k => spec_ValueOf.f k m s f t x) (resV m o) ∧ Ev (fun k => impl_ValueOf.f k m s f t x) (resV m o):=by
 obtain ⟨h1,h2,h3,h4,h5⟩:=AV_parts g1
 have hone:=one_GV m (by omega) (by omega)
 have hxl : (L x).length ≤ 120:=by rw [← L_size];exact hz
 obtain ⟨v,V,o,vo,go,eo⟩:=value_reads m s f t g1 hs hf hl 1000 (L x) ps (by omega) (Nat.le_refl _) hR
 have hx : (⟨(L x).toArray⟩ : ByteArray) = x:=L_inj (L_mk _)
 have hlp:=hR.parts
 simp only [List.length_nil] at hlp
 have hp : Ev (fun k => impl_parts.f k x) (ps,true):=(parts_of x hz hR).is (by rw [decide_eq_true ⟨hne,rfl⟩])
 have hvld : Ev (fun k => spec_ExpressionValid.f k x) true:=(valid_eval x hz hR).is (decide_eq_true ⟨hne,rfl⟩)
 have ve : v (sqL m oneE) = o:=by
  rw [eo _ hone]
  cases o with
  | none => rfl
  | some y => show some (mulL m (sqL m oneE) y) = some y;rw [one_mul' m y (go y rfl)]
 refine ⟨o,vo,go,?_,?_⟩
 ·rw [← ve]
  unfold spec_ValueOf.f
  refine Ev.bind (sAV m s f t hs hf hl) (Ev_t g1 (Ev.bind hvld (Ev_t rfl ?_)))
  refine Ev.bind (a:=resV m (v (sqL m oneE))) ?_ (Ev.now _)
  refine Ev.step (f:=?fa8) (fun k => ?ha8) ?ka8
  case ha8 => simp only [spec_l7Value.f] <;> exact rfl
  refine Ev.bind (sUnit m (by omega) (by omega)) (Ev.bind (sGradesL m _ ?_) ?_)
  ·have h1_:=MV_len (unit_MV m (by omega) (by omega))
   have h2_:=sq_le m (by omega)
   show (sqL m unitE).length ≤ 1048576
   omega
  ·rw [unit_gr,← hx];exact V.sp _ hone
 ·rw [← ve]
  unfold impl_ValueOf.f
  refine Ev.bind hp (Ev_t rfl (Ev.bind (iAV m s f t hs hf hl) (Ev_t g1 ?_)))
  refine Ev.bind (a:=resV m (v (sqL m oneE))) ?_ (Ev.now _)
  exact Ev.step (fun k => by simp only [impl_value.f]) (V.first hne (by omega))
theorem value_or (n : Int) (s f : List Int) (t : List Stp) (x : ByteArray) (hs : s.length ≤ 1000000000) (hf : f.length ≤ 1000000000) (hl : t.length ≤ 1000000000) :
  (Ev (fun k => spec_ValueOf.f k n s f t x) (0,[],false) ∧ Ev (fun k => impl_ValueOf.f k n s f t x) (0,[],false)) ∨
  ∃ (m : Nat) (ps : List Part),n = (m : Int) ∧ AV m s f t = true ∧ x.size ≤ 120 ∧ ps ≠ [] ∧ Reads (L x) ps []:=by
 by_cases g1 : AV n s f t = true
 case neg =>
  obtain ⟨r,_,hg,h1,h2⟩:=value_both n s f t x hs hf hl
  refine .inl ⟨?_,?_⟩
  ·unfold spec_ValueOf.f;exact Ev.bind (sAV n s f t hs hf hl) (Ev_f g1 (Ev.now _))
  ·unfold impl_ValueOf.f
   obtain ⟨ps,ok,hp⟩ : ∃ (ps : List Part) (ok : Bool),Ev (fun k => impl_parts.f k x) (ps,ok):=by
    by_cases hz : x.size ≤ 120
    ·obtain ⟨ps,r,_,hp⟩:=parts_eval x hz;exact ⟨_,_,hp⟩
    ·exact ⟨_,_,parts_long x (by omega)⟩
   refine Ev.bind hp ?_
   cases ok with
   | true => exact Ev_t rfl (Ev.bind (iAV n s f t hs hf hl) (Ev_f g1 (Ev.now _)))
   | false => exact Ev_f (by simp) (Ev.now _)
 obtain ⟨h1,h2,h3,h4,h5⟩:=AV_parts g1
 obtain ⟨m,rfl⟩ : ∃ m : Nat,n = (m : Int):=⟨n.toNat,by omega⟩
 have no : ∀ ps,Ev (fun k => impl_parts.f k x) (ps,false) → Ev (fun k => spec_ExpressionValid.f k x) false → (Ev (fun k => spec_ValueOf.f k m s f t x) (0,[],false) ∧ Ev (fun k => impl_ValueOf.f k m s f t x) (0,[],false)):=by
  intro ps hp hv
  refine ⟨?_,?_⟩
  ·unfold spec_ValueOf.f;exact Ev.bind (sAV m s f t hs hf hl) (Ev_t g1 (Ev.bind hv (Ev_f (by simp) (Ev.now _))))
  ·unfold impl_ValueOf.f;exact Ev.bind hp (Ev_f (by simp) (Ev.now _))
 by_cases hz : x.size ≤ 120
 ·obtain ⟨ps,r,h,hp⟩:=parts_eval x hz
  have hv:=valid_eval x hz h
  by_cases q : ps ≠ [] ∧ r = []
  ·obtain ⟨q1,rfl⟩:=q
   exact .inr ⟨m,ps,rfl,g1,hz,q1,h⟩
  ·rw [decide_eq_false q] at hp hv
   exact .inl (no ps hp hv)
 ·exact .inl (no [] (parts_long x (by omega)) (valid_long x (by omega)))
theorem grade_none (n : Int) (s f : List Int) (t : List Stp) (x : ByteArray) (h : Ev (fun k => spec_ValueOf.f k n s f t x) (0,[],false) ∧ Ev (fun k => impl_ValueOf.f k n s f t x) (0,[],false)) : Ev (fun k => spec_GradeOf.f k n s f t x) (-1) ∧ Ev (fun k => impl_GradeOf.f k n s f t x) (-1) :=
 ⟨by unfold spec_GradeOf.f;exact Ev.bind h.1 (Ev_f (by simp) (Ev.now _)),by unfold impl_GradeOf.f;exact Ev.bind h.2 (Ev_f (by simp) (Ev.now _))⟩
theorem grade_some (m : Nat) (s f : List Int) (t : List Stp) (x : ByteArray) (hs : s.length ≤ 1000000000) (hf : f.length ≤ 1000000000) (hl : t.length ≤ 1000000000) (g1 : AV m s f t = true) (M : List Int) (hM : GV (m : Int) M) (h1 : Ev (fun k => spec_ValueOf.f k m s f t x) ((m : Int),M,true)) (h2 : Ev (fun k => impl_ValueOf.f k m s f t x) ((m : Int),M,true)) : Ev (fun k => spec_GradeOf.f k m s f t x) (betw m s f M) ∧ Ev (fun k => impl_GradeOf.f k m s f t x) (betw m s f M):=by
 obtain ⟨z1,z2,z3,z4,z5⟩:=AV_parts g1
 have e : grB (m : Int) s f t (m : Int) M = betw m s f M:=by unfold grB;rw [if_pos ⟨g1,hM,rfl⟩]
 have a:=iGradeB (m : Int) s f t (m : Int) M hs hf hl (by have:=len_of_GV hM;rw [maxLen_eq];omega)
 rw [e] at a
 refine ⟨?_,?_⟩
 ·unfold spec_GradeOf.f
  exact Ev.bind h1 (Ev_t rfl (Ev.bind (sBetw m z1 s f t M hM.1.2.2.1 (mrk_mem z3) (mrk_mem z4) hs hf) (Ev.now _)))
 ·unfold impl_GradeOf.f
  exact Ev.bind h2 (Ev_t rfl (Ev.bind a (Ev.now _)))
def FB (B : Int) (a : List Int) : Prop := ∀ x ∈ a,x = 1000000 ∨ (0 ≤ x ∧ x ≤ B)
theorem FB_get {B : Int} {a : List Int} (h : FB B a) (hB : 0 ≤ B) (j : Nat) : a.getD j 0 = 1000000 ∨ (0 ≤ a.getD j 0 ∧ a.getD j 0 ≤ B):=by
 rw [List.getD_eq_getElem?_getD]
 by_cases hj : j < a.length
 ·rw [List.getElem?_eq_getElem hj];exact h _ (List.getElem_mem hj)
 ·rw [List.getElem?_eq_none (by omega)];exact .inr ⟨by simp,by simpa using hB⟩
theorem map_get (a : List Int) (j : Nat) : (a.map gr).getD j 0 = gr (a.getD j 0):=by
 rw [List.getD_eq_getElem?_getD,List.getD_eq_getElem?_getD,List.getElem?_map]
 cases a[j]? with
 | none => rfl
 | some x => rfl
theorem FB_step (n : Nat) (c : List UInt8) : ∀ (t : List Stp),(∀ y ∈ t,stepOk n y = true) → ∀ l,FB 3 l → FB 3 (stepL n c t l)
 | [],_,l,h => h
 | y :: t,ht,l,h => by
  show FB 3 (stepL n c t (if y.f1.toList = c then l.set (y.f0 * (n : Int) + y.f2).toNat y.f3 else l))
  refine FB_step n c t (fun z hz => ht z (List.mem_cons_of_mem _ hz)) _ ?_
  by_cases e : y.f1.toList = c
  ·rw [if_pos e]
   obtain ⟨o1,o2,o3,o4,o5,o6,_⟩:=of_decide_eq_true (show decide _ = true from ht y (List.mem_cons_self ..))
   intro x hx
   rcases List.mem_or_eq_of_mem_set hx with q|q
   ·exact h x q
   ·rw [q];exact .inr ⟨o5,o6⟩
  ·rw [if_neg e];exact h
theorem FB_let (n : Nat) (t : List Stp) (ht : ∀ y ∈ t,stepOk n y = true) (c : UInt8) : FB 3 (letL n t c):=FB_step n [c] t ht (cst n) fun x hx => by unfold cst at hx;exact .inl (List.eq_of_mem_replicate hx)
theorem daSame_ev (a : List Int) (h : a.length ≤ 1000000000) : Ev (fun k => laws_daSame.f k a a) true:=by
 have go : ∀ (t pre : List Int),a = pre ++ t → Ev (fun k => laws_daSame.l0 k a a (a.length : Int) (pre.length : Int)) true:=by
  intro t
  induction t with
  | nil =>
   intro pre hp
   refine Ev.step (f:=fun _ => some (decide ((a.length : Int) = (a.length : Int)))) (fun k => ?_) ((Ev.now _).is (decide_eq_true rfl))
   simp only [laws_daSame.l0];rw [if_neg (by rw [hp];simp)]
  | cons x t ih =>
   intro pre hp
   have hlen : a.length = pre.length + (t.length + 1):=by rw [hp];simp
   have a0 : (pre.length : Int) < (a.length : Int):=by omega
   have e : (((pre ++ [x]).length : Nat) : Int) = wrap64 ((pre.length : Int) + 1):=by rw [w64 (by omega) (by omega)];simp
   have nx:=ih (pre ++ [x]) (by simp [hp])
   rw [e] at nx
   refine Ev.step (fun k => ?_) nx
   simp only [laws_daSame.l0]
   rw [if_pos a0,if_pos (Int.natCast_nonneg _),if_pos a0,if_pos a0,if_pos trivial]
 have e : mn (a.length : Int) (a.length : Int) = (a.length : Int):=by unfold mn;rw [if_neg (by omega)]
 unfold laws_daSame.f
 rw [e]
 exact go a [] rfl
def Dc (n : Nat) (t : List Stp) (x : UInt8) (i l : Nat) : Int:=(letL n t x).getD (i * n + l) 0
inductive Pc (n : Nat) (t : List Stp) : List UInt8 → Nat → Nat → Int → Prop
 | nil (i : Nat) : i < n → Pc n t [] i i 0
 | cons (x : UInt8) (w : List UInt8) (i l j : Nat) (c : Int) : i < n → Dc n t x i l < 1000000 → Pc n t w l j c → Pc n t (x :: w) i j (Dc n t x i l + c)
theorem Pc.lt {n : Nat} {t : List Stp} {w : List UInt8} {i j : Nat} {c : Int} (h : Pc n t w i j c) : i < n ∧ j < n:=by
 induction h with
 | nil i h => exact ⟨h,h⟩
 | cons x w i l j c h _ _ ih => exact ⟨h,ih.2⟩
theorem Pc.app {n : Nat} {t : List Stp} {u : List UInt8} {i l : Nat} {a : Int} (h : Pc n t u i l a) : ∀ {v : List UInt8} {j : Nat} {b : Int},Pc n t v l j b → Pc n t (u ++ v) i j (a + b):=by
 induction h with
 | nil i h => intro v j b hv;rw [Int.zero_add];exact hv
 | cons x w i l j c h1 h2 _ ih =>
  intro v j' b hv
  rw [Int.add_assoc]
  exact Pc.cons x (w ++ v) i l j' (c + b) h1 h2 (ih hv)
theorem Pc.split {n : Nat} {t : List Stp} : ∀ (u v : List UInt8) {i j : Nat} {c : Int},Pc n t (u ++ v) i j c → ∃ l a b,Pc n t u i l a ∧ Pc n t v l j b ∧ c = a + b:=by
 intro u
 induction u with
 | nil => intro v i j c h;exact ⟨i,0,c,Pc.nil i h.lt.1,h,by omega⟩
 | cons x u ih =>
  intro v i j c h
  cases h with
  | cons _ _ _ l _ c h1 h2 h3 =>
   obtain ⟨l',a,b,g1,g2,g3⟩:=ih v h3
   exact ⟨l',Dc n t x i l + a,b,Pc.cons x u i l l' a h1 h2 g1,g2,by omega⟩
theorem Dc_in {n : Nat} {t : List Stp} (ht : ∀ y ∈ t,stepOk n y = true) (x : UInt8) (i l : Nat) : Dc n t x i l = 1000000 ∨ (0 ≤ Dc n t x i l ∧ Dc n t x i l ≤ 3):=FB_get (FB_let n t ht x) (by omega) _
theorem Pc.bound {n : Nat} {t : List Stp} (ht : ∀ y ∈ t,stepOk n y = true) {w : List UInt8} {i j : Nat} {c : Int} (h : Pc n t w i j c) : 0 ≤ c ∧ c ≤ 3 * (w.length : Int):=by
 induction h with
 | nil i h => simp
 | cons x w i l j c h1 h2 _ ih =>
  rw [List.length_cons]
  have:=Dc_in ht x i l
  push_cast
  omega
theorem mulCE_le (n : Nat) (a b : List Int) (i k : Nat) (τ : Int) : mulCE n a b i k ≤ τ ↔ 1000000 ≤ τ ∨ ∃ l,l < n ∧ addC (a.getD (i * n + l) 0) (b.getD (l * n + k) 0) ≤ τ:=fold_le n (fun l => addC (a.getD (i * n + l) 0) (b.getD (l * n + k) 0)) 1000000 τ
theorem addC_le (x y τ : Int) : addC x y ≤ τ ↔ x + y ≤ τ ∨ 1000000 ≤ τ:=mn_le _ _ _
theorem wordL_Pc (n : Nat) (h1 : 1 ≤ n) (h4 : n ≤ 4) (t : List Stp) (ht : ∀ y ∈ t,stepOk n y = true) : ∀ (w : List UInt8) (a : List Int),MV (n : Int) a → ∀ i j,i < n → j < n →
  ((wordL n t w a).getD (i * n + j) 0 < 1000000 → ∃ l c,l < n ∧ Pc n t w l j c ∧ a.getD (i * n + l) 0 + c ≤ (wordL n t w a).getD (i * n + j) 0) ∧ (∀ l c,l < n → Pc n t w l j c → (wordL n t w a).getD (i * n + j) 0 ≤ a.getD (i * n + l) 0 + c):=by
 intro w
 induction w with
 | nil =>
  intro a ha i j hi hj
  refine ⟨fun _ => ⟨j,0,hj,Pc.nil j hj,by show a.getD (i * n + j) 0 + 0 ≤ a.getD (i * n + j) 0;omega⟩,fun l c hl h => ?_⟩
  cases h
  show a.getD (i * n + j) 0 ≤ a.getD (i * n + j) 0 + 0
  omega
 | cons x w ih =>
  intro a ha i j hi hj
  have hx:=letL_MV n h1 h4 t ht x
  obtain ⟨g1,g2⟩:=ih (mulCL n a (letL n t x)) (mulCL_MV ha hx) i j hi hj
  have eg : ∀ l,l < n → (mulCL n a (letL n t x)).getD (i * n + l) 0 = mulCE n a (letL n t x) i l:=fun l hl => sqL_get n _ i l hi hl
  refine ⟨fun hv => ?_,fun l c hl h => ?_⟩
  ·obtain ⟨l,c,q1,q2,q3⟩:=g1 hv
   have hv' : (wordL n t w (mulCL n a (letL n t x))).getD (i * n + j) 0 < 1000000:=hv
   have cb:=(q2.bound ht).1
   rw [eg l q1] at q3
   obtain ⟨τ,hτ⟩ : ∃ τ,mulCE n a (letL n t x) i l = τ:=⟨_,rfl⟩
   rw [hτ] at q3
   have hτ2 : τ < 1000000:=by omega
   rcases (mulCE_le n a (letL n t x) i l τ).1 (by omega) with h | ⟨m,m1,m2⟩
   ·omega
   ·have m3:=(addC_le _ _ _).1 m2
    have m4:=(MV_at ha i m hi m1).1
    have m5 : (letL n t x).getD (m * n + l) 0 = Dc n t x m l:=rfl
    rw [m5] at m3
    refine ⟨m,Dc n t x m l + c,m1,Pc.cons x w m l j c m1 (by omega) q2,?_⟩
    show a.getD (i * n + m) 0 + (Dc n t x m l + c) ≤ (wordL n t w (mulCL n a (letL n t x))).getD (i * n + j) 0
    omega
  ·cases h with
   | cons _ _ _ m _ c b1 b2 b3 =>
    have q:=g2 m c b3.lt.1 b3
    rw [eg m b3.lt.1] at q
    have q2 : mulCE n a (letL n t x) i m ≤ a.getD (i * n + l) 0 + Dc n t x l m:=(mulCE_le _ _ _ _ _ _).2 (.inr ⟨l,hl,(addC_le _ _ _).2 (.inl (Int.le_refl _))⟩)
    show (wordL n t w (mulCL n a (letL n t x))).getD (i * n + j) 0 ≤ _
    omega
theorem word_Pc (n : Nat) (h1 : 1 ≤ n) (h4 : n ≤ 4) (t : List Stp) (ht : ∀ y ∈ t,stepOk n y = true) (w : List UInt8) (i j : Nat) (hi : i < n) (hj : j < n) :
  ((wordL n t w (sqL n unitE)).getD (i * n + j) 0 < 1000000 → ∃ c,Pc n t w i j c ∧ c ≤ (wordL n t w (sqL n unitE)).getD (i * n + j) 0) ∧ (∀ c,Pc n t w i j c → (wordL n t w (sqL n unitE)).getD (i * n + j) 0 ≤ c):=by
 obtain ⟨g1,g2⟩:=wordL_Pc n h1 h4 t ht w (sqL n unitE) (unit_MV n h1 h4) i j hi hj
 have e : ∀ l,l < n → (sqL n unitE).getD (i * n + l) 0 = if i = l then 0 else 1000000:=fun l hl => sqL_get n _ i l hi hl
 refine ⟨fun hv => ?_,fun c h => ?_⟩
 ·obtain ⟨l,c,q1,q2,q3⟩:=g1 hv
  rw [e l q1] at q3
  have:=(q2.bound ht).1
  by_cases hil : i = l
  ·subst hil;rw [if_pos rfl] at q3;exact ⟨c,q2,by omega⟩
  ·rw [if_neg hil] at q3;omega
 ·have:=g2 i c hi h
  rw [e i hi,if_pos rfl] at this
  omega
structure VR (n : Nat) (t : List Stp) (N : Nat) (X : List UInt8) (B : Int) (G : List Int) : Prop where
 z : ∀ i j,i < n → j < n → G.getD (i * n + j) 0 ≤ 0 → Pc n t X i j 0
 s : ∀ i j,i < n → j < n → G.getD (i * n + j) 0 ≤ 1 → ∃ c,c ≤ B ∧ Pc n t X i j c
 r : ∀ i j,i < n → j < n → G.getD (i * n + j) 0 ≤ 2 → ∃ c,Pc n t X i j c
 v : ∀ i j c,Pc n t X i j c → G.getD (i * n + j) 0 ≤ 2
 d : n + 1 ≤ N → ∀ i j,Pc n t X i j 0 → G.getD (i * n + j) 0 ≤ 0
 g : n + 1 ≤ N → ∀ i j c,Pc n t X i j c → c < ((N / (n + 1) : Nat) : Int) → G.getD (i * n + j) 0 ≤ 1
theorem mul_to {n : Nat} {a b : List Int} {i l j : Nat} {τ : Int} (hi : i < n) (hl : l < n) (hj : j < n) (h1 : a.getD (i * n + l) 0 ≤ τ) (h2 : b.getD (l * n + j) 0 ≤ τ) : (mulL n a b).getD (i * n + j) 0 ≤ τ:=by
 rw [mulL_get n a b i j hi hj];exact (mulE_le n a b i j τ).2 (.inr ⟨l,hl,h1,h2⟩)
theorem mul_of {n : Nat} {a b : List Int} {i j : Nat} {τ : Int} (hi : i < n) (hj : j < n) (hτ : τ < 3) (h : (mulL n a b).getD (i * n + j) 0 ≤ τ) : ∃ l,l < n ∧ a.getD (i * n + l) 0 ≤ τ ∧ b.getD (l * n + j) 0 ≤ τ:=by
 rw [mulL_get n a b i j hi hj] at h
 rcases (mulE_le n a b i j τ).1 h with h|h
 ·omega
 ·exact h
theorem VR.mul {n : Nat} {t : List Stp} (ht : ∀ y ∈ t,stepOk n y = true) {N : Nat} {X Y : List UInt8} {B C : Int} {G H : List Int} (h1 : VR n t N X B G) (h2 : VR n t N Y C H) (hl : X.length + Y.length ≤ 100000) : VR n t N (X ++ Y) (mn (B + C) 1000000) (mulL n G H) where
 z:=fun i j hi hj h => by
  obtain ⟨l,a,b,c⟩:=mul_of hi hj (by omega) h
  exact (h1.z i l hi a b).app (h2.z l j a hj c)
 s:=fun i j hi hj h => by
  obtain ⟨l,a,b,c⟩:=mul_of hi hj (by omega) h
  obtain ⟨p,p1,p2⟩:=h1.s i l hi a b
  obtain ⟨q,q1,q2⟩:=h2.s l j a hj c
  have e:=((p2.app q2).bound ht).2
  rw [List.length_append] at e
  exact ⟨p + q,mn_ge (by omega) (by omega),p2.app q2⟩
 r:=fun i j hi hj h => by
  obtain ⟨l,a,b,c⟩:=mul_of hi hj (by omega) h
  obtain ⟨p,p2⟩:=h1.r i l hi a b
  obtain ⟨q,q2⟩:=h2.r l j a hj c
  exact ⟨p + q,p2.app q2⟩
 v:=fun i j c h => by
  obtain ⟨l,a,b,p,q,_⟩:=Pc.split X Y h
  exact mul_to p.lt.1 p.lt.2 q.lt.2 (h1.v _ _ _ p) (h2.v _ _ _ q)
 d:=fun hN i j h => by
  obtain ⟨l,a,b,p,q,e⟩:=Pc.split X Y h
  have pa:=(p.bound ht).1
  have qb:=(q.bound ht).1
  obtain rfl : a = 0:=by omega
  obtain rfl : b = 0:=by omega
  exact mul_to p.lt.1 p.lt.2 q.lt.2 (h1.d hN _ _ p) (h2.d hN _ _ q)
 g:=fun hN i j c h hc => by
  obtain ⟨l,a,b,p,q,e⟩:=Pc.split X Y h
  have pa:=(p.bound ht).1
  have qb:=(q.bound ht).1
  exact mul_to p.lt.1 p.lt.2 q.lt.2 (h1.g hN _ _ a p (by omega)) (h2.g hN _ _ b q (by omega))
theorem one_get {n : Nat} {i j : Nat} (hi : i < n) (hj : j < n) : (sqL n oneE).getD (i * n + j) 0 = if i = j then 0 else 3:=sqL_get n _ i j hi hj
theorem VR.one (n : Nat) (t : List Stp) (N : Nat) : VR n t N [] 0 (sqL n oneE):=by
 have key : ∀ i j,i < n → j < n → (sqL n oneE).getD (i * n + j) 0 ≤ 2 → Pc n t [] i j 0:=fun i j hi hj h => by
  rw [one_get hi hj] at h
  by_cases e : i = j
  ·subst e;exact Pc.nil i hi
  ·rw [if_neg e] at h;omega
 have back : ∀ i j c,Pc n t [] i j c → (sqL n oneE).getD (i * n + j) 0 ≤ 0:=fun i j c h => by
  cases h with
  | nil _ h => rw [one_get h h,if_pos rfl];omega
 exact ⟨fun i j hi hj h => key i j hi hj (by omega),fun i j hi hj h => ⟨0,by omega,key i j hi hj (by omega)⟩,fun i j hi hj h => ⟨0,key i j hi hj h⟩,fun i j c h => by have:=back i j c h;omega,fun _ i j h => back i j 0 h,fun _ i j c h _ => by have:=back i j c h;omega⟩
theorem gr_cases (x : Int) : (x = 0 ∧ gr x = 0) ∨ (x = 1000000 ∧ gr x = 3) ∨ (x ≠ 0 ∧ x ≠ 1000000 ∧ gr x = 1):=by
 unfold gr
 by_cases a : x = 0
 ·exact .inl ⟨a,if_pos a⟩
 ·by_cases b : x = 1000000
  ·exact .inr (.inl ⟨b,by rw [if_neg a,if_pos b]⟩)
  ·exact .inr (.inr ⟨a,b,by rw [if_neg a,if_neg b]⟩)
theorem VR.letter {n : Nat} {t : List Stp} (ht : ∀ y ∈ t,stepOk n y = true) (N : Nat) (c : UInt8) : VR n t N [c] 3 (lgr n t c):=by
 have eg : ∀ i j,(lgr n t c).getD (i * n + j) 0 = gr (Dc n t c i j):=fun i j => map_get _ _
 have one : ∀ i j,i < n → j < n → Dc n t c i j < 1000000 → Pc n t [c] i j (Dc n t c i j):=fun i j hi hj h => by
  have:=Pc.cons c [] i j j 0 hi h (Pc.nil j hj)
  rwa [Int.add_zero] at this
 have back : ∀ i j x,Pc n t [c] i j x → x = Dc n t c i j ∧ Dc n t c i j < 1000000:=fun i j x h => by
  cases h with
  | cons _ _ _ l _ y h1 h2 h3 => cases h3;exact ⟨by omega,h2⟩
 refine ⟨fun i j hi hj h => ?_,fun i j hi hj h => ?_,fun i j hi hj h => ?_,fun i j x h => ?_,fun _ i j h => ?_,fun _ i j x h _ => ?_⟩
 ·rw [eg] at h
  have g:=gr_cases (Dc n t c i j)
  have e : Dc n t c i j = 0:=by omega
  have:=one i j hi hj (by omega)
  rwa [e] at this
 ·rw [eg] at h
  have g:=gr_cases (Dc n t c i j)
  have b:=Dc_in ht c i j
  exact ⟨_,by omega,one i j hi hj (by omega)⟩
 ·rw [eg] at h
  have g:=gr_cases (Dc n t c i j)
  have b:=Dc_in ht c i j
  exact ⟨_,one i j hi hj (by omega)⟩
 ·rw [eg]
  have q:=back i j x h
  have g:=gr_cases (Dc n t c i j)
  omega
 ·rw [eg]
  have q:=back i j 0 h
  have g:=gr_cases (Dc n t c i j)
  omega
 ·rw [eg]
  have q:=back i j x h
  have g:=gr_cases (Dc n t c i j)
  omega
section
variable {n : Nat} {t : List Stp} {Y : List UInt8} {M : List Int}
theorem Pc.loops {i : Nat} (h : ∃ c,Pc n t Y i i c) (hi : i < n) : ∀ k,∃ c,Pc n t (Lib.repeatL Y k) i i c
 | 0 => ⟨0,Pc.nil i hi⟩
 | k + 1 => by
  obtain ⟨a,ha⟩:=h
  obtain ⟨b,hb⟩:=Pc.loops ⟨a,ha⟩ hi k
  exact ⟨a + b,ha.app hb⟩
theorem Pc.loops0 {i : Nat} (h : Pc n t Y i i 0) (hi : i < n) : ∀ k,Pc n t (Lib.repeatL Y k) i i 0
 | 0 => Pc.nil i hi
 | k + 1 => h.app (Pc.loops0 h hi k)
theorem rep2 (Y : List UInt8) (k : Nat) : Lib.repeatL Y (k + 2) = Y ++ (Lib.repeatL Y k ++ Y):=by
 rw [show k + 2 = 1 + (k + 1) by omega,Lib.repeatL_add,Lib.repeatL_add,Lib.repeatL_one]
theorem steps_to (ht : ∀ y ∈ t,stepOk n y = true) (hM : mulL n M M = M) (τ γ : Int) (h : ∀ i l a,Pc n t Y i l a → a ≤ γ → M.getD (i * n + l) 0 ≤ τ) : ∀ (k i j : Nat) (c : Int),Pc n t (Lib.repeatL Y (k + 1)) i j c → c ≤ γ → M.getD (i * n + j) 0 ≤ τ:=by
 intro k
 induction k with
 | zero =>
  intro i j c p hc
  rw [Lib.repeatL_one] at p
  exact h i j c p hc
 | succ k ih =>
  intro i j c p hc
  obtain ⟨l,a,b,q1,q2,e⟩:=Pc.split Y (Lib.repeatL Y (k + 1)) p
  have pa:=(q1.bound ht).1
  have qb:=(q2.bound ht).1
  exact trans_le hM i l j q1.lt.1 q1.lt.2 q2.lt.2 τ (h i l a q1 (by omega)) (ih l j b q2 (by omega))
theorem zero_seq (ht : ∀ y ∈ t,stepOk n y = true) (hM : mulL n M M = M) (h : ∀ i l,Pc n t Y i l 0 → M.getD (i * n + l) 0 ≤ 0) : ∀ (k i j : Nat),Pc n t (Lib.repeatL Y k) i j 0 → ∃ p : Nat → Nat,p 0 = i ∧ p k = j ∧ (∀ a,a ≤ k → p a < n) ∧ ∀ a b,a < b → b ≤ k → M.getD (p a * n + p b) 0 ≤ 0:=by
 intro k
 induction k with
 | zero =>
  intro i j q
  cases q with
  | nil _ hi => exact ⟨fun _ => i,rfl,rfl,fun a _ => hi,fun a b h1 h2 => by omega⟩
 | succ k ih =>
  intro i j q
  obtain ⟨l,a,b,q1,q2,e⟩:=Pc.split Y (Lib.repeatL Y k) q
  have pa:=(q1.bound ht).1
  have qb:=(q2.bound ht).1
  obtain rfl : a = 0:=by omega
  obtain rfl : b = 0:=by omega
  obtain ⟨p,p0,pk,pn,pm⟩:=ih l j q2
  have hl:=h i l q1
  refine ⟨fun x => match x with | 0 => i|x + 1 => p x,rfl,pk,fun x hx => ?_,fun x y hxy hy => ?_⟩
  ·cases x with
   | zero => exact q1.lt.1
   | succ x => exact pn x (by omega)
  ·cases y with
   | zero => omega
   | succ y =>
    cases x with
    | zero =>
     show M.getD (i * n + p y) 0 ≤ 0
     cases y with
     | zero => rw [p0];exact hl
     | succ y =>
      have:=pm 0 (y + 1) (by omega) (by omega)
      rw [p0] at this
      exact trans_le hM i l (p (y + 1)) q1.lt.1 q1.lt.2 (pn _ (by omega)) 0 hl this
    | succ x => exact pm x y (by omega) (by omega)
theorem zero_loop (ht : ∀ y ∈ t,stepOk n y = true) (hM : mulL n M M = M) (h : ∀ i l,Pc n t Y i l 0 → M.getD (i * n + l) 0 ≤ 0) (k i j : Nat) (hk : n ≤ k) (p : Pc n t (Lib.repeatL Y k) i j 0) : ∃ l,l < n ∧ M.getD (i * n + l) 0 ≤ 0 ∧ M.getD (l * n + l) 0 ≤ 0 ∧ M.getD (l * n + j) 0 ≤ 0:=by
 obtain ⟨f,f0,fk,fn,fm⟩:=zero_seq ht hM h k i j p
 obtain ⟨a,b,hab,hb,e⟩:=pigeon n f (fun x hx => fn x (by omega))
 refine ⟨f a,fn a (by omega),?_,?_,?_⟩
 ·have:=fm 0 b (by omega) (by omega)
  rw [f0,← e] at this;exact this
 ·have:=fm a b hab (by omega)
  rw [← e] at this;exact this
 ·have:=fm a k (by omega) (Nat.le_refl _)
  rw [fk] at this;exact this
theorem window (ht : ∀ y ∈ t,stepOk n y = true) (q : Nat) : ∀ (m r i j : Nat) (c : Int),Pc n t (Lib.repeatL Y (m * q + r)) i j c → c < (m : Int) → ∃ k1 k2 l1 l2 c1 c2,Pc n t (Lib.repeatL Y k1) i l1 c1 ∧ Pc n t (Lib.repeatL Y q) l1 l2 0 ∧ Pc n t (Lib.repeatL Y k2) l2 j c2 ∧ c1 ≤ c ∧ c2 ≤ c:=by
 intro m
 induction m with
 | zero => intro r i j c p hc;have:=(p.bound ht).1;omega
 | succ m ih =>
  intro r i j c p hc
  rw [show (m + 1) * q + r = q + (m * q + r) by rw [Nat.succ_mul];omega,Lib.repeatL_add] at p
  obtain ⟨l,a,b,q1,q2,e⟩:=Pc.split _ _ p
  have pa:=(q1.bound ht).1
  have qb:=(q2.bound ht).1
  by_cases ha : a = 0
  ·subst ha
   exact ⟨0,m * q + r,i,l,0,b,Pc.nil i q1.lt.1,q1,q2,by omega,by omega⟩
  ·obtain ⟨k1,k2,l1,l2,c1,c2,g1,g2,g3,g4,g5⟩:=ih r l j b q2 (by omega)
   exact ⟨q + k1,k2,l1,l2,a + c1,c2,by rw [Lib.repeatL_add];exact q1.app g1,g2,g3,by omega,by omega⟩
theorem st_to {i l j : Nat} {τ : Int} (hi : i < n) (hl : l < n) (hj : j < n) (h1 : M.getD (i * n + l) 0 ≤ τ) (h2 : ag (M.getD (l * n + l) 0) ≤ τ) (h3 : M.getD (l * n + j) 0 ≤ τ) : (stL n M).getD (i * n + j) 0 ≤ τ:=by
 rw [st_get i j hi hj];exact (stE_le n M i j τ).2 (.inr ⟨l,hl,h1,h2,h3⟩)
theorem st_of {i j : Nat} {τ : Int} (hi : i < n) (hj : j < n) (hτ : τ < 3) (h : (stL n M).getD (i * n + j) 0 ≤ τ) : ∃ l,l < n ∧ M.getD (i * n + l) 0 ≤ τ ∧ ag (M.getD (l * n + l) 0) ≤ τ ∧ M.getD (l * n + j) 0 ≤ τ:=by
 rw [st_get i j hi hj] at h
 rcases (stE_le n M i j τ).1 h with h|h
 ·omega
 ·exact h
theorem ag_zero {x : Int} (h : x ≤ 0) : ag x ≤ 0:=by unfold ag;rw [if_neg (by omega)];exact h
theorem ag_one {x : Int} (h : ag x ≤ 1) : x ≤ 0:=by
 unfold ag at h
 by_cases e : x = 1
 ·rw [if_pos e] at h;omega
 ·rw [if_neg e] at h;omega
end
theorem VR.st {n : Nat} {t : List Stp} (ht : ∀ y ∈ t,stepOk n y = true) {N : Nat} {Y : List UInt8} {B : Int} {M : List Int} (hM : mulL n M M = M) (h : VR n t N Y B M) (hN : 1 ≤ N) (hl : (Lib.repeatL Y N).length ≤ 100000) : VR n t N (Lib.repeatL Y N) (mn (2 * B) 1000000) (stL n M) where
 z:=fun i j hi hj q => by
  obtain ⟨l,l1,l2,l3,l4⟩:=st_of hi hj (by omega) q
  have l3 : M.getD (l * n + l) 0 ≤ 0:=ag_one (by omega)
  obtain ⟨k,rfl|rfl⟩ : ∃ k,N = 1 ∨ N = k + 2:=⟨N - 2,by omega⟩
  ·rw [Lib.repeatL_one];exact h.z i j hi hj (trans_le hM i l j hi l1 hj 0 l2 l4)
  ·rw [rep2]
   exact (h.z i l hi l1 l2).app ((Pc.loops0 (h.z l l l1 l1 l3) l1 k).app (h.z l j l1 hj l4))
 s:=fun i j hi hj q => by
  obtain ⟨l,l1,l2,l3,l4⟩:=st_of hi hj (by omega) q
  have l3 : M.getD (l * n + l) 0 ≤ 0:=ag_one (by omega)
  obtain ⟨k,rfl|rfl⟩ : ∃ k,N = 1 ∨ N = k + 2:=⟨N - 2,by omega⟩
  ·rw [Lib.repeatL_one] at hl ⊢
   obtain ⟨c,c1,c2⟩:=h.s i j hi hj (trans_le hM i l j hi l1 hj 1 l2 l4)
   have cb:=c2.bound ht
   exact ⟨c,mn_ge (by omega) (by omega),c2⟩
  ·obtain ⟨a,a1,a2⟩:=h.s i l hi l1 l2
   obtain ⟨b,b1,b2⟩:=h.s l j l1 hj l4
   have p:=a2.app ((Pc.loops0 (h.z l l l1 l1 l3) l1 k).app b2)
   rw [← rep2] at p
   have pb:=p.bound ht
   exact ⟨_,mn_ge (by omega) (by omega),p⟩
 r:=fun i j hi hj q => by
  obtain ⟨l,l1,l2,l3,l4⟩:=st_of hi hj (by omega) q
  have l3 : M.getD (l * n + l) 0 ≤ 2:=by have:=ag_ge (M.getD (l * n + l) 0);omega
  obtain ⟨k,rfl|rfl⟩ : ∃ k,N = 1 ∨ N = k + 2:=⟨N - 2,by omega⟩
  ·rw [Lib.repeatL_one];exact h.r i j hi hj (trans_le hM i l j hi l1 hj 2 l2 l4)
  ·rw [rep2]
   obtain ⟨a,a2⟩:=h.r i l hi l1 l2
   obtain ⟨b,b2⟩:=h.r l j l1 hj l4
   obtain ⟨c,c2⟩:=Pc.loops (h.r l l l1 l1 l3) l1 k
   exact ⟨_,a2.app (c2.app b2)⟩
 v:=fun i j c p => by
  obtain ⟨k,rfl⟩ : ∃ k,N = k + 1:=⟨N - 1,by omega⟩
  have q:=steps_to ht hM 2 c (fun i l a p _ => h.v i l a p) k i j c p (Int.le_refl _)
  obtain ⟨l,l1,l2,l3,l4⟩:=loop_at hM i j p.lt.1 p.lt.2 q
  exact st_to p.lt.1 l1 p.lt.2 l2 (ag_le2 _ l3) l4
 d:=fun hn i j p => by
  obtain ⟨l,l1,l2,l3,l4⟩:=zero_loop ht hM (h.d hn) N i j (by omega) p
  exact st_to p.lt.1 l1 p.lt.2 l2 (ag_zero l3) l4
 g:=fun hn i j c p hc => by
  have e : N = N / (n + 1) * (n + 1) + N % (n + 1):=by rw [Nat.mul_comm];exact (Nat.div_add_mod N (n + 1)).symm
  have p':=p
  rw [e] at p'
  obtain ⟨k1,k2,l1,l2,c1,c2,g1,g2,g3,g4,g5⟩:=window ht (n + 1) (N / (n + 1)) (N % (n + 1)) i j c p' hc
  obtain ⟨l,q1,q2,q3,q4⟩:=zero_loop ht hM (h.d hn) (n + 1) l1 l2 (by omega) g2
  have one : ∀ (i l : Nat) (a : Int),Pc n t Y i l a → a ≤ c → M.getD (i * n + l) 0 ≤ 1:=fun i l a p ha => h.g hn i l a p (by omega)
  have left : M.getD (i * n + l) 0 ≤ 1:=by
   cases k1 with
   | zero => cases g1;omega
   | succ k1 => exact trans_le hM i l1 l g1.lt.1 g1.lt.2 q1 1 (steps_to ht hM 1 c one k1 i l1 c1 g1 g4) (by omega)
  have right : M.getD (l * n + j) 0 ≤ 1:=by
   cases k2 with
   | zero => cases g3;omega
   | succ k2 => exact trans_le hM l l2 j q1 g3.lt.1 g3.lt.2 1 (by omega) (steps_to ht hM 1 c one k2 l2 j c2 g3 g5)
  exact st_to p.lt.1 q1 p.lt.2 left (Int.le_trans (ag_zero q3) (by omega)) right
inductive BP : List Part → Int → Prop
 | nil : BP [] 0
 | letter (c : UInt8) (ps : List Part) (b : Int) : BP ps b → BP ((⟨⟨#[c]⟩,[]⟩ : Part) :: ps) (mn (3 + b) 1000000)
 | again (w ps : List Part) (a b : Int) : BP w a → BP ps b → BP ((⟨⟨#[]⟩,w⟩ : Part) :: ps) (mn (mn (2 * a) 1000000 + b) 1000000)
theorem VP.vr {n : Nat} {t : List Stp} (ht : ∀ y ∈ t,stepOk n y = true) {N : Nat} (hN : 1 ≤ N) {ps : List Part} {o : Option (List Int)} (h : VP n t ps o) : ∀ (G : List Int),o = some G → ∀ (X : List UInt8),XP N ps X → X.length ≤ 100000 → ∀ B,BP ps B → VR n t N X B G:=by
 induction h with
 | nil =>
  intro G e X hX _ B hB
  obtain rfl:=Option.some.inj e
  cases hX
  cases hB
  exact VR.one n t N
 | letter c ps o hc _ ih =>
  intro G e X hX hl B hB
  cases o with
  | none => cases e
  | some G' =>
   obtain rfl:=Option.some.inj e
   cases hX with
   | cons _ _ Y X2 x1 x2 =>
    have e0 : L (⟨#[c]⟩ : ByteArray) = [c]:=L_mk [c]
    have e1 : (if L (⟨⟨#[c]⟩,[]⟩ : Part).f0 = [] then Lib.repeatL Y N else L (⟨⟨#[c]⟩,[]⟩ : Part).f0) = [c]:=by
     show (if L (⟨#[c]⟩ : ByteArray) = [] then Lib.repeatL Y N else L (⟨#[c]⟩ : ByteArray)) = [c]
     rw [e0,if_neg (by simp)]
    rw [e1] at hl ⊢
    rw [List.length_append] at hl
    cases hB with
    | letter _ _ b hb => exact (VR.letter ht N c).mul ht (ih G' rfl X2 x2 (by omega) b hb) (by omega)
 | again w ps o1 o _ _ ih1 ih2 =>
  intro G e X hX hl B hB
  cases o1 with
  | none => cases e
  | some M =>
   by_cases hi : Idem (n : Int) M
   ·have e : (some (stL n M)).bind (fun M => o.map (mulL n M)) = some G:=by
     rw [← e]
     show _ = (if Idem (n : Int) M then some (stL n M) else none).bind _
     rw [if_pos hi]
    cases o with
    | none => cases e
    | some G' =>
     obtain rfl:=Option.some.inj e
     cases hX with
     | cons _ _ Y X2 x1 x2 =>
      have e1 : (if L (⟨⟨#[]⟩,w⟩ : Part).f0 = [] then Lib.repeatL Y N else L (⟨⟨#[]⟩,w⟩ : Part).f0) = Lib.repeatL Y N:=if_pos (L_mk [])
      rw [e1] at hl ⊢
      rw [List.length_append] at hl
      have ly : Y.length ≤ (Lib.repeatL Y N).length:=by rw [Lib.repeatL_length];exact Nat.le_mul_of_pos_left _ hN
      cases hB with
      | again _ _ a b ha hb =>
       exact (VR.st ht hi.2 (ih1 M rfl Y x1 (by omega) a ha) hN (by omega)).mul ht (ih2 G' rfl X2 x2 (by omega) b hb) (by omega)
   ·have e : none = some G:=by
     rw [← e]
     show _ = (if Idem (n : Int) M then some (stL n M) else none).bind _
     rw [if_neg hi];rfl
    cases e
def addB (a b : Int) : Int:=mn (a + b) 1000000
theorem addB_in (a b : Int) (h0 : 0 ≤ a) (h1 : 0 ≤ b) : 0 ≤ addB a b ∧ addB a b ≤ 1000000:=by unfold addB mn;omega
theorem icv (a : Int) : impl_CostValid.f a = some (decide (0 ≤ a ∧ a ≤ 1000000)):=by
 unfold impl_CostValid.f
 by_cases h : a ≥ 0
 ·rw [if_pos h];by_cases h2 : a ≤ 1000000 <;> simp [h2] <;> omega
 ·rw [if_neg h];simp;omega
theorem iadd (a b : Int) (h0 : 0 ≤ a) (h1 : a ≤ 1000000) (h2 : 0 ≤ b) (h3 : b ≤ 1000000) : impl_AddCost.f a b = some (addB a b):=by
 unfold impl_AddCost.f addB
 rw [icv,decide_eq_true ⟨h0,h1⟩,Option.bind_some,if_pos rfl,icv,decide_eq_true ⟨h2,h3⟩,Option.bind_some,if_pos rfl,w64 (by omega) (by omega)]
theorem tdiv_pos (a : Int) (h0 : 0 < a) : Int.tdiv 1000000 a = 1000000 / a:=Int.tdiv_eq_ediv_of_nonneg (by omega)
theorem div_two (a : Int) (h0 : 0 < a) (h1 : a ≤ 1000000) : (2 > 1000000 / a ↔ 2 * a > 1000000) ∧ 0 ≤ 1000000 / a ∧ 1000000 / a ≤ 1000000:=by
 have h2 : 0 ≤ 1000000 / a:=Int.ediv_nonneg (by omega) (by omega)
 have h3 : 1000000 / a ≤ 1000000:=Int.ediv_le_self _ (by omega)
 refine ⟨⟨fun h => ?_,fun h => ?_⟩,h2,h3⟩
 ·have:=Int.lt_mul_of_ediv_lt h0 h;omega
 ·exact Int.ediv_lt_of_lt_mul h0 (by omega)
theorem two_in (a : Int) (h0 : 0 ≤ a) : 0 ≤ mn (2 * a) 1000000 ∧ mn (2 * a) 1000000 ≤ 1000000:=by unfold mn;omega
theorem itwo_r (a : Int) (h0 : 0 ≤ a) (h1 : a ≤ 1000000) : impl_TimesCost.f 2 a = some (mn (2 * a) 1000000):=by
 unfold impl_TimesCost.f
 rw [if_neg (by omega),icv,decide_eq_true ⟨h0,h1⟩,Option.bind_some,if_pos rfl]
 by_cases h : a = 0
 ·subst h;rw [if_pos rfl];rfl
 ·have hd:=div_two a (by omega) h1
  rw [if_neg h];unfold impl_times.f
  rw [if_neg h,tdiv_pos a (by omega),w64 (by omega) (by omega)]
  by_cases h2 : 2 > 1000000 / a
  ·rw [if_pos h2];have:=hd.1.mp h2;simp;unfold mn;omega
  ·rw [if_neg h2,w64 (by omega) (by omega)];have:=fun h => h2 (hd.1.mpr h);simp;unfold mn;omega
theorem addB_3 (a b c : Int) (h0 : 0 ≤ a) (h1 : 0 ≤ b) (h2 : 0 ≤ c) : addB (addB a b) c = addB a (addB b c):=by unfold addB mn;omega
theorem addB_0 (a : Int) (h1 : a ≤ 1000000) : addB a 0 = a:=by unfold addB mn;omega
theorem BP.fn {ps : List Part} {b : Int} (h : BP ps b) : ∀ {c : Int},BP ps c → b = c:=by
 induction h with
 | nil => intro c h;cases h;rfl
 | letter _ ps b _ ih => intro c h;cases h with
  | letter _ _ b' h' => rw [ih h']
 | again w ps a b _ _ ih1 ih2 => intro c h;cases h with
  | again _ _ a' b' h1 h2 => rw [ih1 h1,ih2 h2]
theorem BP.in {ps : List Part} {b : Int} (h : BP ps b) : 0 ≤ b ∧ b ≤ 1000000:=by
 induction h with
 | nil => omega
 | letter _ ps b _ ih => unfold mn;omega
 | again w ps a b _ _ ih1 ih2 => unfold mn;omega
theorem ibound_bp (n : Nat) : ∀ (e : List UInt8) (ps : List Part),e.length ≤ n → e.length ≤ 1000000 → Reads e ps [] → ∃ B : Int,BP ps B ∧
  (∀ (pre : List Part) (acc : Int),pre.length + ps.length ≤ 1000000 → 0 ≤ acc → acc ≤ 1000000 → Ev (fun k => impl_bound.l0 k acc (pre ++ ps) ((pre ++ ps).length) pre.length) (addB acc B)):=by
 have nil : ∃ B : Int,BP [] B ∧ (∀ (pre : List Part) (acc : Int),pre.length + ([] : List Part).length ≤ 1000000 → 0 ≤ acc → acc ≤ 1000000 → Ev (fun k => impl_bound.l0 k acc (pre ++ []) ((pre ++ []).length) pre.length) (addB acc B)):=by
  refine ⟨0,BP.nil,fun pre acc _ h0 h1 => ?_⟩
  rw [addB_0 acc h1]
  refine Ev.step (f:=fun _ => some acc) (fun k => ?_) (Ev.now _)
  simp only [impl_bound.l0];rw [if_neg (by simp)]
 induction n with
 | zero =>
  intro e ps hn hm h
  have he : e = []:=List.length_eq_zero_iff.mp (by omega)
  subst he
  cases h
  exact nil
 | succ n ih =>
  intro e ps hn hm h
  cases h with
  | done => exact nil
  | letter c e ps _ hc h =>
   simp only [List.length_cons] at hn hm
   obtain ⟨B,bp,i2⟩:=ih e ps (by omega) (by omega) h
   have hB:=bp.in
   refine ⟨mn (3 + B) 1000000,BP.letter c ps B bp,fun pre acc hp h0 h1 => ?_⟩
   simp only [List.length_cons] at hp
   have j:=i2 (pre ++ [(⟨⟨#[c]⟩,[]⟩ : Part)]) (addB acc 3) (by simp only [List.length_append,List.length_cons,List.length_nil];omega) (addB_in acc 3 h0 (by omega)).1 (addB_in acc 3 h0 (by omega)).2
   rw [addB_3 acc 3 B h0 (by omega) hB.1] at j
   rw [List.append_assoc pre,List.singleton_append] at j
   have hlen : ((pre ++ (⟨⟨#[c]⟩,[]⟩ : Part) :: ps).length : Int) = pre.length + (ps.length + 1):=by simp only [List.length_append,List.length_cons];push_cast;omega
   refine Ev.step (fun k => ?_) j
   simp only [impl_bound.l0]
   rw [if_pos (by omega),if_pos (by omega),if_pos (by omega),rd_at,if_neg (by rw [toList_L];simp [L]),iadd acc 3 h0 h1 (by omega) (by omega),Option.bind_some,w64 (x:=(pre.length : Int) + 1) (by omega) (by omega)]
   simp only [List.length_append,List.length_cons,List.length_nil];push_cast;rfl
  | again e w e2 ps _ h1 hw h2 =>
   obtain ⟨t1,ht1⟩:=h1.suffix
   have hl1:=h1.parts
   have hel : e.length = t1.length + 2 + e2.length:=by rw [ht1];simp;omega
   simp only [List.length_cons] at hn hm hl1
   obtain ⟨A,ap,j2⟩:=ih t1 w (by omega) (by omega) (reads_inner h1 ht1)
   obtain ⟨B,bp,i2⟩:=ih e2 ps (by omega) (by omega) h2
   have hB:=bp.in
   have hA:=ap.in
   have hT:=two_in A hA.1
   refine ⟨mn (mn (2 * A) 1000000 + B) 1000000,BP.again w ps A B ap bp,fun pre acc hp h0 h1' => ?_⟩
   simp only [List.length_cons] at hp
   have hadd:=addB_in acc (mn (2 * A) 1000000) h0 hT.1
   have j:=i2 (pre ++ [(⟨⟨#[]⟩,w⟩ : Part)]) (addB acc (mn (2 * A) 1000000)) (by simp only [List.length_append,List.length_cons,List.length_nil];omega) hadd.1 hadd.2
   rw [addB_3 acc _ B h0 hT.1 hB.1] at j
   rw [List.append_assoc pre,List.singleton_append] at j
   have hlen : ((pre ++ (⟨⟨#[]⟩,w⟩ : Part) :: ps).length : Int) = pre.length + (ps.length + 1):=by simp only [List.length_append,List.length_cons];push_cast;omega
   have inn : Ev (fun k => impl_bound.f k w) A:=by
    have q:=j2 [] 0 (by simp only [List.length_nil];omega) (by omega) (by omega)
    have e0 : addB 0 A = A:=by unfold addB mn;omega
    rw [e0] at q
    exact Ev.step (f:=fun k => impl_bound.l0 k 0 w (w.length : Int) 0) (fun k => by simp only [impl_bound.f]) q
   refine Ev.step (f:=?fq1) (fun k => ?hq1) ?kq1
   case hq1 =>
    simp only [impl_bound.l0]
    rw [if_pos (by omega),if_pos (by omega),if_pos (by omega),rd_at,if_pos (by rw [toList_L];simp [L]),w64 (x:=(pre.length : Int) + 1) (by omega) (by omega)] <;> exact rfl
   refine Ev.bind inn (Ev.bind (ev_some (fun _ => itwo_r _ hA.1 hA.2)) (Ev.bind (ev_some (fun _ => iadd acc _ h0 h1' hT.1 hT.2)) ?_))
   refine Ev.congr (fun k => ?_) j
   simp only [List.length_append,List.length_cons,List.length_nil];push_cast;rfl
theorem ibound_at (x : ByteArray) (hz : x.size ≤ 120) (ps : List Part) (hne : ps ≠ []) (hR : Reads (L x) ps []) : ∃ B : Int,BP ps B ∧ Ev (fun k => impl_BoundOf.f k x) B:=by
 have sx:=L_size x
 have lp:=hR.parts
 simp only [List.length_nil] at lp
 obtain ⟨B,bp,i2⟩:=ibound_bp _ (L x) ps (Nat.le_refl _) (by omega) hR
 have px : Ev (fun k => impl_parts.f k x) (ps,true):=(parts_of x hz hR).is (by rw [decide_eq_true ⟨hne,rfl⟩])
 refine ⟨B,bp,?_⟩
 have q:=i2 [] 0 (by simp only [List.length_nil];omega) (by omega) (by omega)
 have hB:=bp.in
 have e0 : addB 0 B = B:=by unfold addB mn;omega
 rw [e0] at q
 unfold impl_BoundOf.f
 exact Ev.bind px (Ev_t rfl (Ev.bind (Ev.step (f:=fun k => impl_bound.l0 k 0 ps (ps.length : Int) 0) (fun k => by simp only [impl_bound.f]) q) (Ev.now _)))
theorem sadd (a b : Int) (h0 : 0 ≤ a) (h1 : a ≤ 1000000) (h2 : 0 ≤ b) (h3 : b ≤ 1000000) : spec_l1Add.f a b = some (addB a b):=by
 unfold spec_l1Add.f addB;rw [w64 (by omega) (by omega)]
theorem VR.cells {n : Nat} {t : List Stp} {N : Nat} {X : List UInt8} {B : Int} {G : List Int} (h1 : 1 ≤ n) (h4 : n ≤ 4) (ht : ∀ y ∈ t,stepOk n y = true) (h : VR n t N X B G) (hX : X.length ≤ 1000) (m : Nat) (hm : m < n * n) :
  (0 ≤ (wordL n t X (sqL n unitE)).getD m 0 ∧ (wordL n t X (sqL n unitE)).getD m 0 ≤ 1000000) ∧ (G.getD m 0 = 0 → (wordL n t X (sqL n unitE)).getD m 0 = 0) ∧ (G.getD m 0 = 1 → (wordL n t X (sqL n unitE)).getD m 0 ≤ B) ∧ (G.getD m 0 = 2 → ¬ (wordL n t X (sqL n unitE)).getD m 0 = 1000000) ∧ (G.getD m 0 = 3 → (wordL n t X (sqL n unitE)).getD m 0 = 1000000) ∧ (n < N → 0 < G.getD m 0 → ¬ (wordL n t X (sqL n unitE)).getD m 0 = 0) ∧ (n < N → 2 ≤ G.getD m 0 → (N / (n + 1) : Nat) ≤ 1000000 → ((N / (n + 1) : Nat) : Int) ≤ (wordL n t X (sqL n unitE)).getD m 0):=by
 have hn : 0 < n:=by omega
 have hi : m / n < n:=Nat.div_lt_of_lt_mul hm
 have hj : m % n < n:=Nat.mod_lt _ hn
 have e : m / n * n + m % n = m:=Nat.div_add_mod' m n
 have hW:=wordL_MV n h1 h4 t ht X _ (unit_MV n h1 h4)
 have b:=MV_at hW (m / n) (m % n) hi hj
 obtain ⟨p1,p2⟩:=word_Pc n h1 h4 t ht X (m / n) (m % n) hi hj
 obtain ⟨i,hi'⟩ : ∃ i,m / n = i:=⟨_,rfl⟩
 obtain ⟨j,hj'⟩ : ∃ j,m % n = j:=⟨_,rfl⟩
 rw [hi'] at hi e b p1 p2
 rw [hj'] at hj e b p1 p2
 obtain rfl : m = i * n + j:=e.symm
 obtain ⟨c,hc⟩ : ∃ c,(wordL n t X (sqL n unitE)).getD (i * n + j) 0 = c:=⟨_,rfl⟩
 rw [hc] at b p1 p2 ⊢
 obtain ⟨D,hD⟩ : ∃ D,N / (n + 1) = D:=⟨_,rfl⟩
 have hg:=h.g
 rw [hD] at hg ⊢
 refine ⟨b,fun g => ?_,fun g => ?_,fun g => ?_,fun g => ?_,fun hN g => ?_,fun hN g hle => ?_⟩
 ·have:=p2 0 (h.z i j hi hj (by omega));omega
 ·obtain ⟨x,x1,x2⟩:=h.s i j hi hj (by omega)
  have:=p2 x x2;omega
 ·obtain ⟨x,x2⟩:=h.r i j hi hj (by omega)
  have q:=p2 x x2
  have:=(x2.bound ht).2
  omega
 ·by_cases q : c < 1000000
  ·obtain ⟨x,x1,_⟩:=p1 q
   have:=h.v i j x x1
   omega
  ·omega
 ·intro q
  obtain ⟨x,x1,x2⟩:=p1 (by omega)
  have xb:=(x1.bound ht).1
  obtain rfl : x = 0:=by omega
  have:=h.d (by omega) i j x1
  omega
 ·by_cases q : c < (D : Int)
  ·obtain ⟨x,x1,x2⟩:=p1 (by omega)
   have:=hg (by omega) i j x x1 (by omega)
   omega
  ·omega
theorem expand_at (x : ByteArray) (hz : x.size ≤ 120) (ps : List Part) (hne : ps ≠ []) (hR : Reads (L x) ps []) (t : Nat) (h1 : 1 ≤ t) (ht : (t : Int) ≤ 9223372036854775807) : ∃ X : List UInt8,XP t ps X ∧ X.all wOk = true ∧ Ev (fun k => impl_ExpandExpression.f k x (t : Int)) (exR [] X):=by
 obtain ⟨X,xp,_,i2⟩:=expand_ireads t h1 ht (L x).length (L x) ps (Nat.le_refl _) (by rw [← L_size];omega) hR
 have hle:=hR.parts
 rw [← L_size] at hle
 simp only [List.length_nil] at hle
 have hp : Ev (fun k => impl_parts.f k x) (ps,true):=(parts_of x hz hR).is (by rw [decide_eq_true ⟨hne,rfl⟩])
 refine ⟨X,xp,xp_word t hR X xp,?_⟩
 unfold impl_ExpandExpression.f
 refine Ev.bind hp (Ev_t rfl (Ev_f (by omega) ?_))
 exact Ev.bind (Ev.step (fun k => by simp only [impl_expand.f];rfl) (i2 [] [] (by simp;omega) (by simp))) (Ev.now _)
theorem fold_min (g : Int → Int) (τ : Int) : ∀ (f : List Int) (z : Int),f.foldl (fun acc q => mn acc (g q)) z ≤ τ ↔ z ≤ τ ∨ ∃ q ∈ f,g q ≤ τ
 | [],z => by simp
 | q :: f,z => by
  rw [List.foldl_cons,fold_min g τ f]
  have e : mn z (g q) ≤ τ ↔ z ≤ τ ∨ g q ≤ τ:=mn_le _ _ _
  rw [e]
  simp only [List.mem_cons]
  constructor
  ·rintro ((h|h) | ⟨x,h1,h2⟩)
   ·exact .inl h
   ·exact .inr ⟨q,.inl rfl,h⟩
   ·exact .inr ⟨x,.inr h1,h2⟩
  ·rintro (h | ⟨x,rfl|h1,h2⟩)
   ·exact .inl (.inl h)
   ·exact .inl (.inr h2)
   ·exact .inr ⟨x,h1,h2⟩
theorem fold_min2 (g : Int → Int → Int) (f : List Int) (τ : Int) : ∀ (s : List Int) (z : Int),s.foldl (fun acc p => f.foldl (fun acc q => mn acc (g p q)) acc) z ≤ τ ↔ z ≤ τ ∨ ∃ p ∈ s,∃ q ∈ f,g p q ≤ τ
 | [],z => by simp
 | p :: s,z => by
  rw [List.foldl_cons,fold_min2 g f τ s,fold_min (g p) τ f z]
  simp only [List.mem_cons]
  constructor
  ·rintro ((h | ⟨q,h1,h2⟩) | ⟨x,h1,h2⟩)
   ·exact .inl h
   ·exact .inr ⟨p,.inl rfl,q,h1,h2⟩
   ·exact .inr ⟨x,.inr h1,h2⟩
  ·rintro (h | ⟨x,rfl|h1,h2⟩)
   ·exact .inl (.inl h)
   ·exact .inl (.inr h2)
   ·exact .inr ⟨x,h1,h2⟩
theorem least_le (n : Nat) (s f d : List Int) (τ : Int) : leastL n s f d ≤ τ ↔ 1000000 ≤ τ ∨ ∃ p ∈ s,∃ q ∈ f,d.getD (p.toNat * n + q.toNat) 0 ≤ τ:=fold_min2 (fun p q => d.getD (p.toNat * n + q.toNat) 0) f τ s 1000000
theorem betw_le (n : Nat) (s f d : List Int) (hs : ∀ x ∈ s,0 ≤ x ∧ x < (n : Int)) (hf : ∀ x ∈ f,0 ≤ x ∧ x < (n : Int)) (τ : Int) : betw (n : Int) s f d ≤ τ ↔ 3 ≤ τ ∨ ∃ p ∈ s,∃ q ∈ f,d.getD (p.toNat * n + q.toNat) 0 ≤ τ:=by
 have e : betw (n : Int) s f d ≤ τ ↔ 3 ≤ τ ∨ ∃ p ∈ s,∃ q ∈ f,d.getD (p * (n : Int) + q).toNat 0 ≤ τ:=fold_min2 (fun p q => d.getD (p * (n : Int) + q).toNat 0) f τ s 3
 rw [e]
 have en : ∀ p ∈ s,∀ q ∈ f,(p * (n : Int) + q).toNat = p.toNat * n + q.toNat:=by
  intro p hp q hq
  obtain ⟨m0,f0⟩ : ∃ m : Nat,p = (m : Int):=⟨p.toNat,by have:=hs p hp;omega⟩
  obtain ⟨m2,f2⟩ : ∃ m : Nat,q = (m : Int):=⟨q.toNat,by have:=hf q hq;omega⟩
  have : ((m0 : Int) * (n : Int) + (m2 : Int)) = ((m0 * n + m2 : Nat) : Int):=by push_cast;rfl
  rw [f0,f2,this];simp only [Int.toNat_natCast]
 constructor
 ·rintro (h | ⟨p,hp,q,hq,h⟩)
  ·exact .inl h
  ·rw [en p hp q hq] at h;exact .inr ⟨p,hp,q,hq,h⟩
 ·rintro (h | ⟨p,hp,q,hq,h⟩)
  ·exact .inl h
  ·exact .inr ⟨p,hp,q,hq,by rw [en p hp q hq];exact h⟩
theorem VR.costs {n : Nat} {t : List Stp} {N : Nat} {X : List UInt8} {b0 : Int} {G : List Int} (s f : List Int) (h1 : 1 ≤ n) (h4 : n ≤ 4) (ht : ∀ y ∈ t,stepOk n y = true) (hs : ∀ x ∈ s,0 ≤ x ∧ x < (n : Int)) (hf : ∀ x ∈ f,0 ≤ x ∧ x < (n : Int)) (h : VR n t N X b0 G) (hG : GV (n : Int) G) (hX : X.length ≤ 1000) :
  (0 ≤ leastL n s f (wordL n t X (sqL n unitE))) ∧ (0 ≤ betw (n : Int) s f G ∧ betw (n : Int) s f G ≤ 3) ∧ (betw (n : Int) s f G = 0 → leastL n s f (wordL n t X (sqL n unitE)) = 0) ∧ (betw (n : Int) s f G = 1 → leastL n s f (wordL n t X (sqL n unitE)) ≤ b0) ∧ (betw (n : Int) s f G = 2 → ¬ leastL n s f (wordL n t X (sqL n unitE)) = 1000000) ∧ (betw (n : Int) s f G = 3 → leastL n s f (wordL n t X (sqL n unitE)) = 1000000) ∧ (betw (n : Int) s f G = 2 → n < N → (N / (n + 1) : Nat) ≤ 1000000 → ((N / (n + 1) : Nat) : Int) ≤ leastL n s f (wordL n t X (sqL n unitE))):=by
 have cell : ∀ p ∈ s,∀ q ∈ f,p.toNat * n + q.toNat < n * n:=fun p hp q hq => by
  have a:=hs p hp
  have b:=hf q hq
  exact cell_lt n p.toNat q.toNat (by omega) (by omega)
 have gb : ∀ m,0 ≤ G.getD m 0 ∧ G.getD m 0 ≤ 3:=fun m => gr_getD ((GV_iff n G).1 hG).2.2.2 m
 have C:=fun m hm => VR.cells h1 h4 ht h hX m hm
 obtain ⟨W,hW⟩ : ∃ W,wordL n t X (sqL n unitE) = W:=⟨_,rfl⟩
 simp only [hW] at C ⊢
 have BL:=fun τ => betw_le n s f G hs hf τ
 have LL:=fun τ => least_le n s f W τ
 obtain ⟨b,hb⟩ : ∃ b,betw (n : Int) s f G = b:=⟨_,rfl⟩
 obtain ⟨c,hc⟩ : ∃ c,leastL n s f W = c:=⟨_,rfl⟩
 rw [hb] at BL
 rw [hc] at LL
 rw [hb,hc]
 obtain ⟨D,hD⟩ : ∃ D,N / (n + 1) = D:=⟨_,rfl⟩
 rw [hD]
 have c0 : 0 ≤ c:=by
  by_cases q : c ≤ -1
  ·rcases (LL (-1)).1 q with q | ⟨p,hp,r,hr,q⟩
   ·omega
   ·have:=(C _ (cell p hp r hr)).1;omega
  ·omega
 have c1 : c ≤ 1000000:=(LL 1000000).2 (.inl (Int.le_refl _))
 have b3 : b ≤ 3:=(BL 3).2 (.inl (Int.le_refl _))
 have b0' : 0 ≤ b:=by
  by_cases q : b ≤ -1
  ·rcases (BL (-1)).1 q with q | ⟨p,hp,r,hr,q⟩
   ·omega
   ·have:=gb (p.toNat * n + r.toNat);omega
  ·omega
 have hit : b ≤ 2 → ∃ p ∈ s,∃ q ∈ f,G.getD (p.toNat * n + q.toNat) 0 ≤ b:=fun hb2 => by
  rcases (BL b).1 (Int.le_refl _) with q|q
  ·omega
  ·exact q
 have all : ∀ p ∈ s,∀ q ∈ f,b ≤ G.getD (p.toNat * n + q.toNat) 0:=fun p hp q hq => (BL _).2 (.inr ⟨p,hp,q,hq,Int.le_refl _⟩)
 refine ⟨c0,⟨b0',b3⟩,fun g => ?_,fun g => ?_,fun g => ?_,fun g => ?_,fun g hN hle => ?_⟩
 ·obtain ⟨p,hp,q,hq,x⟩:=hit (by omega)
  have y:=gb (p.toNat * n + q.toNat)
  have:=(C _ (cell p hp q hq)).2.1 (by omega)
  have:=(LL 0).2 (.inr ⟨p,hp,q,hq,by omega⟩)
  omega
 ·obtain ⟨p,hp,q,hq,x⟩:=hit (by omega)
  have y:=all p hp q hq
  have z:=(C _ (cell p hp q hq)).2.2.1 (by omega)
  exact (LL b0).2 (.inr ⟨p,hp,q,hq,z⟩)
 ·obtain ⟨p,hp,q,hq,x⟩:=hit (by omega)
  have y:=all p hp q hq
  have z:=(C _ (cell p hp q hq)).2.2.2.1 (by omega)
  have w:=(C _ (cell p hp q hq)).1.2
  have:=(LL 999999).2 (.inr ⟨p,hp,q,hq,by omega⟩)
  omega
 ·by_cases hlt : c ≤ 999999
  ·rcases (LL 999999).1 hlt with q | ⟨p,hp,q,hq,x⟩
   ·omega
   ·have y:=all p hp q hq
    have y2:=gb (p.toNat * n + q.toNat)
    have:=(C _ (cell p hp q hq)).2.2.2.2.1 (by omega)
    omega
  ·omega
 ·by_cases hlt : c ≤ (D : Int) - 1
  ·rcases (LL ((D : Int) - 1)).1 hlt with q | ⟨p,hp,q,hq,x⟩
   ·omega
   ·have y:=all p hp q hq
    have:=(C _ (cell p hp q hq)).2.2.2.2.2.2 hN (by omega)
    rw [hD] at this
    have:=this hle
    omega
  ·omega
theorem expand_two (x : ByteArray) (hz : x.size ≤ 120) (ps : List Part) (hne : ps ≠ []) (hR : Reads (L x) ps []) (t : Nat) (h1 : 1 ≤ t) (ht : (t : Int) ≤ 9223372036854775807) : ∃ X : List UInt8,XP t ps X ∧ X.all wOk = true ∧ Ev (fun k => impl_ExpandExpression.f k x (t : Int)) (exR [] X) ∧ Ev (fun k => spec_ExpandExpression.f k x (t : Int)) (exR [] X):=by
 have hle:=hR.parts
 rw [← L_size] at hle
 simp only [List.length_nil] at hle
 have hp : Ev (fun k => impl_parts.f k x) (ps,true):=(parts_of x hz hR).is (by rw [decide_eq_true ⟨hne,rfl⟩])
 have hv : Ev (fun k => spec_ExpressionValid.f k x) true:=(valid_eval x hz hR).is (by rw [decide_eq_true ⟨hne,rfl⟩])
 obtain ⟨X,xp,_,i1,i2⟩:=expand_reads t h1 ht (L x).length (L x) ps (Nat.le_refl _) (by rw [← L_size];omega) hR
 obtain ⟨v,v1,v2,v3,v4⟩:=i1 [] (by simp)
 simp only [List.length_nil,Nat.zero_add,List.nil_append] at v2 v3 v4
 rw [B_L] at v1
 refine ⟨X,xp,xp_word t hR X xp,?_,?_⟩
 ·unfold impl_ExpandExpression.f
  refine Ev.bind hp (Ev_t rfl (Ev_f (by omega) ?_))
  exact Ev.bind (Ev.step (fun k => by simp only [impl_expand.f];rfl) (i2 [] [] (by simp;omega) (by simp))) (Ev.now _)
 ·unfold spec_ExpandExpression.f
  refine Ev.bind hv (Ev_t rfl (Ev_f (by omega) ?_))
  refine Ev.bind (a:=B v) (Ev.step (fun k => by simp only [spec_l7Expand.f];rfl) v1) ?_
  by_cases hX : X.length ≤ 1000
  ·rw [v3 hX]
   refine Ev_f (by rw [B_size];omega) ((Ev.now _).is ?_)
   unfold exR;rw [if_pos (by simpa using hX)];rfl
  ·refine Ev_t (by rw [B_size];have:=v4 (by omega);omega) ((Ev.now _).is ?_)
   unfold exR;rw [if_neg (by simpa using hX)];rfl
theorem growth_loop2 (m : Nat) (s f : List Int) (t : List Stp) (g1 : AV m s f t = true) (ls : s.length ≤ 1000000000) (lf : f.length ≤ 1000000000) (hl : t.length ≤ 1000000000) (x : ByteArray) (hz : x.size ≤ 120) (ps : List Part) (hne : ps ≠ []) (hR : Reads (L x) ps []) (N : Nat) (hN : N ≤ 20) :
  ∀ (d i : Nat) (acc : List Int),i + d = N → acc.length = i → ∃ r : List Int × Bool,r.1.length ≤ 2000 ∧ (r.2 = true → ∃ cs : List Int,r.1 = acc ++ cs ∧ cs.length = d ∧ ∀ j,j < d → ∃ X : List UInt8,XP (i + 1 + j) ps X ∧ X.all wOk = true ∧ X.length ≤ 1000 ∧ cs.getD j 0 = costL s (colL m t X (finL m f))) ∧ Ev (fun k => spec_GrowthOf.l0 k x (N : Int) acc ((i + 1 : Nat) : Int) (m : Int) s f t) r ∧ Ev (fun k => impl_GrowthOf.l0 k x (N : Int) acc ((i + 1 : Nat) : Int) (m : Int) s f t) r:=by
 have hv : Ev (fun k => spec_ExpressionValid.f k x) true:=(valid_eval x hz hR).is (by rw [decide_eq_true ⟨hne,rfl⟩])
 intro d
 induction d with
 | zero =>
  intro i acc hi ha
  refine ⟨(acc,true),by show acc.length ≤ 2000;omega,fun _ => ⟨[],by simp,rfl,fun j hj => by omega⟩,?_,?_⟩
  ·refine Ev.step (f:=fun k => (spec_ExpressionValid.f k x).bind fun t5 => some (acc,t5)) (fun k => ?_) (Ev.bind hv (Ev.now _))
   simp only [spec_GrowthOf.l0];rw [if_neg (by omega)]
  ·refine Ev.step (f:=fun _ => some (acc,true)) (fun k => ?_) (Ev.now _)
   simp only [impl_GrowthOf.l0];rw [if_neg (by omega)]
 | succ d ih =>
  intro i acc hi ha
  obtain ⟨X,xp,xo,e2,e1⟩:=expand_two x hz ps hne hR (i + 1) (by omega) (by omega)
  have c0 : ((i + 1 : Nat) : Int) ≤ (N : Int):=by omega
  by_cases hX : X.length ≤ 1000
  case neg =>
   have er : exR [] X = (B [],false):=by unfold exR;rw [if_neg (by simpa using hX)]
   rw [er] at e1 e2
   refine ⟨([],false),by simp,fun h => (by cases h),?_,?_⟩
   ·refine Ev.step (f:=fun k => (spec_ExpandExpression.f k x ((i + 1 : Nat) : Int)).bind fun t3 => if t3.2 = true then (spec_l4Cost.f k (m : Int) s f t t3.1).bind fun t4 => if (acc : List Int).length < 17592186044416 then spec_GrowthOf.l0 k x (N : Int) (acc ++ [t4]) (wrap64 (((i + 1 : Nat) : Int) + 1)) (m : Int) s f t else none else some ([],false)) (fun k => by simp only [spec_GrowthOf.l0];rw [if_pos c0]) (Ev.bind e1 (Ev_f (by simp) (Ev.now _)))
   ·refine Ev.step (f:=fun k => (impl_ExpandExpression.f k x ((i + 1 : Nat) : Int)).bind fun t3 => if t3.2 = true then (impl_CostOf.f k (m : Int) s f t t3.1).bind fun t4 => if (acc : List Int).length < 17592186044416 then impl_GrowthOf.l0 k x (N : Int) (acc ++ [t4]) (wrap64 (((i + 1 : Nat) : Int) + 1)) (m : Int) s f t else none else some ([],false)) (fun k => by simp only [impl_GrowthOf.l0];rw [if_pos c0]) (Ev.bind e2 (Ev_f (by simp) (Ev.now _)))
  have er : exR [] X = (B X,true):=by unfold exR;rw [if_pos (by simpa using hX)];rfl
  rw [er] at e1 e2
  have lb : L (B X) = X:=by unfold B;rw [L_mk]
  have g2 : wordB (L (B X)) = true:=by rw [lb];unfold wordB;rw [xo];simpa using hX
  obtain ⟨r,r0,rt,r1,r2⟩:=ih (i + 1) (acc ++ [costL s (colL m t X (finL m f))]) (by omega) (by simp [ha])
  have b0 : acc.length < 17592186044416:=by omega
  have wn : wrap64 (((i + 1 : Nat) : Int) + 1) = ((i + 1 + 1 : Nat) : Int):=wnat (by omega)
  have ic:=iCostOf (m : Int) s f t (B X) ls lf hl (by rw [B_size];omega)
  have ce : costR (m : Int) s f t (B X) = costL s (colL m t X (finL m f)):=by unfold costR;rw [if_pos ⟨g1,g2⟩,lb];rfl
  have sc:=sCost m s f t (B X) g1 g2 ls lf hl
  rw [ce] at ic
  rw [lb] at sc
  refine ⟨r,r0,fun h => ?_,?_,?_⟩
  ·obtain ⟨cs,q1,q2,q3⟩:=rt h
   refine ⟨costL s (colL m t X (finL m f)) :: cs,by rw [q1];simp,by simp [q2],fun j hj => ?_⟩
   cases j with
   | zero => exact ⟨X,xp,xo,hX,rfl⟩
   | succ j =>
    obtain ⟨Y,y1,y2,y3,y4⟩:=q3 j (by omega)
    refine ⟨Y,?_,y2,y3,y4⟩
    rw [show i + 1 + (j + 1) = i + 1 + 1 + j by omega]
    exact y1
  ·refine Ev.step (f:=fun k => (spec_ExpandExpression.f k x ((i + 1 : Nat) : Int)).bind fun t3 => if t3.2 = true then (spec_l4Cost.f k (m : Int) s f t t3.1).bind fun t4 => if acc.length < 17592186044416 then spec_GrowthOf.l0 k x (N : Int) (acc ++ [t4]) (wrap64 (((i + 1 : Nat) : Int) + 1)) (m : Int) s f t else none else some ([],false)) (fun k => by simp only [spec_GrowthOf.l0];rw [if_pos c0]) (Ev.bind e1 (Ev_t rfl (Ev.bind sc (Ev_t b0 ?_))))
   rw [wn];exact r1
  ·refine Ev.step (f:=fun k => (impl_ExpandExpression.f k x ((i + 1 : Nat) : Int)).bind fun t3 => if t3.2 = true then (impl_CostOf.f k (m : Int) s f t t3.1).bind fun t4 => if acc.length < 17592186044416 then impl_GrowthOf.l0 k x (N : Int) (acc ++ [t4]) (wrap64 (((i + 1 : Nat) : Int) + 1)) (m : Int) s f t else none else some ([],false)) (fun k => by simp only [impl_GrowthOf.l0];rw [if_pos c0]) (Ev.bind e2 (Ev_t rfl (Ev.bind ic (Ev_t b0 ?_))))
   rw [wn];exact r2
theorem growth_both2 (n : Int) (s f : List Int) (t : List Stp) (x : ByteArray) (a : Int) (ls : s.length ≤ 1000000000) (lf : f.length ≤ 1000000000) (hl : t.length ≤ 1000000000) : ∃ r : List Int × Bool,r.1.length ≤ 2000 ∧ (r.2 = true → ∃ (m : Nat) (ps : List Part) (N : Nat),n = (m : Int) ∧ AV m s f t = true ∧ x.size ≤ 120 ∧ ps ≠ [] ∧ Reads (L x) ps [] ∧ a = (N : Int) ∧ N ≤ 20 ∧ r.1.length = N ∧ ∀ j,j < N → ∃ X : List UInt8,XP (j + 1) ps X ∧ X.all wOk = true ∧ X.length ≤ 1000 ∧ r.1.getD j 0 = costL s (colL m t X (finL m f))) ∧ Ev (fun k => spec_GrowthOf.f k n s f t x a) r ∧ Ev (fun k => impl_GrowthOf.f k n s f t x a) r:=by
 by_cases g1 : AV n s f t = true
 case neg =>
  refine ⟨([],false),by simp,fun h => (by cases h),?_,?_⟩
  ·unfold spec_GrowthOf.f;exact Ev.bind (sAV n s f t ls lf hl) (Ev_f g1 (Ev.now _))
  ·unfold impl_GrowthOf.f;exact Ev.bind (iAV n s f t ls lf hl) (Ev_f g1 (Ev.now _))
 obtain ⟨h1,h2,h3,h4,h5⟩:=AV_parts g1
 obtain ⟨m,rfl⟩ : ∃ m : Nat,n = (m : Int):=⟨n.toNat,by omega⟩
 obtain ⟨b,ps0,v1,v2,vt⟩ : ∃ (b : Bool) (ps : List Part),Ev (fun k => spec_ExpressionValid.f k x) b ∧ Ev (fun k => impl_parts.f k x) (ps,b) ∧ (b = true → x.size ≤ 120 ∧ ps ≠ [] ∧ Reads (L x) ps []):=by
  by_cases hz : x.size ≤ 120
  ·obtain ⟨ps,r,h,hp⟩:=parts_eval x hz
   have hv:=valid_eval x hz h
   refine ⟨_,ps,hv,hp,fun q => ?_⟩
   obtain ⟨q1,rfl⟩:=of_decide_eq_true q
   exact ⟨hz,q1,h⟩
  ·exact ⟨false,[],valid_long x (by omega),parts_long x (by omega),fun h => by cases h⟩
 have v3 : Ev (fun k => impl_ExpressionValid.f k x) b:=by unfold impl_ExpressionValid.f;exact Ev.bind v2 (Ev.now _)
 have sp : ∀ r,Ev (fun k => spec_GrowthOf.l0 k x a [] 1 (m : Int) s f t) r → (0 ≤ a ∧ a ≤ 20) → Ev (fun k => spec_GrowthOf.f k (m : Int) s f t x a) r:=fun r h ha => by
  unfold spec_GrowthOf.f
  refine Ev.bind (sAV m s f t ls lf hl) (Ev_t g1 ?_)
  simp only [sIn,Option.bind_some]
  exact Ev_t (decide_eq_true ha) h
 by_cases ha : 0 ≤ a ∧ a ≤ 20
 case neg =>
  refine ⟨([],false),by simp,fun h => (by cases h),?_,?_⟩
  ·unfold spec_GrowthOf.f
   refine Ev.bind (sAV m s f t ls lf hl) (Ev_t g1 ?_)
   simp only [sIn,Option.bind_some]
   exact Ev_f (by rw [decide_eq_false ha];simp) (Ev.now _)
  ·unfold impl_GrowthOf.f
   refine Ev.bind (iAV m s f t ls lf hl) (Ev_t g1 (Ev.bind v3 ?_))
   by_cases hb : b = true
   ·refine Ev_t hb ?_
    by_cases q : a < 0
    ·exact Ev_t q (Ev.now _)
    ·exact Ev_f q (Ev_t (by omega) (Ev.now _))
   ·exact Ev_f hb (Ev.now _)
 obtain ⟨N,rfl⟩ : ∃ N : Nat,a = (N : Int):=⟨a.toNat,by omega⟩
 cases b with
 | false =>
  refine ⟨([],false),by simp,fun h => (by cases h),sp _ ?_ ha,?_⟩
  ·by_cases hN : (1 : Int) ≤ (N : Int)
   ·have ex : Ev (fun k => spec_ExpandExpression.f k x 1) (B [],false):=by unfold spec_ExpandExpression.f;exact Ev.bind v1 (Ev_f (by simp) (Ev.now _))
    exact Ev.step (f:=fun k => (spec_ExpandExpression.f k x 1).bind fun t3 => if t3.2 = true then (spec_l4Cost.f k (m : Int) s f t t3.1).bind fun t4 => if ([] : List Int).length < 17592186044416 then spec_GrowthOf.l0 k x (N : Int) ([] ++ [t4]) (wrap64 (1 + 1)) (m : Int) s f t else none else some ([],false)) (fun k => by simp only [spec_GrowthOf.l0];rw [if_pos hN]) (Ev.bind ex (Ev_f (by simp) (Ev.now _)))
   ·exact Ev.step (f:=fun k => (spec_ExpressionValid.f k x).bind fun t5 => some ([],t5)) (fun k => by simp only [spec_GrowthOf.l0];rw [if_neg hN]) (Ev.bind v1 (Ev.now _))
  ·unfold impl_GrowthOf.f
   exact Ev.bind (iAV m s f t ls lf hl) (Ev_t g1 (Ev.bind v3 (Ev_f (by simp) (Ev.now _))))
 | true =>
  obtain ⟨hz,hne,hR⟩:=vt rfl
  obtain ⟨r,r0,rt,r1,r2⟩:=growth_loop2 m s f t g1 ls lf hl x hz ps0 hne hR N (by omega) N 0 [] (by omega) rfl
  refine ⟨r,r0,fun h => ?_,sp r r1 ha,?_⟩
  ·obtain ⟨cs,q1,q2,q3⟩:=rt h
   rw [List.nil_append] at q1
   refine ⟨m,ps0,N,rfl,g1,hz,hne,hR,rfl,by omega,by rw [q1,q2],fun j hj => ?_⟩
   obtain ⟨X,x1,x2,x3,x4⟩:=q3 j hj
   rw [q1]
   refine ⟨X,?_,x2,x3,x4⟩
   rw [show j + 1 = 0 + 1 + j by omega];exact x1
  ·unfold impl_GrowthOf.f
   exact Ev.bind (iAV m s f t ls lf hl) (Ev_t g1 (Ev.bind v3 (Ev_t rfl (Ev_f (by omega) (Ev_f (by omega) r2)))))
theorem Ev_uniq {α : Type} {f : Nat → Option α} {a b : α} (h : Ev f a) (k : Ev f b) : a = b:=by
 obtain ⟨N,h⟩:=h
 obtain ⟨M,k⟩:=k
 exact Option.some.inj ((h (max N M) (by omega)).symm.trans (k (max N M) (by omega)))
theorem grade_tell (n : Int) (s f : List Int) (t : List Stp) (x : ByteArray) (hs : s.length ≤ 1000000000) (hf : f.length ≤ 1000000000) (hl : t.length ≤ 1000000000) : ∃ g : Int,Ev (fun k => spec_GradeOf.f k n s f t x) g ∧ Ev (fun k => impl_GradeOf.f k n s f t x) g ∧ ∀ (m : Nat) (ps : List Part),n = (m : Int) → AV m s f t = true → x.size ≤ 120 → ps ≠ [] → Reads (L x) ps [] → g = -1 ∨ ∃ M,VP m t ps (some M) ∧ GV (m : Int) M ∧ g = betw (m : Int) s f M:=by
 rcases value_or n s f t x hs hf hl with h | ⟨m,ps,rfl,g1,hz,hne,hR⟩
 ·obtain ⟨a,b⟩:=grade_none n s f t x h
  exact ⟨-1,a,b,fun _ _ _ _ _ _ _ => .inl rfl⟩
 ·obtain ⟨o,vo,go,v1,v2⟩:=value_at m s f t x hs hf hl g1 hz ps hne hR
  cases o with
  | none =>
   obtain ⟨a,b⟩:=grade_none m s f t x ⟨v1,v2⟩
   exact ⟨-1,a,b,fun _ _ _ _ _ _ _ => .inl rfl⟩
  | some M =>
   have hM:=go M rfl
   obtain ⟨b1,b2⟩:=grade_some m s f t x hs hf hl g1 M hM v1 v2
   refine ⟨_,b1,b2,fun m' ps' e _ _ hne' hR' => .inr ⟨M,?_,?_,?_⟩⟩
   ·obtain rfl : m = m':=Int.ofNat.inj e
    have q1:=(parts_of x hz hR)
    have q2:=(parts_of x hz hR')
    have:=Ev_uniq q1 q2
    obtain rfl : ps = ps':=congrArg Prod.fst this
    exact vo
   ·obtain rfl : m = m':=Int.ofNat.inj e
    exact hM
   ·obtain rfl : m = m':=Int.ofNat.inj e
    rfl
end Go.Proofs.YtfgoojnblomonaaGreat.V
end
section
set_option linter.unusedVariables false
set_option linter.unusedSimpArgs false
namespace Go.Proofs.YtfgoojnblomonaaGreat.V
open Go Go.Proofs.YtfgoojnblomonaaGreat.R Go.RowKit
open Go.Proofs.YtfgoojnblomonaaGreatW.PrintWords hiding mn mx
theorem drawGrowthOf_r (l : List Int) (hb : Bytes l) : ∃ (r : Int × List Int × List Int × List Stp) (e : ByteArray) (v : Int),(r.2.1.length ≤ 1000 ∧ r.2.2.1.length ≤ 1000 ∧ r.2.2.2.length ≤ 1000) ∧ e.size ≤ 1000 ∧ Ev (fun k => spec_DrawGrowthOf.f k l) (r.1,r.2.1,r.2.2.1,r.2.2.2,e,v):=by
 obtain ⟨z,z1,z2,z3⟩:=open_r l hb
 obtain ⟨r,e,s',g1,g2,g3,g4⟩:=l7some_r z z1 z2
 obtain ⟨v,hv,g5⟩:=num_r z z1 z2 s' (by omega) [3,4,2,1,0,5,(-1),21] (by simp) (by simp)
 refine ⟨r,e,v,g1,g2,?_⟩
 unfold spec_DrawGrowthOf.f
 exact Ev.bind (ev_some (fun _ => z3)) (Ev.bind g4 (Ev.bind (ev_some (fun _ => g5)) (Ev.now _)))
theorem far_div {m N : Nat} {c : Int} (h : (N / (m + 1) : Nat) ≤ 1000000 → ((N / (m + 1) : Nat) : Int) ≤ c) (hN : N ≤ 1000000:=by omega) : ∃ D : Nat,Int.tdiv (N : Int) ((m + 1 : Nat) : Int) = (D : Int) ∧ D ≤ N ∧ (D : Int) ≤ c :=
 ⟨N / (m + 1),tdiv_nat N (m + 1),Nat.div_le_self _ _,h (Nat.le_trans (Nat.div_le_self _ _) hN)⟩
theorem growth_cost {m N : Nat} {s f : List Int} {t : List Stp} (g1 : AV (m : Int) s f t = true) {ps : List Part} {b0 : Int} (bp : BP ps b0) {M : List Int} (vp : VP m t ps (some M)) (hM : GV (m : Int) M) {X : List UInt8} (xp : XP N ps X) (hX : X.length ≤ 1000) (hN : 1 ≤ N) (hN2 : N ≤ 1000000) :
  (0 ≤ betw (m : Int) s f M ∧ betw (m : Int) s f M ≤ 3) ∧ (betw (m : Int) s f M = 0 → costL s (colL m t X (finL m f)) = 0) ∧ (betw (m : Int) s f M = 1 → costL s (colL m t X (finL m f)) ≤ b0) ∧ (betw (m : Int) s f M = 2 → ¬ costL s (colL m t X (finL m f)) = 1000000) ∧ (betw (m : Int) s f M = 3 → costL s (colL m t X (finL m f)) = 1000000) ∧ (betw (m : Int) s f M = 2 → m < N → ∃ D : Nat,Int.tdiv (N : Int) ((m + 1 : Nat) : Int) = (D : Int) ∧ D ≤ N ∧ (D : Int) ≤ costL s (colL m t X (finL m f))):=by
 obtain ⟨h1,h2,h3,h4,h5⟩:=AV_parts g1
 have ht:=stp_mem h5
 have m1 : 1 ≤ m:=by omega
 have m4 : m ≤ 4:=by omega
 have cw:=cost_word m m1 m4 s f t ht (fun q hq => by have:=mrk_mem h3 q hq;omega) (fun q hq => by have:=mrk_mem h4 q hq;omega) (unit_MV m m1 m4) X
 have vr:=VP.vr ht hN vp M rfl X xp (by omega) b0 bp
 have C:=VR.costs s f m1 m4 ht (mrk_mem h3) (mrk_mem h4) vr hM hX
 rw [cw] at C
 obtain ⟨_,q1,q2,q3,q4,q5,q6⟩:=C
 exact ⟨q1,q2,q3,q4,q5,fun g hm => far_div (q6 g hm) hN2⟩
theorem word_cost {m : Nat} {s f : List Int} {t : List Stp} (g1 : AV (m : Int) s f t = true) (ls : s.length ≤ 1000000000) (lf : f.length ≤ 1000000000) (hl : t.length ≤ 1000000000) {X : List UInt8} (xo : X.all wOk = true) (hX : X.length ≤ 1000) : Ev (fun k => impl_CostOf.f k (m : Int) s f t (B X)) (costL s (colL m t X (finL m f))):=by
 have lb : L (B X) = X:=by unfold B;rw [L_mk]
 have wb : wordB (L (B X)) = true:=by rw [lb];unfold wordB;rw [xo];simpa using hX
 have ic:=iCostOf (m : Int) s f t (B X) ls lf hl (by rw [B_size];omega)
 have ce : costR (m : Int) s f t (B X) = costL s (colL m t X (finL m f)):=by
  unfold costR
  rw [if_pos ⟨g1,wb⟩,lb];rfl
 rw [ce] at ic
 exact ic
theorem exR_true {X : List UInt8} (hX : X.length ≤ 1000) : exR [] X = (B X,true):=by unfold exR;rw [if_pos (by simpa using hX)];rfl
theorem exR_false {X : List UInt8} (hX : ¬ X.length ≤ 1000) : exR [] X = (B [],false):=by unfold exR;rw [if_neg (by simpa using hX)]
theorem w2m {m : Nat} (hm : m ≤ 4) : wrap64 (wrap64 (2 * (m : Int)) + 2) = ((2 * m + 2 : Nat) : Int):=by
 rw [w64 (x:=2 * (m : Int)) (by omega) (by omega),w64 (x:=2 * (m : Int) + 2) (by omega) (by omega)];push_cast;rfl
theorem wD {D : Nat} (h : D ≤ 1000000) : wrap64 (D : Int) = (D : Int):=w64 (by omega) (by omega)
theorem growthlaw_far (m a : Nat) (hm4 : m ≤ 4) (s f : List Int) (t : List Stp) (x : ByteArray) (list : List Int) (la : list.length = a) (ls : s.length ≤ 1000000000) (lf : f.length ≤ 1000000000) (hl : t.length ≤ 1000000000) (g1 : AV (m : Int) s f t = true) (hz : x.size ≤ 120) (ps : List Part) (hne : ps ≠ []) (hR : Reads (L x) ps []) (b0 : Int) (bp : BP ps b0) (M : List Int) (vp : VP m t ps (some M)) (hM : GV (m : Int) M) (g2 : betw (m : Int) s f M = 2) :
  ∀ (d N : Nat),N + d = 2 * m + 3 → m + 1 ≤ N → Ev (fun k => laws_FnGrowth.l1 k x (a : Int) list 2 (N : Int) (m : Int) s f t) true:=by
 intro d
 induction d with
 | zero =>
  intro N hN hm
  have c : ¬ (N : Int) ≤ ((2 * m + 2 : Nat) : Int):=by omega
  refine Ev.step (f:=fun _ => some (decide ((list.length : Int) = (a : Int)))) (fun k => ?_) ((Ev.now _).is (decide_eq_true (by rw [la])))
  simp only [laws_FnGrowth.l1]
  rw [if_pos trivial,w2m hm4,if_neg c]
 | succ d ih =>
  intro N hN hm
  have N1 : 1 ≤ N:=by omega
  have N2 : N ≤ 1000000:=by omega
  have c : (N : Int) ≤ ((2 * m + 2 : Nat) : Int):=by omega
  obtain ⟨X,xp,xo,xe,_⟩:=expand_two x hz ps hne hR N N1 (by omega)
  have go:=ih (N + 1) (by omega) (by omega)
  refine Ev.step (f:=?fz2) (fun k => ?hz2) ?kz2
  case hz2 => simp only [laws_FnGrowth.l1];rw [if_pos trivial,w2m hm4,if_pos c,wnat (show m < 1000000000000 by omega),wnat (show N < 1000000000000 by omega)] <;> exact rfl
  refine Ev.bind xe ?_
  by_cases hX : X.length ≤ 1000
  ·rw [exR_true hX]
   refine Ev_t rfl ?_
   by_cases q : ((B X).size : Int) < 150
   case neg => exact Ev_f q go
   obtain ⟨D,td,dle,c6⟩:=(growth_cost g1 bp vp hM xp hX N1 N2).2.2.2.2.2 g2 hm
   have hmz : ¬ ((m + 1 : Nat) : Int) = 0:=fun h => Nat.succ_ne_zero m (Int.ofNat.inj h)
   refine Ev_t q (Ev.bind (word_cost g1 ls lf hl xo hX) (Ev_f hmz ?_))
   simp only [td]
   rw [wD (Nat.le_trans dle N2)]
   exact Ev_f (Int.not_lt.2 c6) go
  ·rw [exR_false hX]
   exact Ev_f (by simp) go
theorem growthlaw_near (m N : Nat) (s f : List Int) (t : List Stp) (x : ByteArray) (g : Int) (list : List Int) (la : list.length = N) (hN : N ≤ 20) (ls : s.length ≤ 1000000000) (lf : f.length ≤ 1000000000) (hl : t.length ≤ 1000000000) (g1 : AV (m : Int) s f t = true) (hz : x.size ≤ 120) (ps : List Part) (hne : ps ≠ []) (hR : Reads (L x) ps []) (b0 : Int) (bp : BP ps b0) (ib : Ev (fun k => impl_BoundOf.f k x) b0)
  (hg : g = -1 ∨ ∃ M,VP m t ps (some M) ∧ GV (m : Int) M ∧ g = betw (m : Int) s f M)
  (tell : ∀ j,j < N → ∃ X : List UInt8,XP (j + 1) ps X ∧ X.all wOk = true ∧ X.length ≤ 1000 ∧ list.getD j 0 = costL s (colL m t X (finL m f))) :
  Ev (fun k => laws_FnGrowth.l0 k x (N : Int) list g (list.length : Int) 0 (m : Int) s f t) true:=by
 have hm4 : m ≤ 4:=by have:=(AV_parts g1).1;omega
 refine up_loop N (fun i k => laws_FnGrowth.l0 k x (N : Int) list g (list.length : Int) (i : Int) (m : Int) s f t) true (fun i hi go => ?_) ?_
 ·obtain ⟨X,xp,xo,hX,hc⟩:=tell i hi
  clear tell
  have i1 : i < 1000000000000:=by omega
  obtain ⟨X',xp',_,xe,_⟩:=expand_two x hz ps hne hR (i + 1) (by omega) (by omega)
  obtain rfl:=xp.fn xp'
  have rl : rdI list (i : Int) = list.getD i 0:=rd_nat list i
  have a1 : (i : Int) < (list.length : Int):=by rw [la];omega
  rw [exR_true hX] at xe
  have ic:=word_cost g1 ls lf hl xo hX
  rw [← hc] at ic
  refine Ev.step (f:=?fz1) (fun k => ?hz1) ?kz1
  case hz1 => simp only [laws_FnGrowth.l0];rw [if_pos a1,if_pos (Int.natCast_nonneg _),if_pos a1,rl,wnat i1] <;> exact rfl
  refine Ev.bind xe (Ev.bind ic (Ev_t rfl ?_))
  have facts : g = -1 ∨ ((0 ≤ g ∧ g ≤ 3) ∧ (g = 0 → list.getD i 0 = 0) ∧ (g = 1 → list.getD i 0 ≤ b0) ∧ (g = 2 → ¬ list.getD i 0 = 1000000) ∧ (g = 3 → list.getD i 0 = 1000000)):=by
   rcases hg with hg | ⟨M,vp,hM,hg⟩
   ·exact .inl hg
   ·obtain ⟨q1,q2,q3,q4,q5,_⟩:=growth_cost g1 bp vp hM xp hX (Nat.succ_le_succ (Nat.zero_le i)) (by omega)
    rw [hc,hg]
    exact .inr ⟨q1,q2,q3,q4,q5⟩
  generalize list.getD i 0 = c at facts ⊢
  rcases facts with rfl | ⟨gb,c0,c1,c2,c3⟩
  ·exact Ev_f (by decide) (Ev_f (by decide) (Ev_f (by decide) (Ev_f (by decide) go)))
  ·obtain rfl|rfl|rfl|rfl : g = 0 ∨ g = 1 ∨ g = 2 ∨ g = 3:=by clear go;omega
   ·exact Ev_t rfl (Ev_t (c0 rfl) (Ev_f (by decide) (Ev_f (by decide) (Ev_f (by decide) go))))
   ·exact Ev_f (by decide) (Ev_t rfl (Ev.bind ib (Ev_f (Int.not_lt.2 (c1 rfl)) (Ev_f (by decide) (Ev_f (by decide) go)))))
   ·exact Ev_f (by decide) (Ev_f (by decide) (Ev_f (by decide) (Ev_t rfl (Ev_f (c2 rfl) go))))
   ·exact Ev_f (by decide) (Ev_f (by decide) (Ev_t rfl (Ev_t (c3 rfl) (Ev_f (by decide) go))))
 ·have far : Ev (fun k => laws_FnGrowth.l1 k x (N : Int) list g ((m + 1 : Nat) : Int) (m : Int) s f t) true:=by
   by_cases g2 : g = 2
   ·rcases hg with hg | ⟨M,vp,hM,hg⟩
    ·rw [g2] at hg;cases hg
    ·subst g2
     exact growthlaw_far m N hm4 s f t x list la ls lf hl g1 hz ps hne hR b0 bp M vp hM hg.symm (m + 2) (m + 1) (by omega) (Nat.le_refl _)
   ·refine Ev.step (f:=fun _ => some (decide ((list.length : Int) = (N : Int)))) (fun k => ?_) ((Ev.now _).is (decide_eq_true (by rw [la])))
    simp only [laws_FnGrowth.l1]
    rw [if_neg g2]
  refine Ev.step (fun k => ?_) far
  have c : ¬ (N : Int) < (list.length : Int):=by rw [la];omega
  simp only [laws_FnGrowth.l0]
  rw [if_neg c,wnat (show m < 1000000000000 by omega)]
theorem PureFnGrowth (l0 : List Int) (e0 : l0.length ≤ maxLen) (e1 : ∀ x ∈ l0,(Lit.int .u8 x).wf = true) (e2 : l0.length * 1 ≤ 140737488351232) : ∃ k,laws_FnGrowth.f k l0 = some true:=by
 refine Ev.rounds (g:=fun k => laws_FnGrowth.f k l0) (r:=true) ?_
 unfold laws_FnGrowth.f
 by_cases h0 : (l0.length : Int) > 1048576
 ·exact Ev_t h0 (Ev.now _)
 refine Ev_f h0 ?_
 obtain ⟨⟨n,s,f,t⟩,e,a,⟨ls,lf,lt⟩,le,hd⟩:=drawGrowthOf_r l0 (bytes_of e1)
 have ls : s.length ≤ 1000:=ls
 have lf : f.length ≤ 1000:=lf
 have lt : t.length ≤ 1000:=lt
 have hd : Ev (fun k => spec_DrawGrowthOf.f k l0) (n,s,f,t,e,a):=hd
 obtain ⟨⟨rl,rb⟩,hr,ht,r1,r2⟩:=growth_both2 n s f t e a (by omega) (by omega) (by omega)
 obtain ⟨g,gs,gi,gt⟩:=grade_tell n s f t e (by omega) (by omega) (by omega)
 have hr : rl.length ≤ 2000:=hr
 have ds:=daSame_ev rl (by omega)
 refine Ev.bind hd (Ev.bind r2 (Ev.bind r1 (Ev.bind gi (Ev.bind ds (Ev_t rfl (Ev_f (by simp) (Ev.bind gs (Ev_t rfl ?_))))))))
 cases rb with
 | false => exact Ev_f (by simp) (Ev.bind ds (Ev_t rfl (Ev_t (by simp) (Ev.bind gs ((Ev.now _).is (decide_eq_true rfl))))))
 | true =>
  obtain ⟨m,ps,N,rfl,g1,hz,hne,hR,rfl,hN,hlen,tell⟩:=ht rfl
  obtain ⟨b0,bp,ib⟩:=ibound_at e hz ps hne hR
  exact Ev_t rfl (growthlaw_near m N s f t e g rl hlen hN (by omega) (by omega) (by omega) g1 hz ps hne hR b0 bp ib (gt m ps rfl g1 hz hne hR) tell)
end Go.Proofs.YtfgoojnblomonaaGreat.V
end
