/-
  Parts of the proof. No condition.
-/
import Derived.Test.YtmlpbmgfmnmmmaaGreatW2bb
set_option linter.unusedVariables false
set_option linter.unusedSimpArgs false
set_option maxRecDepth 8000
set_option maxHeartbeats 8000000
namespace Go.Proofs.YtmlpbmgfmnmmmaaGreat.V.M
theorem agY {α:Type}{l:List α}{i:Nat}{e z:α}(he:l[i]?=some e)(hu:∀j,j≠i→l[j]?≠some e):z∈l.eraseIdx i↔z∈l∧z≠e:=by
 rw[List.mem_eraseIdx_iff_getElem?];constructor
 ·rintro⟨j,hj,h⟩;exact⟨bF h,fun e'=>hu j hj (e'▸h)⟩
 ·rintro⟨hz,hn⟩;obtain⟨j,hj⟩:=ej hz;exact⟨j,fun a=>by subst a;rw[he] at hj;cases hj;exact hn rfl,hj⟩
section
variable {g:px}(h:im g)
include h
theorem im.aaL {s:Bs}{x:Tn}(hx:g s=some x){i:Nat}{e:Bs×Nat}(he:x.ks[i]?=some e){y:Tn}(hy:g (s++e.1)=some y)(hk:y.ks=[]){q:Option Nat×Nat} :
  im (ef (ef g s (some { x with ks:=x.ks.eraseIdx i,q:=q})) (s++e.1) none):=by
 have hm:=bF he;have Ey:=h.ne s x hx e hm;have hs:s≠s++e.1:=fun a=>Ey (by simpa using a)
 generalize hG:ef (ef g s (some { x with ks:=x.ks.eraseIdx i,q:=q})) (s++e.1) none=G;have G1:G (s++e.1)=none:=by rw[←hG,gp]
 have G2:G s=some { x with ks:=x.ks.eraseIdx i,q:=q}:=by rw[←hG,dz hs,gp]
 have G3:∀t,t≠s→t≠s++e.1→G t=g t:=fun t a b=>by rw[←hG,dz b,dz a]
 have ea:∀f,f∈x.ks.eraseIdx i↔f∈x.ks∧f≠e:=fun f=>agY he (h.one hx he)
 have ff:∀t z,G t=some z→t≠s++e.1∧∃z0,g t=some z0∧(t≠s→z.ks=z0.ks)∧z.n=z0.n∧z.e=z0.e∧z.b=z0.b:=fun t z hz=>by
  by_cases b:t=s++e.1
  ·subst b;rw[G1] at hz;cases hz
  ·refine⟨b,?_⟩
   by_cases a:t=s
   ·subst a;rw[G2] at hz;cases hz;exact⟨x,hx,fun c=>absurd rfl c,rfl,rfl,rfl⟩
   ·rw[G3 t a b] at hz;exact⟨z,hz,fun _=>rfl,rfl,rfl,rfl⟩
 have hold:∀t z,g t=some z→t≠s++e.1→∃z',G t=some z'∧z'.e=z.e∧z'.b=z.b:=fun t z hz b=>by
  by_cases a:t=s
  ·subst a;rw[hx] at hz;cases hz;exact⟨_,G2,rfl,rfl⟩
  ·exact⟨z,by rw[G3 t a b];exact hz,rfl,rfl⟩
 refine⟨?_,fun t z hz f hf=>?_,fun t z hz=>?_,fun t z hz f hf=>?_,fun t z u v hz hv cN aR=>?_,fun t z hz=>?_,fun t z hz=>?_⟩
 ·obtain⟨r,a,b⟩:=h.root;obtain⟨r',c,d,_⟩:=hold _ _ a (uP Ey);exact⟨r',c,d.trans b⟩
 ·obtain⟨_,z0,k1,k2,_⟩:=ff t z hz
  by_cases a:t=s
  ·subst a;rw[G2] at hz;cases hz;exact h.ne _ _ hx f ((ea f).1 hf).1
  ·exact h.ne _ _ k1 f (k2 a▸hf)
 ·obtain⟨_,z0,k1,k2,_⟩:=ff t z hz
  by_cases a:t=s
  ·subst a;rw[G2] at hz;cases hz;exact(h.ord _ _ hx).sublist (List.eraseIdx_sublist _ _)
  ·rw[k2 a];exact h.ord _ _ k1
 ·obtain⟨_,z0,k1,k2,_⟩:=ff t z hz
  by_cases a:t=s
  ·subst a;rw[G2] at hz;cases hz;obtain⟨uj,xS⟩:=(ea f).1 hf;obtain⟨w,r1,r2,r3⟩:=h.jb _ _ hx f uj;obtain⟨w',q1,q2,q3⟩:=hold _ _ r1 fun c=>xS (h.uniq hx uj hm (t:=t++e.1) (by rw[c];exact kP) kP)
   exact⟨w',q1,q2.trans r2,q3.trans r3⟩
  ·obtain⟨w,r1,r2,r3⟩:=h.jb _ _ k1 f (k2 a▸hf);obtain⟨w',q1,q2,q3⟩:=hold _ _ r1 fun c=>a (h.par k1 hx (k2 a▸hf) hm c)
   exact⟨w',q1,q2.trans r2,q3.trans r3⟩
 ·obtain⟨b1,z0,k1,k2,_⟩:=ff t z hz;obtain⟨b2,v0,kG,_⟩:=ff u v hv;obtain⟨f,hf,k⟩:=h.jv _ _ _ _ k1 kG cN aR
  by_cases a:t=s
  ·subst a;rw[hx] at k1;cases k1;rw[G2] at hz;cases hz;refine⟨f,(ea f).2 ⟨hf,fun c=>?_⟩,k⟩;subst c;obtain⟨d,hd,_⟩:=h.jv _ _ _ _ hy kG k (Ne.symm b2);rw[hk] at hd;cases hd
  ·exact⟨f,k2 a▸hf,k⟩
 ·obtain⟨_,z0,k1,_⟩:=ff t z hz;exact h.len _ _ k1
 ·obtain⟨_,z0,k1,_,k2,_⟩:=ff t z hz;rw[k2];exact h.num _ _ k1
theorem im.join {s:Bs}{x:Tn}(hx:g s=some x){i:Nat}{e:Bs×Nat}(he:x.ks[i]?=some e){y:Tn}(hy:g (s++e.1)=some y){f:Bs×Nat}(hk:y.ks=[f]){z:Tn}(hz:g (s++(e.1++f.1))=some z){q:Option Nat×Nat} :
  im (ef (ef (ef g s (some { x with ks:=x.ks.set i (e.1++f.1,z.b),q:=q})) (s++e.1) none) (s++(e.1++f.1)) (some { z with e:=e.1++f.1})):=by
 have hm:=bF he;have h1:=h.ne s x hx e hm;have Mo:f∈y.ks:=by rw[hk];simp
 have h2:=h.ne _ y hy f Mo;have oQ:s≠s++e.1:=fun a=>h1 (by simpa using a)
 have pO:s≠s++(e.1++f.1):=fun a=>h1 (by
  have:e.1++f.1=[]:=by simpa using a
  exact(List.append_eq_nil_iff.1 this).1)
 have tZ:s++e.1≠s++(e.1++f.1):=fun a=>h2 (by simpa using List.append_cancel_left a)
 generalize hG:ef (ef (ef g s (some { x with ks:=x.ks.set i (e.1++f.1,z.b),q:=q})) (s++e.1) none) (s++(e.1++f.1)) (some { z with e:=e.1++f.1})=G;have G1:G (s++(e.1++f.1))=some { z with e:=e.1++f.1}:=by rw[←hG,gp]
 have G2:G (s++e.1)=none:=by rw[←hG,dz tZ,gp]
 have G3:G s=some { x with ks:=x.ks.set i (e.1++f.1,z.b),q:=q}:=by rw[←hG,dz pO,dz oQ,gp]
 have G4:∀t,t≠s→t≠s++e.1→t≠s++(e.1++f.1)→G t=g t:=fun t a b c=>by rw[←hG,dz c,dz b,dz a]
 have ea:∀d,d∈x.ks.set i (e.1++f.1,z.b)↔d=(e.1++f.1,z.b)∨(d∈x.ks∧d≠e):=fun d=>VY he (h.one hx he)
 have ff:∀t w,G t=some w→t≠s++e.1∧∃w0,g t=some w0∧(t≠s→w.ks=w0.ks)∧w.n=w0.n∧w.b=w0.b:=fun t w hw=>by
  by_cases c:t=s++(e.1++f.1)
  ·subst c;rw[G1] at hw;cases hw;exact⟨Ne.symm tZ,z,hz,fun _=>rfl,rfl,rfl⟩
  ·by_cases b:t=s++e.1
   ·subst b;rw[G2] at hw;cases hw
   ·refine⟨b,?_⟩
    by_cases a:t=s
    ·subst a;rw[G3] at hw;cases hw;exact⟨x,hx,fun c=>absurd rfl c,rfl,rfl⟩
    ·rw[G4 t a b c] at hw;exact⟨w,hw,fun _=>rfl,rfl,rfl⟩
 have hold:∀t w,g t=some w→t≠s++e.1→∃w',G t=some w'∧w'.b=w.b∧(t≠s++(e.1++f.1)→w'.e=w.e):=fun t w hw b=>by
  by_cases c:t=s++(e.1++f.1)
  ·subst c;rw[hz] at hw;cases hw;exact⟨_,G1,rfl,fun c=>absurd rfl c⟩
  ·by_cases a:t=s
   ·subst a;rw[hx] at hw;cases hw;exact⟨_,G3,rfl,fun _=>rfl⟩
   ·exact⟨w,by rw[G4 t a b c];exact hw,rfl,fun _=>rfl⟩
 have Nw:s++(e.1++f.1)=(s++e.1)++f.1:=(cP _ _ _).symm;refine⟨?_,fun t w hw d iM=>?_,fun t w hw=>?_,fun t w hw d iM=>?_,fun t w u v hw hv cN aR=>?_,fun t w hw=>?_,fun t w hw=>?_⟩
 ·obtain⟨r,a,b⟩:=h.root;have n1:([]:Bs)≠s++e.1:=uP h1;have n2:([]:Bs)≠s++(e.1++f.1):=uP (zo h1);obtain⟨r',c,_,d⟩:=hold _ _ a n1;exact⟨r',c,(d n2).trans b⟩
 ·obtain⟨_,w0,k1,k2,_⟩:=ff t w hw
  by_cases a:t=s
  ·subst a;rw[G3] at hw;cases hw
   rcases(ea d).1 iM with rfl|⟨iM,_⟩
   ·exact fun a=>h1 (List.append_eq_nil_iff.1 a).1
   ·exact h.ne _ _ hx d iM
  ·exact h.ne _ _ k1 d (k2 a▸iM)
 ·obtain⟨_,w0,k1,k2,_⟩:=ff t w hw
  by_cases a:t=s
  ·subst a;rw[G3] at hw;cases hw;exact h.Wv hx he (by
    obtain⟨e1,e2⟩:=e;cases e1 with|nil=>exact absurd rfl h1|cons c e1=>rfl)
  ·rw[k2 a];exact h.ord _ _ k1
 ·obtain⟨_,w0,k1,k2,_⟩:=ff t w hw
  by_cases a:t=s
  ·subst a;rw[G3] at hw;cases hw
   rcases(ea d).1 iM with rfl|⟨iM,ft⟩
   ·exact⟨_,G1,rfl,rfl⟩
   ·obtain⟨p,r1,r2,r3⟩:=h.jb _ _ hx d iM;have n1:t++d.1≠t++e.1:=fun c=>ft (h.uniq hx iM hm (t:=t++e.1) (by rw[c];exact kP) kP)
    have n2:t++d.1≠t++(e.1++f.1):=fun c=>by
     rw[Nw] at c;have:=h.par hx hy iM Mo c;exact oQ this
    obtain⟨p',q1,q2,q3⟩:=hold _ _ r1 n1;exact⟨p',q1,(q3 n2).trans r2,q2.trans r3⟩
  ·obtain⟨p,r1,r2,r3⟩:=h.jb _ _ k1 d (k2 a▸iM);have n1:t++d.1≠s++e.1:=fun c=>a (h.par k1 hx (k2 a▸iM) hm c)
   have n2:t++d.1≠s++(e.1++f.1):=fun c=>by
    rw[Nw] at c;have:=h.par k1 hy (k2 a▸iM) Mo c;subst this;rw[G2] at hw;cases hw
   obtain⟨p',q1,q2,q3⟩:=hold _ _ r1 n1;exact⟨p',q1,(q3 n2).trans r2,q2.trans r3⟩
 ·obtain⟨b1,w0,k1,k2,_⟩:=ff t w hw;obtain⟨b2,v0,kG,_⟩:=ff u v hv;obtain⟨d,iM,k⟩:=h.jv _ _ _ _ k1 kG cN aR
  by_cases a:t=s
  ·subst a;rw[hx] at k1;cases k1;rw[G3] at hw;cases hw
   by_cases c:d=e
   ·subst c;obtain⟨d2,ft,k9⟩:=h.jv _ _ _ _ hy kG k (Ne.symm b2);rw[hk] at ft;simp at ft;subst ft;exact⟨_,(ea _).2 (.inl rfl),by rw[Nw];exact k9⟩
   ·exact⟨d,(ea d).2 (.inr ⟨iM,c⟩),k⟩
  ·exact⟨d,k2 a▸iM,k⟩
 ·obtain⟨_,w0,k1,_⟩:=ff t w hw;exact h.len _ _ k1
 ·obtain⟨_,w0,k1,_,k2,_⟩:=ff t w hw;rw[k2];exact h.num _ _ k1
end
def qQ (P:Bs→Nat)(s:Bs):Nat→Nat
 |0=>0
 |k+1=>max (qQ P s k) (P (s.take k))
theorem NZ {P:Bs→Nat}{s:Bs}{a:Nat}:∀d,(∀i,a≤i→i<a+d→P (s.take i)=0)→qQ P s (a+d)=qQ P s a
 |0,_=>rfl
 |d+1,h=>by
  show max (qQ P s (a+d)) (P (s.take (a+d)))=_;rw[h (a+d) ah ah,NZ d fun i h1 h2=>h i h1 ah];omega
def wB (P:Bs→Nat)(s:Bs):Nat:=qQ P s (s.length+1)
section
variable {g:px}(h:im g)
include h
theorem im.gap {s:Bs}{x:Tn}{a:Nat}(hx:g (s.take a)=some x)(ha:a≤s.length){e:Bs×Nat}(he:e∈x.ks)(hp:s.take a++e.1 <+: s){i:Nat}(h1:a<i)(h2:i<a+e.1.length):bW g (s.take i)=0:=by
 have hl:=hp.length_le;rw[bJ,dE,pc ha] at hl;unfold bW;cases hg:g (s.take i) with
 |none=>rfl
 |some y=>
  have aR:s.take a≠s.take i:=fun e=>by
   have:=congrArg List.length e;rw[dE,dE] at this;omega
  obtain⟨f,hf,k⟩:=h.jv _ _ _ _ hx hg (List.take_prefix_take_left ah) aR;have:=h.uniq hx he hf hp (k.trans (List.take_prefix _ _));subst this;have:=k.length_le;rw[bJ,dE,dE] at this;omega
theorem im.ag0 {s:Bs}{x:Tn}{a:Nat}(hx:g (s.take a)=some x)(ha:a≤s.length)(bG:∀e∈x.ks,¬s.take a++e.1 <+: s){i:Nat}(h1:a<i)(h2:i≤s.length):g (s.take i)=none:=by
 cases hg:g (s.take i) with
 |none=>rfl
 |some y=>
  have aR:s.take a≠s.take i:=fun e=>by
   have:=congrArg List.length e;rw[dE,dE] at this;omega
  obtain⟨f,hf,k⟩:=h.jv _ _ _ _ hx hg (List.take_prefix_take_left ah) aR;exact absurd (k.trans (List.take_prefix _ _)) (bG f hf)
theorem im.agR {s:Bs}{x:Tn}{a:Nat}(hx:g (s.take a)=some x)(ha:a≤s.length){e:Bs×Nat}(he:e∈x.ks)(hp:s.take a++e.1 <+: s):qQ (bW g) s (a+e.1.length)=qQ (bW g) s (a+1):=by
 have kF:=xl.2 (h.ne _ _ hx e he);rw[show a+e.1.length=(a+1)+(e.1.length - 1) by omega];exact NZ _ fun i h1 h2=>h.gap hx ha he hp ah ah
theorem im.VT {s:Bs}{x:Tn}{a:Nat}(hx:g (s.take a)=some x)(ha:a≤s.length)(bG:∀e∈x.ks,¬s.take a++e.1 <+: s):wB (bW g) s=qQ (bW g) s (a+1):=by
 unfold wB;rw[show s.length+1=(a+1)+(s.length - a) by omega];refine NZ _ fun i h1 h2=>?_
 unfold bW;rw[h.ag0 hx ha bG ah ah]
end
theorem VN {a b:Bs}(s:Bs):s++a<s++b↔a<b:=by
 induction s with
 |nil=>exact Iff.rfl
 |cons c s ih=>
  rw[iQ,iQ,List.cons_lt_cons_iff];constructor
  ·rintro(h|⟨_,h⟩)
   ·exact absurd h (UInt8.lt_irrefl _)
   ·exact ih.1 h
  ·exact fun h => .inr ⟨rfl,ih.2 h⟩
theorem NV {s e:Bs}(h:e≠[])(t:Bs):s<s++e++t:=by
 have:s++[]<s++(e++t):=(VN s).2 (by
  cases e with
  |nil=>exact absurd rfl h
  |cons c e=>exact List.nil_lt_cons _ _)
 rwa [eY,←cP] at this
theorem NU {s e f:Bs}(he:e≠[])(hf:f≠[])(h:hd e<hd f)(u v:Bs):s++e++u<s++f++v:=by
 rw[cP,cP,VN];cases e with
 |nil=>exact absurd rfl he
 |cons c e=>
  cases f with
  |nil=>exact absurd rfl hf
  |cons d f=>
   rw[iQ,iQ,List.cons_lt_cons_iff];exact .inl (UInt8.lt_iff_toNat_lt.2 h)
structure LU (g:px)(p s:Bs)(l:List (Bs×Nat)):Prop where
 ord:l.Pairwise fun a b=>a.1<b.1
 mem:∀t n,(t,n)∈l↔0<n∧bW g t=n∧s <+: t∧p <+: t
structure zc (g:px)(p s:Bs)(ks:List (Bs×Nat))(l:List (Bs×Nat)):Prop where
 ord:l.Pairwise fun a b=>a.1<b.1
 mem:∀t n,(t,n)∈l↔0<n∧bW g t=n∧(∃e∈ks,s++e.1 <+: t)∧p <+: t
theorem zc.nil (g:px)(p s:Bs):zc g p s [] []:=⟨List.Pairwise.nil,fun t n=>by simp⟩
section
variable {g:px}(h:im g)
include h
theorem im.lus {s p:Bs}{x:Tn}(hx:g s=some x){i:Nat}{e:Bs×Nat}(he:x.ks[i]?=some e){l m:List (Bs×Nat)}(h1:zc g p s (x.ks.take i) l)(h2:LU g p (s++e.1) m):zc g p s (x.ks.take (i+1)) (l++m):=by
 have hi:=aV.1 he;have ht:x.ks.take (i+1)=x.ks.take i++[e]:=by rw[kQ hi.1,hi.2]
 refine⟨xm.2 ⟨h1.ord,h2.ord,fun a ha b hb=>?_⟩,fun t n=>?_⟩
 ·obtain⟨_,_,⟨f,hf,u,hu⟩,_⟩:=(h1.mem a.1 a.2).1 ha;obtain⟨_,_,⟨v,hv⟩,_⟩:=(h2.mem b.1 b.2).1 hb;rw[←hu,←hv];have ho:=h.ord s x hx;have aP:hd f.1<hd e.1:=by
   have h3:(x.ks.take (i+1)).Pairwise fun a b=>hd a.1<hd b.1:=ho.sublist (List.take_sublist _ _)
   rw[ht,xm] at h3;exact h3.2.2 f hf e (by simp)
  exact NU (h.ne s x hx f (List.mem_of_mem_take hf)) (h.ne s x hx e (bF he)) aP u v
 ·rw[cJ,h1.mem,h2.mem,ht];constructor
  ·rintro(⟨a,b,⟨f,hf,k⟩,c⟩|⟨a,b,k,c⟩)
   ·exact⟨a,b,⟨f,tH _ hf,k⟩,c⟩
   ·exact⟨a,b,⟨e,by simp,k⟩,c⟩
  ·rintro⟨a,b,⟨f,hf,k⟩,c⟩
   rcases cJ.1 hf with hf|hf
   ·exact .inl ⟨a,b,⟨f,hf,k⟩,c⟩
   ·simp at hf;subst hf;exact .inr ⟨a,b,k,c⟩
theorem im.lu {s p:Bs}{x:Tn}(hx:g s=some x){l:List (Bs×Nat)}(h1:zc g p s x.ks l):LU g p s ((if 0<x.n∧p <+: s then[(s,x.n)] else[])++l):=by
 have hs:bW g s=x.n:=by unfold bW;rw[hx]
 refine⟨xm.2 ⟨by split<;>simp,h1.ord,fun a ha b hb=>?_⟩,fun t n=>?_⟩
 ·split at ha
  ·simp at ha;subst ha;obtain⟨_,_,⟨f,hf,u,hu⟩,_⟩:=(h1.mem b.1 b.2).1 hb;rw[←hu];exact NV (h.ne s x hx f hf) u
  ·cases ha
 ·rw[cJ,h1.mem];constructor
  ·rintro(ha|⟨a,b,⟨f,hf,k⟩,c⟩)
   ·split at ha
    ·rename_i hc;simp at ha;obtain⟨rfl,rfl⟩:=ha;exact⟨hc.1,hs,kP,hc.2⟩
    ·cases ha
   ·exact⟨a,b,OI k,c⟩
  ·rintro⟨a,b,k,c⟩
   by_cases e:s=t
   ·subst e;have:n=x.n:=b.symm.trans hs;subst this;left;rw[if_pos ⟨a,c⟩];simp
   ·have hg:∃y,g t=some y:=by
     cases hg:g t with
     |none=>exact absurd (show 0=n from by unfold bW at b;rw[hg] at b;exact b) ah
     |some y=>exact⟨y,rfl⟩
    obtain⟨y,hg⟩:=hg;exact .inr ⟨a,b,h.jv _ _ _ _ hx hg k e,c⟩
omit h in
theorem LU.apart {p s:Bs}(h1:¬s <+: p)(h2:¬p <+: s):LU g p s []:=⟨List.Pairwise.nil,fun t n=>by
 constructor
 ·intro h;cases h
 ·rintro⟨_,_,a,b⟩
  rcases JG a b with c|c
  ·exact absurd c h1
  ·exact absurd c h2⟩
end
end Go.Proofs.YtmlpbmgfmnmmmaaGreat.V.M
