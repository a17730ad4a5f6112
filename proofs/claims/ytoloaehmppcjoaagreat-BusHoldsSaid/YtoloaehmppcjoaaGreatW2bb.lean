/-
  Parts of the proof. No condition.
-/
import Derived.Test.YtoloaehmppcjoaaGreatW2ba
import Derived.Test.YtoloaehmppcjoaaGreatW2aq
import Derived.Test.YtoloaehmppcjoaaGreatW2am
import Derived.Lib.AppendZerosOnto
import Derived.Lib.Overlaps
set_option linter.unusedVariables false
set_option linter.unusedSimpArgs false
set_option maxRecDepth 8000
set_option maxHeartbeats 8000000
open Go.Proofs.Tryz
namespace Go.Proofs.YtoloaehmppcjoaaGreat.V.M
section
theorem agW {α:Type}{l:List α}{i:Nat}{e z:α}(he:l[i]?=some e)(hu:∀j,j≠i→l[j]?≠some e):z∈l.eraseIdx i↔z∈l∧z≠e:=by
 rw[List.mem_eraseIdx_iff_getElem?];constructor
 ·rintro⟨j,hj,h⟩;exact⟨bD h,fun e'=>hu j hj (e'▸h)⟩
 ·rintro⟨hz,hn⟩;obtain⟨j,hj⟩:=ey hz;exact⟨j,fun a=>by subst a;rw[he] at hj;cases hj;exact hn rfl,hj⟩
section
variable {g:pO}(h:iG g)
include h
theorem iG.aaM {s:Bs}{x:Tn}(hx:g s=some x){i:Nat}{e:Bs×Nat}(he:x.ks[i]?=some e){y:Tn}(hy:g (s++e.1)=some y)(hk:y.ks=[]){q:Option Nat×Nat} :
  iG (ew (ew g s (some { x with ks:=x.ks.eraseIdx i,q:=q})) (s++e.1) none):=by
 have hm:=bD he;have EJ:=h.ne s x hx e hm;have hs:s≠s++e.1:=fun a=>EJ (by simpa using a)
 generalize hG:ew (ew g s (some { x with ks:=x.ks.eraseIdx i,q:=q})) (s++e.1) none=G;have G1:G (s++e.1)=none:=by rw[←hG,gF]
 have G2:G s=some { x with ks:=x.ks.eraseIdx i,q:=q}:=by rw[←hG,dD hs,gF]
 have G3:∀t,t≠s→t≠s++e.1→G t=g t:=fun t a b=>by rw[←hG,dD b,dD a]
 have dN:∀f,f∈x.ks.eraseIdx i↔f∈x.ks∧f≠e:=fun f=>agW he (h.one hx he)
 have fy:∀t z,G t=some z→t≠s++e.1∧∃z0,g t=some z0∧(t≠s→z.ks=z0.ks)∧z.n=z0.n∧z.e=z0.e∧z.b=z0.b:=fun t z hz=>by
  by_cases b:t=s++e.1
  ·subst b;rw[G1] at hz;cases hz
  ·refine⟨b,?_⟩
   by_cases a:t=s
   ·subst a;rw[G2] at hz;cases hz;exact⟨x,hx,fun c=>absurd rfl c,rfl,rfl,rfl⟩
   ·rw[G3 t a b] at hz;exact⟨z,hz,fun _=>rfl,rfl,rfl,rfl⟩
 have hold:∀t z,g t=some z→t≠s++e.1→∃z',G t=some z'∧z'.e=z.e∧z'.b=z.b:=fun t z hz b=>by
  by_cases a:t=s
  ·subst a;rw[hx] at hz;cases hz;exact⟨_,G2,rfl,rfl⟩
  ·exact⟨z,by rw[G3 t a b];exact hz,rfl,rfl⟩
 refine⟨?_,fun t z hz f hf=>?_,fun t z hz=>?_,fun t z hz f hf=>?_,fun t z u v hz hv cK aP=>?_,fun t z hz=>?_,fun t z hz=>?_⟩
 ·obtain⟨r,a,b⟩:=h.root;obtain⟨r',c,d,_⟩:=hold _ _ a (vc EJ);exact⟨r',c,d.trans b⟩
 ·obtain⟨_,z0,k1,k2,_⟩:=fy t z hz
  by_cases a:t=s
  ·subst a;rw[G2] at hz;cases hz;exact h.ne _ _ hx f ((dN f).1 hf).1
  ·exact h.ne _ _ k1 f (k2 a▸hf)
 ·obtain⟨_,z0,k1,k2,_⟩:=fy t z hz
  by_cases a:t=s
  ·subst a;rw[G2] at hz;cases hz;exact(h.ord _ _ hx).sublist (List.eraseIdx_sublist _ _)
  ·rw[k2 a];exact h.ord _ _ k1
 ·obtain⟨_,z0,k1,k2,_⟩:=fy t z hz
  by_cases a:t=s
  ·subst a;rw[G2] at hz;cases hz;obtain⟨uC,rS⟩:=(dN f).1 hf;obtain⟨w,r1,r2,r3⟩:=h.jz _ _ hx f uC;obtain⟨w',q1,q2,q3⟩:=hold _ _ r1 fun c=>rS (h.uniq hx uC hm (t:=t++e.1) (by rw[c];exact lg) lg)
   exact⟨w',q1,q2.trans r2,q3.trans r3⟩
  ·obtain⟨w,r1,r2,r3⟩:=h.jz _ _ k1 f (k2 a▸hf);obtain⟨w',q1,q2,q3⟩:=hold _ _ r1 fun c=>a (h.par k1 hx (k2 a▸hf) hm c)
   exact⟨w',q1,q2.trans r2,q3.trans r3⟩
 ·obtain⟨b1,z0,k1,k2,_⟩:=fy t z hz;obtain⟨b2,v0,kT,_⟩:=fy u v hv;obtain⟨f,hf,k⟩:=h.jP _ _ _ _ k1 kT cK aP
  by_cases a:t=s
  ·subst a;rw[hx] at k1;cases k1;rw[G2] at hz;cases hz;refine⟨f,(dN f).2 ⟨hf,fun c=>?_⟩,k⟩;subst c;obtain⟨d,hd,_⟩:=h.jP _ _ _ _ hy kT k (Ne.symm b2);rw[hk] at hd;cases hd
  ·exact⟨f,k2 a▸hf,k⟩
 ·obtain⟨_,z0,k1,_⟩:=fy t z hz;exact h.len _ _ k1
 ·obtain⟨_,z0,k1,_,k2,_⟩:=fy t z hz;rw[k2];exact h.num _ _ k1
theorem iG.join {s:Bs}{x:Tn}(hx:g s=some x){i:Nat}{e:Bs×Nat}(he:x.ks[i]?=some e){y:Tn}(hy:g (s++e.1)=some y){f:Bs×Nat}(hk:y.ks=[f]){z:Tn}(hz:g (s++(e.1++f.1))=some z){q:Option Nat×Nat} :
  iG (ew (ew (ew g s (some { x with ks:=x.ks.set i (e.1++f.1,z.b),q:=q})) (s++e.1) none) (s++(e.1++f.1)) (some { z with e:=e.1++f.1})):=by
 have hm:=bD he;have h1:=h.ne s x hx e hm;have My:f∈y.ks:=by rw[hk];simp
 have h2:=h.ne _ y hy f My;have mJ:s≠s++e.1:=fun a=>h1 (by simpa using a)
 have oq:s≠s++(e.1++f.1):=fun a=>h1 (by
  have:e.1++f.1=[]:=by simpa using a
  exact(List.append_eq_nil_iff.1 this).1)
 have uu:s++e.1≠s++(e.1++f.1):=fun a=>h2 (by simpa using List.append_cancel_left a)
 generalize hG:ew (ew (ew g s (some { x with ks:=x.ks.set i (e.1++f.1,z.b),q:=q})) (s++e.1) none) (s++(e.1++f.1)) (some { z with e:=e.1++f.1})=G;have G1:G (s++(e.1++f.1))=some { z with e:=e.1++f.1}:=by rw[←hG,gF]
 have G2:G (s++e.1)=none:=by rw[←hG,dD uu,gF]
 have G3:G s=some { x with ks:=x.ks.set i (e.1++f.1,z.b),q:=q}:=by rw[←hG,dD oq,dD mJ,gF]
 have G4:∀t,t≠s→t≠s++e.1→t≠s++(e.1++f.1)→G t=g t:=fun t a b c=>by rw[←hG,dD c,dD b,dD a]
 have dN:∀d,d∈x.ks.set i (e.1++f.1,z.b)↔d=(e.1++f.1,z.b)∨(d∈x.ks∧d≠e):=fun d=>V2 he (h.one hx he)
 have fy:∀t w,G t=some w→t≠s++e.1∧∃w0,g t=some w0∧(t≠s→w.ks=w0.ks)∧w.n=w0.n∧w.b=w0.b:=fun t w hw=>by
  by_cases c:t=s++(e.1++f.1)
  ·subst c;rw[G1] at hw;cases hw;exact⟨Ne.symm uu,z,hz,fun _=>rfl,rfl,rfl⟩
  ·by_cases b:t=s++e.1
   ·subst b;rw[G2] at hw;cases hw
   ·refine⟨b,?_⟩
    by_cases a:t=s
    ·subst a;rw[G3] at hw;cases hw;exact⟨x,hx,fun c=>absurd rfl c,rfl,rfl⟩
    ·rw[G4 t a b c] at hw;exact⟨w,hw,fun _=>rfl,rfl,rfl⟩
 have hold:∀t w,g t=some w→t≠s++e.1→∃w',G t=some w'∧w'.b=w.b∧(t≠s++(e.1++f.1)→w'.e=w.e):=fun t w hw b=>by
  by_cases c:t=s++(e.1++f.1)
  ·subst c;rw[hz] at hw;cases hw;exact⟨_,G1,rfl,fun c=>absurd rfl c⟩
  ·by_cases a:t=s
   ·subst a;rw[hx] at hw;cases hw;exact⟨_,G3,rfl,fun _=>rfl⟩
   ·exact⟨w,by rw[G4 t a b c];exact hw,rfl,fun _=>rfl⟩
 have NG:s++(e.1++f.1)=(s++e.1)++f.1:=(cS _ _ _).symm;refine⟨?_,fun t w hw d jQ=>?_,fun t w hw=>?_,fun t w hw d jQ=>?_,fun t w u v hw hv cK aP=>?_,fun t w hw=>?_,fun t w hw=>?_⟩
 ·obtain⟨r,a,b⟩:=h.root;have n1:([]:Bs)≠s++e.1:=vc h1;have n2:([]:Bs)≠s++(e.1++f.1):=vc (zj h1);obtain⟨r',c,_,d⟩:=hold _ _ a n1;exact⟨r',c,(d n2).trans b⟩
 ·obtain⟨_,w0,k1,k2,_⟩:=fy t w hw
  by_cases a:t=s
  ·subst a;rw[G3] at hw;cases hw
   rcases(dN d).1 jQ with rfl|⟨jQ,_⟩
   ·exact fun a=>h1 (List.append_eq_nil_iff.1 a).1
   ·exact h.ne _ _ hx d jQ
  ·exact h.ne _ _ k1 d (k2 a▸jQ)
 ·obtain⟨_,w0,k1,k2,_⟩:=fy t w hw
  by_cases a:t=s
  ·subst a;rw[G3] at hw;cases hw;exact h.Ww hx he (by
    obtain⟨e1,e2⟩:=e;cases e1 with|nil=>exact absurd rfl h1|cons c e1=>rfl)
  ·rw[k2 a];exact h.ord _ _ k1
 ·obtain⟨_,w0,k1,k2,_⟩:=fy t w hw
  by_cases a:t=s
  ·subst a;rw[G3] at hw;cases hw
   rcases(dN d).1 jQ with rfl|⟨jQ,fE⟩
   ·exact⟨_,G1,rfl,rfl⟩
   ·obtain⟨p,r1,r2,r3⟩:=h.jz _ _ hx d jQ;have n1:t++d.1≠t++e.1:=fun c=>fE (h.uniq hx jQ hm (t:=t++e.1) (by rw[c];exact lg) lg)
    have n2:t++d.1≠t++(e.1++f.1):=fun c=>by
     rw[NG] at c;have:=h.par hx hy jQ My c;exact mJ this
    obtain⟨p',q1,q2,q3⟩:=hold _ _ r1 n1;exact⟨p',q1,(q3 n2).trans r2,q2.trans r3⟩
  ·obtain⟨p,r1,r2,r3⟩:=h.jz _ _ k1 d (k2 a▸jQ);have n1:t++d.1≠s++e.1:=fun c=>a (h.par k1 hx (k2 a▸jQ) hm c)
   have n2:t++d.1≠s++(e.1++f.1):=fun c=>by
    rw[NG] at c;have:=h.par k1 hy (k2 a▸jQ) My c;subst this;rw[G2] at hw;cases hw
   obtain⟨p',q1,q2,q3⟩:=hold _ _ r1 n1;exact⟨p',q1,(q3 n2).trans r2,q2.trans r3⟩
 ·obtain⟨b1,w0,k1,k2,_⟩:=fy t w hw;obtain⟨b2,v0,kT,_⟩:=fy u v hv;obtain⟨d,jQ,k⟩:=h.jP _ _ _ _ k1 kT cK aP
  by_cases a:t=s
  ·subst a;rw[hx] at k1;cases k1;rw[G3] at hw;cases hw
   by_cases c:d=e
   ·subst c;obtain⟨d2,fE,k9⟩:=h.jP _ _ _ _ hy kT k (Ne.symm b2);rw[hk] at fE;simp at fE;subst fE;exact⟨_,(dN _).2 (.inl rfl),by rw[NG];exact k9⟩
   ·exact⟨d,(dN d).2 (.inr ⟨jQ,c⟩),k⟩
  ·exact⟨d,k2 a▸jQ,k⟩
 ·obtain⟨_,w0,k1,_⟩:=fy t w hw;exact h.len _ _ k1
 ·obtain⟨_,w0,k1,_,k2,_⟩:=fy t w hw;rw[k2];exact h.num _ _ k1
end
def lE (P:Bs→Nat)(s:Bs):Nat→Nat
 |0=>0
 |k+1=>max (lE P s k) (P (s.take k))
theorem N8 {P:Bs→Nat}{s:Bs}{a:Nat}:∀d,(∀i,a≤i→i<a+d→P (s.take i)=0)→lE P s (a+d)=lE P s a
 |0,_=>rfl
 |d+1,h=>by
  show max (lE P s (a+d)) (P (s.take (a+d)))=_;rw[h (a+d) ah ah,N8 d fun i h1 h2=>h i h1 ah];omega
def sy (P:Bs→Nat)(s:Bs):Nat:=lE P s (s.length+1)
section
variable {g:pO}(h:iG g)
include h
theorem iG.gap {s:Bs}{x:Tn}{a:Nat}(hx:g (s.take a)=some x)(ha:a≤s.length){e:Bs×Nat}(he:e∈x.ks)(hp:s.take a++e.1 <+: s){i:Nat}(h1:a<i)(h2:i<a+e.1.length):bX g (s.take i)=0:=by
 have hl:=hp.length_le;rw[bH,dI,pC ha] at hl;unfold bX;cases hg:g (s.take i) with
 |none=>rfl
 |some y=>
  have aP:s.take a≠s.take i:=fun e=>by
   have:=congrArg List.length e;rw[dI,dI] at this;omega
  obtain⟨f,hf,k⟩:=h.jP _ _ _ _ hx hg (List.take_prefix_take_left ah) aP;have:=h.uniq hx he hf hp (k.trans (List.take_prefix _ _));subst this;have:=k.length_le;rw[bH,dI,dI] at this;omega
theorem iG.agY {s:Bs}{x:Tn}{a:Nat}(hx:g (s.take a)=some x)(ha:a≤s.length)(bz:∀e∈x.ks,¬s.take a++e.1 <+: s){i:Nat}(h1:a<i)(h2:i≤s.length):g (s.take i)=none:=by
 cases hg:g (s.take i) with
 |none=>rfl
 |some y=>
  have aP:s.take a≠s.take i:=fun e=>by
   have:=congrArg List.length e;rw[dI,dI] at this;omega
  obtain⟨f,hf,k⟩:=h.jP _ _ _ _ hx hg (List.take_prefix_take_left ah) aP;exact absurd (k.trans (List.take_prefix _ _)) (bz f hf)
theorem iG.agP {s:Bs}{x:Tn}{a:Nat}(hx:g (s.take a)=some x)(ha:a≤s.length){e:Bs×Nat}(he:e∈x.ks)(hp:s.take a++e.1 <+: s):lE (bX g) s (a+e.1.length)=lE (bX g) s (a+1):=by
 have kS:=xw.2 (h.ne _ _ hx e he);rw[show a+e.1.length=(a+1)+(e.1.length - 1) by omega];exact N8 _ fun i h1 h2=>h.gap hx ha he hp ah ah
theorem iG.VX {s:Bs}{x:Tn}{a:Nat}(hx:g (s.take a)=some x)(ha:a≤s.length)(bz:∀e∈x.ks,¬s.take a++e.1 <+: s):sy (bX g) s=lE (bX g) s (a+1):=by
 unfold sy;rw[show s.length+1=(a+1)+(s.length - a) by omega];refine N8 _ fun i h1 h2=>?_
 unfold bX;rw[h.agY hx ha bz ah ah]
end
theorem VO {a b:Bs}(s:Bs):s++a<s++b↔a<b:=by
 induction s with
 |nil=>exact Iff.rfl
 |cons c s ih=>
  rw[jK,jK,List.cons_lt_cons_iff];constructor
  ·rintro(h|⟨_,h⟩)
   ·exact absurd h (UInt8.lt_irrefl _)
   ·exact ih.1 h
  ·exact fun h => .inr ⟨rfl,ih.2 h⟩
theorem N5 {s e:Bs}(h:e≠[])(t:Bs):s<s++e++t:=by
 have:s++[]<s++(e++t):=(VO s).2 (by
  cases e with
  |nil=>exact absurd rfl h
  |cons c e=>exact List.nil_lt_cons _ _)
 rwa [fB,←cS] at this
theorem N4 {s e f:Bs}(he:e≠[])(hf:f≠[])(h:hd e<hd f)(u v:Bs):s++e++u<s++f++v:=by
 rw[cS,cS,VO];cases e with
 |nil=>exact absurd rfl he
 |cons c e=>
  cases f with
  |nil=>exact absurd rfl hf
  |cons d f=>
   rw[jK,jK,List.cons_lt_cons_iff];exact .inl (UInt8.lt_iff_toNat_lt.2 h)
structure LU (g:pO)(p s:Bs)(l:List (Bs×Nat)):Prop where
 ord:l.Pairwise fun a b=>a.1<b.1
 mem:∀t n,(t,n)∈l↔0<n∧bX g t=n∧s <+: t∧p <+: t
structure y8 (g:pO)(p s:Bs)(ks:List (Bs×Nat))(l:List (Bs×Nat)):Prop where
 ord:l.Pairwise fun a b=>a.1<b.1
 mem:∀t n,(t,n)∈l↔0<n∧bX g t=n∧(∃e∈ks,s++e.1 <+: t)∧p <+: t
theorem y8.nil (g:pO)(p s:Bs):y8 g p s [] []:=⟨List.Pairwise.nil,fun t n=>by simp⟩
section
variable {g:pO}(h:iG g)
include h
theorem iG.lus {s p:Bs}{x:Tn}(hx:g s=some x){i:Nat}{e:Bs×Nat}(he:x.ks[i]?=some e){l m:List (Bs×Nat)}(h1:y8 g p s (x.ks.take i) l)(h2:LU g p (s++e.1) m):y8 g p s (x.ks.take (i+1)) (l++m):=by
 have hi:=aV.1 he;have ht:x.ks.take (i+1)=x.ks.take i++[e]:=by rw[lh hi.1,hi.2]
 refine⟨xx.2 ⟨h1.ord,h2.ord,fun a ha b hb=>?_⟩,fun t n=>?_⟩
 ·obtain⟨_,_,⟨f,hf,u,hu⟩,_⟩:=(h1.mem a.1 a.2).1 ha;obtain⟨_,_,⟨v,hv⟩,_⟩:=(h2.mem b.1 b.2).1 hb;rw[←hu,←hv];have ho:=h.ord s x hx;have aN:hd f.1<hd e.1:=by
   have h3:(x.ks.take (i+1)).Pairwise fun a b=>hd a.1<hd b.1:=ho.sublist (List.take_sublist _ _)
   rw[ht,xx] at h3;exact h3.2.2 f hf e (by simp)
  exact N4 (h.ne s x hx f (List.mem_of_mem_take hf)) (h.ne s x hx e (bD he)) aN u v
 ·rw[cx,h1.mem,h2.mem,ht];constructor
  ·rintro(⟨a,b,⟨f,hf,k⟩,c⟩|⟨a,b,k,c⟩)
   ·exact⟨a,b,⟨f,tZ _ hf,k⟩,c⟩
   ·exact⟨a,b,⟨e,by simp,k⟩,c⟩
  ·rintro⟨a,b,⟨f,hf,k⟩,c⟩
   rcases cx.1 hf with hf|hf
   ·exact .inl ⟨a,b,⟨f,hf,k⟩,c⟩
   ·simp at hf;subst hf;exact .inr ⟨a,b,k,c⟩
theorem iG.lu {s p:Bs}{x:Tn}(hx:g s=some x){l:List (Bs×Nat)}(h1:y8 g p s x.ks l):LU g p s ((if 0<x.n∧p <+: s then[(s,x.n)] else[])++l):=by
 have hs:bX g s=x.n:=by unfold bX;rw[hx]
 refine⟨xx.2 ⟨by split<;>simp,h1.ord,fun a ha b hb=>?_⟩,fun t n=>?_⟩
 ·split at ha
  ·simp at ha;subst ha;obtain⟨_,_,⟨f,hf,u,hu⟩,_⟩:=(h1.mem b.1 b.2).1 hb;rw[←hu];exact N5 (h.ne s x hx f hf) u
  ·cases ha
 ·rw[cx,h1.mem];constructor
  ·rintro(ha|⟨a,b,⟨f,hf,k⟩,c⟩)
   ·split at ha
    ·rename_i hc;simp at ha;obtain⟨rfl,rfl⟩:=ha;exact⟨hc.1,hs,lg,hc.2⟩
    ·cases ha
   ·exact⟨a,b,OQ k,c⟩
  ·rintro⟨a,b,k,c⟩
   by_cases e:s=t
   ·subst e;have:n=x.n:=b.symm.trans hs;subst this;left;rw[if_pos ⟨a,c⟩];simp
   ·have hg:∃y,g t=some y:=by
     cases hg:g t with
     |none=>exact absurd (show 0=n from by unfold bX at b;rw[hg] at b;exact b) ah
     |some y=>exact⟨y,rfl⟩
    obtain⟨y,hg⟩:=hg;exact .inr ⟨a,b,h.jP _ _ _ _ hx hg k e,c⟩
omit h in
theorem LU.apart {p s:Bs}(h1:¬s <+: p)(h2:¬p <+: s):LU g p s []:=⟨List.Pairwise.nil,fun t n=>by
 constructor
 ·intro h;cases h
 ·rintro⟨_,_,a,b⟩
  rcases JQ a b with c|c
  ·exact absurd c h1
  ·exact absurd c h2⟩
end
end
section
attribute [local irreducible] GO GX
section
variable {P:Program}{ops:Array Oper}{Q:Exit→Act→World→Prop}{S:World→Prop}{n:Nat}
variable {i m:Nat}{p:b6}{e:Env}{w:World}{k:Kd}{dst:Option Tmp}{ty:TypeId}{pos:String}{an:Array Edge}{g:Option (Nat×Bool)}
variable {og:Og}{l r l':List It}{b:Nat}
theorem GX.mg [Fr]{T:Nat→Prop}{w0:World}{t:TypeId}{x:Operand}{v:Value}{vs:List Value}{el:TypeId}{sz aT:Nat}(hH:SH og w l:=by assumption)
  (ho:ops[i]?=some ⟨dst, .buildSlice t 1 #[(0,x)],ty,pos,an,g⟩:=by rfl) (hf:cr P t el sz aT:=by infer_instance) (hw:aI ops e ⟨dst, .buildSlice t 1 #[(0,x)],ty,pos,an,g⟩=some true:=by rfl) (hx:ev e x=some v:=by rfl) (hv:Cl v vs:=by first|exact Cl.agg|exact Cl.one rfl) (hl:vs.length=sz:=by rfl) (h0:Nat.blt 0 sz=true:=by rfl) (hz:Nat.ble sz 16777216=true:=by rfl) (j8:Nat.ble aT 140737488355328=true:=by rfl) (hd:fits n dst=true:=by rfl) (hT:Mod T w0 w:=by first|assumption|exact Ext.mod (by assumption))
  (h:∀b w',Mod T w0 w'→SH og w' (aq el sz (some b) 1 1 vs::l)→GX P ops Q (Mod T w0) n p (e.put dst (.slice (some ⟨b,0,none⟩) 1 1)) w'):GX P ops Q (Mod T w0) n (.aw i p) e w:=
 GX.CP ho hw hx hv.eq hl h0 hz j8 hd fun b w' hb hO hE=>h b w' (hT.trans hE.mod) (hH.cF hE (fun k hk=>by cases hk;omega) hO)
theorem GX.oU [Fr]{T:Nat→Prop}{w0:World}{bn:Nat}{x y:Operand}{t el:TypeId}{sz aT:Nat}{q:Option Nat}{len cap:Nat}{cs vs:List Value}{qd:Option Nat→Nat→List It}(hH:SH og w l:=by assumption)
  (ho:ops[i]?=some ⟨dst, .call ⟨.builtin .append,#[x,y],#[t,t]⟩,ty,pos,an,g⟩:=by rfl) (hf:cr P t el sz aT:=by infer_instance) (hw:aI ops e ⟨dst, .call ⟨.builtin .append,#[x,y],#[t,t]⟩,ty,pos,an,g⟩=some true:=by rfl) (hx:ev e x=some (.slice (aA q) len cap):=by rfl) (hy:ev e y=some (.slice (some ⟨bn,0,none⟩) 1 1):=by rfl) (hd:fits n dst=true:=by rfl)
  (hs:az (aq el sz (some bn) 1 1 vs) l r:=by repeat(first|exact az.here|apply az.there)) (hz:Nat.blt 0 sz=true:=by rfl)
  (h1:∀u∈vs,u.oneCell'=true) (hT:∀k,some k=q→T k:=by exact fun _ h=>h) (p8:Mod T w0 w:=by first|assumption|exact Ext.mod (by assumption)) (hr:∀q' c',bA (aq el sz q len cap cs) (aq el sz q' (len+1) c' (cs++vs)) l (qd q' c'):=by intro _ _;repeat(first|exact bA.here|apply bA.there)) (hb:(len+1)*aT≤140737488355328:=by omega) (hm:len+1≤140737488355328:=by omega)
  (h:∀q' c' w',Mod T w0 w'→SH og w' (qd q' c')→GX P ops Q (Mod T w0) n p (Env.put e dst (.slice (aA q') (len+1) c')) w'):GX P ops Q (Mod T w0) n (.aw i p) e w:=by
 obtain⟨_,oq,_⟩:=(hr none 0).perm;have o0:aH w el sz q (aA q) len cap cs:=let⟨_,_,h,_⟩:=(hH.perm oq).head;h;have hO:aH w el sz (some bn) (aA (some bn)) 1 1 vs:=hH.own hs;have hlen:=hO.length;refine GX.Bh (m2:=1) (c2:=1) o0 hO.bL hT ho hw hx hy hd hz ah h1 hb hm fun cQ a' c' yY j6 jw hn ha=>?_
 have e:a'=aA cQ:=wW j6 fun h0=>by
  cases qP:a' with
  |none=>rfl
  |some x=>
   rcases ha x qP with h2|⟨h2,h3⟩
   ·rw[h0] at h2;cases h2
   ·rw[←h3,h0] at h2;cases h2
 subst e;exact h cQ c' yY (p8.trans (jw.weaken fun k _ hk=>hT k hk)) (hH.lG (hr cQ c') (fun _=>j6) (jw.weaken fun k _ hk=>hk) hn)
inductive mW (b:Nat):List It→Prop
 |kK {cs:List Value}{l:List It}:mW b (aB b cs::l)
 |sl {el:TypeId}{sz n c:Nat}{cs:List Value}{l:List It}:mW b (aq el sz (some b) n c cs::l)
 |map {κ ν:Type}{kv:κ→Value}{vv:ν→Value}{M:List (κ×ν)}{l:List It}:mW b (aS b kv vv M::l)
 |there {x:It}{l:List It}:mW b l→mW b (x::l)
theorem mW.out {Z F:Nat→Prop}(h:mW b l)(hs:Sep w Z l F):F b:=by
 induction h generalizing F with
 |kK=>obtain⟨F1,F2,rfl,_,⟨_,rfl⟩,_⟩:=hs;exact .inl rfl
 |sl=>obtain⟨F1,F2,rfl,_,⟨_,rfl⟩,_⟩:=hs;exact .inl rfl
 |map=>obtain⟨F1,F2,rfl,_,⟨_,rfl⟩,_⟩:=hs;exact .inl rfl
 |there _ ih=>obtain⟨F1,F2,rfl,_,_,h2⟩:=hs;exact .inr (ih h2)
inductive rG (l:List It):List Nat→Prop
 |nil:rG l []
 |cons {b:Nat}{bs:List Nat}:mW b l→rG l bs→rG l (b::bs)
theorem rG.all {bs:List Nat}(h:rG l bs){k:Nat}(hk:k∈bs):mW k l:=by
 induction h with
 |nil=>cases hk
 |cons h _ ih=>rcases bU.1 hk with rfl|hk;exact h;exact ih hk
theorem SH.Qk {bs:List Nat}(h:SH og w (l++r))(hb:rG r bs):∃o',Start o' w l∧∀w' l',SH o' w' l'→Mod (dt bs) w w'∧SH og w' (l'++r):=by
 obtain⟨Z,F,hu,h1,h2,h3⟩:=h;obtain⟨F1,F2,rfl,hd,q1,q2⟩:=h1.split;have h0:SH og w (l++r):=⟨Z,_,hu,Sep.join q2 q1 hd,h2,h3⟩
 refine⟨⟨w,Z,F1⟩,⟨rfl,q1,fun b hb=>h2 b (.inl hb),h3⟩,fun w' l' hS=>⟨?_,?_⟩⟩
 ·refine hS.mod.weaken fun k _ hk mI=>hd k hk ((hb.all mI).out q2)
 ·obtain⟨Z',F',Nl,k1,k2,k3⟩:=hS;obtain⟨m1,m2,m3,m4⟩:=Nl;simp only at m1 m2 m3 m4;have vS:∀b,F2 b→b<w.heap.size:=fun b hb=>q2.lt hb
  have OT:Sep w' Z' r F2:=q2.mod m1 (fun b hb h=>hb.elim (fun hb=>hd b h hb) (fun hb=>h2 b (.inl h) hb)) m3;refine⟨Z',fun b=>F' b∨F2 b,⟨?_,fun b hb=>?_,fun b hb=>m3 b (hu.Cg b hb),fun b hb=>?_⟩,Sep.join OT k1 (fun b h1 ni=>?_),fun b hb=>?_,k3⟩
  ·exact Mod.then hu.mod m1 fun i hi h=>(hu.rk i (.inl h)).elim id fun h=>absurd h ah
  ·rcases hb with hb|hb
   ·rcases m2 b hb with h|h
    ·exact hu.rk b (.inl h)
    ·exact .inr (dF hu.mod.size h)
   ·exact hu.rk b (.inr hb)
  ·rcases m4 b hb with h|h|h
   ·exact hu.Ct b h
   ·exact .inr (hu.rk b (.inl h))
   ·exact .inr (.inr (dF hu.mod.size h))
  ·rcases m2 b h1 with h|h
   ·exact hd b h ni
   ·have:=vS b ni;omega
  ·rcases hb with hb|hb
   ·exact k2 b hb
   ·intro hz
    rcases m4 b hz with h|h|h
    ·exact h2 b (.inr hb) h
    ·exact hd b h hb
    ·have:=vS b hb;omega
theorem GX.mZ [Fr]{bs:List Nat}{w0:World}{pre:List It}{V:Value}{out:List It}{x:Operand}{args:Array Operand}{ts:Array TypeId}{l2:List It}{f:FuncId}{fs cs:Array Value}{vs:List Value}{al:List Value}(hH:SH og w l:=by assumption)
  (hc:∀o',Start o' w pre→aj P f al.toArray w (Po o' V out))
  (ho:ops[i]?=some ⟨dst, .call ⟨.value x,args,ts⟩,ty,pos,an,g⟩:=by rfl) (hw:aI ops e ⟨dst, .call ⟨.value x,args,ts⟩,ty,pos,an,g⟩=some true:=by rfl) (hx:ev e x=some (.func (.func f) fs cs):=by rfl) (hy:kO e args.toList=some vs:=by rfl) (hd:fits n dst=true:=by rfl)
  (cj:fs.toList++vs++cs.toList=al:=by rfl) (hp:Pk l pre r:=by repeat(first|exact Pk.nil|(apply Pk.cons;repeat(first|exact az.here|apply az.there)))) (ha:Ap out r l2:=by first|(repeat(first|exact Ap.nil|apply Ap.cons))|exact Ap.all _ _) (hb:rG r bs:=by repeat(first|exact rG.nil|(refine rG.cons (by repeat(first|exact mW.kK|exact mW.sl|exact mW.map|apply mW.there)) ?_))) [hf:ax P f] (hT:Mod (dt bs) w0 w:=by first|assumption|exact Ext.mod (by assumption))
  (h:∀w',Mod (dt bs) w0 w'→SH og w' l2→GX P ops Q (Mod (dt bs) w0) n p (e.put dst V) w'):GX P ops Q (Mod (dt bs) w0) n (.aw i p) e w:=by
 obtain⟨o',hs,hK⟩:=SH.Qk (hH.perm hp.perm) hb;exact GX.aw ho (GO.rL hw hx hy hd cj (hc o' hs) fun v w' ⟨hv,hS⟩=>⟨fun _ D6=>D6.trans (hK w' _ hS).1,by subst hv;exact h w' (hT.trans (hK w' _ hS).1) (ha.eq▸(hK w' _ hS).2)⟩)
theorem GX.kL [Fr]{bs:List Nat}{w0:World}{X:Type}{pre:List It}{V:X→Value}{C:X→Prop}{out:X→List It}{x:Operand}{args:Array Operand}{ts:Array TypeId}{f:FuncId}{fs cs:Array Value}{vs:List Value}{al:List Value}(hH:SH og w l:=by assumption)
  (hc:∀o',Start o' w pre→aj P f al.toArray w (aX o' V C out))
  (ho:ops[i]?=some ⟨dst, .call ⟨.value x,args,ts⟩,ty,pos,an,g⟩:=by rfl) (hw:aI ops e ⟨dst, .call ⟨.value x,args,ts⟩,ty,pos,an,g⟩=some true:=by rfl) (hx:ev e x=some (.func (.func f) fs cs):=by rfl) (hy:kO e args.toList=some vs:=by rfl) (hd:fits n dst=true:=by rfl)
  (cj:fs.toList++vs++cs.toList=al:=by rfl) (hp:Pk l pre r:=by repeat(first|exact Pk.nil|(apply Pk.cons;repeat(first|exact az.here|apply az.there)))) (hb:rG r bs:=by repeat(first|exact rG.nil|(refine rG.cons (by repeat(first|exact mW.kK|exact mW.sl|exact mW.map|apply mW.there)) ?_))) [hf:ax P f] (hT:Mod (dt bs) w0 w:=by first|assumption|exact Ext.mod (by assumption))
  (h:∀x w',C x→Mod (dt bs) w0 w'→SH og w' (out x++r)→GX P ops Q (Mod (dt bs) w0) n p (e.put dst (V x)) w'):GX P ops Q (Mod (dt bs) w0) n (.aw i p) e w:=by
 obtain⟨o',hs,hK⟩:=SH.Qk (hH.perm hp.perm) hb;exact GX.aw ho (GO.rL hw hx hy hd cj (hc o' hs) fun v w' ⟨x,hv,hC,hS⟩=>⟨fun _ D6=>D6.trans (hK w' _ hS).1,by subst hv;exact h x w' hC (hT.trans (hK w' _ hS).1) (hK w' _ hS).2⟩)
end
section
variable {P:Program}{ops:Array Oper}{Q:Exit→Act→World→Prop}{S:World→Prop}{n:Nat}
variable {i m:Nat}{p:b6}{e:Env}{w:World}{k:Kd}{dst:Option Tmp}{ty:TypeId}{pos:String}{an:Array Edge}{g:Option (Nat×Bool)}
variable {og:Og}{l r l':List It}{b:Nat}
theorem ai7 {t t2 el:TypeId}{aT:Nat}(hf:cr P t el 1 aT){o dl dc sl sc:Nat}{a:Option Addr}{vs:List Value}(hA:bN w a vs)(hl:vs.length=Nat.min sl dl)(hW:Wr w b o vs.length)(h1:∀u∈vs,u.oneCell'=true) :
  ∃w',(Builtin.copy_ #[t,t2] ty #[.slice (some ⟨b,o,none⟩) dl dc, .slice a sl sc]).run P w = .ok (.int .i64 vs.length) w'∧mu w w' b o vs:=by
 obtain⟨hu,ii,z,hi,_,hs,_⟩:=hf.facts;obtain⟨c,et,fr,hb,ho,hz⟩:=hW;cases vs with
 |nil=>
  refine⟨w,?_,⟨rfl,rfl,rfl,rfl,fun _ _=>rfl,fun c t fr h=>by simpa using h⟩⟩;exact run_copy_none w t t2 ty el _ a dl dc sl sc hu (by rw[hi];simp[hs]) (by simpa using hl.symm)
 |cons v vs=>
  obtain⟨b2,o2,rfl,rN⟩:=hA.sC (by simp);refine⟨_,run_copy_cells w t t2 ty el b o dl dc ⟨b2,o2,none⟩ sl sc (v::vs) hu (by rw[hi];simp[hs]) hl (fun j u hu=>by rw[iY];exact rN j u hu) (fun j hj=>?_) (fun j hj=>?_) h1,CJ b (v::vs) o w c et fr hb ho⟩
  ·rw[cell_of_row w b _ c et fr hb,Array.getElem?_eq_getElem ah];rfl
  ·have:=hz j hj;simp only[World.frozen?,hb];exact this
theorem GO.QS [Fr]{x y:Operand}{t t2 el:TypeId}{aT:Nat}(hf:cr P t el 1 aT){o dl dc sl sc:Nat}{a:Option Addr}{vs:List Value}(hA:bN w a vs)(hl:vs.length=Nat.min sl dl)(hW:Wr w b o vs.length)(h1:∀u∈vs,u.oneCell'=true)
  (hw:aI ops e ⟨dst, .call ⟨.builtin .copy,#[x,y],#[t,t2]⟩,ty,pos,an,g⟩=some true) (hx:ev e x=some (.slice (some ⟨b,o,none⟩) dl dc)) (hy:ev e y=some (.slice a sl sc)) (hd:fits n dst=true)
  (h:∀w',mu w w' b o vs→(gS ops i=false→S w→S w')∧GX P ops Q S n p (e.put dst (.int .i64 vs.length)) w'):GO P ops Q S n .aw i ⟨dst, .call ⟨.builtin .copy,#[x,y],#[t,t2]⟩,ty,pos,an,g⟩ p e w:=by
 obtain⟨w1,h2,h3⟩:=ai7 (ty:=ty) (t2:=t2) (dc:=dc) (sc:=sc) hf hA hl hW h1;refine GO.run (R:=fun v w'=>v = .int .i64 vs.length∧w'=w1) hw hd (fun ac ha=>⟨_,_,w1,?_, .inl rfl,rfl,rfl⟩) ?_
 ·simp[execOp,resolve,invoke,builtin,bE ha hx,bE ha hy,h2]
 ·rintro _ _ ⟨rfl,rfl⟩;exact h _ h3
theorem GX.Dt [Fr]{x y:Operand}{t t2 el:TypeId}{aT N C:Nat}{o dl dc sl sc:Nat}{a:Option Addr}{vs cs cs':List Value}(hH:SH og w l:=by assumption)(hA:bN w a vs)
  (ho:ops[i]?=some ⟨dst, .call ⟨.builtin .copy,#[x,y],#[t,t2]⟩,ty,pos,an,g⟩:=by rfl) (hf:cr P t el 1 aT:=by infer_instance) (hw:aI ops e ⟨dst, .call ⟨.builtin .copy,#[x,y],#[t,t2]⟩,ty,pos,an,g⟩=some true:=by rfl) (hx:ev e x=some (.slice (some ⟨b,o,none⟩) dl dc):=by rfl) (hy:ev e y=some (.slice a sl sc):=by rfl) (hd:fits n dst=true:=by rfl)
  (hr:bA (aq el 1 (some b) N C cs) (aq el 1 (some b) N C cs') l l':=by repeat(first|exact bA.here|apply bA.there)) (hl:vs.length=Nat.min sl dl) (h1:∀u∈vs,u.oneCell'=true) (hb:o+vs.length≤cs.length) (hc:cs.take o++vs++cs.drop (o+vs.length)=cs')
  (h:∀w',SH og w' l'→GX P ops Q (fun _=>True) n (bc (i+1) m) (e.put dst (.int .i64 vs.length)) w'):GX P ops Q (fun _=>True) n (bc i (m+1)) e w:=by
 obtain⟨_,hs,_⟩:=hr.perm;have hO:aH w el 1 (some b) (aA (some b)) N C cs:=let⟨_,_,h,_⟩:=(hH.perm hs).head;h;refine GX.aw ho (GO.QS hf hA hl (FH hO ah) h1 hw hx hy hd fun w' hp=>⟨fun _ _=>trivial,h w' (hH.lG hr (fun _=>?_) (hp.mod.weaken fun k _ hk=>by rw[hk]) fun b hb => .inl hb)⟩);rw[←hc];exact AD hO hp hb
theorem GX.Du [Fr]{bs:List Nat}{w0:World}{x y:Operand}{t t2 el:TypeId}{aT N C:Nat}{o dl dc sl sc:Nat}{a:Option Addr}{vs cs cs':List Value}(hH:SH og w l:=by assumption)(hA:bN w a vs)
  (ho:ops[i]?=some ⟨dst, .call ⟨.builtin .copy,#[x,y],#[t,t2]⟩,ty,pos,an,g⟩:=by rfl) (hf:cr P t el 1 aT:=by infer_instance) (hw:aI ops e ⟨dst, .call ⟨.builtin .copy,#[x,y],#[t,t2]⟩,ty,pos,an,g⟩=some true:=by rfl) (hx:ev e x=some (.slice (some ⟨b,o,none⟩) dl dc):=by rfl) (hy:ev e y=some (.slice a sl sc):=by rfl) (hd:fits n dst=true:=by rfl)
  (hr:bA (aq el 1 (some b) N C cs) (aq el 1 (some b) N C cs') l l':=by repeat(first|exact bA.here|apply bA.there)) (hl:vs.length=Nat.min sl dl) (h1:∀u∈vs,u.oneCell'=true) (hb:o+vs.length≤cs.length) (hc:cs.take o++vs++cs.drop (o+vs.length)=cs') (hn:b∉bs:=by simp)
  (h:∀w',SH og w' l'→GX P ops Q (Mod (dt bs) w0) n p (e.put dst (.int .i64 vs.length)) w'):GX P ops Q (Mod (dt bs) w0) n (.aw i p) e w:=by
 obtain⟨_,hs,_⟩:=hr.perm;have hO:aH w el 1 (some b) (aA (some b)) N C cs:=let⟨_,_,h,_⟩:=(hH.perm hs).head;h;refine GX.aw ho (GO.QS hf hA hl (FH hO ah) h1 hw hx hy hd fun w' hp=>⟨fun _ hS=>hS.trans (hp.mod.weaken fun k _ hk=>by subst hk;exact hn),h w' (hH.lG hr (fun _=>?_) (hp.mod.weaken fun k _ hk=>by rw[hk]) fun b hb => .inl hb)⟩);rw[←hc];exact AD hO hp hb
theorem mh (b i m:Nat)(h:i<m):fi (some ⟨b,0,none⟩) i m 1=some ⟨b,i,none⟩:=by
 unfold fi;rw[if_neg ah];simp[iY]
theorem Zy {len cap i:Nat}{kl:IntKind}(h:i≤len)(w:World):(Instr.sliceBounds true len cap (some (.int kl i)) none none).run P w = .ok (i,len,cap) w:=by
 simp[Instr.sliceBounds,run_sliceBound,(by omega:((i:Nat):Int)≤len)]
theorem Zw {len cap j:Nat}{kl:IntKind}(h:j≤cap)(w:World):(Instr.sliceBounds true len cap none (some (.int kl j)) none).run P w = .ok (0,j,cap) w:=by
 simp[Instr.sliceBounds,run_sliceBound,(by omega:((j:Nat):Int)≤cap)]
theorem Qb {len cap i j:Nat}{kl kh:IntKind}(h:i≤j)(h2:j≤cap)(w:World):(Instr.sliceBounds true len cap (some (.int kl i)) (some (.int kh j)) none).run P w = .ok (i,j,cap) w:=by
 simp[Instr.sliceBounds,run_sliceBound,(by omega:((j:Nat):Int)≤cap),(by omega:((i:Nat):Int)≤j)]
theorem GO.kX [Fr](hk:cC k=true){t:TypeId}{x y:Operand}{a:Option Addr}{len cap j:Nat}{el:TypeId}{sz aT:Nat}{ki:IntKind}(hw:aI ops e ⟨dst, .slice t x (some y) none none,ty,pos,an,g⟩=some true:=by rfl)(hf:cr P t el sz aT:=by infer_instance)(hx:ev e x=some (.slice a len cap):=by rfl)(hy:ev e y=some (.int ki (j:Nat)):=by rfl)(hd:fits n dst=true:=by rfl)(hj:j≤len:=by omega)
  (hh:GX P ops Q S n p (e.put dst (.slice (fi a j cap sz) (len - j) (cap - j))) w):GO P ops Q S n k i ⟨dst, .slice t x (some y) none none,ty,pos,an,g⟩ p e w:=
 GO.xj hk hw hx hd (by intro w;simp only[Option.map_none,jV,hy,oN];exact Zy hj w) ⟨by rintro _ ⟨⟩;rw[hy];rfl,by simp,by simp⟩ hh
theorem GO.AP [Fr](hk:cC k=true){t:TypeId}{x y:Operand}{a:Option Addr}{len cap j:Nat}{el:TypeId}{sz aT:Nat}{ki:IntKind}(hw:aI ops e ⟨dst, .slice t x none (some y) none,ty,pos,an,g⟩=some true:=by rfl)(hf:cr P t el sz aT:=by infer_instance)(hx:ev e x=some (.slice a len cap):=by rfl)(hy:ev e y=some (.int ki (j:Nat)):=by rfl)(hd:fits n dst=true:=by rfl)(hj:j≤cap:=by omega)
  (hh:GX P ops Q S n p (e.put dst (.slice (fi a 0 cap sz) j cap)) w):GO P ops Q S n k i ⟨dst, .slice t x none (some y) none,ty,pos,an,g⟩ p e w:=
 GO.xj hk hw hx hd (by intro w;simp only[Option.map_none,jV,hy,oN];exact Zw hj w) ⟨by simp,by rintro _ ⟨⟩;rw[hy];rfl,by simp⟩ hh
theorem GO.ajF [Fr](hk:cC k=true){t:TypeId}{x y z:Operand}{a:Option Addr}{len cap j h:Nat}{el:TypeId}{sz aT:Nat}{ki kj:IntKind}(hw:aI ops e ⟨dst, .slice t x (some y) (some z) none,ty,pos,an,g⟩=some true:=by rfl)(hf:cr P t el sz aT:=by infer_instance)(hx:ev e x=some (.slice a len cap):=by rfl)(hy:ev e y=some (.int ki (j:Nat)):=by rfl)(hz:ev e z=some (.int kj (h:Nat)):=by rfl)(hd:fits n dst=true:=by rfl)(hj:j≤h:=by omega)(hc:h≤cap:=by omega)
  (hh:GX P ops Q S n p (e.put dst (.slice (fi a j cap sz) (h - j) (cap - j))) w):GO P ops Q S n k i ⟨dst, .slice t x (some y) (some z) none,ty,pos,an,g⟩ p e w:=
 GO.xj hk hw hx hd (by intro w;simp only[Option.map_none,jV,hy,hz,oN];exact Qb hj hc w) ⟨by rintro _ ⟨⟩;rw[hy];rfl,by rintro _ ⟨⟩;rw[hz];rfl,by simp⟩ hh
end
end
section
attribute [local irreducible] GO GX aB fz aF aS aq star
theorem amc {k:IntKind}(hs:k.signed=false){m:Nat}(h:m<2^k.bits):k.wrap (m:Int)=(m:Int):=by
 have h1:(m:Int) % (2^k.bits:Int)=(m:Int):=Int.emod_eq_of_lt ah (by exact_mod_cast h);simp only[IntKind.wrap,h1,hs,Bool.false_and];rfl
theorem ai0 {P:Program}{w:World}(k:IntKind)(hs:k.signed=false)(t:TypeId)(a b:Nat)(ha:a<2^k.bits)(hb:b<2^k.bits) :
  (binOp .and t (.int k a) (.int k b)).run P w = .ok (.int k (a &&& b:Nat)) w:=by
 have x3:(BitVec.ofInt k.bits (a:Int) &&& BitVec.ofInt k.bits (b:Int)).toNat=a &&& b:=by
  simp[rB ha,rB hb]
 simp only[binOp,Op.intBits,ne_eq,not_true_eq_false,if_false,x3,amc hs (Nat.and_lt_two_pow a hb)];rfl
theorem aiY {P:Program}{w:World}(t:TypeId)(a b:Nat)(ha:a<18446744073709551616)(hb:b<18446744073709551616) :
 (binOp .and t (.int .u64 a) (.int .u64 b)).run P w = .ok (.int .u64 (a &&& b:Nat)) w:=ai0 .u64 rfl t a b ha hb
theorem KO {P:Program}{t:TypeId}(y:Nat)(hy:y<2^32)(w:World):(binOp .and t (uV y) (uV 4294967295)).run P w = .ok (uV y) w:=by
 have h:=aiY (P:=P) (w:=w) t y 4294967295 ah (by decide);rw[show y &&& 4294967295=y by
  have:=Nat.and_two_pow_sub_one_eq_mod y 32;rw[show 2^32 - 1=4294967295 from rfl] at this;rw[this];exact rB hy] at h
 exact h
theorem ag4 (y:Nat)(hy:y<2^32)(w:World):aj prog 405 [uV 1,uV y].toArray w fun v w'=>v = .tuple #[uV 0,uV y]∧w'=w:=by
 have e1:(y:Int) / 2^32=0:=Int.ediv_eq_zero_of_lt ah ah;refine aj.enter func405 rfl ntmps405 rfl (gh ?_);refine GX.next rfl (GO.bits (c:=(1:Nat)) rfl rfl rfl rfl rfl (fun w=>KO 1 (by decide) w) (gh ?_));refine GX.next rfl (GO.shr (c:=(0:Nat)) rfl rfl rfl rfl rfl (by decide) (by decide) (gh ?_));refine GX.next rfl (GO.bits (c:=(y:Nat)) rfl rfl rfl rfl rfl (fun w=>KO y hy w) (gh ?_));refine GX.next rfl (GO.shr (c:=(0:Nat)) rfl rfl rfl rfl rfl (by decide) (by simpa[IntKind.bits] using e1) (gh ?_));refine GX.next rfl (GO.shr (c:=(0:Nat)) rfl rfl rfl rfl rfl (by decide) (by simpa[IntKind.bits] using e1) (gh ?_));refine GX.next rfl (GO.bits (c:=(0:Nat)) rfl rfl rfl rfl rfl (fun w=>by rw[show((0:Nat):Int)*(y:Int)+((0:Nat):Int)=((0:Nat):Int) by simp];exact KO 0 (by decide) w) (gh ?_));refine GX.next rfl (GO.shr (c:=(0:Nat)) rfl rfl rfl rfl rfl (by decide) (by simp) (gh ?_));refine GX.next rfl (GO.shr (c:=(0:Nat)) rfl rfl rfl rfl rfl (by decide) (by simp) (gh ?_));exact⟨by simp,rfl⟩
theorem agu (x y:Int)(w:World):aj prog 215 [iV x,iV y].toArray w fun v w'=>v = .bool (decide (x<y))∧w'=w:=by
 have e1:∀(z:Int) (w:World),aj prog 305 [iV z].toArray w fun v w'=>v = .bool false∧w'=w:=fun z w=>by
  refine aj.enter func305 rfl ntmps305 rfl (gh ?_);exact⟨by simp,rfl⟩
 refine aj.enter func215 rfl ntmps215 rfl (gh ?_);refine GX.da (e1 x _) rfl rfl rfl rfl rfl rfl (gh ?_);exact⟨rfl,rfl⟩
theorem aeR (z:Int)(w:World):aj prog 345 [iV z].toArray w fun v w'=>v = .bool false∧w'=w:=by
 refine aj.enter func345 rfl ntmps345 rfl (gh ?_);exact⟨by simp,rfl⟩
def YA (F:List Nat)(n:Nat)(y:Nat×Bool):Prop:=y.1≤F.length∧(∀m∈F.take y.1,m<n)∧∀m∈F.drop y.1,n≤m
theorem ZC {o:Og}{w:World}{a:Option Addr}{c N:Nat}(F:List Nat)(n:Nat)(hN:F.length=N)(hl:N<2^40)(hF:F.Pairwise (· < ·))(hs:Start o w [aF a (aG F)]) :
  aj prog 298 [.slice a N c,iV n].toArray w (aX o (fun y:Nat×Bool => .tuple #[iV y.1, .bool y.2]) (YA F n) (fun _=>[])):=by
 subst hN;have hH:=hs.sh;refine aj.enter func298 rfl ntmps298 rfl (gh ?_);refine GC.bR [0,1,6] (fun y:Nat×Nat=>[(7,iV y.1),(8,iV y.2)]) (fun y w'=>y.1≤y.2∧y.2≤F.length∧(∀m∈F.take y.1,m<n)∧(∀m∈F.drop y.2,n≤m)∧SH o w' [aF a (aG F)]) (fun y=>y.2 - y.1) (0,F.length) rfl rfl ⟨bh _,aY _,by simp,by simp,hH⟩ ?_;rintro⟨i,j⟩ w ⟨h1,h2,h3,h4,hH⟩;simp only at h1 h2 h3 h4;dsimp only;refine gh ?_;refine ifs (fun h5=>?_) (fun h5=>?_)<;>refine gh ?_
 ·refine GX.next rfl (GO.shr (c:=(((i+j) / 2:Nat):Int)) rfl rfl rfl rfl rfl (by decide) (by simp[IntKind.bits]) (gh ?_));have aN:(i+j) / 2<F.length:=by omega
  have hx:F[(i+j) / 2]?=some F[(i+j) / 2]:=by simp
  have hA:=hH.bL (x:=aF a (aG F)) (a:=a) (cs:=aG F) bP;obtain⟨b,o',rfl,gN⟩:=uZ hA hx;refine gh ?_;refine GX.next rfl (GO.l6 rfl rfl rfl (gN _ ah) (gh ?_));refine GX.da (agu _ _ _) rfl rfl rfl rfl rfl rfl (gh ?_);refine ifs (fun h6=>?_) (fun h6=>?_)<;>refine gh ?_
  ·refine GQ.bj ((i+j) / 2+1,j) rfl ⟨by simp only;omega,h2,fun m hm=>?_,h4,hH⟩ (by simp only;omega);rw[lh aN] at hm;have zN:F[(i+j) / 2]<n:=by omega
   rcases cx.1 hm with hm|hm
   ·obtain⟨k,hk⟩:=ey hm;rw[vy] at hk;split at hk
    ·rename_i je
     have:=sP.1 hF k ((i+j) / 2) ah aN je;rw[(aV.1 hk).2] at this;omega
    ·cases hk
   ·simp at hm;omega
  ·refine GQ.bj (i,(i+j) / 2) rfl ⟨by simp only;omega,by simp only;omega,h3,fun m hm=>?_,hH⟩ (by simp only;omega);rw[tV aN] at hm;have kQ:n≤F[(i+j) / 2]:=by omega
   rcases bU.1 hm with rfl|hm
   ·exact kQ
   ·obtain⟨k,hk⟩:=ey hm;rw[List.getElem?_drop] at hk;obtain⟨rT,je⟩:=aV.1 hk;have:=sP.1 hF ((i+j) / 2) ((i+j) / 2+1+k) aN rT ah;omega
 ·obtain rfl:i=j:=by omega
  by_cases h6:i<F.length
  ·have hx:F[i]?=some F[i]:=by simp[h6]
   have hA:=hH.bL (x:=aF a (aG F)) (a:=a) (cs:=aG F) bP;obtain⟨b,o',rfl,gN⟩:=uZ hA hx;rw[show decide ((i:Int)<(F.length:Int))=true by simp;omega];refine gh ?_;refine GX.next rfl (GO.l6 rfl rfl rfl (gN _ ah) (gh ?_));cases h7:decide ((F[i]:Int)=(n:Int)) with
   |true=>
    refine gh ?_;exact⟨(i,true),rfl,⟨h2,h3,h4⟩,hH.to⟩
   |false=>
    refine gh ?_;refine GX.next rfl (GO.l6 rfl rfl rfl (gN _ ah) (gh ?_));refine GX.da (aeR _ _) rfl rfl rfl rfl rfl rfl (gh ?_);exact⟨(i,false),rfl,⟨h2,h3,h4⟩,hH.to⟩
  ·rw[show decide ((i:Int)<(F.length:Int))=false by simp;omega];refine gh ?_;exact⟨(i,false),rfl,⟨h2,h3,h4⟩,hH.to⟩
section
variable {P:Program}{ops:Array Oper}{Q:Exit→Act→World→Prop}{S:World→Prop}{n:Nat}
variable {i m:Nat}{p:b6}{e:Env}{w:World}{k:Kd}{dst:Option Tmp}{ty:TypeId}{pos:String}{an:Array Edge}{g:Option (Nat×Bool)}
variable {og:Og}{l r l':List It}{b:Nat}
theorem ai4 {t tn el:TypeId}{aT:Nat}(hf:cr P t el 1 aT)(Nk:P.underlying tn=some (.int .i64)){a:Option Addr}{len cap k:Nat}{olds:List Value}(hA:bN w a olds)(hl:olds.length=len)(h0:0<k)(hg:cap<len+k)(hb:(len+k)*aT≤140737488355328)(hm:len+k≤140737488355328) :
  ∃c' w' zs,(Builtin.append_ #[t,tn] ty #[.slice a len cap, .int .i64 k]).run P w = .ok (.slice (some ⟨w.heap.size,0,none⟩) (len+k) c') w'∧zs.length=k∧aH w' el 1 (some w.heap.size) (some ⟨w.heap.size,0,none⟩) (len+k) c' (olds++zs)∧Ext w w':=by
 obtain⟨hu,ii,z,hi,kf,hs,mF,iR⟩:=hf.facts;have hold:(Builtin.firstCells ii.size len (.slice a len cap)).run P w.drew = .ok olds.toArray w.drew:=by
  cases olds with
  |nil=>
   simp at hl;subst hl;cases a with
   |none=>exact run_firstCells_none (P:=P) w.drew ii.size 0 0 cap
   |some x=>exact run_firstCells_some (P:=P) w.drew ii.size 0 x 0 cap [] (by simp) (fun j v h=>by simp at h)
  |cons v olds=>
   obtain⟨b2,o2,rfl,rN⟩:=hA.sC (by simp);exact run_firstCells_some (P:=P) w.drew ii.size len ⟨b2,o2,none⟩ len cap (v::olds) (by rw[hl,hs,mj]) fun j u hu=>by rw[iY];exact rN j u hu
 have mI:k*aT≤(len+k)*aT:=y4 _ ah;have hr:=Lib.run_append_grow_zeros (P:=P) w t tn ty el ii z .i64 .i64 hu Nk hi kf a len cap olds hold k h0 ah hg ah (by rw[mF];omega) (growslice_fits hg (by rw[mF];exact hb));have kQ:=grownCap_ge w (len+k) cap el;refine⟨_,_,(Builtin.zeroCells z.cells k).toList,hr,?_,?_,(Ext.drew w).trans (Ext.alloc w.drew _)⟩
 ·rw[Array.length_toList,size_zeroCells,iR,mj]
 ·have pd:(Builtin.zeroCells z.cells k).toList.length=k:=by rw[Array.length_toList,size_zeroCells,iR,mj]
  refine aH.new ⟨by rw[bH,hl,pd,mj], .inr ⟨w.heap.size,_,_,rfl,bh _,heap_alloc_new w.drew _,kQ,grownCap_le_maxLen w (len+k) cap el (by unfold maxLen;omega),?_,?_⟩⟩
  ·simp only[Array.size_append,xu,size_zeroCells,iR,hl,mj];omega
  ·simp only[Array.toList_append,cS,mj];rw[←cS,vt (by rw[bH,hl,pd];exact aY _),fw (by rw[bH,hl,pd];exact aY _)]
theorem GX.KS [Fr]{x y:Operand}{t tn el:TypeId}{aT len cap c0:Nat}{a:Option Addr}{olds:List Value}(hH:SH og w l:=by assumption)(hA:bN w a olds)
  (ho:ops[i]?=some ⟨dst, .call ⟨.builtin .append,#[x,y],#[t,tn]⟩,ty,pos,an,g⟩:=by rfl) (hf:cr P t el 1 aT:=by infer_instance) (Nk:bI P tn (.int .i64):=by infer_instance) (hw:aI ops e ⟨dst, .call ⟨.builtin .append,#[x,y],#[t,tn]⟩,ty,pos,an,g⟩=some true:=by rfl) (hx:ev e x=some (.slice a len cap):=by rfl) (hy:ev e y=some (.int .i64 (c0:Nat)):=by rfl) (hd:fits n dst=true:=by rfl)
  (hl:olds.length=len) (h0:0<c0:=by omega) (hg:cap<len+c0:=by omega) (hb:(len+c0)*aT≤140737488355328:=by omega) (hm:len+c0≤140737488355328:=by omega)
  (h:∀b' c' w' zs,zs.length=c0→Ext w w'→SH og w' (aq el 1 (some b') (len+c0) c' (olds++zs)::l)→GX P ops Q (fun _=>True) n (bc (i+1) m) (e.put dst (.slice (some ⟨b',0,none⟩) (len+c0) c')) w'):GX P ops Q (fun _=>True) n (bc i (m+1)) e w:=by
 obtain⟨c',w1,zs,hr,hz,hO,hE⟩:=ai4 (ty:=ty) hf Nk.out hA hl h0 hg hb hm;refine GX.aw ho (GO.run (R:=fun v w'=>v = .slice (some ⟨w.heap.size,0,none⟩) (len+c0) c'∧w'=w1) hw hd (fun ac ha=>⟨_,_,w1,?_, .inl rfl,rfl,rfl⟩) ?_)
 ·simp[execOp,resolve,invoke,builtin,bE ha hx,bE ha hy,hr]
 ·rintro _ _ ⟨rfl,rfl⟩;exact⟨fun _ _=>trivial,h _ c' _ zs hz hE (hH.cF (q:=some w.heap.size) hE (fun k hk=>by cases hk;exact aY _) hO)⟩
theorem ahV {el:TypeId}{n c:Nat}{cs:List Value}(h:aH w el 1 (some b) (aA (some b)) n c cs)(hc:n<c):∃u,aH w el 1 (some b) (aA (some b)) (n+1) c (cs++[u]):=by
 obtain⟨h0,⟨h,_⟩|⟨b',hb,ha,hl,⟨h,_⟩|⟨g,k',cur,h,dR,hg,h1,h2,h3,h4⟩⟩⟩:=h
 ·cases h
 ·cases h
 ·cases hb;cases h;have aN:n<cur.toList.length:=by rw[Array.length_toList,h3];omega
  have h5:cur.toList.take ((n+1)*1)=cs++[cur.toList[n]]:=by rw[mj,lh aN,←h4,mj]
  have h6:(cs++[cur.toList[n]]).length=(n+1)*1:=by rw[bH,hl];simp
  exact⟨cur.toList[n],h6, .inr ⟨b,rfl,rfl,h6, .inr ⟨b,c,cur,rfl,dR,hg,by omega,h2,h3,h5⟩⟩⟩
theorem SH.more {el:TypeId}{n c:Nat}{cs:List Value}(hH:SH og w l)(hc:n<c)(hs:az (aq el 1 (some b) n c cs) l r:=by repeat(first|exact az.here|apply az.there)):∃u,SH og w (aq el 1 (some b) (n+1) c (cs++[u])::r):=by
 obtain⟨u,hu⟩:=ahV (hH.own hs) hc;exact⟨u,SH.lG (hH.perm hs.perm) bA.here (fun _=>hu) (Mod.refl w) fun b hb => .inl hb⟩
theorem SH.cap {el:TypeId}{sz n c:Nat}{q:Option Nat}{cs:List Value}(hH:SH og w l)(hs:az (aq el sz q n c cs) l r:=by repeat(first|exact az.here|apply az.there)):n≤c:=by
 obtain⟨_,⟨_,h,_,_⟩|⟨b,_,_,hl,h|⟨g,c,cur,hv,_,hg,hle,_⟩⟩⟩:=hH.own hs
 ·omega
 ·have:=h.2;omega
 ·simp only[Value.slice.injEq] at hv;omega
theorem Xj {tS tR el:TypeId}{aT:Nat}(hf:cr P tS el 1 aT){b1 b2 o n1 c1 n2 c2 N C:Nat}{cs ds:List Value}{e1 e2:TypeId}(h1:aH w e1 1 (some b1) (aA (some b1)) n1 c1 cs)(h2:aH w e2 1 (some b2) (aA (some b2)) n2 c2 ds)(hn:b1≠b2)(hc:0<n2) :
  (Extern.SlicesOverlaps.overlaps #[tS,tS] #[tR] #[.slice (some ⟨b1,0,none⟩) n1 c1, .slice (some ⟨b2,o,none⟩) N C]).run P w = .ok (.bool false) w:=by
 obtain⟨aaI,g1,_,_,k1,_⟩:=rm h1;obtain⟨aaJ,g2,_,_,k2,_⟩:=rm h2;exact Lib.run_overlaps_apart w tS tR el hf.mi 1 (fun w=>hf.XF w) ⟨b1,0,none⟩ ⟨b2,o,none⟩ n1 c1 N C hn e1 e2 aaI.size aaJ.size (by simp[World.shape?,g1]) (by simp[World.shape?,g2]) ah (by simp[World.frozen?,g1]) (by simp[World.frozen?,g1])
theorem GO.GZ [Fr](hk:cC k=true){x:Operand}{t el:TypeId}{ad:Option Addr}{len cap:Nat}[hu:bI P t (.slice el)](hw:aI ops e ⟨dst, .call ⟨.builtin .cap,#[x],#[t]⟩,ty,pos,an,g⟩=some true)(hx:ev e x=some (.slice ad len cap))(hd:fits n dst=true)
  (h:GX P ops Q S n p (e.put dst (.int .i64 cap)) w):GO P ops Q S n k i ⟨dst, .call ⟨.builtin .cap,#[x],#[t]⟩,ty,pos,an,g⟩ p e w:=
 GO.val (fX hk) hw hd (fun a ha w=>by simp[execOp,resolve,invoke,builtin,Builtin.cap_,run_underlying hu.out,bE ha hx,goInt]) h
theorem GX.Ql [Fr]{x:Operand}{args:Array Operand}{ts:Array TypeId}{f:FuncId}{fs cs:Array Value}{vs:List Value}{al:List Value}{V:Value}
  (hr:(callFunc f al.toArray).run P w = .ok (.value V) w)
  (ho:ops[i]?=some ⟨dst, .call ⟨.value x,args,ts⟩,ty,pos,an,g⟩:=by rfl) (hw:aI ops e ⟨dst, .call ⟨.value x,args,ts⟩,ty,pos,an,g⟩=some true:=by rfl) (hx:ev e x=some (.func (.func f) fs cs):=by rfl) (hy:kO e args.toList=some vs:=by rfl) (hd:fits n dst=true:=by rfl)
  (cj:fs.toList++vs++cs.toList=al:=by rfl)
  (h:GX P ops Q (fun _=>True) n (bc (i+1) m) (e.put dst V) w):GX P ops Q (fun _=>True) n (bc i (m+1)) e w:=by
 refine GX.aw ho (GO.run (R:=fun v w'=>v=V∧w'=w) hw hd (fun ac ha=>⟨_,_,w,?_, .inl rfl,rfl,rfl⟩) ?_)
 ·have gA:(fs++vs.toArray++cs)=al.toArray:=by
   subst cj;apply Array.toList_inj.1;simp
  simp only[execOp,resolve,Sem.run_bind,Deferred.ofValue,bE ha hx,Hs ha hy,Sem.run_pure,Result.andThen_ok,invoke,gA,hr]
 ·rintro _ _ ⟨rfl,rfl⟩;exact⟨fun _ _=>trivial,h⟩
end
end
end Go.Proofs.YtoloaehmppcjoaaGreat.V.M
