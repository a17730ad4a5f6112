/-
  Parts of the proof. No condition.
-/
import Derived.Test.YtoloaehmppcjoaaGreatW2ax
set_option linter.unusedVariables false
set_option linter.unusedSimpArgs false
set_option maxRecDepth 8000
set_option maxHeartbeats 8000000
namespace Go.Proofs.YtoloaehmppcjoaaGreat.V.M
section
attribute [local irreducible] GO GX aB fz aF aS aq star
structure bw where
 bytes:Nat
 many:Nat
 E:List bM
 K:Nat
structure dG where
 a:Nat
 t:Nat
 r:Nat
 h:Nat
 u:Nat
 A:Ar
 T:Tb
 L:List Nat
 S:List cG
 G:List (Int×Int)
 q1:Option Nat×Nat
 q2:Option Nat×Nat
def aO (S:List cG)(n:Nat):cG:=S.getD n s0
def j4 (S:List cG)(L:List Nat):List bM:=L.map fun n=>(aO S n).e
def fY (S:List cG)(L:List Nat):List (Bs×Nat):=L.map fun n=>((aO S n).e.k,n)
def dH (S:List cG)(L:List Nat):List Tm:=(L.filter fun n=>decide ((aO S n).e.d≠never)).map fun n=>(n,(aO S n).e.d)
def qm (x:Int×Int):List Value:=[iV x.1,iV x.2]
theorem JX (x:Int×Int):(qm x).length=2:=rfl
structure dh (X:dG)(s:bw):Prop where
 pT:s.E=j4 X.S X.L
 nd:X.L.Nodup
 lt:∀n∈X.L,n<X.S.length
 eM:jo X.T (fY X.S X.L)
 ar:nM s.K X.A
 aD:X.A.aD=s.many
 gl:X.A.aW.length=X.S.length
 live:∀n,n<X.S.length→(n∈X.L↔0≤X.A.aW.getD n 0)
 refs:X.G.length=X.S.length
 ref:∀n∈X.L,X.G[n]?=some ((n:Int),X.A.aW.getD n 0)
 sb:∀x∈X.S,zc x
 xP:∀e∈s.E,mr e
 kn:(s.E.map (·.k)).Nodup
 cost:ej s.E≤s.bytes
 len:s.E.length≤s.many
 bytes:1≤s.bytes∧s.bytes≤1099511627776
 many:1≤s.many∧s.many≤1048576
abbrev dG.dS (X:dG)(b:Nat)(s:bw):List It:=
 [aB b [ak X.a,ak X.t,ak X.r,ak X.h,ak X.u, .slice (aA X.q1.1) X.S.length X.q1.2, .slice (aA X.q2.1) X.G.length X.q2.2],
  aq 159 6 X.q1.1 X.S.length X.q1.2 (aL eL X.S),aq 252 2 X.q2.1 X.G.length X.q2.2 (aL qm X.G),
  mY X.a X.A,gV X.t X.T,nE X.r X.L,fV X.h (dH X.S X.L),iH X.u s.bytes s.many (ej s.E) s.E.length,bJ (cZ X.S)]
def kz (b:Nat)(s:bw):It:=star fun X:{ X:dG // dh X s}=>X.1.dS b s
theorem map_inj {α β:Type}{f:α→β}{l:List α}(h:(l.map f).Nodup){x y:α}(hx:x∈l)(hy:y∈l)(e:f x=f y):x=y:=by
 induction l with
 |nil=>cases hx
 |cons z l ih=>
  rw[cJ,eQ] at h
  rcases bU.1 hx with a1|a1<;>rcases bU.1 hy with b1|b1
  ·rw[a1,b1]
  ·subst a1;exact absurd (bG.2 ⟨y,b1,e.symm⟩) h.1
  ·subst b1;exact absurd (bG.2 ⟨x,a1,e⟩) h.1
  ·exact ih h.2 a1 b1
theorem als {l m:List Nat}(h:l.Perm m):l.sum=m.sum:=by
 induction h with
 |nil=>rfl
 |cons x _ ih=>simp[ih]
 |swap x y l=>simp;omega
 |trans _ _ h1 h2=>exact h1.trans h2
theorem Gd {l m:List bM}(h:l.Perm m):ej l=ej m:=als (h.map _)
theorem Ko (x:bM)(l:List bM):ej (x::l)=eN x+ej l:=by simp[ej]
theorem Kn (l m:List bM):ej (l++m)=ej l+ej m:=by simp[ej]
theorem alp {l:List bM}(h:∀e∈l,mr e):65*l.length≤ej l∧ej l≤67000*l.length:=by
 induction l with
 |nil=>simp[ej]
 |cons x l ih=>
  have h1:=K8 (h x (by simp));have h2:=ih fun e he=>h e (by simp[he])
  rw[Ko,ek];omega
theorem yQ {S:List cG}{n m:Nat}(x:cG)(h:m≠n):aO (S.set n x) m=aO S m:=by
 unfold aO;rw[dP,dP,dv (Ne.symm h)]
theorem CN {S:List cG}{n:Nat}(x:cG)(h:n<S.length):aO (S.set n x) n=x:=by
 unfold aO;rw[dP,dE h];rfl
theorem yP {S:List cG}{n:Nat}(h:n<S.length):S[n]?=some (aO S n):=by
 unfold aO;rw[dP,bO h];rfl
section
variable {S S':List cG}{L:List Nat}
theorem Q7 (h:∀n∈L,aO S n=aO S' n):j4 S L=j4 S' L:=rC fun n hn=>by rw[h n hn]
theorem Ut (h:∀n∈L,aO S n=aO S' n):fY S L=fY S' L:=rC fun n hn=>by rw[h n hn]
theorem Hh (h:∀n∈L,aO S n=aO S' n):dH S L=dH S' L:=by
 unfold dH;rw[List.filter_congr (q:=fun n=>decide ((aO S' n).e.d≠never)) fun n hn=>by rw[h n hn]];exact rC fun n hn=>by rw[h n (fR.1 hn).1]
end
theorem dh.ab7 {X:dG}{s:bw}(h:dh X s){n:Nat}(hn:n∈X.L):(aO X.S n).e∈s.E:=by
 rw[h.pT];exact bG.2 ⟨n,hn,rfl⟩
theorem dh.ok {X:dG}{s:bw}(h:dh X s){n:Nat}(hn:n∈X.L):mr (aO X.S n).e:=h.xP _ (h.ab7 hn)
theorem dh.ll {X:dG}{s:bw}(h:dh X s):X.L.length=s.E.length:=by rw[h.pT,j4,fH]
theorem dh.sl {X:dG}{s:bw}(h:dh X s):X.S.length≤1048576:=by
 have h1:=h.ar.len;have h2:=h.ar.aD;rw[h.gl] at h1;omega
theorem dh.inj {X:dG}{s:bw}(h:dh X s){n m:Nat}(hn:n∈X.L)(hm:m∈X.L)(e:(aO X.S n).e.k=(aO X.S m).e.k):n=m:=by
 have hk:=h.kn;rw[h.pT,j4,nK] at hk;exact map_inj hk hn hm e
def dj (E:List bM)(k:Bs):List bM:=E.filter fun e=>decide (e.k≠k)
theorem dh.erase {X:dG}{s:bw}(h:dh X s){n:Nat}(hn:n∈X.L):j4 X.S (X.L.erase n)=dj s.E (aO X.S n).e.k:=by
 rw[h.nd.erase_eq_filter,h.pT];unfold j4 dj;rw[List.filter_map];congr 1;refine List.filter_congr fun m hm=>?_
 by_cases e:m=n
 ·subst e;simp
 ·have:¬(aO X.S m).e.k=(aO X.S n).e.k:=fun h'=>e (h.inj hm hn h')
  simp[e,this]
theorem dh.ah9 {X:dG}{s:bw}(_:dh X s){n:Nat}(hn:n∈X.L):X.L.Perm (n::X.L.erase n):=AY hn
theorem dh.CE {X:dG}{s:bw}(h:dh X s){n:Nat}(hn:n∈X.L):s.E.Perm ((aO X.S n).e::dj s.E (aO X.S n).e.k):=by
 rw[←h.erase hn];have:=(h.ah9 hn).map (fun n=>(aO X.S n).e);rw[cJ] at this;have e:s.E=X.L.map fun n=>(aO X.S n).e:=h.pT
 rw[e];exact this
theorem Av {L:List Nat}{n:Nat}(h:L.Nodup):n∉L.erase n:=fun hn=>by
 rw[h.erase_eq_filter] at hn;simp at hn
theorem nM.mono {K K':Nat}{A:Ar}(h:nM K A)(hk:K≤K'):nM K' A:=⟨h.aD,h.len,fun g hg=>by have:=h.gen g hg;exact⟨this.1,by omega,by omega⟩,h.free,h.nodup,h.Bp⟩
theorem rM {α:Type}{l:List α}{n m:Nat}{x d:α}:(l.set n x).getD m d=if m=n∧n<l.length then x else l.getD m d:=by
 rw[dP,dP,List.getElem?_set]
 by_cases e:n=m
 ·subst e
  by_cases hl:n<l.length
  ·simp[hl]
  ·simp[hl,pH (Nat.le_of_not_lt hl)]
 ·simp[e,Ne.symm e]
theorem nM.Ln {K:Nat}{A:Ar}(h:nM K A){n:Nat}(hl:rj A n):nM (K+1) (xJ A n):=by
 obtain⟨h0,h1,h2⟩:=hl;simp only[qB] at h2;have hn:n<A.aW.length:=by omega
 have hg:=h.gen _ (Hy 0 hn);have MX:¬(A.aW.getD n 0<0):=by omega
 have qZ:n∉A.free:=fun hf=>MX ((h.free n).1 hf).2
 have ly:A.free.length+1≤A.aW.length:=by
  have h3:(n::A.free).Nodup:=eQ.2 ⟨qZ,h.nodup⟩;have h4:∀x∈n::A.free,x<A.aW.length:=fun x hx=>by
   rcases bU.1 hx with rfl|hx
   ·exact hn
   ·exact((h.free x).1 hx).1
  have h5:=xz h3 (l₂:=List.range A.aW.length) fun x hx=>tY.2 (h4 x hx)
  simpa using h5
 refine⟨h.aD,by simpa[xJ] using h.len,fun g hg'=>?_,fun m=>?_,?_,by simpa[xJ] using ly⟩
 ·rcases mn hg' with hm|rfl
  ·have:=h.gen g hm;exact⟨this.1,by omega,by omega⟩
  ·exact⟨by omega,by omega,by omega⟩
 ·simp only[xJ,cx,jn,fQ,rM]
  by_cases e:m=n
  ·subst e;rw[if_pos ⟨rfl,hn⟩];exact⟨fun _=>⟨hn,by omega⟩,fun _ => .inr rfl⟩
  ·simp only[e,or_false,false_and,if_false];exact h.free m
 ·exact ga.2 ⟨h.nodup,by simp,fun a ha b hb e=>by simp at hb;subst hb e;exact qZ ha⟩
def dG.qw (X:dG)(n:Nat)(T:Tb):dG:={ X with A:=xJ X.A n,T:=T,L:=X.L.erase n,S:=X.S.set n s0}
def bw.drop (s:bw)(k:Bs):bw:={ s with E:=dj s.E k,K:=s.K+1}
theorem dh.gen {X:dG}{s:bw}(h:dh X s){n:Nat}(hn:n∈X.L):rj X.A n:=by
 refine⟨by omega,?_,?_⟩
 ·have:=h.lt n hn;rw[h.gl];omega
 ·simpa using(h.live n (h.lt n hn)).1 hn
theorem dh.qw {X:dG}{s:bw}(h:dh X s){n:Nat}(hn:n∈X.L){T:Tb}(hT:jo T (fY X.S (X.L.erase n))):dh (X.qw n T) (s.drop (aO X.S n).e.k):=by
 have hnl:=h.lt n hn;have oe:=h.gen hn;have aP:∀m∈X.L.erase n,aO (X.S.set n s0) m=aO X.S m:=fun m hm=>yQ _ fun e=>Av h.nd (e▸hm)
 have hp:=h.CE hn;have hlen:=hp.length_eq;have uQ:=Gd hp;rw[Ko] at uQ;rw[ek] at hlen;have amG:=h.len;have Ss:=h.cost;refine⟨?_,h.nd.erase n,fun m hm=>?_,?_,h.ar.Ln oe,h.aD,?_,fun m hm=>?_,?_,fun m hm=>?_,fun x hx=>?_,fun e he=>h.xP e (fR.1 he).1,?_,?_,?_,h.bytes,h.many⟩
 ·show dj s.E _=j4 (X.S.set n s0) (X.L.erase n);rw[Q7 aP,h.erase hn]
 ·show m<(X.S.set n s0).length;rw[fQ];exact h.lt m (List.mem_of_mem_erase hm)
 ·show jo T (fY (X.S.set n s0) (X.L.erase n));rw[Ut aP];exact hT
 ·show(X.A.aW.set n _).length=(X.S.set n s0).length;rw[fQ,fQ,h.gl]
 ·have jw:m<X.S.length:=by simpa[dG.qw] using hm
  show m∈X.L.erase n↔0≤(X.A.aW.set n (-(X.A.aW.getD n 0+1))).getD m 0;rw[rM,h.nd.mem_erase_iff]
  by_cases e:m=n
  ·subst e;have h2:0≤X.A.aW.getD m 0:=by simpa using oe.2.2
   rw[if_pos ⟨rfl,by rw[h.gl];exact hnl⟩];constructor
   ·intro h';exact absurd rfl h'.1
   ·intro h';omega
  ·rw[if_neg (fun h'=>e h'.1)];simp only[ne_eq,e,not_false_eq_true,true_and];exact h.live m jw
 ·show X.G.length=(X.S.set n s0).length;rw[fQ,h.refs]
 ·have gf:=(h.nd.mem_erase_iff).1 hm;show X.G[m]?=some ((m:Int),(X.A.aW.set n _).getD m 0);rw[rM,if_neg (fun h'=>gf.1 h'.1)];exact h.ref m gf.2
 ·rcases mn hx with hm|rfl
  ·exact h.sb x hm
  ·exact Xr
 ·exact(h.kn).sublist (List.filter_sublist.map _)
 ·show ej (dj s.E _)≤s.bytes;omega
 ·show(dj s.E _).length≤s.many;omega
end
section
structure Nm where
 t:Bs
 r:Nat
 nx:Int
abbrev eF:=List (Bs×Nat)
def dU (N:List Nm):eF:=N.map fun x=>(x.t,x.r)
def eP (x:Nm):List Value:=[str x.t,iV x.r,iV x.nx]
theorem fA (x:Nm):(eP x).length=3:=rfl
def fI (N:List Nm):Int→List Nat→Prop
 |h,[]=>h = -1
 |h,n::l=>h=(n:Int)∧∃x,N[n]?=some x∧fI N x.nx l
theorem fI.congr {N N':List Nm}:∀{l:List Nat}{h:Int},fI N h l→(∀n∈l,∀x,N[n]?=some x→∃x',N'[n]?=some x'∧x'.nx=x.nx)→fI N' h l
 | [],_,h,_=>h
 |n::l,_,⟨h1,x,h2,h3⟩,hc=>by
  obtain⟨x',k1,k2⟩:=hc n (by simp) x h2;exact⟨h1,x',k1,k2▸h3.congr fun m hm=>hc m (by simp[hm])⟩
theorem fI.set {N:List Nm}{l:List Nat}{h:Int}(hc:fI N h l){n:Nat}(y:Nm)(hn:n∉l):fI (N.set n y) h l:=
 hc.congr fun m hm x hx=>⟨x,by rw[dv (fun e=>hn (by rw[e];exact hm))];exact hx,rfl⟩
theorem fI.app {N:List Nm}{l:List Nat}{h:Int}(hc:fI N h l)(y:List Nm):fI (N++y) h l:=
 hc.congr fun m _ x hx=>⟨x,by rw[gp (aV.1 hx).1];exact hx,rfl⟩
theorem fI.XB {N:List Nm}{l:List Nat}{h:Int}(hc:fI N h l){n:Nat}{x:Nm}(y:Nm)(hx:N[n]?=some x)(he:y.nx=x.nx):fI (N.set n y) h l:=
 hc.congr fun m _ z hz=>by
  by_cases e:m=n
  ·subst e;rw[hx] at hz;cases hz;exact⟨y,by rw[dE (aV.1 hx).1],he⟩
  ·exact⟨z,by rw[dv (Ne.symm e)];exact hz,rfl⟩
theorem fI.split {N:List Nm}:∀{p:List Nat}{n:Nat}{s:List Nat}{h:Int},fI N h (p++n::s)→∃x,N[n]?=some x∧fI N x.nx s
 | [],_,_,_,⟨_,x,h1,h2⟩=>⟨x,h1,h2⟩
 |_::_,_,_,_,⟨_,_,_,h⟩=>h.split
def jB (N:eF)(s:Bs):Option Nat:=N.findIdx? fun x=>decide (0<x.2∧x.1=s)
structure gX (aJ:Nat)(H:List Int)(N:List Nm):Prop where
 size:2≤H.length∧H.length≤262144
 list:N.length≤65536
 chain:∀b,b<H.length→∃l,fI N (H.getD b (-1)) l∧l.Nodup∧∀n,n∈l↔∃x,N[n]?=some x∧0<x.r∧bK aJ x.t % H.length=b
 uniq:∀(n m:Nat) (x y:Nm),N[n]?=some x→N[m]?=some y→0<x.r→0<y.r→x.t=y.t→n=m
 tag:∀x∈N,0<x.r→eV x.t=true
 refs:∀x∈N,x.r<2097152
theorem yH {N:List Nm}{n:Nat}{x:Nm}(h:N[n]?=some x):(dU N)[n]?=some (x.t,x.r):=by simp[dU,h]
theorem JB {N:List Nm}{n:Nat}{y:Bs×Nat}(h:(dU N)[n]?=some y):∃x,N[n]?=some x∧y=(x.t,x.r):=by
 simp only[dU,gG,y5] at h;obtain⟨x,h1,h2⟩:=h;exact⟨x,h1,h2.symm⟩
theorem gX.Wf {aJ:Nat}{H:List Int}{N:List Nm}(h:gX aJ H N){n:Nat}{x:Nm}(hx:N[n]?=some x)(hr:0<x.r):jB (dU N) x.t=some n:=by
 unfold jB;rw[y6];have aN:=(aV.1 (yH hx)).1;refine⟨aN,?_,fun j hj=>?_⟩
 ·have:=(aV.1 (yH hx)).2;rw[this];simp[hr]
 ·have wj:j<(dU N).length:=by omega
  obtain⟨y,h1,h2⟩:=JB (bO wj);rw[h2];intro hc;simp only[oO] at hc;have:=h.uniq j n y x h1 hx hc.1 hr hc.2;omega
theorem We {N:List Nm}{s:Bs}{n:Nat}(h:jB (dU N) s=some n):∃x,N[n]?=some x∧0<x.r∧x.t=s:=by
 unfold jB at h;rw[y6] at h;obtain⟨aN,h1,_⟩:=h;obtain⟨x,h3,h4⟩:=JB (bO aN);rw[h4] at h1;simp only[oO] at h1;exact⟨x,h3,h1⟩
theorem ahi {N:List Nm}{s:Bs}(h:∀(n:Nat) (x:Nm),N[n]?=some x→0<x.r→x.t≠s):jB (dU N) s=none:=by
 cases hh:jB (dU N) s with
 |none=>rfl
 |some n=>obtain⟨x,h1,h2,h3⟩:=We hh;exact absurd h3 (h n x h1 h2)
theorem gX.push {aJ:Nat}{H:List Int}{N:List Nm}(h:gX aJ H N){n:Nat}{x:Nm}(hx:N[n]?=some x)(h0:x.r=0){s:Bs}(hs:eV s=true)(hn:∀(m:Nat) (y:Nm),N[m]?=some y→0<y.r→y.t≠s){b:Nat}(hb:bK aJ s % H.length=b) :
  gX aJ (H.set b (n:Int)) (N.set n ⟨s,1,H.getD b (-1)⟩):=by
 have hnl:=(aV.1 hx).1;have fD:b<H.length:=by rw[←hb];exact e7 _ (by have:=h.size;omega)
 have jc:∀(m:Nat) (y:Nm),(N.set n ⟨s,1,H.getD b (-1)⟩)[m]?=some y→(m=n∧y=⟨s,1,H.getD b (-1)⟩)∨(m≠n∧N[m]?=some y):=fun m y hy=>by
  by_cases e:m=n
  ·subst e;rw[dE hnl] at hy;cases hy;exact .inl ⟨rfl,rfl⟩
  ·rw[dv (Ne.symm e)] at hy;exact .inr ⟨e,hy⟩
 refine⟨by simpa using h.size,by simpa using h.list,fun c hc=>?_,fun m k y z hy hz r1 r2 e=>?_,fun y hy hr=>?_,fun y hy=>?_⟩
 ·rw[fQ] at hc ⊢;obtain⟨l,h1,h2,h3⟩:=h.chain c hc;have wx:n∉l:=fun hm=>by
   obtain⟨y,hy,hr,_⟩:=(h3 n).1 hm;rw[hx] at hy;cases hy;omega
  have gM:=h1.set ⟨s,1,H.getD b (-1)⟩ wx
  by_cases e:c=b
  ·subst e;refine⟨n::l,⟨?_,_,dE hnl,gM⟩,eQ.2 ⟨wx,h2⟩,fun m=>?_⟩
   ·rw[rM,if_pos ⟨rfl,fD⟩]
   ·rw[bU];constructor
    ·rintro(rfl|hm)
     ·exact⟨_,dE hnl,by simp,hb⟩
     ·obtain⟨y,k1,k2,k3⟩:=(h3 m).1 hm;exact⟨y,by rw[dv (fun e=>wx (by rw[e];exact hm))];exact k1,k2,k3⟩
    ·rintro⟨y,k1,k2,k3⟩
     rcases jc m y k1 with⟨rfl,_⟩|⟨_,k⟩
     ·exact .inl rfl
     ·exact .inr ((h3 m).2 ⟨y,k,k2,k3⟩)
  ·refine⟨l,?_,h2,fun m=>?_⟩
   ·rw[rM,if_neg (fun h'=>e h'.1)];exact gM
   ·constructor
    ·intro hm;obtain⟨y,k1,k2,k3⟩:=(h3 m).1 hm;exact⟨y,by rw[dv (fun e=>wx (by rw[e];exact hm))];exact k1,k2,k3⟩
    ·rintro⟨y,k1,k2,k3⟩
     rcases jc m y k1 with⟨rfl,rfl⟩|⟨_,k⟩
     ·exact absurd (k3.symm.trans hb) e
     ·exact(h3 m).2 ⟨y,k,k2,k3⟩
 ·rcases jc m y hy with⟨rfl,rfl⟩|⟨h1,gM⟩<;>rcases jc k z hz with⟨rfl,rfl⟩|⟨h2,ni⟩
  ·rfl
  ·exact absurd e.symm (hn k z ni r2)
  ·exact absurd e (hn m y gM r1)
  ·exact h.uniq m k y z gM ni r1 r2 e
 ·rcases mn hy with hm|rfl
  ·exact h.tag y hm hr
  ·exact hs
 ·rcases mn hy with hm|rfl
  ·exact h.refs y hm
  ·simp
theorem gX.Ym {aJ:Nat}{H:List Int}{N:List Nm}(h:gX aJ H N){n:Nat}{x:Nm}(hx:N[n]?=some x)(hr:0<x.r){r:Nat}(EU:0<r∧r<2097152):gX aJ H (N.set n ⟨x.t,r,x.nx⟩):=by
 have hnl:=(aV.1 hx).1;have jc:∀(m:Nat) (y:Nm),(N.set n ⟨x.t,r,x.nx⟩)[m]?=some y→∃z,N[m]?=some z∧z.t=y.t∧(0<y.r↔0<z.r):=fun m y hy=>by
  by_cases e:m=n
  ·subst e;rw[dE hnl] at hy;cases hy;exact⟨x,hx,rfl,by simp[hr,EU.1]⟩
  ·rw[dv (Ne.symm e)] at hy;exact⟨y,hy,rfl,Iff.rfl⟩
 have MB:∀(m:Nat) (z:Nm),N[m]?=some z→∃y,(N.set n ⟨x.t,r,x.nx⟩)[m]?=some y∧z.t=y.t∧(0<y.r↔0<z.r):=fun m z hz=>by
  by_cases e:m=n
  ·subst e;rw[hx] at hz;cases hz;exact⟨_,dE hnl,rfl,by simp[hr,EU.1]⟩
  ·exact⟨z,by rw[dv (Ne.symm e)];exact hz,rfl,Iff.rfl⟩
 refine⟨h.size,by simpa using h.list,fun c hc=>?_,fun m k y z hy hz r1 r2 e=>?_,fun y hy wy=>?_,fun y hy=>?_⟩
 ·obtain⟨l,h1,h2,h3⟩:=h.chain c hc;refine⟨l,h1.XB _ hx rfl,h2,fun m=>(h3 m).trans ⟨?_,?_⟩⟩
  ·rintro⟨z,k1,k2,k3⟩;obtain⟨y,q1,q2,q3⟩:=MB m z k1;exact⟨y,q1,q3.2 k2,q2▸k3⟩
  ·rintro⟨y,k1,k2,k3⟩;obtain⟨z,q1,q2,q3⟩:=jc m y k1;exact⟨z,q1,q3.1 k2,q2▸k3⟩
 ·obtain⟨y',q1,q2,q3⟩:=jc m y hy;obtain⟨z',p1,p2,p3⟩:=jc k z hz;exact h.uniq m k y' z' q1 p1 (q3.1 r1) (p3.1 r2) (q2.trans (e.trans p2.symm))
 ·rcases mn hy with hm|rfl
  ·exact h.tag y hm wy
  ·exact h.tag x (bD hx) hr
 ·rcases mn hy with hm|rfl
  ·exact h.refs y hm
  ·exact EU.2
theorem gX.more {aJ:Nat}{H:List Int}{N:List Nm}(h:gX aJ H N){y:Nm}(hy:y.r=0)(hl:N.length<65536):gX aJ H (N++[y]):=by
 have jc:∀(m:Nat) (x:Nm),(N++[y])[m]?=some x→0<x.r→N[m]?=some x:=fun m x hx hr=>by
  rw[List.getElem?_append] at hx;split at hx
  ·exact hx
  ·rw[List.getElem?_singleton] at hx;split at hx
   ·cases hx;omega
   ·cases hx
 refine⟨h.size,by simp;omega,fun c hc=>?_,fun m k a b ha hb r1 r2 e=>h.uniq m k a b (jc m a ha r1) (jc k b hb r2) r1 r2 e,fun x hx hr=>?_,fun x hx=>?_⟩
 ·obtain⟨l,h1,h2,h3⟩:=h.chain c hc;refine⟨l,h1.app _,h2,fun m=>(h3 m).trans ⟨?_,?_⟩⟩
  ·rintro⟨x,k1,k2,k3⟩;exact⟨x,by rw[gp (aV.1 k1).1];exact k1,k2,k3⟩
  ·rintro⟨x,k1,k2,k3⟩;exact⟨x,jc m x k1 k2,k2,k3⟩
 ·rcases cx.1 hx with hx|hx
  ·exact h.tag x hx hr
  ·simp at hx;subst hx;omega
 ·rcases cx.1 hx with hx|hx
  ·exact h.refs x hx
  ·simp at hx;subst hx;omega
theorem fI.cut {N:List Nm}:∀{p:List Nat}{n:Nat}{s:List Nat}{h:Int}{x:Nm},fI N h (p++n::s)→(p++n::s).Nodup→N[n]?=some x →
  match p.getLast? with
  |none=>h=(n:Int)∧fI N x.nx s
  |some m=>∃y,N[m]?=some y∧y.nx=(n:Int)∧∀z,fI ((N.set m ⟨y.t,y.r,x.nx⟩).set n z) h (p++s)
 | [],n,s,h,x,hc,_,hx=>by
   obtain⟨h1,x',h2,h3⟩:=hc;rw[hx] at h2;cases h2;exact⟨h1,h3⟩
 | [m],n,s,h,x,hc,bT,hx=>by
   obtain⟨h1,y,h2,h3,x',h4,h5⟩:=hc;rw[hx] at h4;cases h4;have nu:m≠n:=by simp at bT;exact bT.1.1
   have qX:m∉s:=by simp at bT;exact bT.1.2
   have zY:n∉s:=by simp at bT;exact bT.2.1
   refine⟨y,h2,h3,fun z=>⟨h1,⟨y.t,y.r,x.nx⟩,?_,?_⟩⟩
   ·show((N.set m ⟨y.t,y.r,x.nx⟩).set n z)[m]?=_;rw[dv (Ne.symm nu),dE (aV.1 h2).1]
   ·exact(h5.set _ qX).set _ zY
 |m::k::p,n,s,h,x,hc,bT,hx=>by
  obtain⟨h1,y,h2,h3⟩:=hc;have MW:((k::p)++n::s).Nodup:=(eQ.1 bT).2;have hm:m∉(k::p)++n::s:=(eQ.1 bT).1;have ih:=fI.cut (p:=k::p) h3 MW hx;rw[List.getLast?_cons_cons];obtain⟨q,hq⟩:∃q,(k::p).getLast?=some q:=⟨(k::p).getLast (by simp),List.getLast?_eq_some_getLast (by simp)⟩
  rw[hq] at ih ⊢;obtain⟨w,k1,k2,k3⟩:=ih;have B4:q∈k::p:=List.mem_of_getLast? hq;have Tf:q≠m:=fun e=>hm (by rw[←e];exact tZ _ B4)
  have nu:n≠m:=fun e=>hm (by rw[←e];simp)
  exact⟨w,k1,k2,fun z=>⟨h1,y,by rw[dv nu,dv Tf];exact h2,k3 z⟩⟩
end
end Go.Proofs.YtoloaehmppcjoaaGreat.V.M
