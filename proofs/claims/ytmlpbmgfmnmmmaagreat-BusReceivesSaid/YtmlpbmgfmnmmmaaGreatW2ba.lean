/-
  Parts of the proof. No condition.
-/
import Derived.Test.YtmlpbmgfmnmmmaaGreatW2ay
set_option linter.unusedVariables false
set_option linter.unusedSimpArgs false
set_option maxRecDepth 8000
set_option maxHeartbeats 8000000
namespace Go.Proofs.YtmlpbmgfmnmmmaaGreat.V.M
section
attribute [local irreducible] GO GX aA fz aF aQ ao star
structure bw where
 bytes:Nat
 many:Nat
 E:List cC
 K:Nat
structure dB where
 a:Nat
 t:Nat
 r:Nat
 h:Nat
 u:Nat
 A:Ar
 T:Tb
 L:List Nat
 S:List cH
 G:List (Int×Int)
 q1:Option Nat×Nat
 q2:Option Nat×Nat
def aN (S:List cH)(n:Nat):cH:=S.getD n s0
def jK (S:List cH)(L:List Nat):List cC:=L.map fun n=>(aN S n).e
def fO (S:List cH)(L:List Nat):List (Bs×Nat):=L.map fun n=>((aN S n).e.k,n)
def dD (S:List cH)(L:List Nat):List Tm:=(L.filter fun n=>decide ((aN S n).e.d≠never)).map fun n=>(n,(aN S n).e.d)
def pX (x:Int×Int):List Value:=[iV x.1,iV x.2]
theorem JN (x:Int×Int):(pX x).length=2:=rfl
structure de (X:dB)(s:bw):Prop where
 pC:s.E=jK X.S X.L
 nd:X.L.Nodup
 lt:∀n∈X.L,n<X.S.length
 eC:iS X.T (fO X.S X.L)
 ar:nE s.K X.A
 aI:X.A.aI=s.many
 gl:X.A.aW.length=X.S.length
 live:∀n,n<X.S.length→(n∈X.L↔0≤X.A.aW.getD n 0)
 refs:X.G.length=X.S.length
 ref:∀n∈X.L,X.G[n]?=some ((n:Int),X.A.aW.getD n 0)
 sb:∀x∈X.S,zg x
 xI:∀e∈s.E,l7 e
 kn:(s.E.map (·.k)).Nodup
 cost:dL s.E≤s.bytes
 len:s.E.length≤s.many
 bytes:1≤s.bytes∧s.bytes≤1099511627776
 many:1≤s.many∧s.many≤1048576
abbrev dB.dm (X:dB)(b:Nat)(s:bw):List It:=
 [aA b [ak X.a,ak X.t,ak X.r,ak X.h,ak X.u, .slice (ay X.q1.1) X.S.length X.q1.2, .slice (ay X.q2.1) X.G.length X.q2.2],
  ao 138 6 X.q1.1 X.S.length X.q1.2 (aK eB X.S),ao 230 2 X.q2.1 X.G.length X.q2.2 (aK pX X.G),
  mL X.a X.A,gI X.t X.T,ni X.r X.L,fL X.h (dD X.S X.L),iq X.u s.bytes s.many (dL s.E) s.E.length,bB (cY X.S)]
def jD (b:Nat)(s:bw):It:=star fun X:{ X:dB // de X s}=>X.1.dm b s
theorem map_inj {α β:Type}{f:α→β}{l:List α}(h:(l.map f).Nodup){x y:α}(hx:x∈l)(hy:y∈l)(e:f x=f y):x=y:=by
 induction l with
 |nil=>cases hx
 |cons z l ih=>
  rw[cK,eI] at h
  rcases bY.1 hx with a1|a1<;>rcases bY.1 hy with b1|b1
  ·rw[a1,b1]
  ·subst a1;exact absurd (bK.2 ⟨y,b1,e.symm⟩) h.1
  ·subst b1;exact absurd (bK.2 ⟨x,a1,e⟩) h.1
  ·exact ih h.2 a1 b1
theorem alB {l m:List Nat}(h:l.Perm m):l.sum=m.sum:=by
 induction h with
 |nil=>rfl
 |cons x _ ih=>simp[ih]
 |swap x y l=>simp;omega
 |trans _ _ h1 h2=>exact h1.trans h2
theorem Ga {l m:List cC}(h:l.Perm m):dL l=dL m:=alB (h.map _)
theorem J' (x:cC)(l:List cC):dL (x::l)=fb x+dL l:=by simp[dL]
theorem J9 (l m:List cC):dL (l++m)=dL l+dL m:=by simp[dL]
theorem alz {l:List cC}(h:∀e∈l,l7 e):65*l.length≤dL l∧dL l≤67000*l.length:=by
 induction l with
 |nil=>simp[dL]
 |cons x l ih=>
  have h1:=KW (h x (by simp));have h2:=ih fun e he=>h e (by simp[he])
  rw[J',dR];omega
theorem yP {S:List cH}{n m:Nat}(x:cH)(h:m≠n):aN (S.set n x) m=aN S m:=by
 unfold aN;rw[fT,fT,dH (Ne.symm h)]
theorem CS {S:List cH}{n:Nat}(x:cH)(h:n<S.length):aN (S.set n x) n=x:=by
 unfold aN;rw[fT,dJ h];rfl
theorem yO {S:List cH}{n:Nat}(h:n<S.length):S[n]?=some (aN S n):=by
 unfold aN;rw[fT,bO h];rfl
section
variable {S S':List cH}{L:List Nat}
theorem Q9 (h:∀n∈L,aN S n=aN S' n):jK S L=jK S' L:=ri fun n hn=>by rw[h n hn]
theorem Uo (h:∀n∈L,aN S n=aN S' n):fO S L=fO S' L:=ri fun n hn=>by rw[h n hn]
theorem Hg (h:∀n∈L,aN S n=aN S' n):dD S L=dD S' L:=by
 unfold dD;rw[List.filter_congr (q:=fun n=>decide ((aN S' n).e.d≠never)) fun n hn=>by rw[h n hn]];exact ri fun n hn=>by rw[h n (ib.1 hn).1]
end
theorem de.abY {X:dB}{s:bw}(h:de X s){n:Nat}(hn:n∈X.L):(aN X.S n).e∈s.E:=by
 rw[h.pC];exact bK.2 ⟨n,hn,rfl⟩
theorem de.ok {X:dB}{s:bw}(h:de X s){n:Nat}(hn:n∈X.L):l7 (aN X.S n).e:=h.xI _ (h.abY hn)
theorem de.ll {X:dB}{s:bw}(h:de X s):X.L.length=s.E.length:=by rw[h.pC,jK,fk]
theorem de.sl {X:dB}{s:bw}(h:de X s):X.S.length≤1048576:=by
 have h1:=h.ar.len;have h2:=h.ar.aI;rw[h.gl] at h1;omega
theorem de.inj {X:dB}{s:bw}(h:de X s){n m:Nat}(hn:n∈X.L)(hm:m∈X.L)(e:(aN X.S n).e.k=(aN X.S m).e.k):n=m:=by
 have hk:=h.kn;rw[h.pC,jK,nB] at hk;exact map_inj hk hn hm e
def dv (E:List cC)(k:Bs):List cC:=E.filter fun e=>decide (e.k≠k)
theorem de.erase {X:dB}{s:bw}(h:de X s){n:Nat}(hn:n∈X.L):jK X.S (X.L.erase n)=dv s.E (aN X.S n).e.k:=by
 rw[h.nd.erase_eq_filter,h.pC];unfold jK dv;rw[List.filter_map];congr 1;refine List.filter_congr fun m hm=>?_
 by_cases e:m=n
 ·subst e;simp
 ·have:¬(aN X.S m).e.k=(aN X.S n).e.k:=fun h'=>e (h.inj hm hn h')
  simp[e,this]
theorem de.aia {X:dB}{s:bw}(_:de X s){n:Nat}(hn:n∈X.L):X.L.Perm (n::X.L.erase n):=AZ hn
theorem de.CI {X:dB}{s:bw}(h:de X s){n:Nat}(hn:n∈X.L):s.E.Perm ((aN X.S n).e::dv s.E (aN X.S n).e.k):=by
 rw[←h.erase hn];have:=(h.aia hn).map (fun n=>(aN X.S n).e);rw[cK] at this;have e:s.E=X.L.map fun n=>(aN X.S n).e:=h.pC
 rw[e];exact this
theorem Ay {L:List Nat}{n:Nat}(h:L.Nodup):n∉L.erase n:=fun hn=>by
 rw[h.erase_eq_filter] at hn;simp at hn
theorem nE.mono {K K':Nat}{A:Ar}(h:nE K A)(hk:K≤K'):nE K' A:=⟨h.aI,h.len,fun g hg=>by have:=h.gen g hg;exact⟨this.1,by omega,by omega⟩,h.free,h.nodup,h.Br⟩
theorem rv {α:Type}{l:List α}{n m:Nat}{x d:α}:(l.set n x).getD m d=if m=n∧n<l.length then x else l.getD m d:=by
 rw[fT,fT,List.getElem?_set]
 by_cases e:n=m
 ·subst e
  by_cases hl:n<l.length
  ·simp[hl]
  ·simp[hl,sy (Nat.le_of_not_lt hl)]
 ·simp[e,Ne.symm e]
theorem nE.La {K:Nat}{A:Ar}(h:nE K A){n:Nat}(hl:qO A n):nE (K+1) (xC A n):=by
 obtain⟨h0,h1,h2⟩:=hl;simp only[tG] at h2;have hn:n<A.aW.length:=by omega
 have hg:=h.gen _ (Hv 0 hn);have MN:¬(A.aW.getD n 0<0):=by omega
 have qH:n∉A.free:=fun hf=>MN ((h.free n).1 hf).2
 have kX:A.free.length+1≤A.aW.length:=by
  have h3:(n::A.free).Nodup:=eI.2 ⟨qH,h.nodup⟩;have h4:∀x∈n::A.free,x<A.aW.length:=fun x hx=>by
   rcases bY.1 hx with rfl|hx
   ·exact hn
   ·exact((h.free x).1 hx).1
  have h5:=xo h3 (l₂:=List.range A.aW.length) fun x hx=>tE.2 (h4 x hx)
  simpa using h5
 refine⟨h.aI,by simpa[xC] using h.len,fun g hg'=>?_,fun m=>?_,?_,by simpa[xC] using kX⟩
 ·rcases l4 hg' with hm|rfl
  ·have:=h.gen g hm;exact⟨this.1,by omega,by omega⟩
  ·exact⟨by omega,by omega,by omega⟩
 ·simp only[xC,cJ,lC,fS,rv]
  by_cases e:m=n
  ·subst e;rw[if_pos ⟨rfl,hn⟩];exact⟨fun _=>⟨hn,by omega⟩,fun _ => .inr rfl⟩
  ·simp only[e,or_false,false_and,if_false];exact h.free m
 ·exact gu.2 ⟨h.nodup,by simp,fun a ha b hb e=>by simp at hb;subst hb e;exact qH ha⟩
def dB.p5 (X:dB)(n:Nat)(T:Tb):dB:={ X with A:=xC X.A n,T:=T,L:=X.L.erase n,S:=X.S.set n s0}
def bw.drop (s:bw)(k:Bs):bw:={ s with E:=dv s.E k,K:=s.K+1}
theorem de.gen {X:dB}{s:bw}(h:de X s){n:Nat}(hn:n∈X.L):qO X.A n:=by
 refine⟨by omega,?_,?_⟩
 ·have:=h.lt n hn;rw[h.gl];omega
 ·simpa using(h.live n (h.lt n hn)).1 hn
theorem de.p5 {X:dB}{s:bw}(h:de X s){n:Nat}(hn:n∈X.L){T:Tb}(hT:iS T (fO X.S (X.L.erase n))):de (X.p5 n T) (s.drop (aN X.S n).e.k):=by
 have hnl:=h.lt n hn;have lK:=h.gen hn;have aR:∀m∈X.L.erase n,aN (X.S.set n s0) m=aN X.S m:=fun m hm=>yP _ fun e=>Ay h.nd (e▸hm)
 have hp:=h.CI hn;have hlen:=hp.length_eq;have wm:=Ga hp;rw[J'] at wm;rw[dR] at hlen;have amK:=h.len;have ams:=h.cost;refine⟨?_,h.nd.erase n,fun m hm=>?_,?_,h.ar.La lK,h.aI,?_,fun m hm=>?_,?_,fun m hm=>?_,fun x hx=>?_,fun e he=>h.xI e (ib.1 he).1,?_,?_,?_,h.bytes,h.many⟩
 ·show dv s.E _=jK (X.S.set n s0) (X.L.erase n);rw[Q9 aR,h.erase hn]
 ·show m<(X.S.set n s0).length;rw[fS];exact h.lt m (List.mem_of_mem_erase hm)
 ·show iS T (fO (X.S.set n s0) (X.L.erase n));rw[Uo aR];exact hT
 ·show(X.A.aW.set n _).length=(X.S.set n s0).length;rw[fS,fS,h.gl]
 ·have i':m<X.S.length:=by simpa[dB.p5] using hm
  show m∈X.L.erase n↔0≤(X.A.aW.set n (-(X.A.aW.getD n 0+1))).getD m 0;rw[rv,h.nd.mem_erase_iff]
  by_cases e:m=n
  ·subst e;have h2:0≤X.A.aW.getD m 0:=by simpa using lK.2.2
   rw[if_pos ⟨rfl,by rw[h.gl];exact hnl⟩];constructor
   ·intro h';exact absurd rfl h'.1
   ·intro h';omega
  ·rw[if_neg (fun h'=>e h'.1)];simp only[ne_eq,e,not_false_eq_true,true_and];exact h.live m i'
 ·show X.G.length=(X.S.set n s0).length;rw[fS,h.refs]
 ·have gX:=(h.nd.mem_erase_iff).1 hm;show X.G[m]?=some ((m:Int),(X.A.aW.set n _).getD m 0);rw[rv,if_neg (fun h'=>gX.1 h'.1)];exact h.ref m gX.2
 ·rcases l4 hx with hm|rfl
  ·exact h.sb x hm
  ·exact Xp
 ·exact(h.kn).sublist (List.filter_sublist.map _)
 ·show dL (dv s.E _)≤s.bytes;omega
 ·show(dv s.E _).length≤s.many;omega
end
section
structure Nm where
 t:Bs
 r:Nat
 nx:Int
abbrev fU:=List (Bs×Nat)
def dO (N:List Nm):fU:=N.map fun x=>(x.t,x.r)
def eF (x:Nm):List Value:=[str x.t,iV x.r,iV x.nx]
theorem fi (x:Nm):(eF x).length=3:=rfl
def fy (N:List Nm):Int→List Nat→Prop
 |h,[]=>h = -1
 |h,n::l=>h=(n:Int)∧∃x,N[n]?=some x∧fy N x.nx l
theorem fy.congr {N N':List Nm}:∀{l:List Nat}{h:Int},fy N h l→(∀n∈l,∀x,N[n]?=some x→∃x',N'[n]?=some x'∧x'.nx=x.nx)→fy N' h l
 | [],_,h,_=>h
 |n::l,_,⟨h1,x,h2,h3⟩,hc=>by
  obtain⟨x',k1,k2⟩:=hc n (by simp) x h2;exact⟨h1,x',k1,k2▸h3.congr fun m hm=>hc m (by simp[hm])⟩
theorem fy.set {N:List Nm}{l:List Nat}{h:Int}(hc:fy N h l){n:Nat}(y:Nm)(hn:n∉l):fy (N.set n y) h l:=
 hc.congr fun m hm x hx=>⟨x,by rw[dH (fun e=>hn (by rw[e];exact hm))];exact hx,rfl⟩
theorem fy.app {N:List Nm}{l:List Nat}{h:Int}(hc:fy N h l)(y:List Nm):fy (N++y) h l:=
 hc.congr fun m _ x hx=>⟨x,by rw[gr (aV.1 hx).1];exact hx,rfl⟩
theorem fy.Xz {N:List Nm}{l:List Nat}{h:Int}(hc:fy N h l){n:Nat}{x:Nm}(y:Nm)(hx:N[n]?=some x)(he:y.nx=x.nx):fy (N.set n y) h l:=
 hc.congr fun m _ z hz=>by
  by_cases e:m=n
  ·subst e;rw[hx] at hz;cases hz;exact⟨y,by rw[dJ (aV.1 hx).1],he⟩
  ·exact⟨z,by rw[dH (Ne.symm e)];exact hz,rfl⟩
theorem fy.split {N:List Nm}:∀{p:List Nat}{n:Nat}{s:List Nat}{h:Int},fy N h (p++n::s)→∃x,N[n]?=some x∧fy N x.nx s
 | [],_,_,_,⟨_,x,h1,h2⟩=>⟨x,h1,h2⟩
 |_::_,_,_,_,⟨_,_,_,h⟩=>h.split
def oX (N:fU)(s:Bs):Option Nat:=N.findIdx? fun x=>decide (0<x.2∧x.1=s)
structure gJ (aJ:Nat)(H:List Int)(N:List Nm):Prop where
 size:2≤H.length∧H.length≤262144
 list:N.length≤65536
 chain:∀b,b<H.length→∃l,fy N (H.getD b (-1)) l∧l.Nodup∧∀n,n∈l↔∃x,N[n]?=some x∧0<x.r∧bN aJ x.t % H.length=b
 uniq:∀(n m:Nat) (x y:Nm),N[n]?=some x→N[m]?=some y→0<x.r→0<y.r→x.t=y.t→n=m
 tag:∀x∈N,0<x.r→fF x.t=true
 refs:∀x∈N,x.r<2097152
theorem yE {N:List Nm}{n:Nat}{x:Nm}(h:N[n]?=some x):(dO N)[n]?=some (x.t,x.r):=by simp[dO,h]
theorem Jr {N:List Nm}{n:Nat}{y:Bs×Nat}(h:(dO N)[n]?=some y):∃x,N[n]?=some x∧y=(x.t,x.r):=by
 simp only[dO,gb,vp] at h;obtain⟨x,h1,h2⟩:=h;exact⟨x,h1,h2.symm⟩
theorem gJ.Wd {aJ:Nat}{H:List Int}{N:List Nm}(h:gJ aJ H N){n:Nat}{x:Nm}(hx:N[n]?=some x)(hr:0<x.r):oX (dO N) x.t=some n:=by
 unfold oX;rw[C9];have aP:=(aV.1 (yE hx)).1;refine⟨aP,?_,fun j hj=>?_⟩
 ·have:=(aV.1 (yE hx)).2;rw[this];simp[hr]
 ·have vX:j<(dO N).length:=by omega
  obtain⟨y,h1,h2⟩:=Jr (bO vX);rw[h2];intro hc;simp only[mE] at hc;have:=h.uniq j n y x h1 hx hc.1 hr hc.2;omega
theorem Wc {N:List Nm}{s:Bs}{n:Nat}(h:oX (dO N) s=some n):∃x,N[n]?=some x∧0<x.r∧x.t=s:=by
 unfold oX at h;rw[C9] at h;obtain⟨aP,h1,_⟩:=h;obtain⟨x,h3,h4⟩:=Jr (bO aP);rw[h4] at h1;simp only[mE] at h1;exact⟨x,h3,h1⟩
theorem ahl {N:List Nm}{s:Bs}(h:∀(n:Nat) (x:Nm),N[n]?=some x→0<x.r→x.t≠s):oX (dO N) s=none:=by
 cases hh:oX (dO N) s with
 |none=>rfl
 |some n=>obtain⟨x,h1,h2,h3⟩:=Wc hh;exact absurd h3 (h n x h1 h2)
theorem gJ.push {aJ:Nat}{H:List Int}{N:List Nm}(h:gJ aJ H N){n:Nat}{x:Nm}(hx:N[n]?=some x)(h0:x.r=0){s:Bs}(hs:fF s=true)(hn:∀(m:Nat) (y:Nm),N[m]?=some y→0<y.r→y.t≠s){b:Nat}(hb:bN aJ s % H.length=b) :
  gJ aJ (H.set b (n:Int)) (N.set n ⟨s,1,H.getD b (-1)⟩):=by
 have hnl:=(aV.1 hx).1;have fq:b<H.length:=by rw[←hb];exact fm _ (by have:=h.size;omega)
 have iZ:∀(m:Nat) (y:Nm),(N.set n ⟨s,1,H.getD b (-1)⟩)[m]?=some y→(m=n∧y=⟨s,1,H.getD b (-1)⟩)∨(m≠n∧N[m]?=some y):=fun m y hy=>by
  by_cases e:m=n
  ·subst e;rw[dJ hnl] at hy;cases hy;exact .inl ⟨rfl,rfl⟩
  ·rw[dH (Ne.symm e)] at hy;exact .inr ⟨e,hy⟩
 refine⟨by simpa using h.size,by simpa using h.list,fun c hc=>?_,fun m k y z hy hz r1 r2 e=>?_,fun y hy hr=>?_,fun y hy=>?_⟩
 ·rw[fS] at hc ⊢;obtain⟨l,h1,h2,h3⟩:=h.chain c hc;have wg:n∉l:=fun hm=>by
   obtain⟨y,hy,hr,_⟩:=(h3 n).1 hm;rw[hx] at hy;cases hy;omega
  have gB:=h1.set ⟨s,1,H.getD b (-1)⟩ wg
  by_cases e:c=b
  ·subst e;refine⟨n::l,⟨?_,_,dJ hnl,gB⟩,eI.2 ⟨wg,h2⟩,fun m=>?_⟩
   ·rw[rv,if_pos ⟨rfl,fq⟩]
   ·rw[bY];constructor
    ·rintro(rfl|hm)
     ·exact⟨_,dJ hnl,by simp,hb⟩
     ·obtain⟨y,k1,k2,k3⟩:=(h3 m).1 hm;exact⟨y,by rw[dH (fun e=>wg (by rw[e];exact hm))];exact k1,k2,k3⟩
    ·rintro⟨y,k1,k2,k3⟩
     rcases iZ m y k1 with⟨rfl,_⟩|⟨_,k⟩
     ·exact .inl rfl
     ·exact .inr ((h3 m).2 ⟨y,k,k2,k3⟩)
  ·refine⟨l,?_,h2,fun m=>?_⟩
   ·rw[rv,if_neg (fun h'=>e h'.1)];exact gB
   ·constructor
    ·intro hm;obtain⟨y,k1,k2,k3⟩:=(h3 m).1 hm;exact⟨y,by rw[dH (fun e=>wg (by rw[e];exact hm))];exact k1,k2,k3⟩
    ·rintro⟨y,k1,k2,k3⟩
     rcases iZ m y k1 with⟨rfl,rfl⟩|⟨_,k⟩
     ·exact absurd (k3.symm.trans hb) e
     ·exact(h3 m).2 ⟨y,k,k2,k3⟩
 ·rcases iZ m y hy with⟨rfl,rfl⟩|⟨h1,gB⟩<;>rcases iZ k z hz with⟨rfl,rfl⟩|⟨h2,mR⟩
  ·rfl
  ·exact absurd e.symm (hn k z mR r2)
  ·exact absurd e (hn m y gB r1)
  ·exact h.uniq m k y z gB mR r1 r2 e
 ·rcases l4 hy with hm|rfl
  ·exact h.tag y hm hr
  ·exact hs
 ·rcases l4 hy with hm|rfl
  ·exact h.refs y hm
  ·simp
theorem gJ.Yk {aJ:Nat}{H:List Int}{N:List Nm}(h:gJ aJ H N){n:Nat}{x:Nm}(hx:N[n]?=some x)(hr:0<x.r){r:Nat}(EK:0<r∧r<2097152):gJ aJ H (N.set n ⟨x.t,r,x.nx⟩):=by
 have hnl:=(aV.1 hx).1;have iZ:∀(m:Nat) (y:Nm),(N.set n ⟨x.t,r,x.nx⟩)[m]?=some y→∃z,N[m]?=some z∧z.t=y.t∧(0<y.r↔0<z.r):=fun m y hy=>by
  by_cases e:m=n
  ·subst e;rw[dJ hnl] at hy;cases hy;exact⟨x,hx,rfl,by simp[hr,EK.1]⟩
  ·rw[dH (Ne.symm e)] at hy;exact⟨y,hy,rfl,Iff.rfl⟩
 have Mr:∀(m:Nat) (z:Nm),N[m]?=some z→∃y,(N.set n ⟨x.t,r,x.nx⟩)[m]?=some y∧z.t=y.t∧(0<y.r↔0<z.r):=fun m z hz=>by
  by_cases e:m=n
  ·subst e;rw[hx] at hz;cases hz;exact⟨_,dJ hnl,rfl,by simp[hr,EK.1]⟩
  ·exact⟨z,by rw[dH (Ne.symm e)];exact hz,rfl,Iff.rfl⟩
 refine⟨h.size,by simpa using h.list,fun c hc=>?_,fun m k y z hy hz r1 r2 e=>?_,fun y hy wi=>?_,fun y hy=>?_⟩
 ·obtain⟨l,h1,h2,h3⟩:=h.chain c hc;refine⟨l,h1.Xz _ hx rfl,h2,fun m=>(h3 m).trans ⟨?_,?_⟩⟩
  ·rintro⟨z,k1,k2,k3⟩;obtain⟨y,q1,q2,q3⟩:=Mr m z k1;exact⟨y,q1,q3.2 k2,q2▸k3⟩
  ·rintro⟨y,k1,k2,k3⟩;obtain⟨z,q1,q2,q3⟩:=iZ m y k1;exact⟨z,q1,q3.1 k2,q2▸k3⟩
 ·obtain⟨y',q1,q2,q3⟩:=iZ m y hy;obtain⟨z',p1,p2,p3⟩:=iZ k z hz;exact h.uniq m k y' z' q1 p1 (q3.1 r1) (p3.1 r2) (q2.trans (e.trans p2.symm))
 ·rcases l4 hy with hm|rfl
  ·exact h.tag y hm wi
  ·exact h.tag x (bF hx) hr
 ·rcases l4 hy with hm|rfl
  ·exact h.refs y hm
  ·exact EK.2
theorem gJ.more {aJ:Nat}{H:List Int}{N:List Nm}(h:gJ aJ H N){y:Nm}(hy:y.r=0)(hl:N.length<65536):gJ aJ H (N++[y]):=by
 have iZ:∀(m:Nat) (x:Nm),(N++[y])[m]?=some x→0<x.r→N[m]?=some x:=fun m x hx hr=>by
  rw[List.getElem?_append] at hx;split at hx
  ·exact hx
  ·rw[List.getElem?_singleton] at hx;split at hx
   ·cases hx;omega
   ·cases hx
 refine⟨h.size,by simp;omega,fun c hc=>?_,fun m k a b ha hb r1 r2 e=>h.uniq m k a b (iZ m a ha r1) (iZ k b hb r2) r1 r2 e,fun x hx hr=>?_,fun x hx=>?_⟩
 ·obtain⟨l,h1,h2,h3⟩:=h.chain c hc;refine⟨l,h1.app _,h2,fun m=>(h3 m).trans ⟨?_,?_⟩⟩
  ·rintro⟨x,k1,k2,k3⟩;exact⟨x,by rw[gr (aV.1 k1).1];exact k1,k2,k3⟩
  ·rintro⟨x,k1,k2,k3⟩;exact⟨x,iZ m x k1 k2,k2,k3⟩
 ·rcases cJ.1 hx with hx|hx
  ·exact h.tag x hx hr
  ·simp at hx;subst hx;omega
 ·rcases cJ.1 hx with hx|hx
  ·exact h.refs x hx
  ·simp at hx;subst hx;omega
theorem fy.cut {N:List Nm}:∀{p:List Nat}{n:Nat}{s:List Nat}{h:Int}{x:Nm},fy N h (p++n::s)→(p++n::s).Nodup→N[n]?=some x →
  match p.getLast? with
  |none=>h=(n:Int)∧fy N x.nx s
  |some m=>∃y,N[m]?=some y∧y.nx=(n:Int)∧∀z,fy ((N.set m ⟨y.t,y.r,x.nx⟩).set n z) h (p++s)
 | [],n,s,h,x,hc,_,hx=>by
   obtain⟨h1,x',h2,h3⟩:=hc;rw[hx] at h2;cases h2;exact⟨h1,h3⟩
 | [m],n,s,h,x,hc,bX,hx=>by
   obtain⟨h1,y,h2,h3,x',h4,h5⟩:=hc;rw[hx] at h4;cases h4;have mX:m≠n:=by simp at bX;exact bX.1.1
   have qF:m∉s:=by simp at bX;exact bX.1.2
   have z6:n∉s:=by simp at bX;exact bX.2.1
   refine⟨y,h2,h3,fun z=>⟨h1,⟨y.t,y.r,x.nx⟩,?_,?_⟩⟩
   ·show((N.set m ⟨y.t,y.r,x.nx⟩).set n z)[m]?=_;rw[dH (Ne.symm mX),dJ (aV.1 h2).1]
   ·exact(h5.set _ qF).set _ z6
 |m::k::p,n,s,h,x,hc,bX,hx=>by
  obtain⟨h1,y,h2,h3⟩:=hc;have MM:((k::p)++n::s).Nodup:=(eI.1 bX).2;have hm:m∉(k::p)++n::s:=(eI.1 bX).1;have ih:=fy.cut (p:=k::p) h3 MM hx;rw[List.getLast?_cons_cons];obtain⟨q,hq⟩:∃q,(k::p).getLast?=some q:=⟨(k::p).getLast (by simp),List.getLast?_eq_some_getLast (by simp)⟩
  rw[hq] at ih ⊢;obtain⟨w,k1,k2,k3⟩:=ih;have B5:q∈k::p:=List.mem_of_getLast? hq;have Te:q≠m:=fun e=>hm (by rw[←e];exact tH _ B5)
  have mX:n≠m:=fun e=>hm (by rw[←e];simp)
  exact⟨w,k1,k2,fun z=>⟨h1,y,by rw[dH mX,dH Te];exact h2,k3 z⟩⟩
end
end Go.Proofs.YtmlpbmgfmnmmmaaGreat.V.M
