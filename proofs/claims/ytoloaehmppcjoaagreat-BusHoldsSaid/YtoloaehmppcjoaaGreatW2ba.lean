/-
  Parts of the proof. No condition.
-/
import Derived.Test.YtoloaehmppcjoaaGreatW2ay
set_option linter.unusedVariables false
set_option linter.unusedSimpArgs false
set_option maxRecDepth 8000
set_option maxHeartbeats 8000000
namespace Go.Proofs.YtoloaehmppcjoaaGreat.V.M
def l7:Nm:=⟨[],0,0⟩
theorem gX.rem {aJ:Nat}{H H':List Int}{N N':List Nm}(h:gX aJ H N){n:Nat}(hH:H'.length=H.length)(hN:N'.length=N.length)(h0:N'[n]?=some l7)(hs:∀m,m≠n→(N'[m]?).map (fun y=>(y.t,y.r))=(N[m]?).map (fun y=>(y.t,y.r)))
  (hc:∀c,c<H.length→∀l,fI N (H.getD c (-1)) l→l.Nodup→(∀n,n∈l↔∃x,N[n]?=some x∧0<x.r∧bK aJ x.t % H.length=c)→∃l',fI N' (H'.getD c (-1)) l'∧l'.Nodup∧∀m,m∈l'↔m≠n∧m∈l):gX aJ H' N':=by
 have jc:∀(m:Nat) (y:Nm),N'[m]?=some y→0<y.r→m≠n∧∃z,N[m]?=some z∧z.t=y.t∧z.r=y.r:=fun m y hy hr=>by
  have hm:m≠n:=fun e=>by subst e;rw[h0] at hy;cases hy;exact absurd hr (by decide)
  have:=hs m hm;rw[hy] at this;cases hz:N[m]? with
  |none=>rw[hz] at this;cases this
  |some z=>
   rw[hz] at this;simp only[jV,mU,oI] at this;exact⟨hm,z,rfl,this.1.symm,this.2.symm⟩
 have MB:∀(m:Nat) (z:Nm),N[m]?=some z→m≠n→∃y,N'[m]?=some y∧z.t=y.t∧z.r=y.r:=fun m z hz hm=>by
  have:=hs m hm;rw[hz] at this;cases hy:N'[m]? with
  |none=>rw[hy] at this;cases this
  |some y=>
   rw[hy] at this;simp only[jV,mU,oI] at this;exact⟨y,rfl,this.1.symm,this.2.symm⟩
 have dN:∀y∈N',y.r=0∨∃z∈N,z.t=y.t∧z.r=y.r:=fun y hy=>by
  obtain⟨m,hm⟩:=ey hy
  by_cases hr:0<y.r
  ·obtain⟨_,z,hz,h1⟩:=jc m y hm hr;exact .inr ⟨z,bD hz,h1⟩
  ·exact .inl ah
 refine⟨by rw[hH];exact h.size,by rw[hN];exact h.list,fun c gO=>?_,fun m k y z hy hz r1 r2 e=>?_,fun y hy hr=>?_,fun y hy=>?_⟩
 ·rw[hH] at gO ⊢;obtain⟨l,h1,h2,h3⟩:=h.chain c gO;obtain⟨l',k1,k2,k3⟩:=hc c gO l h1 h2 h3;refine⟨l',k1,k2,fun m=>?_⟩;rw[k3,h3];constructor
  ·rintro⟨hm,z,q1,q2,q3⟩;obtain⟨y,p1,p2,p3⟩:=MB m z q1 hm;exact⟨y,p1,by omega,by rw[←p2];exact q3⟩
  ·rintro⟨y,q1,q2,q3⟩;obtain⟨hm,z,p1,p2,p3⟩:=jc m y q1 q2;exact⟨hm,z,p1,by omega,by rw[p2];exact q3⟩
 ·obtain⟨_,y',q1,q2,q3⟩:=jc m y hy r1;obtain⟨_,z',p1,p2,p3⟩:=jc k z hz r2;exact h.uniq m k y' z' q1 p1 ah ah (q2.trans (e.trans p2.symm))
 ·rcases dN y hy with h'|⟨z,h1,h2,h3⟩
  ·omega
  ·rw[←h2];exact h.tag z h1 ah
 ·rcases dN y hy with h'|⟨z,h1,h2,h3⟩
  ·omega
  ·rw[←h3];exact h.refs z h1
theorem fI.Bn {N:List Nm}:∀{l m:List Nat}{h:Int},fI N h l→fI N h m→l=m
 | [],[],_,_,_=>rfl
 | [],_::_,_,h1,h2=>by
   have e1:_=(-1:Int):=h1;have e2:=h2.1;omega
 |_::_,[],_,h1,h2=>by
  have e1:_=(-1:Int):=h2;have e2:=h1.1;omega
 |n::l,m::k,_,⟨e1,x,hx,h1⟩,⟨e2,y,hy,h2⟩=>by
  obtain rfl:n=m:=by omega
  rw[hx] at hy;cases hy;rw[h1.Bn h2]
theorem gX.aaS {aJ:Nat}{H:List Int}{N:List Nm}(h:gX aJ H N){n:Nat}{x:Nm}(hx:N[n]?=some x)(hr:0<x.r){b:Nat}(hb:bK aJ x.t % H.length=b){s:List Nat}(hc:fI N (H.getD b (-1)) (n::s))(bT:(n::s).Nodup) :
  gX aJ (H.set b x.nx) (N.set n l7):=by
 have hnl:=(aV.1 hx).1;have fD:b<H.length:=by rw[←hb];exact e7 _ (by have:=h.size;omega)
 have hc':=hc;obtain⟨_,y,hy,h2⟩:=hc;rw[hx] at hy;cases hy;have zY:=(eQ.1 bT).1;refine h.rem (n:=n) (by simp) (by simp) (dE hnl) (fun m hm=>by rw[dv (Ne.symm hm)]) fun c gO l k1 k2 k3=>?_
 by_cases e:c=b
 ·subst e;obtain rfl:=k1.Bn hc';refine⟨s,?_,(eQ.1 bT).2,fun k=>?_⟩
  ·rw[rM,if_pos ⟨rfl,fD⟩];exact h2.set _ zY
  ·rw[bU];constructor
   ·intro hk;exact⟨fun e=>zY (e▸hk), .inr hk⟩
   ·rintro⟨hk,h'|h'⟩
    ·exact absurd h' hk
    ·exact h'
 ·have hnl:n∉l:=fun hm=>by
   obtain⟨z,q1,q2,q3⟩:=(k3 n).1 hm;rw[hx] at q1;cases q1;exact e (q3.symm.trans hb)
  refine⟨l,?_,k2,fun m=>⟨fun hm=>⟨fun e=>hnl (e▸hm),hm⟩,fun hm=>hm.2⟩⟩;rw[rM,if_neg (fun h'=>e h'.1)];exact k1.set _ hnl
theorem gX.aaT {aJ:Nat}{H:List Int}{N:List Nm}(h:gX aJ H N){n m:Nat}{x y:Nm}(hx:N[n]?=some x)(hy:N[m]?=some y)(hr:0<x.r){b:Nat}(hb:bK aJ x.t % H.length=b){p s:List Nat}(hc:fI N (H.getD b (-1)) ((p++[m])++n::s))(bT:((p++[m])++n::s).Nodup) :
  gX aJ H ((N.set m ⟨y.t,y.r,x.nx⟩).set n l7):=by
 have hnl:=(aV.1 hx).1;have BS:=(aV.1 hy).1;have fD:b<H.length:=by rw[←hb];exact e7 _ (by have:=h.size;omega)
 have Ia:=hc.cut bT hx;rw[List.getLast?_concat] at Ia;obtain⟨z,hz,_,Ia⟩:=Ia;rw[hy] at hz;cases hz;have nu:m≠n:=fun e=>by
  subst e;rw[ga] at bT;exact bT.2.2 m (by simp) m (by simp) rfl
 refine h.rem (n:=n) rfl (by simp) (by rw[dE (by simpa using hnl)]) (fun k hk=>?_) fun c gO l k1 k2 k3=>?_
 ·rw[dv (Ne.symm hk)]
  by_cases e:k=m
  ·subst e;rw[dE BS,hy];rfl
  ·rw[dv (Ne.symm e)]
 by_cases e:c=b
 ·subst e;obtain rfl:=k1.Bn hc;refine⟨(p++[m])++s,Ia l7,bT.sublist (List.Sublist.append_left (List.sublist_cons_self _ _) _),fun k=>?_⟩;rw[ga] at bT;have h1:=(eQ.1 bT.2.1).1;have h2:n∉p++[m]:=fun hm=>bT.2.2 n hm n (by simp) rfl
  rw[cx (s:=p++[m]) (t:=s),cx (s:=p++[m]) (t:=n::s),bU];constructor
  ·rintro(hk|hk)
   ·exact⟨fun e=>h2 (e▸hk), .inl hk⟩
   ·exact⟨fun e=>h1 (e▸hk), .inr (.inr hk)⟩
  ·rintro⟨hk,h'|h'|h'⟩
   ·exact .inl h'
   ·exact absurd h' hk
   ·exact .inr h'
 ·have bz:∀k∈(p++[m])++n::s,k∉l:=fun k hk cV=>by
   obtain⟨l2,j1,j2,j3⟩:=h.chain b fD;obtain rfl:=j1.Bn hc;obtain⟨z,q1,q2,q3⟩:=(k3 k).1 cV;obtain⟨z',r1,r2,r3⟩:=(j3 k).1 hk;rw[q1] at r1;cases r1;exact e (q3.symm.trans r3)
  have o8:=bz n (by simp);have jw:=bz m (by simp);exact⟨l,(k1.set _ jw).set _ o8,k2,fun k=>⟨fun hk=>⟨fun e=>o8 (e▸hk),hk⟩,fun hk=>hk.2⟩⟩
theorem Ke:∀{l m:List Nat},l.Pairwise (· < ·)→m.Pairwise (· < ·)→(∀x,x∈l↔x∈m)→l=m
 | [],[],_,_,_=>rfl
 | [],y::m,_,_,h=>absurd ((h y).2 (by simp)) (by simp)
 |x::l,[],_,_,h=>absurd ((h x).1 (by simp)) (by simp)
 |x::l,y::m,hl,hm,h=>by
  have h1:=lN.1 hl;have h2:=lN.1 hm;have e:x=y:=by
   rcases bU.1 ((h x).1 (by simp)) with e|hx
   ·exact e
   ·rcases bU.1 ((h y).2 (by simp)) with e|hy
    ·exact e.symm
    ·have a:=h1.1 y hy;have b:=h2.1 x hx;omega
  subst e;rw[Ke h1.2 h2.2 fun z=>?_];constructor
  ·intro hz;have a:=h1.1 z hz
   rcases bU.1 ((h z).1 (fP _ hz)) with e|lZ
   ·omega
   ·exact lZ
  ·intro hz;have a:=h2.1 z hz
   rcases bU.1 ((h z).2 (fP _ hz)) with e|lZ
   ·omega
   ·exact lZ
def cw (N:eF):List Nat:=(List.range N.length).filter fun n=>decide ((N.getD n ([],1)).2=0)
theorem oz {N:eF}{n:Nat}:n∈cw N↔∃x,N[n]?=some x∧x.2=0:=by
 unfold cw;rw[fR,tY,oO];constructor
 ·rintro⟨h1,h2⟩;refine⟨N[n],bO h1,?_⟩;rwa [dP,bO h1] at h2
 ·rintro⟨x,h1,h2⟩;refine⟨(aV.1 h1).1,?_⟩;rw[dP,h1];exact h2
theorem zw (N:eF):(cw N).Pairwise (· < ·):=(List.pairwise_lt_range).filter _
theorem abU {N:eF}{n:Nat}{F:List Nat}{y:Bs×Nat}(h:cw N=n::F)(hy:0<y.2):cw (N.set n y)=F:=by
 have hs:=zw N;rw[h] at hs;have h1:=lN.1 hs;refine Ke (zw _) h1.2 fun m=>?_
 have hm:=oz (N:=N) (n:=m);rw[h,bU] at hm;have hnl:n<N.length:=by
  obtain⟨x,hx,_⟩:=(oz (N:=N) (n:=n)).1 (by rw[h];simp);exact(aV.1 hx).1
 rw[oz]
 by_cases e:m=n
 ·subst e;rw[dE hnl];constructor
  ·rintro⟨x,hx,h0⟩;cases hx;omega
  ·intro jw;have:=h1.1 m jw;omega
 ·rw[dv (Ne.symm e),←hm];simp[e]
theorem abT {N:eF}{n:Nat}{i:Nat}{x:Bs×Nat}(hx:N[n]?=some x)(hr:0<x.2)(h1:∀m∈(cw N).take i,m<n)(h2:∀m∈(cw N).drop i,n<m)(y:Bs×Nat)(hy:y.2=0):cw (N.set n y)=(cw N).take i++n::(cw N).drop i:=by
 have hs:=zw N;have hnl:=(aV.1 hx).1;refine Ke (zw _) ?_ fun m=>?_
 ·refine xx.2 ⟨hs.sublist (List.take_sublist _ _),lN.2 ⟨h2,hs.sublist (List.drop_sublist _ _)⟩,fun a ha b hb=>?_⟩
  rcases bU.1 hb with rfl|hb
  ·exact h1 a ha
  ·exact Nat.lt_trans (h1 a ha) (h2 b hb)
 ·have hm:m∈(cw N).take i++n::(cw N).drop i↔m=n∨m∈cw N:=by
   rw[cx,bU];have:m∈cw N↔m∈(cw N).take i∨m∈(cw N).drop i:=by rw[←cx,jW]
   rw[this];constructor
   ·rintro(h|h|h)<;>simp[h]
   ·rintro(h|h|h)<;>simp[h]
  rw[hm,oz,oz]
  by_cases e:m=n
  ·subst e;rw[dE hnl];simp[hy]
  ·rw[dv (Ne.symm e)];simp[e]
theorem abR {N:eF}(h:cw N=[])(y:Bs×Nat)(hy:0<y.2):cw (N++[y])=[]:=by
 refine List.eq_nil_iff_forall_not_mem.2 fun m hm=>?_
 obtain⟨x,hx,h0⟩:=oz.1 hm;rw[List.getElem?_append] at hx;split at hx
 ·have:=oz.2 ⟨x,hx,h0⟩;rw[h] at this;cases this
 ·rw[List.getElem?_singleton] at hx;split at hx
  ·cases hx;omega
  ·cases hx
theorem Rp {N:eF}{n:Nat}{x y:Bs×Nat}(hx:N[n]?=some x)(hr:0<x.2)(hy:0<y.2):cw (N.set n y)=cw N:=by
 have hnl:=(aV.1 hx).1;refine Ke (zw _) (zw _) fun m=>?_
 rw[oz,oz]
 by_cases e:m=n
 ·subst e;rw[dE hnl,hx];constructor
  ·rintro⟨z,h1,h2⟩;cases h1;omega
  ·rintro⟨z,h1,h2⟩;cases h1;omega
 ·rw[dv (Ne.symm e)]
structure uj (aJ:Nat)(H:List Int)(N:List Nm)(i:Nat):Prop where
 chain:∀b,b<H.length→∃l,fI N (H.getD b (-1)) l∧l.Nodup∧∀n,n∈l↔n<i∧∃x,N[n]?=some x∧0<x.r∧bK aJ x.t % H.length=b
theorem uj.skip {aJ:Nat}{H:List Int}{N:List Nm}{i:Nat}(h:uj aJ H N i){x:Nm}(hx:N[i]?=some x)(h0:x.r=0):uj aJ H N (i+1):=⟨fun b hb=>by
 obtain⟨l,h1,h2,h3⟩:=h.chain b hb;refine⟨l,h1,h2,fun n=>(h3 n).trans ⟨fun⟨a,b⟩=>⟨by omega,b⟩,fun⟨a,y,k1,k2,k3⟩=>⟨?_,y,k1,k2,k3⟩⟩⟩
 by_cases e:n=i
 ·subst e;rw[hx] at k1;cases k1;omega
 ·omega⟩
theorem uj.push {aJ:Nat}{H:List Int}{N:List Nm}{i:Nat}(h:uj aJ H N i){x:Nm}(hx:N[i]?=some x){b:Nat}(hb:bK aJ x.t % H.length=b)(hl:0<H.length)(h0:0<x.r):uj aJ (H.set b (i:Int)) (N.set i ⟨x.t,x.r,H.getD b (-1)⟩) (i+1):=⟨fun c hc=>by
 have eY:=(aV.1 hx).1;have fD:b<H.length:=by rw[←hb];exact e7 _ hl
 rw[fQ] at hc ⊢;obtain⟨l,h1,h2,h3⟩:=h.chain c hc;have wx:i∉l:=fun hm=>by have:=((h3 i).1 hm).1;omega
 have gM:=h1.set ⟨x.t,x.r,H.getD b (-1)⟩ wx;have hold:∀n,n≠i→((N.set i ⟨x.t,x.r,H.getD b (-1)⟩)[n]?=N[n]?):=fun n hn=>dv (Ne.symm hn)
 by_cases e:c=b
 ·subst e;refine⟨i::l,⟨by rw[rM,if_pos ⟨rfl,fD⟩],_,dE eY,gM⟩,eQ.2 ⟨wx,h2⟩,fun n=>?_⟩;rw[bU];constructor
  ·rintro(rfl|hm)
   ·exact⟨by omega,_,dE eY,h0,hb⟩
   ·obtain⟨k0,y,k1,k2,k3⟩:=(h3 n).1 hm;exact⟨by omega,y,by rw[hold n ah];exact k1,k2,k3⟩
  ·rintro⟨k0,y,k1,k2,k3⟩
   by_cases hn:n=i
   ·exact .inl hn
   ·rw[hold n hn] at k1;exact .inr ((h3 n).2 ⟨by omega,y,k1,k2,k3⟩)
 ·refine⟨l,?_,h2,fun n=>?_⟩
  ·rw[rM,if_neg (fun h'=>e h'.1)];exact gM
  ·constructor
   ·intro hm;obtain⟨k0,y,k1,k2,k3⟩:=(h3 n).1 hm;exact⟨by omega,y,by rw[hold n ah];exact k1,k2,k3⟩
   ·rintro⟨k0,y,k1,k2,k3⟩
    by_cases hn:n=i
    ·subst hn;rw[dE eY] at k1;cases k1;exact absurd (k3.symm.trans hb) e
    ·rw[hold n hn] at k1;exact(h3 n).2 ⟨by omega,y,k1,k2,k3⟩⟩
structure Tn where
 b:Nat
 e:Bs
 n:Nat
 q:Option Nat×Nat
 ks:List (Bs×Nat)
abbrev pO:=Bs→Option Tn
def ew (g:pO)(s:Bs)(v:Option Tn):pO:=fun t=>if t=s then v else g t
theorem gF (g:pO)(s:Bs)(v:Option Tn):ew g s v s=v:=if_pos rfl
theorem dD {g:pO}{s t:Bs}{v:Option Tn}(h:t≠s):ew g s v t=g t:=if_neg h
def hd (l:Bs):Nat:=(l.headD 0).toNat
structure iG (g:pO):Prop where
 root:∃r,g []=some r∧r.e=[]
 ne:∀s x,g s=some x→∀e∈x.ks,e.1≠[]
 ord:∀s x,g s=some x→x.ks.Pairwise fun a b=>hd a.1<hd b.1
 jz:∀s x,g s=some x→∀e∈x.ks,∃y,g (s++e.1)=some y∧y.e=e.1∧y.b=e.2
 jP:∀s x t y,g s=some x→g t=some y→s <+: t→s≠t→∃e∈x.ks,s++e.1 <+: t
 len:∀s x,g s=some x→s.length≤250
 num:∀s x,g s=some x→x.n≤never
def bX (g:pO)(s:Bs):Nat:=match g s with|some x=>x.n|none=>0
theorem Ic {l:List (Bs×Nat)}(h:l.Pairwise fun a b=>hd a.1<hd b.1){a b:Bs×Nat}(ha:a∈l)(hb:b∈l)(e:hd a.1=hd b.1):a=b:=by
 induction l with
 |nil=>cases ha
 |cons x l ih=>
  have h1:=lN.1 h
  rcases bU.1 ha with a1|a1<;>rcases bU.1 hb with b1|b1
  ·rw[a1,b1]
  ·have:=h1.1 b b1;rw[←a1] at this;omega
  ·have:=h1.1 a a1;rw[←b1] at this;omega
  ·exact ih h1.2 a1 b1
theorem vc {s e:Bs}(h:e≠[]):([]:Bs)≠s++e:=fun a=>h (List.append_eq_nil_iff.1 a.symm).2
theorem zj {a b:Bs}(h:a≠[]):a++b≠[]:=fun e=>h (List.append_eq_nil_iff.1 e).1
theorem we {s a b t:Bs}(ha:s++a <+: t)(hb:s++b <+: t)(h1:a≠[])(h2:b≠[]):hd a=hd b:=by
 obtain⟨u,hu⟩:=ha;obtain⟨v,hv⟩:=hb;rw[←hv,cS,cS,List.append_cancel_left_eq] at hu;cases a with
 |nil=>exact absurd rfl h1
 |cons x a=>
  cases b with
  |nil=>exact absurd rfl h2
  |cons y b=>
   simp only[jK,List.cons.injEq] at hu;rw[hu.1];rfl
theorem JQ {a b t:Bs}(ha:a <+: t)(hb:b <+: t):a <+: b∨b <+: a:=List.prefix_or_prefix_of_prefix ha hb
theorem OQ {s e t:Bs}(h:s++e <+: t):s <+: t:=(oJ s e).trans h
theorem WJ {s a b:Bs}(h:s++a <+: s++b):a <+: b:=(List.prefix_append_right_inj s).1 h
section
variable {g:pO}(h:iG g)
include h
theorem iG.uniq {s:Bs}{x:Tn}(hx:g s=some x){e f:Bs×Nat}(he:e∈x.ks)(hf:f∈x.ks){t:Bs}(h1:s++e.1 <+: t)(h2:s++f.1 <+: t):e=f:=
 Ic (h.ord s x hx) he hf (we h1 h2 (h.ne s x hx e he) (h.ne s x hx f hf))
theorem iG.par {s s':Bs}{x x':Tn}(hx:g s=some x)(ke:g s'=some x'){e e':Bs×Nat}(he:e∈x.ks)(zK:e'∈x'.ks)(ht:s++e.1=s'++e'.1):s=s':=by
 have key:∀{s s':Bs}{x x':Tn},g s=some x→g s'=some x'→∀{e e':Bs×Nat},e∈x.ks→e'∈x'.ks→s++e.1=s'++e'.1→s <+: s'→s=s':=by
  intro s s' x x' hx ke e e' he zK ht hp
  by_cases hn:s=s'
  ·exact hn
  ·obtain⟨f,hf,h1⟩:=h.jP s x s' x' hx ke hp hn;have h2:s++f.1 <+: s'++e'.1:=h1.trans (oJ _ _);have:=h.uniq hx he hf (t:=s'++e'.1) (by rw[←ht];exact lg) h2;subst this;rw[ht] at h1;have:=h1.length_le;have aP:=h.ne s' x' ke e' zK;rw[bH] at this;have:e'.1.length=0:=by omega
   exact absurd (AW.1 this) aP
 have h1:s <+: s++e.1:=oJ _ _;have h2:s' <+: s++e.1:=by rw[ht];exact oJ _ _
 rcases JQ h1 h2 with hp|hp
 ·exact key hx ke he zK ht hp
 ·exact(key ke hx zK he ht.symm hp).symm
theorem iG.O7 {s:Bs}{x:Tn}(hx:g s=some x){n:Nat}(hn:n≤never):iG (ew g s (some { x with n:=n})):=by
 have hk:∀t y,ew g s (some { x with n:=n}) t=some y→∃z,g t=some z∧z.ks=y.ks∧z.e=y.e∧z.b=y.b∧(y.n=z.n∨y.n=n):=fun t y hy=>by
  by_cases e:t=s
  ·subst e;rw[gF] at hy;cases hy;exact⟨x,hx,rfl,rfl,rfl, .inr rfl⟩
  ·rw[dD e] at hy;exact⟨y,hy,rfl,rfl,rfl, .inl rfl⟩
 have je:∀t z,g t=some z→∃y,ew g s (some { x with n:=n}) t=some y∧y.ks=z.ks∧y.e=z.e∧y.b=z.b:=fun t z hz=>by
  by_cases e:t=s
  ·subst e;rw[hx] at hz;cases hz;exact⟨_,gF _ _ _,rfl,rfl,rfl⟩
  ·exact⟨z,by rw[dD e];exact hz,rfl,rfl,rfl⟩
 refine⟨?_,fun t y hy e he=>?_,fun t y hy=>?_,fun t y hy e he=>?_,fun t y u v hy hv hp hn=>?_,fun t y hy=>?_,fun t y hy=>?_⟩
 ·obtain⟨r,h1,h2⟩:=h.root;obtain⟨y,q1,_,q2,_⟩:=je _ _ h1;exact⟨y,q1,q2.trans h2⟩
 ·obtain⟨z,h1,h2,_⟩:=hk t y hy;exact h.ne t z h1 e (h2▸he)
 ·obtain⟨z,h1,h2,_⟩:=hk t y hy;rw[←h2];exact h.ord t z h1
 ·obtain⟨z,h1,h2,_⟩:=hk t y hy;obtain⟨w,k1,k2,k3⟩:=h.jz t z h1 e (h2▸he);obtain⟨y',q1,_,q3,q4⟩:=je _ _ k1;exact⟨y',q1,q3.trans k2,q4.trans k3⟩
 ·obtain⟨z,h1,h2,_⟩:=hk t y hy;obtain⟨w,k1,_⟩:=hk u v hv;rw[←h2];exact h.jP t z u w h1 k1 hp hn
 ·obtain⟨z,h1,_⟩:=hk t y hy;exact h.len t z h1
 ·obtain⟨z,h1,_,_,_,h2⟩:=hk t y hy
  rcases h2 with h2|h2
  ·rw[h2];exact h.num t z h1
  ·rw[h2];exact hn
omit h in
theorem ab8 {s:Bs}{x:Tn}{n:Nat}(t:Bs):bX (ew g s (some { x with n:=n})) t=if t=s then n else bX g t:=by
 unfold bX
 by_cases e:t=s
 ·subst e;rw[gF,if_pos rfl]
 ·rw[dD e,if_neg e]
theorem iG.leaf {s:Bs}{x:Tn}(hx:g s=some x){p:Bs}(hp:p≠[])(hl:(s++p).length≤250){i:Nat}(h1:∀e∈x.ks.take i,hd e.1<hd p)(h2:∀e∈x.ks.drop i,hd p<hd e.1){bn n:Nat}(hn:n≤never){q q':Option Nat×Nat} :
  g (s++p)=none∧iG (ew (ew g s (some { x with ks:=x.ks.take i++(p,bn)::x.ks.drop i,q:=q})) (s++p) (some ⟨bn,p,n,q',[]⟩)):=by
 have bz:∀e∈x.ks,hd e.1≠hd p:=fun e he=>by
  rw[←jW i x.ks] at he
  rcases cx.1 he with he|he
  ·have:=h1 e he;omega
  ·have:=h2 e he;omega
 have fW:s≠s++p:=fun e=>hp (by simpa using e)
 have EP:g (s++p)=none:=by
  cases hg:g (s++p) with
  |none=>rfl
  |some y=>
   obtain⟨e,he,h3⟩:=h.jP s x _ y hx hg (oJ _ _) fW;exact absurd (we h3 lg (h.ne s x hx e he) hp) (bz e he)
 refine⟨EP,?_⟩;generalize hG:ew (ew g s (some { x with ks:=x.ks.take i++(p,bn)::x.ks.drop i,q:=q})) (s++p) (some ⟨bn,p,n,q',[]⟩)=G;have G1:G (s++p)=some ⟨bn,p,n,q',[]⟩:=by rw[←hG,gF]
 have G2:G s=some { x with ks:=x.ks.take i++(p,bn)::x.ks.drop i,q:=q}:=by rw[←hG,dD fW,gF]
 have G3:∀t,t≠s→t≠s++p→G t=g t:=fun t a b=>by rw[←hG,dD b,dD a]
 have dN:∀e,e∈x.ks.take i++(p,bn)::x.ks.drop i↔e=(p,bn)∨e∈x.ks:=fun e=>by
  have:e∈x.ks↔e∈x.ks.take i∨e∈x.ks.drop i:=by rw[←cx,jW]
  rw[cx,bU,this];constructor
  ·rintro(a|a|a)<;>simp[a]
  ·rintro(a|a|a)<;>simp[a]
 have tx:∀t y,G t=some y→(t=s++p∧y=⟨bn,p,n,q',[]⟩)∨(t=s∧y={ x with ks:=x.ks.take i++(p,bn)::x.ks.drop i,q:=q})∨(t≠s∧t≠s++p∧g t=some y):=fun t y hy=>by
  by_cases a:t=s++p
  ·subst a;rw[G1] at hy;cases hy;exact .inl ⟨rfl,rfl⟩
  ·by_cases b:t=s
   ·subst b;rw[G2] at hy;cases hy;exact .inr (.inl ⟨rfl,rfl⟩)
   ·rw[G3 t b a] at hy;exact .inr (.inr ⟨b,a,hy⟩)
 have hold:∀t y,g t=some y→∃y',G t=some y'∧y'.e=y.e∧y'.b=y.b:=fun t y hy=>by
  by_cases a:t=s++p
  ·subst a;rw[EP] at hy;cases hy
  ·by_cases b:t=s
   ·subst b;rw[hx] at hy;cases hy;exact⟨_,G2,rfl,rfl⟩
   ·exact⟨y,by rw[G3 t b a];exact hy,rfl,rfl⟩
 refine⟨?_,fun t y hy e he=>?_,fun t y hy=>?_,fun t y hy e he=>?_,fun t y u v hy hv cK aP=>?_,fun t y hy=>?_,fun t y hy=>?_⟩
 ·obtain⟨r,a,b⟩:=h.root;obtain⟨y',c,d,_⟩:=hold _ _ a;exact⟨y',c,d.trans b⟩
 ·rcases tx t y hy with⟨rfl,rfl⟩|⟨rfl,rfl⟩|⟨_,_,hy⟩
  ·cases he
  ·rcases(dN e).1 he with rfl|he
   ·exact hp
   ·exact h.ne _ _ hx e he
  ·exact h.ne _ _ hy e he
 ·rcases tx t y hy with⟨rfl,rfl⟩|⟨rfl,rfl⟩|⟨_,_,hy⟩
  ·exact List.Pairwise.nil
  ·have ho:=h.ord _ _ hx;rw[←jW i x.ks,xx] at ho;refine xx.2 ⟨ho.1,lN.2 ⟨h2,ho.2.1⟩,fun a ha b hb=>?_⟩
   rcases bU.1 hb with rfl|hb
   ·exact h1 a ha
   ·exact ho.2.2 a ha b hb
  ·exact h.ord _ _ hy
 ·rcases tx t y hy with⟨rfl,rfl⟩|⟨rfl,rfl⟩|⟨_,_,hy⟩
  ·cases he
  ·rcases(dN e).1 he with rfl|he
   ·exact⟨_,G1,rfl,rfl⟩
   ·obtain⟨z,a,b,c⟩:=h.jz _ _ hx e he;obtain⟨y',d,k1,k2⟩:=hold _ _ a;exact⟨y',d,k1.trans b,k2.trans c⟩
  ·obtain⟨z,a,b,c⟩:=h.jz _ _ hy e he;obtain⟨y',d,k1,k2⟩:=hold _ _ a;exact⟨y',d,k1.trans b,k2.trans c⟩
 ·have BP:∀z,g u=some z→s <+: u→s≠u→¬s++p <+: u:=fun z hz a b c=>by
   obtain⟨e,he,k⟩:=h.jP s x u z hx hz a b;exact absurd (we k c (h.ne _ _ hx e he) hp) (bz e he)
  rcases tx t y hy with⟨rfl,rfl⟩|⟨rfl,rfl⟩|⟨a1,a2,mL⟩
  ·rcases tx u v hv with⟨rfl,rfl⟩|⟨rfl,rfl⟩|⟨_,_,Ai⟩
   ·exact absurd rfl aP
   ·have:=cK.length_le;rw[bH] at this;exact absurd (AW.1 ah) hp
   ·exact absurd cK (BP v Ai (OQ cK) fun e=>by
     subst e;have:=cK.length_le;rw[bH] at this;exact absurd (AW.1 ah) hp)
  ·rcases tx u v hv with⟨rfl,rfl⟩|⟨rfl,rfl⟩|⟨_,_,Ai⟩
   ·exact⟨(p,bn),(dN _).2 (.inl rfl),lg⟩
   ·exact absurd rfl aP
   ·obtain⟨e,he,k⟩:=h.jP _ _ _ _ hx Ai cK aP;exact⟨e,(dN _).2 (.inr he),k⟩
  ·rcases tx u v hv with⟨rfl,rfl⟩|⟨rfl,rfl⟩|⟨_,_,Ai⟩
   ·rcases JQ cK (oJ s p) with k|k
    ·obtain⟨e,he,k2⟩:=h.jP t y s x mL hx k a1;exact⟨e,he,k2.trans (oJ _ _)⟩
    ·obtain⟨e,he,k2⟩:=h.jP s x t y hx mL k (Ne.symm a1);exact absurd (we (k2.trans cK) lg (h.ne _ _ hx e he) hp) (bz e he)
   ·exact h.jP t y _ x mL hx cK aP
   ·exact h.jP t y u v mL Ai cK aP
 ·rcases tx t y hy with⟨rfl,rfl⟩|⟨rfl,rfl⟩|⟨_,_,hy⟩
  ·exact hl
  ·exact h.len _ _ hx
  ·exact h.len _ _ hy
 ·rcases tx t y hy with⟨rfl,rfl⟩|⟨rfl,rfl⟩|⟨_,_,hy⟩
  ·exact hn
  ·exact(h.num _ _ hx :)
  ·exact h.num _ _ hy
end
section
variable {g:pO}(h:iG g)
include h
theorem iG.Ww {s:Bs}{x:Tn}(hx:g s=some x){i:Nat}{e f:Bs×Nat}(he:x.ks[i]?=some e)(hf:hd f.1=hd e.1):(x.ks.set i f).Pairwise fun a b=>hd a.1<hd b.1:=by
 have ho:=h.ord s x hx;rw[sP] at ho ⊢;have hi:=(aV.1 he)
 intro a b ha hb fg;rw[fQ] at ha hb;rw[List.getElem_set,List.getElem_set];split<;>split
 ·omega
 ·rename_i h1 _;subst h1;rw[hf,←hi.2];exact ho _ b _ _ fg
 ·rename_i _ h2;subst h2;rw[hf,←hi.2];exact ho a _ _ _ fg
 ·exact ho a b _ _ fg
omit h in
theorem V2 {α:Type}{l:List α}{i:Nat}{e f z:α}(he:l[i]?=some e)(hu:∀j,j≠i→l[j]?≠some e):z∈l.set i f↔z=f∨(z∈l∧z≠e):=by
 have eY:=(aV.1 he).1;constructor
 ·intro hz;obtain⟨j,hj⟩:=ey hz
  by_cases a:j=i
  ·subst a;rw[dE eY] at hj;cases hj;exact .inl rfl
  ·rw[dv (Ne.symm a)] at hj;exact .inr ⟨bD hj,fun e'=>hu j a (e'▸hj)⟩
 ·rintro(rfl|⟨hz,hn⟩)
  ·exact bD (dE eY)
  ·obtain⟨j,hj⟩:=ey hz;have a:j≠i:=fun a=>by subst a;rw[he] at hj;cases hj;exact hn rfl
   exact bD (i:=j) (by rw[dv (Ne.symm a)];exact hj)
theorem iG.one {s:Bs}{x:Tn}(hx:g s=some x){i:Nat}{e:Bs×Nat}(he:x.ks[i]?=some e):∀j,j≠i→x.ks[j]?≠some e:=fun j hj BJ=>by
 have ho:=h.ord s x hx;rw[sP] at ho;obtain⟨a1,a2⟩:=aV.1 he;obtain⟨b1,b2⟩:=aV.1 BJ
 rcases Nat.lt_or_gt_of_ne hj with k|k
 ·have:=ho j i b1 a1 k;rw[a2,b2] at this;omega
 ·have:=ho i j a1 b1 k;rw[a2,b2] at this;omega
theorem iG.split {s:Bs}{x:Tn}(hx:g s=some x){i:Nat}{e1 e2:Bs}{aT:Nat}(he:x.ks[i]?=some (e1++e2,aT))(h1:e1≠[])(h2:e2≠[]){y:Tn}(hy:g (s++(e1++e2))=some y){bm:Nat}{q q':Option Nat×Nat} :
  g (s++e1)=none∧iG (ew (ew (ew g s (some { x with ks:=x.ks.set i (e1,bm),q:=q})) (s++e1) (some ⟨bm,e1,0,q',[(e2,y.b)]⟩)) (s++(e1++e2)) (some { y with e:=e2})):=by
 have BQ:=bD he;have mJ:s≠s++e1:=fun e=>h1 (by simpa using e)
 have oq:s≠s++(e1++e2):=fun e=>h1 (by
  have:e1++e2=[]:=by simpa using e
  exact(List.append_eq_nil_iff.1 this).1)
 have uu:s++e1≠s++(e1++e2):=fun e=>h2 (by
  have:=List.append_cancel_left e;simpa using this)
 have EP:g (s++e1)=none:=by
  cases hg:g (s++e1) with
  |none=>rfl
  |some z=>
   obtain⟨f,hf,h3⟩:=h.jP s x _ z hx hg (oJ _ _) mJ;have h4:s++f.1 <+: s++(e1++e2):=h3.trans (by rw[←cS];exact oJ _ _);have:=h.uniq hx hf BQ h4 lg;subst this;have h5:=h3.length_le;simp only[bH] at h5;have:e2.length=0:=by omega
   exact absurd (AW.1 this) h2
 refine⟨EP,?_⟩;obtain⟨y0,Jb,fF,eT⟩:=h.jz s x hx _ BQ;rw[hy] at Jb;cases Jb;generalize hG:ew (ew (ew g s (some { x with ks:=x.ks.set i (e1,bm),q:=q})) (s++e1) (some ⟨bm,e1,0,q',[(e2,y.b)]⟩)) (s++(e1++e2)) (some { y with e:=e2})=G;have G1:G (s++(e1++e2))=some { y with e:=e2}:=by rw[←hG,gF]
 have G2:G (s++e1)=some ⟨bm,e1,0,q',[(e2,y.b)]⟩:=by rw[←hG,dD uu,gF]
 have G3:G s=some { x with ks:=x.ks.set i (e1,bm),q:=q}:=by rw[←hG,dD oq,dD mJ,gF]
 have G4:∀t,t≠s→t≠s++e1→t≠s++(e1++e2)→G t=g t:=fun t a b c=>by rw[←hG,dD c,dD b,dD a]
 have dN:∀f,f∈x.ks.set i (e1,bm)↔f=(e1,bm)∨(f∈x.ks∧f≠(e1++e2,aT)):=fun f=>V2 he (h.one hx he)
 have tx:∀t z,G t=some z→(t=s++(e1++e2)∧z={ y with e:=e2})∨(t=s++e1∧z=⟨bm,e1,0,q',[(e2,y.b)]⟩)∨(t=s∧z={ x with ks:=x.ks.set i (e1,bm),q:=q})∨(t≠s∧t≠s++e1∧t≠s++(e1++e2)∧g t=some z):=fun t z hz=>by
  by_cases c:t=s++(e1++e2)
  ·subst c;rw[G1] at hz;cases hz;exact .inl ⟨rfl,rfl⟩
  ·by_cases b:t=s++e1
   ·subst b;rw[G2] at hz;cases hz;exact .inr (.inl ⟨rfl,rfl⟩)
   ·by_cases a:t=s
    ·subst a;rw[G3] at hz;cases hz;exact .inr (.inr (.inl ⟨rfl,rfl⟩))
    ·rw[G4 t a b c] at hz;exact .inr (.inr (.inr ⟨a,b,c,hz⟩))
 have hold:∀t z,g t=some z→∃z',G t=some z'∧z'.b=z.b∧(t≠s++(e1++e2)→z'.e=z.e):=fun t z hz=>by
  by_cases c:t=s++(e1++e2)
  ·subst c;rw[hy] at hz;cases hz;exact⟨_,G1,rfl,fun c=>absurd rfl c⟩
  ·by_cases b:t=s++e1
   ·subst b;rw[EP] at hz;cases hz
   ·by_cases a:t=s
    ·subst a;rw[hx] at hz;cases hz;exact⟨_,G3,rfl,fun _=>rfl⟩
    ·exact⟨z,by rw[G4 t a b c];exact hz,rfl,fun _=>rfl⟩
 -- al8 is sD at a place of yW new ahy
 have fy:∀t z,G t=some z→t≠s++e1→∃z0,g t=some z0∧(t≠s→z.ks=z0.ks)∧z.n=z0.n:=fun t z hz hb=>by
  rcases tx t z hz with⟨rfl,rfl⟩|⟨rfl,rfl⟩|⟨rfl,rfl⟩|⟨_,_,_,hz⟩
  ·exact⟨y,hy,fun _=>rfl,rfl⟩
  ·exact absurd rfl hb
  ·exact⟨x,hx,fun e=>absurd rfl e,rfl⟩
  ·exact⟨z,hz,fun _=>rfl,rfl⟩
 have Td:s++e1 <+: s++(e1++e2):=by rw[←cS];exact oJ _ _
 refine⟨?_,fun t z hz f hf=>?_,fun t z hz=>?_,fun t z hz f hf=>?_,fun t z u v hz hv cK aP=>?_,fun t z hz=>?_,fun t z hz=>?_⟩
 ·obtain⟨r,a,b⟩:=h.root;obtain⟨r',c,_,d⟩:=hold _ _ a;exact⟨r',c,(d (vc (zj h1))).trans b⟩
 ·by_cases b:t=s++e1
  ·subst b;rw[G2] at hz;cases hz;simp at hf;subst hf;exact h2
  ·by_cases a:t=s
   ·subst a;rw[G3] at hz;cases hz
    rcases(dN f).1 hf with rfl|⟨hf,_⟩
    ·exact h1
    ·exact h.ne _ _ hx f hf
   ·obtain⟨z0,k1,k2,_⟩:=fy t z hz b;exact h.ne _ _ k1 f (k2 a▸hf)
 ·by_cases b:t=s++e1
  ·subst b;rw[G2] at hz;cases hz;exact List.pairwise_singleton _ _
  ·by_cases a:t=s
   ·subst a;rw[G3] at hz;cases hz;exact h.Ww hx he (by cases e1 with|nil=>exact absurd rfl h1|cons c e1=>rfl)
   ·obtain⟨z0,k1,k2,_⟩:=fy t z hz b;rw[k2 a];exact h.ord _ _ k1
 ·by_cases b:t=s++e1
  ·subst b;rw[G2] at hz;cases hz;simp at hf;subst hf;exact⟨{ y with e:=e2},by rw[cS];exact G1,rfl,rfl⟩
  ·by_cases a:t=s
   ·subst a;rw[G3] at hz;cases hz
    rcases(dN f).1 hf with rfl|⟨hf,rS⟩
    ·exact⟨_,G2,rfl,rfl⟩
    ·obtain⟨w,k1,k2,k3⟩:=h.jz _ _ hx f hf;obtain⟨w',q1,q2,q3⟩:=hold _ _ k1;refine⟨w',q1,(q3 fun e=>rS ?_).trans k2,q2.trans k3⟩;exact h.uniq hx hf BQ (by rw[e];exact lg) lg
   ·obtain⟨z0,k1,k2,_⟩:=fy t z hz b;obtain⟨w,r1,r2,r3⟩:=h.jz _ _ k1 f (k2 a▸hf);obtain⟨w',q1,q2,q3⟩:=hold _ _ r1;exact⟨w',q1,(q3 fun e=>a (h.par k1 hx (k2 a▸hf) BQ e)).trans r2,q2.trans r3⟩
 ·-- from al8 is below s by a way anf amh as e1
  have jd:∀w,g u=some w→s++e1 <+: u→s++(e1++e2) <+: u:=fun w hw hp=>by
   obtain⟨f,hf,k⟩:=h.jP s x u w hx hw (OQ hp) fun e=>by
    subst e;have:=hp.length_le;rw[bH] at this;exact h1 (AW.1 ah)
   have e:hd f.1=hd (e1++e2):=(we k hp (h.ne _ _ hx f hf) h1).trans (by cases e1 with|nil=>exact absurd rfl h1|cons c e1=>rfl);have:=Ic (h.ord _ _ hx) hf BQ e;subst this;exact k
  by_cases bu:u=s++e1
  ·subst bu
   by_cases a:t=s
   ·subst a;rw[G3] at hz;cases hz;exact⟨(e1,bm),(dN _).2 (.inl rfl),lg⟩
   ·have b:t≠s++e1:=aP;obtain⟨z0,k1,k2,_⟩:=fy t z hz b;rw[k2 a]
    rcases JQ cK (oJ s e1) with k|k
    ·obtain⟨f,hf,k3⟩:=h.jP t z0 s x k1 hx k a;exact⟨f,hf,k3.trans (oJ _ _)⟩
    ·obtain⟨f,hf,k3⟩:=h.jP s x t z0 hx k1 k (Ne.symm a);have:=h.uniq hx hf BQ (k3.trans (cK.trans Td)) lg;subst this;have:=(k3.trans cK).length_le;simp only[bH] at this;exact absurd (AW.1 ah) h2
  ·obtain⟨v0,kT,_⟩:=fy u v hv bu
   by_cases b:t=s++e1
   ·subst b;rw[G2] at hz;cases hz;refine⟨(e2,y.b),by simp,?_⟩;rw[cS];exact jd v0 kT cK
   ·by_cases a:t=s
    ·subst a;rw[G3] at hz;cases hz;obtain⟨f,hf,k⟩:=h.jP _ _ _ _ hx kT cK aP
     by_cases nY:f=(e1++e2,aT)
     ·subst nY;exact⟨(e1,bm),(dN _).2 (.inl rfl),Td.trans k⟩
     ·exact⟨f,(dN _).2 (.inr ⟨hf,nY⟩),k⟩
    ·obtain⟨z0,k1,k2,_⟩:=fy t z hz b;rw[k2 a];exact h.jP _ _ _ _ k1 kT cK aP
 ·by_cases b:t=s++e1
  ·subst b;have:=h.len _ _ hy;simp only[bH] at this ⊢;omega
  ·obtain⟨z0,k1,_⟩:=fy t z hz b;exact h.len _ _ k1
 ·by_cases b:t=s++e1
  ·subst b;rw[G2] at hz;cases hz;exact bh _
  ·obtain⟨z0,k1,_,k2⟩:=fy t z hz b;rw[k2];exact h.num _ _ k1
omit h in
theorem ab9 {s:Bs}{x y:Tn}{e1 e2:Bs}{ks:List (Bs×Nat)}{bm:Nat}{q q':Option Nat×Nat}{kk:List (Bs×Nat)}(hx:g s=some x)(hn:g (s++e1)=none)(hy:g (s++(e1++e2))=some y)(t:Bs):bX (ew (ew (ew g s (some { x with ks:=ks,q:=q})) (s++e1) (some ⟨bm,e1,0,q',kk⟩)) (s++(e1++e2)) (some { y with e:=e2})) t=bX g t:=by
 unfold bX
 by_cases c:t=s++(e1++e2)
 ·subst c;rw[gF,hy]
 ·rw[dD c]
  by_cases b:t=s++e1
  ·subst b;rw[gF,hn]
  ·rw[dD b]
   by_cases a:t=s
   ·subst a;rw[gF,hx]
   ·rw[dD a]
end
end Go.Proofs.YtoloaehmppcjoaaGreat.V.M
