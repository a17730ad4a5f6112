/-
  Parts of the proof. No condition.
-/
import Derived.Test.YtmlpbmgfmnmmmaaGreatW2ba
set_option linter.unusedVariables false
set_option linter.unusedSimpArgs false
set_option maxRecDepth 8000
set_option maxHeartbeats 8000000
namespace Go.Proofs.YtmlpbmgfmnmmmaaGreat.V.M
def lQ:Nm:=⟨[],0,0⟩
theorem gJ.rem {aJ:Nat}{H H':List Int}{N N':List Nm}(h:gJ aJ H N){n:Nat}(hH:H'.length=H.length)(hN:N'.length=N.length)(h0:N'[n]?=some lQ)(hs:∀m,m≠n→(N'[m]?).map (fun y=>(y.t,y.r))=(N[m]?).map (fun y=>(y.t,y.r)))
  (hc:∀c,c<H.length→∀l,fy N (H.getD c (-1)) l→l.Nodup→(∀n,n∈l↔∃x,N[n]?=some x∧0<x.r∧bN aJ x.t % H.length=c)→∃l',fy N' (H'.getD c (-1)) l'∧l'.Nodup∧∀m,m∈l'↔m≠n∧m∈l):gJ aJ H' N':=by
 have iZ:∀(m:Nat) (y:Nm),N'[m]?=some y→0<y.r→m≠n∧∃z,N[m]?=some z∧z.t=y.t∧z.r=y.r:=fun m y hy hr=>by
  have hm:m≠n:=fun e=>by subst e;rw[h0] at hy;cases hy;exact absurd hr (by decide)
  have:=hs m hm;rw[hy] at this;cases hz:N[m]? with
  |none=>rw[hz] at this;cases this
  |some z=>
   rw[hz] at this;simp only[jr,mD,mB] at this;exact⟨hm,z,rfl,this.1.symm,this.2.symm⟩
 have Mr:∀(m:Nat) (z:Nm),N[m]?=some z→m≠n→∃y,N'[m]?=some y∧z.t=y.t∧z.r=y.r:=fun m z hz hm=>by
  have:=hs m hm;rw[hz] at this;cases hy:N'[m]? with
  |none=>rw[hy] at this;cases this
  |some y=>
   rw[hy] at this;simp only[jr,mD,mB] at this;exact⟨y,rfl,this.1.symm,this.2.symm⟩
 have ea:∀y∈N',y.r=0∨∃z∈N,z.t=y.t∧z.r=y.r:=fun y hy=>by
  obtain⟨m,hm⟩:=ej hy
  by_cases hr:0<y.r
  ·obtain⟨_,z,hz,h1⟩:=iZ m y hm hr;exact .inr ⟨z,bF hz,h1⟩
  ·exact .inl ah
 refine⟨by rw[hH];exact h.size,by rw[hN];exact h.list,fun c gC=>?_,fun m k y z hy hz r1 r2 e=>?_,fun y hy hr=>?_,fun y hy=>?_⟩
 ·rw[hH] at gC ⊢;obtain⟨l,h1,h2,h3⟩:=h.chain c gC;obtain⟨l',k1,k2,k3⟩:=hc c gC l h1 h2 h3;refine⟨l',k1,k2,fun m=>?_⟩;rw[k3,h3];constructor
  ·rintro⟨hm,z,q1,q2,q3⟩;obtain⟨y,p1,p2,p3⟩:=Mr m z q1 hm;exact⟨y,p1,by omega,by rw[←p2];exact q3⟩
  ·rintro⟨y,q1,q2,q3⟩;obtain⟨hm,z,p1,p2,p3⟩:=iZ m y q1 q2;exact⟨hm,z,p1,by omega,by rw[p2];exact q3⟩
 ·obtain⟨_,y',q1,q2,q3⟩:=iZ m y hy r1;obtain⟨_,z',p1,p2,p3⟩:=iZ k z hz r2;exact h.uniq m k y' z' q1 p1 ah ah (q2.trans (e.trans p2.symm))
 ·rcases ea y hy with h'|⟨z,h1,h2,h3⟩
  ·omega
  ·rw[←h2];exact h.tag z h1 ah
 ·rcases ea y hy with h'|⟨z,h1,h2,h3⟩
  ·omega
  ·rw[←h3];exact h.refs z h1
theorem fy.Bn {N:List Nm}:∀{l m:List Nat}{h:Int},fy N h l→fy N h m→l=m
 | [],[],_,_,_=>rfl
 | [],_::_,_,h1,h2=>by
   have e1:_=(-1:Int):=h1;have e2:=h2.1;omega
 |_::_,[],_,h1,h2=>by
  have e1:_=(-1:Int):=h2;have e2:=h1.1;omega
 |n::l,m::k,_,⟨e1,x,hx,h1⟩,⟨e2,y,hy,h2⟩=>by
  obtain rfl:n=m:=by omega
  rw[hx] at hy;cases hy;rw[h1.Bn h2]
theorem gJ.aaS {aJ:Nat}{H:List Int}{N:List Nm}(h:gJ aJ H N){n:Nat}{x:Nm}(hx:N[n]?=some x)(hr:0<x.r){b:Nat}(hb:bN aJ x.t % H.length=b){s:List Nat}(hc:fy N (H.getD b (-1)) (n::s))(bX:(n::s).Nodup) :
  gJ aJ (H.set b x.nx) (N.set n lQ):=by
 have hnl:=(aV.1 hx).1;have fq:b<H.length:=by rw[←hb];exact fm _ (by have:=h.size;omega)
 have hc':=hc;obtain⟨_,y,hy,h2⟩:=hc;rw[hx] at hy;cases hy;have z6:=(eI.1 bX).1;refine h.rem (n:=n) (by simp) (by simp) (dJ hnl) (fun m hm=>by rw[dH (Ne.symm hm)]) fun c gC l k1 k2 k3=>?_
 by_cases e:c=b
 ·subst e;obtain rfl:=k1.Bn hc';refine⟨s,?_,(eI.1 bX).2,fun k=>?_⟩
  ·rw[rv,if_pos ⟨rfl,fq⟩];exact h2.set _ z6
  ·rw[bY];constructor
   ·intro hk;exact⟨fun e=>z6 (e▸hk), .inr hk⟩
   ·rintro⟨hk,h'|h'⟩
    ·exact absurd h' hk
    ·exact h'
 ·have hnl:n∉l:=fun hm=>by
   obtain⟨z,q1,q2,q3⟩:=(k3 n).1 hm;rw[hx] at q1;cases q1;exact e (q3.symm.trans hb)
  refine⟨l,?_,k2,fun m=>⟨fun hm=>⟨fun e=>hnl (e▸hm),hm⟩,fun hm=>hm.2⟩⟩;rw[rv,if_neg (fun h'=>e h'.1)];exact k1.set _ hnl
theorem gJ.aaT {aJ:Nat}{H:List Int}{N:List Nm}(h:gJ aJ H N){n m:Nat}{x y:Nm}(hx:N[n]?=some x)(hy:N[m]?=some y)(hr:0<x.r){b:Nat}(hb:bN aJ x.t % H.length=b){p s:List Nat}(hc:fy N (H.getD b (-1)) ((p++[m])++n::s))(bX:((p++[m])++n::s).Nodup) :
  gJ aJ H ((N.set m ⟨y.t,y.r,x.nx⟩).set n lQ):=by
 have hnl:=(aV.1 hx).1;have BT:=(aV.1 hy).1;have fq:b<H.length:=by rw[←hb];exact fm _ (by have:=h.size;omega)
 have HW:=hc.cut bX hx;rw[List.getLast?_concat] at HW;obtain⟨z,hz,_,HW⟩:=HW;rw[hy] at hz;cases hz;have mX:m≠n:=fun e=>by
  subst e;rw[gu] at bX;exact bX.2.2 m (by simp) m (by simp) rfl
 refine h.rem (n:=n) rfl (by simp) (by rw[dJ (by simpa using hnl)]) (fun k hk=>?_) fun c gC l k1 k2 k3=>?_
 ·rw[dH (Ne.symm hk)]
  by_cases e:k=m
  ·subst e;rw[dJ BT,hy];rfl
  ·rw[dH (Ne.symm e)]
 by_cases e:c=b
 ·subst e;obtain rfl:=k1.Bn hc;refine⟨(p++[m])++s,HW lQ,bX.sublist (List.Sublist.append_left (List.sublist_cons_self _ _) _),fun k=>?_⟩;rw[gu] at bX;have h1:=(eI.1 bX.2.1).1;have h2:n∉p++[m]:=fun hm=>bX.2.2 n hm n (by simp) rfl
  rw[cJ (s:=p++[m]) (t:=s),cJ (s:=p++[m]) (t:=n::s),bY];constructor
  ·rintro(hk|hk)
   ·exact⟨fun e=>h2 (e▸hk), .inl hk⟩
   ·exact⟨fun e=>h1 (e▸hk), .inr (.inr hk)⟩
  ·rintro⟨hk,h'|h'|h'⟩
   ·exact .inl h'
   ·exact absurd h' hk
   ·exact .inr h'
 ·have bG:∀k∈(p++[m])++n::s,k∉l:=fun k hk cQ=>by
   obtain⟨l2,j1,j2,j3⟩:=h.chain b fq;obtain rfl:=j1.Bn hc;obtain⟨z,q1,q2,q3⟩:=(k3 k).1 cQ;obtain⟨z',r1,r2,r3⟩:=(j3 k).1 hk;rw[q1] at r1;cases r1;exact e (q3.symm.trans r3)
  have oP:=bG n (by simp);have i':=bG m (by simp);exact⟨l,(k1.set _ i').set _ oP,k2,fun k=>⟨fun hk=>⟨fun e=>oP (e▸hk),hk⟩,fun hk=>hk.2⟩⟩
theorem J2:∀{l m:List Nat},l.Pairwise (· < ·)→m.Pairwise (· < ·)→(∀x,x∈l↔x∈m)→l=m
 | [],[],_,_,_=>rfl
 | [],y::m,_,_,h=>absurd ((h y).2 (by simp)) (by simp)
 |x::l,[],_,_,h=>absurd ((h x).1 (by simp)) (by simp)
 |x::l,y::m,hl,hm,h=>by
  have h1:=lB.1 hl;have h2:=lB.1 hm;have e:x=y:=by
   rcases bY.1 ((h x).1 (by simp)) with e|hx
   ·exact e
   ·rcases bY.1 ((h y).2 (by simp)) with e|hy
    ·exact e.symm
    ·have a:=h1.1 y hy;have b:=h2.1 x hx;omega
  subst e;rw[J2 h1.2 h2.2 fun z=>?_];constructor
  ·intro hz;have a:=h1.1 z hz
   rcases bY.1 ((h z).1 (fR _ hz)) with e|lN
   ·omega
   ·exact lN
  ·intro hz;have a:=h2.1 z hz
   rcases bY.1 ((h z).2 (fR _ hz)) with e|lN
   ·omega
   ·exact lN
def cx (N:fU):List Nat:=(List.range N.length).filter fun n=>decide ((N.getD n ([],1)).2=0)
theorem oV {N:fU}{n:Nat}:n∈cx N↔∃x,N[n]?=some x∧x.2=0:=by
 unfold cx;rw[ib,tE,mE];constructor
 ·rintro⟨h1,h2⟩;refine⟨N[n],bO h1,?_⟩;rwa [fT,bO h1] at h2
 ·rintro⟨x,h1,h2⟩;refine⟨(aV.1 h1).1,?_⟩;rw[fT,h1];exact h2
theorem zx (N:fU):(cx N).Pairwise (· < ·):=(List.pairwise_lt_range).filter _
theorem abP {N:fU}{n:Nat}{F:List Nat}{y:Bs×Nat}(h:cx N=n::F)(hy:0<y.2):cx (N.set n y)=F:=by
 have hs:=zx N;rw[h] at hs;have h1:=lB.1 hs;refine J2 (zx _) h1.2 fun m=>?_
 have hm:=oV (N:=N) (n:=m);rw[h,bY] at hm;have hnl:n<N.length:=by
  obtain⟨x,hx,_⟩:=(oV (N:=N) (n:=n)).1 (by rw[h];simp);exact(aV.1 hx).1
 rw[oV]
 by_cases e:m=n
 ·subst e;rw[dJ hnl];constructor
  ·rintro⟨x,hx,h0⟩;cases hx;omega
  ·intro i';have:=h1.1 m i';omega
 ·rw[dH (Ne.symm e),←hm];simp[e]
theorem abO {N:fU}{n:Nat}{i:Nat}{x:Bs×Nat}(hx:N[n]?=some x)(hr:0<x.2)(h1:∀m∈(cx N).take i,m<n)(h2:∀m∈(cx N).drop i,n<m)(y:Bs×Nat)(hy:y.2=0):cx (N.set n y)=(cx N).take i++n::(cx N).drop i:=by
 have hs:=zx N;have hnl:=(aV.1 hx).1;refine J2 (zx _) ?_ fun m=>?_
 ·refine xm.2 ⟨hs.sublist (List.take_sublist _ _),lB.2 ⟨h2,hs.sublist (List.drop_sublist _ _)⟩,fun a ha b hb=>?_⟩
  rcases bY.1 hb with rfl|hb
  ·exact h1 a ha
  ·exact Nat.lt_trans (h1 a ha) (h2 b hb)
 ·have hm:m∈(cx N).take i++n::(cx N).drop i↔m=n∨m∈cx N:=by
   rw[cJ,bY];have:m∈cx N↔m∈(cx N).take i∨m∈(cx N).drop i:=by rw[←cJ,jE]
   rw[this];constructor
   ·rintro(h|h|h)<;>simp[h]
   ·rintro(h|h|h)<;>simp[h]
  rw[hm,oV,oV]
  by_cases e:m=n
  ·subst e;rw[dJ hnl];simp[hy]
  ·rw[dH (Ne.symm e)];simp[e]
theorem abM {N:fU}(h:cx N=[])(y:Bs×Nat)(hy:0<y.2):cx (N++[y])=[]:=by
 refine List.eq_nil_iff_forall_not_mem.2 fun m hm=>?_
 obtain⟨x,hx,h0⟩:=oV.1 hm;rw[List.getElem?_append] at hx;split at hx
 ·have:=oV.2 ⟨x,hx,h0⟩;rw[h] at this;cases this
 ·rw[List.getElem?_singleton] at hx;split at hx
  ·cases hx;omega
  ·cases hx
theorem Rt {N:fU}{n:Nat}{x y:Bs×Nat}(hx:N[n]?=some x)(hr:0<x.2)(hy:0<y.2):cx (N.set n y)=cx N:=by
 have hnl:=(aV.1 hx).1;refine J2 (zx _) (zx _) fun m=>?_
 rw[oV,oV]
 by_cases e:m=n
 ·subst e;rw[dJ hnl,hx];constructor
  ·rintro⟨z,h1,h2⟩;cases h1;omega
  ·rintro⟨z,h1,h2⟩;cases h1;omega
 ·rw[dH (Ne.symm e)]
structure tO (aJ:Nat)(H:List Int)(N:List Nm)(i:Nat):Prop where
 chain:∀b,b<H.length→∃l,fy N (H.getD b (-1)) l∧l.Nodup∧∀n,n∈l↔n<i∧∃x,N[n]?=some x∧0<x.r∧bN aJ x.t % H.length=b
theorem tO.skip {aJ:Nat}{H:List Int}{N:List Nm}{i:Nat}(h:tO aJ H N i){x:Nm}(hx:N[i]?=some x)(h0:x.r=0):tO aJ H N (i+1):=⟨fun b hb=>by
 obtain⟨l,h1,h2,h3⟩:=h.chain b hb;refine⟨l,h1,h2,fun n=>(h3 n).trans ⟨fun⟨a,b⟩=>⟨by omega,b⟩,fun⟨a,y,k1,k2,k3⟩=>⟨?_,y,k1,k2,k3⟩⟩⟩
 by_cases e:n=i
 ·subst e;rw[hx] at k1;cases k1;omega
 ·omega⟩
theorem tO.push {aJ:Nat}{H:List Int}{N:List Nm}{i:Nat}(h:tO aJ H N i){x:Nm}(hx:N[i]?=some x){b:Nat}(hb:bN aJ x.t % H.length=b)(hl:0<H.length)(h0:0<x.r):tO aJ (H.set b (i:Int)) (N.set i ⟨x.t,x.r,H.getD b (-1)⟩) (i+1):=⟨fun c hc=>by
 have eL:=(aV.1 hx).1;have fq:b<H.length:=by rw[←hb];exact fm _ hl
 rw[fS] at hc ⊢;obtain⟨l,h1,h2,h3⟩:=h.chain c hc;have wg:i∉l:=fun hm=>by have:=((h3 i).1 hm).1;omega
 have gB:=h1.set ⟨x.t,x.r,H.getD b (-1)⟩ wg;have hold:∀n,n≠i→((N.set i ⟨x.t,x.r,H.getD b (-1)⟩)[n]?=N[n]?):=fun n hn=>dH (Ne.symm hn)
 by_cases e:c=b
 ·subst e;refine⟨i::l,⟨by rw[rv,if_pos ⟨rfl,fq⟩],_,dJ eL,gB⟩,eI.2 ⟨wg,h2⟩,fun n=>?_⟩;rw[bY];constructor
  ·rintro(rfl|hm)
   ·exact⟨by omega,_,dJ eL,h0,hb⟩
   ·obtain⟨k0,y,k1,k2,k3⟩:=(h3 n).1 hm;exact⟨by omega,y,by rw[hold n ah];exact k1,k2,k3⟩
  ·rintro⟨k0,y,k1,k2,k3⟩
   by_cases hn:n=i
   ·exact .inl hn
   ·rw[hold n hn] at k1;exact .inr ((h3 n).2 ⟨by omega,y,k1,k2,k3⟩)
 ·refine⟨l,?_,h2,fun n=>?_⟩
  ·rw[rv,if_neg (fun h'=>e h'.1)];exact gB
  ·constructor
   ·intro hm;obtain⟨k0,y,k1,k2,k3⟩:=(h3 n).1 hm;exact⟨by omega,y,by rw[hold n ah];exact k1,k2,k3⟩
   ·rintro⟨k0,y,k1,k2,k3⟩
    by_cases hn:n=i
    ·subst hn;rw[dJ eL] at k1;cases k1;exact absurd (k3.symm.trans hb) e
    ·rw[hold n hn] at k1;exact(h3 n).2 ⟨by omega,y,k1,k2,k3⟩⟩
structure Tn where
 b:Nat
 e:Bs
 n:Nat
 q:Option Nat×Nat
 ks:List (Bs×Nat)
abbrev px:=Bs→Option Tn
def ef (g:px)(s:Bs)(v:Option Tn):px:=fun t=>if t=s then v else g t
theorem gp (g:px)(s:Bs)(v:Option Tn):ef g s v s=v:=if_pos rfl
theorem dz {g:px}{s t:Bs}{v:Option Tn}(h:t≠s):ef g s v t=g t:=if_neg h
def hd (l:Bs):Nat:=(l.headD 0).toNat
structure im (g:px):Prop where
 root:∃r,g []=some r∧r.e=[]
 ne:∀s x,g s=some x→∀e∈x.ks,e.1≠[]
 ord:∀s x,g s=some x→x.ks.Pairwise fun a b=>hd a.1<hd b.1
 jb:∀s x,g s=some x→∀e∈x.ks,∃y,g (s++e.1)=some y∧y.e=e.1∧y.b=e.2
 jv:∀s x t y,g s=some x→g t=some y→s <+: t→s≠t→∃e∈x.ks,s++e.1 <+: t
 len:∀s x,g s=some x→s.length≤250
 num:∀s x,g s=some x→x.n≤never
def bW (g:px)(s:Bs):Nat:=match g s with|some x=>x.n|none=>0
theorem HY {l:List (Bs×Nat)}(h:l.Pairwise fun a b=>hd a.1<hd b.1){a b:Bs×Nat}(ha:a∈l)(hb:b∈l)(e:hd a.1=hd b.1):a=b:=by
 induction l with
 |nil=>cases ha
 |cons x l ih=>
  have h1:=lB.1 h
  rcases bY.1 ha with a1|a1<;>rcases bY.1 hb with b1|b1
  ·rw[a1,b1]
  ·have:=h1.1 b b1;rw[←a1] at this;omega
  ·have:=h1.1 a a1;rw[←b1] at this;omega
  ·exact ih h1.2 a1 b1
theorem uP {s e:Bs}(h:e≠[]):([]:Bs)≠s++e:=fun a=>h (List.append_eq_nil_iff.1 a.symm).2
theorem zo {a b:Bs}(h:a≠[]):a++b≠[]:=fun e=>h (List.append_eq_nil_iff.1 e).1
theorem vU {s a b t:Bs}(ha:s++a <+: t)(hb:s++b <+: t)(h1:a≠[])(h2:b≠[]):hd a=hd b:=by
 obtain⟨u,hu⟩:=ha;obtain⟨v,hv⟩:=hb;rw[←hv,cP,cP,List.append_cancel_left_eq] at hu;cases a with
 |nil=>exact absurd rfl h1
 |cons x a=>
  cases b with
  |nil=>exact absurd rfl h2
  |cons y b=>
   simp only[iQ,List.cons.injEq] at hu;rw[hu.1];rfl
theorem JG {a b t:Bs}(ha:a <+: t)(hb:b <+: t):a <+: b∨b <+: a:=List.prefix_or_prefix_of_prefix ha hb
theorem OI {s e t:Bs}(h:s++e <+: t):s <+: t:=(oh s e).trans h
theorem WH {s a b:Bs}(h:s++a <+: s++b):a <+: b:=(List.prefix_append_right_inj s).1 h
section
variable {g:px}(h:im g)
include h
theorem im.uniq {s:Bs}{x:Tn}(hx:g s=some x){e f:Bs×Nat}(he:e∈x.ks)(hf:f∈x.ks){t:Bs}(h1:s++e.1 <+: t)(h2:s++f.1 <+: t):e=f:=
 HY (h.ord s x hx) he hf (vU h1 h2 (h.ne s x hx e he) (h.ne s x hx f hf))
theorem im.par {s s':Bs}{x x':Tn}(hx:g s=some x)(lL:g s'=some x'){e e':Bs×Nat}(he:e∈x.ks)(zM:e'∈x'.ks)(ht:s++e.1=s'++e'.1):s=s':=by
 have key:∀{s s':Bs}{x x':Tn},g s=some x→g s'=some x'→∀{e e':Bs×Nat},e∈x.ks→e'∈x'.ks→s++e.1=s'++e'.1→s <+: s'→s=s':=by
  intro s s' x x' hx lL e e' he zM ht hp
  by_cases hn:s=s'
  ·exact hn
  ·obtain⟨f,hf,h1⟩:=h.jv s x s' x' hx lL hp hn;have h2:s++f.1 <+: s'++e'.1:=h1.trans (oh _ _);have:=h.uniq hx he hf (t:=s'++e'.1) (by rw[←ht];exact kP) h2;subst this;rw[ht] at h1;have:=h1.length_le;have aR:=h.ne s' x' lL e' zM;rw[bJ] at this;have:e'.1.length=0:=by omega
   exact absurd (AX.1 this) aR
 have h1:s <+: s++e.1:=oh _ _;have h2:s' <+: s++e.1:=by rw[ht];exact oh _ _
 rcases JG h1 h2 with hp|hp
 ·exact key hx lL he zM ht hp
 ·exact(key lL hx zM he ht.symm hp).symm
theorem im.O6 {s:Bs}{x:Tn}(hx:g s=some x){n:Nat}(hn:n≤never):im (ef g s (some { x with n:=n})):=by
 have hk:∀t y,ef g s (some { x with n:=n}) t=some y→∃z,g t=some z∧z.ks=y.ks∧z.e=y.e∧z.b=y.b∧(y.n=z.n∨y.n=n):=fun t y hy=>by
  by_cases e:t=s
  ·subst e;rw[gp] at hy;cases hy;exact⟨x,hx,rfl,rfl,rfl, .inr rfl⟩
  ·rw[dz e] at hy;exact⟨y,hy,rfl,rfl,rfl, .inl rfl⟩
 have kC:∀t z,g t=some z→∃y,ef g s (some { x with n:=n}) t=some y∧y.ks=z.ks∧y.e=z.e∧y.b=z.b:=fun t z hz=>by
  by_cases e:t=s
  ·subst e;rw[hx] at hz;cases hz;exact⟨_,gp _ _ _,rfl,rfl,rfl⟩
  ·exact⟨z,by rw[dz e];exact hz,rfl,rfl,rfl⟩
 refine⟨?_,fun t y hy e he=>?_,fun t y hy=>?_,fun t y hy e he=>?_,fun t y u v hy hv hp hn=>?_,fun t y hy=>?_,fun t y hy=>?_⟩
 ·obtain⟨r,h1,h2⟩:=h.root;obtain⟨y,q1,_,q2,_⟩:=kC _ _ h1;exact⟨y,q1,q2.trans h2⟩
 ·obtain⟨z,h1,h2,_⟩:=hk t y hy;exact h.ne t z h1 e (h2▸he)
 ·obtain⟨z,h1,h2,_⟩:=hk t y hy;rw[←h2];exact h.ord t z h1
 ·obtain⟨z,h1,h2,_⟩:=hk t y hy;obtain⟨w,k1,k2,k3⟩:=h.jb t z h1 e (h2▸he);obtain⟨y',q1,_,q3,q4⟩:=kC _ _ k1;exact⟨y',q1,q3.trans k2,q4.trans k3⟩
 ·obtain⟨z,h1,h2,_⟩:=hk t y hy;obtain⟨w,k1,_⟩:=hk u v hv;rw[←h2];exact h.jv t z u w h1 k1 hp hn
 ·obtain⟨z,h1,_⟩:=hk t y hy;exact h.len t z h1
 ·obtain⟨z,h1,_,_,_,h2⟩:=hk t y hy
  rcases h2 with h2|h2
  ·rw[h2];exact h.num t z h1
  ·rw[h2];exact hn
omit h in
theorem abZ {s:Bs}{x:Tn}{n:Nat}(t:Bs):bW (ef g s (some { x with n:=n})) t=if t=s then n else bW g t:=by
 unfold bW
 by_cases e:t=s
 ·subst e;rw[gp,if_pos rfl]
 ·rw[dz e,if_neg e]
theorem im.leaf {s:Bs}{x:Tn}(hx:g s=some x){p:Bs}(hp:p≠[])(hl:(s++p).length≤250){i:Nat}(h1:∀e∈x.ks.take i,hd e.1<hd p)(h2:∀e∈x.ks.drop i,hd p<hd e.1){bn n:Nat}(hn:n≤never){q q':Option Nat×Nat} :
  g (s++p)=none∧im (ef (ef g s (some { x with ks:=x.ks.take i++(p,bn)::x.ks.drop i,q:=q})) (s++p) (some ⟨bn,p,n,q',[]⟩)):=by
 have bG:∀e∈x.ks,hd e.1≠hd p:=fun e he=>by
  rw[←jE i x.ks] at he
  rcases cJ.1 he with he|he
  ·have:=h1 e he;omega
  ·have:=h2 e he;omega
 have fE:s≠s++p:=fun e=>hp (by simpa using e)
 have EF:g (s++p)=none:=by
  cases hg:g (s++p) with
  |none=>rfl
  |some y=>
   obtain⟨e,he,h3⟩:=h.jv s x _ y hx hg (oh _ _) fE;exact absurd (vU h3 kP (h.ne s x hx e he) hp) (bG e he)
 refine⟨EF,?_⟩;generalize hG:ef (ef g s (some { x with ks:=x.ks.take i++(p,bn)::x.ks.drop i,q:=q})) (s++p) (some ⟨bn,p,n,q',[]⟩)=G;have G1:G (s++p)=some ⟨bn,p,n,q',[]⟩:=by rw[←hG,gp]
 have G2:G s=some { x with ks:=x.ks.take i++(p,bn)::x.ks.drop i,q:=q}:=by rw[←hG,dz fE,gp]
 have G3:∀t,t≠s→t≠s++p→G t=g t:=fun t a b=>by rw[←hG,dz b,dz a]
 have ea:∀e,e∈x.ks.take i++(p,bn)::x.ks.drop i↔e=(p,bn)∨e∈x.ks:=fun e=>by
  have:e∈x.ks↔e∈x.ks.take i∨e∈x.ks.drop i:=by rw[←cJ,jE]
  rw[cJ,bY,this];constructor
  ·rintro(a|a|a)<;>simp[a]
  ·rintro(a|a|a)<;>simp[a]
 have sR:∀t y,G t=some y→(t=s++p∧y=⟨bn,p,n,q',[]⟩)∨(t=s∧y={ x with ks:=x.ks.take i++(p,bn)::x.ks.drop i,q:=q})∨(t≠s∧t≠s++p∧g t=some y):=fun t y hy=>by
  by_cases a:t=s++p
  ·subst a;rw[G1] at hy;cases hy;exact .inl ⟨rfl,rfl⟩
  ·by_cases b:t=s
   ·subst b;rw[G2] at hy;cases hy;exact .inr (.inl ⟨rfl,rfl⟩)
   ·rw[G3 t b a] at hy;exact .inr (.inr ⟨b,a,hy⟩)
 have hold:∀t y,g t=some y→∃y',G t=some y'∧y'.e=y.e∧y'.b=y.b:=fun t y hy=>by
  by_cases a:t=s++p
  ·subst a;rw[EF] at hy;cases hy
  ·by_cases b:t=s
   ·subst b;rw[hx] at hy;cases hy;exact⟨_,G2,rfl,rfl⟩
   ·exact⟨y,by rw[G3 t b a];exact hy,rfl,rfl⟩
 refine⟨?_,fun t y hy e he=>?_,fun t y hy=>?_,fun t y hy e he=>?_,fun t y u v hy hv cN aR=>?_,fun t y hy=>?_,fun t y hy=>?_⟩
 ·obtain⟨r,a,b⟩:=h.root;obtain⟨y',c,d,_⟩:=hold _ _ a;exact⟨y',c,d.trans b⟩
 ·rcases sR t y hy with⟨rfl,rfl⟩|⟨rfl,rfl⟩|⟨_,_,hy⟩
  ·cases he
  ·rcases(ea e).1 he with rfl|he
   ·exact hp
   ·exact h.ne _ _ hx e he
  ·exact h.ne _ _ hy e he
 ·rcases sR t y hy with⟨rfl,rfl⟩|⟨rfl,rfl⟩|⟨_,_,hy⟩
  ·exact List.Pairwise.nil
  ·have ho:=h.ord _ _ hx;rw[←jE i x.ks,xm] at ho;refine xm.2 ⟨ho.1,lB.2 ⟨h2,ho.2.1⟩,fun a ha b hb=>?_⟩
   rcases bY.1 hb with rfl|hb
   ·exact h1 a ha
   ·exact ho.2.2 a ha b hb
  ·exact h.ord _ _ hy
 ·rcases sR t y hy with⟨rfl,rfl⟩|⟨rfl,rfl⟩|⟨_,_,hy⟩
  ·cases he
  ·rcases(ea e).1 he with rfl|he
   ·exact⟨_,G1,rfl,rfl⟩
   ·obtain⟨z,a,b,c⟩:=h.jb _ _ hx e he;obtain⟨y',d,k1,k2⟩:=hold _ _ a;exact⟨y',d,k1.trans b,k2.trans c⟩
  ·obtain⟨z,a,b,c⟩:=h.jb _ _ hy e he;obtain⟨y',d,k1,k2⟩:=hold _ _ a;exact⟨y',d,k1.trans b,k2.trans c⟩
 ·have BQ:∀z,g u=some z→s <+: u→s≠u→¬s++p <+: u:=fun z hz a b c=>by
   obtain⟨e,he,k⟩:=h.jv s x u z hx hz a b;exact absurd (vU k c (h.ne _ _ hx e he) hp) (bG e he)
  rcases sR t y hy with⟨rfl,rfl⟩|⟨rfl,rfl⟩|⟨a1,a2,pQ⟩
  ·rcases sR u v hv with⟨rfl,rfl⟩|⟨rfl,rfl⟩|⟨_,_,Ah⟩
   ·exact absurd rfl aR
   ·have:=cN.length_le;rw[bJ] at this;exact absurd (AX.1 ah) hp
   ·exact absurd cN (BQ v Ah (OI cN) fun e=>by
     subst e;have:=cN.length_le;rw[bJ] at this;exact absurd (AX.1 ah) hp)
  ·rcases sR u v hv with⟨rfl,rfl⟩|⟨rfl,rfl⟩|⟨_,_,Ah⟩
   ·exact⟨(p,bn),(ea _).2 (.inl rfl),kP⟩
   ·exact absurd rfl aR
   ·obtain⟨e,he,k⟩:=h.jv _ _ _ _ hx Ah cN aR;exact⟨e,(ea _).2 (.inr he),k⟩
  ·rcases sR u v hv with⟨rfl,rfl⟩|⟨rfl,rfl⟩|⟨_,_,Ah⟩
   ·rcases JG cN (oh s p) with k|k
    ·obtain⟨e,he,k2⟩:=h.jv t y s x pQ hx k a1;exact⟨e,he,k2.trans (oh _ _)⟩
    ·obtain⟨e,he,k2⟩:=h.jv s x t y hx pQ k (Ne.symm a1);exact absurd (vU (k2.trans cN) kP (h.ne _ _ hx e he) hp) (bG e he)
   ·exact h.jv t y _ x pQ hx cN aR
   ·exact h.jv t y u v pQ Ah cN aR
 ·rcases sR t y hy with⟨rfl,rfl⟩|⟨rfl,rfl⟩|⟨_,_,hy⟩
  ·exact hl
  ·exact h.len _ _ hx
  ·exact h.len _ _ hy
 ·rcases sR t y hy with⟨rfl,rfl⟩|⟨rfl,rfl⟩|⟨_,_,hy⟩
  ·exact hn
  ·exact(h.num _ _ hx :)
  ·exact h.num _ _ hy
end
section
variable {g:px}(h:im g)
include h
theorem im.Wv {s:Bs}{x:Tn}(hx:g s=some x){i:Nat}{e f:Bs×Nat}(he:x.ks[i]?=some e)(hf:hd f.1=hd e.1):(x.ks.set i f).Pairwise fun a b=>hd a.1<hd b.1:=by
 have ho:=h.ord s x hx;rw[sv] at ho ⊢;have hi:=(aV.1 he)
 intro a b ha hb eR;rw[fS] at ha hb;rw[List.getElem_set,List.getElem_set];split<;>split
 ·omega
 ·rename_i h1 _;subst h1;rw[hf,←hi.2];exact ho _ b _ _ eR
 ·rename_i _ h2;subst h2;rw[hf,←hi.2];exact ho a _ _ _ eR
 ·exact ho a b _ _ eR
omit h in
theorem VY {α:Type}{l:List α}{i:Nat}{e f z:α}(he:l[i]?=some e)(hu:∀j,j≠i→l[j]?≠some e):z∈l.set i f↔z=f∨(z∈l∧z≠e):=by
 have eL:=(aV.1 he).1;constructor
 ·intro hz;obtain⟨j,hj⟩:=ej hz
  by_cases a:j=i
  ·subst a;rw[dJ eL] at hj;cases hj;exact .inl rfl
  ·rw[dH (Ne.symm a)] at hj;exact .inr ⟨bF hj,fun e'=>hu j a (e'▸hj)⟩
 ·rintro(rfl|⟨hz,hn⟩)
  ·exact bF (dJ eL)
  ·obtain⟨j,hj⟩:=ej hz;have a:j≠i:=fun a=>by subst a;rw[he] at hj;cases hj;exact hn rfl
   exact bF (i:=j) (by rw[dH (Ne.symm a)];exact hj)
theorem im.one {s:Bs}{x:Tn}(hx:g s=some x){i:Nat}{e:Bs×Nat}(he:x.ks[i]?=some e):∀j,j≠i→x.ks[j]?≠some e:=fun j hj Em=>by
 have ho:=h.ord s x hx;rw[sv] at ho;obtain⟨a1,a2⟩:=aV.1 he;obtain⟨b1,b2⟩:=aV.1 Em
 rcases Nat.lt_or_gt_of_ne hj with k|k
 ·have:=ho j i b1 a1 k;rw[a2,b2] at this;omega
 ·have:=ho i j a1 b1 k;rw[a2,b2] at this;omega
theorem im.split {s:Bs}{x:Tn}(hx:g s=some x){i:Nat}{e1 e2:Bs}{aS:Nat}(he:x.ks[i]?=some (e1++e2,aS))(h1:e1≠[])(h2:e2≠[]){y:Tn}(hy:g (s++(e1++e2))=some y){bm:Nat}{q q':Option Nat×Nat} :
  g (s++e1)=none∧im (ef (ef (ef g s (some { x with ks:=x.ks.set i (e1,bm),q:=q})) (s++e1) (some ⟨bm,e1,0,q',[(e2,y.b)]⟩)) (s++(e1++e2)) (some { y with e:=e2})):=by
 have BR:=bF he;have oQ:s≠s++e1:=fun e=>h1 (by simpa using e)
 have pO:s≠s++(e1++e2):=fun e=>h1 (by
  have:e1++e2=[]:=by simpa using e
  exact(List.append_eq_nil_iff.1 this).1)
 have tZ:s++e1≠s++(e1++e2):=fun e=>h2 (by
  have:=List.append_cancel_left e;simpa using this)
 have EF:g (s++e1)=none:=by
  cases hg:g (s++e1) with
  |none=>rfl
  |some z=>
   obtain⟨f,hf,h3⟩:=h.jv s x _ z hx hg (oh _ _) oQ;have h4:s++f.1 <+: s++(e1++e2):=h3.trans (by rw[←cP];exact oh _ _);have:=h.uniq hx hf BR h4 kP;subst this;have h5:=h3.length_le;simp only[bJ] at h5;have:e2.length=0:=by omega
   exact absurd (AX.1 this) h2
 refine⟨EF,?_⟩;obtain⟨y0,TU,fv,eG⟩:=h.jb s x hx _ BR;rw[hy] at TU;cases TU;generalize hG:ef (ef (ef g s (some { x with ks:=x.ks.set i (e1,bm),q:=q})) (s++e1) (some ⟨bm,e1,0,q',[(e2,y.b)]⟩)) (s++(e1++e2)) (some { y with e:=e2})=G;have G1:G (s++(e1++e2))=some { y with e:=e2}:=by rw[←hG,gp]
 have G2:G (s++e1)=some ⟨bm,e1,0,q',[(e2,y.b)]⟩:=by rw[←hG,dz tZ,gp]
 have G3:G s=some { x with ks:=x.ks.set i (e1,bm),q:=q}:=by rw[←hG,dz pO,dz oQ,gp]
 have G4:∀t,t≠s→t≠s++e1→t≠s++(e1++e2)→G t=g t:=fun t a b c=>by rw[←hG,dz c,dz b,dz a]
 have ea:∀f,f∈x.ks.set i (e1,bm)↔f=(e1,bm)∨(f∈x.ks∧f≠(e1++e2,aS)):=fun f=>VY he (h.one hx he)
 have sR:∀t z,G t=some z→(t=s++(e1++e2)∧z={ y with e:=e2})∨(t=s++e1∧z=⟨bm,e1,0,q',[(e2,y.b)]⟩)∨(t=s∧z={ x with ks:=x.ks.set i (e1,bm),q:=q})∨(t≠s∧t≠s++e1∧t≠s++(e1++e2)∧g t=some z):=fun t z hz=>by
  by_cases c:t=s++(e1++e2)
  ·subst c;rw[G1] at hz;cases hz;exact .inl ⟨rfl,rfl⟩
  ·by_cases b:t=s++e1
   ·subst b;rw[G2] at hz;cases hz;exact .inr (.inl ⟨rfl,rfl⟩)
   ·by_cases a:t=s
    ·subst a;rw[G3] at hz;cases hz;exact .inr (.inr (.inl ⟨rfl,rfl⟩))
    ·rw[G4 t a b c] at hz;exact .inr (.inr (.inr ⟨a,b,c,hz⟩))
 have hold:∀t z,g t=some z→∃z',G t=some z'∧z'.b=z.b∧(t≠s++(e1++e2)→z'.e=z.e):=fun t z hz=>by
  by_cases c:t=s++(e1++e2)
  ·subst c;rw[hy] at hz;cases hz;exact⟨_,G1,rfl,fun c=>absurd rfl c⟩
  ·by_cases b:t=s++e1
   ·subst b;rw[EF] at hz;cases hz
   ·by_cases a:t=s
    ·subst a;rw[hx] at hz;cases hz;exact⟨_,G3,rfl,fun _=>rfl⟩
    ·exact⟨z,by rw[G4 t a b c];exact hz,rfl,fun _=>rfl⟩
 -- oe is rX at a place of Ge new ahz
 have ff:∀t z,G t=some z→t≠s++e1→∃z0,g t=some z0∧(t≠s→z.ks=z0.ks)∧z.n=z0.n:=fun t z hz hb=>by
  rcases sR t z hz with⟨rfl,rfl⟩|⟨rfl,rfl⟩|⟨rfl,rfl⟩|⟨_,_,_,hz⟩
  ·exact⟨y,hy,fun _=>rfl,rfl⟩
  ·exact absurd rfl hb
  ·exact⟨x,hx,fun e=>absurd rfl e,rfl⟩
  ·exact⟨z,hz,fun _=>rfl,rfl⟩
 have Tc:s++e1 <+: s++(e1++e2):=by rw[←cP];exact oh _ _
 refine⟨?_,fun t z hz f hf=>?_,fun t z hz=>?_,fun t z hz f hf=>?_,fun t z u v hz hv cN aR=>?_,fun t z hz=>?_,fun t z hz=>?_⟩
 ·obtain⟨r,a,b⟩:=h.root;obtain⟨r',c,_,d⟩:=hold _ _ a;exact⟨r',c,(d (uP (zo h1))).trans b⟩
 ·by_cases b:t=s++e1
  ·subst b;rw[G2] at hz;cases hz;simp at hf;subst hf;exact h2
  ·by_cases a:t=s
   ·subst a;rw[G3] at hz;cases hz
    rcases(ea f).1 hf with rfl|⟨hf,_⟩
    ·exact h1
    ·exact h.ne _ _ hx f hf
   ·obtain⟨z0,k1,k2,_⟩:=ff t z hz b;exact h.ne _ _ k1 f (k2 a▸hf)
 ·by_cases b:t=s++e1
  ·subst b;rw[G2] at hz;cases hz;exact List.pairwise_singleton _ _
  ·by_cases a:t=s
   ·subst a;rw[G3] at hz;cases hz;exact h.Wv hx he (by cases e1 with|nil=>exact absurd rfl h1|cons c e1=>rfl)
   ·obtain⟨z0,k1,k2,_⟩:=ff t z hz b;rw[k2 a];exact h.ord _ _ k1
 ·by_cases b:t=s++e1
  ·subst b;rw[G2] at hz;cases hz;simp at hf;subst hf;exact⟨{ y with e:=e2},by rw[cP];exact G1,rfl,rfl⟩
  ·by_cases a:t=s
   ·subst a;rw[G3] at hz;cases hz
    rcases(ea f).1 hf with rfl|⟨hf,xS⟩
    ·exact⟨_,G2,rfl,rfl⟩
    ·obtain⟨w,k1,k2,k3⟩:=h.jb _ _ hx f hf;obtain⟨w',q1,q2,q3⟩:=hold _ _ k1;refine⟨w',q1,(q3 fun e=>xS ?_).trans k2,q2.trans k3⟩;exact h.uniq hx hf BR (by rw[e];exact kP) kP
   ·obtain⟨z0,k1,k2,_⟩:=ff t z hz b;obtain⟨w,r1,r2,r3⟩:=h.jb _ _ k1 f (k2 a▸hf);obtain⟨w',q1,q2,q3⟩:=hold _ _ r1;exact⟨w',q1,(q3 fun e=>a (h.par k1 hx (k2 a▸hf) BR e)).trans r2,q2.trans r3⟩
 ·-- from oe is below s by a way ani amk as e1
  have mn:∀w,g u=some w→s++e1 <+: u→s++(e1++e2) <+: u:=fun w hw hp=>by
   obtain⟨f,hf,k⟩:=h.jv s x u w hx hw (OI hp) fun e=>by
    subst e;have:=hp.length_le;rw[bJ] at this;exact h1 (AX.1 ah)
   have e:hd f.1=hd (e1++e2):=(vU k hp (h.ne _ _ hx f hf) h1).trans (by cases e1 with|nil=>exact absurd rfl h1|cons c e1=>rfl);have:=HY (h.ord _ _ hx) hf BR e;subst this;exact k
  by_cases bu:u=s++e1
  ·subst bu
   by_cases a:t=s
   ·subst a;rw[G3] at hz;cases hz;exact⟨(e1,bm),(ea _).2 (.inl rfl),kP⟩
   ·have b:t≠s++e1:=aR;obtain⟨z0,k1,k2,_⟩:=ff t z hz b;rw[k2 a]
    rcases JG cN (oh s e1) with k|k
    ·obtain⟨f,hf,k3⟩:=h.jv t z0 s x k1 hx k a;exact⟨f,hf,k3.trans (oh _ _)⟩
    ·obtain⟨f,hf,k3⟩:=h.jv s x t z0 hx k1 k (Ne.symm a);have:=h.uniq hx hf BR (k3.trans (cN.trans Tc)) kP;subst this;have:=(k3.trans cN).length_le;simp only[bJ] at this;exact absurd (AX.1 ah) h2
  ·obtain⟨v0,kG,_⟩:=ff u v hv bu
   by_cases b:t=s++e1
   ·subst b;rw[G2] at hz;cases hz;refine⟨(e2,y.b),by simp,?_⟩;rw[cP];exact mn v0 kG cN
   ·by_cases a:t=s
    ·subst a;rw[G3] at hz;cases hz;obtain⟨f,hf,k⟩:=h.jv _ _ _ _ hx kG cN aR
     by_cases nR:f=(e1++e2,aS)
     ·subst nR;exact⟨(e1,bm),(ea _).2 (.inl rfl),Tc.trans k⟩
     ·exact⟨f,(ea _).2 (.inr ⟨hf,nR⟩),k⟩
    ·obtain⟨z0,k1,k2,_⟩:=ff t z hz b;rw[k2 a];exact h.jv _ _ _ _ k1 kG cN aR
 ·by_cases b:t=s++e1
  ·subst b;have:=h.len _ _ hy;simp only[bJ] at this ⊢;omega
  ·obtain⟨z0,k1,_⟩:=ff t z hz b;exact h.len _ _ k1
 ·by_cases b:t=s++e1
  ·subst b;rw[G2] at hz;cases hz;exact bh _
  ·obtain⟨z0,k1,_,k2⟩:=ff t z hz b;rw[k2];exact h.num _ _ k1
omit h in
theorem ab0 {s:Bs}{x y:Tn}{e1 e2:Bs}{ks:List (Bs×Nat)}{bm:Nat}{q q':Option Nat×Nat}{kk:List (Bs×Nat)}(hx:g s=some x)(hn:g (s++e1)=none)(hy:g (s++(e1++e2))=some y)(t:Bs):bW (ef (ef (ef g s (some { x with ks:=ks,q:=q})) (s++e1) (some ⟨bm,e1,0,q',kk⟩)) (s++(e1++e2)) (some { y with e:=e2})) t=bW g t:=by
 unfold bW
 by_cases c:t=s++(e1++e2)
 ·subst c;rw[gp,hy]
 ·rw[dz c]
  by_cases b:t=s++e1
  ·subst b;rw[gp,hn]
  ·rw[dz b]
   by_cases a:t=s
   ·subst a;rw[gp,hx]
   ·rw[dz a]
end
end Go.Proofs.YtmlpbmgfmnmmmaaGreat.V.M
