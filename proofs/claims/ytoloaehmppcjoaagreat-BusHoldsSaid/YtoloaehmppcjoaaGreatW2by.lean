/-
  Parts of the proof. No condition.
-/
import Derived.Test.YtoloaehmppcjoaaGreatW2bx
set_option linter.unusedVariables false
set_option linter.unusedSimpArgs false
set_option maxRecDepth 8000
set_option maxHeartbeats 8000000
namespace Go.Proofs.YtoloaehmppcjoaaGreat.V.M
theorem aeG {α:Type}{f:α→Nat}{L:List α}(h:(L.map f).Nodup){a b:α}(ha:a∈L)(hb:b∈L)(e:f a=f b):a=b:=by
 induction L with
 |nil=>cases ha
 |cons x L ih=>
  rw[cJ] at h;replace h:=eQ.1 h
  rcases bU.1 ha with ea|ha
  ·subst ea
   rcases bU.1 hb with rfl|hb
   ·rfl
   ·exact absurd (bG.2 ⟨b,hb,e.symm⟩) h.1
  ·rcases bU.1 hb with eb|hb
   ·subst eb;exact absurd (bG.2 ⟨a,by assumption,e⟩:f b∈L.map f) h.1
   ·exact ih h.2 ha hb
abbrev Da:=Nat→Option (List Bs×List Nat)
def mz (L:List bM)(live:Da)(m:Nat):Nat:=(L.filter fun x=>decide ((live x.n).map (·.2)=some [m])).length
structure RI (L:List bM)(live:Da)(N:eF):Prop where
 eR:∀x∈L,∃t m r,x.t=[t]∧live x.n=some ([t],[m])∧N[m]?=some (t,r)∧0<r
 cP:∀m,mz L live m≤(N.getD m ([],0)).2
 nd:(L.map (·.n)).Nodup
 uniq:∀(n m:Nat) (x y:Bs×Nat),N[n]?=some x→N[m]?=some y→0<x.2→0<y.2→x.1=y.1→n=m
theorem Hz {N:eF}{m:Nat}{x:Bs×Nat}(h:N[m]?=some x):N.getD m ([],0)=x:=by
 rw[dP,h];rfl
theorem aiD {aD:Nat}{N:eF}{m:Nat}{t:Bs}{r:Nat}(h:N[m]?=some (t,r))(hr:0<r):(gj ⟨aD,N⟩ [m]).2=⟨aD,N.set m (if 1<r then(t,r - 1) else([],0))⟩:=by
 have hl:=(aV.1 h).1;have hg:=Hz h;have ha:sY N ((m:Nat):Int)=some m:=by
  unfold sY;rw[if_pos ⟨by omega,by omega,by rw[qB,hg];exact hr⟩,qB]
 show(ov ⟨aD,N⟩ ((m:Nat):Int)).2.2=_;unfold ov;dsimp only;rw[ha];dsimp only;rw[hg]
 by_cases h1:1<r
 ·rw[if_pos h1,if_pos h1]
 ·rw[if_neg h1,if_neg h1]
theorem RI.drop {L L':List bM}{live:Da}{N:eF}(h:RI L live N)(aD:Nat){x:bM}(hx:x∈L)(hs:L'.Sublist L)(hn:x∉L') :
  ∃t m,live x.n=some ([t],[m])∧RI L' (fun j=>if j=x.n then none else live j) (gj ⟨aD,N⟩ [m]).2.N∧(gj ⟨aD,N⟩ [m]).2.N.length=N.length:=by
 obtain⟨t,m,r,ht,hl,hN,hr⟩:=h.eR x hx;refine⟨t,m,hl,?_⟩;rw[aiD hN hr];dsimp only;have aP:∀y∈L',y.n≠x.n:=fun y hy e=>by
  have:=aeG h.nd (hs.subset hy) hx e;exact hn (this▸hy)
 have aN:m<N.length:=(aV.1 hN).1;have p5:∀m0,mz L' (fun j=>if j=x.n then none else live j) m0=mz L' live m0:=fun m0=>by
  unfold mz;congr 1;refine List.filter_congr fun y hy=>?_
  simp only[if_neg (aP y hy)]
 have hle:∀m0,mz L' live m0≤mz L live m0:=fun m0=>(hs.filter _).length_le
 have MP:mz L' live m+1≤mz L live m:=by
  have eO:=hs.filter (fun x=>decide ((live x.n).map (·.2)=some [m]))
  rcases qz (mz L' live m) (mz L live m) with hh|hh
  ·exact hh
  ·have:=eO.eq_of_length (Nat.le_antisymm eO.length_le hh);have fh:x∈L.filter (fun x=>decide ((live x.n).map (·.2)=some [m])):=fR.2 ⟨hx,by rw[hl];simp⟩;rw[←this] at fh;exact absurd (fR.1 fh).1 hn
 have wA:mz L live m≤r:=by have:=h.cP m;rw[Hz hN] at this;exact this
 have jc:∀m0,m0≠m→(N.set m (if 1<r then(t,r - 1) else([],0)))[m0]?=N[m0]?:=fun m0 e=>dv (fun e2=>e e2.symm)
 have IY:(N.set m (if 1<r then(t,r - 1) else([],0)))[m]?=some (if 1<r then(t,r - 1) else([],0)):=dE aN;refine⟨⟨fun y hy=>?_,fun m0=>?_,(hs.map _).nodup h.nd,fun n1 n2 a b ha hb h1 h2 e=>?_⟩,fQ⟩
 ·obtain⟨t1,m1,r1,k1,k2,k3,k4⟩:=h.eR y (hs.subset hy)
  by_cases e:m1=m
  ·subst e;rw[hN] at k3;cases k3;have hc:1≤mz L' live m1:=by
    have:y∈L'.filter (fun x=>decide ((live x.n).map (·.2)=some [m1])):=fR.2 ⟨hy,by rw[k2];simp⟩;exact tX this
   have zy:1<r:=by omega
   rw[if_pos zy] at IY ⊢;exact⟨t,m1,r - 1,k1,by rw[if_neg (aP y hy)];exact k2,IY,by omega⟩
  ·exact⟨t1,m1,r1,k1,by rw[if_neg (aP y hy)];exact k2,by rw[jc m1 e];exact k3,k4⟩
 ·rw[p5]
  by_cases e:m0=m
  ·subst e;rw[Hz IY]
   by_cases zy:1<r
   ·rw[if_pos zy];dsimp only;omega
   ·rw[if_neg zy];dsimp only;omega
  ·rw[dP,jc m0 e,←dP];exact dF (hle m0) (h.cP m0)
 ·have back:∀(n:Nat) (a:Bs×Nat),(N.set m (if 1<r then(t,r - 1) else([],0)))[n]?=some a→0<a.2→∃a':Bs×Nat,N[n]?=some a'∧0<a'.2∧a'.1=a.1:=fun n a ha h0=>by
   by_cases e:n=m
   ·subst e;rw[IY] at ha;cases ha
    by_cases zy:1<r
    ·rw[if_pos zy] at h0 ⊢;exact⟨_,hN,hr,rfl⟩
    ·rw[if_neg zy] at h0;cases h0
   ·rw[jc n e] at ha;exact⟨a,ha,h0,rfl⟩
  obtain⟨a',a1,a2,a3⟩:=back n1 a ha h1;obtain⟨b',b1,b2,b3⟩:=back n2 b hb h2;exact h.uniq n1 n2 a' b' a1 b1 a2 b2 (by rw[a3,b3,e])
theorem Y7 (N:eF)(t:Bs)(m0:Nat):((cL N t).1.getD m0 ([],0)).2=(N.getD m0 ([],0)).2+if m0=(cL N t).2 then 1 else 0:=by
 unfold cL;split
 ·rename_i n hn
  have hl:=(y6.1 hn).1;dsimp only
  by_cases e:m0=n
  ·subst e;rw[if_pos rfl,dP,dE hl];rfl
  ·rw[if_neg e,dP,dv (fun e2=>e e2.symm),←dP];rfl
 ·split
  ·rename_i n F hF
   obtain⟨y,hy,Jb⟩:=oz.1 (show n∈cw N by rw[hF];simp);dsimp only
   by_cases e:m0=n
   ·subst e;rw[if_pos rfl,dP,dE (aV.1 hy).1,Hz hy,Jb];rfl
   ·rw[if_neg e,dP,dv (fun e2=>e e2.symm),←dP];rfl
  ·dsimp only
   by_cases e:m0=N.length
   ·subst e;rw[if_pos rfl,dP,dP,iD (aY _),Nat.sub_self,pH (aY _)];rfl
   ·rw[if_neg e,dP,dP]
    by_cases hl:m0<N.length
    ·rw[gp hl];rfl
    ·rw[pH (l:=N) ah,pH (by simp;omega)];rfl
theorem Y8 (N:eF)(t:Bs):(cL N t).1.length≤N.length+1:=by
 unfold cL
 (repeat' split)<;>simp
theorem Y9 {N:eF}(h:∀(n m:Nat) (x y:Bs×Nat),N[n]?=some x→N[m]?=some y→0<x.2→0<y.2→x.1=y.1→n=m)(t:Bs) :
  ∀(n m:Nat) (x y:Bs×Nat),(cL N t).1[n]?=some x→(cL N t).1[m]?=some y→0<x.2→0<y.2→x.1=y.1→n=m:=by
 -- every live name of yW new list is at yW new place,with this name,or was there
 have key:∀n x,(cL N t).1[n]?=some x→0<x.2→(n=(cL N t).2∧x.1=t)∨(n≠(cL N t).2∧N[n]?=some x):=fun n x hx h0=>by
  by_cases e:n=(cL N t).2
  ·subst e;obtain⟨r,hr,_⟩:=KM N t;rw[hr] at hx;cases hx;exact .inl ⟨rfl,rfl⟩
  ·refine .inr ⟨e,?_⟩;revert hx e;unfold cL;split
   ·intro hx e;rwa [dv (fun e2=>e e2.symm)] at hx
   ·split
    ·intro hx e;rwa [dv (fun e2=>e e2.symm)] at hx
    ·intro hx e;have hl:=(aV.1 hx).1;rw[bH,gW] at hl;have:n<N.length:=by dsimp only at e;omega
     rwa [gp this] at hx
 -- yW new name ane ana else
 have other:∀n x,N[n]?=some x→0<x.2→x.1=t→n=(cL N t).2:=fun n x hx h0 e=>by
  unfold cL;split
  ·rename_i q hq
   obtain⟨y,y1,y2,y3⟩:=Cu hq;exact h n q x y hx y1 h0 y2 (by rw[e,y3])
  ·rename_i hq
   exfalso;have:=List.findIdx?_eq_none_iff.1 hq x (bD hx);simp[h0,e] at this
 intro n m x y hx hy h1 h2 e
 rcases key n x hx h1 with⟨rfl,e1⟩|⟨ne,ke⟩
 ·rcases key m y hy h2 with⟨rfl,e2⟩|⟨ne,mL⟩
  ·rfl
  ·exact absurd (other m y mL h2 (by rw[←e,e1])) ne
 ·rcases key m y hy h2 with⟨rfl,e2⟩|⟨ne2,mL⟩
  ·exact absurd (other n x ke h1 (by rw[e,e2])) ne
  ·exact h n m x y ke mL h1 h2 e
theorem RI.add {L:List bM}{live:Da}{N:eF}(h:RI L live N){e:bM}{t:Bs}(ht:e.t=[t])(hn:∀x∈L,x.n≠e.n) :
  RI (L++[e]) (fun j=>if j=e.n then some ([t],[(cL N t).2]) else live j) (cL N t).1:=by
 refine⟨fun x hx=>?_,fun m0=>?_,?_,Y9 h.uniq t⟩
 ·rcases cx.1 hx with hx|hx
  ·obtain⟨t1,m1,r1,k1,k2,k3,k4⟩:=h.eR x hx;obtain⟨r',k5,k6⟩:=PU k3 k4 t;exact⟨t1,m1,r',k1,by rw[if_neg (hn x hx)];exact k2,k5,k6⟩
  ·obtain rfl:=jn.1 hx;obtain⟨r,k5,k6⟩:=KM N t;exact⟨t,_,r,ht,by rw[if_pos rfl],k5,k6⟩
 ·rw[Y7];have h0:=h.cP m0;have e1:mz L (fun j=>if j=e.n then some ([t],[(cL N t).2]) else live j) m0=mz L live m0:=by
   unfold mz;congr 1;refine List.filter_congr fun y hy=>?_
   simp only[if_neg (hn y hy)]
  have e2:mz (L++[e]) (fun j=>if j=e.n then some ([t],[(cL N t).2]) else live j) m0=mz L live m0+if m0=(cL N t).2 then 1 else 0:=by
   rw[←e1];unfold mz;rw[vu,bH];congr 1
   by_cases e3:m0=(cL N t).2
   ·rw[if_pos e3];simp[lO,e3]
   ·have e5:¬(cL N t).2=m0:=fun e4=>e3 e4.symm
    rw[if_neg e3];simp[lO,e5]
  rw[e2];omega
 ·rw[eA,ga];refine⟨h.nd,by simp,fun a ha b hb e3=>?_⟩;obtain⟨x,hx,rfl⟩:=bG.1 ha;simp at hb;exact hn x hx (e3.trans hb)
theorem RI.idx {L:List bM}{live:Da}{N:eF}(h:RI L live N){x:bM}(hx:x∈L):∃t m,x.t=[t]∧live x.n=some ([t],[m])∧jB N t=some m:=by
 obtain⟨t,m,r,k1,k2,k3,k4⟩:=h.eR x hx;refine⟨t,m,k1,k2,?_⟩;have hl:=(aV.1 k3)
 cases hq:jB N t with
 |none=>
  have:=List.findIdx?_eq_none_iff.1 hq (t,r) (bD k3);simp at this;omega
 |some q=>
  obtain⟨y,y1,y2,y3⟩:=Cu hq;rw[h.uniq q m y (t,r) y1 k3 y2 k4 y3]
def kA:Bs:=[97,47,49]
def gQ:dd:=⟨1,kA,[],[],[[116]],never,0,[],[],[]⟩
def rh:dd:=⟨4,kA,[],[],[],0,0,[],[],[]⟩
theorem Ks {x:Bs}(h:eV x=true):bY [x]=([x],0):=by
 have hs:fj [x]=[x]:=List.perm_singleton.1 (lJ [x]);unfold bY;rw[if_neg (by simp[h]),if_neg (by simp[setOf,bC])];have:((setOf [x]).map (·.1))=[x]:=rfl;rw[this,hs]
theorem alb (c:rF)(t:Nat):((jT c).start t).aR=0∧((jT c).start t).s.E=[]∧((jT c).start t).a.last=0:=by
 have hg:(jT c).s.gone (max (jT c).now t)=[]:=by
  show AS (([]:List bM).filter _)=[];exact gu (CQ _).length_eq
 unfold ao.start;rw[hg];exact⟨rfl,rfl,rfl⟩
theorem afi:((jT nS).cU 1 gQ).2.1.err=0∧((jT nS).cU 1 gQ).2.1.aR=1∧((jT nS).cU 1 gQ).2.2=0:=by
 have hw:(jT nS).dW 1 (iA gQ.op) gQ=0:=by
  have ht:bY gQ.t=([[116]],0):=Ks rfl;have hp:iB (jT nS).cb (iA gQ.op) gQ=0:=by
   unfold iB;rw[ht];rfl
  unfold ao.dW;rw[if_neg (by rw[hp];simp),if_pos (by rfl)];unfold ao.Gh;rw[if_neg (by simp[gQ]),if_neg (by simp[gQ]),if_neg (by simp[gQ]),ht,if_neg (by simp[jT,nS,du,tJ];exact dF (pF _ _) (by simp))]
 unfold ao.cU;rw[if_pos (by simp[gQ]),if_pos hw];rw[De (by simp[gQ])];refine⟨rfl,?_,rfl⟩;show((jT nS).start 1).aR+1=1;rw[(alb nS 1).1]
def lS (E:ao):Prop:=∀x∈E.s.E,x.st≤E.a.last
theorem lS.sub {E X:ao}(h:lS E)(hs:∀x∈X.s.E,x∈E.s.E)(ha:E.a.last≤X.a.last):lS X:=fun x hx=>dF (h x (hs x hx)) ha
theorem VM (E:ao)(l:List bM):(E.ft l).s=E.s∧(E.ft l).a.last=E.a.last∧(E.ft l).p=E.p:=by
 unfold ao.ft
 induction l generalizing E with
 |nil=>exact⟨rfl,rfl,rfl⟩
 |cons x l ih=>
  obtain⟨h1,h2,h3⟩:=ih (E.qe x.n);rw[pL];exact⟨h1,h2.trans (bW.DH _ _),h3⟩
theorem Pa (E:ao)(t:Nat):(E.start t).s.E=E.s.E.filter (fun e=>!due e.d (max E.now t))∧(E.start t).a.last=E.a.last∧(E.start t).p=E.p:=by
 obtain⟨h1,h2,h3⟩:=VM (E.lK t) (E.s.gone (max E.now t));exact⟨congrArg bw.E h1,h2,h3⟩
theorem lS.start {E:ao}(h:lS E)(t:Nat):lS (E.start t):=by
 obtain⟨h1,h2,_⟩:=Pa E t;exact h.sub (fun x hx=>by rw[h1] at hx;exact(fR.1 hx).1) (by rw[h2];exact aY _)
theorem ahJ (E:ao)(k:Bs):∀x∈(E.eJ k).s.E,x∈E.s.E:=by
 unfold ao.eJ;split
 ·intro x hx;exact(fR.1 (show x∈dj E.s.E k from hx)).1
 ·exact fun x hx=>hx
theorem Wy (E:ao)(l:List Bs):∀x∈(E.out l).s.E,x∈E.s.E:=by
 unfold ao.out
 induction l generalizing E with
 |nil=>exact fun x hx=>hx
 |cons k l ih=>exact fun x hx=>ahJ E k x (ih (E.eJ k) x hx)
theorem aby (b m c:Nat)(l:List bM):∀x∈(iu b m c l).2,x∈l:=by
 induction l with
 |nil=>exact fun x hx=>hx
 |cons y l ih=>
  unfold iu;split
  ·exact fun x hx=>fP _ (ih x hx)
  ·exact fun x hx=>hx
theorem lS.write {E:ao}(h:lS E)(c:dd):lS (E.write c):=by
 have hp:lS (E.pre c):=by
  have f1:=AA E.tick (cO E.g.E c.k);have f2:=AA (E.tick.out (cO E.g.E c.k)) [c.k];refine h.sub (fun x hx=>?_) ?_
  ·exact Wy E.tick _ x (Wy _ _ x hx)
  ·show E.a.last≤((E.tick.out (cO E.g.E c.k)).out [c.k]).a.last;rw[f2.2.1,f1.2.1];exact aY _
 unfold ao.write;have dp:((E.pre c).vb c).st=(E.pre c).a.last:=rfl;generalize (E.pre c).vb c=ne at dp ⊢;generalize E.pre c=P at hp dp ⊢;obtain⟨g1,g2,_⟩:=VM { P with s:=(P.s.put ne).1} (P.s.put ne).2;intro x hx;have fh:x∈(P.s.put ne).1.E:=by
  have e:(((P.put ne).add (bY c.t).1)).s.E=(P.s.put ne).1.E:=congrArg bw.E g1;rw[e] at hx;exact hx
 show x.st≤(P.put ne).a.last;have e2:(P.put ne).a.last=P.a.last:=g2;rw[e2];unfold bw.put at fh;split at fh
 ·rcases cx.1 fh with fh|fh
  ·exact hp x (fR.1 (aby _ _ _ _ x fh)).1
  ·rw[jn.1 fh,dp];exact aY _
 ·exact hp x fh
theorem Wq (E:ao)(op:Int)(L:List mX)(n:Nat):(E.jD op L n).s=E.s∧(E.jD op L n).a=E.a∧(E.jD op L n).p=E.p:=by
 have hn:∀(l:List gI) (E:ao),(E.notes l).s=E.s∧(E.notes l).a=E.a∧(E.notes l).p=E.p:=by
  intro l;unfold ao.notes
  induction l with
  |nil=>exact fun E=>⟨rfl,rfl,rfl⟩
  |cons x l ih=>exact fun E=>ih (E.raise _ 1)
 obtain⟨h1,h2,h3⟩:=hn (L.map fun i=>(⟨i,none,0⟩:gI)) ((E.raise 0 1).raise 2 (L.map fun i=>(⟨i,none,0⟩:gI)).length);unfold ao.jD ao.note ao.Ax
 (repeat' split)<;>exact⟨h1,h2,h3⟩
theorem ahK (E:ao)(k:Bs):(E.out [k]).eR k=none:=by
 show(E.eJ k).eR k=none;unfold ao.eJ;split
 ·show(if bf k=true then jq (dj E.s.E k) k else none)=none;split
  ·refine List.find?_eq_none.2 fun x hx=>?_
   have:=(fR.1 (show x∈dj E.s.E k from hx)).2;simpa using this
  ·rfl
 ·assumption
theorem ab6 {E:ao}{k:Bs}(h:∀x,E.eR k=some x→¬E.p.of k≤x.st):(E.pU k).m=0:=by
 have h0:∀now,E.item k now=yx:=fun now=>by
  unfold ao.item;cases he:E.eR k with
  |none=>rfl
  |some x=>dsimp only;rw[if_neg (h x he)]
 have hl:E.live k=false:=by
  unfold ao.live;rw[h0];rfl
 have hm:E.meet k=E.out [k]:=by
  unfold ao.meet;rw[if_neg (by rw[hl];simp)]
 unfold ao.pU;rw[hm];unfold ao.item;rw[ahK];rfl
theorem afj {E1:ao}(h1:lS E1):let E2:=(E1.cU 2 (eK 3 [97,47])).1;(E2.cU 2 rh).2.1.err=0∧(∃i,(E2.cU 2 rh).2.1.L=[i]∧i.m=0)∧(E2.cU 2 rh).2.2=0:=by
 intro E2;have Nt:E1.dW 2 (iA (eK 3 [97,47]).op) (eK 3 [97,47])=0:=by
  have hp:iB E1.cb (iA (eK 3 [97,47]).op) (eK 3 [97,47])=0:=rfl;unfold ao.dW;rw[if_neg (by rw[hp];simp),if_neg (by simp;rfl),if_neg (by simp[eK,gx])]
 have dx:E2=((E1.start 2).oB 10 [97,47]).jD 10 [] 0:=by
  show(E1.cU 2 (eK 3 [97,47])).1=_;unfold ao.cU;rw[if_pos (by simp[eK,gx]),if_pos Nt,Df (by simp[eK,gx])];rfl
 have hw2:E2.dW 2 (iA rh.op) rh=0:=by
  have hp:iB E2.cb (iA rh.op) rh=0:=rfl;unfold ao.dW;rw[if_neg (by rw[hp];simp),if_neg (by simp;rfl),if_neg (by simp[rh])]
 have ade:((E2.start 2).pU kA).m=0:=by
  refine ab6 fun x hx=>?_
  obtain⟨a1,a2,a3⟩:=Pa E2 2;obtain⟨n1,n2,n3⟩:=Wq ((E1.start 2).oB 10 [97,47]) 10 [] 0;obtain⟨b1,b2,b3⟩:=Pa E1 2;rw[←dx] at n1 n2 n3;have wE:x∈(E2.start 2).s.E:=by
   unfold ao.eR at hx;split at hx
   ·exact List.mem_of_find?_eq_some hx
   ·cases hx
  rw[a1] at wE;have fh:=(fR.1 wE).1;rw[n1] at fh;have Fc:x.st≤E1.a.last:=by
   have:=h1.start 2 x fh;rw[b2] at this;exact this
  rw[a3,n3];show¬((E1.start 2).p.oA [97,47] ((E1.start 2).a.last+1)).of kA≤x.st;rw[b2];have tB:E1.a.last+1≤((E1.start 2).p.oA [97,47] (E1.a.last+1)).of kA:=by
   have h2:∀P:Bs→Nat,P [97,47]≤lE P kA 4:=fun P=>by
    show P [97,47]≤max (max (max (max 0 (P [])) (P [97])) (P [97,47])) (P [97,47,49]);omega
   unfold iq.of;refine dF (dF (Nat.le_of_eq ?_) (h2 _)) (Nat.le_max_right _ _);simp[iq.oA]
  omega
 unfold ao.cU;rw[if_pos (by simp[rh]),if_pos hw2,KL (by simp[rh])];exact⟨rfl,⟨(E2.start 2).pU kA,rfl,ade⟩,rfl⟩
theorem lS.aaQ (E:ao)(h:lS E):lS (E.cU 1 gQ).1:=by
 unfold ao.cU;split
 ·split
  ·rw[De (by simp[gQ])];obtain⟨n1,n2,_⟩:=Wq ((E.start 1).write gQ) gQ.op [] (cO (E.start 1).g.E gQ.k).length;refine lS.sub ((h.start 1).write gQ) (fun x hx=>?_) ?_
   ·have e:(((E.start 1).write gQ).jD gQ.op [] (cO (E.start 1).g.E gQ.k).length).s.E=((E.start 1).write gQ).s.E:=congrArg bw.E n1;rw[←e];exact hx
   ·show _≤(((E.start 1).write gQ).jD gQ.op [] (cO (E.start 1).g.E gQ.k).length).a.last;rw[n2];exact aY _
  ·exact h
 ·exact h
theorem lS.new (c:rF):lS (jT c):=fun _ h=>by cases h
theorem aff {E:Bs→Bs→Prop}(h:∀a b,¬E a b)(k:Bs):ie E k=[]:=by
 unfold ie;split
 ·rename_i hL
  obtain⟨_,_,h3⟩:=Classical.choose_spec hL;exact List.eq_nil_iff_forall_not_mem.2 fun c hc=>h k c ((h3 c).1 hc)
 ·rfl
theorem Zo {E:Bs→Bs→Prop}(h:∀a b,¬E a b)(k:Bs):cO E k=[]:=by
 unfold cO;split
 ·have hl:wJ (ie E) [k] [k]=[]:=by
   unfold wJ;rw[List.flatMap_cons,aff h];rfl
  have hs:fj ([]:List Bs)=[]:=gu (lJ _).length_eq;have hr:lR (ie E) ([k]++wJ (ie E) [k] [k]) (fj (wJ (ie E) [k] [k])) []:=by
   rw[hl,hs];exact lR.stop
  have:=VF (lR.step (f:=ie E) (met:=[k]) (last:=[k]) (by simp) hr);rw[this,if_pos hl];rfl
 ·rfl
def eh (k t:Bs):dd:=⟨1,k,[],[],[t],never,0,[],[],[]⟩
structure WI (E:ao)(c:Nat)(T:Bs→Option Bs):Prop where
 cb:E.cb=100000
 bytes:E.s.bytes=100000
 many:E.s.many=100
 aD:E.r.aD=100
 gE:∀a b,¬E.g.E a b
 now:E.now=0
 rJ:E.a.now=0
 gr:E.a.dK=9
 last:E.a.last=0
 A:∀n,E.a.A n=⟨0,[]⟩
 p:∀k,E.p.of k=0
 len:E.s.E.length≤c
 wN:E.r.N.length≤c
 ri:RI E.s.E E.r.live E.r.N
 eR:∀x∈E.s.E,bf x.k=true∧x.st=0∧x.d=never∧eN x≤400∧x.n≤E.aR
 Aw:(E.s.E.map (·.k)).Nodup
 tag:∀x∈E.s.E,∃t,eV t=true∧T x.k=some t∧x.t=[t]
 has:∀k t,bf k=true→T k=some t→∃x∈E.s.E,x.k=k
theorem WI.cP {E:ao}{c:Nat}{T:Bs→Option Bs}(h:WI E c T)(l:List Nat):WI { E with cP:=l} c T:=
 ⟨h.cb,h.bytes,h.many,h.aD,h.gE,h.now,h.rJ,h.gr,h.last,h.A,h.p,h.len,h.wN,h.ri,h.eR,h.Aw,h.tag,h.has⟩
theorem WI.up {E:ao}{c d:Nat}{T:Bs→Option Bs}(h:WI E c T)(hd:c≤d):WI E d T:=
 ⟨h.cb,h.bytes,h.many,h.aD,h.gE,h.now,h.rJ,h.gr,h.last,h.A,h.p,dF h.len hd,dF h.wN hd,h.ri,h.eR,h.Aw,h.tag,h.has⟩
theorem WI.tick {E:ao}{c:Nat}{T:Bs→Option Bs}(h:WI E c T):WI E.tick c T:=
 ⟨h.cb,h.bytes,h.many,h.aD,h.gE,h.now,h.rJ,h.gr,h.last,h.A,h.p,h.len,h.wN,h.ri,h.eR,h.Aw,h.tag,h.has⟩
theorem WI.start {E:ao}{c:Nat}{T:Bs→Option Bs}(h:WI E c T):WI (E.start 0) c T:=by
 obtain⟨K,hK⟩:=XW (fun x hx=>(h.eR x hx).2.2.1) 0;rw[hK,h.now];refine⟨h.cb,h.bytes,h.many,h.aD,h.gE,rfl,?_,h.gr,h.last,fun n=>?_,h.p,h.len,h.wN,h.ri,h.eR,h.Aw,h.tag,h.has⟩
 ·show max E.a.now (max 0 0)=0;rw[h.rJ];rfl
 ·show(E.a.A n).norm _ _=_;rw[h.A];rfl
theorem abN {S:bW}(h:∀n,S.A n=⟨0,[]⟩)(l:List Nat):(∀n,(S.forget l).A n=⟨0,[]⟩)∧(S.forget l).now=S.now∧(S.forget l).dK=S.dK∧(S.forget l).last=S.last:=by
 unfold bW.forget
 induction l generalizing S with
 |nil=>exact⟨h,rfl,rfl,rfl⟩
 |cons m l ih=>
  have h2:∀n,(S.set m ⟨0,[]⟩).A n=⟨0,[]⟩:=fun n=>by
   show(if n=m then _ else _)=_;split
   ·rfl
   ·exact h n
  obtain⟨q1,q2,q3,q4⟩:=ih h2;exact⟨q1,q2,q3,q4⟩
theorem WI.out {E:ao}{c:Nat}{T:Bs→Option Bs}(h:WI E c T){k:Bs}(hk:bf k=true) :
  WI (E.eJ k) c (fun j=>if j=k then none else T j)∧(∀x∈(E.eJ k).s.E,x.k≠k)∧(E.eJ k).aR=E.aR:=by
 have xW:E.eR k=jq E.s.E k:=by unfold ao.eR;rw[if_pos hk]
 unfold ao.eJ;rw[xW];cases hf:jq E.s.E k with
 |none=>
  have bz:∀x∈E.s.E,x.k≠k:=fun x hx e=>by
   have:=List.find?_eq_none.1 hf x hx;exact this (b8 e)
  dsimp only;refine⟨⟨h.cb,h.bytes,h.many,h.aD,h.gE,h.now,h.rJ,h.gr,h.last,h.A,h.p,h.len,h.wN,h.ri,h.eR,h.Aw,fun x hx=>?_,fun k' t dR ht=>?_⟩,bz,rfl⟩
  ·rw[if_neg (bz x hx)];exact h.tag x hx
  ·split at ht
   ·cases ht
   ·exact h.has k' t dR ht
 |some x=>
  have hx:x∈E.s.E:=List.mem_of_find?_eq_some hf;have eS:x.k=k:=by
   have:=List.find?_some hf;exact dM this
  have eO:(dj E.s.E k).Sublist E.s.E:=List.filter_sublist;have bz:∀y∈dj E.s.E k,y.k≠k:=fun y hy=>dM (fR.1 hy).2
  obtain⟨t,m,hl,Nb,hnl⟩:=h.ri.drop E.r.aD hx eO fun hh=>bz x hh eS
  have hD:iW E.r x.n=((gj ⟨E.r.aD,E.r.N⟩ [m]).1,0,⟨E.r.aD,(gj ⟨E.r.aD,E.r.N⟩ [m]).2.N,E.r.last,fun j=>if j=x.n then none else E.r.live j,E.r.K+1⟩):=by
   unfold iW;rw[hl]
  dsimp only;unfold ao.qe;rw[hD];obtain⟨a1,a2,a3,a4⟩:=abN h.A (gj ⟨E.r.aD,E.r.N⟩ [m]).1;refine⟨⟨h.cb,h.bytes,h.many,h.aD,h.gE,h.now,a2.trans h.rJ,a3.trans h.gr,a4.trans h.last,a1,h.p,dF eO.length_le h.len,?_,Nb,fun y hy=>h.eR y (eO.subset hy),(eO.map _).nodup h.Aw,fun y hy=>?_,fun k' t' dR ht=>?_⟩,bz,rfl⟩
  ·show(gj ⟨E.r.aD,E.r.N⟩ [m]).2.N.length≤c;rw[hnl];exact h.wN
  ·rw[if_neg (bz y hy)];exact h.tag y (eO.subset hy)
  ·split at ht
   ·cases ht
   ·rename_i aP
    obtain⟨y,hy,e⟩:=h.has k' t' dR ht;exact⟨y,fR.2 ⟨hy,b8 fun e2=>aP (e.symm.trans e2)⟩,e⟩
theorem alq {L:List bM}(h:∀x∈L,eN x≤400):ej L≤400*L.length:=by
 unfold ej
 induction L with
 |nil=>simp
 |cons x L ih=>
  have h1:=h x (oK);have h2:=ih fun y hy=>h y (fP _ hy)
  simp only[cJ,List.sum_cons,ek];omega
theorem WI.put {E:ao}{c:Nat}{T:Bs→Option Bs}(h:WI E c T)(hc:c<10){k t:Bs}(hk:bf k=true)(Ex:k.length≤20)(ht:eV t=true)(bz:∀x∈E.s.E,x.k≠k)(hT:T k=none) :
  let E1:ao:={ E with aR:=E.aR+1};WI ((E1.put (E1.vb (eh k t))).add (bY (eh k t).t).1) (c+1) (fun j=>if j=k then some t else T j):=by
 intro E1;have ot:bY (eh k t).t=([t],0):=Ks ht;have tE:t.length≤64:=(dM ht).2;have hd:lL E1.now (eh k t).d=never:=by
  show lL E.now never=never;unfold lL;rw[if_pos ah]
 have aP:E1.vb (eh k t)=⟨k,[],[t],never,E.aR+1,0⟩:=by
  unfold ao.vb;rw[ot,hd];show(⟨k,[],[t],never,E.aR+1,E.a.last⟩:bM)=_;rw[h.last]
 rw[aP,ot];have Ss:eN ⟨k,[],[t],never,E.aR+1,0⟩≤400:=by
  unfold eN kZ;simp;omega
 have hpe:ql E.s ⟨k,[],[t],never,E.aR+1,0⟩=0:=by
  unfold ql;rw[if_pos ⟨hk,Ks ht⟩,if_neg (by simp),if_neg (by rw[h.bytes];omega)]
 have wA:dj E.s.E k=E.s.E:=oM.2 fun x hx=>b8 (bz x hx)
 have hlen:=h.len;have uQ:=alq fun x hx=>(h.eR x hx).2.2.2.1
 have tA:iu E.s.bytes E.s.many (eN ⟨k,[],[t],never,E.aR+1,0⟩) (dj E.s.E k)=([],E.s.E):=by
  rw[wA];refine Rb ?_;rw[h.bytes,h.many];omega
 have Ad:E.s.put ⟨k,[],[t],never,E.aR+1,0⟩=({ E.s with E:=E.s.E++[⟨k,[],[t],never,E.aR+1,0⟩],K:=E.s.K+1+E.s.E.length},[]):=by
  unfold bw.put;rw[if_pos hpe,tA]
 have aN:∀x∈E.s.E,x.n≠E.aR+1:=fun x hx=>by have:=(h.eR x hx).2.2.2.2;omega
 have jd:fp ⟨E.r.aD,E.r.N⟩ t=((((cL E.r.N t).2:Nat):Int),0,⟨E.r.aD,(cL E.r.N t).1⟩):=by
  unfold fp;rw[if_neg];rintro⟨_,h2⟩;have h3:du E.r.N=E.r.aD:=h2;have:=K6 E.r.N;have:=h.wN;have:=h.aD;omega
 have acK:iU [t] ⟨E.r.aD,E.r.N⟩ []=([(cL E.r.N t).2],0,⟨E.r.aD,(cL E.r.N t).1⟩):=by
  unfold iU;rw[jd,if_pos rfl];unfold iU;simp
 have hra:(ji E.r (E.aR+1) [t]).2.2=⟨E.r.aD,(cL E.r.N t).1,E.aR+1,fun j=>if j=E.aR+1 then some ([t],[(cL E.r.N t).2]) else E.r.live j,E.r.K+1⟩:=by
  unfold ji;rw[acK,if_pos rfl]
 have hE:((E1.put ⟨k,[],[t],never,E.aR+1,0⟩).add ([t],(0:Int)).1)={ E1 with s:={ E.s with E:=E.s.E++[⟨k,[],[t],never,E.aR+1,0⟩],K:=E.s.K+1+E.s.E.length},r:=⟨E.r.aD,(cL E.r.N t).1,E.aR+1,fun j=>if j=E.aR+1 then some ([t],[(cL E.r.N t).2]) else E.r.live j,E.r.K+1⟩}:=by
  unfold ao.put ao.add;show({ (ao.ft { E1 with s:=(E.s.put _).1} (E.s.put _).2) with r:=_}:ao)=_;rw[Ad];show({ E1 with s:=_,r:=(ji E.r (E.aR+1) [t]).2.2}:ao)=_;rw[hra];rfl
 rw[hE];have Nb:=h.ri.add (e:=⟨k,[],[t],never,E.aR+1,0⟩) (t:=t) rfl aN;refine⟨h.cb,h.bytes,h.many,h.aD,h.gE,h.now,h.rJ,h.gr,h.last,h.A,h.p,?_,dF (Y8 _ _) (Nat.succ_le_succ h.wN),Nb,fun x hx=>?_,?_,fun x hx=>?_,fun k' t' dR TJ=>?_⟩
 ·show(E.s.E++[_]).length≤c+1;rw[bH,gW];omega
 ·rcases cx.1 hx with hx|hx
  ·obtain⟨q1,q2,q3,q4,q5⟩:=h.eR x hx;exact⟨q1,q2,q3,q4,ua q5⟩
  ·obtain rfl:=jn.1 hx;exact⟨hk,rfl,rfl,Ss,aY _⟩
 ·show((E.s.E++[(⟨k,[],[t],never,E.aR+1,0⟩:bM)]).map fun x:bM=>x.k).Nodup;rw[eA,ga];refine⟨h.Aw,by simp,fun a ha b hb e=>?_⟩;obtain⟨x,hx,rfl⟩:=bG.1 ha;simp at hb;exact bz x hx (e.trans hb)
 ·rcases cx.1 hx with hx|hx
  ·rw[if_neg (bz x hx)];exact h.tag x hx
  ·obtain rfl:=jn.1 hx;exact⟨t,ht,by rw[if_pos rfl],rfl⟩
 ·by_cases e:k'=k
  ·subst e;exact⟨_,cx.2 (.inr (jn.2 rfl)),rfl⟩
  ·rw[if_neg e] at TJ;obtain⟨x,hx,ex⟩:=h.has k' t' dR TJ;exact⟨x,cx.2 (.inl hx),ex⟩
theorem WI.cU {E:ao}{c:Nat}{T:Bs→Option Bs}(h:WI E c T)(hc:c<10){k t:Bs}(Ex:k.length≤20)(ht:eV t=true) :
  WI (E.cU 0 (eh k t)).1 (c+1) (fun j=>if bf k=true∧j=k then some t else T j):=by
 have ot:bY (eh k t).t=([t],0):=Ks ht;have tE:t.length≤64:=(dM ht).2
 by_cases hk:bf k=true
 ·have hp:iB E.cb (iA (eh k t).op) (eh k t)=0:=by
   show iB E.cb 13 (eh k t)=0;unfold iB;rw[ot,show hasB 13 1=true from rfl,show hasB 13 2=false from rfl,show hasB 13 4=true from rfl,show hasB 13 16=false from rfl,show hasB 13 32=false from rfl,show hasB 13 64=false from rfl,show hasB 13 8=true from rfl,h.cb];have e1:(eh k t).k=k:=rfl;have e2:(eh k t).d=never:=rfl;have e3:(eh k t).v=[]:=rfl;rw[e1,e2,e3,hk];unfold kZ never;simp;omega
  have hw:E.dW 0 (iA (eh k t).op) (eh k t)=0:=by
   unfold ao.dW;have bT:iA (eh k t).op=13:=by unfold iA eh;rw[if_pos (.inl rfl)]
   rw[bT] at hp ⊢;rw[if_neg (by rw[hp];simp),if_pos (by rfl)];unfold ao.Gh;have hN:=h.wN;have wc:=K6 E.r.N;rw[if_neg (by simp[eh]),if_neg (by simp[eh]),if_neg (by simp[eh]),ot,if_neg];have q7:tJ E.r.N ([t],(0:Int)).1≤1:=pF _ _;rw[h.aD];omega
  have h1:=h.start;obtain⟨h2,h3,h4⟩:=(h1.tick).out hk;have B':(E.start 0).write (eh k t)=(({ (E.start 0).tick.eJ k with aR:=((E.start 0).tick.eJ k).aR+1}:ao).put (({ (E.start 0).tick.eJ k with aR:=((E.start 0).tick.eJ k).aR+1}:ao).vb (eh k t))).add (bY (eh k t).t).1:=by
   have cK:(E.start 0).pre (eh k t)={ (E.start 0).tick.eJ k with aR:=((E.start 0).tick.eJ k).aR+1}:=by
    unfold ao.pre;rw[Zo h1.gE];show({ ((E.start 0).tick.eJ k) with aR:=(E.start 0).aR+1}:ao)=_;rw[h4];rfl
   unfold ao.write;rw[cK]
  have h5:=h2.put hc hk Ex ht h3 (by rw[if_pos rfl]);dsimp only at h5;unfold ao.cU;rw[if_pos (by simp[eh]),if_pos hw,De (by simp[eh])];dsimp only;obtain⟨l,hl⟩:=Wp ((E.start 0).write (eh k t)) (eh k t).op [] (cO (E.start 0).g.E (eh k t).k).length;rw[hl,B'];refine WI.cP ?_ l;have Md:(fun j=>if bf k=true∧j=k then some t else T j)=(fun j=>if j=k then some t else(if j=k then none else T j)):=by
   funext j
   by_cases e:j=k
   ·rw[if_pos ⟨hk,e⟩,if_pos e]
   ·rw[if_neg (fun h=>e h.2),if_neg e,if_neg e]
  rw[Md];exact h5
 ·have hp:iB E.cb (iA (eh k t).op) (eh k t)≠0:=by
   show iB E.cb 13 (eh k t)≠0;unfold iB;have e1:(eh k t).k=k:=rfl;rw[show hasB 13 1=true from rfl,e1,if_pos (by simpa using hk)];simp
  have hw:E.dW 0 (iA (eh k t).op) (eh k t)≠0:=by
   unfold ao.dW;rw[if_pos hp];exact hp
  unfold ao.cU;rw[if_pos (by simp[eh]),if_neg hw];dsimp only;have Md:(fun j=>if bf k=true∧j=k then some t else T j)=T:=by
   funext j;rw[if_neg fun h=>hk h.1]
  rw[Md];exact(h.up (pJ c)).cP _
def Dr:rF:=⟨100000,100,100,1,1,9,0⟩
theorem WI.new:WI (jT Dr) 0 (fun _=>none):=by
 refine⟨rfl,rfl,rfl,rfl,fun _ _ h=>h,rfl,rfl,rfl,rfl,fun _=>rfl,fun k=>?_,aY _,aY _,⟨fun _ h=>(by cases h),fun _=>bh _,lP,fun n _ _ _ h=>(by cases h)⟩,fun _ h=>(by cases h),lP,fun _ h=>(by cases h),fun _ _ _ h=>(by cases h)⟩;show FB.of k=0;unfold iq.of sy;have:∀n,lE FB.T.P k n=0:=fun n=>by
  induction n with
  |zero=>rfl
  |succ n ih=>unfold lE;rw[ih];rfl
 rw[this];rfl
theorem WI.pi {E:ao}{c:Nat}{T:Bs→Option Bs}(h:WI E c T){k t:Bs}(hk:bf k=true)(hT:T k=some t):∃x m,PI E k x m t false false:=by
 obtain⟨y,hy,Fg⟩:=h.has k t hk hT;cases hf:jq E.s.E k with
 |none=>
  have:=List.find?_eq_none.1 hf y hy;exact absurd (b8 Fg) this
 |some x=>
  have hx:x∈E.s.E:=List.mem_of_find?_eq_some hf;have eS:x.k=k:=by
   have:=List.find?_some hf;exact dM this
  obtain⟨t1,a1,a2,a3⟩:=h.tag x hx;rw[eS,hT] at a2;cases a2;obtain⟨t2,m,b1,b2,b3⟩:=h.ri.idx hx;rw[a3] at b1;cases b1;have o9:qn E.r x.n=[m]:=by unfold qn;rw[b2];rfl
  obtain⟨e1,e2,e3,e4,e5⟩:=h.eR x hx;exact⟨x,m,fun y hy=>(h.eR y hy).2.2.1,hf,o9,b3,a1,e2,by rw[h.now];exact bh _,by rw[h.rJ];exact bh _,h.gr,fun h=>by(cases h),fun _=>⟨h.p k,by rw[h.A]⟩,(fun h=>by cases h),fun _=>by rw[h.A],by rw[h.A];intro y hy;cases hy⟩
end Go.Proofs.YtoloaehmppcjoaaGreat.V.M
