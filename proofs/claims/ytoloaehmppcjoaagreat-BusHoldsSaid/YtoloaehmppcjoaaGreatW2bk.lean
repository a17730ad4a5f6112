/-
  Parts of the proof. No condition.
-/
import Derived.Test.YtoloaehmppcjoaaGreatW2bj
import Derived.Test.YtoloaehmppcjoaaGreatW2bd
set_option linter.unusedVariables false
set_option linter.unusedSimpArgs false
set_option maxRecDepth 8000
set_option maxHeartbeats 8000000
open Go.Proofs.Tryz
namespace Go.Proofs.YtoloaehmppcjoaaGreat.V.M
attribute [local irreducible] GO GX aB fz aF aS aq star
variable {o:Og}{w:World}
def Cr:sX:=⟨fun _=>0,0⟩
theorem ahd (b:Nat):Gu [([],⟨b,[],0,(none,0),[]⟩)] Cr:=by
 have hg:∀t,ay [(([]:Bs),(⟨b,[],0,(none,0),[]⟩:Tn))] t=if t=[] then some ⟨b,[],0,(none,0),[]⟩ else none:=fun t=>rfl
 have hx:∀t x,ay [(([]:Bs),(⟨b,[],0,(none,0),[]⟩:Tn))] t=some x→t=[]∧x=⟨b,[],0,(none,0),[]⟩:=fun t x h=>by
  rw[hg] at h;split at h
  ·cases h;exact⟨by assumption,rfl⟩
  ·cases h
 refine⟨⟨⟨⟨_,rfl,rfl⟩,fun s x h e he=>?_,fun s x h=>?_,fun s x h e he=>?_,fun s x t y h k _ hn=>?_,fun s x h=>?_,fun s x h=>?_⟩,by simp⟩,fun s=>?_,aY _⟩
 ·obtain⟨_,rfl⟩:=hx _ _ h;cases he
 ·obtain⟨_,rfl⟩:=hx _ _ h;exact List.Pairwise.nil
 ·obtain⟨_,rfl⟩:=hx _ _ h;cases he
 ·exact absurd ((hx _ _ h).1.trans (hx _ _ k).1.symm) hn
 ·rw[(hx _ _ h).1];exact bh _
 ·obtain⟨_,rfl⟩:=hx _ _ h;exact bh _
 ·unfold bX;rw[hg]
  by_cases h:s=[]<;>simp[h,Cr]
theorem Yj (hs:Start o w []):aj prog 102 [].toArray w (aX o (fun t:Nat=>ak t) (fun _=>True) (fun t=>[nH t Cr])):=by
 have hH:=hs.sh;refine aj.enter func102 rfl ntmps102 rfl (gh ?_);refine GX.cI (h:=fun b w hH=>gh ?_);refine GX.cI (h:=fun t w hH=>gh ?_);have aQ:=SH.cF (el:=279) (sz:=1) (q:=none) (n:=0) (c:=0) (cs:=[]) hH.pR (Mod.refl w) (fun _ h=>by cases h) (aH.nil _ _ _);have cH:=aQ.wO (M:=[]) [] ⟨b,[],0,(none,0),[]⟩;exact⟨t,rfl,trivial,(CY (ahd b) cH).to⟩
theorem Xx {T:cy}(hT:TT T){s:Bs}{x:Tn}(hx:ay T s=some x){n:Nat}(hn:n≤never) :
  TT (bC T s { x with n:=n})∧(∀t,bX (ay (bC T s { x with n:=n})) t=if t=s then n else bX (ay T) t)∧jh (bC T s { x with n:=n})=jh T:=by
 refine⟨⟨by rw[Ju];exact hT.ok.O7 hx hn,sB hT.nd _ _⟩,fun t=>by rw[Ju];exact ab8 t,J0 hT fun r hr=>?_⟩;rw[Ju]
 by_cases e:s=[]
 ·subst e;rw[hr] at hx;cases hx;exact⟨_,gF _ _ _,rfl⟩
 ·exact⟨r,by rw[dD (Ne.symm e)];exact hr,rfl⟩
theorem ahe {T:cy}(hT:TT T){s:Bs}{x:Tn}(hx:ay T s=some x){p:Bs}(hp:p≠[])(hl:(s++p).length≤250){i:Nat}(h1:∀e∈x.ks.take i,hd e.1<hd p)(h2:∀e∈x.ks.drop i,hd p<hd e.1)(bn:Nat)(q:Option Nat×Nat) :
  TT ((s++p,⟨bn,p,0,(none,0),[]⟩)::(s,{ x with ks:=x.ks.take i++(p,bn)::x.ks.drop i,q:=q})::bB T s)∧(∀t,bX (ay ((s++p,(⟨bn,p,0,(none,0),[]⟩:Tn))::(s,{ x with ks:=x.ks.take i++(p,bn)::x.ks.drop i,q:=q})::bB T s)) t=bX (ay T) t)∧jh ((s++p,(⟨bn,p,0,(none,0),[]⟩:Tn))::(s,{ x with ks:=x.ks.take i++(p,bn)::x.ks.drop i,q:=q})::bB T s)=jh T:=by
 obtain⟨bz,aU⟩:=hT.ok.leaf hx hp hl h1 h2 (bn:=bn) (n:=0) (q:=q) (q':=(none,0)) (bh _);have fW:s≠s++p:=fun e=>hp (by simpa using e)
 have hg:ay ((s++p,(⟨bn,p,0,(none,0),[]⟩:Tn))::(s,{ x with ks:=x.ks.take i++(p,bn)::x.ks.drop i,q:=q})::bB T s)=ew (ew (ay T) s (some { x with ks:=x.ks.take i++(p,bn)::x.ks.drop i,q:=q})) (s++p) (some ⟨bn,p,0,(none,0),[]⟩):=by
  funext t;rw[wL,wL,iS hT.nd];unfold ew
  by_cases a1:t=s++p
  ·simp only[if_pos a1]
  ·by_cases a2:t=s
   ·subst a2;simp only[if_neg a1,eq_self,if_true]
   ·simp only[if_neg a1,if_neg a2]
 refine⟨⟨by rw[hg];exact aU,?_⟩,fun t=>?_,J0 hT fun r hr=>?_⟩
 ·simp only[cJ,eQ,bU];refine⟨fun h=>?_,fun h=>?_,wP hT.nd s⟩
  ·rcases h with h|h
   ·exact fW h.symm
   ·exact wM.1 bz ((u7 hT.nd).1 h).2
  ·exact((u7 hT.nd).1 h).1 rfl
 ·rw[hg];unfold bX
  by_cases a1:t=s++p
  ·rw[a1,gF,bz]
  ·rw[dD a1]
   by_cases a2:t=s
   ·rw[a2,gF,hx]
   ·rw[dD a2]
 ·rw[hg,dD (vc hp)]
  by_cases e:s=[]
  ·subst e;rw[hr] at hx;cases hx;exact⟨_,gF _ _ _,rfl⟩
  ·exact⟨r,by rw[dD (Ne.symm e)];exact hr,rfl⟩
theorem aeK {α β:Type}(f:α→β)(l:List α)(i:Nat)(x:α):(l.map f).take i++f x::(l.map f).drop i=(l.take i++x::l.drop i).map f:=by
 rw[eA,cJ,List.map_take,List.map_drop]
theorem aeL (l:List Nat)(i b:Nat):(bq l).take i++Value.pointer (some ⟨b,0,none⟩)::(bq l).drop i=bq (l.take i++b::l.drop i):=by
 simp[bq,ak,List.map_take,List.map_drop]
theorem QO:∀a b:Bs,kM a b≤a.length∧kM a b≤b.length∧a.take (kM a b)=b.take (kM a b)
 | [],[]=>by simp[kM]
 | [],_::_=>by simp[kM]
 |_::_,[]=>by simp[kM]
 |x::a,y::b=>by
  obtain⟨h1,h2,h3⟩:=QO a b;unfold kM;split
  ·rename_i h;subst h
   exact⟨by simpa using h1,by simpa using h2,by simpa using h3⟩
  ·simp
theorem aaw {a b:Bs}(ha:a≠[])(hb:b≠[])(h:hd a=hd b):0<kM a b:=by
 cases a with
 |nil=>exact absurd rfl ha
 |cons x a=>
  cases b with
  |nil=>exact absurd rfl hb
  |cons y b=>
   have:x=y:=UInt8.toNat_inj.1 h;simp[kM,this]
theorem Yl {t:Nat}{A:sX}(p:Bs)(n:Nat)(hp:p.length≤250)(hn:0<n)(ic:n≤never)(hK:A.K<2^40)(hs:Start o w [nH t A]) :
  aj prog 235 [ak t,str p,uV n].toArray w (Po o (iV 0) [nH t ⟨fun s=>if s=p then n else A.P s,A.K+1⟩]):=by
 have hH:=hs.sh;obtain⟨⟨T,hA⟩,hH⟩:=SH.un hH;replace hH:=SH.ap hH;dsimp only at hH;have hT:=hA.tt;have wc:=hA.cP;obtain⟨r0,iQ,_⟩:=hT.ok.root;have M7:=tQ iQ;refine aj.enter func235 rfl ntmps235 rfl (gh ?_);refine GX.aM (hc:=fun _ hs=>CX p hs) (h:=fun w hE hH=>gh ?_);rw[if_pos hp];refine gh ?_;rw[show decide ((n:Int)=0)=false by simp;omega];refine gh ?_;rw[M7] at hH ⊢;refine GC.QW (X:=cy×Tn) (fun y=>[(0,ak t),(2,uV n),(8,ak y.2.b)]) (fun y w'=>ay y.1 p=some y.2∧TT y.1∧(∀s,bX (ay y.1) s=bX (ay T) s)∧jh y.1=jh T∧SH o w' [aB t [ak r0.b,iV (fC T)],eU y.1]) ?_ ?_
 ·refine GC.bR [0,2] (fun y:Bs×Bs×cy×Tn=>[(1,str y.2.1),(8,ak y.2.2.2.b)]) (fun y w'=>ay y.2.2.1 y.1=some y.2.2.2∧y.1++y.2.1=p∧TT y.2.2.1∧(∀s,bX (ay y.2.2.1) s=bX (ay T) s)∧jh y.2.2.1=jh T∧SH o w' [aB t [ak r0.b,iV (fC T)],eU y.2.2.1]) (fun y=>y.2.1.length) ([],p,T,r0) rfl rfl ⟨iQ,rfl,hT,fun _=>rfl,rfl,hH.to⟩ ?_;rintro⟨s,rest,T1,x⟩ w ⟨hx,fW,ju,o9,yf,hH⟩;dsimp only at hx fW ju o9 yf hH ⊢;refine gh ?_;refine ifs (fun h1=>?_) (fun h1=>?_)<;>refine gh ?_
  ·obtain⟨u,rs,rfl⟩:∃u rs,rest=u::rs:=by
    cases rest with
    |nil=>exact absurd rfl h1
    |cons u rs=>exact⟨u,rs,rfl⟩
   refine GX.next rfl (GO.Am rfl rfl rfl rfl ah (u:=u) (by simp) rfl (gh ?_));refine GX.ef (hc:=fun _ hs=>On ju hx u.toNat (UInt8.toNat_lt u) hs) (h:=?_);rintro⟨i,is⟩ w ⟨hi,BP,TZ,bz⟩ hE hH;dsimp only at hi BP TZ bz;replace hH:=SH.ap hH;refine gh ?_;have cV:=ju.kl hx;have Iz:(s++(u::rs)).length≤250:=by rw[fW];exact hp
   cases is with
   |false=>
    have EB:=fun bn q=>ahe ju hx h1 Iz BP (bz rfl) bn q
    replace hH:=hH.ve hx;obtain⟨xb,xe,xn,⟨q,d⟩,ks⟩:=x;dsimp only at hH hi BP bz cV EB ⊢;refine gh ?_;refine GX.cI (h:=fun bn w hH=>gh ?_);refine GX.oF (h:=fun bv w hH=>gh ?_);refine GX.bZ (hc:=fun _ hs=>aeN i hi ah rfl (CH _) hs) (h:=?_);rintro⟨q4,c4⟩ w _ hH;replace hH:=SH.ap hH;refine gh ?_;refine GX.dC (h:=fun w hH=>gh ?_);rw[aeL,show((ks.map (·.2)).take i++bn::(ks.map (·.2)).drop i)=(ks.take i++((u::rs:Bs),bn)::ks.drop i).map (·.2) from aeK (fun e:Bs×Nat=>e.2) ks i ((u::rs:Bs),bn),show ks.length+1=(ks.take i++((u::rs:Bs),bn)::ks.drop i).length by simp;omega] at hH;have tu:=SH.cF (el:=279) (sz:=1) (q:=none) (n:=0) (c:=0) (cs:=[]) hH (Mod.refl w) (fun _ h=>by cases h) (aH.nil _ _ _);have aQ:=tu.wO s ⟨xb,xe,xn,(q4,c4),ks.take i++((u::rs:Bs),bn)::ks.drop i⟩;have cH:=aQ.wO (s++(u::rs)) ⟨bn,u::rs,0,(none,0),[]⟩;obtain⟨k1,k2,k3⟩:=EB bn (q4,c4);refine GQ.dm (_,⟨bn,u::rs,0,(none,0),[]⟩) (cR (l:=[0,2,8]) rfl) ⟨?_,k1,fun t=>(k2 t).trans (o9 t),k3.trans yf,cH.to⟩;show ay ((s++(u::rs),_)::_) p=_;rw[wL,if_pos fW.symm]
   |true=>
    obtain⟨e,he,El⟩:=TZ rfl;obtain⟨y,hy,fF,eT,aP,yi,_,wh⟩:=ju.jz hx he;have eY:=(aV.1 he).1;obtain⟨c1,c2,c3⟩:=QO (u::rs) e.1;have aaF:=aaw h1 aP El.symm;replace hH:=(hH.ve hx)
    have uW:ay (bB T1 s) (s++e.1)=some y:=by rw[iS ju.nd,if_neg (Ne.symm yi)];exact hy
    replace hH:=hH.ve uW;have back:∀{w:World},SH o w (aB y.b [str y.e,uV y.n, .slice (aA y.q.1) y.ks.length y.q.2]::aq 279 1 y.q.1 y.ks.length y.q.2 (bq (y.ks.map (·.2)))::eU (bB (bB T1 s) (s++e.1))::aB x.b [str x.e,uV x.n, .slice (aA x.q.1) x.ks.length x.q.2]::aq 279 1 x.q.1 x.ks.length x.q.2 (bq (x.ks.map (·.2)))::[aB t [ak r0.b,iV (fC T)]])→SH o w [aB t [ak r0.b,iV (fC T)],eU T1]:=fun {w} hH=>by
     have h1:=hH.iI (m:=bS kB (bB T1 s)) (kB (s++e.1,y)) (bS kB (bB (bB T1 s) (s++e.1))) (by repeat(first|exact Pk.nil|(apply Pk.cons;repeat(first|exact az.here|apply az.there)))) (pq uW);exact(h1.iI (m:=bS kB T1) (kB (s,x)) (bS kB (bB T1 s)) (by repeat(first|exact Pk.nil|(apply Pk.cons;repeat(first|exact az.here|apply az.there)))) (pq hx)).to
    have Nh:=fun(e1 e2:Bs) (En:e.1=e1++e2)=>show x.ks[i]?=some (e1++e2,y.b) by rw[he,eT,←En]
    have ya:(bq (x.ks.map (·.2)))[i]?=some (ak y.b):=by simp[bq,he,eT]
    have wv:∀T2:cy,ay T2 (s++e.1.take (kM (u::rs) e.1))=ay T2 (s++(u::rs).take (kM (u::rs) e.1)):=fun T2=>by rw[c3]
    have Ng:(s++(u::rs).take (kM (u::rs) e.1))++(u::rs).drop (kM (u::rs) e.1)=p:=by rw[cS,jW];exact fW
    have IE:(u::rs).length≤250:=by rw[bH] at Iz;omega
    rw[←fF] at aP wh c1 c2 c3 aaF wv Ng;obtain⟨qb,hq⟩:=hH.pos (el:=279) (sz:=1) (q:=x.q.1) (n:=x.ks.length);rw[hq] at hH;rw[hq] at back;refine gh ?_;refine GX.next rfl (GO.cT (hv:=ya) (h:=gh ?_));refine GX.ef (hc:=fun _ hs=>(aax (u::rs) y.e ah ah _).mono fun v w' ⟨h1,h2⟩=>(⟨(),h1,trivial,hs.sh.ext h2⟩:aX _ (fun _:Unit=>iV (kM (u::rs) y.e:Nat)) (fun _=>True) (fun _=>[]) v w')) (h:=?_);rintro _ w _ dx hH;replace hH:=SH.ap hH;refine gh ?_;generalize p5:kM (u::rs) y.e=c at *;refine ifs (fun h3=>?_) (fun h3=>?_)<;>refine gh ?_
    ·have NA:c<y.e.length:=by omega
     have mJ:=Nh (y.e.take c) (y.e.drop c) (by rw[jW,fF]);replace hH:=back hH.to;have wC:y.e.take c≠[]:=fun h=>by have:=congrArg List.length h;rw[dI,vz] at this;omega
     have ht2:y.e.drop c≠[]:=fun h=>by have:=congrArg List.length h;rw[ml,vz] at this;omega
     have tE:(y.e.take c).length=c:=by rw[dI];omega
     refine GX.bZ (hc:=fun _ hs=>by have:=ak1 ju hx mJ wC ht2 hs;rw[tE] at this;exact this) (h:=?_);rintro⟨bm,T2⟩ w ⟨k1,k2,k3,m,k4,k5⟩ hH;dsimp only at k1 k2 k3 k4 k5 hH;replace hH:=SH.ap hH;refine gh ?_;refine GC.br (pl:=(bg [0,3,6,9,12,15])) (T:=fun _=>False) (hm:=mixed) (h:=fun w hE hH=>gh ?_);refine GX.pure rfl (Gb (u::rs) rfl rfl rfl rfl rfl ah ah ?_);rw[show((c:Nat):Int).toNat=c by simp,←k5];refine gh ?_;refine GQ.bj (s++(u::rs).take c,(u::rs).drop c,T2,m) rfl ⟨(wv T2).symm.trans k4,Ng,k1,fun t=>(k2 t).trans (o9 t),k3.trans yf,hH.to⟩ (by simp only[ml];omega)
    ·have ac3:c=y.e.length:=by omega
     replace hH:=back hH.to;refine GC.br (pl:=(bg [0,3,6,9,12,15])) (T:=fun _=>False) (hm:=mixed) (h:=fun w hE hH=>gh ?_);refine GX.pure rfl (Gb (u::rs) rfl rfl rfl rfl rfl ah ah ?_);rw[show((c:Nat):Int).toNat=c by simp];refine gh ?_;refine GQ.bj (s++(u::rs).take c,(u::rs).drop c,T1,y) rfl ⟨?_,Ng,ju,o9,yf,hH.to⟩ (by simp only[ml];omega);show ay T1 (s++(u::rs).take c)=some y;rw[←wv T1,ac3,kD,fF];exact hy
  ·obtain rfl:rest=[]:=Classical.not_not.1 h1;rw[fB] at fW;subst fW;refine gh ?_;exact GQ.dm (T1,x) (cR (l:=[0,2,8]) rfl) ⟨hx,ju,o9,yf,hH.to⟩
 ·rintro⟨T1,x⟩ w ⟨hx,ju,o9,yf,hH⟩;dsimp only at hx ju o9 yf hH ⊢;obtain⟨k1,k2,k3⟩:=Xx ju hx ic;have hPp:A.P p=x.n:=by rw[hA.num,←o9];unfold bX;rw[hx]
  have Sl:fC T1=fC T:=QN hT.nd ju.nd o9;have fM:∀s,(if s=p then n else A.P s)=bX (ay (bC T1 p { x with n:=n})) s:=fun s=>by rw[k2,hA.num,o9]
  have TB:jh (bC T1 p { x with n:=n})=r0.b:=by rw[k3,yf,M7]
  replace hH:=hH.ve hx;have Ja:=ju.ok.num _ _ hx;refine gh ?_;refine ifs (fun h1=>?_) (fun h1=>?_)<;>refine gh ?_
  ·have uU:x.n=0:=by omega
   have uA:fC (bC T1 p { x with n:=n})=fC T+1:=by
    rw[←Sl];refine QM ju.nd k1.nd (s:=p) ?_ ?_ fun t ht=>?_
    ·unfold bX;rw[hx];exact uU
    ·rw[k2,if_pos rfl];exact hn
    ·rw[k2,if_neg ht]
   refine GX.dC (h:=fun w hH=>gh ?_);refine GX.dC (h:=fun w hH=>gh ?_);have aQ:=hH.Ot p { x with n:=n};rw[←TB,show(fC T:Int)+1=((fC (bC T1 p { x with n:=n}):Nat):Int) by rw[uA];simp] at aQ;exact⟨rfl,(CY (A:=⟨fun s=>if s=p then n else A.P s,A.K+1⟩) ⟨k1,fM,by rw[uA];show _≤A.K+1;omega⟩ aQ).to⟩
  ·have uU:0<x.n:=by omega
   have uA:fC (bC T1 p { x with n:=n})=fC T:=by
    rw[←Sl];have hxp:bX (ay T1) p=x.n:=by unfold bX;rw[hx]
    refine Nat.le_antisymm (Hb ju.nd k1.nd fun t ht=>?_) (Hb k1.nd ju.nd fun t ht=>?_)
    ·by_cases e:t=p
     ·subst e;omega
     ·rw[k2,if_neg e] at ht;exact ht
    ·rw[k2];split
     ·exact hn
     ·exact ht
   refine gh ?_;refine GX.dC (h:=fun w hH=>gh ?_);have aQ:=hH.Ot p { x with n:=n};rw[←TB,←uA] at aQ;exact⟨rfl,(CY (A:=⟨fun s=>if s=p then n else A.P s,A.K+1⟩) ⟨k1,fM,by rw[uA];show _≤A.K+1;omega⟩ aQ).to⟩
inductive mq (T:cy):List (Bs×Nat×Nat)→Prop
 |root {r:Tn}(h:ay T []=some r):mq T [([],0,r.b)]
 |step {s:Bs}{j b:Nat}{r:List (Bs×Nat×Nat)}{x y:Tn}{e:Bs×Nat}{i:Nat}(h:mq T ((s,j,b)::r)) (hx:ay T s=some x) (he:x.ks[i]?=some e) (hy:ay T (s++e.1)=some y):mq T ((s++e.1,i,y.b)::(s,j,b)::r)
theorem mq.head {T:cy}{s:Bs}{j b:Nat}{r:List (Bs×Nat×Nat)}(h:mq T ((s,j,b)::r)):∃x,ay T s=some x∧x.b=b:=by
 cases h with
 |root h=>exact⟨_,h,rfl⟩
 |step _ _ _ hy=>exact⟨_,hy,rfl⟩
theorem mq.ne {T:cy}{R:List (Bs×Nat×Nat)}(h:mq T R):∃a r,R=a::r:=by cases h<;>exact⟨_,_,rfl⟩
theorem mq.len {T:cy}(hT:TT T){R:List (Bs×Nat×Nat)}(h:mq T R):∀a r,R=a::r→r.length≤a.1.length:=by
 induction h with
 |root h=>rintro _ _ ⟨⟩;exact aY _
 |step h hx he hy ih=>
  rintro _ _ ⟨⟩;obtain⟨_,_,_,_,aP,_⟩:=hT.jz hx he;have h1:=ih _ _ rfl;have:=xw.2 aP;simp only[ek,bH] at h1 ⊢;omega
theorem mq.O7 {T:cy}{p:Bs}{x:Tn}(hx:ay T p=some x)(n:Nat){R:List (Bs×Nat×Nat)}(h:mq T R):mq (bC T p { x with n:=n}) R:=by
 have key:∀s y,ay T s=some y→∃y',ay (bC T p { x with n:=n}) s=some y'∧y'.b=y.b∧y'.ks=y.ks:=fun s y hy=>by
  rw[Ju]
  by_cases e:s=p
  ·subst e;rw[hx] at hy;cases hy;exact⟨_,gF _ _ _,rfl,rfl⟩
  ·exact⟨y,by rw[dD e];exact hy,rfl,rfl⟩
 induction h with
 |root h=>
  obtain⟨y,h1,h2,_⟩:=key _ _ h;rw[←h2];exact .root h1
 |step h lX he hy ih=>
  obtain⟨y,h1,h2,_⟩:=key _ _ hy;obtain⟨z,k1,_,k3⟩:=key _ _ lX;rw[←h2];exact .step ih k1 (by rw[k3];exact he) h1
theorem mq.inv {T:cy}{R:List (Bs×Nat×Nat)}(h:mq T R)(h2:2≤R.length):∃(s:Bs) (j b:Nat) (r:List (Bs×Nat×Nat)) (x:Tn) (e:Bs×Nat) (i yb:Nat),R=(s++e.1,i,yb)::(s,j,b)::r∧mq T ((s,j,b)::r)∧ay T s=some x∧x.b=b∧x.ks[i]?=some e:=by
 cases h with
 |root h=>simp at h2
 |step h hx he hy=>
  obtain⟨x',ke,gi⟩:=h.head;rw[hx] at ke;cases ke;exact⟨_,_,_,_,_,_,_,_,rfl,h,hx,gi,he⟩
theorem W2 {α β:Type}(f:α→β)(R:List α){m:Nat}(hm:m<R.length):(R.reverse.map f)[m]?=(R[R.length - 1 - m]?).map f:=by
 rw[gG,List.getElem?_reverse hm]
def KF (T:cy)(p:Bs)(y:List (Bs×Nat×Nat)×(Option Nat×Nat)×(Option Nat×Nat)):Prop:=
 (y.1=[]∧ay T p=none)∨(mq T y.1∧∃j b r,y.1=(p,j,b)::r)
def ON (y:List (Bs×Nat×Nat)×(Option Nat×Nat)×(Option Nat×Nat)):Value := .tuple #[.slice (aA y.2.1.1) y.1.length y.2.1.2, .slice (aA y.2.2.1) y.1.length y.2.2.2]
abbrev OM (y:List (Bs×Nat×Nat)×(Option Nat×Nat)×(Option Nat×Nat)):List It:=[aq 279 1 y.2.1.1 y.1.length y.2.1.2 (bq (y.1.reverse.map (·.2.2))),aq 3 1 y.2.2.1 y.1.length y.2.2.2 (aG (y.1.reverse.map (·.2.1)))]
theorem V6 {T:cy}(hT:TT T){s rest:Bs}{x:Tn}(hx:ay T s=some x)(hr:rest≠[])(bz:∀e∈x.ks,¬s++e.1 <+: s++rest):ay T (s++rest)=none:=by
 cases hg:ay T (s++rest) with
 |none=>rfl
 |some y=>
  obtain⟨e,he,hp⟩:=hT.ok.jP s x _ y hx hg (oJ _ _) fun e=>hr (by simpa using e)
  exact absurd hp (bz e he)
theorem Gs.no {ks:List (Bs×Nat)}{c i:Nat}(h:Gs ks c (i,false)):∀e∈ks,hd e.1≠c:=fun e he=>by
 rw[←jW i ks] at he
 rcases cx.1 he with he|he
 ·exact Nat.ne_of_lt (h.2.1 e he)
 ·exact Nat.ne_of_gt (h.2.2.2 rfl e he)
theorem WD {t:Nat}{T:cy}{v:Value}(hT:TT T)(p:Bs)(hp:p.length≤250)(hs:Start o w [fz (aB t [ak (jh T),v]),fz (eU T)]) :
  aj prog 375 [ak t,str p].toArray w (aX o ON (KF T p) OM):=by
 have hH:=hs.sh;obtain⟨r0,iQ,_⟩:=hT.ok.root;rw[tQ iQ] at hH;refine aj.enter func375 rfl ntmps375 rfl (gh ?_);refine GX.oF (h:=fun b1 w hH=>gh ?_);refine GX.oF (h:=fun b2 w hH=>gh ?_);refine GC.bR [] (fun y:Bs×List (Bs×Nat×Nat)×(Option Nat×Nat)×(Option Nat×Nat)=>[(1,str y.1),(6, .slice (aA y.2.2.1.1) y.2.1.length y.2.2.1.2),(7, .slice (aA y.2.2.2.1) y.2.1.length y.2.2.2.2)]) (fun y w'=>mq T y.2.1∧(∀a r,y.2.1=a::r→a.1++y.1=p)∧SH o w' (OM y.2++[fz (aB t [ak r0.b,v]),fz (eU T)])) (fun y=>y.1.length) (p,[([],0,r0.b)],(some b1,1),(some b2,1)) rfl rfl ⟨.root iQ,fun _ _ h=>by cases h;rfl,hH.to⟩ ?_;rintro⟨rest,R,⟨q1,c1⟩,⟨q2,c2⟩⟩ w ⟨hC,hR,hH⟩;dsimp only at hC hR hH ⊢;replace hH:=SH.ap hH;dsimp only at hH;obtain⟨⟨s,j,b⟩,R',rfl⟩:=hC.ne;have fW:=hR _ _ rfl;dsimp only at fW;have hlen:=hC.len hT _ _ rfl;obtain⟨x,hx,gi⟩:=hC.head;have TD:=hT.ok.len _ _ hx;dsimp only at hlen;refine gh ?_;refine ifs (fun h1=>?_) (fun h1=>?_)<;>refine gh ?_
 ·obtain⟨u,rs,rfl⟩:∃u rs,rest=u::rs:=by
   cases rest with
   |nil=>exact absurd rfl h1
   |cons u rs=>exact⟨u,rs,rfl⟩
  have lA:((s,j,b)::R').length=R'.length+1:=rfl;rw[lA] at hH ⊢;obtain⟨a1,rfl⟩:=hH.pos (el:=279) (sz:=1) (q:=q1);refine gh ?_;refine GX.next rfl (GO.cT (hv:=show(bq (((s,j,b)::R').reverse.map (·.2.2)))[R'.length]?=some (ak b) by simp[bq,iD]) (h:=gh ?_));refine GX.next rfl (GO.Am rfl rfl rfl rfl ah (u:=u) (by simp) rfl (gh ?_));refine GX.ef (hc:=fun _ hs=>by have:=On hT hx u.toNat (UInt8.toNat_lt u) hs;rw[gi] at this;exact this) (h:=?_);rintro⟨i,is⟩ w Bx hE hH;replace hH:=SH.ap hH;have cV:=hT.kl hx;have Iz:(s++(u::rs)).length≤250:=by rw[fW];exact hp
  have IE:(u::rs).length≤250:=by rw[bH] at Iz;omega
  cases is with
  |false=>
   refine gh ?_;have bz:=Bx.no;have h2:=SH.cF (el:=279) (sz:=1) (q:=none) (n:=0) (c:=0) (cs:=[]) hH (Mod.refl w) (fun _ h=>by cases h) (aH.nil _ _ _);have h3:=SH.cF (el:=3) (sz:=1) (q:=none) (n:=0) (c:=0) (cs:=[]) h2 (Mod.refl w) (fun _ h=>by cases h) (aH.nil _ _ _);refine⟨([],(none,0),(none,0)),rfl, .inl ⟨rfl,?_⟩,h3.to⟩;rw[←fW];exact V6 hT hx h1 fun e he cK=>bz e he (we cK lg (hT.ok.ne _ _ hx e he) h1)
  |true=>
   obtain⟨e,he,El⟩:=Bx.2.2.1 rfl;dsimp only at he;have eY:=(aV.1 he).1;obtain⟨y,hy,fF,eT,aP,yi,_,wh⟩:=hT.jz hx he;replace hH:=(hH.tM hx).tM hy;obtain⟨xb,xe,xn,⟨q,d⟩,ks⟩:=x;dsimp only at hH gi cV he eY;subst gi;obtain⟨qb,rfl⟩:=hH.l8 (el:=279) (sz:=1) (q:=q) (n:=ks.length);have ya:(bq (ks.map (·.2)))[i]?=some (ak y.b):=by simp[bq,he,eT]
   refine gh ?_;refine GX.next rfl (GO.cT (hv:=ya) (h:=gh ?_));refine GX.da (H6 (u::rs) y.e ah (by rw[fF];omega) _) rfl rfl rfl rfl rfl rfl (gh ?_)
   by_cases cK:y.e <+: u::rs
   ·rw[b8 cK];refine gh ?_;refine GX.next rfl (GO.cT (hv:=ya) (h:=gh ?_));have NA:=cK.length_le;refine GX.next rfl (Gb (u::rs) rfl rfl rfl rfl rfl ah ah ?_);rw[show((y.e.length:Nat):Int).toNat=y.e.length by simp];refine gh ?_;refine GX.next rfl (GO.cT (hv:=ya) (h:=gh ?_));refine GX.nR (h1:=by simp[Value.oneCell',ak]) (h:=fun q c w _ hH=>gh ?_);refine GX.nR (h1:=by simp[Value.oneCell']) (h:=fun q c w _ hH=>gh ?_);refine GQ.bj ((u::rs).drop y.e.length,(s++e.1,i,y.b)::(s,j,xb)::R',(_,_),(_,_)) rfl ⟨.step hC hx he hy,?_,?_⟩ ?_
    ·rintro _ _ ⟨⟩;obtain⟨z,hz⟩:=cK;rw[←fW,←hz];simp[fF]
    ·dsimp only[OM];rw[show(((s++e.1,i,y.b)::(s,j,xb)::R'):List (Bs×Nat×Nat)).reverse=((s,j,xb)::R').reverse++[(s++e.1,i,y.b)] by rw[List.reverse_cons]];rw[eA,eA,List.map_singleton,List.map_singleton,show∀l:List Nat,bq (l++[y.b])=bq l++[ak y.b] from fun l=>by simp[bq],show∀l:List Nat,aG (l++[i])=aG l++[iV i] from fun l=>by simp[aG]];exact hH.to
    ·have:=xw.2 aP;rw[←fF] at this;simp only[ml];omega
   ·rw[bQ cK];refine gh ?_;have h2:=SH.cF (el:=279) (sz:=1) (q:=none) (n:=0) (c:=0) (cs:=[]) hH (Mod.refl w) (fun _ h=>by cases h) (aH.nil _ _ _);have h3:=SH.cF (el:=3) (sz:=1) (q:=none) (n:=0) (c:=0) (cs:=[]) h2 (Mod.refl w) (fun _ h=>by cases h) (aH.nil _ _ _);refine⟨([],(none,0),(none,0)),rfl, .inl ⟨rfl,?_⟩,h3.to⟩;rw[←fW];refine V6 hT hx h1 fun f hf Ab=>cK ?_
    have h5:hd f.1=hd e.1:=(we Ab lg (hT.ok.ne _ _ hx f hf) h1).trans El.symm;have:=Ic (hT.ok.ord _ _ hx) hf (bD he) h5;subst this;rw[fF];exact WJ Ab
 ·obtain rfl:rest=[]:=Classical.not_not.1 h1;rw[fB] at fW;subst fW;refine gh ?_;exact⟨((s,j,b)::R',(q1,c1),(q2,c2)),rfl, .inr ⟨hC,j,b,R',rfl⟩,hH.to⟩
theorem KF.len {T:cy}(hT:TT T){p:Bs}{y:List (Bs×Nat×Nat)×(Option Nat×Nat)×(Option Nat×Nat)}(h:KF T p y)(hp:p.length≤250):y.1.length≤251:=by
 rcases h with⟨h,_⟩|⟨h,j,b,r,e⟩
 ·rw[h];simp
 ·have:=h.len hT _ _ e;rw[e];simp only[ek] at this ⊢;omega
def Lr (n:Nat):Value := .tuple #[uV n,iV (if n=0 then 9 else 0)]
theorem alR {t:Nat}{T:cy}{v:Value}(hT:TT T)(p:Bs)(hp:p.length≤250)(hs:Start o w [fz (aB t [ak (jh T),v]),fz (eU T)]) :
  aj prog 374 [ak t,str p].toArray w (Po o (Lr (bX (ay T) p)) []):=by
 have hH:=hs.sh;refine aj.enter func374 rfl ntmps374 rfl (gh ?_);refine GX.aM (hc:=fun _ hs=>CX p hs) (h:=fun w hE hH=>gh ?_);rw[if_pos hp];refine gh ?_;refine GX.ef (hc:=fun _ hs=>WD hT p hp hs) (h:=?_);rintro⟨R,⟨q1,c1⟩,⟨q2,c2⟩⟩ w hC hE hH;have nA:=hC.len hT hp;dsimp only at nA;replace hH:=SH.ap hH
 rcases hC with⟨rfl,bz⟩|⟨hC,j,b,R',rfl⟩
 ·refine gh ?_;refine⟨?_,hH.to⟩;unfold bX;rw[bz];rfl
 ·obtain⟨x,hx,gi⟩:=hC.head;have hg:bX (ay T) p=x.n:=by unfold bX;rw[hx]
  rw[hg];dsimp only[ON] at hH ⊢;have lA:((p,j,b)::R').length=R'.length+1:=rfl;rw[lA] at hH nA ⊢;replace hH:=hH.tM hx;rw[gi] at hH;obtain⟨a1,rfl⟩:=hH.pos (el:=279) (sz:=1) (q:=q1);have zN:(bq (((p,j,b)::R').reverse.map (·.2.2)))[R'.length]?=some (ak b):=by simp[bq,iD]
  refine gh ?_;rw[show decide (((R'.length+1:Nat):Int)=0)=false by simp;omega];refine gh ?_;refine GX.next rfl (GO.cT (hv:=zN) (h:=gh ?_));refine ifs (fun h1=>?_) (fun h1=>?_)<;>refine gh ?_
  ·refine⟨?_,hH.to⟩;obtain h0:x.n=0:=by omega
   rw[h0];rfl
  ·refine gh ?_;refine GX.next rfl (GO.cT (hv:=zN) (h:=gh ?_));refine⟨?_,hH.to⟩;have h0:x.n≠0:=by omega
   unfold Lr;rw[if_neg h0]
structure KG (T T':cy):Prop where
 tt:TT T'
 num:∀t,bX (ay T') t=bX (ay T) t
 root:jh T'=jh T
theorem alJ {T:cy}{n c1 c2:Nat}{q1 q2:Option Nat}(hT:TT T){R:List (Bs×Nat×Nat)}(hC:mq T R)(hn:R.length=n)(ic:n≤251)(hs:Start o w [aq 279 1 q1 n c1 (bq (R.reverse.map (·.2.2))),aq 3 1 q2 n c2 (aG (R.reverse.map (·.2.1))),eU T]) :
  aj prog 376 [.slice (aA q1) n c1, .slice (aA q2) n c2].toArray w (aX o (fun _:cy => .tuple #[]) (fun T'=>KG T T') (fun T'=>[eU T'])):=by
 have hH:=hs.sh;have kS:0<n:=by obtain⟨_,_,e⟩:=hC.ne;rw[←hn,e];simp
 obtain⟨a1,rfl⟩:=hH.pos (el:=279) (sz:=1) (q:=q1);obtain⟨a2,rfl⟩:=hH.pos (el:=3) (sz:=1) (q:=q2);have r9:∀m a,m<n→R[n - 1 - m]?=some a→(bq (R.reverse.map (·.2.2)))[m]?=some (ak a.2.2):=fun m a hm ha=>by
  unfold bq;rw[gG,W2 _ _ ah,hn,ha];rfl
 have se:∀m a,m<n→R[n - 1 - m]?=some a→(aG (R.reverse.map (·.2.1)))[m]?=some (iV (a.2.1:Nat)):=fun m a hm ha=>by
  unfold aG;rw[gG,W2 _ _ ah,hn,ha];rfl
 refine aj.enter func376 rfl ntmps376 rfl (gh ?_);rw[show(n:Int) - 1=((n - 1:Nat):Int) by omega];refine GC.bR [0,1] (fun y:Nat×cy=>[(4,iV y.1)]) (fun y w'=>y.1+1≤n∧n≤y.1+3∧(y.1+1=n→y.2=T)∧(y.1+2=n→∀t,(∀a,R[1]?=some a→¬a.1 <+: t)→ay y.2 t=ay T t)∧KG T y.2∧SH o w' [aq 279 1 (some a1) n c1 (bq (R.reverse.map (·.2.2))),aq 3 1 (some a2) n c2 (aG (R.reverse.map (·.2.1))),eU y.2]) (fun y=>y.1) (n - 1,T) rfl rfl ⟨by simp only;omega,by simp only;omega,fun _=>rfl,fun h=>by simp only at h;omega,⟨hT,fun _=>rfl,rfl⟩,hH.to⟩ ?_;rintro⟨k,T1⟩ w ⟨rT,rU,cX,dx,D7,hH⟩;dsimp only at rT rU cX dx D7 hH ⊢;have done:∀{w:World},SH o w [aq 279 1 (some a1) n c1 (bq (R.reverse.map (·.2.2))),aq 3 1 (some a2) n c2 (aG (R.reverse.map (·.2.1))),eU T1]→aX o (fun _:cy => .tuple #[]) (fun T'=>KG T T') (fun T'=>[eU T']) (.tuple #[]) w:=fun h=>⟨T1,rfl,D7,h.to⟩
 by_cases oh:0<k
 ·by_cases je:n≤k+2
  ·-- yW nodes
   obtain⟨s,x,i,e,bk,lX,gi,he,BH,wi,adR⟩:∃(s:Bs) (x:Tn) (i:Nat) (e:Bs×Nat) (bk:Nat),ay T1 s=some x∧x.b=bk∧x.ks[i]?=some e∧(bq (R.reverse.map (·.2.2)))[k - 1]?=some (ak bk)∧(aG (R.reverse.map (·.2.1)))[k]?=some (iV i)∧(k+1=n→∀a,R[1]?=some a→a.1=s):=by
    by_cases hk:k+1=n
    ·obtain rfl:=cX hk;obtain⟨s,j,b,r,x,e,i,yb,rfl,_,hx,gi,he⟩:=hC.inv ah;refine⟨s,x,i,e,b,hx,gi,he,r9 (k - 1) (s,j,b) ah (by rw[show n - 1 - (k - 1)=1 by omega];rfl),se k (s++e.1,i,yb) ah (by rw[show n - 1 - k=0 by omega];rfl),fun _ a ha=>?_⟩;simp at ha;rw[←ha]
    ·have dR:k+2=n:=by omega
     have hE:=dx dR;obtain⟨s0,j0,b0,r0,x0,e0,i0,yb0,rfl,zC,_,_,_⟩:=hC.inv ah;have jf:2≤((s0,j0,b0)::r0).length:=by simp only[ek] at hn ⊢;omega
     obtain⟨s,j,b,r,x,e,i,yb,hR,_,hx,gi,he⟩:=zC.inv jf;simp only[List.cons.injEq,oI] at hR;obtain⟨⟨rfl,rfl,rfl⟩,rfl⟩:=hR;obtain⟨_,_,_,_,aP,_⟩:=hT.jz hx he;refine⟨s,x,j0,e,b,?_,gi,he,r9 (k - 1) (s,j,b) ah (by rw[show n - 1 - (k - 1)=2 by omega];rfl),se k (s++e.1,j0,b0) ah (by rw[show n - 1 - k=1 by omega];rfl),fun h=>absurd h hk⟩;rw[hE s fun a ha=>?_]
     ·exact hx
     ·simp at ha;rw[←ha];intro cK;have h1:=cK.length_le;have h2:=xw.2 aP;rw[bH] at h1;omega
   refine gh ?_;rw[show decide ((0:Int)<(k:Int))=true by simp;omega];refine gh ?_;rw[show decide ((n:Int) - 2≤(k:Int))=true by simp;omega];refine gh ?_;refine GC.br (pl:=(bg [0,3,6,9,15,18,21,13,25,29])) (T:=dt [a1,a2]) (hm:=mixed) (h:=fun w hE hH=>gh ?_);refine GX.read rfl (GO.lC (hT:=Cv) (hv:=show(bq (R.reverse.map (·.2.2)))[((k:Int) - 1).toNat]?=some (ak bk) by rw[show((k:Int) - 1).toNat=k - 1 by omega];exact BH) (h:=gh ?_));refine GX.read rfl (GO.lC (hT:=tL) (hv:=wi) (h:=gh ?_));refine GX.kL (hc:=fun _ hs=>by have:=ahr D7.tt lX he hs;rw[gi] at this;exact this) (h:=?_);rintro T2 w ⟨k1,k2,k3,k4⟩ hS hH;replace hH:=SH.ap hH;refine gh ?_;rw[show(k:Int) - 1=((k - 1:Nat):Int) by omega];refine GQ.bj (k - 1,T2) rfl ⟨by simp only;omega,by simp only;omega,fun h=>by simp only at h;omega,fun h t ht=>?_,⟨k1,fun t=>(k2 t).trans (D7.num t),k3.trans D7.root⟩,hH.to⟩ (by simp only;omega);dsimp only at h ⊢;have iN:k+1=n:=by omega
   obtain rfl:=cX iN;refine k4 t fun cK=>?_
   have ic:1<R.length:=by omega
   have:=adR iN R[1] (by simp[ic]);exact ht R[1] (by simp[ic]) (by rw[this];exact cK)
  ·refine gh ?_;rw[show decide ((0:Int)<(k:Int))=true by simp;omega];refine gh ?_;rw[show decide ((n:Int) - 2≤(k:Int))=false by simp;omega];refine gh ?_;exact done hH
 ·refine gh ?_;rw[show decide ((0:Int)<(k:Int))=false by simp;omega];refine gh ?_;exact done hH
end Go.Proofs.YtoloaehmppcjoaaGreat.V.M
