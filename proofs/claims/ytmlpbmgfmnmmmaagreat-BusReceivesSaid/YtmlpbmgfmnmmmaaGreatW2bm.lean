/-
  Parts of the proof. No condition.
-/
import Derived.Test.YtmlpbmgfmnmmmaaGreatW2bl
import Derived.Test.YtmlpbmgfmnmmmaaGreatW2bf
set_option linter.unusedVariables false
set_option linter.unusedSimpArgs false
set_option maxRecDepth 8000
set_option maxHeartbeats 8000000
open Go.Proofs.Tryz
namespace Go.Proofs.YtmlpbmgfmnmmmaaGreat.V.M
attribute [local irreducible] GO GX aA fz aF aQ ao star
variable {o:Og}{w:World}
def Cv:sE:=⟨fun _=>0,0⟩
theorem ahg (b:Nat):Gq [([],⟨b,[],0,(none,0),[]⟩)] Cv:=by
 have hg:∀t,az [(([]:Bs),(⟨b,[],0,(none,0),[]⟩:Tn))] t=if t=[] then some ⟨b,[],0,(none,0),[]⟩ else none:=fun t=>rfl
 have hx:∀t x,az [(([]:Bs),(⟨b,[],0,(none,0),[]⟩:Tn))] t=some x→t=[]∧x=⟨b,[],0,(none,0),[]⟩:=fun t x h=>by
  rw[hg] at h;split at h
  ·cases h;exact⟨by assumption,rfl⟩
  ·cases h
 refine⟨⟨⟨⟨_,rfl,rfl⟩,fun s x h e he=>?_,fun s x h=>?_,fun s x h e he=>?_,fun s x t y h k _ hn=>?_,fun s x h=>?_,fun s x h=>?_⟩,by simp⟩,fun s=>?_,bj _⟩
 ·obtain⟨_,rfl⟩:=hx _ _ h;cases he
 ·obtain⟨_,rfl⟩:=hx _ _ h;exact List.Pairwise.nil
 ·obtain⟨_,rfl⟩:=hx _ _ h;cases he
 ·exact absurd ((hx _ _ h).1.trans (hx _ _ k).1.symm) hn
 ·rw[(hx _ _ h).1];exact bh _
 ·obtain⟨_,rfl⟩:=hx _ _ h;exact bh _
 ·unfold bW;rw[hg]
  by_cases h:s=[]<;>simp[h,Cv]
theorem Yi (hs:Start o w []):aj prog 76 [].toArray w (aU o (fun t:Nat=>ak t) (fun _=>True) (fun t=>[nu t Cv])):=by
 have hH:=hs.sh;refine aj.enter func76 rfl ntmps76 rfl (gh ?_);refine GX.cw (h:=fun b w hH=>gh ?_);refine GX.cw (h:=fun t w hH=>gh ?_);have aO:=SH.cE (el:=256) (sz:=1) (q:=none) (n:=0) (c:=0) (cs:=[]) hH.pz (Mod.refl w) (fun _ h=>by cases h) (aG.nil _ _ _);have cF:=aO.wF (M:=[]) [] ⟨b,[],0,(none,0),[]⟩;exact⟨t,rfl,trivial,(C2 (ahg b) cF).to⟩
theorem Xv {T:cz}(hT:TT T){s:Bs}{x:Tn}(hx:az T s=some x){n:Nat}(hn:n≤never) :
  TT (bE T s { x with n:=n})∧(∀t,bW (az (bE T s { x with n:=n})) t=if t=s then n else bW (az T) t)∧iN (bE T s { x with n:=n})=iN T:=by
 refine⟨⟨by rw[Jk];exact hT.ok.O6 hx hn,rU hT.nd _ _⟩,fun t=>by rw[Jk];exact abZ t,JQ hT fun r hr=>?_⟩;rw[Jk]
 by_cases e:s=[]
 ·subst e;rw[hr] at hx;cases hx;exact⟨_,gp _ _ _,rfl⟩
 ·exact⟨r,by rw[dz (Ne.symm e)];exact hr,rfl⟩
theorem ahh {T:cz}(hT:TT T){s:Bs}{x:Tn}(hx:az T s=some x){p:Bs}(hp:p≠[])(hl:(s++p).length≤250){i:Nat}(h1:∀e∈x.ks.take i,hd e.1<hd p)(h2:∀e∈x.ks.drop i,hd p<hd e.1)(bn:Nat)(q:Option Nat×Nat) :
  TT ((s++p,⟨bn,p,0,(none,0),[]⟩)::(s,{ x with ks:=x.ks.take i++(p,bn)::x.ks.drop i,q:=q})::bD T s)∧(∀t,bW (az ((s++p,(⟨bn,p,0,(none,0),[]⟩:Tn))::(s,{ x with ks:=x.ks.take i++(p,bn)::x.ks.drop i,q:=q})::bD T s)) t=bW (az T) t)∧iN ((s++p,(⟨bn,p,0,(none,0),[]⟩:Tn))::(s,{ x with ks:=x.ks.take i++(p,bn)::x.ks.drop i,q:=q})::bD T s)=iN T:=by
 obtain⟨bG,aX⟩:=hT.ok.leaf hx hp hl h1 h2 (bn:=bn) (n:=0) (q:=q) (q':=(none,0)) (bh _);have fE:s≠s++p:=fun e=>hp (by simpa using e)
 have hg:az ((s++p,(⟨bn,p,0,(none,0),[]⟩:Tn))::(s,{ x with ks:=x.ks.take i++(p,bn)::x.ks.drop i,q:=q})::bD T s)=ef (ef (az T) s (some { x with ks:=x.ks.take i++(p,bn)::x.ks.drop i,q:=q})) (s++p) (some ⟨bn,p,0,(none,0),[]⟩):=by
  funext t;rw[wD,wD,iF hT.nd];unfold ef
  by_cases a1:t=s++p
  ·simp only[if_pos a1]
  ·by_cases a2:t=s
   ·subst a2;simp only[if_neg a1,eq_self,if_true]
   ·simp only[if_neg a1,if_neg a2]
 refine⟨⟨by rw[hg];exact aX,?_⟩,fun t=>?_,JQ hT fun r hr=>?_⟩
 ·simp only[cK,eI,bY];refine⟨fun h=>?_,fun h=>?_,wG hT.nd s⟩
  ·rcases h with h|h
   ·exact fE h.symm
   ·exact wE.1 bG ((uM hT.nd).1 h).2
  ·exact((uM hT.nd).1 h).1 rfl
 ·rw[hg];unfold bW
  by_cases a1:t=s++p
  ·rw[a1,gp,bG]
  ·rw[dz a1]
   by_cases a2:t=s
   ·rw[a2,gp,hx]
   ·rw[dz a2]
 ·rw[hg,dz (uP hp)]
  by_cases e:s=[]
  ·subst e;rw[hr] at hx;cases hx;exact⟨_,gp _ _ _,rfl⟩
  ·exact⟨r,by rw[dz (Ne.symm e)];exact hr,rfl⟩
theorem aeB {α β:Type}(f:α→β)(l:List α)(i:Nat)(x:α):(l.map f).take i++f x::(l.map f).drop i=(l.take i++x::l.drop i).map f:=by
 rw[eD,cK,List.map_take,List.map_drop]
theorem aeC (l:List Nat)(i b:Nat):(bg l).take i++Value.pointer (some ⟨b,0,none⟩)::(bg l).drop i=bg (l.take i++b::l.drop i):=by
 simp[bg,ak,List.map_take,List.map_drop]
theorem QL:∀a b:Bs,kq a b≤a.length∧kq a b≤b.length∧a.take (kq a b)=b.take (kq a b)
 | [],[]=>by simp[kq]
 | [],_::_=>by simp[kq]
 |_::_,[]=>by simp[kq]
 |x::a,y::b=>by
  obtain⟨h1,h2,h3⟩:=QL a b;unfold kq;split
  ·rename_i h;subst h
   exact⟨by simpa using h1,by simpa using h2,by simpa using h3⟩
  ·simp
theorem aaw {a b:Bs}(ha:a≠[])(hb:b≠[])(h:hd a=hd b):0<kq a b:=by
 cases a with
 |nil=>exact absurd rfl ha
 |cons x a=>
  cases b with
  |nil=>exact absurd rfl hb
  |cons y b=>
   have:x=y:=UInt8.toNat_inj.1 h;simp[kq,this]
theorem Yj {t:Nat}{A:sE}(p:Bs)(n:Nat)(hp:p.length≤250)(hn:0<n)(jS:n≤never)(hK:A.K<2^40)(hs:Start o w [nu t A]) :
  aj prog 210 [ak t,str p,uV n].toArray w (Po o (iV 0) [nu t ⟨fun s=>if s=p then n else A.P s,A.K+1⟩]):=by
 have hH:=hs.sh;obtain⟨⟨T,hA⟩,hH⟩:=SH.un hH;replace hH:=SH.ap hH;dsimp only at hH;have hT:=hA.tt;have xP:=hA.dC;obtain⟨r0,iD,_⟩:=hT.ok.root;have MV:=tw iD;refine aj.enter func210 rfl ntmps210 rfl (gh ?_);refine GX.aL (hc:=fun _ hs=>C0 p hs) (h:=fun w hE hH=>gh ?_);rw[if_pos hp];refine gh ?_;rw[show decide ((n:Int)=0)=false by simp;omega];refine gh ?_;rw[MV] at hH ⊢;refine GC.QU (X:=cz×Tn) (fun y=>[(0,ak t),(2,uV n),(8,ak y.2.b)]) (fun y w'=>az y.1 p=some y.2∧TT y.1∧(∀s,bW (az y.1) s=bW (az T) s)∧iN y.1=iN T∧SH o w' [aA t [ak r0.b,iV (fo T)],eH y.1]) ?_ ?_
 ·refine GC.bP [0,2] (fun y:Bs×Bs×cz×Tn=>[(1,str y.2.1),(8,ak y.2.2.2.b)]) (fun y w'=>az y.2.2.1 y.1=some y.2.2.2∧y.1++y.2.1=p∧TT y.2.2.1∧(∀s,bW (az y.2.2.1) s=bW (az T) s)∧iN y.2.2.1=iN T∧SH o w' [aA t [ak r0.b,iV (fo T)],eH y.2.2.1]) (fun y=>y.2.1.length) ([],p,T,r0) rfl rfl ⟨iD,rfl,hT,fun _=>rfl,rfl,hH.to⟩ ?_;rintro⟨s,rest,T1,x⟩ w ⟨hx,fE,iX,qI,ya,hH⟩;dsimp only at hx fE iX qI ya hH ⊢;refine gh ?_;refine ifs (fun h1=>?_) (fun h1=>?_)<;>refine gh ?_
  ·obtain⟨u,rs,rfl⟩:∃u rs,rest=u::rs:=by
    cases rest with
    |nil=>exact absurd rfl h1
    |cons u rs=>exact⟨u,rs,rfl⟩
   refine GX.next rfl (GO.Am rfl rfl rfl rfl ah (u:=u) (by simp) rfl (gh ?_));refine GX.dX (hc:=fun _ hs=>Oh iX hx u.toNat (UInt8.toNat_lt u) hs) (h:=?_);rintro⟨i,is⟩ w ⟨hi,BQ,TW,bG⟩ hE hH;dsimp only at hi BQ TW bG;replace hH:=SH.ap hH;refine gh ?_;have cQ:=iX.kl hx;have Io:(s++(u::rs)).length≤250:=by rw[fE];exact hp
   cases is with
   |false=>
    have Er:=fun bn q=>ahh iX hx h1 Io BQ (bG rfl) bn q
    replace hH:=hH.uR hx;obtain⟨xb,xe,xn,⟨q,d⟩,ks⟩:=x;dsimp only at hH hi BQ bG cQ Er ⊢;refine gh ?_;refine GX.cw (h:=fun bn w hH=>gh ?_);refine GX.nk (h:=fun bv w hH=>gh ?_);refine GX.bS (hc:=fun _ hs=>aeE i hi ah rfl (CL _) hs) (h:=?_);rintro⟨q4,c4⟩ w _ hH;replace hH:=SH.ap hH;refine gh ?_;refine GX.dw (h:=fun w hH=>gh ?_);rw[aeC,show((ks.map (·.2)).take i++bn::(ks.map (·.2)).drop i)=(ks.take i++((u::rs:Bs),bn)::ks.drop i).map (·.2) from aeB (fun e:Bs×Nat=>e.2) ks i ((u::rs:Bs),bn),show ks.length+1=(ks.take i++((u::rs:Bs),bn)::ks.drop i).length by simp;omega] at hH;have DP:=SH.cE (el:=256) (sz:=1) (q:=none) (n:=0) (c:=0) (cs:=[]) hH (Mod.refl w) (fun _ h=>by cases h) (aG.nil _ _ _);have aO:=DP.wF s ⟨xb,xe,xn,(q4,c4),ks.take i++((u::rs:Bs),bn)::ks.drop i⟩;have cF:=aO.wF (s++(u::rs)) ⟨bn,u::rs,0,(none,0),[]⟩;obtain⟨k1,k2,k3⟩:=Er bn (q4,c4);refine GQ.dx (_,⟨bn,u::rs,0,(none,0),[]⟩) (cZ (l:=[0,2,8]) rfl) ⟨?_,k1,fun t=>(k2 t).trans (qI t),k3.trans ya,cF.to⟩;show az ((s++(u::rs),_)::_) p=_;rw[wD,if_pos fE.symm]
   |true=>
    obtain⟨e,he,Ee⟩:=TW rfl;obtain⟨y,hy,fv,eG,aR,yc,_,sT⟩:=iX.jb hx he;have eL:=(aV.1 he).1;obtain⟨c1,c2,c3⟩:=QL (u::rs) e.1;have aaF:=aaw h1 aR Ee.symm;replace hH:=(hH.uR hx)
    have yj:az (bD T1 s) (s++e.1)=some y:=by rw[iF iX.nd,if_neg (Ne.symm yc)];exact hy
    replace hH:=hH.uR yj;have back:∀{w:World},SH o w (aA y.b [str y.e,uV y.n, .slice (ay y.q.1) y.ks.length y.q.2]::ao 256 1 y.q.1 y.ks.length y.q.2 (bg (y.ks.map (·.2)))::eH (bD (bD T1 s) (s++e.1))::aA x.b [str x.e,uV x.n, .slice (ay x.q.1) x.ks.length x.q.2]::ao 256 1 x.q.1 x.ks.length x.q.2 (bg (x.ks.map (·.2)))::[aA t [ak r0.b,iV (fo T)]])→SH o w [aA t [ak r0.b,iV (fo T)],eH T1]:=fun {w} hH=>by
     have h1:=hH.iu (m:=bT jY (bD T1 s)) (jY (s++e.1,y)) (bT jY (bD (bD T1 s) (s++e.1))) (by repeat(first|exact Pk.nil|(apply Pk.cons;repeat(first|exact aB.here|apply aB.there)))) (o0 yj);exact(h1.iu (m:=bT jY T1) (jY (s,x)) (bT jY (bD T1 s)) (by repeat(first|exact Pk.nil|(apply Pk.cons;repeat(first|exact aB.here|apply aB.there)))) (o0 hx)).to
    have M7:=fun(e1 e2:Bs) (Eg:e.1=e1++e2)=>show x.ks[i]?=some (e1++e2,y.b) by rw[he,eG,←Eg]
    have x8:(bg (x.ks.map (·.2)))[i]?=some (ak y.b):=by simp[bg,he,eG]
    have we:∀T2:cz,az T2 (s++e.1.take (kq (u::rs) e.1))=az T2 (s++(u::rs).take (kq (u::rs) e.1)):=fun T2=>by rw[c3]
    have M5:(s++(u::rs).take (kq (u::rs) e.1))++(u::rs).drop (kq (u::rs) e.1)=p:=by rw[cP,jE];exact fE
    have Iv:(u::rs).length≤250:=by rw[bJ] at Io;omega
    rw[←fv] at aR sT c1 c2 c3 aaF we M5;obtain⟨qb,hq⟩:=hH.pos (el:=256) (sz:=1) (q:=x.q.1) (n:=x.ks.length);rw[hq] at hH;rw[hq] at back;refine gh ?_;refine GX.next rfl (GO.cG (hv:=x8) (h:=gh ?_));refine GX.dX (hc:=fun _ hs=>(aax (u::rs) y.e ah ah _).mono fun v w' ⟨h1,h2⟩=>(⟨(),h1,trivial,hs.sh.ext h2⟩:aU _ (fun _:Unit=>iV (kq (u::rs) y.e:Nat)) (fun _=>True) (fun _=>[]) v w')) (h:=?_);rintro _ w _ di hH;replace hH:=SH.ap hH;refine gh ?_;generalize rE:kq (u::rs) y.e=c at *;refine ifs (fun h3=>?_) (fun h3=>?_)<;>refine gh ?_
    ·have Ns:c<y.e.length:=by omega
     have oQ:=M7 (y.e.take c) (y.e.drop c) (by rw[jE,fv]);replace hH:=back hH.to;have wo:y.e.take c≠[]:=fun h=>by have:=congrArg List.length h;rw[dE,tF] at this;omega
     have ht2:y.e.drop c≠[]:=fun h=>by have:=congrArg List.length h;rw[lZ,tF] at this;omega
     have wq:(y.e.take c).length=c:=by rw[dE];omega
     refine GX.bS (hc:=fun _ hs=>by have:=ak9 iX hx oQ wo ht2 hs;rw[wq] at this;exact this) (h:=?_);rintro⟨bm,T2⟩ w ⟨k1,k2,k3,m,k4,k5⟩ hH;dsimp only at k1 k2 k3 k4 k5 hH;replace hH:=SH.ap hH;refine gh ?_;refine GC.bq (pl:=(aZ [0,3,6,9,12,15])) (T:=fun _=>False) (hm:=mixed) (h:=fun w hE hH=>gh ?_);refine GX.pure rfl (F0 (u::rs) rfl rfl rfl rfl rfl ah ah ?_);rw[show((c:Nat):Int).toNat=c by simp,←k5];refine gh ?_;refine GQ.br (s++(u::rs).take c,(u::rs).drop c,T2,m) rfl ⟨(we T2).symm.trans k4,M5,k1,fun t=>(k2 t).trans (qI t),k3.trans ya,hH.to⟩ (by simp only[lZ];omega)
    ·have acS:c=y.e.length:=by omega
     replace hH:=back hH.to;refine GC.bq (pl:=(aZ [0,3,6,9,12,15])) (T:=fun _=>False) (hm:=mixed) (h:=fun w hE hH=>gh ?_);refine GX.pure rfl (F0 (u::rs) rfl rfl rfl rfl rfl ah ah ?_);rw[show((c:Nat):Int).toNat=c by simp];refine gh ?_;refine GQ.br (s++(u::rs).take c,(u::rs).drop c,T1,y) rfl ⟨?_,M5,iX,qI,ya,hH.to⟩ (by simp only[lZ];omega);show az T1 (s++(u::rs).take c)=some y;rw[←we T1,acS,j5,fv];exact hy
  ·obtain rfl:rest=[]:=Classical.not_not.1 h1;rw[eY] at fE;subst fE;refine gh ?_;exact GQ.dx (T1,x) (cZ (l:=[0,2,8]) rfl) ⟨hx,iX,qI,ya,hH.to⟩
 ·rintro⟨T1,x⟩ w ⟨hx,iX,qI,ya,hH⟩;dsimp only at hx iX qI ya hH ⊢;obtain⟨k1,k2,k3⟩:=Xv iX hx jS;have hPp:A.P p=x.n:=by rw[hA.num,←qI];unfold bW;rw[hx]
  have Sq:fo T1=fo T:=QK hT.nd iX.nd qI;have fD:∀s,(if s=p then n else A.P s)=bW (az (bE T1 p { x with n:=n})) s:=fun s=>by rw[k2,hA.num,qI]
  have TA:iN (bE T1 p { x with n:=n})=r0.b:=by rw[k3,ya,MV]
  replace hH:=hH.uR hx;have Cd:=iX.ok.num _ _ hx;refine gh ?_;refine ifs (fun h1=>?_) (fun h1=>?_)<;>refine gh ?_
  ·have uF:x.n=0:=by omega
   have uh:fo (bE T1 p { x with n:=n})=fo T+1:=by
    rw[←Sq];refine QJ iX.nd k1.nd (s:=p) ?_ ?_ fun t ht=>?_
    ·unfold bW;rw[hx];exact uF
    ·rw[k2,if_pos rfl];exact hn
    ·rw[k2,if_neg ht]
   refine GX.dw (h:=fun w hH=>gh ?_);refine GX.dw (h:=fun w hH=>gh ?_);have aO:=hH.Oj p { x with n:=n};rw[←TA,show(fo T:Int)+1=((fo (bE T1 p { x with n:=n}):Nat):Int) by rw[uh];simp] at aO;exact⟨rfl,(C2 (A:=⟨fun s=>if s=p then n else A.P s,A.K+1⟩) ⟨k1,fD,by rw[uh];show _≤A.K+1;omega⟩ aO).to⟩
  ·have uF:0<x.n:=by omega
   have uh:fo (bE T1 p { x with n:=n})=fo T:=by
    rw[←Sq];have hxp:bW (az T1) p=x.n:=by unfold bW;rw[hx]
    refine Nat.le_antisymm (G9 iX.nd k1.nd fun t ht=>?_) (G9 k1.nd iX.nd fun t ht=>?_)
    ·by_cases e:t=p
     ·subst e;omega
     ·rw[k2,if_neg e] at ht;exact ht
    ·rw[k2];split
     ·exact hn
     ·exact ht
   refine gh ?_;refine GX.dw (h:=fun w hH=>gh ?_);have aO:=hH.Oj p { x with n:=n};rw[←TA,←uh] at aO;exact⟨rfl,(C2 (A:=⟨fun s=>if s=p then n else A.P s,A.K+1⟩) ⟨k1,fD,by rw[uh];show _≤A.K+1;omega⟩ aO).to⟩
inductive l6 (T:cz):List (Bs×Nat×Nat)→Prop
 |root {r:Tn}(h:az T []=some r):l6 T [([],0,r.b)]
 |step {s:Bs}{j b:Nat}{r:List (Bs×Nat×Nat)}{x y:Tn}{e:Bs×Nat}{i:Nat}(h:l6 T ((s,j,b)::r)) (hx:az T s=some x) (he:x.ks[i]?=some e) (hy:az T (s++e.1)=some y):l6 T ((s++e.1,i,y.b)::(s,j,b)::r)
theorem l6.head {T:cz}{s:Bs}{j b:Nat}{r:List (Bs×Nat×Nat)}(h:l6 T ((s,j,b)::r)):∃x,az T s=some x∧x.b=b:=by
 cases h with
 |root h=>exact⟨_,h,rfl⟩
 |step _ _ _ hy=>exact⟨_,hy,rfl⟩
theorem l6.ne {T:cz}{R:List (Bs×Nat×Nat)}(h:l6 T R):∃a r,R=a::r:=by cases h<;>exact⟨_,_,rfl⟩
theorem l6.len {T:cz}(hT:TT T){R:List (Bs×Nat×Nat)}(h:l6 T R):∀a r,R=a::r→r.length≤a.1.length:=by
 induction h with
 |root h=>rintro _ _ ⟨⟩;exact bj _
 |step h hx he hy ih=>
  rintro _ _ ⟨⟩;obtain⟨_,_,_,_,aR,_⟩:=hT.jb hx he;have h1:=ih _ _ rfl;have:=xl.2 aR;simp only[dR,bJ] at h1 ⊢;omega
theorem l6.O6 {T:cz}{p:Bs}{x:Tn}(hx:az T p=some x)(n:Nat){R:List (Bs×Nat×Nat)}(h:l6 T R):l6 (bE T p { x with n:=n}) R:=by
 have key:∀s y,az T s=some y→∃y',az (bE T p { x with n:=n}) s=some y'∧y'.b=y.b∧y'.ks=y.ks:=fun s y hy=>by
  rw[Jk]
  by_cases e:s=p
  ·subst e;rw[hx] at hy;cases hy;exact⟨_,gp _ _ _,rfl,rfl⟩
  ·exact⟨y,by rw[dz e];exact hy,rfl,rfl⟩
 induction h with
 |root h=>
  obtain⟨y,h1,h2,_⟩:=key _ _ h;rw[←h2];exact .root h1
 |step h uG he hy ih=>
  obtain⟨y,h1,h2,_⟩:=key _ _ hy;obtain⟨z,k1,_,k3⟩:=key _ _ uG;rw[←h2];exact .step ih k1 (by rw[k3];exact he) h1
theorem l6.inv {T:cz}{R:List (Bs×Nat×Nat)}(h:l6 T R)(h2:2≤R.length):∃(s:Bs) (j b:Nat) (r:List (Bs×Nat×Nat)) (x:Tn) (e:Bs×Nat) (i yb:Nat),R=(s++e.1,i,yb)::(s,j,b)::r∧l6 T ((s,j,b)::r)∧az T s=some x∧x.b=b∧x.ks[i]?=some e:=by
 cases h with
 |root h=>simp at h2
 |step h hx he hy=>
  obtain⟨x',lL,fM⟩:=h.head;rw[hx] at lL;cases lL;exact⟨_,_,_,_,_,_,_,_,rfl,h,hx,fM,he⟩
theorem W0 {α β:Type}(f:α→β)(R:List α){m:Nat}(hm:m<R.length):(R.reverse.map f)[m]?=(R[R.length - 1 - m]?).map f:=by
 rw[gb,List.getElem?_reverse hm]
def Kr (T:cz)(p:Bs)(y:List (Bs×Nat×Nat)×(Option Nat×Nat)×(Option Nat×Nat)):Prop:=
 (y.1=[]∧az T p=none)∨(l6 T y.1∧∃j b r,y.1=(p,j,b)::r)
def OF (y:List (Bs×Nat×Nat)×(Option Nat×Nat)×(Option Nat×Nat)):Value := .tuple #[.slice (ay y.2.1.1) y.1.length y.2.1.2, .slice (ay y.2.2.1) y.1.length y.2.2.2]
abbrev OE (y:List (Bs×Nat×Nat)×(Option Nat×Nat)×(Option Nat×Nat)):List It:=[ao 256 1 y.2.1.1 y.1.length y.2.1.2 (bg (y.1.reverse.map (·.2.2))),ao 3 1 y.2.2.1 y.1.length y.2.2.2 (aD (y.1.reverse.map (·.2.1)))]
theorem V4 {T:cz}(hT:TT T){s rest:Bs}{x:Tn}(hx:az T s=some x)(hr:rest≠[])(bG:∀e∈x.ks,¬s++e.1 <+: s++rest):az T (s++rest)=none:=by
 cases hg:az T (s++rest) with
 |none=>rfl
 |some y=>
  obtain⟨e,he,hp⟩:=hT.ok.jv s x _ y hx hg (oh _ _) fun e=>hr (by simpa using e)
  exact absurd hp (bG e he)
theorem Gn.no {ks:List (Bs×Nat)}{c i:Nat}(h:Gn ks c (i,false)):∀e∈ks,hd e.1≠c:=fun e he=>by
 rw[←jE i ks] at he
 rcases cJ.1 he with he|he
 ·exact Nat.ne_of_lt (h.2.1 e he)
 ·exact Nat.ne_of_gt (h.2.2.2 rfl e he)
theorem WC {t:Nat}{T:cz}{v:Value}(hT:TT T)(p:Bs)(hp:p.length≤250)(hs:Start o w [fz (aA t [ak (iN T),v]),fz (eH T)]) :
  aj prog 336 [ak t,str p].toArray w (aU o OF (Kr T p) OE):=by
 have hH:=hs.sh;obtain⟨r0,iD,_⟩:=hT.ok.root;rw[tw iD] at hH;refine aj.enter func336 rfl ntmps336 rfl (gh ?_);refine GX.nk (h:=fun b1 w hH=>gh ?_);refine GX.nk (h:=fun b2 w hH=>gh ?_);refine GC.bP [] (fun y:Bs×List (Bs×Nat×Nat)×(Option Nat×Nat)×(Option Nat×Nat)=>[(1,str y.1),(6, .slice (ay y.2.2.1.1) y.2.1.length y.2.2.1.2),(7, .slice (ay y.2.2.2.1) y.2.1.length y.2.2.2.2)]) (fun y w'=>l6 T y.2.1∧(∀a r,y.2.1=a::r→a.1++y.1=p)∧SH o w' (OE y.2++[fz (aA t [ak r0.b,v]),fz (eH T)])) (fun y=>y.1.length) (p,[([],0,r0.b)],(some b1,1),(some b2,1)) rfl rfl ⟨.root iD,fun _ _ h=>by cases h;rfl,hH.to⟩ ?_;rintro⟨rest,R,⟨q1,c1⟩,⟨q2,c2⟩⟩ w ⟨hC,hR,hH⟩;dsimp only at hC hR hH ⊢;replace hH:=SH.ap hH;dsimp only at hH;obtain⟨⟨s,j,b⟩,R',rfl⟩:=hC.ne;have fE:=hR _ _ rfl;dsimp only at fE;have hlen:=hC.len hT _ _ rfl;obtain⟨x,hx,fM⟩:=hC.head;have TC:=hT.ok.len _ _ hx;dsimp only at hlen;refine gh ?_;refine ifs (fun h1=>?_) (fun h1=>?_)<;>refine gh ?_
 ·obtain⟨u,rs,rfl⟩:∃u rs,rest=u::rs:=by
   cases rest with
   |nil=>exact absurd rfl h1
   |cons u rs=>exact⟨u,rs,rfl⟩
  have kZ:((s,j,b)::R').length=R'.length+1:=rfl;rw[kZ] at hH ⊢;obtain⟨a1,rfl⟩:=hH.pos (el:=256) (sz:=1) (q:=q1);refine gh ?_;refine GX.next rfl (GO.cG (hv:=show(bg (((s,j,b)::R').reverse.map (·.2.2)))[R'.length]?=some (ak b) by simp[bg,ia]) (h:=gh ?_));refine GX.next rfl (GO.Am rfl rfl rfl rfl ah (u:=u) (by simp) rfl (gh ?_));refine GX.dX (hc:=fun _ hs=>by have:=Oh hT hx u.toNat (UInt8.toNat_lt u) hs;rw[fM] at this;exact this) (h:=?_);rintro⟨i,is⟩ w Bx hE hH;replace hH:=SH.ap hH;have cQ:=hT.kl hx;have Io:(s++(u::rs)).length≤250:=by rw[fE];exact hp
  have Iv:(u::rs).length≤250:=by rw[bJ] at Io;omega
  cases is with
  |false=>
   refine gh ?_;have bG:=Bx.no;have h2:=SH.cE (el:=256) (sz:=1) (q:=none) (n:=0) (c:=0) (cs:=[]) hH (Mod.refl w) (fun _ h=>by cases h) (aG.nil _ _ _);have h3:=SH.cE (el:=3) (sz:=1) (q:=none) (n:=0) (c:=0) (cs:=[]) h2 (Mod.refl w) (fun _ h=>by cases h) (aG.nil _ _ _);refine⟨([],(none,0),(none,0)),rfl, .inl ⟨rfl,?_⟩,h3.to⟩;rw[←fE];exact V4 hT hx h1 fun e he cN=>bG e he (vU cN kP (hT.ok.ne _ _ hx e he) h1)
  |true=>
   obtain⟨e,he,Ee⟩:=Bx.2.2.1 rfl;dsimp only at he;have eL:=(aV.1 he).1;obtain⟨y,hy,fv,eG,aR,yc,_,sT⟩:=hT.jb hx he;replace hH:=(hH.tk hx).tk hy;obtain⟨xb,xe,xn,⟨q,d⟩,ks⟩:=x;dsimp only at hH fM cQ he eL;subst fM;obtain⟨qb,rfl⟩:=hH.lR (el:=256) (sz:=1) (q:=q) (n:=ks.length);have x8:(bg (ks.map (·.2)))[i]?=some (ak y.b):=by simp[bg,he,eG]
   refine gh ?_;refine GX.next rfl (GO.cG (hv:=x8) (h:=gh ?_));refine GX.da (HS (u::rs) y.e ah (by rw[fv];omega) _) rfl rfl rfl rfl rfl rfl (gh ?_)
   by_cases cN:y.e <+: u::rs
   ·rw[bQ cN];refine gh ?_;refine GX.next rfl (GO.cG (hv:=x8) (h:=gh ?_));have Ns:=cN.length_le;refine GX.next rfl (F0 (u::rs) rfl rfl rfl rfl rfl ah ah ?_);rw[show((y.e.length:Nat):Int).toNat=y.e.length by simp];refine gh ?_;refine GX.next rfl (GO.cG (hv:=x8) (h:=gh ?_));refine GX.mK (h1:=by simp[Value.oneCell',ak]) (h:=fun q c w _ hH=>gh ?_);refine GX.mK (h1:=by simp[Value.oneCell']) (h:=fun q c w _ hH=>gh ?_);refine GQ.br ((u::rs).drop y.e.length,(s++e.1,i,y.b)::(s,j,xb)::R',(_,_),(_,_)) rfl ⟨.step hC hx he hy,?_,?_⟩ ?_
    ·rintro _ _ ⟨⟩;obtain⟨z,hz⟩:=cN;rw[←fE,←hz];simp[fv]
    ·dsimp only[OE];rw[show(((s++e.1,i,y.b)::(s,j,xb)::R'):List (Bs×Nat×Nat)).reverse=((s,j,xb)::R').reverse++[(s++e.1,i,y.b)] by rw[List.reverse_cons]];rw[eD,eD,List.map_singleton,List.map_singleton,show∀l:List Nat,bg (l++[y.b])=bg l++[ak y.b] from fun l=>by simp[bg],show∀l:List Nat,aD (l++[i])=aD l++[iV i] from fun l=>by simp[aD]];exact hH.to
    ·have:=xl.2 aR;rw[←fv] at this;simp only[lZ];omega
   ·rw[bt cN];refine gh ?_;have h2:=SH.cE (el:=256) (sz:=1) (q:=none) (n:=0) (c:=0) (cs:=[]) hH (Mod.refl w) (fun _ h=>by cases h) (aG.nil _ _ _);have h3:=SH.cE (el:=3) (sz:=1) (q:=none) (n:=0) (c:=0) (cs:=[]) h2 (Mod.refl w) (fun _ h=>by cases h) (aG.nil _ _ _);refine⟨([],(none,0),(none,0)),rfl, .inl ⟨rfl,?_⟩,h3.to⟩;rw[←fE];refine V4 hT hx h1 fun f hf Ac=>cN ?_
    have h5:hd f.1=hd e.1:=(vU Ac kP (hT.ok.ne _ _ hx f hf) h1).trans Ee.symm;have:=HY (hT.ok.ord _ _ hx) hf (bF he) h5;subst this;rw[fv];exact WH Ac
 ·obtain rfl:rest=[]:=Classical.not_not.1 h1;rw[eY] at fE;subst fE;refine gh ?_;exact⟨((s,j,b)::R',(q1,c1),(q2,c2)),rfl, .inr ⟨hC,j,b,R',rfl⟩,hH.to⟩
theorem Kr.len {T:cz}(hT:TT T){p:Bs}{y:List (Bs×Nat×Nat)×(Option Nat×Nat)×(Option Nat×Nat)}(h:Kr T p y)(hp:p.length≤250):y.1.length≤251:=by
 rcases h with⟨h,_⟩|⟨h,j,b,r,e⟩
 ·rw[h];simp
 ·have:=h.len hT _ _ e;rw[e];simp only[dR] at this ⊢;omega
def Li (n:Nat):Value := .tuple #[uV n,iV (if n=0 then 9 else 0)]
theorem alX {t:Nat}{T:cz}{v:Value}(hT:TT T)(p:Bs)(hp:p.length≤250)(hs:Start o w [fz (aA t [ak (iN T),v]),fz (eH T)]) :
  aj prog 335 [ak t,str p].toArray w (Po o (Li (bW (az T) p)) []):=by
 have hH:=hs.sh;refine aj.enter func335 rfl ntmps335 rfl (gh ?_);refine GX.aL (hc:=fun _ hs=>C0 p hs) (h:=fun w hE hH=>gh ?_);rw[if_pos hp];refine gh ?_;refine GX.dX (hc:=fun _ hs=>WC hT p hp hs) (h:=?_);rintro⟨R,⟨q1,c1⟩,⟨q2,c2⟩⟩ w hC hE hH;have mZ:=hC.len hT hp;dsimp only at mZ;replace hH:=SH.ap hH
 rcases hC with⟨rfl,bG⟩|⟨hC,j,b,R',rfl⟩
 ·refine gh ?_;refine⟨?_,hH.to⟩;unfold bW;rw[bG];rfl
 ·obtain⟨x,hx,fM⟩:=hC.head;have hg:bW (az T) p=x.n:=by unfold bW;rw[hx]
  rw[hg];dsimp only[OF] at hH ⊢;have kZ:((p,j,b)::R').length=R'.length+1:=rfl;rw[kZ] at hH mZ ⊢;replace hH:=hH.tk hx;rw[fM] at hH;obtain⟨a1,rfl⟩:=hH.pos (el:=256) (sz:=1) (q:=q1);have zR:(bg (((p,j,b)::R').reverse.map (·.2.2)))[R'.length]?=some (ak b):=by simp[bg,ia]
  refine gh ?_;rw[show decide (((R'.length+1:Nat):Int)=0)=false by simp;omega];refine gh ?_;refine GX.next rfl (GO.cG (hv:=zR) (h:=gh ?_));refine ifs (fun h1=>?_) (fun h1=>?_)<;>refine gh ?_
  ·refine⟨?_,hH.to⟩;obtain h0:x.n=0:=by omega
   rw[h0];rfl
  ·refine gh ?_;refine GX.next rfl (GO.cG (hv:=zR) (h:=gh ?_));refine⟨?_,hH.to⟩;have h0:x.n≠0:=by omega
   unfold Li;rw[if_neg h0]
structure Ks (T T':cz):Prop where
 tt:TT T'
 num:∀t,bW (az T') t=bW (az T) t
 root:iN T'=iN T
theorem alP {T:cz}{n c1 c2:Nat}{q1 q2:Option Nat}(hT:TT T){R:List (Bs×Nat×Nat)}(hC:l6 T R)(hn:R.length=n)(jS:n≤251)(hs:Start o w [ao 256 1 q1 n c1 (bg (R.reverse.map (·.2.2))),ao 3 1 q2 n c2 (aD (R.reverse.map (·.2.1))),eH T]) :
  aj prog 337 [.slice (ay q1) n c1, .slice (ay q2) n c2].toArray w (aU o (fun _:cz => .tuple #[]) (fun T'=>Ks T T') (fun T'=>[eH T'])):=by
 have hH:=hs.sh;have kF:0<n:=by obtain⟨_,_,e⟩:=hC.ne;rw[←hn,e];simp
 obtain⟨a1,rfl⟩:=hH.pos (el:=256) (sz:=1) (q:=q1);obtain⟨a2,rfl⟩:=hH.pos (el:=3) (sz:=1) (q:=q2);have wh:∀m a,m<n→R[n - 1 - m]?=some a→(bg (R.reverse.map (·.2.2)))[m]?=some (ak a.2.2):=fun m a hm ha=>by
  unfold bg;rw[gb,W0 _ _ ah,hn,ha];rfl
 have IH:∀m a,m<n→R[n - 1 - m]?=some a→(aD (R.reverse.map (·.2.1)))[m]?=some (iV (a.2.1:Nat)):=fun m a hm ha=>by
  unfold aD;rw[gb,W0 _ _ ah,hn,ha];rfl
 refine aj.enter func337 rfl ntmps337 rfl (gh ?_);rw[show(n:Int) - 1=((n - 1:Nat):Int) by omega];refine GC.bP [0,1] (fun y:Nat×cz=>[(4,iV y.1)]) (fun y w'=>y.1+1≤n∧n≤y.1+3∧(y.1+1=n→y.2=T)∧(y.1+2=n→∀t,(∀a,R[1]?=some a→¬a.1 <+: t)→az y.2 t=az T t)∧Ks T y.2∧SH o w' [ao 256 1 (some a1) n c1 (bg (R.reverse.map (·.2.2))),ao 3 1 (some a2) n c2 (aD (R.reverse.map (·.2.1))),eH y.2]) (fun y=>y.1) (n - 1,T) rfl rfl ⟨by simp only;omega,by simp only;omega,fun _=>rfl,fun h=>by simp only at h;omega,⟨hT,fun _=>rfl,rfl⟩,hH.to⟩ ?_;rintro⟨k,T1⟩ w ⟨pL,rF,cW,di,D2,hH⟩;dsimp only at pL rF cW di D2 hH ⊢;have done:∀{w:World},SH o w [ao 256 1 (some a1) n c1 (bg (R.reverse.map (·.2.2))),ao 3 1 (some a2) n c2 (aD (R.reverse.map (·.2.1))),eH T1]→aU o (fun _:cz => .tuple #[]) (fun T'=>Ks T T') (fun T'=>[eH T']) (.tuple #[]) w:=fun h=>⟨T1,rfl,D2,h.to⟩
 by_cases sU:0<k
 ·by_cases kC:n≤k+2
  ·-- Ge nodes
   obtain⟨s,x,i,e,bk,uG,fM,he,BJ,zQ,adI⟩:∃(s:Bs) (x:Tn) (i:Nat) (e:Bs×Nat) (bk:Nat),az T1 s=some x∧x.b=bk∧x.ks[i]?=some e∧(bg (R.reverse.map (·.2.2)))[k - 1]?=some (ak bk)∧(aD (R.reverse.map (·.2.1)))[k]?=some (iV i)∧(k+1=n→∀a,R[1]?=some a→a.1=s):=by
    by_cases hk:k+1=n
    ·obtain rfl:=cW hk;obtain⟨s,j,b,r,x,e,i,yb,rfl,_,hx,fM,he⟩:=hC.inv ah;refine⟨s,x,i,e,b,hx,fM,he,wh (k - 1) (s,j,b) ah (by rw[show n - 1 - (k - 1)=1 by omega];rfl),IH k (s++e.1,i,yb) ah (by rw[show n - 1 - k=0 by omega];rfl),fun _ a ha=>?_⟩;simp at ha;rw[←ha]
    ·have eE:k+2=n:=by omega
     have hE:=di eE;obtain⟨s0,j0,b0,r0,x0,e0,i0,yb0,rfl,zC,_,_,_⟩:=hC.inv ah;have iA:2≤((s0,j0,b0)::r0).length:=by simp only[dR] at hn ⊢;omega
     obtain⟨s,j,b,r,x,e,i,yb,hR,_,hx,fM,he⟩:=zC.inv iA;simp only[List.cons.injEq,mB] at hR;obtain⟨⟨rfl,rfl,rfl⟩,rfl⟩:=hR;obtain⟨_,_,_,_,aR,_⟩:=hT.jb hx he;refine⟨s,x,j0,e,b,?_,fM,he,wh (k - 1) (s,j,b) ah (by rw[show n - 1 - (k - 1)=2 by omega];rfl),IH k (s++e.1,j0,b0) ah (by rw[show n - 1 - k=1 by omega];rfl),fun h=>absurd h hk⟩;rw[hE s fun a ha=>?_]
     ·exact hx
     ·simp at ha;rw[←ha];intro cN;have h1:=cN.length_le;have h2:=xl.2 aR;rw[bJ] at h1;omega
   refine gh ?_;rw[show decide ((0:Int)<(k:Int))=true by simp;omega];refine gh ?_;rw[show decide ((n:Int) - 2≤(k:Int))=true by simp;omega];refine gh ?_;refine GC.bq (pl:=(aZ [0,3,6,9,15,18,21,13,25,29])) (T:=cS [a1,a2]) (hm:=mixed) (h:=fun w hE hH=>gh ?_);refine GX.read rfl (GO.jU (hT:=Cx) (hv:=show(bg (R.reverse.map (·.2.2)))[((k:Int) - 1).toNat]?=some (ak bk) by rw[show((k:Int) - 1).toNat=k - 1 by omega];exact BJ) (h:=gh ?_));refine GX.read rfl (GO.jU (hT:=tj) (hv:=zQ) (h:=gh ?_));refine GX.gT (hc:=fun _ hs=>by have:=ahs D2.tt uG he hs;rw[fM] at this;exact this) (h:=?_);rintro T2 w ⟨k1,k2,k3,k4⟩ hS hH;replace hH:=SH.ap hH;refine gh ?_;rw[show(k:Int) - 1=((k - 1:Nat):Int) by omega];refine GQ.br (k - 1,T2) rfl ⟨by simp only;omega,by simp only;omega,fun h=>by simp only at h;omega,fun h t ht=>?_,⟨k1,fun t=>(k2 t).trans (D2.num t),k3.trans D2.root⟩,hH.to⟩ (by simp only;omega);dsimp only at h ⊢;have kD:k+1=n:=by omega
   obtain rfl:=cW kD;refine k4 t fun cN=>?_
   have jS:1<R.length:=by omega
   have:=adI kD R[1] (by simp[jS]);exact ht R[1] (by simp[jS]) (by rw[this];exact cN)
  ·refine gh ?_;rw[show decide ((0:Int)<(k:Int))=true by simp;omega];refine gh ?_;rw[show decide ((n:Int) - 2≤(k:Int))=false by simp;omega];refine gh ?_;exact done hH
 ·refine gh ?_;rw[show decide ((0:Int)<(k:Int))=false by simp;omega];refine gh ?_;exact done hH
end Go.Proofs.YtmlpbmgfmnmmmaaGreat.V.M
