/-
  Parts of the proof. No condition.
-/
import Derived.Test.YtoloaehmppcjoaaGreatW2bg
import Derived.Test.YtoloaehmppcjoaaGreatW2bb
import Derived.Test.YtoloaehmppcjoaaGreatW2bf
import Derived.Test.YtoloaehmppcjoaaGreatW2be
import Derived.Test.YtoloaehmppcjoaaGreatW2ax
set_option linter.unusedVariables false
set_option linter.unusedSimpArgs false
set_option maxRecDepth 8000
set_option maxHeartbeats 8000000
open Go.Proofs.Tryz
namespace Go.Proofs.YtoloaehmppcjoaaGreat.V.M
section
attribute [local irreducible] GO GX aB fz aF aS aq star
variable {o:Og}{w:World}
def ql (s:bw)(e:bM):Int:=if bf e.k=true∧bY e.t=(e.t,0) then(if 65536<e.v.length then 5 else if s.bytes<eN e then 12 else 0) else 2
structure Db where
 gs:List cG
 q:Option Nat×Nat
 err:Int
 s:bw
structure YH (s:bw)(e:bM)(y:Db):Prop where
 gone:y.gs.map (·.e)=(iu s.bytes s.many (eN e) (dj s.E e.k)).1
 E:y.s.E=(iu s.bytes s.many (eN e) (dj s.E e.k)).2++[e]
 bytes:y.s.bytes=s.bytes
 many:y.s.many=s.many
 K:y.s.K≤s.K+1+s.E.length
def Gt (s:bw)(e:bM)(y:Db):Prop:=y.err=ql s e∧((y.err≠0∧y.gs=[]∧y.s=s)∨(y.err=0∧YH s e y))
def WL (y:Db):Value := .tuple #[.slice (aA y.q.1) y.gs.length y.q.2,iV y.err]
def vj (b:Nat)(y:Db):List It:=[kz b y.s,aq 159 6 y.q.1 y.gs.length y.q.2 (aL eL y.gs),bJ (cZ y.gs)]
structure YG where
 X:dG
 s:bw
 gs:List cG
 q:Option Nat×Nat
theorem AQ (x:cG):∀u∈eL x,u.oneCell'=true:=by
 intro u hu;simp only[eL,bU,uc,or_false] at hu
 rcases hu with rfl|rfl|rfl|rfl|rfl|rfl<;>rfl
theorem JY (x:Int×Int):∀u∈qm x,u.oneCell'=true:=by
 intro u hu;simp only[qm,bU,uc,or_false] at hu
 rcases hu with rfl|rfl<;>rfl
theorem FJ {b:Nat}{s:bw}{e:bM}{l:List It}(z:Int)(hz:z=ql s e)(h0:z≠0)(hH:SH o w (kz b s::l)):aX o WL (Gt s e) (vj b) (.tuple #[.slice none 0 0,iV z]) w:=
 ⟨⟨[],(none,0),z,s⟩,rfl,⟨hz, .inl ⟨h0,rfl,rfl⟩⟩,(SH.cF (el:=159) (sz:=6) (q:=none) (n:=0) (c:=0) (cs:=[]) (hH.pR) (Mod.refl w) (fun _ h=>by cases h) (aH.nil _ _ _)).to⟩
theorem ak5 {b:Nat}{s:bw}{av ta:Option Addr}{nv cv nt ct:Nat}(e:bM)(oh:e.k.length<2^40)(kT:e.v.length=nv)(Aj:nv<2^40)(re:e.t.length=nt)(wC:nt<2^40)(hd:e.d≤never)(hn:e.n≤never)(dp:e.st≤never)(Eb:av=none→nv=0)(E8:ta=none→nt=0)(hK:s.K<2^59)
  (hs:Start o w [kz b s,aF av (Lib.byteCells e.v),aF ta (aK e.t)]) :
  aj prog 173 [ak b,Ho e.k (.slice av nv cv) (.slice ta nt ct) e.d e.n e.st].toArray w (aX o WL (Gt s e) (vj b)):=by
 subst kT;subst re;have hH:=hs.sh;obtain⟨⟨X,hX⟩,hH⟩:=SH.un hH;replace hH:=SH.ap hH;dsimp only at hH;refine aj.enter func173 rfl ntmps173 rfl (gh ?_);refine GX.cI (h:=fun eb w hH=>gh ?_);refine GX.aM (hc:=fun _ hs=>Kg hs) (h:=fun w hE hH=>gh ?_);refine GX.ef (hc:=fun _ hs=>Gf e.t rfl wC hs) (h:=?_);rintro⟨tq,tc⟩ w _ hE hH;replace hH:=SH.ap hH;refine gh ?_;refine GX.da (sr e.k _) rfl rfl rfl rfl rfl rfl (gh ?_);cases hk:bf e.k with
 |false=>
  refine gh ?_;exact FJ 2 (by rw[ql,if_neg (by rw[hk];simp)]) (by decide) (mT hX hH)
 |true=>
 refine gh ?_
 by_cases E7:(bY e.t).2≠0
 ·rw[show decide ((bY e.t).2≠0)=true from b8 E7];refine gh ?_;exact FJ 2 (by rw[ql,if_neg (fun h=>E7 (by rw[h.2]))]) (by decide) (mT hX hH)
 have ht:(bY e.t).2=0:=by simpa using E7
 rw[show decide ((bY e.t).2≠0)=false by simp[ht]];refine gh ?_;refine GX.aM (hc:=fun _ hs=>Q9 (bY e.t).1 e.t rfl rfl (by have:=AU e.t;omega) wC hs) (h:=fun w hE hH=>gh ?_);refine ifs (fun he=>?_) (fun he=>?_)<;>refine gh ?_
 ·exact FJ 2 (by rw[ql,if_neg (fun h=>he (by rw[h.2]))]) (by decide) (mT hX hH)
 have I4:bY e.t=(e.t,0):=Prod.ext (by simpa using he) ht;refine ifs (fun hv=>?_) (fun hv=>?_)<;>refine gh ?_
 ·exact FJ 5 (by rw[ql,if_pos ⟨hk,I4⟩,if_pos ah]) (by decide) (mT hX hH)
 have qJ:mr e:=⟨hk,by omega,I4,hd,hn,dp⟩
 have BD:=K8 qJ;refine GX.aM (hc:=fun _ hs=>Xt e qJ rfl rfl hs) (h:=fun w hE hH=>gh ?_);have hXb:=hX.bytes;have hXm:=hX.many;have hXl:=hX.len;have hXc:=hX.cost;refine GX.aM (hc:=fun _ hs=>Qs hXb.1 hs) (h:=fun w hE hH=>gh ?_);refine ifs (fun hc=>?_) (fun hc=>?_)<;>refine gh ?_
 ·exact FJ 12 (by rw[ql,if_pos ⟨hk,I4⟩,if_neg ah,if_pos ah]) (by decide) (mT hX hH)
 have hp0:ql s e=0:=by rw[ql,if_pos ⟨hk,I4⟩,if_neg ah,if_neg ah]
 refine GX.aM (hc:=fun _ hs=>F0 hX.eM e.k hs) (h:=fun w hE hH=>gh ?_);have qW:=fun hm=>hX.lost (k:=e.k) hm
 have qT:=fun n hm=>hX.found (k:=e.k) (n:=n) hm
 refine GC.cut (X:=dG×bw) (fun _=>[(0,ak b),(3,ak eb),(8,iV (eN e))]) (fun y w'=>dh y.1 y.2∧y.2.E=dj s.E e.k∧y.2.K≤s.K+1∧y.2.bytes=s.bytes∧y.2.many=s.many∧SH o w' (y.1.dS b y.2++[aB eb [str e.k, .slice av e.v.length cv, .slice ta e.t.length ct,uV e.d,uV e.n,uV e.st],aF av (Lib.byteCells e.v),aF ta (aK e.t)])) ?_ ?_
 ·unfold yS rz;rw[if_pos hk];cases hm:ay (fY X.S X.L) e.k with
  |some n=>
   obtain⟨hn,iN,nY⟩:=qT n hm;dsimp only;refine gh ?_;refine GX.bZ (hc:=fun _ hs=>Pf hX hn ah hs) (h:=?_);rintro T' w wa hH;replace hH:=SH.ap hH;rw[iN] at wa hH;refine gh ?_;exact GQ.dm (X.qw n T',s.drop e.k) (cR (l:=[0,3,8]) rfl) ⟨wa,rfl,aY _,rfl,rfl,hH.to⟩
  |none=>
   have nY:=qW hm;refine gh ?_;exact GQ.dm (X,s) (cR (l:=[0,3,8]) rfl) ⟨hX,(aiR nY).symm,pJ _,rfl,rfl,hH.to⟩
 ·rintro⟨X1,s1⟩ w ⟨HW,cX,LM,mE,rX,hH⟩;simp only at HW cX LM mE rX;dsimp only at hH;replace hH:=SH.ap hH;refine gh ?_;replace hH:=SH.cF (el:=159) (sz:=6) (q:=none) (n:=0) (c:=0) (cs:=[]) hH.pR (Mod.refl w) (fun _ h=>by cases h) (aH.nil _ _ _);refine GC.bR [0,3,8] (fun y:YG=>[(13, .slice (aA y.q.1) y.gs.length y.q.2)]) (fun y w'=>dh y.X y.s∧s1.E=y.gs.map (·.e)++y.s.E∧(iu s.bytes s.many (eN e) s1.E).1=y.gs.map (·.e)++(iu s.bytes s.many (eN e) y.s.E).1∧(iu s.bytes s.many (eN e) s1.E).2=(iu s.bytes s.many (eN e) y.s.E).2∧y.s.K=s1.K+y.gs.length∧y.s.bytes=s.bytes∧y.s.many=s.many∧SH o w' (y.X.dS b y.s++[aq 159 6 y.q.1 y.gs.length y.q.2 (aL eL y.gs),bJ (cZ y.gs),aB eb [str e.k, .slice av e.v.length cv, .slice ta e.t.length ct,uV e.d,uV e.n,uV e.st],aF av (Lib.byteCells e.v),aF ta (aK e.t)])) (fun y=>y.s.E.length) ⟨X1,s1,[],(none,0)⟩ rfl rfl ⟨HW,rfl,rfl,rfl,rfl,mE,rX,hH.to⟩ ?_;rintro⟨Y,t,gs,⟨q,qc⟩⟩ w ⟨hY,HL,Fa,I8,RO,Ed,BT,hH⟩;simp only at hY HL Fa I8 RO Ed BT;dsimp only at hH ⊢;replace hH:=SH.ap hH;have HX:=hY.bytes;have hYm:=hY.many;have hYl:=hY.len;have hYc:=hY.cost;have adx:=congrArg List.length HL;rw[bH,fH] at adx;have amW:=HW.len;have R9:=hY.ll;refine gh ?_;refine GX.aM (hc:=fun _ hs=>ale (ub:=ej t.E) (ue:=t.E.length) (c:=eN e) HX.1 ah ah ah hs) (h:=fun w hE hH=>gh ?_);refine ifs (fun hf=>?_) (fun hf=>?_)<;>refine gh ?_
  ·rw[Ed,BT] at hf;obtain⟨n,L',hL⟩:∃n L',Y.L=n::L':=by
    cases hYL:Y.L with
    |nil=>
     rw[hYL] at R9;have h0:t.E=[]:=gu R9.symm;rw[h0] at hf;simp[ej] at hf;omega
    |cons n L'=>exact⟨n,L',rfl⟩
   refine GX.aM (hc:=fun _ hs=>aio (L:=Y.L) ah hs) (h:=fun w hE hH=>gh ?_);rw[show OE Y.L=((n:Int),0) by rw[hL];rfl];refine gh ?_;refine GX.bZ (hc:=fun _ hs=>Pf hY (n:=n) (by rw[hL];simp) ah hs) (h:=?_);rintro T' w hY' hH;replace hH:=SH.ap hH;refine gh ?_;refine GX.nR (h1:=by exact AQ _) (h:=fun q c w _ hH=>gh ?_);have By:t.E=(aO Y.S n).e::j4 Y.S L':=by rw[hY.pT,hL];rfl
   have wA:dj t.E (aO Y.S n).e.k=j4 Y.S L':=by rw[By];exact aiQ (by rw[←By];exact hY.kn)
   have tA:iu s.bytes s.many (eN e) t.E=((aO Y.S n).e::(iu s.bytes s.many (eN e) (dj t.E (aO Y.S n).e.k)).1,(iu s.bytes s.many (eN e) (dj t.E (aO Y.S n).e.k)).2):=by
    rw[wA]
    conv=>lhs;rw[By]
    exact abz (by rw[←By];exact hf)
   have aQ:=hH.iI (m:=cZ (gs++[aO Y.S n])) (fG (aO Y.S n)) (cZ gs) (by repeat(first|exact Pk.nil|(apply Pk.cons;repeat(first|exact az.here|apply az.there)))) (by rw[CC,CD];exact sQ);rw[show gs.length+1=(gs++[aO Y.S n]).length by simp,←lH] at aQ;rw[show gs.length+1=(gs++[aO Y.S n]).length by simp];refine gh ?_;refine GQ.bj ⟨Y.qw n T',t.drop (aO Y.S n).e.k,gs++[aO Y.S n],(_,_)⟩ rfl ⟨hY',?_,?_,?_,?_,Ed,BT,aQ.to⟩ ?_
   ·show s1.E=(gs++[aO Y.S n]).map (·.e)++dj t.E (aO Y.S n).e.k;rw[wA,HL,By];simp
   ·show _=(gs++[aO Y.S n]).map (·.e)++(iu s.bytes s.many (eN e) (dj t.E (aO Y.S n).e.k)).1;rw[Fa,tA];simp
   ·show _=(iu s.bytes s.many (eN e) (dj t.E (aO Y.S n).e.k)).2;rw[I8,tA]
   ·show t.K+1=s1.K+(gs++[aO Y.S n]).length;rw[RO];simp;omega
   ·show(dj t.E (aO Y.S n).e.k).length<t.E.length;rw[wA,By];simp
  ·rw[Ed,BT] at hf;have adj:=Rb hf;rw[adj] at Fa I8;simp only[fB] at Fa;obtain⟨n,A',Sg,rN,hAm,hAg,hAo,ny,x9⟩:=hY.alE ah;have jf:=hY.sl;refine gh ?_;refine GX.bF (hc:=fun _ hs=>Zi hY.ar ah hs) (h:=fun w hH=>gh ?_);rw[Sg] at hH ⊢;refine gh ?_;refine GX.cA (h:=fun r w hH=>gh ?_);refine GX.bt (h:=fun w hH=>gh ?_);have ra:=hY.refs;refine GC.bR [0,3,8,13,16] (fun _:(List cG×List (Int×Int))×(Option Nat×Nat)×(Option Nat×Nat)=>[]) (fun y w'=>((y.1.1=Y.S∧y.1.2=Y.G)∨(n=Y.S.length∧y.1.1=Y.S++[s0]∧y.1.2=Y.G++[(0,0)]))∧SH o w' [aB b [ak Y.a,ak Y.t,ak Y.r,ak Y.h,ak Y.u, .slice (aA y.2.1.1) y.1.1.length y.2.1.2, .slice (aA y.2.2.1) y.1.2.length y.2.2.2],aq 159 6 y.2.1.1 y.1.1.length y.2.1.2 (aL eL y.1.1),aq 252 2 y.2.2.1 y.1.2.length y.2.2.2 (aL qm y.1.2),mY Y.a A',gV Y.t Y.T,nE Y.r Y.L,fV Y.h (dH Y.S Y.L),iH Y.u t.bytes t.many (ej t.E) t.E.length,bJ (cZ y.1.1),aq 159 6 q gs.length qc (aL eL gs),bJ (cZ gs),aB r [iV n,iV (A'.aW.getD n 0)],aB eb [str e.k, .slice av e.v.length cv, .slice ta e.t.length ct,uV e.d,uV e.n,uV e.st],aF av (Lib.byteCells e.v),aF ta (aK e.t)]) (fun y=>n+1 - y.1.1.length) ((Y.S,Y.G),Y.q1,Y.q2) rfl rfl ⟨.inl ⟨rfl,rfl⟩,hH.to⟩ ?_;rintro⟨⟨S',G'⟩,⟨p1,d1⟩,⟨p2,d2⟩⟩ w ⟨Ma,hH⟩;simp only at Ma;dsimp only at hH ⊢;refine gh ?_;refine GC.br (pl:=(bg [0,3,6,15,10,12,19,21])) (T:=fun _=>False) (hm:=mixed) (h:=fun w hE hH=>gh ?_);refine ifs (fun aN=>?_) (fun aN=>?_)<;>refine gh ?_
   ·have zW:n=Y.S.length∧S'=Y.S∧G'=Y.G:=by
     rcases Ma with⟨h1,h2⟩|⟨h1,h2,h3⟩
     ·rw[h1] at aN;exact⟨by rcases x9 with h|h<;>omega,h1,h2⟩
     ·rw[h2] at aN;simp at aN;omega
    obtain⟨zW,rfl,rfl⟩:=zW;have mE:=hH.tI (b:=b) (q:=p1) (el:=159) (sz:=6);have iM:=hH.tI (b:=b) (q:=p2) (el:=252) (sz:=2);have wu:¬(some b=p1∨some b=p2):=fun h=>h.elim mE iM
    refine GC.br (pl:=(.pure 0 (.pure 1 (.pure 2 (.pure 3 (.pure 4 (.pure 6 (.pure 9 (.pure 10 (.pure 11 (.pure 13 (.read 5 (.read 12 (.alt (.aw 7 (.alt (.aw 8 (.aw 14 (.aw 15 (.pure 16 (.pure 17 (.aw 18 (.pure 19 (.pure 20 (.aw 21 .done))))))))) (.aw 14 (.aw 8 (.aw 15 (.pure 16 (.pure 17 (.aw 18 (.pure 19 (.pure 20 (.aw 21 .done))))))))))) (.aw 14 (.aw 7 (.aw 8 (.aw 15 (.pure 16 (.pure 17 (.aw 18 (.pure 19 (.pure 20 (.aw 21 .done)))))))))))))))))))))))) (T:=fun k=>some k=p1∨some k=p2) (hm:=mixed) (h:=fun w hE hH=>gh ?_);refine GX.alt ?_ ?_
    ·refine GX.mg (h:=fun z1 w hS hH=>gh ?_);refine GX.alt ?_ ?_
     ·refine GX.oU (q:=p1) (hT:=fun _ h => .inl h) (h1:=AQ s0) (h:=fun q c w hS hH=>gh ?_);refine GX.mg (h:=fun z2 w hS hH=>gh ?_);refine GX.oU (q:=p2) (hT:=fun _ h => .inr h) (h1:=JY (0,0)) (h:=fun q c w hS hH=>gh ?_);refine GX.fO (h:=fun w hH=>gh ?_);refine GX.fO (h:=fun w hH=>gh ?_);have aQ:=hH.s0;replace aQ:=SH.ap aQ;have cH:=aQ.iI (m:=cZ (Y.S++[s0])) (fG s0) (cZ Y.S) (by repeat(first|exact Pk.nil|(apply Pk.cons;repeat(first|exact az.here|apply az.there)))) (by rw[CC,CD];exact sQ);rw[show Y.S.length+1=(Y.S++[s0]).length by simp,show Y.G.length+1=(Y.G++[((0:Int),(0:Int))]).length by simp,←lH,←lH] at cH;exact GQ.bj ((Y.S++[s0],Y.G++[(0,0)]),(_,_),(_,_)) rfl ⟨.inr ⟨zW,rfl,rfl⟩,cH.to⟩ (by simp;omega)
     ·refine GX.mg (h:=fun z2 w hS hH=>gh ?_);refine GX.oU (q:=p1) (hT:=fun _ h => .inl h) (h1:=AQ s0) (h:=fun q c w hS hH=>gh ?_);refine GX.oU (q:=p2) (hT:=fun _ h => .inr h) (h1:=JY (0,0)) (h:=fun q c w hS hH=>gh ?_);refine GX.fO (h:=fun w hH=>gh ?_);refine GX.fO (h:=fun w hH=>gh ?_);have aQ:=hH.s0;replace aQ:=SH.ap aQ;have cH:=aQ.iI (m:=cZ (Y.S++[s0])) (fG s0) (cZ Y.S) (by repeat(first|exact Pk.nil|(apply Pk.cons;repeat(first|exact az.here|apply az.there)))) (by rw[CC,CD];exact sQ);rw[show Y.S.length+1=(Y.S++[s0]).length by simp,show Y.G.length+1=(Y.G++[((0:Int),(0:Int))]).length by simp,←lH,←lH] at cH;exact GQ.bj ((Y.S++[s0],Y.G++[(0,0)]),(_,_),(_,_)) rfl ⟨.inr ⟨zW,rfl,rfl⟩,cH.to⟩ (by simp;omega)
    ·refine GX.mg (h:=fun z2 w hS hH=>gh ?_);refine GX.mg (h:=fun z1 w hS hH=>gh ?_);refine GX.oU (q:=p1) (hT:=fun _ h => .inl h) (h1:=AQ s0) (h:=fun q c w hS hH=>gh ?_);refine GX.oU (q:=p2) (hT:=fun _ h => .inr h) (h1:=JY (0,0)) (h:=fun q c w hS hH=>gh ?_);refine GX.fO (h:=fun w hH=>gh ?_);refine GX.fO (h:=fun w hH=>gh ?_);have aQ:=hH.s0;replace aQ:=SH.ap aQ;have cH:=aQ.iI (m:=cZ (Y.S++[s0])) (fG s0) (cZ Y.S) (by repeat(first|exact Pk.nil|(apply Pk.cons;repeat(first|exact az.here|apply az.there)))) (by rw[CC,CD];exact sQ);rw[show Y.S.length+1=(Y.S++[s0]).length by simp,show Y.G.length+1=(Y.G++[((0:Int),(0:Int))]).length by simp,←lH,←lH] at cH;exact GQ.bj ((Y.S++[s0],Y.G++[(0,0)]),(_,_),(_,_)) rfl ⟨.inr ⟨zW,rfl,rfl⟩,cH.to⟩ (by simp;omega)
   ·have gA:n<S'.length∧A'.aW.length=S'.length∧G'.length=S'.length∧(S'=Y.S∨S'=Y.S++[s0])∧(∀m∈Y.L,G'[m]?=Y.G[m]?)∧(Y.S.length<S'.length→n=Y.S.length):=by
     rcases Ma with⟨h1,h2⟩|⟨h1,h2,h3⟩
     ·rw[h1] at aN;refine⟨by rw[h1];omega,by rw[h1];rcases x9 with h|h<;>omega,by rw[h1,h2];exact ra, .inl h1,fun m _=>by rw[h2],fun h=>by rw[h1] at h;omega⟩
     ·refine⟨by rw[h2];simp;omega,by rw[h2];simp;rcases x9 with h|h<;>omega,by rw[h2,h3];simp[ra], .inr h2,fun m hm=>by rw[h3,gp (by rw[ra];exact hY.lt m hm)],fun _=>h1⟩
    obtain⟨BV,lV,RJ,qN,vT,om⟩:=gA;obtain⟨x1,rfl⟩:=hH.pos (el:=159) (sz:=6) (q:=p1);obtain⟨x2,rfl⟩:=hH.pos (el:=252) (sz:=2) (q:=p2);refine GC.cut (X:=(Option Nat×Nat)×(Option Nat×Nat)) (fun _=>[(0,ak b),(3,ak eb),(8,iV (eN e)),(13, .slice (aA q) gs.length qc),(16,ak r)]) (fun y w'=>SH o w' [aq 5 1 y.1.1 e.v.length y.1.2 (Lib.byteCells e.v),aq 9 1 y.2.1 e.t.length y.2.2 (aK e.t),aB b [ak Y.a,ak Y.t,ak Y.r,ak Y.h,ak Y.u, .slice (aA (some x1)) S'.length d1, .slice (aA (some x2)) G'.length d2],aq 159 6 (some x1) S'.length d1 (aL eL (S'.set n ⟨e,y.1,y.2⟩)),aq 252 2 (some x2) G'.length d2 (aL qm (G'.set n ((n:Int),A'.aW.getD n 0))),mY Y.a A',gV Y.t Y.T,nE Y.r Y.L,fV Y.h (dH Y.S Y.L),iH Y.u t.bytes t.many (ej t.E) t.E.length,bJ (cZ S'),aq 159 6 q gs.length qc (aL eL gs),bJ (cZ gs),aB r [iV n,iV (A'.aW.getD n 0)],aB eb [str e.k, .slice av e.v.length cv, .slice ta e.t.length ct,uV e.d,uV e.n,uV e.st],aF av (Lib.byteCells e.v),aF ta (aK e.t)]) ?_ ?_
    ·refine GC.br (pl:=(.pure 0 (.pure 1 (.pure 2 (.pure 4 (.pure 6 (.pure 7 (.pure 8 (.pure 10 (.read 3 (.read 5 (.read 9 (.read 12 (.alt (.aw 11 (.alt (.aw 13 (.pure 15 (.alt (.aw 14 (.aw 16 (.pure 17 (.aw 18 .done)))) (.aw 16 (.aw 14 (.pure 17 (.aw 18 .done))))))) (.aw 14 (.aw 13 (.pure 15 (.aw 16 (.pure 17 (.aw 18 .done)))))))) (.alt (.aw 13 (.pure 15 (.alt (.aw 11 (.alt (.aw 14 (.aw 16 (.pure 17 (.aw 18 .done)))) (.aw 16 (.aw 14 (.pure 17 (.aw 18 .done)))))) (.alt (.aw 14 (.alt (.aw 11 (.aw 16 (.pure 17 (.aw 18 .done)))) (.aw 16 (.aw 11 (.pure 17 (.aw 18 .done)))))) (.aw 16 (.alt (.aw 11 (.aw 14 (.pure 17 (.aw 18 .done)))) (.aw 14 (.aw 11 (.pure 17 (.aw 18 .done)))))))))) (.aw 14 (.alt (.aw 11 (.aw 13 (.pure 15 (.aw 16 (.pure 17 (.aw 18 .done)))))) (.aw 13 (.pure 15 (.alt (.aw 11 (.aw 16 (.pure 17 (.aw 18 .done)))) (.aw 16 (.aw 11 (.pure 17 (.aw 18 .done)))))))))))))))))))))))) (T:=fun _=>False) (hm:=mixed) (h:=fun w hE hH=>gh ?_);have k1:0+n*6+6≤(aL eL S').length:=by rw[gT pA];omega
     have k2:0+n*2+2≤(aL qm G').length:=by rw[gT JX];omega
     have k3:∀y1 y2,(aL eL S').take (0+n*6)++eL ⟨e,y1,y2⟩++(aL eL S').drop (0+n*6+6)=aL eL (S'.set n ⟨e,y1,y2⟩):=fun y1 y2=>by rw[dz];exact AM pA BV _
     have k4:(aL qm G').take (0+n*2)++qm ((n:Int),A'.aW.getD n 0)++(aL qm G').drop (0+n*2+2)=aL qm (G'.set n ((n:Int),A'.aW.getD n 0)):=by rw[dz];exact AM JX ah _
     have k5:(Lib.byteCells e.v).length=e.v.length:=by simp[Lib.byteCells]
     have k6:(aK e.t).length=e.t.length:=by simp
     have k7:=GY e.v;have k8:=yU e.t;refine GX.alt (gh ?_) (gh ?_)
     ·refine GX.alt (gh ?_) (gh ?_)
      ·refine GX.eG (hc:=fun _ hs=>yK (vs:=Lib.byteCells e.v) (ts:=aK e.t) Aj k5 Eb k7 wC k6 E8 k8 hs) (h:=?_);rintro⟨y1,y2⟩ w _ hS hH;replace hH:=SH.ap hH;refine gh ?_;refine GX.alt (gh ?_) (gh ?_)
       ·refine GX.gU (hb:=k1) (hc:=k3 y1 y2) (h:=fun w hH=>gh ?_);refine GX.gU (hb:=k2) (hc:=k4) (h:=fun w hH=>gh ?_);exact GQ.dm (y1,y2) (cR (l:=[0,3,8,13,16]) rfl) hH.to
       ·refine GX.gU (hb:=k1) (hc:=k3 y1 y2) (h:=fun w hH=>gh ?_);refine GX.gU (hb:=k2) (hc:=k4) (h:=fun w hH=>gh ?_);exact GQ.dm (y1,y2) (cR (l:=[0,3,8,13,16]) rfl) hH.to
      ·refine GX.eG (hc:=fun _ hs=>yK (vs:=Lib.byteCells e.v) (ts:=aK e.t) Aj k5 Eb k7 wC k6 E8 k8 hs) (h:=?_);rintro⟨y1,y2⟩ w _ hS hH;replace hH:=SH.ap hH;refine gh ?_;refine GX.gU (hb:=k1) (hc:=k3 y1 y2) (h:=fun w hH=>gh ?_);refine GX.gU (hb:=k2) (hc:=k4) (h:=fun w hH=>gh ?_);exact GQ.dm (y1,y2) (cR (l:=[0,3,8,13,16]) rfl) hH.to
     ·refine GX.alt (gh ?_) (gh ?_)
      ·refine GX.eG (hc:=fun _ hs=>yK (vs:=Lib.byteCells e.v) (ts:=aK e.t) Aj k5 Eb k7 wC k6 E8 k8 hs) (h:=?_);rintro⟨y1,y2⟩ w _ hS hH;replace hH:=SH.ap hH;refine gh ?_;refine GX.alt (gh ?_) (gh ?_)
       ·refine GX.alt (gh ?_) (gh ?_)
        ·refine GX.gU (hb:=k1) (hc:=k3 y1 y2) (h:=fun w hH=>gh ?_);refine GX.gU (hb:=k2) (hc:=k4) (h:=fun w hH=>gh ?_);exact GQ.dm (y1,y2) (cR (l:=[0,3,8,13,16]) rfl) hH.to
        ·refine GX.gU (hb:=k1) (hc:=k3 y1 y2) (h:=fun w hH=>gh ?_);refine GX.gU (hb:=k2) (hc:=k4) (h:=fun w hH=>gh ?_);exact GQ.dm (y1,y2) (cR (l:=[0,3,8,13,16]) rfl) hH.to
       ·refine GX.alt (gh ?_) (gh ?_)
        ·refine GX.alt (gh ?_) (gh ?_)
         ·refine GX.gU (hb:=k1) (hc:=k3 y1 y2) (h:=fun w hH=>gh ?_);refine GX.gU (hb:=k2) (hc:=k4) (h:=fun w hH=>gh ?_);exact GQ.dm (y1,y2) (cR (l:=[0,3,8,13,16]) rfl) hH.to
         ·refine GX.gU (hb:=k1) (hc:=k3 y1 y2) (h:=fun w hH=>gh ?_);refine GX.gU (hb:=k2) (hc:=k4) (h:=fun w hH=>gh ?_);exact GQ.dm (y1,y2) (cR (l:=[0,3,8,13,16]) rfl) hH.to
        ·refine GX.gU (hb:=k1) (hc:=k3 y1 y2) (h:=fun w hH=>gh ?_);refine GX.alt (gh ?_) (gh ?_)
         ·refine GX.gU (hb:=k2) (hc:=k4) (h:=fun w hH=>gh ?_);exact GQ.dm (y1,y2) (cR (l:=[0,3,8,13,16]) rfl) hH.to
         ·refine GX.gU (hb:=k2) (hc:=k4) (h:=fun w hH=>gh ?_);exact GQ.dm (y1,y2) (cR (l:=[0,3,8,13,16]) rfl) hH.to
      ·refine GX.alt (gh ?_) (gh ?_)
       ·refine GX.eG (hc:=fun _ hs=>yK (vs:=Lib.byteCells e.v) (ts:=aK e.t) Aj k5 Eb k7 wC k6 E8 k8 hs) (h:=?_);rintro⟨y1,y2⟩ w _ hS hH;replace hH:=SH.ap hH;refine gh ?_;refine GX.gU (hb:=k1) (hc:=k3 y1 y2) (h:=fun w hH=>gh ?_);refine GX.gU (hb:=k2) (hc:=k4) (h:=fun w hH=>gh ?_);exact GQ.dm (y1,y2) (cR (l:=[0,3,8,13,16]) rfl) hH.to
       ·refine GX.eG (hc:=fun _ hs=>yK (vs:=Lib.byteCells e.v) (ts:=aK e.t) Aj k5 Eb k7 wC k6 E8 k8 hs) (h:=?_);rintro⟨y1,y2⟩ w _ hS hH;replace hH:=SH.ap hH;refine gh ?_;refine GX.alt (gh ?_) (gh ?_)
        ·refine GX.gU (hb:=k1) (hc:=k3 y1 y2) (h:=fun w hH=>gh ?_);refine GX.gU (hb:=k2) (hc:=k4) (h:=fun w hH=>gh ?_);exact GQ.dm (y1,y2) (cR (l:=[0,3,8,13,16]) rfl) hH.to
        ·refine GX.gU (hb:=k1) (hc:=k3 y1 y2) (h:=fun w hH=>gh ?_);refine GX.gU (hb:=k2) (hc:=k4) (h:=fun w hH=>gh ?_);exact GQ.dm (y1,y2) (cR (l:=[0,3,8,13,16]) rfl) hH.to
    ·rintro⟨y1,y2⟩ w ia;dsimp only at ia;have aQ:=ia.rK (fG (aO S' n)) (cZ (S'.eraseIdx n)) (yJ (yP BV));replace aQ:=SH.ap aQ;have hH:=aQ.iI (m:=cZ (S'.set n ⟨e,y1,y2⟩)) (fG ⟨e,y1,y2⟩) (cZ (S'.eraseIdx n)) (by repeat(first|exact Pk.nil|(apply Pk.cons;repeat(first|exact az.here|apply az.there)))) (OI _ BV);clear aQ ia;have SY:e.k∉t.E.map (·.k):=fun dR=>by
      obtain⟨x,hx,eS⟩:=bG.1 dR;have:x∈dj s.E e.k:=by rw[←cX,HL];exact List.mem_append_right _ hx
      exact dM (fR.1 this).2 eS
     have MJ:e.k∉(fY Y.S Y.L).map (·.1):=fun dR=>SY (by
      rw[hY.pT];unfold fY at dR;unfold j4;rw[nK] at dR ⊢;exact dR)
     have II:n<1048576:=by
      have:=rN.len;have:=rN.aD;omega
     refine gh ?_;refine GC.br (pl:=(bg [0,3,6,12,18,10,16,22,26])) (T:=dt [b,eb,r]) (hm:=mixed) (h:=fun w hE hH=>gh ?_);refine GX.kL (hc:=fun _ hs=>alO hY.eM e.k n hk MJ (by unfold fY;rw[fH];omega) hs) (h:=?_);rintro YN w acG hS hH;replace hH:=SH.ap hH;refine gh ?_;refine GC.br (pl:=(bg [0,3,6,12,10,16,20])) (T:=dt [b,r]) (hm:=mixed) (h:=fun w hE hH=>gh ?_);refine GX.mZ (hc:=fun _ hs=>WQ n II ny hs) (h:=fun w hS hH=>gh ?_);have vV:(Y.L++[n]).Nodup:=ga.2 ⟨hY.nd,by simp,fun a ha b hb e=>by simp at hb;subst hb e;exact ny ha⟩;have hLe:(Y.L++[n]).erase n=Y.L:=by rw[List.erase_append_right _ ny];simp
     have HQ:∀m∈Y.L,aO (S'.set n ⟨e,y1,y2⟩) m=aO Y.S m:=fun m hm=>by
      rw[yQ _ (fun e=>ny (by rw[←e];exact hm))]
      rcases qN with h|h<;>rw[h]
      unfold aO;rw[dP,dP,gp (hY.lt m hm)]
     have wz:(S'.set n ⟨e,y1,y2⟩).set n (rp (aO (S'.set n ⟨e,y1,y2⟩) n) e.d)=S'.set n ⟨e,y1,y2⟩:=by
      rw[CN _ BV,List.set_set];rfl
     rw[show S'.length=(S'.set n ⟨e,y1,y2⟩).length by simp,show G'.length=(G'.set n ((n:Int),A'.aW.getD n 0)).length by simp] at hH;refine GX.bF (hc:=fun _ hs=>XX (n:=n) (S:=S'.set n ⟨e,y1,y2⟩) (L:=Y.L++[n]) (D:=dH Y.S Y.L) (t:=e.d) (by simp) vV (by simpa using BV) (by have:=rN.len;have:=rN.aD;simp;omega) (by simp;omega) hd (.inr (by rw[hLe,Hh HQ])) hs) (h:=fun w hH=>gh ?_);rw[wz] at hH;refine gh ?_;refine GX.bF (hc:=fun _ hs=>Z4 (ub:=ej t.E) (ue:=t.E.length) HX.1 (eN e) BD ah ah hs) (h:=fun w hH=>gh ?_);have nZ:=hY.put (n:=n) (A:=A') (T:=YN) (S:=S') (G:=G') (y:=⟨e,y1,y2⟩) (q1:=(some x1,d1)) (q2:=(some x2,d2)) qJ rN hAm ny BV qN RJ vT lV hAg hAo om acG SY (by show ej t.E+eN e≤t.bytes;omega) ah;rw[show ej t.E+eN e=ej (t.E++[e]) by rw[Kn];simp[ej],show t.E.length+1=(t.E++[e]).length by simp] at hH;refine⟨⟨gs,(q,qc),0,{ t with E:=t.E++[e]}⟩,rfl,⟨hp0.symm, .inr ⟨rfl,⟨?_,?_,Ed,BT,?_⟩⟩⟩,(mT nZ hH).to⟩
     ·rw[←cX];exact Fa.symm
     ·show t.E++[e]=_;rw[←cX,I8]
     ·show t.K≤s.K+1+s.E.length;have:s1.E.length≤s.E.length:=by rw[cX];exact pF _ _
      omega
def Oj (b e:Nat):bw:=⟨b,e,[],0⟩
theorem jo.new (s:Nat)(hs:s<18446744073709551616):jo ⟨s,List.replicate 8 none,0⟩ []:=
 ⟨hs,⟨3,by decide,by decide,by simp⟩,fb.empty _ 8 (by decide),(fun x hx=>by cases hx),rfl,by simp⟩
theorem alf (b e sd:Nat)(hb:1≤b∧b≤1099511627776)(he:1≤e∧e≤1048576)(eH:sd<18446744073709551616)(hs:Start o w []) :
  aj prog 60 [iV b,iV e,uV sd].toArray w (aX o (fun c:Nat => .tuple #[ak c,iV 0]) (fun _=>True) (fun c=>[kz c (Oj b e)])):=by
 have hH:=hs.sh;refine aj.enter func60 rfl ntmps60 rfl (gh ?_);refine GX.bZ (hc:=fun _ hs=>aat b e hb he hs) (h:=?_);rintro u w _ hH;replace hH:=SH.ap hH;refine gh ?_;refine GX.bZ (hc:=fun _ hs=>Zd e he.1 he.2 hs) (h:=?_);rintro a w _ hH;replace hH:=SH.ap hH;refine gh ?_;refine GX.bZ (hc:=fun _ hs=>alN sd eH hs) (h:=?_);rintro t w _ hH;replace hH:=SH.ap hH;refine gh ?_;refine GX.bZ (hc:=fun _ hs=>aiT hs) (h:=?_);rintro r w _ hH;replace hH:=SH.ap hH;refine gh ?_;refine GX.bZ (hc:=fun _ hs=>adI hs) (h:=?_);rintro h w _ hH;replace hH:=SH.ap hH;refine gh ?_;refine GX.cI (h:=fun c w hH=>gh ?_);have hX:dh ⟨a,t,r,h,u,⟨e,[],[]⟩,⟨sd,List.replicate 8 none,0⟩,[],[],[],(none,0),(none,0)⟩ (Oj b e):=
  ⟨rfl,lP,(fun _ h=>by cases h),jo.new sd eH,⟨⟨(by show 0<e;omega),he.2⟩,bh _,(fun _ h=>by cases h),(fun n=>by simp),lP,aY _⟩,rfl,rfl,(fun _ h=>by simp at h),rfl,(fun _ h=>by cases h),(fun _ h=>by cases h),(fun _ h=>by cases h),lP,bh _,bh _,hb,he⟩
 have aQ:=SH.cF (el:=159) (sz:=6) (q:=none) (n:=0) (c:=0) (cs:=[]) (SH.cF (el:=252) (sz:=2) (q:=none) (n:=0) (c:=0) (cs:=[]) hH.pR (Mod.refl w) (fun _ h=>by cases h) (aH.nil _ _ _)) (Mod.refl w) (fun _ h=>by cases h) (aH.nil _ _ _);exact⟨c,rfl,trivial,(mT hX aQ).to⟩
theorem dh.copy {X:dG}{s:bw}(hX:dh X s){a t r h u:Nat}{S:List cG}{q1 q2:Option Nat×Nat}(hS:S.map (·.e)=X.S.map (·.e)):dh { X with a:=a,t:=t,r:=r,h:=h,u:=u,S:=S,q1:=q1,q2:=q2} s∧dH S X.L=dH X.S X.L:=by
 have hl:S.length=X.S.length:=by have:=congrArg List.length hS;simpa using this
 have he:∀n,(aO S n).e=(aO X.S n).e:=fun n=>by
  have h1:∀T:List cG,(aO T n).e=((T.map (·.e))[n]?).getD s0.e:=fun T=>by
   unfold aO;rw[dP,gG];cases T[n]?<;>rfl
  rw[h1,h1,hS]
 have hk:fY S X.L=fY X.S X.L:=rC fun n _=>by rw[he]
 have xW:j4 S X.L=j4 X.S X.L:=rC fun n _=>by rw[he]
 have hd:dH S X.L=dH X.S X.L:=by
  unfold dH;rw[List.filter_congr (q:=fun n=>decide ((aO X.S n).e.d≠never)) fun n _=>by rw[he]];exact rC fun n _=>by rw[he]
 refine⟨⟨hX.pT.trans xW.symm,hX.nd,fun n hn=>by show n<S.length;rw[hl];exact hX.lt n hn,by show jo X.T (fY S X.L);rw[hk];exact hX.eM,hX.ar,hX.aD,by show X.A.aW.length=S.length;rw[hl];exact hX.gl,fun n hn=>hX.live n (by rw[←hl];exact hn),by show X.G.length=S.length;rw[hl];exact hX.refs,hX.ref,fun x hx=>?_,hX.xP,hX.kn,hX.cost,hX.len,hX.bytes,hX.many⟩,hd⟩;have:x.e∈X.S.map (·.e):=by rw[←hS];exact bG.2 ⟨x,hx,rfl⟩
 obtain⟨y,hy,e⟩:=bG.1 this;have:=hX.sb y hy;unfold zc at this ⊢;rw[←e];exact this
theorem SH.Ld {l r:List It}{x:It}(h:SH o w l)(hs:az (fz x) l r:=by repeat(first|exact az.here|apply az.there)):SH o w (fz x::l):=by
 have hp:=hs.perm;obtain⟨Z,F,hu,⟨F1,F2,rfl,hd,h1,h2⟩,h3,h4⟩:=h.perm hp;refine SH.perm (l:=fz x::fz x::r) ⟨Z,fun b=>F1 b∨F2 b,hu,⟨fun _=>False,_,by simp,fun _ h=>h.elim,?_,F1,F2,rfl,hd,h1,h2⟩,h3,h4⟩ (List.Perm.cons _ hp.symm);unfold fz at h1 ⊢;exact⟨h1.1,rfl⟩
theorem Zk {l:List It}{S:List cG}{n:Nat}{x:cG}(hH:SH o w l)(hx:S[n]?=some x){r:List It}(hs:az (fz (bJ (cZ S))) l r:=by repeat(first|exact az.here|apply az.there)):SH o w ((fG x).map fz++(fz (bJ (cZ (S.eraseIdx n)))::r)):=hH.GP (fG x) _ (yJ hx) hs
theorem alc {b:Nat}{s:bw}(hs:Start o w [fz (kz b s)]) :
  aj prog 86 [ak b].toArray w (aX o ak (fun _=>True) (fun c=>[kz c s])):=by
 have hH:=hs.sh;obtain⟨⟨X,hX⟩,hH⟩:=SH.dV hH;replace hH:=SH.ed hH;dsimp only at hH;have Sr:=fun a t r h u S q1 q2 hS=>hX.copy (a:=a) (t:=t) (r:=r) (h:=h) (u:=u) (S:=S) (q1:=q1) (q2:=q2) hS
 obtain⟨a,t,r,h,u,A,T,L,S,G,⟨q1,c1⟩,⟨q2,c2⟩⟩:=X;dsimp only at hH Sr;have ep:S.length≤1048576:=hX.sl;have oe:G.length=S.length:=hX.refs;have hag:A.aW.length=S.length:=hX.gl;have haf:A.free.length≤A.aW.length:=hX.ar.Bp;have H5:0<A.aD:=hX.ar.aD.1;have yh:∀x∈S,zc x:=hX.sb;have HX:1≤s.bytes:=hX.bytes.1;have g1:=hH.tK (el:=252) (sz:=2) (q:=q2);refine aj.enter func86 rfl ntmps86 rfl (gh ?_);refine GX.aM (hc:=fun _ hs=>Kg hs) (h:=fun w hE hH=>gh ?_);refine GC.br (pl:=(bg [0,3,6,15,18,21,30,33,36,45,48,51,60,63,66,75,78,81,10,25,40,55,70,85,14,29,44,59,74,89,90,95,96])) (T:=fun _=>False) (hm:=mixed) (h:=fun w hE hH=>gh ?_);refine GX.eG (hc:=fun _ hs=>YU H5 ah ah hs) (h:=?_);rintro a' w _ hS hH;replace hH:=SH.ap hH;refine gh ?_;refine GX.eG (hc:=fun _ hs=>alG (t:=T) hX.eM.s hs) (h:=?_);rintro t' w _ hS hH;replace hH:=SH.ap hH;refine gh ?_;refine GX.eG (hc:=fun _ hs=>ain (L:=L) hs) (h:=?_);rintro r' w _ hS hH;replace hH:=SH.ap hH;refine gh ?_;refine GX.eG (hc:=fun _ hs=>ac7 (D:=dH S L) hs) (h:=?_);rintro h' w _ hS hH;replace hH:=SH.ap hH;refine gh ?_;refine GX.eG (hc:=fun _ hs=>Z5 (b:=s.bytes) HX hs) (h:=?_);rintro u' w _ hS hH;replace hH:=SH.ap hH;refine gh ?_;refine GX.eG (hc:=fun _ hs=>aan (cs:=aL qm G) ah (gT JX _) g1 (FO JY _) hs) (h:=?_);rintro⟨q3,c3⟩ w _ hS hH;replace hH:=SH.ap hH;refine gh ?_;refine GX.oW (h:=fun c w hS hH=>gh ?_);have ia:=SH.cF (el:=159) (sz:=6) (q:=none) (n:=0) (c:=0) (cs:=[]) hH.pR (Mod.refl w) (fun _ h=>by cases h) (aH.nil _ _ _);refine GC.bR [3,43,44] (fun y:(Nat×List cG)×(Option Nat×Nat)=>[(45,iV y.1.1)]) (fun y w'=>y.1.1≤S.length∧y.1.2.map (·.e)=(S.take y.1.1).map (·.e)∧SH o w' [aB c [ak a',ak t',ak r',ak h',ak u', .slice (aA y.2.1) y.1.2.length y.2.2, .slice (aA q3) G.length c3],aq 159 6 y.2.1 y.1.2.length y.2.2 (aL eL y.1.2),aq 252 2 q3 G.length c3 (aL qm G),mY a' A,gV t' T,nE r' L,fV h' (dH S L),iH u' s.bytes s.many (ej s.E) s.E.length,bJ (cZ y.1.2),fz (aq 159 6 q1 S.length c1 (aL eL S)),fz (bJ (cZ S))]) (fun y=>S.length - y.1.1) ((0,[]),(none,0)) rfl rfl ⟨bh _,rfl,ia.to⟩ ?_;rintro⟨⟨i,acc⟩,⟨q,qc⟩⟩ w ⟨hi,Ea,hH⟩;simp only at hi Ea;dsimp only at hH ⊢;have cj:acc.length=i:=by
  have:=congrArg List.length Ea;simp at this;omega
 refine gh ?_;refine ifs (fun aN=>?_) (fun aN=>?_)<;>refine gh ?_
 ·have eY:i<S.length:=by omega
  have hg:=yP eY;obtain⟨mE,iM,xT⟩:=yh _ (bD hg);have hd:=ku pA hg;obtain⟨p1,rfl⟩:=hH.l8 (el:=159) (sz:=6) (q:=q1);refine gh ?_;refine GX.next rfl (GO.kg (hv:=hd) (h:=gh ?_));refine GX.cA (h:=fun z w hH=>gh ?_);refine GX.bt (h:=fun w hH=>gh ?_);have acR:=hH.tI (b:=c) (q:=q) (el:=159) (sz:=6);have acS:=hH.tI (b:=z) (q:=q) (el:=159) (sz:=6);have DR:=Zk (hH.Ld (x:=bJ (cZ S))) hg;simp only[fG,cJ,tW,jK,kC] at DR;have n1:=DR.tK (el:=5) (sz:=1);have n2:=DR.tK (el:=9) (sz:=1);have k5:(Lib.byteCells (aO S i).e.v).length=(aO S i).e.v.length:=by simp[Lib.byteCells]
  replace hH:=DR;clear DR;have wu:¬(some c=q):=acR;have ER:¬(some z=q):=acS;refine GC.br (pl:=(bg [0,3,6,9,13,16,20,23,26,27,30,35])) (T:=fun k=>some k=q) (hm:=mixed) (h:=fun w hE hH=>gh ?_);refine GX.eG (hc:=fun _ hs=>yK (vs:=Lib.byteCells (aO S i).e.v) (ts:=aK (aO S i).e.t) ah k5 n1 (GY _) ah (by simp) n2 (yU _) hs) (h:=?_);rintro⟨y1,y2⟩ w _ hS hH;replace hH:=SH.ap hH;refine gh ?_;refine GX.mg (h:=fun z1 w hS hH=>gh ?_);refine GX.oU (q:=q) (h1:=AQ ⟨(aO S i).e,y1,y2⟩) (h:=fun q c w hS hH=>gh ?_);refine GX.fO (h:=fun w hH=>gh ?_);have aQ:=hH.iI (m:=cZ (acc++[⟨(aO S i).e,y1,y2⟩])) (fG ⟨(aO S i).e,y1,y2⟩) (cZ acc) (by repeat(first|exact Pk.nil|(apply Pk.cons;repeat(first|exact az.here|apply az.there)))) (by rw[CC,CD];exact sQ);rw[show acc.length+1=(acc++[(⟨(aO S i).e,y1,y2⟩:cG)]).length by simp,←lH] at aQ;refine gh ?_;exact GQ.bj ((i+1,acc++[⟨(aO S i).e,y1,y2⟩]),(_,_)) rfl ⟨eY,by
   simp only[eA,Ea];rw[lh eY,eA];congr 1;simp[aO,eY],aQ.to⟩ (by simp only;omega)
 ·obtain rfl:i=S.length:=by omega
  rw[kD] at Ea;obtain⟨wa,jQ⟩:=Sr a' t' r' h' u' acc (q,qc) (q3,c3) Ea;rw[←jQ] at hH;refine gh ?_;exact⟨c,rfl,trivial,(mT wa hH).to⟩
def kB (x:Bs×Tn):List It:=[aB x.2.b [str x.2.e,uV x.2.n, .slice (aA x.2.q.1) x.2.ks.length x.2.q.2],aq 279 1 x.2.q.1 x.2.ks.length x.2.q.2 (bq (x.2.ks.map (·.2)))]
abbrev cy:=List (Bs×Tn)
structure TT (T:cy):Prop where
 ok:iG (ay T)
 nd:(T.map (·.1)).Nodup
theorem Ju (T:cy)(k:Bs)(v:Tn):ay (bC T k v)=ew (ay T) k (some v):=by
 funext j;rw[kU];rfl
theorem wP {T:cy}(h:(T.map (·.1)).Nodup)(k:Bs):((bB T k).map (·.1)).Nodup:=h.sublist ((xm T k).map _)
def wS (T:cy):List Bs:=(T.filter fun e=>decide (0<e.2.n)).map (·.1)
def fC (T:cy):Nat:=(wS T).length
theorem wK {T:cy}(h:(T.map (·.1)).Nodup){t:Bs}:t∈wS T↔0<bX (ay T) t:=by
 unfold wS bX;simp only[bG,fR,oO];constructor
 ·rintro⟨⟨a,x⟩,⟨h1,h2⟩,rfl⟩;rw[FA h h1];exact h2
 ·intro h1;cases hg:ay T t with
  |none=>rw[hg] at h1;exact absurd h1 (Nat.lt_irrefl 0)
  |some x=>rw[hg] at h1;exact⟨(t,x),⟨V1 hg,h1⟩,rfl⟩
theorem Oh {T:cy}(h:(T.map (·.1)).Nodup):(wS T).Nodup:=h.sublist (List.filter_sublist.map _)
theorem Hb {T T':cy}(h:(T.map (·.1)).Nodup)(h':(T'.map (·.1)).Nodup)(hs:∀t,0<bX (ay T') t→0<bX (ay T) t):fC T'≤fC T:=
 xz (Oh h') fun t ht=>(wK h).2 (hs t ((wK h').1 ht))
theorem QN {T T':cy}(h:(T.map (·.1)).Nodup)(h':(T'.map (·.1)).Nodup)(hs:∀t,bX (ay T') t=bX (ay T) t):fC T'=fC T:=
 Nat.le_antisymm (Hb h h' fun t ht=>by rw[←hs];exact ht) (Hb h' h fun t ht=>by rw[hs];exact ht)
theorem QM {T T':cy}(h:(T.map (·.1)).Nodup)(h':(T'.map (·.1)).Nodup){s:Bs}(h0:bX (ay T) s=0)(h1:0<bX (ay T') s)(hs:∀t,t≠s→bX (ay T') t=bX (ay T) t):fC T'=fC T+1:=by
 have zY:s∉wS T:=fun hm=>by have:=(wK h).1 hm;omega
 have hc:(s::wS T).Nodup:=eQ.2 ⟨zY,Oh h⟩;refine Nat.le_antisymm ?_ ?_
 ·have:=xz (Oh h') (l₂:=s::wS T) fun t ht=>by
   by_cases e:t=s
   ·rw[e];simp
   ·exact fP _ ((wK h).2 (by rw[←hs t e];exact(wK h').1 ht))
  simpa[fC] using this
 ·have:=xz hc (l₂:=wS T') fun t ht=>by
   rcases bU.1 ht with rfl|ht
   ·exact(wK h').2 h1
   ·have e:t≠s:=fun e=>zY (e▸ht)
    exact(wK h').2 (by rw[hs t e];exact(wK h).1 ht)
  simpa[fC] using this
theorem ada (l:Bs):hd l<256:=UInt8.toNat_lt _
theorem TT.kl {T:cy}(h:TT T){s:Bs}{x:Tn}(hx:ay T s=some x):x.ks.length≤256:=by
 have h1:=h.ok.ord s x hx;have h2:(x.ks.map fun e=>hd e.1).Nodup:=by
  rw[pM,rD];exact h1.imp fun h=>Nat.ne_of_lt h
 have h3:=xz h2 (l₂:=List.range 256) fun n hn=>by
  obtain⟨e,_,rfl⟩:=bG.1 hn;exact tY.2 (ada _)
 simpa using h3
theorem TT.jz {T:cy}(h:TT T){s:Bs}{x:Tn}(hx:ay T s=some x){i:Nat}{e:Bs×Nat}(he:x.ks[i]?=some e):∃y,ay T (s++e.1)=some y∧y.e=e.1∧y.b=e.2∧e.1≠[]∧s≠s++e.1∧(s++e.1).length≤250∧e.1.length≤250:=by
 have hm:=bD he;obtain⟨y,h1,h2,h3⟩:=h.ok.jz s x hx e hm;have h4:=h.ok.ne s x hx e hm;have h5:=h.ok.len _ _ h1;exact⟨y,h1,h2,h3,h4,fun a=>h4 (by simpa using a),h5,by rw[bH] at h5;omega⟩
structure sX where
 P:Bs→Nat
 K:Nat
structure Gu (T:cy)(A:sX):Prop where
 tt:TT T
 num:∀s,A.P s=bX (ay T) s
 cP:fC T≤A.K
def jh (T:cy):Nat:=match ay T [] with|some r=>r.b|none=>0
abbrev eU (T:cy):It:=bJ (bS kB T)
abbrev Pt (t:Nat)(T:cy):List It:=[aB t [ak (jh T),iV (fC T)],eU T]
def nH (t:Nat)(A:sX):It:=star fun T:{ T:cy // Gu T A}=>Pt t T.1
theorem CY {l r:List It}{t:Nat}{T:cy}{A:sX}(hT:Gu T A)(hH:SH o w l)(hp:Pk l (Pt t T) r:=by repeat(first|exact Pk.nil|(apply Pk.cons;repeat(first|exact az.here|apply az.there)))):SH o w (nH t A::r):=
 SH.fold (f:=fun T:{ T:cy // Gu T A}=>Pt t T.1) ⟨T,hT⟩ hH hp
theorem alM (x:Bs×Tn):gb (kB x):=by unfold kB;infer_instance
instance {T:cy}:Zf (bJ (bS kB T)):=Zf.Bj (WB alM)
instance {t:Nat}{A:sX}:Zf (nH t A):=Zf.star fun _=>inferInstance
theorem SH.tM {l r:List It}{T:cy}{s:Bs}{x:Tn}(hx:ay T s=some x)(hH:SH o w l)(hs:az (fz (eU T)) l r:=by repeat(first|exact az.here|apply az.there)) :
  SH o w (fz (aB x.b [str x.e,uV x.n, .slice (aA x.q.1) x.ks.length x.q.2])::fz (aq 279 1 x.q.1 x.ks.length x.q.2 (bq (x.ks.map (·.2))))::l):=by
 have h1:=(hH.Ld (x:=eU T) hs).GP (kB (s,x)) _ (pq hx) az.here;have h2:SH o w ([fz (aB x.b [str x.e,uV x.n, .slice (aA x.q.1) x.ks.length x.q.2]),fz (aq 279 1 x.q.1 x.ks.length x.q.2 (bq (x.ks.map (·.2))))]++(fz (bJ (bS kB (bB T s)))::l)):=h1;exact SH.drop (x:=fz (bJ (bS kB (bB T s)))) (h2.perm List.perm_middle)
theorem SH.ve {l r:List It}{T:cy}{s:Bs}{x:Tn}(hx:ay T s=some x)(hH:SH o w l)(hs:az (eU T) l r:=by repeat(first|exact az.here|apply az.there)) :
  SH o w (aB x.b [str x.e,uV x.n, .slice (aA x.q.1) x.ks.length x.q.2]::aq 279 1 x.q.1 x.ks.length x.q.2 (bq (x.ks.map (·.2)))::eU (bB T s)::r):=
 hH.rK (kB (s,x)) _ (pq hx) hs
theorem SH.Ot {l r:List It}{T:cy}(s:Bs)(x:Tn)(hH:SH o w l)(hp:Pk l [eU (bB T s),aB x.b [str x.e,uV x.n, .slice (aA x.q.1) x.ks.length x.q.2],aq 279 1 x.q.1 x.ks.length x.q.2 (bq (x.ks.map (·.2)))] r:=by repeat(first|exact Pk.nil|(apply Pk.cons;repeat(first|exact az.here|apply az.there)))) :
 SH o w (eU (bC T s x)::r):=hH.iI (kB (s,x)) _ hp FG
def Gs (ks:List (Bs×Nat))(c:Nat)(y:Nat×Bool):Prop:=
 y.1≤ks.length∧(∀e∈ks.take y.1,hd e.1<c)∧(y.2=true→∃e,ks[y.1]?=some e∧hd e.1=c)∧(y.2=false→∀e∈ks.drop y.1,c<hd e.1)
end
section
attribute [local irreducible] GX
section
variable {P:Program}{ops:Array Oper}{Q:Exit→Act→World→Prop}{S:World→Prop}{n:Nat}{k:Kd}{dst:Option Tmp}
variable {i:Nat}{e:Env}{w:World}{ty:TypeId}{pos:String}{an:Array Edge}{g:Option (Nat×Bool)}{p:b6}
theorem Pe [Fr](l:List UInt8){k2:IntKind}{b:Int}(hk:cC k=true){t:TypeId}[hu:bI P t .string]{x z:Operand}
  (hw:aI ops e ⟨dst, .slice t x none (some z) none,ty,pos,an,g⟩=some true) (hx:ev e x=some (str l)) (hz:ev e z=some (.int k2 b)) (hd:fits n dst=true)
  (h0:0≤b) (h2:b≤l.length) (h:GX P ops Q S n p (e.put dst (str (l.take b.toNat))) w):GO P ops Q S n k i ⟨dst, .slice t x none (some z) none,ty,pos,an,g⟩ p e w:=by
 have jR:(⟨l.toArray⟩:ByteArray).size=l.length:=by simp[ByteArray.size]
 refine GO.XM hk (l:=0) (h:=b.toNat) hw hx hd (fun w=>?_) ⟨by rintro _ ⟨⟩,by rintro _ ⟨⟩;rw[hz];rfl⟩ (by rw[X6];simpa[str] using h);have e1:((b.toNat:Nat):Int)=b:=Int.toNat_of_nonneg ah;rw[jR];simp[Instr.sliceBounds,run_sliceBound,hz,h0,h2,e1]
end
attribute [local irreducible] GO
theorem acQ (s q:Bs)(hs:s.length<2^40)(hq:q.length<2^40)(w:World):aj prog 349 [str s,str q].toArray w fun v w'=>v = .bool (decide (q <+: s))∧w'=w:=by
 refine aj.enter func349 rfl ntmps349 rfl (go ?_);refine dq (fun h1=>?_) (fun h1=>?_)<;>refine go ?_
 ·refine GX.next rfl (Pe s rfl rfl rfl rfl rfl ah ah ?_);refine go ?_;refine⟨congrArg _ (vw.2 ?_),rfl⟩;rw[show((q.length:Nat):Int).toNat=q.length by simp];exact⟨fun h=>List.prefix_iff_eq_take.2 h.symm,fun h=>(List.prefix_iff_eq_take.1 h).symm⟩
 ·refine⟨congrArg _ (bQ (fun h=>h1 (by have:=h.length_le;omega))).symm,rfl⟩
theorem H6 (s q:Bs)(hs:s.length<2^40)(hq:q.length<2^40)(w:World):aj prog 307 [str s,str q].toArray w fun v w'=>v = .bool (decide (q <+: s))∧w'=w:=by
 refine aj.enter func307 rfl ntmps307 rfl (go ?_);refine GX.da (acQ s q hs hq w) rfl rfl rfl rfl rfl rfl (go ?_);exact⟨rfl,rfl⟩
end
end Go.Proofs.YtoloaehmppcjoaaGreat.V.M
