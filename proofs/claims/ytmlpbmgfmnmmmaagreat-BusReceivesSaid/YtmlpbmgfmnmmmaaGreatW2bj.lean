/-
  Parts of the proof. No condition.
-/
import Derived.Test.YtmlpbmgfmnmmmaaGreatW2bi
import Derived.Test.YtmlpbmgfmnmmmaaGreatW2bc
import Derived.Test.YtmlpbmgfmnmmmaaGreatW2bh
import Derived.Test.YtmlpbmgfmnmmmaaGreatW2bg
import Derived.Test.YtmlpbmgfmnmmmaaGreatW2ay
set_option linter.unusedVariables false
set_option linter.unusedSimpArgs false
set_option maxRecDepth 8000
set_option maxHeartbeats 8000000
open Go.Proofs.Tryz
namespace Go.Proofs.YtmlpbmgfmnmmmaaGreat.V.M
section
attribute [local irreducible] GO GX aA fz aF aQ ao star
variable {o:Og}{w:World}
def sk (s:bw)(e:cC):Int:=if bI e.k=true∧cr e.t=(e.t,0) then(if 65536<e.v.length then 5 else if s.bytes<fb e then 12 else 0) else 2
structure De where
 gs:List cH
 q:Option Nat×Nat
 err:Int
 s:bw
structure YF (s:bw)(e:cC)(y:De):Prop where
 gone:y.gs.map (·.e)=(iv s.bytes s.many (fb e) (dv s.E e.k)).1
 E:y.s.E=(iv s.bytes s.many (fb e) (dv s.E e.k)).2++[e]
 bytes:y.s.bytes=s.bytes
 many:y.s.many=s.many
 K:y.s.K≤s.K+1+s.E.length
def Gp (s:bw)(e:cC)(y:De):Prop:=y.err=sk s e∧((y.err≠0∧y.gs=[]∧y.s=s)∨(y.err=0∧YF s e y))
def WJ (y:De):Value := .tuple #[.slice (ay y.q.1) y.gs.length y.q.2,iV y.err]
def uZ (b:Nat)(y:De):List It:=[jD b y.s,ao 138 6 y.q.1 y.gs.length y.q.2 (aK eB y.gs),bB (cY y.gs)]
structure YE where
 X:dB
 s:bw
 gs:List cH
 q:Option Nat×Nat
theorem AQ (x:cH):∀u∈eB x,u.oneCell'=true:=by
 intro u hu;simp only[eB,bY,tI,or_false] at hu
 rcases hu with rfl|rfl|rfl|rfl|rfl|rfl<;>rfl
theorem JO (x:Int×Int):∀u∈pX x,u.oneCell'=true:=by
 intro u hu;simp only[pX,bY,tI,or_false] at hu
 rcases hu with rfl|rfl<;>rfl
theorem FE {b:Nat}{s:bw}{e:cC}{l:List It}(z:Int)(hz:z=sk s e)(h0:z≠0)(hH:SH o w (jD b s::l)):aU o WJ (Gp s e) (uZ b) (.tuple #[.slice none 0 0,iV z]) w:=
 ⟨⟨[],(none,0),z,s⟩,rfl,⟨hz, .inl ⟨h0,rfl,rfl⟩⟩,(SH.cE (el:=138) (sz:=6) (q:=none) (n:=0) (c:=0) (cs:=[]) (hH.pz) (Mod.refl w) (fun _ h=>by cases h) (aG.nil _ _ _)).to⟩
theorem ald {b:Nat}{s:bw}{av ta:Option Addr}{nv cv nt ct:Nat}(e:cC)(sU:e.k.length<2^40)(kG:e.v.length=nv)(Ai:nv<2^40)(qK:e.t.length=nt)(wo:nt<2^40)(hd:e.d≤never)(hn:e.n≤never)(dt:e.st≤never)(D7:av=none→nv=0)(EU:ta=none→nt=0)(hK:s.K<2^59)
  (hs:Start o w [jD b s,aF av (Lib.byteCells e.v),aF ta (aM e.t)]) :
  aj prog 148 [ak b,Hn e.k (.slice av nv cv) (.slice ta nt ct) e.d e.n e.st].toArray w (aU o WJ (Gp s e) (uZ b)):=by
 subst kG;subst qK;have hH:=hs.sh;obtain⟨⟨X,hX⟩,hH⟩:=SH.un hH;replace hH:=SH.ap hH;dsimp only at hH;refine aj.enter func148 rfl ntmps148 rfl (gh ?_);refine GX.cw (h:=fun eb w hH=>gh ?_);refine GX.aL (hc:=fun _ hs=>FX hs) (h:=fun w hE hH=>gh ?_);refine GX.dX (hc:=fun _ hs=>Gd e.t rfl wo hs) (h:=?_);rintro⟨tq,tc⟩ w _ hE hH;replace hH:=SH.ap hH;refine gh ?_;refine GX.da (rO e.k _) rfl rfl rfl rfl rfl rfl (gh ?_);cases hk:bI e.k with
 |false=>
  refine gh ?_;exact FE 2 (by rw[sk,if_neg (by rw[hk];simp)]) (by decide) (mA hX hH)
 |true=>
 refine gh ?_
 by_cases ET:(cr e.t).2≠0
 ·rw[show decide ((cr e.t).2≠0)=true from bQ ET];refine gh ?_;exact FE 2 (by rw[sk,if_neg (fun h=>ET (by rw[h.2]))]) (by decide) (mA hX hH)
 have ht:(cr e.t).2=0:=by simpa using ET
 rw[show decide ((cr e.t).2≠0)=false by simp[ht]];refine gh ?_;refine GX.aL (hc:=fun _ hs=>Rb (cr e.t).1 e.t rfl rfl (by have:=AU e.t;omega) wo hs) (h:=fun w hE hH=>gh ?_);refine ifs (fun he=>?_) (fun he=>?_)<;>refine gh ?_
 ·exact FE 2 (by rw[sk,if_neg (fun h=>he (by rw[h.2]))]) (by decide) (mA hX hH)
 have IT:cr e.t=(e.t,0):=Prod.ext (by simpa using he) ht;refine ifs (fun hv=>?_) (fun hv=>?_)<;>refine gh ?_
 ·exact FE 5 (by rw[sk,if_pos ⟨hk,IT⟩,if_pos ah]) (by decide) (mA hX hH)
 have qj:l7 e:=⟨hk,by omega,IT,hd,hn,dt⟩
 have BF:=KW qj;refine GX.aL (hc:=fun _ hs=>Xs e qj rfl rfl hs) (h:=fun w hE hH=>gh ?_);have hXb:=hX.bytes;have hXm:=hX.many;have hXl:=hX.len;have hXc:=hX.cost;refine GX.aL (hc:=fun _ hs=>Qp hXb.1 hs) (h:=fun w hE hH=>gh ?_);refine ifs (fun hc=>?_) (fun hc=>?_)<;>refine gh ?_
 ·exact FE 12 (by rw[sk,if_pos ⟨hk,IT⟩,if_neg ah,if_pos ah]) (by decide) (mA hX hH)
 have hp0:sk s e=0:=by rw[sk,if_pos ⟨hk,IT⟩,if_neg ah,if_neg ah]
 refine GX.aL (hc:=fun _ hs=>FW hX.eC e.k hs) (h:=fun w hE hH=>gh ?_);have qE:=fun hm=>hX.lost (k:=e.k) hm
 have qB:=fun n hm=>hX.found (k:=e.k) (n:=n) hm
 refine GC.cut (X:=dB×bw) (fun _=>[(0,ak b),(3,ak eb),(8,iV (fb e))]) (fun y w'=>de y.1 y.2∧y.2.E=dv s.E e.k∧y.2.K≤s.K+1∧y.2.bytes=s.bytes∧y.2.many=s.many∧SH o w' (y.1.dm b y.2++[aA eb [str e.k, .slice av e.v.length cv, .slice ta e.t.length ct,uV e.d,uV e.n,uV e.st],aF av (Lib.byteCells e.v),aF ta (aM e.t)])) ?_ ?_
 ·unfold yU q7;rw[if_pos hk];cases hm:az (fO X.S X.L) e.k with
  |some n=>
   obtain⟨hn,kD,nR⟩:=qB n hm;dsimp only;refine gh ?_;refine GX.bS (hc:=fun _ hs=>Pd hX hn ah hs) (h:=?_);rintro T' w vR hH;replace hH:=SH.ap hH;rw[kD] at vR hH;refine gh ?_;exact GQ.dx (X.p5 n T',s.drop e.k) (cZ (l:=[0,3,8]) rfl) ⟨vR,rfl,bj _,rfl,rfl,hH.to⟩
  |none=>
   have nR:=qE hm;refine gh ?_;exact GQ.dx (X,s) (cZ (l:=[0,3,8]) rfl) ⟨hX,(aiV nR).symm,rk _,rfl,rfl,hH.to⟩
 ·rintro⟨X1,s1⟩ w ⟨HN,cW,LC,jQ,rI,hH⟩;simp only at HN cW LC jQ rI;dsimp only at hH;replace hH:=SH.ap hH;refine gh ?_;replace hH:=SH.cE (el:=138) (sz:=6) (q:=none) (n:=0) (c:=0) (cs:=[]) hH.pz (Mod.refl w) (fun _ h=>by cases h) (aG.nil _ _ _);refine GC.bP [0,3,8] (fun y:YE=>[(13, .slice (ay y.q.1) y.gs.length y.q.2)]) (fun y w'=>de y.X y.s∧s1.E=y.gs.map (·.e)++y.s.E∧(iv s.bytes s.many (fb e) s1.E).1=y.gs.map (·.e)++(iv s.bytes s.many (fb e) y.s.E).1∧(iv s.bytes s.many (fb e) s1.E).2=(iv s.bytes s.many (fb e) y.s.E).2∧y.s.K=s1.K+y.gs.length∧y.s.bytes=s.bytes∧y.s.many=s.many∧SH o w' (y.X.dm b y.s++[ao 138 6 y.q.1 y.gs.length y.q.2 (aK eB y.gs),bB (cY y.gs),aA eb [str e.k, .slice av e.v.length cv, .slice ta e.t.length ct,uV e.d,uV e.n,uV e.st],aF av (Lib.byteCells e.v),aF ta (aM e.t)])) (fun y=>y.s.E.length) ⟨X1,s1,[],(none,0)⟩ rfl rfl ⟨HN,rfl,rfl,rfl,rfl,jQ,rI,hH.to⟩ ?_;rintro⟨Y,t,gs,⟨q,qc⟩⟩ w ⟨hY,HF,EX,IX,RT,D8,BU,hH⟩;simp only at hY HF EX IX RT D8 BU;dsimp only at hH ⊢;replace hH:=SH.ap hH;have HO:=hY.bytes;have hYm:=hY.many;have hYl:=hY.len;have hYc:=hY.cost;have ado:=congrArg List.length HF;rw[bJ,fk] at ado;have am0:=HN.len;have Sb:=hY.ll;refine gh ?_;refine GX.aL (hc:=fun _ hs=>aln (ub:=dL t.E) (ue:=t.E.length) (c:=fb e) HO.1 ah ah ah hs) (h:=fun w hE hH=>gh ?_);refine ifs (fun hf=>?_) (fun hf=>?_)<;>refine gh ?_
  ·rw[D8,BU] at hf;obtain⟨n,L',hL⟩:∃n L',Y.L=n::L':=by
    cases hYL:Y.L with
    |nil=>
     rw[hYL] at Sb;have h0:t.E=[]:=ga Sb.symm;rw[h0] at hf;simp[dL] at hf;omega
    |cons n L'=>exact⟨n,L',rfl⟩
   refine GX.aL (hc:=fun _ hs=>air (L:=Y.L) ah hs) (h:=fun w hE hH=>gh ?_);rw[show Ow Y.L=((n:Int),0) by rw[hL];rfl];refine gh ?_;refine GX.bS (hc:=fun _ hs=>Pd hY (n:=n) (by rw[hL];simp) ah hs) (h:=?_);rintro T' w hY' hH;replace hH:=SH.ap hH;refine gh ?_;refine GX.mK (h1:=by exact AQ _) (h:=fun q c w _ hH=>gh ?_);have By:t.E=(aN Y.S n).e::jK Y.S L':=by rw[hY.pC,hL];rfl
   have B6:dv t.E (aN Y.S n).e.k=jK Y.S L':=by rw[By];exact aiU (by rw[←By];exact hY.kn)
   have vW:iv s.bytes s.many (fb e) t.E=((aN Y.S n).e::(iv s.bytes s.many (fb e) (dv t.E (aN Y.S n).e.k)).1,(iv s.bytes s.many (fb e) (dv t.E (aN Y.S n).e.k)).2):=by
    rw[B6]
    conv=>lhs;rw[By]
    exact abw (by rw[←By];exact hf)
   have aO:=hH.iu (m:=cY (gs++[aN Y.S n])) (fx (aN Y.S n)) (cY gs) (by repeat(first|exact Pk.nil|(apply Pk.cons;repeat(first|exact aB.here|apply aB.there)))) (by rw[CG,CH];exact sx);rw[show gs.length+1=(gs++[aN Y.S n]).length by simp,←kK] at aO;rw[show gs.length+1=(gs++[aN Y.S n]).length by simp];refine gh ?_;refine GQ.br ⟨Y.p5 n T',t.drop (aN Y.S n).e.k,gs++[aN Y.S n],(_,_)⟩ rfl ⟨hY',?_,?_,?_,?_,D8,BU,aO.to⟩ ?_
   ·show s1.E=(gs++[aN Y.S n]).map (·.e)++dv t.E (aN Y.S n).e.k;rw[B6,HF,By];simp
   ·show _=(gs++[aN Y.S n]).map (·.e)++(iv s.bytes s.many (fb e) (dv t.E (aN Y.S n).e.k)).1;rw[EX,vW];simp
   ·show _=(iv s.bytes s.many (fb e) (dv t.E (aN Y.S n).e.k)).2;rw[IX,vW]
   ·show t.K+1=s1.K+(gs++[aN Y.S n]).length;rw[RT];simp;omega
   ·show(dv t.E (aN Y.S n).e.k).length<t.E.length;rw[B6,By];simp
  ·rw[D8,BU] at hf;have ac7:=abu hf;rw[ac7] at EX IX;simp only[eY] at EX;obtain⟨n,A',Si,ry,hAm,hAg,hAo,mY,x5⟩:=hY.alK ah;have iA:=hY.sl;refine gh ?_;refine GX.bz (hc:=fun _ hs=>Zi hY.ar ah hs) (h:=fun w hH=>gh ?_);rw[Si] at hH ⊢;refine gh ?_;refine GX.cm (h:=fun r w hH=>gh ?_);refine GX.bc (h:=fun w hH=>gh ?_);have qJ:=hY.refs;refine GC.bP [0,3,8,13,16] (fun _:(List cH×List (Int×Int))×(Option Nat×Nat)×(Option Nat×Nat)=>[]) (fun y w'=>((y.1.1=Y.S∧y.1.2=Y.G)∨(n=Y.S.length∧y.1.1=Y.S++[s0]∧y.1.2=Y.G++[(0,0)]))∧SH o w' [aA b [ak Y.a,ak Y.t,ak Y.r,ak Y.h,ak Y.u, .slice (ay y.2.1.1) y.1.1.length y.2.1.2, .slice (ay y.2.2.1) y.1.2.length y.2.2.2],ao 138 6 y.2.1.1 y.1.1.length y.2.1.2 (aK eB y.1.1),ao 230 2 y.2.2.1 y.1.2.length y.2.2.2 (aK pX y.1.2),mL Y.a A',gI Y.t Y.T,ni Y.r Y.L,fL Y.h (dD Y.S Y.L),iq Y.u t.bytes t.many (dL t.E) t.E.length,bB (cY y.1.1),ao 138 6 q gs.length qc (aK eB gs),bB (cY gs),aA r [iV n,iV (A'.aW.getD n 0)],aA eb [str e.k, .slice av e.v.length cv, .slice ta e.t.length ct,uV e.d,uV e.n,uV e.st],aF av (Lib.byteCells e.v),aF ta (aM e.t)]) (fun y=>n+1 - y.1.1.length) ((Y.S,Y.G),Y.q1,Y.q2) rfl rfl ⟨.inl ⟨rfl,rfl⟩,hH.to⟩ ?_;rintro⟨⟨S',G'⟩,⟨p1,d1⟩,⟨p2,d2⟩⟩ w ⟨LV,hH⟩;simp only at LV;dsimp only at hH ⊢;refine gh ?_;refine GC.bq (pl:=(aZ [0,3,6,15,10,12,19,21])) (T:=fun _=>False) (hm:=mixed) (h:=fun w hE hH=>gh ?_);refine ifs (fun aP=>?_) (fun aP=>?_)<;>refine gh ?_
   ·have ED:n=Y.S.length∧S'=Y.S∧G'=Y.G:=by
     rcases LV with⟨h1,h2⟩|⟨h1,h2,h3⟩
     ·rw[h1] at aP;exact⟨by rcases x5 with h|h<;>omega,h1,h2⟩
     ·rw[h2] at aP;simp at aP;omega
    obtain⟨ED,rfl,rfl⟩:=ED;have jQ:=hH.th (b:=b) (q:=p1) (el:=138) (sz:=6);have iY:=hH.th (b:=b) (q:=p2) (el:=230) (sz:=2);have wc:¬(some b=p1∨some b=p2):=fun h=>h.elim jQ iY
    refine GC.bq (pl:=(.pure 0 (.pure 1 (.pure 2 (.pure 3 (.pure 4 (.pure 6 (.pure 9 (.pure 10 (.pure 11 (.pure 13 (.read 5 (.read 12 (.alt (.ax 7 (.alt (.ax 8 (.ax 14 (.ax 15 (.pure 16 (.pure 17 (.ax 18 (.pure 19 (.pure 20 (.ax 21 .done))))))))) (.ax 14 (.ax 8 (.ax 15 (.pure 16 (.pure 17 (.ax 18 (.pure 19 (.pure 20 (.ax 21 .done))))))))))) (.ax 14 (.ax 7 (.ax 8 (.ax 15 (.pure 16 (.pure 17 (.ax 18 (.pure 19 (.pure 20 (.ax 21 .done)))))))))))))))))))))))) (T:=fun k=>some k=p1∨some k=p2) (hm:=mixed) (h:=fun w hE hH=>gh ?_);refine GX.alt ?_ ?_
    ·refine GX.o8 (h:=fun z1 w hS hH=>gh ?_);refine GX.alt ?_ ?_
     ·refine GX.oD (q:=p1) (hT:=fun _ h => .inl h) (h1:=AQ s0) (h:=fun q c w hS hH=>gh ?_);refine GX.o8 (h:=fun z2 w hS hH=>gh ?_);refine GX.oD (q:=p2) (hT:=fun _ h => .inr h) (h1:=JO (0,0)) (h:=fun q c w hS hH=>gh ?_);refine GX.fH (h:=fun w hH=>gh ?_);refine GX.fH (h:=fun w hH=>gh ?_);have aO:=hH.s0;replace aO:=SH.ap aO;have cF:=aO.iu (m:=cY (Y.S++[s0])) (fx s0) (cY Y.S) (by repeat(first|exact Pk.nil|(apply Pk.cons;repeat(first|exact aB.here|apply aB.there)))) (by rw[CG,CH];exact sx);rw[show Y.S.length+1=(Y.S++[s0]).length by simp,show Y.G.length+1=(Y.G++[((0:Int),(0:Int))]).length by simp,←kK,←kK] at cF;exact GQ.br ((Y.S++[s0],Y.G++[(0,0)]),(_,_),(_,_)) rfl ⟨.inr ⟨ED,rfl,rfl⟩,cF.to⟩ (by simp;omega)
     ·refine GX.o8 (h:=fun z2 w hS hH=>gh ?_);refine GX.oD (q:=p1) (hT:=fun _ h => .inl h) (h1:=AQ s0) (h:=fun q c w hS hH=>gh ?_);refine GX.oD (q:=p2) (hT:=fun _ h => .inr h) (h1:=JO (0,0)) (h:=fun q c w hS hH=>gh ?_);refine GX.fH (h:=fun w hH=>gh ?_);refine GX.fH (h:=fun w hH=>gh ?_);have aO:=hH.s0;replace aO:=SH.ap aO;have cF:=aO.iu (m:=cY (Y.S++[s0])) (fx s0) (cY Y.S) (by repeat(first|exact Pk.nil|(apply Pk.cons;repeat(first|exact aB.here|apply aB.there)))) (by rw[CG,CH];exact sx);rw[show Y.S.length+1=(Y.S++[s0]).length by simp,show Y.G.length+1=(Y.G++[((0:Int),(0:Int))]).length by simp,←kK,←kK] at cF;exact GQ.br ((Y.S++[s0],Y.G++[(0,0)]),(_,_),(_,_)) rfl ⟨.inr ⟨ED,rfl,rfl⟩,cF.to⟩ (by simp;omega)
    ·refine GX.o8 (h:=fun z2 w hS hH=>gh ?_);refine GX.o8 (h:=fun z1 w hS hH=>gh ?_);refine GX.oD (q:=p1) (hT:=fun _ h => .inl h) (h1:=AQ s0) (h:=fun q c w hS hH=>gh ?_);refine GX.oD (q:=p2) (hT:=fun _ h => .inr h) (h1:=JO (0,0)) (h:=fun q c w hS hH=>gh ?_);refine GX.fH (h:=fun w hH=>gh ?_);refine GX.fH (h:=fun w hH=>gh ?_);have aO:=hH.s0;replace aO:=SH.ap aO;have cF:=aO.iu (m:=cY (Y.S++[s0])) (fx s0) (cY Y.S) (by repeat(first|exact Pk.nil|(apply Pk.cons;repeat(first|exact aB.here|apply aB.there)))) (by rw[CG,CH];exact sx);rw[show Y.S.length+1=(Y.S++[s0]).length by simp,show Y.G.length+1=(Y.G++[((0:Int),(0:Int))]).length by simp,←kK,←kK] at cF;exact GQ.br ((Y.S++[s0],Y.G++[(0,0)]),(_,_),(_,_)) rfl ⟨.inr ⟨ED,rfl,rfl⟩,cF.to⟩ (by simp;omega)
   ·have jP:n<S'.length∧A'.aW.length=S'.length∧G'.length=S'.length∧(S'=Y.S∨S'=Y.S++[s0])∧(∀m∈Y.L,G'[m]?=Y.G[m]?)∧(Y.S.length<S'.length→n=Y.S.length):=by
     rcases LV with⟨h1,h2⟩|⟨h1,h2,h3⟩
     ·rw[h1] at aP;refine⟨by rw[h1];omega,by rw[h1];rcases x5 with h|h<;>omega,by rw[h1,h2];exact qJ, .inl h1,fun m _=>by rw[h2],fun h=>by rw[h1] at h;omega⟩
     ·refine⟨by rw[h2];simp;omega,by rw[h2];simp;rcases x5 with h|h<;>omega,by rw[h2,h3];simp[qJ], .inr h2,fun m hm=>by rw[h3,gr (by rw[qJ];exact hY.lt m hm)],fun _=>h1⟩
    obtain⟨BW,lH,RO,qp,vM,nT⟩:=jP;obtain⟨x1,rfl⟩:=hH.pos (el:=138) (sz:=6) (q:=p1);obtain⟨x2,rfl⟩:=hH.pos (el:=230) (sz:=2) (q:=p2);refine GC.cut (X:=(Option Nat×Nat)×(Option Nat×Nat)) (fun _=>[(0,ak b),(3,ak eb),(8,iV (fb e)),(13, .slice (ay q) gs.length qc),(16,ak r)]) (fun y w'=>SH o w' [ao 5 1 y.1.1 e.v.length y.1.2 (Lib.byteCells e.v),ao 9 1 y.2.1 e.t.length y.2.2 (aM e.t),aA b [ak Y.a,ak Y.t,ak Y.r,ak Y.h,ak Y.u, .slice (ay (some x1)) S'.length d1, .slice (ay (some x2)) G'.length d2],ao 138 6 (some x1) S'.length d1 (aK eB (S'.set n ⟨e,y.1,y.2⟩)),ao 230 2 (some x2) G'.length d2 (aK pX (G'.set n ((n:Int),A'.aW.getD n 0))),mL Y.a A',gI Y.t Y.T,ni Y.r Y.L,fL Y.h (dD Y.S Y.L),iq Y.u t.bytes t.many (dL t.E) t.E.length,bB (cY S'),ao 138 6 q gs.length qc (aK eB gs),bB (cY gs),aA r [iV n,iV (A'.aW.getD n 0)],aA eb [str e.k, .slice av e.v.length cv, .slice ta e.t.length ct,uV e.d,uV e.n,uV e.st],aF av (Lib.byteCells e.v),aF ta (aM e.t)]) ?_ ?_
    ·refine GC.bq (pl:=(.pure 0 (.pure 1 (.pure 2 (.pure 4 (.pure 6 (.pure 7 (.pure 8 (.pure 10 (.read 3 (.read 5 (.read 9 (.read 12 (.alt (.ax 11 (.alt (.ax 13 (.pure 15 (.alt (.ax 14 (.ax 16 (.pure 17 (.ax 18 .done)))) (.ax 16 (.ax 14 (.pure 17 (.ax 18 .done))))))) (.ax 14 (.ax 13 (.pure 15 (.ax 16 (.pure 17 (.ax 18 .done)))))))) (.alt (.ax 13 (.pure 15 (.alt (.ax 11 (.alt (.ax 14 (.ax 16 (.pure 17 (.ax 18 .done)))) (.ax 16 (.ax 14 (.pure 17 (.ax 18 .done)))))) (.alt (.ax 14 (.alt (.ax 11 (.ax 16 (.pure 17 (.ax 18 .done)))) (.ax 16 (.ax 11 (.pure 17 (.ax 18 .done)))))) (.ax 16 (.alt (.ax 11 (.ax 14 (.pure 17 (.ax 18 .done)))) (.ax 14 (.ax 11 (.pure 17 (.ax 18 .done)))))))))) (.ax 14 (.alt (.ax 11 (.ax 13 (.pure 15 (.ax 16 (.pure 17 (.ax 18 .done)))))) (.ax 13 (.pure 15 (.alt (.ax 11 (.ax 16 (.pure 17 (.ax 18 .done)))) (.ax 16 (.ax 11 (.pure 17 (.ax 18 .done)))))))))))))))))))))))) (T:=fun _=>False) (hm:=mixed) (h:=fun w hE hH=>gh ?_);have k1:0+n*6+6≤(aK eB S').length:=by rw[gQ o9];omega
     have k2:0+n*2+2≤(aK pX G').length:=by rw[gQ JN];omega
     have k3:∀y1 y2,(aK eB S').take (0+n*6)++eB ⟨e,y1,y2⟩++(aK eB S').drop (0+n*6+6)=aK eB (S'.set n ⟨e,y1,y2⟩):=fun y1 y2=>by rw[dA];exact AN o9 BW _
     have k4:(aK pX G').take (0+n*2)++pX ((n:Int),A'.aW.getD n 0)++(aK pX G').drop (0+n*2+2)=aK pX (G'.set n ((n:Int),A'.aW.getD n 0)):=by rw[dA];exact AN JN ah _
     have k5:(Lib.byteCells e.v).length=e.v.length:=by simp[Lib.byteCells]
     have k6:(aM e.t).length=e.t.length:=by simp
     have k7:=GV e.v;have k8:=yW e.t;refine GX.alt (gh ?_) (gh ?_)
     ·refine GX.alt (gh ?_) (gh ?_)
      ·refine GX.ew (hc:=fun _ hs=>yG (vs:=Lib.byteCells e.v) (ts:=aM e.t) Ai k5 D7 k7 wo k6 EU k8 hs) (h:=?_);rintro⟨y1,y2⟩ w _ hS hH;replace hH:=SH.ap hH;refine gh ?_;refine GX.alt (gh ?_) (gh ?_)
       ·refine GX.gH (hb:=k1) (hc:=k3 y1 y2) (h:=fun w hH=>gh ?_);refine GX.gH (hb:=k2) (hc:=k4) (h:=fun w hH=>gh ?_);exact GQ.dx (y1,y2) (cZ (l:=[0,3,8,13,16]) rfl) hH.to
       ·refine GX.gH (hb:=k1) (hc:=k3 y1 y2) (h:=fun w hH=>gh ?_);refine GX.gH (hb:=k2) (hc:=k4) (h:=fun w hH=>gh ?_);exact GQ.dx (y1,y2) (cZ (l:=[0,3,8,13,16]) rfl) hH.to
      ·refine GX.ew (hc:=fun _ hs=>yG (vs:=Lib.byteCells e.v) (ts:=aM e.t) Ai k5 D7 k7 wo k6 EU k8 hs) (h:=?_);rintro⟨y1,y2⟩ w _ hS hH;replace hH:=SH.ap hH;refine gh ?_;refine GX.gH (hb:=k1) (hc:=k3 y1 y2) (h:=fun w hH=>gh ?_);refine GX.gH (hb:=k2) (hc:=k4) (h:=fun w hH=>gh ?_);exact GQ.dx (y1,y2) (cZ (l:=[0,3,8,13,16]) rfl) hH.to
     ·refine GX.alt (gh ?_) (gh ?_)
      ·refine GX.ew (hc:=fun _ hs=>yG (vs:=Lib.byteCells e.v) (ts:=aM e.t) Ai k5 D7 k7 wo k6 EU k8 hs) (h:=?_);rintro⟨y1,y2⟩ w _ hS hH;replace hH:=SH.ap hH;refine gh ?_;refine GX.alt (gh ?_) (gh ?_)
       ·refine GX.alt (gh ?_) (gh ?_)
        ·refine GX.gH (hb:=k1) (hc:=k3 y1 y2) (h:=fun w hH=>gh ?_);refine GX.gH (hb:=k2) (hc:=k4) (h:=fun w hH=>gh ?_);exact GQ.dx (y1,y2) (cZ (l:=[0,3,8,13,16]) rfl) hH.to
        ·refine GX.gH (hb:=k1) (hc:=k3 y1 y2) (h:=fun w hH=>gh ?_);refine GX.gH (hb:=k2) (hc:=k4) (h:=fun w hH=>gh ?_);exact GQ.dx (y1,y2) (cZ (l:=[0,3,8,13,16]) rfl) hH.to
       ·refine GX.alt (gh ?_) (gh ?_)
        ·refine GX.alt (gh ?_) (gh ?_)
         ·refine GX.gH (hb:=k1) (hc:=k3 y1 y2) (h:=fun w hH=>gh ?_);refine GX.gH (hb:=k2) (hc:=k4) (h:=fun w hH=>gh ?_);exact GQ.dx (y1,y2) (cZ (l:=[0,3,8,13,16]) rfl) hH.to
         ·refine GX.gH (hb:=k1) (hc:=k3 y1 y2) (h:=fun w hH=>gh ?_);refine GX.gH (hb:=k2) (hc:=k4) (h:=fun w hH=>gh ?_);exact GQ.dx (y1,y2) (cZ (l:=[0,3,8,13,16]) rfl) hH.to
        ·refine GX.gH (hb:=k1) (hc:=k3 y1 y2) (h:=fun w hH=>gh ?_);refine GX.alt (gh ?_) (gh ?_)
         ·refine GX.gH (hb:=k2) (hc:=k4) (h:=fun w hH=>gh ?_);exact GQ.dx (y1,y2) (cZ (l:=[0,3,8,13,16]) rfl) hH.to
         ·refine GX.gH (hb:=k2) (hc:=k4) (h:=fun w hH=>gh ?_);exact GQ.dx (y1,y2) (cZ (l:=[0,3,8,13,16]) rfl) hH.to
      ·refine GX.alt (gh ?_) (gh ?_)
       ·refine GX.ew (hc:=fun _ hs=>yG (vs:=Lib.byteCells e.v) (ts:=aM e.t) Ai k5 D7 k7 wo k6 EU k8 hs) (h:=?_);rintro⟨y1,y2⟩ w _ hS hH;replace hH:=SH.ap hH;refine gh ?_;refine GX.gH (hb:=k1) (hc:=k3 y1 y2) (h:=fun w hH=>gh ?_);refine GX.gH (hb:=k2) (hc:=k4) (h:=fun w hH=>gh ?_);exact GQ.dx (y1,y2) (cZ (l:=[0,3,8,13,16]) rfl) hH.to
       ·refine GX.ew (hc:=fun _ hs=>yG (vs:=Lib.byteCells e.v) (ts:=aM e.t) Ai k5 D7 k7 wo k6 EU k8 hs) (h:=?_);rintro⟨y1,y2⟩ w _ hS hH;replace hH:=SH.ap hH;refine gh ?_;refine GX.alt (gh ?_) (gh ?_)
        ·refine GX.gH (hb:=k1) (hc:=k3 y1 y2) (h:=fun w hH=>gh ?_);refine GX.gH (hb:=k2) (hc:=k4) (h:=fun w hH=>gh ?_);exact GQ.dx (y1,y2) (cZ (l:=[0,3,8,13,16]) rfl) hH.to
        ·refine GX.gH (hb:=k1) (hc:=k3 y1 y2) (h:=fun w hH=>gh ?_);refine GX.gH (hb:=k2) (hc:=k4) (h:=fun w hH=>gh ?_);exact GQ.dx (y1,y2) (cZ (l:=[0,3,8,13,16]) rfl) hH.to
    ·rintro⟨y1,y2⟩ w gO;dsimp only at gO;have aO:=gO.oF (fx (aN S' n)) (cY (S'.eraseIdx n)) (yF (yO BW));replace aO:=SH.ap aO;have hH:=aO.iu (m:=cY (S'.set n ⟨e,y1,y2⟩)) (fx ⟨e,y1,y2⟩) (cY (S'.eraseIdx n)) (by repeat(first|exact Pk.nil|(apply Pk.cons;repeat(first|exact aB.here|apply aB.there)))) (OA _ BW);clear aO gO;have SX:e.k∉t.E.map (·.k):=fun eE=>by
      obtain⟨x,hx,fg⟩:=bK.1 eE;have:x∈dv s.E e.k:=by rw[←cW,HF];exact List.mem_append_right _ hx
      exact eN (ib.1 this).2 fg
     have MB:e.k∉(fO Y.S Y.L).map (·.1):=fun eE=>SX (by
      rw[hY.pC];unfold fO at eE;unfold jK;rw[nB] at eE ⊢;exact eE)
     have Iy:n<1048576:=by
      have:=ry.len;have:=ry.aI;omega
     refine gh ?_;refine GC.bq (pl:=(aZ [0,3,6,12,18,10,16,22,26])) (T:=cS [b,eb,r]) (hm:=mixed) (h:=fun w hE hH=>gh ?_);refine GX.gT (hc:=fun _ hs=>alU hY.eC e.k n hk MB (by unfold fO;rw[fk];omega) hs) (h:=?_);rintro YM w acx hS hH;replace hH:=SH.ap hH;refine gh ?_;refine GC.bq (pl:=(aZ [0,3,6,12,10,16,20])) (T:=cS [b,r]) (hm:=mixed) (h:=fun w hE hH=>gh ?_);refine GX.gz (hc:=fun _ hs=>WN n Iy mY hs) (h:=fun w hS hH=>gh ?_);have vO:(Y.L++[n]).Nodup:=gu.2 ⟨hY.nd,by simp,fun a ha b hb e=>by simp at hb;subst hb e;exact mY ha⟩;have hLe:(Y.L++[n]).erase n=Y.L:=by rw[List.erase_append_right _ mY];simp
     have HJ:∀m∈Y.L,aN (S'.set n ⟨e,y1,y2⟩) m=aN Y.S m:=fun m hm=>by
      rw[yP _ (fun e=>mY (by rw[←e];exact hm))]
      rcases qp with h|h<;>rw[h]
      unfold aN;rw[fT,fT,gr (hY.lt m hm)]
     have wj:(S'.set n ⟨e,y1,y2⟩).set n (qX (aN (S'.set n ⟨e,y1,y2⟩) n) e.d)=S'.set n ⟨e,y1,y2⟩:=by
      rw[CS _ BW,List.set_set];rfl
     rw[show S'.length=(S'.set n ⟨e,y1,y2⟩).length by simp,show G'.length=(G'.set n ((n:Int),A'.aW.getD n 0)).length by simp] at hH;refine GX.bz (hc:=fun _ hs=>XV (n:=n) (S:=S'.set n ⟨e,y1,y2⟩) (L:=Y.L++[n]) (D:=dD Y.S Y.L) (t:=e.d) (by simp) vO (by simpa using BW) (by have:=ry.len;have:=ry.aI;simp;omega) (by simp;omega) hd (.inr (by rw[hLe,Hg HJ])) hs) (h:=fun w hH=>gh ?_);rw[wj] at hH;refine gh ?_;refine GX.bz (hc:=fun _ hs=>Z4 (ub:=dL t.E) (ue:=t.E.length) HO.1 (fb e) BF ah ah hs) (h:=fun w hH=>gh ?_);have nS:=hY.put (n:=n) (A:=A') (T:=YM) (S:=S') (G:=G') (y:=⟨e,y1,y2⟩) (q1:=(some x1,d1)) (q2:=(some x2,d2)) qj ry hAm mY BW qp RO vM lH hAg hAo nT acx SX (by show dL t.E+fb e≤t.bytes;omega) ah;rw[show dL t.E+fb e=dL (t.E++[e]) by rw[J9];simp[dL],show t.E.length+1=(t.E++[e]).length by simp] at hH;refine⟨⟨gs,(q,qc),0,{ t with E:=t.E++[e]}⟩,rfl,⟨hp0.symm, .inr ⟨rfl,⟨?_,?_,D8,BU,?_⟩⟩⟩,(mA nS hH).to⟩
     ·rw[←cW];exact EX.symm
     ·show t.E++[e]=_;rw[←cW,IX]
     ·show t.K≤s.K+1+s.E.length;have:s1.E.length≤s.E.length:=by rw[cW];exact rh _ _
      omega
def Oe (b e:Nat):bw:=⟨b,e,[],0⟩
theorem iS.new (s:Nat)(hs:s<18446744073709551616):iS ⟨s,List.replicate 8 none,0⟩ []:=
 ⟨hs,⟨3,by decide,by decide,by simp⟩,eP.empty _ 8 (by decide),(fun x hx=>by cases hx),rfl,by simp⟩
theorem alo (b e sd:Nat)(hb:1≤b∧b≤1099511627776)(he:1≤e∧e≤1048576)(dN:sd<18446744073709551616)(hs:Start o w []) :
  aj prog 39 [iV b,iV e,uV sd].toArray w (aU o (fun c:Nat => .tuple #[ak c,iV 0]) (fun _=>True) (fun c=>[jD c (Oe b e)])):=by
 have hH:=hs.sh;refine aj.enter func39 rfl ntmps39 rfl (gh ?_);refine GX.bS (hc:=fun _ hs=>aas b e hb he hs) (h:=?_);rintro u w _ hH;replace hH:=SH.ap hH;refine gh ?_;refine GX.bS (hc:=fun _ hs=>Zd e he.1 he.2 hs) (h:=?_);rintro a w _ hH;replace hH:=SH.ap hH;refine gh ?_;refine GX.bS (hc:=fun _ hs=>alT sd dN hs) (h:=?_);rintro t w _ hH;replace hH:=SH.ap hH;refine gh ?_;refine GX.bS (hc:=fun _ hs=>aiX hs) (h:=?_);rintro r w _ hH;replace hH:=SH.ap hH;refine gh ?_;refine GX.bS (hc:=fun _ hs=>adA hs) (h:=?_);rintro h w _ hH;replace hH:=SH.ap hH;refine gh ?_;refine GX.cw (h:=fun c w hH=>gh ?_);have hX:de ⟨a,t,r,h,u,⟨e,[],[]⟩,⟨sd,List.replicate 8 none,0⟩,[],[],[],(none,0),(none,0)⟩ (Oe b e):=
  ⟨rfl,mF,(fun _ h=>by cases h),iS.new sd dN,⟨⟨(by show 0<e;omega),he.2⟩,bh _,(fun _ h=>by cases h),(fun n=>by simp),mF,bj _⟩,rfl,rfl,(fun _ h=>by simp at h),rfl,(fun _ h=>by cases h),(fun _ h=>by cases h),(fun _ h=>by cases h),mF,bh _,bh _,hb,he⟩
 have aO:=SH.cE (el:=138) (sz:=6) (q:=none) (n:=0) (c:=0) (cs:=[]) (SH.cE (el:=230) (sz:=2) (q:=none) (n:=0) (c:=0) (cs:=[]) hH.pz (Mod.refl w) (fun _ h=>by cases h) (aG.nil _ _ _)) (Mod.refl w) (fun _ h=>by cases h) (aG.nil _ _ _);exact⟨c,rfl,trivial,(mA hX aO).to⟩
theorem de.copy {X:dB}{s:bw}(hX:de X s){a t r h u:Nat}{S:List cH}{q1 q2:Option Nat×Nat}(hS:S.map (·.e)=X.S.map (·.e)):de { X with a:=a,t:=t,r:=r,h:=h,u:=u,S:=S,q1:=q1,q2:=q2} s∧dD S X.L=dD X.S X.L:=by
 have hl:S.length=X.S.length:=by have:=congrArg List.length hS;simpa using this
 have he:∀n,(aN S n).e=(aN X.S n).e:=fun n=>by
  have h1:∀T:List cH,(aN T n).e=((T.map (·.e))[n]?).getD s0.e:=fun T=>by
   unfold aN;rw[fT,gb];cases T[n]?<;>rfl
  rw[h1,h1,hS]
 have hk:fO S X.L=fO X.S X.L:=ri fun n _=>by rw[he]
 have H7:jK S X.L=jK X.S X.L:=ri fun n _=>by rw[he]
 have hd:dD S X.L=dD X.S X.L:=by
  unfold dD;rw[List.filter_congr (q:=fun n=>decide ((aN X.S n).e.d≠never)) fun n _=>by rw[he]];exact ri fun n _=>by rw[he]
 refine⟨⟨hX.pC.trans H7.symm,hX.nd,fun n hn=>by show n<S.length;rw[hl];exact hX.lt n hn,by show iS X.T (fO S X.L);rw[hk];exact hX.eC,hX.ar,hX.aI,by show X.A.aW.length=S.length;rw[hl];exact hX.gl,fun n hn=>hX.live n (by rw[←hl];exact hn),by show X.G.length=S.length;rw[hl];exact hX.refs,hX.ref,fun x hx=>?_,hX.xI,hX.kn,hX.cost,hX.len,hX.bytes,hX.many⟩,hd⟩;have:x.e∈X.S.map (·.e):=by rw[←hS];exact bK.2 ⟨x,hx,rfl⟩
 obtain⟨y,hy,e⟩:=bK.1 this;have:=hX.sb y hy;unfold zg at this ⊢;rw[←e];exact this
theorem SH.K0 {l r:List It}{x:It}(h:SH o w l)(hs:aB (fz x) l r:=by repeat(first|exact aB.here|apply aB.there)):SH o w (fz x::l):=by
 have hp:=hs.perm;obtain⟨Z,F,hu,⟨F1,F2,rfl,hd,h1,h2⟩,h3,h4⟩:=h.perm hp;refine SH.perm (l:=fz x::fz x::r) ⟨Z,fun b=>F1 b∨F2 b,hu,⟨fun _=>False,_,by simp,fun _ h=>h.elim,?_,F1,F2,rfl,hd,h1,h2⟩,h3,h4⟩ (List.Perm.cons _ hp.symm);unfold fz at h1 ⊢;exact⟨h1.1,rfl⟩
theorem Zk {l:List It}{S:List cH}{n:Nat}{x:cH}(hH:SH o w l)(hx:S[n]?=some x){r:List It}(hs:aB (fz (bB (cY S))) l r:=by repeat(first|exact aB.here|apply aB.there)):SH o w ((fx x).map fz++(fz (bB (cY (S.eraseIdx n)))::r)):=hH.GL (fx x) _ (yF hx) hs
theorem alk {b:Nat}{s:bw}(hs:Start o w [fz (jD b s)]) :
  aj prog 64 [ak b].toArray w (aU o ak (fun _=>True) (fun c=>[jD c s])):=by
 have hH:=hs.sh;obtain⟨⟨X,hX⟩,hH⟩:=SH.dQ hH;replace hH:=SH.dW hH;dsimp only at hH;have Sv:=fun a t r h u S q1 q2 hS=>hX.copy (a:=a) (t:=t) (r:=r) (h:=h) (u:=u) (S:=S) (q1:=q1) (q2:=q2) hS
 obtain⟨a,t,r,h,u,A,T,L,S,G,⟨q1,c1⟩,⟨q2,c2⟩⟩:=X;dsimp only at hH Sv;have dY:S.length≤1048576:=hX.sl;have lK:G.length=S.length:=hX.refs;have hag:A.aW.length=S.length:=hX.gl;have haf:A.free.length≤A.aW.length:=hX.ar.Br;have HR:0<A.aI:=hX.ar.aI.1;have sX:∀x∈S,zg x:=hX.sb;have HO:1≤s.bytes:=hX.bytes.1;have g1:=hH.ti (el:=230) (sz:=2) (q:=q2);refine aj.enter func64 rfl ntmps64 rfl (gh ?_);refine GX.aL (hc:=fun _ hs=>FX hs) (h:=fun w hE hH=>gh ?_);refine GC.bq (pl:=(aZ [0,3,6,15,18,21,30,33,36,45,48,51,60,63,66,75,78,81,10,25,40,55,70,85,14,29,44,59,74,89,90,95,96])) (T:=fun _=>False) (hm:=mixed) (h:=fun w hE hH=>gh ?_);refine GX.ew (hc:=fun _ hs=>YT HR ah ah hs) (h:=?_);rintro a' w _ hS hH;replace hH:=SH.ap hH;refine gh ?_;refine GX.ew (hc:=fun _ hs=>alM (t:=T) hX.eC.s hs) (h:=?_);rintro t' w _ hS hH;replace hH:=SH.ap hH;refine gh ?_;refine GX.ew (hc:=fun _ hs=>aiq (L:=L) hs) (h:=?_);rintro r' w _ hS hH;replace hH:=SH.ap hH;refine gh ?_;refine GX.ew (hc:=fun _ hs=>acW (D:=dD S L) hs) (h:=?_);rintro h' w _ hS hH;replace hH:=SH.ap hH;refine gh ?_;refine GX.ew (hc:=fun _ hs=>Z5 (b:=s.bytes) HO hs) (h:=?_);rintro u' w _ hS hH;replace hH:=SH.ap hH;refine gh ?_;refine GX.ew (hc:=fun _ hs=>aan (cs:=aK pX G) ah (gQ JN _) g1 (FI JO _) hs) (h:=?_);rintro⟨q3,c3⟩ w _ hS hH;replace hH:=SH.ap hH;refine gh ?_;refine GX.nJ (h:=fun c w hS hH=>gh ?_);have gO:=SH.cE (el:=138) (sz:=6) (q:=none) (n:=0) (c:=0) (cs:=[]) hH.pz (Mod.refl w) (fun _ h=>by cases h) (aG.nil _ _ _);refine GC.bP [3,43,44] (fun y:(Nat×List cH)×(Option Nat×Nat)=>[(45,iV y.1.1)]) (fun y w'=>y.1.1≤S.length∧y.1.2.map (·.e)=(S.take y.1.1).map (·.e)∧SH o w' [aA c [ak a',ak t',ak r',ak h',ak u', .slice (ay y.2.1) y.1.2.length y.2.2, .slice (ay q3) G.length c3],ao 138 6 y.2.1 y.1.2.length y.2.2 (aK eB y.1.2),ao 230 2 q3 G.length c3 (aK pX G),mL a' A,gI t' T,ni r' L,fL h' (dD S L),iq u' s.bytes s.many (dL s.E) s.E.length,bB (cY y.1.2),fz (ao 138 6 q1 S.length c1 (aK eB S)),fz (bB (cY S))]) (fun y=>S.length - y.1.1) ((0,[]),(none,0)) rfl rfl ⟨bh _,rfl,gO.to⟩ ?_;rintro⟨⟨i,acc⟩,⟨q,qc⟩⟩ w ⟨hi,D6,hH⟩;simp only at hi D6;dsimp only at hH ⊢;have b6:acc.length=i:=by
  have:=congrArg List.length D6;simp at this;omega
 refine gh ?_;refine ifs (fun aP=>?_) (fun aP=>?_)<;>refine gh ?_
 ·have eL:i<S.length:=by omega
  have hg:=yO eL;obtain⟨jQ,iY,BC⟩:=sX _ (bF hg);have hd:=jj o9 hg;obtain⟨p1,rfl⟩:=hH.lR (el:=138) (sz:=6) (q:=q1);refine gh ?_;refine GX.next rfl (GO.jz (hv:=hd) (h:=gh ?_));refine GX.cm (h:=fun z w hH=>gh ?_);refine GX.bc (h:=fun w hH=>gh ?_);have acH:=hH.th (b:=c) (q:=q) (el:=138) (sz:=6);have acI:=hH.th (b:=z) (q:=q) (el:=138) (sz:=6);have DO:=Zk (hH.K0 (x:=bB (cY S))) hg;simp only[fx,cK,tD,iQ,jF] at DO;have n1:=DO.ti (el:=5) (sz:=1);have n2:=DO.ti (el:=9) (sz:=1);have k5:(Lib.byteCells (aN S i).e.v).length=(aN S i).e.v.length:=by simp[Lib.byteCells]
  replace hH:=DO;clear DO;have wc:¬(some c=q):=acH;have EG:¬(some z=q):=acI;refine GC.bq (pl:=(aZ [0,3,6,9,13,16,20,23,26,27,30,35])) (T:=fun k=>some k=q) (hm:=mixed) (h:=fun w hE hH=>gh ?_);refine GX.ew (hc:=fun _ hs=>yG (vs:=Lib.byteCells (aN S i).e.v) (ts:=aM (aN S i).e.t) ah k5 n1 (GV _) ah (by simp) n2 (yW _) hs) (h:=?_);rintro⟨y1,y2⟩ w _ hS hH;replace hH:=SH.ap hH;refine gh ?_;refine GX.o8 (h:=fun z1 w hS hH=>gh ?_);refine GX.oD (q:=q) (h1:=AQ ⟨(aN S i).e,y1,y2⟩) (h:=fun q c w hS hH=>gh ?_);refine GX.fH (h:=fun w hH=>gh ?_);have aO:=hH.iu (m:=cY (acc++[⟨(aN S i).e,y1,y2⟩])) (fx ⟨(aN S i).e,y1,y2⟩) (cY acc) (by repeat(first|exact Pk.nil|(apply Pk.cons;repeat(first|exact aB.here|apply aB.there)))) (by rw[CG,CH];exact sx);rw[show acc.length+1=(acc++[(⟨(aN S i).e,y1,y2⟩:cH)]).length by simp,←kK] at aO;refine gh ?_;exact GQ.br ((i+1,acc++[⟨(aN S i).e,y1,y2⟩]),(_,_)) rfl ⟨eL,by
   simp only[eD,D6];rw[kQ eL,eD];congr 1;simp[aN,eL],aO.to⟩ (by simp only;omega)
 ·obtain rfl:i=S.length:=by omega
  rw[j5] at D6;obtain⟨vR,iM⟩:=Sv a' t' r' h' u' acc (q,qc) (q3,c3) D6;rw[←iM] at hH;refine gh ?_;exact⟨c,rfl,trivial,(mA vR hH).to⟩
def jY (x:Bs×Tn):List It:=[aA x.2.b [str x.2.e,uV x.2.n, .slice (ay x.2.q.1) x.2.ks.length x.2.q.2],ao 256 1 x.2.q.1 x.2.ks.length x.2.q.2 (bg (x.2.ks.map (·.2)))]
abbrev cz:=List (Bs×Tn)
structure TT (T:cz):Prop where
 ok:im (az T)
 nd:(T.map (·.1)).Nodup
theorem Jk (T:cz)(k:Bs)(v:Tn):az (bE T k v)=ef (az T) k (some v):=by
 funext j;rw[kI];rfl
theorem wG {T:cz}(h:(T.map (·.1)).Nodup)(k:Bs):((bD T k).map (·.1)).Nodup:=h.sublist ((wX T k).map _)
def wJ (T:cz):List Bs:=(T.filter fun e=>decide (0<e.2.n)).map (·.1)
def fo (T:cz):Nat:=(wJ T).length
theorem wC {T:cz}(h:(T.map (·.1)).Nodup){t:Bs}:t∈wJ T↔0<bW (az T) t:=by
 unfold wJ bW;simp only[bK,ib,mE];constructor
 ·rintro⟨⟨a,x⟩,⟨h1,h2⟩,rfl⟩;rw[Ft h h1];exact h2
 ·intro h1;cases hg:az T t with
  |none=>rw[hg] at h1;exact absurd h1 (Nat.lt_irrefl 0)
  |some x=>rw[hg] at h1;exact⟨(t,x),⟨VX hg,h1⟩,rfl⟩
theorem Ob {T:cz}(h:(T.map (·.1)).Nodup):(wJ T).Nodup:=h.sublist (List.filter_sublist.map _)
theorem G9 {T T':cz}(h:(T.map (·.1)).Nodup)(h':(T'.map (·.1)).Nodup)(hs:∀t,0<bW (az T') t→0<bW (az T) t):fo T'≤fo T:=
 xo (Ob h') fun t ht=>(wC h).2 (hs t ((wC h').1 ht))
theorem QK {T T':cz}(h:(T.map (·.1)).Nodup)(h':(T'.map (·.1)).Nodup)(hs:∀t,bW (az T') t=bW (az T) t):fo T'=fo T:=
 Nat.le_antisymm (G9 h h' fun t ht=>by rw[←hs];exact ht) (G9 h' h fun t ht=>by rw[hs];exact ht)
theorem QJ {T T':cz}(h:(T.map (·.1)).Nodup)(h':(T'.map (·.1)).Nodup){s:Bs}(h0:bW (az T) s=0)(h1:0<bW (az T') s)(hs:∀t,t≠s→bW (az T') t=bW (az T) t):fo T'=fo T+1:=by
 have z6:s∉wJ T:=fun hm=>by have:=(wC h).1 hm;omega
 have hc:(s::wJ T).Nodup:=eI.2 ⟨z6,Ob h⟩;refine Nat.le_antisymm ?_ ?_
 ·have:=xo (Ob h') (l₂:=s::wJ T) fun t ht=>by
   by_cases e:t=s
   ·rw[e];simp
   ·exact fR _ ((wC h).2 (by rw[←hs t e];exact(wC h').1 ht))
  simpa[fo] using this
 ·have:=xo hc (l₂:=wJ T') fun t ht=>by
   rcases bY.1 ht with rfl|ht
   ·exact(wC h').2 h1
   ·have e:t≠s:=fun e=>z6 (e▸ht)
    exact(wC h').2 (by rw[hs t e];exact(wC h).1 ht)
  simpa[fo] using this
theorem acY (l:Bs):hd l<256:=UInt8.toNat_lt _
theorem TT.kl {T:cz}(h:TT T){s:Bs}{x:Tn}(hx:az T s=some x):x.ks.length≤256:=by
 have h1:=h.ok.ord s x hx;have h2:(x.ks.map fun e=>hd e.1).Nodup:=by
  rw[pj,rl];exact h1.imp fun h=>Nat.ne_of_lt h
 have h3:=xo h2 (l₂:=List.range 256) fun n hn=>by
  obtain⟨e,_,rfl⟩:=bK.1 hn;exact tE.2 (acY _)
 simpa using h3
theorem TT.jb {T:cz}(h:TT T){s:Bs}{x:Tn}(hx:az T s=some x){i:Nat}{e:Bs×Nat}(he:x.ks[i]?=some e):∃y,az T (s++e.1)=some y∧y.e=e.1∧y.b=e.2∧e.1≠[]∧s≠s++e.1∧(s++e.1).length≤250∧e.1.length≤250:=by
 have hm:=bF he;obtain⟨y,h1,h2,h3⟩:=h.ok.jb s x hx e hm;have h4:=h.ok.ne s x hx e hm;have h5:=h.ok.len _ _ h1;exact⟨y,h1,h2,h3,h4,fun a=>h4 (by simpa using a),h5,by rw[bJ] at h5;omega⟩
structure sE where
 P:Bs→Nat
 K:Nat
structure Gq (T:cz)(A:sE):Prop where
 tt:TT T
 num:∀s,A.P s=bW (az T) s
 dC:fo T≤A.K
def iN (T:cz):Nat:=match az T [] with|some r=>r.b|none=>0
abbrev eH (T:cz):It:=bB (bT jY T)
abbrev Pr (t:Nat)(T:cz):List It:=[aA t [ak (iN T),iV (fo T)],eH T]
def nu (t:Nat)(A:sE):It:=star fun T:{ T:cz // Gq T A}=>Pr t T.1
theorem C2 {l r:List It}{t:Nat}{T:cz}{A:sE}(hT:Gq T A)(hH:SH o w l)(hp:Pk l (Pr t T) r:=by repeat(first|exact Pk.nil|(apply Pk.cons;repeat(first|exact aB.here|apply aB.there)))):SH o w (nu t A::r):=
 SH.fold (f:=fun T:{ T:cz // Gq T A}=>Pr t T.1) ⟨T,hT⟩ hH hp
theorem alS (x:Bs×Tn):fV (jY x):=by unfold jY;infer_instance
instance {T:cz}:Zf (bB (bT jY T)):=Zf.Bj (WA alS)
instance {t:Nat}{A:sE}:Zf (nu t A):=Zf.star fun _=>inferInstance
theorem SH.tk {l r:List It}{T:cz}{s:Bs}{x:Tn}(hx:az T s=some x)(hH:SH o w l)(hs:aB (fz (eH T)) l r:=by repeat(first|exact aB.here|apply aB.there)) :
  SH o w (fz (aA x.b [str x.e,uV x.n, .slice (ay x.q.1) x.ks.length x.q.2])::fz (ao 256 1 x.q.1 x.ks.length x.q.2 (bg (x.ks.map (·.2))))::l):=by
 have h1:=(hH.K0 (x:=eH T) hs).GL (jY (s,x)) _ (o0 hx) aB.here;have h2:SH o w ([fz (aA x.b [str x.e,uV x.n, .slice (ay x.q.1) x.ks.length x.q.2]),fz (ao 256 1 x.q.1 x.ks.length x.q.2 (bg (x.ks.map (·.2))))]++(fz (bB (bT jY (bD T s)))::l)):=h1;exact SH.drop (x:=fz (bB (bT jY (bD T s)))) (h2.perm List.perm_middle)
theorem SH.uR {l r:List It}{T:cz}{s:Bs}{x:Tn}(hx:az T s=some x)(hH:SH o w l)(hs:aB (eH T) l r:=by repeat(first|exact aB.here|apply aB.there)) :
  SH o w (aA x.b [str x.e,uV x.n, .slice (ay x.q.1) x.ks.length x.q.2]::ao 256 1 x.q.1 x.ks.length x.q.2 (bg (x.ks.map (·.2)))::eH (bD T s)::r):=
 hH.oF (jY (s,x)) _ (o0 hx) hs
theorem SH.Oj {l r:List It}{T:cz}(s:Bs)(x:Tn)(hH:SH o w l)(hp:Pk l [eH (bD T s),aA x.b [str x.e,uV x.n, .slice (ay x.q.1) x.ks.length x.q.2],ao 256 1 x.q.1 x.ks.length x.q.2 (bg (x.ks.map (·.2)))] r:=by repeat(first|exact Pk.nil|(apply Pk.cons;repeat(first|exact aB.here|apply aB.there)))) :
 SH o w (eH (bE T s x)::r):=hH.iu (jY (s,x)) _ hp FA
def Gn (ks:List (Bs×Nat))(c:Nat)(y:Nat×Bool):Prop:=
 y.1≤ks.length∧(∀e∈ks.take y.1,hd e.1<c)∧(y.2=true→∃e,ks[y.1]?=some e∧hd e.1=c)∧(y.2=false→∀e∈ks.drop y.1,c<hd e.1)
end
section
attribute [local irreducible] GX
section
variable {P:Program}{ops:Array Oper}{Q:Exit→Act→World→Prop}{S:World→Prop}{n:Nat}{k:Kd}{dst:Option Tmp}
variable {i:Nat}{e:Env}{w:World}{ty:TypeId}{pos:String}{an:Array Edge}{g:Option (Nat×Bool)}{p:bZ}
theorem X0 [Fr](l:List UInt8){k2:IntKind}{b:Int}(hk:cB k=true){t:TypeId}[hu:bH P t .string]{x z:Operand}
  (hw:aH ops e ⟨dst, .slice t x none (some z) none,ty,pos,an,g⟩=some true) (hx:ev e x=some (str l)) (hz:ev e z=some (.int k2 b)) (hd:fits n dst=true)
  (h0:0≤b) (h2:b≤l.length) (h:GX P ops Q S n p (e.put dst (str (l.take b.toNat))) w):GO P ops Q S n k i ⟨dst, .slice t x none (some z) none,ty,pos,an,g⟩ p e w:=by
 have jw:(⟨l.toArray⟩:ByteArray).size=l.length:=by simp[ByteArray.size]
 refine GO.XL hk (l:=0) (h:=b.toNat) hw hx hd (fun w=>?_) ⟨by rintro _ ⟨⟩,by rintro _ ⟨⟩;rw[hz];rfl⟩ (by rw[X5];simpa[str] using h);have e1:((b.toNat:Nat):Int)=b:=Int.toNat_of_nonneg ah;rw[jw];simp[Instr.sliceBounds,run_sliceBound,hz,h0,h2,e1]
end
attribute [local irreducible] GO
theorem acF (s q:Bs)(hs:s.length<2^40)(hq:q.length<2^40)(w:World):aj prog 317 [str s,str q].toArray w fun v w'=>v = .bool (decide (q <+: s))∧w'=w:=by
 refine aj.enter func317 rfl ntmps317 rfl (go ?_);refine dj (fun h1=>?_) (fun h1=>?_)<;>refine go ?_
 ·refine GX.next rfl (X0 s rfl rfl rfl rfl rfl ah ah ?_);refine go ?_;refine⟨congrArg _ (tA.2 ?_),rfl⟩;rw[show((q.length:Nat):Int).toNat=q.length by simp];exact⟨fun h=>List.prefix_iff_eq_take.2 h.symm,fun h=>(List.prefix_iff_eq_take.1 h).symm⟩
 ·refine⟨congrArg _ (bt (fun h=>h1 (by have:=h.length_le;omega))).symm,rfl⟩
theorem HS (s q:Bs)(hs:s.length<2^40)(hq:q.length<2^40)(w:World):aj prog 279 [str s,str q].toArray w fun v w'=>v = .bool (decide (q <+: s))∧w'=w:=by
 refine aj.enter func279 rfl ntmps279 rfl (go ?_);refine GX.da (acF s q hs hq w) rfl rfl rfl rfl rfl rfl (go ?_);exact⟨rfl,rfl⟩
end
end Go.Proofs.YtmlpbmgfmnmmmaaGreat.V.M
