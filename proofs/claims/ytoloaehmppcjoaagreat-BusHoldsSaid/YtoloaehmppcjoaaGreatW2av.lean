/-
  Parts of the proof. No condition.
-/
import Derived.Test.YtoloaehmppcjoaaGreatW2au
set_option linter.unusedVariables false
set_option linter.unusedSimpArgs false
set_option maxRecDepth 8000
set_option maxHeartbeats 8000000
open Go.Proofs.Tryz
namespace Go.Proofs.YtoloaehmppcjoaaGreat.V.M
attribute [local irreducible] GO GX
section
variable {P:Program}{ops:Array Oper}{Q:Exit→Act→World→Prop}{S:World→Prop}{n:Nat}{k:Kd}{dst:Option Tmp}
variable {i:Nat}{e:Env}{w:World}{ty:TypeId}{pos:String}{an:Array Edge}{g:Option (Nat×Bool)}{p:b6}
theorem GO.KW [Fr](hk:cC k=true){t el:TypeId}{len s:Nat}{agg:Bool}{Z:List Value}[hu:bI P t (.array len el)][hz:ff P t Z][I6:aC P el agg s]{parts:Array (Nat×Operand)}{vs:List (Nat×Value)}{pl:List (Nat×List Value)}{out:List Value}
  (hw:aI ops e ⟨dst, .build t parts,ty,pos,an,g⟩=some true) (hx:parts.toList.mapM (fun x=>(ev e x.2).map fun v=>(x.1,v))=some vs) (hp:vs.map (fun x=>(x.1,x.2.cells.toList))=pl)
  (ho:tj (fun j=>some (j*s,s)) Z pl=some out) (hd:fits n dst=true)
  (h:GX P ops Q S n p (e.put dst (.agg out.toArray)) w):GO P ops Q S n k i ⟨dst, .build t parts,ty,pos,an,g⟩ p e w:=by
 refine GO.val (fX hk) hw hd (fun a ha w=>?_) h;obtain⟨z0,hz3,hz4⟩:=hz.zero w;have Aa:=Li ha _ vs hx;subst hp;rw[←hz4] at ho;have Er:=fill_eq _ vs _ z0.cells out rfl ho;simp only[execOp,Instr.build,Sem.run_bind,hz3,Result.andThen_ok,run_underlying hu.out,I6.sizeOf,Array.toList_map];simp only[Aa,Er];simp
end
structure jM (G:Gr):Prop where
 eZ:xD G
 cells:xB G
 nJ:∀(a:Nat) (x:Nd),G.list[a]?=some x→∀b∈x.up,b<G.list.length
 pj:∀(a b:Nat) (x y:Nd),G.list[a]?=some x→G.list[b]?=some y→(b∈x.down↔a∈y.up)
 nT:∀x∈G.list,x.down.Nodup
 mi:∀x∈G.list,x.up.Nodup
 len:G.list.length≤G.cM
 zt:jZ G=G.cp
 cp:G.cp≤G.dg∧G.dg≤65536
 used:∀x∈G.list,x.down≠[]∨x.up≠[]
 keys:∀x∈G.list,bf x.key=true
 marks:∀x∈G.list,x.mark≤G.cW
def dO (G:Gr)(k:Bs):Nat:=if k∈G.list.map (·.key) then 0 else 1
structure C' (G H:Gr)(p c:Bs):Prop where
 cM:H.cM=G.cM
 dg:H.dg=G.dg
 aJ:H.aJ=G.aJ
 cp:H.cp=G.cp+1
 ok:ir H∧xB H
 list:∃G0 H1 H2 a b,dw G G0∧(∀x∈G0.list,x.mark≤G0.cW)∧iX G0 H1 p a∧iX H1 H2 c b∧a≠b∧(∃xa xb,H2.list[a]?=some xa∧H2.list[b]?=some xb∧H.list=(H2.list.set a { xa with down:=xa.down++[b]}).set b { xb with up:=xb.up++[a]})∧H.cW=G0.cW
inductive ud (G H:Gr) (p c:Bs):Bool→Int→Prop where
 |bad:(bf p&&bf c)=false→H=G→ud G H p c false 2
 |has:bf p=true→bf c=true→fm G p c→H=G→ud G H p c false 0
 |Hf:bf p=true→bf c=true→¬fm G p c→(p=c∨Ba G c p)→dw G H→ud G H p c false 13
 |full:bf p=true→bf c=true→¬fm G p c→p≠c→¬Ba G c p→(G.cM<G.list.length+dO G p+dO G c∨G.cp=G.dg)→dw G H→ud G H p c false 7
 |new:bf p=true→bf c=true→¬fm G p c→p≠c→¬Ba G c p→G.list.length+dO G p+dO G c≤G.cM→G.cp≠G.dg→C' G H p c→ud G H p c true 0
theorem aha {G:Gr}{k:Bs}{z:Int}(h:KE G k z):(z<0→dO G k=1)∧(¬z<0→dO G k=0):=by
 rcases h with⟨rfl,h⟩|⟨n,x,rfl,h1,h2⟩
 ·exact⟨fun _=>by simp only[dO,if_neg h],fun h=>absurd (by decide) h⟩
 ·exact⟨fun h=>by omega,fun _=>by simp only[dO,if_pos (bG.2 ⟨x,bD h1,h2⟩)]⟩
theorem iX.length {G H:Gr}{k:Bs}{n:Nat}(h:iX G H k n):H.list.length=G.list.length+dO G k:=by
 rcases h.list with⟨h1,x,h2,h3⟩|⟨h1,_,h2⟩
 ·rw[h1,dO,if_pos (bG.2 ⟨x,bD h2,h3⟩)];rfl
 ·rw[h2,dO,if_neg h1];simp
theorem iX.dO {G H:Gr}{k k':Bs}{n:Nat}(h:iX G H k n)(hk:k'≠k):M.dO H k'=M.dO G k':=by
 rcases h.list with⟨h1,_⟩|⟨_,_,h1⟩
 ·simp only[M.dO,h1]
 ·have e:k'∈H.list.map (·.key)↔k'∈G.list.map (·.key):=by
   rw[h1];simp[hk]
  by_cases hm:k'∈G.list.map (·.key)
  ·rw[M.dO,M.dO,if_pos hm,if_pos (e.2 hm)]
  ·rw[M.dO,M.dO,if_neg hm,if_neg (fun h=>hm (e.1 h))]
theorem iX.mem {G H:Gr}{k:Bs}{n:Nat}(h:iX G H k n){x:Nd}(hx:x∈H.list):x∈G.list∨x=⟨k,[],[],0⟩:=by
 rcases h.list with⟨h1,_⟩|⟨_,_,h1⟩
 ·rw[h1] at hx;exact .inl hx
 ·rw[h1] at hx;simpa using hx
theorem iX.at {G H:Gr}{k:Bs}{n:Nat}(h:iX G H k n):∃x,H.list[n]?=some x∧x.key=k:=by
 rcases h.list with⟨h1,x,h2,h3⟩|⟨_,rfl,h1⟩
 ·exact⟨x,h1▸h2,h3⟩
 ·exact⟨⟨k,[],[],0⟩,by rw[h1];simp,rfl⟩
theorem iX.ox {G H:Gr}{k:Bs}{n:Nat}(h:iX G H k n){i:Nat}{x:Nd}(hx:G.list[i]?=some x):H.list[i]?=some x:=by
 rcases h.list with⟨h1,_⟩|⟨_,_,h1⟩
 ·rw[h1];exact hx
 ·rw[h1,gp (aV.1 hx).1];exact hx
theorem ir.aeZ {G H:Gr}(h:ir G)(hk:H.list.map Nd.key=G.list.map Nd.key)(hc:H.cells=G.cells)(hs:H.aJ=G.aJ):ir H:=by
 have ads:∀b:Nat,(H.list[b]?.map Nd.key).getD []=(G.list[b]?.map Nd.key).getD []:=fun b=>by
  have:=congrArg (fun l:List Bs=>(l[b]?).getD []) hk;simpa using this
 have hl:H.list.length=G.list.length:=by simpa using congrArg List.length hk
 have e1:fx H.list H.cells=fx G.list G.cells:=by
  rw[hc];unfold fx;congr 1;funext n;cases n with
  |zero=>rfl
  |succ m=>simp only[ads]
 have e2:fq H.list=fq G.list:=by
  have key:∀L:List Nd,fq L=(L.map Nd.key).zipIdx:=fun L=>by
   rw[List.zipIdx_map];rfl
  rw[key,key,hk]
 refine⟨?_,fun n hn=>?_,by rw[hs];exact h.aJ,by rw[hc];exact h.small⟩
 ·rw[e1,e2,hs];exact h.eM
 ·rw[hc] at hn;rw[hl];exact h.idx n hn
theorem XA {L:List Nd}{i:Nat}{x y:Nd}(hx:L[i]?=some x)(hk:y.key=x.key):(L.set i y).map Nd.key=L.map Nd.key:=by
 rw[pG,hk];apply pB;intro j
 by_cases hj:i=j
 ·subst hj;have h1:=(aV.1 hx).1;rw[dE (by simpa using h1)];simp[hx]
 ·rw[dv hj]
theorem GM.P6 {w:World}{g:Nat}{G:Gr}{ow:Nat→Option Lb}{ol:Option Nat}{lb lo:Nat}{cl cb cc:Nat}{bs:List Nat}(h:GM w g G ow ol (some ⟨lb,lo,none⟩) cl cb cc bs):ow lb=some .arr:=by
 cases iP:ol with
 |none=>cases h.mO iP
 |some d=>
  have ha:=h.arr;rw[iP] at ha;cases ha.block.1;exact h.iT _ iP
theorem Cx {l:List Nat}{n:Nat}(h:l.Nodup)(hl:∀x∈l,x<n):l.length≤n:=by
 have h1:=Kq (fun _=>1) h (fun x hx=>tY.2 (hl x hx));have e:∀m:List Nat,(m.map fun _=>1).sum=m.length:=fun m=>by
  induction m with
  |nil=>rfl
  |cons x r ih=>simp only[cJ,List.sum_cons,ih,ek];omega
 rw[e,e,List.length_range] at h1;exact h1
theorem Za {w:World}{g:Nat}{G:Gr}{ow:Nat→Option Lb}{ol:Option Nat}{al:Option Addr}{cl cb cc:Nat}{bs:List Nat}(hG:GM w g G ow ol al cl cb cc bs)(hi:jM G)(hs:G.cW<2^62)(p c:Bs) :
  aj prog 125 [ak g,str p,str c].toArray w fun v w'=>
   (∃z e H,v = .tuple #[.bool z,iV e]∧ud G H p c z e∧H.cW≤G.cW+1∧(∀x∈H.list,x.mark≤H.cW)∧PE w w' g H ow)∧dZ ow w w':=by
 have fU:=hi.eZ.mx;have qS:jZ G≤65536:=by have:=hi.zt;have:=hi.cp;omega
 have mG:∀x∈G.list,x.down.length≤65536:=fun x hx=>by
  obtain⟨j,hj⟩:=ey hx;have p7:=(aV.1 hj).1;have h1:=Hm (G:=G) (l:=[j]) (by simp) (by simpa using p7);simp[lT,hj] at h1;omega
 refine aj.enter func125 rfl ntmps125 rfl (go ?_);refine GX.da (Lp hG ah p c) rfl rfl rfl rfl rfl rfl (go ?_);cases aU:(bf p&&bf c) with
 |false=>
  refine go ?_;exact⟨⟨false,_,G,rfl, .bad aU rfl,by omega,hi.marks,⟨_,_,_,_,_,_,_,hG,fT.refl _ _⟩⟩,Mod.refl _⟩
 |true=>
 obtain⟨qh,qg⟩:bf p=true∧bf c=true:=by simpa using aU
 have hp:p.length<2^40:=by have:=dM qh;omega
 have hc:c.length<2^40:=by have:=dM qg;omega
 refine go ?_;refine GX.call (Sd hG hi.eZ p c hp hc) rfl rfl rfl rfl rfl rfl ?_;rintro _ w1 ⟨⟨z1,rfl,sk⟩,cX⟩;have fL:=hG.ext cX;cases z1 with
 |true=>
  refine go ?_;exact⟨⟨false,_,G,rfl, .has qh qg (sk.1 rfl) rfl,by omega,hi.marks,⟨_,_,_,_,_,_,_,fL,fT.refl _ _⟩⟩,dZ.ext (Mod.refl w) cX⟩
 |false=>
 have bz:¬fm G p c:=fun h=>by cases sk.2 h
 refine go ?_;refine GX.call (WY fL hi.eZ mG qS hs hi.marks c p 65536 (aY _)) rfl rfl rfl rfl rfl rfl ?_;rintro _ w2 ⟨⟨z2,n2,e2,G2,rfl,_,hex,lB,EZ,BR,gZ⟩,mC⟩;obtain⟨rfl,sq⟩:=hex qg qh qS;have LQ:dZ ow w w2:=((dZ.ext (Mod.refl w) cX).trans mC)
 have qO:=gZ.top;have rQ:=lB.length;cases z2 with
 |true=>
  refine go ?_;exact⟨⟨false,_,G2,rfl, .Hf qh qg bz (.inr (sq.1 rfl)) lB,EZ,BR,⟨_,_,_,_,_,_,_,gZ,fT.refl _ _⟩⟩,LQ⟩
 |false=>
 have hnl:¬Ba G c p:=fun h=>by cases sq.2 h
 refine go ?_;refine dq (fun tC=>?_) (fun tC=>?_)<;>refine go ?_
 ·exact⟨⟨false,_,G2,rfl, .Hf qh qg bz (.inl tC) lB,EZ,BR,⟨_,_,_,_,_,_,_,gZ,fT.refl _ _⟩⟩,LQ⟩
 refine GX.next rfl (GO.KW rfl rfl rfl rfl rfl rfl ?_);refine go ?_;refine GC.bR [0,1,2,51] (fun s:Nat×Nat=>[(12, .int .i64 ((G2.list.length:Int)+(s.2:Nat))),(52, .int .i64 (s.1:Nat))])
  (fun s w'=>s.1≤2∧s.2=(if 0<s.1 then dO G2 p else 0)+(if 1<s.1 then dO G2 c else 0)∧Ext w2 w') (fun s=>2 - s.1)
  (0,0) rfl rfl ⟨by decide,by simp,Mod.refl w2⟩ ?_
 rintro⟨j,m⟩ w3 ⟨hj,hm,iK⟩;dsimp only at hj hm ⊢;have rR:dZ ow w w3:=LQ.ext iK;have nW:=gZ.ext iK;have ux:=nW.top;refine go ?_;refine dq (fun hjc=>?_) (fun hjc=>?_)<;>refine go ?_
 ·obtain⟨k,hk,cV⟩:∃k:Bs,[str p,str c][j]?=some (str k)∧(k.length<2^40∧((j=0∧k=p)∨(j=1∧k=c))):=by
   rcases(show j=0∨j=1 by omega) with rfl|rfl
   ·exact⟨p,rfl,hp, .inl ⟨rfl,rfl⟩⟩
   ·exact⟨c,rfl,hc, .inr ⟨rfl,rfl⟩⟩
  refine GX.next rfl (GO.aeC (v:=str k) rfl rfl rfl rfl ah ah (by rw[show((j:Int)).toNat=j from rfl];exact hk) rfl ?_);refine go ?_;refine GX.call (xQ nW (lB.ok hi.eZ.ok) k cV.1) rfl rfl rfl rfl rfl rfl ?_;rintro _ w4 ⟨⟨z,rfl,hz⟩,i'⟩;have IP:=aha hz;have IB:G2.list.length≤65536:=by rw[rQ];have:=hi.len;omega
  have gf:m≤2:=by
   have h1:dO G2 p≤1:=by unfold dO;split<;>omega
   have h2:dO G2 c≤1:=by unfold dO;split<;>omega
   split at hm<;>split at hm<;>omega
  refine go ?_;refine dq (fun T5=>?_) (fun T5=>?_)<;>refine go ?_
  ·refine go ?_;refine GQ.bj (j+1,m+1) rfl ⟨by simp only;omega,?_,iK.trans i'⟩ (by simp only;omega);have h1:=IP.1 ah
   rcases cV.2 with⟨rfl,rfl⟩|⟨rfl,rfl⟩<;>simp at hm ⊢<;>omega
  ·refine go ?_;refine GQ.bj (j+1,m) rfl ⟨by simp only;omega,?_,iK.trans i'⟩ (by simp only;omega);have h1:=IP.2 ah
   rcases cV.2 with⟨rfl,rfl⟩|⟨rfl,rfl⟩<;>simp at hm ⊢<;>omega
 obtain rfl:j=2:=by omega
 have IB:G2.list.length≤65536:=by rw[rQ];have:=hi.len;omega
 have amR:dO G2 p≤1∧dO G2 c≤1:=⟨by unfold dO;split<;>omega,by unfold dO;split<;>omega⟩
 simp only[show(0:Nat)<2 by decide,show(1:Nat)<2 by decide,if_true] at hm;have hnG:dO G p=dO G2 p∧dO G c=dO G2 c:=⟨by simp only[dO,lB.keys],by simp only[dO,lB.keys]⟩
 have Th:=lB.cM;have Tg:=lB.dg;have qV:=lB.cp;refine GC.pv (bg [0,3,6,9,13,15,18,21,24,27,33,36,39,31,43,45,48]) (fun _=>False) mixed ai ai (go ?_);refine go ?_;refine dq (fun hfu=>?_) (fun hfu=>?_)<;>refine go ?_
 ·refine go ?_;exact⟨⟨false,_,G2,rfl, .full qh qg bz tC hnl (.inl ah) lB,EZ,BR,⟨_,_,_,_,_,_,_,nW.ext (Ext.drew w3),fT.refl _ _⟩⟩,rR.ext (Ext.drew w3)⟩
 refine dq (fun ly=>?_) (fun ly=>?_)<;>refine go ?_
 ·exact⟨⟨false,_,G2,rfl, .full qh qg bz tC hnl (.inr ah) lB,EZ,BR,⟨_,_,_,_,_,_,_,nW.ext (Ext.drew w3),fT.refl _ _⟩⟩,rR.ext (Ext.drew w3)⟩
 have BL:∀x∈G2.list,x.key.length<2^40:=fun x hx=>by
  obtain⟨i,Eu⟩:=ey hx;exact((lB.eZ hi.eZ).len i x Eu).2
 have acY:xB G2:=by unfold xB;rw[lB.cells];exact hi.cells
 refine GX.call (WN (nW.ext (Ext.drew w3)) (lB.ok hi.eZ.ok) acY IB BL p hp) rfl rfl rfl rfl rfl rfl ?_;rintro _ w4 ⟨⟨a,H1,rfl,jb,⟨ow4,ol4,al4,cl4,cb4,cc4,bs4,gz,aee⟩,adO,acZ⟩,hM4⟩;have rW:=jb.length;refine go ?_;have adu:∀x∈H1.list,x.key.length<2^40:=fun x hx=>by
  rcases jb.mem hx with h|rfl
  ·exact BL x h
  ·exact hp
 refine GX.call (WN gz adO acZ ah adu c hc) rfl rfl rfl rfl rfl rfl ?_;rintro _ w5 ⟨⟨b,H2,rfl,fM,⟨FF,Wv,al5,QD,Qr,Qt,xM,qK,aef⟩,adP,ac0⟩,DW⟩;have jf:=fM.length;have Ti:=jb.dO (k':=c) (fun h=>tC h.symm);refine go ?_;have BA:=qK.top;obtain⟨xa,lY,uE⟩:∃x,H2.list[a]?=some x∧x.key=p:=by
  obtain⟨x,h1,h2⟩:=jb.at;exact⟨x,fM.ox h1,h2⟩
 obtain⟨xb,gi,mI⟩:=fM.at;have fg:a≠b:=fun h=>by
  subst h;rw[lY] at gi;cases gi;exact tC (uE.symm.trans mI)
 have haL:=(aV.1 lY).1;have hbL:=(aV.1 gi).1;have amF:=qK.len;have H7:xM[a]?=some (xM[a]'(by omega)):=by simp
 generalize xM[a]'(by omega)=ba at H7;have zJ:xM[b]?=some (xM[b]'(by omega)):=by simp
 generalize xM[b]'(by omega)=bb at zJ;obtain⟨v1,v2,uJ,iy,⟨ob,a3,c3,e3,mD,di,p9⟩,gC⟩:=qK.node a ba xa H7 lY;subst e3;obtain⟨lb,lo,cj,lV⟩:=sH qK.arr.bL H7;subst cj;have xS:=qK.P6;have acH:¬some g=ob:=fun h=>lF qK.fN (di g h.symm) (by simp) rfl
 have RT:¬some ba=ob:=fun h=>lF iy (di ba h.symm) (by simp) rfl
 have acs:¬some lb=ob:=fun h=>lF xS (di lb h.symm) (by simp) rfl
 have hdG:∀x∈G2.list,x.down.length≤65536∧x.up.length≤65536:=fun x hx=>by
  obtain⟨j,hj⟩:=ey hx;obtain⟨y,h1,_,h2,h3⟩:=lB.get hj;rw[h2,h3];have hl:=hi.len;exact⟨mG y (bD h1),by have:=Cx (hi.mi y (bD h1)) (hi.nJ j y h1);omega⟩
 have Ib:∀x∈H2.list,x.down.length≤65536∧x.up.length≤65536:=fun x hx=>by
  rcases fM.mem hx with h|rfl
  ·rcases jb.mem h with h|rfl
   ·exact hdG x h
   ·exact⟨by simp,by simp⟩
  ·exact⟨by simp,by simp⟩
 have ams:=(Ib xa (bD lY)).1;have am2:=(Ib xb (bD gi)).2;refine GC.pv (bg [0,3,6,12,21,24,27,33,54,10,15,19,63,66,31,36,40,42,45,48,52,59,62,69,74]) (fun k=>some k=ob) mixed ai ai (go ?_)
 repeat(
  refine go ?_
  first
  |refine GX.read rfl (GO.su rfl rfl rfl BA acH (Ext.drew _).mod (by rfl) ?_)
  |refine GX.read rfl (GO.su rfl rfl rfl uJ RT (Ext.drew _).mod (by rfl) ?_)
  |refine GX.read rfl (GO.pe (lV (a:Int) ah) acs (Ext.drew _).mod rfl rfl rfl ?_)
  |refine GX.pure rfl (GO.indexAddr rfl rfl rfl rfl ah ah rfl ?_)
  |refine GX.pure rfl (GO.l4 rfl rfl rfl rfl (by decide) (by decide) rfl ?_))
 refine go ?_;refine GX.CP rfl rfl rfl rfl rfl rfl rfl rfl rfl fun sb w6 yh LW iv=>?_
 refine GX.Bh ((mD.ext (Ext.drew w5)).ext iv) LW.bL (fun k h=>h) rfl rfl rfl rfl rfl rfl rfl (u4 [b]) ah ah fun jE a7 c7 w7 qL x8 EL wb=>go ?_
 refine GX.pure rfl (GO.l4 rfl rfl rfl rfl (by decide) (by decide) rfl (go ?_));have ja:=(qK.ext (Ext.drew w5)).ext iv;have adD:=((uJ.ext (Ext.drew w5)).ext iv).mod x8 RT;refine GX.F9 adD (.inr ai) rfl rfl rfl rfl (by rfl) (by rfl) (by rfl) (by rfl) fun w8 DP nr=>go ?_
 obtain⟨rP,aeh,Bz⟩:=ja.agx (b:=b) H7 lY iy di p9 ((mD.ext (Ext.drew w5)).ext iv) (gC.mod ((Ext.drew w5).trans iv) (fun _ _ h=>h)) qL x8 EL wb DP nr;obtain⟨H3,cH,rP⟩:∃H3:Gr,((H3.list=H2.list.set a { xa with down:=xa.down++[b]}∧H3.cells=H2.cells∧H3.aJ=H2.aJ)∧H3.cM=H2.cM∧H3.dg=H2.dg∧H3.cp=H2.cp∧H3.cW=H2.cW)∧GM w8 g H3 (cN FF jE (Lb.dn a)) Wv (some ⟨lb,lo,none⟩) QD Qr Qt xM:=⟨{ H2 with list:=H2.list.set a { xa with down:=xa.down++[b]}},⟨⟨rfl,rfl,rfl⟩,rfl,rfl,rfl,rfl⟩,rP⟩
 have Nw:H3.list[b]?=some xb:=by rw[cH.1.1,dv fg];exact gi
 have wk:H3.list.length=H2.list.length:=by rw[cH.1.1];simp
 have HS:=rP.top;obtain⟨u1,u2,MV,Tq,ad4,⟨oc,a9,c9,e9,HO,IQ,adE⟩⟩:=rP.node b bb xb zJ Nw;subst e9;have acP:=rP.P6;obtain⟨lb',lo',Mh,acr⟩:=sH rP.arr.bL zJ;cases Mh;have acI:¬some g=oc:=fun h=>lF rP.fN (IQ g h.symm) (by simp) rfl
 have RU:¬some bb=oc:=fun h=>lF Tq (IQ bb h.symm) (by simp) rfl
 have acu:¬some lb=oc:=fun h=>lF acP (IQ lb h.symm) (by simp) rfl
 refine GC.pv (bg [0,3,6,12,21,24,27,33,54,10,15,19,63,66,31,36,40,42,45,48,52,59,62,69,74]) (fun k=>some k=oc) mixed ai ai (go ?_)
 repeat(
  refine go ?_
  first
  |refine GX.read rfl (GO.su rfl rfl rfl HS acI (Ext.drew _).mod (by rfl) ?_)
  |refine GX.read rfl (GO.su rfl rfl rfl MV RU (Ext.drew _).mod (by rfl) ?_)
  |refine GX.read rfl (GO.pe (acr (b:Int) ah) acu (Ext.drew _).mod rfl rfl rfl ?_)
  |refine GX.pure rfl (GO.indexAddr rfl rfl rfl rfl ah ah rfl ?_)
  |refine GX.pure rfl (GO.l4 rfl rfl rfl rfl (by decide) (by decide) rfl ?_))
 refine go ?_;refine GX.CP rfl rfl rfl rfl rfl rfl rfl rfl rfl fun sb2 w9 amZ acE tk=>?_
 refine GX.Bh ((HO.ext (Ext.drew w8)).ext tk) acE.bL (fun k h=>h) rfl rfl rfl rfl rfl rfl rfl (u4 [a]) ah ah fun Ws a10 Qg yZ DY S9 adH acL=>go ?_
 refine GX.pure rfl (GO.l4 rfl rfl rfl rfl (by decide) (by decide) rfl (go ?_));have LI:=(rP.ext (Ext.drew w8)).ext tk;have adC:=((MV.ext (Ext.drew w8)).ext tk).mod S9 RU;refine GX.F9 adC (.inr ai) rfl rfl rfl rfl (by rfl) (by rfl) (by rfl) (by rfl) fun Kv acw x6=>go ?_
 obtain⟨zF,aed,acA⟩:=LI.agy (b:=a) zJ Nw Tq IQ adE ((HO.ext (Ext.drew w8)).ext tk) (ad4.mod ((Ext.drew w8).trans tk) (fun _ _ h=>h)) DY S9 adH acL acw x6;obtain⟨H4,js,zF⟩:∃H4:Gr,((H4.list=H3.list.set b { xb with up:=xb.up++[a]}∧H4.cells=H3.cells∧H4.aJ=H3.aJ)∧H4.cM=H3.cM∧H4.dg=H3.dg∧H4.cp=H3.cp∧H4.cW=H3.cW)∧GM Kv g H4 (cN (cN FF jE (Lb.dn a)) Ws (Lb.up b)) Wv (some ⟨lb,lo,none⟩) QD Qr Qt xM:=⟨{ H3 with list:=H3.list.set b { xb with up:=xb.up++[a]}},⟨⟨rfl,rfl,rfl⟩,rfl,rfl,rfl,rfl⟩,zF⟩
 have Mc:=zF.top;have amI:H4.cp≤65536:=by
  have h1:=hi.cp;have h2:=js.2.2.2.1;have h3:=cH.2.2.2.1;have h4:=fM.cp;have h5:=jb.cp;omega
 refine go ?_;refine GX.yT Mc rfl rfl rfl rfl (by rfl) (by rfl) (by rfl) (by rfl) fun C0 LB EE=>go ?_
 have e12:((H4.cp+1:Nat):Int)=(H4.cp:Int)+1:=by omega
 have acz:=zF.Xz H4.cW (H4.cp+1) EE (by rw[e12];exact LB);have ad7:w.heap.size≤w3.drew.heap.size:=(rR.ext (Ext.drew w3)).size;have U4:fT w ow ow4:=(fT.refl w ow).trans aee ad7;have M4:dZ ow w w4:=(rR.ext (Ext.drew w3)).trans hM4;have U5:fT w ow FF:=U4.trans aef M4.size;have M6:dZ ow w w6:=((M4.up U4 DW).ext (Ext.drew w5)).ext iv;have U8:fT w ow (cN FF jE (Lb.dn a)):=U5.trans aeh M6.size;have M9:dZ ow w w9:=((M6.up U5 Bz).ext (Ext.drew w8)).ext tk;have PL:fT w ow (cN (cN FF jE (Lb.dn a)) Ws (Lb.up b)):=U8.trans aed M9.size;have YF:dZ ow w C0:=(M9.up U8 acA).up PL (dZ.own (Mod.refl Kv) zF.fN EE);have B6:H4.cW=G2.cW:=js.2.2.2.2.trans (cH.2.2.2.2.trans (fM.oG.trans jb.oG));have adw:H4.cp=G.cp:=js.2.2.2.1.trans (cH.2.2.2.1.trans (fM.cp.trans (jb.cp.trans lB.cp)));have iO:∀x∈H2.list,x.mark≤G2.cW:=fun x hx=>by
  rcases fM.mem hx with h|rfl
  ·rcases jb.mem h with h|rfl
   ·exact BR x h
   ·exact bh _
  ·exact bh _
 refine⟨⟨true,_,{ H4 with cp:=H4.cp+1},rfl, .new qh qg bz tC hnl ah ah ⟨?_,?_,?_,?_,⟨?_,?_⟩,⟨G2,H1,H2,a,b,lB,BR,jb,fM,fg,⟨xa,xb,lY,gi,?_⟩,B6⟩⟩,?_,?_,⟨_,_,_,_,_,_,_,acz,PL⟩⟩,YF⟩
 ·exact js.2.1.trans (cH.2.1.trans (fM.cM.trans (jb.cM.trans lB.cM)))
 ·exact js.2.2.1.trans (cH.2.2.1.trans (fM.dg.trans (jb.dg.trans lB.dg)))
 ·exact js.1.2.2.trans (cH.1.2.2.trans (fM.aJ.trans (jb.aJ.trans lB.aJ)))
 ·exact congrArg (· + 1) adw
 ·refine adP.aeZ ?_ (js.1.2.1.trans cH.1.2.1) (js.1.2.2.trans cH.1.2.2);show H4.list.map Nd.key=_;rw[js.1.1,XA Nw (y:={ xb with up:=xb.up++[a]}) rfl,cH.1.1,XA lY (y:={ xa with down:=xa.down++[b]}) rfl]
 ·show 8≤H4.cells.length∧H4.cells.length≤2^18;rw[js.1.2.1,cH.1.2.1];exact ac0
 ·show H4.list=_;rw[js.1.1,cH.1.1]
 ·show H4.cW≤_;rw[B6];exact EZ
 ·intro x hx;show x.mark≤H4.cW;rw[B6];have hx:x∈H4.list:=hx;rw[js.1.1,cH.1.1] at hx
  rcases mn hx with hx|rfl
  ·rcases mn hx with hx|rfl
   ·exact iO x hx
   ·exact iO xa (bD lY)
  ·exact iO xb (bD gi)
end Go.Proofs.YtoloaehmppcjoaaGreat.V.M
