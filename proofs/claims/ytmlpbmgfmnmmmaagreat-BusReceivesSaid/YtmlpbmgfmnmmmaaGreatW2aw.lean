/-
  Parts of the proof. No condition.
-/
import Derived.Test.YtmlpbmgfmnmmmaaGreatW2av
set_option linter.unusedVariables false
set_option linter.unusedSimpArgs false
set_option maxRecDepth 8000
set_option maxHeartbeats 8000000
open Go.Proofs.Tryz
namespace Go.Proofs.YtmlpbmgfmnmmmaaGreat.V.M
attribute [local irreducible] GO GX
section
variable {P:Program}{ops:Array Oper}{Q:Exit→Act→World→Prop}{S:World→Prop}{n:Nat}{k:Kd}{dst:Option Tmp}
variable {i:Nat}{e:Env}{w:World}{ty:TypeId}{pos:String}{an:Array Edge}{g:Option (Nat×Bool)}{p:bZ}
theorem GO.KK [Fr](hk:cB k=true){t el:TypeId}{len s:Nat}{agg:Bool}{Z:List Value}[hu:bH P t (.array len el)][hz:eQ P t Z][IU:aC P el agg s]{parts:Array (Nat×Operand)}{vs:List (Nat×Value)}{pl:List (Nat×List Value)}{out:List Value}
  (hw:aH ops e ⟨dst, .build t parts,ty,pos,an,g⟩=some true) (hx:parts.toList.mapM (fun x=>(ev e x.2).map fun v=>(x.1,v))=some vs) (hp:vs.map (fun x=>(x.1,x.2.cells.toList))=pl)
  (ho:sJ (fun j=>some (j*s,s)) Z pl=some out) (hd:fits n dst=true)
  (h:GX P ops Q S n p (e.put dst (.agg out.toArray)) w):GO P ops Q S n k i ⟨dst, .build t parts,ty,pos,an,g⟩ p e w:=by
 refine GO.val (fN hk) hw hd (fun a ha w=>?_) h;obtain⟨z0,hz3,hz4⟩:=hz.zero w;have Ab:=K5 ha _ vs hx;subst hp;rw[←hz4] at ho;have Ej:=fill_eq _ vs _ z0.cells out rfl ho;simp only[execOp,Instr.build,Sem.run_bind,hz3,Result.andThen_ok,run_underlying hu.out,IU.sizeOf,Array.toList_map];simp only[Ab,Ej];simp
end
structure js (G:Gr):Prop where
 eM:xx G
 cells:xu G
 nA:∀(a:Nat) (x:Nd),G.list[a]?=some x→∀b∈x.up,b<G.list.length
 oW:∀(a b:Nat) (x y:Nd),G.list[a]?=some x→G.list[b]?=some y→(b∈x.down↔a∈y.up)
 nM:∀x∈G.list,x.down.Nodup
 lX:∀x∈G.list,x.up.Nodup
 len:G.list.length≤G.cL
 zu:jJ G=G.cp
 cp:G.cp≤G.dd∧G.dd≤65536
 used:∀x∈G.list,x.down≠[]∨x.up≠[]
 keys:∀x∈G.list,bI x.key=true
 marks:∀x∈G.list,x.mark≤G.cT
def dK (G:Gr)(k:Bs):Nat:=if k∈G.list.map (·.key) then 0 else 1
structure Dd (G H:Gr)(p c:Bs):Prop where
 cL:H.cL=G.cL
 dd:H.dd=G.dd
 aJ:H.aJ=G.aJ
 cp:H.cp=G.cp+1
 ok:gS H∧xu H
 list:∃G0 H1 H2 a b,dp G G0∧(∀x∈G0.list,x.mark≤G0.cT)∧iI G0 H1 p a∧iI H1 H2 c b∧a≠b∧(∃xa xb,H2.list[a]?=some xa∧H2.list[b]?=some xb∧H.list=(H2.list.set a { xa with down:=xa.down++[b]}).set b { xb with up:=xb.up++[a]})∧H.cT=G0.cT
inductive tJ (G H:Gr) (p c:Bs):Bool→Int→Prop where
 |bad:(bI p&&bI c)=false→H=G→tJ G H p c false 2
 |has:bI p=true→bI c=true→eV G p c→H=G→tJ G H p c false 0
 |He:bI p=true→bI c=true→¬eV G p c→(p=c∨A9 G c p)→dp G H→tJ G H p c false 13
 |full:bI p=true→bI c=true→¬eV G p c→p≠c→¬A9 G c p→(G.cL<G.list.length+dK G p+dK G c∨G.cp=G.dd)→dp G H→tJ G H p c false 7
 |new:bI p=true→bI c=true→¬eV G p c→p≠c→¬A9 G c p→G.list.length+dK G p+dK G c≤G.cL→G.cp≠G.dd→Dd G H p c→tJ G H p c true 0
theorem ahd {G:Gr}{k:Bs}{z:Int}(h:Kq G k z):(z<0→dK G k=1)∧(¬z<0→dK G k=0):=by
 rcases h with⟨rfl,h⟩|⟨n,x,rfl,h1,h2⟩
 ·exact⟨fun _=>by simp only[dK,if_neg h],fun h=>absurd (by decide) h⟩
 ·exact⟨fun h=>by omega,fun _=>by simp only[dK,if_pos (bK.2 ⟨x,bF h1,h2⟩)]⟩
theorem iI.length {G H:Gr}{k:Bs}{n:Nat}(h:iI G H k n):H.list.length=G.list.length+dK G k:=by
 rcases h.list with⟨h1,x,h2,h3⟩|⟨h1,_,h2⟩
 ·rw[h1,dK,if_pos (bK.2 ⟨x,bF h2,h3⟩)];rfl
 ·rw[h2,dK,if_neg h1];simp
theorem iI.dK {G H:Gr}{k k':Bs}{n:Nat}(h:iI G H k n)(hk:k'≠k):M.dK H k'=M.dK G k':=by
 rcases h.list with⟨h1,_⟩|⟨_,_,h1⟩
 ·simp only[M.dK,h1]
 ·have e:k'∈H.list.map (·.key)↔k'∈G.list.map (·.key):=by
   rw[h1];simp[hk]
  by_cases hm:k'∈G.list.map (·.key)
  ·rw[M.dK,M.dK,if_pos hm,if_pos (e.2 hm)]
  ·rw[M.dK,M.dK,if_neg hm,if_neg (fun h=>hm (e.1 h))]
theorem iI.mem {G H:Gr}{k:Bs}{n:Nat}(h:iI G H k n){x:Nd}(hx:x∈H.list):x∈G.list∨x=⟨k,[],[],0⟩:=by
 rcases h.list with⟨h1,_⟩|⟨_,_,h1⟩
 ·rw[h1] at hx;exact .inl hx
 ·rw[h1] at hx;simpa using hx
theorem iI.at {G H:Gr}{k:Bs}{n:Nat}(h:iI G H k n):∃x,H.list[n]?=some x∧x.key=k:=by
 rcases h.list with⟨h1,x,h2,h3⟩|⟨_,rfl,h1⟩
 ·exact⟨x,h1▸h2,h3⟩
 ·exact⟨⟨k,[],[],0⟩,by rw[h1];simp,rfl⟩
theorem iI.nV {G H:Gr}{k:Bs}{n:Nat}(h:iI G H k n){i:Nat}{x:Nd}(hx:G.list[i]?=some x):H.list[i]?=some x:=by
 rcases h.list with⟨h1,_⟩|⟨_,_,h1⟩
 ·rw[h1];exact hx
 ·rw[h1,gr (aV.1 hx).1];exact hx
theorem gS.aeS {G H:Gr}(h:gS G)(hk:H.list.map Nd.key=G.list.map Nd.key)(hc:H.cells=G.cells)(hs:H.aJ=G.aJ):gS H:=by
 have adi:∀b:Nat,(H.list[b]?.map Nd.key).getD []=(G.list[b]?.map Nd.key).getD []:=fun b=>by
  have:=congrArg (fun l:List Bs=>(l[b]?).getD []) hk;simpa using this
 have hl:H.list.length=G.list.length:=by simpa using congrArg List.length hk
 have e1:eZ H.list H.cells=eZ G.list G.cells:=by
  rw[hc];unfold eZ;congr 1;funext n;cases n with
  |zero=>rfl
  |succ m=>simp only[adi]
 have e2:eW H.list=eW G.list:=by
  have key:∀L:List Nd,eW L=(L.map Nd.key).zipIdx:=fun L=>by
   rw[List.zipIdx_map];rfl
  rw[key,key,hk]
 refine⟨?_,fun n hn=>?_,by rw[hs];exact h.aJ,by rw[hc];exact h.small⟩
 ·rw[e1,e2,hs];exact h.eC
 ·rw[hc] at hn;rw[hl];exact h.idx n hn
theorem Xy {L:List Nd}{i:Nat}{x y:Nd}(hx:L[i]?=some x)(hk:y.key=x.key):(L.set i y).map Nd.key=L.map Nd.key:=by
 rw[pf,hk];apply pb;intro j
 by_cases hj:i=j
 ·subst hj;have h1:=(aV.1 hx).1;rw[dJ (by simpa using h1)];simp[hx]
 ·rw[dH hj]
theorem GM.P3 {w:World}{g:Nat}{G:Gr}{ow:Nat→Option Lb}{ol:Option Nat}{lb lo:Nat}{cl cb cc:Nat}{bs:List Nat}(h:GM w g G ow ol (some ⟨lb,lo,none⟩) cl cb cc bs):ow lb=some .arr:=by
 cases iC:ol with
 |none=>cases h.mv iC
 |some d=>
  have ha:=h.arr;rw[iC] at ha;cases ha.block.1;exact h.iG _ iC
theorem Cz {l:List Nat}{n:Nat}(h:l.Nodup)(hl:∀x∈l,x<n):l.length≤n:=by
 have h1:=Kb (fun _=>1) h (fun x hx=>tE.2 (hl x hx));have e:∀m:List Nat,(m.map fun _=>1).sum=m.length:=fun m=>by
  induction m with
  |nil=>rfl
  |cons x r ih=>simp only[cK,List.sum_cons,ih,dR];omega
 rw[e,e,List.length_range] at h1;exact h1
theorem Y' {w:World}{g:Nat}{G:Gr}{ow:Nat→Option Lb}{ol:Option Nat}{al:Option Addr}{cl cb cc:Nat}{bs:List Nat}(hG:GM w g G ow ol al cl cb cc bs)(hi:js G)(hs:G.cT<2^62)(p c:Bs) :
  aj prog 101 [ak g,str p,str c].toArray w fun v w'=>
   (∃z e H,v = .tuple #[.bool z,iV e]∧tJ G H p c z e∧H.cT≤G.cT+1∧(∀x∈H.list,x.mark≤H.cT)∧PG w w' g H ow)∧dV ow w w':=by
 have fK:=hi.eM.mx;have qA:jJ G≤65536:=by have:=hi.zu;have:=hi.cp;omega
 have ml:∀x∈G.list,x.down.length≤65536:=fun x hx=>by
  obtain⟨j,hj⟩:=ej hx;have pJ:=(aV.1 hj).1;have h1:=Hl (G:=G) (l:=[j]) (by simp) (by simpa using pJ);simp[lF,hj] at h1;omega
 refine aj.enter func101 rfl ntmps101 rfl (go ?_);refine GX.da (Lg hG ah p c) rfl rfl rfl rfl rfl rfl (go ?_);cases aX:(bI p&&bI c) with
 |false=>
  refine go ?_;exact⟨⟨false,_,G,rfl, .bad aX rfl,by omega,hi.marks,⟨_,_,_,_,_,_,_,hG,fJ.refl _ _⟩⟩,Mod.refl _⟩
 |true=>
 obtain⟨pV,pU⟩:bI p=true∧bI c=true:=by simpa using aX
 have hp:p.length<2^40:=by have:=eN pV;omega
 have hc:c.length<2^40:=by have:=eN pU;omega
 refine go ?_;refine GX.call (Sg hG hi.eM p c hp hc) rfl rfl rfl rfl rfl rfl ?_;rintro _ w1 ⟨⟨z1,rfl,rM⟩,cW⟩;have fC:=hG.ext cW;cases z1 with
 |true=>
  refine go ?_;exact⟨⟨false,_,G,rfl, .has pV pU (rM.1 rfl) rfl,by omega,hi.marks,⟨_,_,_,_,_,_,_,fC,fJ.refl _ _⟩⟩,dV.ext (Mod.refl w) cW⟩
 |false=>
 have bG:¬eV G p c:=fun h=>by cases rM.2 h
 refine go ?_;refine GX.call (WW fC hi.eM ml qA hs hi.marks c p 65536 (bj _)) rfl rfl rfl rfl rfl rfl ?_;rintro _ w2 ⟨⟨z2,n2,e2,G2,rfl,_,hex,lg,ER,BS,gN⟩,mh⟩;obtain⟨rfl,rN⟩:=hex pU pV qA;have LI:dV ow w w2:=((dV.ext (Mod.refl w) cW).trans mh)
 have qq:=gN.top;have rC:=lg.length;cases z2 with
 |true=>
  refine go ?_;exact⟨⟨false,_,G2,rfl, .He pV pU bG (.inr (rN.1 rfl)) lg,ER,BS,⟨_,_,_,_,_,_,_,gN,fJ.refl _ _⟩⟩,LI⟩
 |false=>
 have hnl:¬A9 G c p:=fun h=>by cases rN.2 h
 refine go ?_;refine dj (fun sW=>?_) (fun sW=>?_)<;>refine go ?_
 ·exact⟨⟨false,_,G2,rfl, .He pV pU bG (.inl sW) lg,ER,BS,⟨_,_,_,_,_,_,_,gN,fJ.refl _ _⟩⟩,LI⟩
 refine GX.next rfl (GO.KK rfl rfl rfl rfl rfl rfl ?_);refine go ?_;refine GC.bP [0,1,2,51] (fun s:Nat×Nat=>[(12, .int .i64 ((G2.list.length:Int)+(s.2:Nat))),(52, .int .i64 (s.1:Nat))])
  (fun s w'=>s.1≤2∧s.2=(if 0<s.1 then dK G2 p else 0)+(if 1<s.1 then dK G2 c else 0)∧Ext w2 w') (fun s=>2 - s.1)
  (0,0) rfl rfl ⟨by decide,by simp,Mod.refl w2⟩ ?_
 rintro⟨j,m⟩ w3 ⟨hj,hm,iy⟩;dsimp only at hj hm ⊢;have rD:dV ow w w3:=LI.ext iy;have nN:=gN.ext iy;have uf:=nN.top;refine go ?_;refine dj (fun hjc=>?_) (fun hjc=>?_)<;>refine go ?_
 ·obtain⟨k,hk,cQ⟩:∃k:Bs,[str p,str c][j]?=some (str k)∧(k.length<2^40∧((j=0∧k=p)∨(j=1∧k=c))):=by
   rcases(show j=0∨j=1 by omega) with rfl|rfl
   ·exact⟨p,rfl,hp, .inl ⟨rfl,rfl⟩⟩
   ·exact⟨c,rfl,hc, .inr ⟨rfl,rfl⟩⟩
  refine GX.next rfl (GO.aeu (v:=str k) rfl rfl rfl rfl ah ah (by rw[show((j:Int)).toNat=j from rfl];exact hk) rfl ?_);refine go ?_;refine GX.call (xK nN (lg.ok hi.eM.ok) k cQ.1) rfl rfl rfl rfl rfl rfl ?_;rintro _ w4 ⟨⟨z,rfl,hz⟩,lI⟩;have IE:=ahd hz;have Iq:G2.list.length≤65536:=by rw[rC];have:=hi.len;omega
  have gX:m≤2:=by
   have h1:dK G2 p≤1:=by unfold dK;split<;>omega
   have h2:dK G2 c≤1:=by unfold dK;split<;>omega
   split at hm<;>split at hm<;>omega
  refine go ?_;refine dj (fun TZ=>?_) (fun TZ=>?_)<;>refine go ?_
  ·refine go ?_;refine GQ.br (j+1,m+1) rfl ⟨by simp only;omega,?_,iy.trans lI⟩ (by simp only;omega);have h1:=IE.1 ah
   rcases cQ.2 with⟨rfl,rfl⟩|⟨rfl,rfl⟩<;>simp at hm ⊢<;>omega
  ·refine go ?_;refine GQ.br (j+1,m) rfl ⟨by simp only;omega,?_,iy.trans lI⟩ (by simp only;omega);have h1:=IE.2 ah
   rcases cQ.2 with⟨rfl,rfl⟩|⟨rfl,rfl⟩<;>simp at hm ⊢<;>omega
 obtain rfl:j=2:=by omega
 have Iq:G2.list.length≤65536:=by rw[rC];have:=hi.len;omega
 have amV:dK G2 p≤1∧dK G2 c≤1:=⟨by unfold dK;split<;>omega,by unfold dK;split<;>omega⟩
 simp only[show(0:Nat)<2 by decide,show(1:Nat)<2 by decide,if_true] at hm;have hnG:dK G p=dK G2 p∧dK G c=dK G2 c:=⟨by simp only[dK,lg.keys],by simp only[dK,lg.keys]⟩
 have Tg:=lg.cL;have Tf:=lg.dd;have qD:=lg.cp;refine GC.o5 (aZ [0,3,6,9,13,15,18,21,24,27,33,36,39,31,43,45,48]) (fun _=>False) mixed ai ai (go ?_);refine go ?_;refine dj (fun hfu=>?_) (fun hfu=>?_)<;>refine go ?_
 ·refine go ?_;exact⟨⟨false,_,G2,rfl, .full pV pU bG sW hnl (.inl ah) lg,ER,BS,⟨_,_,_,_,_,_,_,nN.ext (Ext.drew w3),fJ.refl _ _⟩⟩,rD.ext (Ext.drew w3)⟩
 refine dj (fun kX=>?_) (fun kX=>?_)<;>refine go ?_
 ·exact⟨⟨false,_,G2,rfl, .full pV pU bG sW hnl (.inr ah) lg,ER,BS,⟨_,_,_,_,_,_,_,nN.ext (Ext.drew w3),fJ.refl _ _⟩⟩,rD.ext (Ext.drew w3)⟩
 have BM:∀x∈G2.list,x.key.length<2^40:=fun x hx=>by
  obtain⟨i,El⟩:=ej hx;exact((lg.eM hi.eM).len i x El).2
 have acP:xu G2:=by unfold xu;rw[lg.cells];exact hi.cells
 refine GX.call (WL (nN.ext (Ext.drew w3)) (lg.ok hi.eM.ok) acP Iq BM p hp) rfl rfl rfl rfl rfl rfl ?_;rintro _ w4 ⟨⟨a,H1,rfl,iL,⟨ow4,ol4,al4,cl4,cb4,cc4,bs4,gd,ad5⟩,adG,acQ⟩,hM4⟩;have rH:=iL.length;refine go ?_;have adk:∀x∈H1.list,x.key.length<2^40:=fun x hx=>by
  rcases iL.mem hx with h|rfl
  ·exact BM x h
  ·exact hp
 refine GX.call (WL gd adG acQ ah adk c hc) rfl rfl rfl rfl rfl rfl ?_;rintro _ w5 ⟨⟨b,H2,rfl,fD,⟨Fz,Wt,al5,Qz,Qo,Qq,xE,ql,ad6⟩,adH,acR⟩,DT⟩;have iA:=fD.length;have Ti:=iL.dK (k':=c) (fun h=>sW h.symm);refine go ?_;have BB:=ql.top;obtain⟨xa,lM,um⟩:∃x,H2.list[a]?=some x∧x.key=p:=by
  obtain⟨x,h1,h2⟩:=iL.at;exact⟨x,fD.nV h1,h2⟩
 obtain⟨xb,fM,mq⟩:=fD.at;have eR:a≠b:=fun h=>by
  subst h;rw[lM] at fM;cases fM;exact sW (um.symm.trans mq)
 have haL:=(aV.1 lM).1;have hbL:=(aV.1 fM).1;have amJ:=ql.len;have HT:xE[a]?=some (xE[a]'(by omega)):=by simp
 generalize xE[a]'(by omega)=ba at HT;have zJ:xE[b]?=some (xE[b]'(by omega)):=by simp
 generalize xE[b]'(by omega)=bb at zJ;obtain⟨v1,v2,uv,gY,⟨ob,a3,c3,e3,mi,df,pN⟩,gi⟩:=ql.node a ba xa HT lM;subst e3;obtain⟨lb,lo,b6,lH⟩:=sg ql.arr.bR HT;subst b6;have xO:=ql.P3;have acy:¬some g=ob:=fun h=>lr ql.fG (df g h.symm) (by simp) rfl
 have RW:¬some ba=ob:=fun h=>lr gY (df ba h.symm) (by simp) rfl
 have aci:¬some lb=ob:=fun h=>lr xO (df lb h.symm) (by simp) rfl
 have hdG:∀x∈G2.list,x.down.length≤65536∧x.up.length≤65536:=fun x hx=>by
  obtain⟨j,hj⟩:=ej hx;obtain⟨y,h1,_,h2,h3⟩:=lg.get hj;rw[h2,h3];have hl:=hi.len;exact⟨ml y (bF h1),by have:=Cz (hi.lX y (bF h1)) (hi.nA j y h1);omega⟩
 have HX:∀x∈H2.list,x.down.length≤65536∧x.up.length≤65536:=fun x hx=>by
  rcases fD.mem hx with h|rfl
  ·rcases iL.mem h with h|rfl
   ·exact hdG x h
   ·exact⟨by simp,by simp⟩
  ·exact⟨by simp,by simp⟩
 have amu:=(HX xa (bF lM)).1;have am6:=(HX xb (bF fM)).2;refine GC.o5 (aZ [0,3,6,12,21,24,27,33,54,10,15,19,63,66,31,36,40,42,45,48,52,59,62,69,74]) (fun k=>some k=ob) mixed ai ai (go ?_)
 repeat(
  refine go ?_
  first
  |refine GX.read rfl (GO.rQ rfl rfl rfl BB acy (Ext.drew _).mod (by rfl) ?_)
  |refine GX.read rfl (GO.rQ rfl rfl rfl uv RW (Ext.drew _).mod (by rfl) ?_)
  |refine GX.read rfl (GO.uK (lH (a:Int) ah) aci (Ext.drew _).mod rfl rfl rfl ?_)
  |refine GX.pure rfl (GO.indexAddr rfl rfl rfl rfl ah ah rfl ?_)
  |refine GX.pure rfl (GO.lO rfl rfl rfl rfl (by decide) (by decide) rfl ?_))
 refine go ?_;refine GX.CT rfl rfl rfl rfl rfl rfl rfl rfl rfl fun sb w6 sX LM gV=>?_
 refine GX.Bh ((mi.ext (Ext.drew w5)).ext gV) LM.bR (fun k h=>h) rfl rfl rfl rfl rfl rfl rfl (qM [b]) ah ah fun jf a7 c7 w7 qm xZ EA vS=>go ?_
 refine GX.pure rfl (GO.lO rfl rfl rfl rfl (by decide) (by decide) rfl (go ?_));have iK:=(ql.ext (Ext.drew w5)).ext gV;have adv:=((uv.ext (Ext.drew w5)).ext gV).mod xZ RW;refine GX.FY adv (.inr ai) rfl rfl rfl rfl (by rfl) (by rfl) (by rfl) (by rfl) fun w8 DM mW=>go ?_
 obtain⟨rB,ad8,Bz⟩:=iK.agz (b:=b) HT lM gY df pN ((mi.ext (Ext.drew w5)).ext gV) (gi.mod ((Ext.drew w5).trans gV) (fun _ _ h=>h)) qm xZ EA vS DM mW;obtain⟨H3,cF,rB⟩:∃H3:Gr,((H3.list=H2.list.set a { xa with down:=xa.down++[b]}∧H3.cells=H2.cells∧H3.aJ=H2.aJ)∧H3.cL=H2.cL∧H3.dd=H2.dd∧H3.cp=H2.cp∧H3.cT=H2.cT)∧GM w8 g H3 (cM Fz jf (Lb.dn a)) Wt (some ⟨lb,lo,none⟩) Qz Qo Qq xE:=⟨{ H2 with list:=H2.list.set a { xa with down:=xa.down++[b]}},⟨⟨rfl,rfl,rfl⟩,rfl,rfl,rfl,rfl⟩,rB⟩
 have Np:H3.list[b]?=some xb:=by rw[cF.1.1,dH eR];exact fM
 have vY:H3.list.length=H2.list.length:=by rw[cF.1.1];simp
 have HL:=rB.top;obtain⟨u1,u2,ML,Tq,adW,⟨oc,a9,c9,e9,HH,IF,adw⟩⟩:=rB.node b bb xb zJ Np;subst e9;have acE:=rB.P3;obtain⟨lb',lo',L8,ach⟩:=sg rB.arr.bR zJ;cases L8;have acz:¬some g=oc:=fun h=>lr rB.fG (IF g h.symm) (by simp) rfl
 have RX:¬some bb=oc:=fun h=>lr Tq (IF bb h.symm) (by simp) rfl
 have acj:¬some lb=oc:=fun h=>lr acE (IF lb h.symm) (by simp) rfl
 refine GC.o5 (aZ [0,3,6,12,21,24,27,33,54,10,15,19,63,66,31,36,40,42,45,48,52,59,62,69,74]) (fun k=>some k=oc) mixed ai ai (go ?_)
 repeat(
  refine go ?_
  first
  |refine GX.read rfl (GO.rQ rfl rfl rfl HL acz (Ext.drew _).mod (by rfl) ?_)
  |refine GX.read rfl (GO.rQ rfl rfl rfl ML RX (Ext.drew _).mod (by rfl) ?_)
  |refine GX.read rfl (GO.uK (ach (b:Int) ah) acj (Ext.drew _).mod rfl rfl rfl ?_)
  |refine GX.pure rfl (GO.indexAddr rfl rfl rfl rfl ah ah rfl ?_)
  |refine GX.pure rfl (GO.lO rfl rfl rfl rfl (by decide) (by decide) rfl ?_))
 refine go ?_;refine GX.CT rfl rfl rfl rfl rfl rfl rfl rfl rfl fun sb2 w9 am3 acv sN=>?_
 refine GX.Bh ((HH.ext (Ext.drew w8)).ext sN) acv.bR (fun k h=>h) rfl rfl rfl rfl rfl rfl rfl (qM [a]) ah ah fun Wp a10 Qd y4 DV S8 adz acB=>go ?_
 refine GX.pure rfl (GO.lO rfl rfl rfl rfl (by decide) (by decide) rfl (go ?_));have Ly:=(rB.ext (Ext.drew w8)).ext sN;have adu:=((ML.ext (Ext.drew w8)).ext sN).mod S8 RX;refine GX.FY adu (.inr ai) rfl rfl rfl rfl (by rfl) (by rfl) (by rfl) (by rfl) fun Kg acm xX=>go ?_
 obtain⟨zF,ad4,acq⟩:=Ly.agA (b:=a) zJ Np Tq IF adw ((HH.ext (Ext.drew w8)).ext sN) (adW.mod ((Ext.drew w8).trans sN) (fun _ _ h=>h)) DV S8 adz acB acm xX;obtain⟨H4,iU,zF⟩:∃H4:Gr,((H4.list=H3.list.set b { xb with up:=xb.up++[a]}∧H4.cells=H3.cells∧H4.aJ=H3.aJ)∧H4.cL=H3.cL∧H4.dd=H3.dd∧H4.cp=H3.cp∧H4.cT=H3.cT)∧GM Kg g H4 (cM (cM Fz jf (Lb.dn a)) Wp (Lb.up b)) Wt (some ⟨lb,lo,none⟩) Qz Qo Qq xE:=⟨{ H3 with list:=H3.list.set b { xb with up:=xb.up++[a]}},⟨⟨rfl,rfl,rfl⟩,rfl,rfl,rfl,rfl⟩,zF⟩
 have LX:=zF.top;have amM:H4.cp≤65536:=by
  have h1:=hi.cp;have h2:=iU.2.2.2.1;have h3:=cF.2.2.2.1;have h4:=fD.cp;have h5:=iL.cp;omega
 refine go ?_;refine GX.yV LX rfl rfl rfl rfl (by rfl) (by rfl) (by rfl) (by rfl) fun C4 Lq Ev=>go ?_
 have e12:((H4.cp+1:Nat):Int)=(H4.cp:Int)+1:=by omega
 have acp:=zF.Xx H4.cT (H4.cp+1) Ev (by rw[e12];exact Lq);have ad0:w.heap.size≤w3.drew.heap.size:=(rD.ext (Ext.drew w3)).size;have U4:fJ w ow ow4:=(fJ.refl w ow).trans ad5 ad0;have M4:dV ow w w4:=(rD.ext (Ext.drew w3)).trans hM4;have U5:fJ w ow Fz:=U4.trans ad6 M4.size;have M6:dV ow w w6:=((M4.up U4 DT).ext (Ext.drew w5)).ext gV;have U8:fJ w ow (cM Fz jf (Lb.dn a)):=U5.trans ad8 M6.size;have M9:dV ow w w9:=((M6.up U5 Bz).ext (Ext.drew w8)).ext sN;have PL:fJ w ow (cM (cM Fz jf (Lb.dn a)) Wp (Lb.up b)):=U8.trans ad4 M9.size;have YD:dV ow w C4:=(M9.up U8 acq).up PL (dV.own (Mod.refl Kg) zF.fG Ev);have B8:H4.cT=G2.cT:=iU.2.2.2.2.trans (cF.2.2.2.2.trans (fD.nY.trans iL.nY));have adn:H4.cp=G.cp:=iU.2.2.2.1.trans (cF.2.2.2.1.trans (fD.cp.trans (iL.cp.trans lg.cp)));have iB:∀x∈H2.list,x.mark≤G2.cT:=fun x hx=>by
  rcases fD.mem hx with h|rfl
  ·rcases iL.mem h with h|rfl
   ·exact BS x h
   ·exact bh _
  ·exact bh _
 refine⟨⟨true,_,{ H4 with cp:=H4.cp+1},rfl, .new pV pU bG sW hnl ah ah ⟨?_,?_,?_,?_,⟨?_,?_⟩,⟨G2,H1,H2,a,b,lg,BS,iL,fD,eR,⟨xa,xb,lM,fM,?_⟩,B8⟩⟩,?_,?_,⟨_,_,_,_,_,_,_,acp,PL⟩⟩,YD⟩
 ·exact iU.2.1.trans (cF.2.1.trans (fD.cL.trans (iL.cL.trans lg.cL)))
 ·exact iU.2.2.1.trans (cF.2.2.1.trans (fD.dd.trans (iL.dd.trans lg.dd)))
 ·exact iU.1.2.2.trans (cF.1.2.2.trans (fD.aJ.trans (iL.aJ.trans lg.aJ)))
 ·exact congrArg (· + 1) adn
 ·refine adH.aeS ?_ (iU.1.2.1.trans cF.1.2.1) (iU.1.2.2.trans cF.1.2.2);show H4.list.map Nd.key=_;rw[iU.1.1,Xy Np (y:={ xb with up:=xb.up++[a]}) rfl,cF.1.1,Xy lM (y:={ xa with down:=xa.down++[b]}) rfl]
 ·show 8≤H4.cells.length∧H4.cells.length≤2^18;rw[iU.1.2.1,cF.1.2.1];exact acR
 ·show H4.list=_;rw[iU.1.1,cF.1.1]
 ·show H4.cT≤_;rw[B8];exact ER
 ·intro x hx;show x.mark≤H4.cT;rw[B8];have hx:x∈H4.list:=hx;rw[iU.1.1,cF.1.1] at hx
  rcases l4 hx with hx|rfl
  ·rcases l4 hx with hx|rfl
   ·exact iB x hx
   ·exact iB xa (bF lM)
  ·exact iB xb (bF fM)
end Go.Proofs.YtmlpbmgfmnmmmaaGreat.V.M
