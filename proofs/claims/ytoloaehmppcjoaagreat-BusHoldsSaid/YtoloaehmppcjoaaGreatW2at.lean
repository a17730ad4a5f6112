/-
  Parts of the proof. No condition.
-/
import Derived.Test.YtoloaehmppcjoaaGreatW2as
set_option linter.unusedVariables false
set_option linter.unusedSimpArgs false
set_option maxRecDepth 8000
set_option maxHeartbeats 8000000
open Go.Proofs.Tryz
namespace Go.Proofs.YtoloaehmppcjoaaGreat.V.M
section
open Go.RowKit Go.Shelf Go.Sort
attribute [local irreducible] GX GO
theorem akd (a:Option Addr)(cap:Nat)(w:World):aj prog 248 [.slice a (0:Nat) cap].toArray w fun _ w'=>w'=w:=by
 refine aj.Ay ((AnyM.slices_Sort_string_none (ρ:=jJ) XS a cap w).mono ?_);rintro e w' ⟨rfl,rfl⟩;exact⟨_,rfl,rfl⟩
theorem XP (ob:Option Nat)(a:Option Addr)(cap n:Nat)(zs:List Bs)(hn:zs.length=n)(w:World)(hO:aH w 9 1 ob a n cap (aK zs))(di:∀x,a=some x→ob=some x.block)(hz:n≤100000) :
  aj prog 248 [.slice a n cap].toArray w fun _ w'=>aH w' 9 1 ob a n cap (aK (fj zs))∧Mod (fun k=>some k=ob) w w':=by
 cases ho:ob with
 |some g=>
  subst ho;obtain⟨ha,_⟩:=hO.block;subst ha;refine(XT g cap n zs hn w hO ah).mono ?_;rintro v w' ⟨h1,h2⟩;exact⟨h1,h2.weaken fun k _ hk=>by rw[hk]⟩
 |none=>
  subst ho;have ha:a=none:=by
   cases a with
   |none=>rfl
   |some x=>have:=di x rfl;cases this
  subst ha;have h0:n=0:=by
   obtain⟨_,⟨_,_,_,h0⟩|⟨_,h1,_⟩⟩:=hO
   ·exact h0 rfl
   ·cases h1
  subst h0;obtain rfl:=AW.1 hn;refine(akd none cap w).mono ?_;rintro v w' rfl;exact⟨hO,Mod.refl _⟩
def keyOf (L:List Nd)(b:Nat):Bs:=(L[b]?.map (·.key)).getD []
theorem Ch {G:Gr}(h:ir G){n:Nat}{x:Nd}{k:Bs}(hx:G.list[n]?=some x)(hk:x.key=k):gR G k=fj (x.down.map (keyOf G.list)):=by
 have hf:G.list.find? (fun x=>x.key=k)=some x:=by
  cases hf:G.list.find? (fun x=>x.key=k) with
  |none=>
   have:=List.find?_eq_none.1 hf x (bD hx);simp[hk] at this
  |some y=>
   have hy:=List.find?_some hf;simp only[oO] at hy;obtain⟨m,hm⟩:=ey (List.mem_of_find?_eq_some hf);have:=key_inj h hm hx (hy.trans hk.symm);subst this;rw[hm] at hx;exact hx
 unfold gR;rw[hf];rfl
theorem Ji {G:Gr}{k:Bs}(h:k∉G.list.map (·.key)):gR G k=[]:=by
 have hf:G.list.find? (fun x=>x.key=k)=none:=by
  rw[List.find?_eq_none];intro x hx hk;exact h (bG.2 ⟨x,hx,by simpa using hk⟩)
 unfold gR;rw[hf]
theorem afc {w:World}{g:Nat}{G:Gr}{ow:Nat→Option Lb}{ol:Option Nat}{al:Option Addr}{cl cb cc:Nat}{bs:List Nat}(hG:GM w g G ow ol al cl cb cc bs)(hi:xD G)(k:Bs)(hk:k.length<2^40)(hd:∀x∈G.list,x.down.length≤65536) :
  aj prog 332 [ak g,str k, .int .i64 0].toArray w fun v w'=>(∃a c,v = .slice a (gR G k).length c∧iF w w' 9 1 a (gR G k).length c (aK (gR G k)))∧Ext w w':=by
 refine aj.enter func332 rfl ntmps332 rfl (go ?_);refine GX.call (HB hG (by have:=hi.mx;omega)) rfl rfl rfl rfl rfl rfl ?_;rintro _ _ ⟨rfl,rfl⟩;refine go ?_;refine GX.call (xQ hG hi.ok k hk) rfl rfl rfl rfl rfl rfl ?_;rintro _ w1 ⟨⟨z,rfl,hz⟩,cX⟩;have fL:=hG.ext cX;have hT:=fL.top;refine go ?_;refine dq (fun h1=>?_) (fun h1=>?_)<;>refine go ?_
 ·have bz:k∉G.list.map (·.key):=by
   rcases hz with⟨_,h⟩|⟨n,_,h,_⟩
   ·exact h
   ·omega
  rw[Ji bz];exact⟨⟨none,0,rfl,iF.nil _ _ _ _⟩,cX⟩
 obtain⟨n,x,rfl,hx,np⟩:∃(n:Nat) (x:Nd),z=(n:Int)∧G.list[n]?=some x∧x.key=k:=by
  rcases hz with⟨h,_⟩|h
  ·omega
  ·exact h
 have hn:=(aV.1 hx).1;have nj:bs[n]?=some (bs[n]'(by have:=hG.len;omega)):=by simp
 generalize bs[n]'(by have:=hG.len;omega)=b1 at nj;obtain⟨v1,v2,uJ,_,⟨ob,a3,c3,e3,mD,_⟩,_⟩:=fL.node n b1 x nj hx;subst e3;obtain⟨lb,lo,cj,lV⟩:=sH fL.arr.bL nj;subst cj;refine GX.next rfl (GO.indexAddr rfl rfl rfl rfl ah ah rfl ?_);refine GX.lD (lV (n:Int) ah) rfl rfl rfl rfl (go ?_);refine GX.next rfl (GO.l4 rfl rfl rfl rfl (by decide) (by decide) rfl (go ?_));have Mv:=hd x (bD hx);refine GC.bR [0,29,30] (fun s:Nat×Option Nat×Option Addr×Nat=>[(8, .slice s.2.2.1 s.1 s.2.2.2),(31, .int .i64 s.1)])
  (fun s w'=>s.1≤x.down.length∧aH w' 9 1 s.2.1 s.2.2.1 s.1 s.2.2.2 (aK ((x.down.take s.1).map (keyOf G.list)))∧(∀q,s.2.1=some q→w1.heap.size≤q)∧(∀q,s.2.2.1=some q→s.2.1=some q.block)∧Ext w1 w') (fun s=>x.down.length - s.1)
  (0,none,none,0) rfl rfl ⟨bh _,aH.nil _ _ _,(fun _ h=>nomatch h),(fun _ h=>nomatch h),Mod.refl _⟩ ?_
 rintro⟨i,os,sa,sc⟩ w2 ⟨BH,hO,uC,rS,dx⟩;dsimp only at BH hO uC rS ⊢;have gZ:=fL.ext dx;have qO:=gZ.top;refine go ?_;refine dq (fun hc=>?_) (fun hc=>?_)<;>refine go ?_
 ·have aN:i<x.down.length:=by omega
  have Il:x.down[i]?=some x.down[i]:=by simp
  generalize x.down[i]=m at Il;obtain⟨db,d0,hda,HJ⟩:=uZ (mD.ext dx).bL Il;subst hda;refine GX.next rfl (GO.indexAddr rfl rfl rfl rfl ah ah rfl ?_);refine GX.lD (HJ (i:Int) ah) rfl rfl rfl rfl (go ?_);have hm:=hi.down n x hx m (bD Il);have fU:G.list[m]?=some (G.list[m]'hm):=by simp
  generalize G.list[m]'hm=y at fU;have Mm:bs[m]?=some (bs[m]'(by have:=hG.len;omega)):=by simp
  generalize bs[m]'(by have:=hG.len;omega)=b2 at Mm;obtain⟨u1,u2,MV,_⟩:=gZ.node m b2 y Mm fU;obtain⟨lb',lo',Mh,aco⟩:=sH gZ.arr.bL Mm;cases Mh;refine GX.next rfl (GO.indexAddr rfl rfl rfl rfl ah ah rfl ?_);refine GX.lD (aco (m:Int) ah) rfl rfl rfl rfl (go ?_);refine GX.yR rfl rfl rfl rfl rfl rfl rfl rfl rfl fun b7 w7 hb7 qL oZ=>go ?_
  refine GX.append (hO.ext oZ) qL.bL rfl rfl rfl rfl rfl rfl rfl (yU [y.key]) ah ah fun cQ a' c' w8 zH nr Ec Mg=>go ?_
  have Ez:keyOf G.list m=y.key:=by simp[keyOf,fU]
  refine GQ.bj (i+1,cQ,a',c') rfl ⟨aN,?_,fun q hq=>?_,fun q hq=>?_,Lj (dx.trans oZ) uC nr⟩ (by simp only;omega)
  ·rw[gv,Il];simpa[aK,Ez,str,Value.cells] using zH
  ·rcases Ec q hq with h|h
   ·exact uC q h
   ·have:=dx.size;have:=oZ.size;omega
  ·rcases Mg q hq with h|⟨h,h'⟩
   ·exact h
   ·rw[h'];exact rS q h
 have kQ:i=x.down.length:=by omega
 subst kQ;rw[kD] at hO;refine GX.call (XP os sa sc x.down.length (x.down.map (keyOf G.list)) (by simp) _ hO rS ah) rfl rfl rfl rfl rfl rfl ?_;rintro v w3 ⟨acD,x7⟩;refine go ?_;have cV:(gR G k).length=x.down.length:=by rw[Ch hi.ok hx np,(lJ _).length_eq,fH]
 rw[cV];refine⟨⟨sa,sc,rfl,os,?_,fun q hq=>?_,rS⟩,cX.trans (Lj dx uC x7)⟩
 ·rw[Ch hi.ok hx np];exact acD
 ·have:=uC q hq;have:=cX.size;omega
theorem QB {w:World}{g:Nat}{G:Gr}{ow:Nat→Option Lb}{ol:Option Nat}{al:Option Addr}{cl cb cc:Nat}{bs:List Nat}(hG:GM w g G ow ol al cl cb cc bs)(hi:xD G)(k:Bs)(hk:k.length<2^40)(hd:∀x∈G.list,x.down.length≤65536) :
  aj prog 272 [ak g,str k].toArray w fun v w'=>(∃a c,v = .slice a (gR G k).length c∧iF w w' 9 1 a (gR G k).length c (aK (gR G k)))∧Ext w w':=by
 refine aj.enter func272 rfl ntmps272 rfl (go ?_);refine GX.call (afc hG hi k hk hd) rfl rfl rfl rfl rfl rfl ?_;rintro _ w1 ⟨⟨a,c,rfl,hN⟩,cX⟩;refine go ?_;exact⟨⟨a,c,rfl,hN⟩,cX⟩
end
section
attribute [local irreducible] GO GX
theorem Lp {w:World}{g:Nat}{G:Gr}{ow:Nat→Option Lb}{ol:Option Nat}{al:Option Addr}{cl cb cc:Nat}{bs:List Nat}(hG:GM w g G ow ol al cl cb cc bs)(hn:G.cM≠0)(a b:Bs) :
  aj prog 191 [ak g,str a,str b].toArray w fun v w'=>v=iV (if bf a&&bf b then 0 else 2)∧w'=w:=by
 refine aj.enter func191 rfl ntmps191 rfl (go ?_);refine GX.call (HB hG hn) rfl rfl rfl rfl rfl rfl ?_;rintro _ _ ⟨rfl,rfl⟩;refine go ?_;refine GX.call (sr a _) rfl rfl rfl rfl rfl rfl ?_;rintro _ _ ⟨rfl,rfl⟩;refine go ?_;cases ha:bf a with
 |false=>
  refine go ?_;exact⟨rfl,rfl⟩
 |true=>
  refine go ?_;refine GX.call (sr b _) rfl rfl rfl rfl rfl rfl ?_;rintro _ _ ⟨rfl,rfl⟩;refine go ?_;cases hb:bf b with
  |false=>
   refine go ?_;exact⟨rfl,rfl⟩
  |true=>
   refine go ?_;exact⟨rfl,rfl⟩
theorem lF {ow:Nat→Option Lb}{b c:Nat}{p q:Lb}(hb:ow b=some p)(hc:ow c=some q)(h:p≠q):b≠c:=fun e=>by
 subst e;rw[hb] at hc;cases hc;exact h rfl
theorem GM.Xz {w w':World}{g:Nat}{G:Gr}{ow:Nat→Option Lb}{ol:Option Nat}{al:Option Addr}{cl cb cc:Nat}{bs:List Nat}(h:GM w g G ow ol al cl cb cc bs)(s l:Nat)(hm:Mod (· = g) w w')
  (hB:cE w' g [.int .i64 G.cM, .int .i64 G.dg,uV G.aJ, .slice al G.list.length cl, .slice (some ⟨cb,0,none⟩) G.cells.length cc, .int .i64 l, .int .i64 s]):GM w' g { G with cW:=s,cp:=l} ow ol al cl cb cc bs:=by
 have aP:∀{b p},ow b=some p→p ≠ .top→¬b=g:=fun {b p} e hp=>lF e h.fN hp
 refine⟨hB,h.fN,h.arr.mod hm (fun x hx=>?_),h.iT,h.mO,h.jO.mod hm (fun x hx=>?_),h.nD,h.len,fun i b x h1 h2=>(h.node i b x h1 h2).mod hm fun b p e hp=>aP e (by rcases hp with rfl|rfl|rfl<;>simp),fun b hb=>jL (h.lt b hb) hm.size⟩
 ·cases di:ol with
  |none=>rw[h.mO di] at hx;cases hx
  |some b=>
   have ha:=h.arr;rw[di] at ha;rw[ha.block.1] at hx;cases hx;exact aP (h.iT b di) (by simp)
 ·cases hx;exact aP h.nD (by simp)
theorem GM.setNode {w w':World}{g:Nat}{G:Gr}{ow:Nat→Option Lb}{ol:Option Nat}{al:Option Addr}{cl cb cc:Nat}{bs:List Nat}(h:GM w g G ow ol al cl cb cc bs){i b:Nat}{x':Nd}(hb:bs[i]?=some b)(hi:i<G.list.length)(hm:Mod (· = b) w w')(di:ow b=some (.nd i))
  (hN:rI w' ow i b x'):GM w' g { G with list:=G.list.set i x'} ow ol al cl cb cc bs:=by
 have aP:∀{c p},ow c=some p→p ≠ .nd i→¬c=b:=fun {c p} e hp=>lF e di hp
 refine⟨?_,h.fN,?_,h.iT,h.mO,h.jO.mod hm (fun x hx=>?_),h.nD,by simpa using h.len,fun j c x h1 h2=>?_,fun b hb=>jL (h.lt b hb) hm.size⟩
 ·simpa using h.top.mod hm (aP h.fN (by simp))
 ·rw[fQ];refine h.arr.mod hm (fun x hx=>?_);cases di:ol with
  |none=>rw[h.mO di] at hx;cases hx
  |some b=>
   have ha:=h.arr;rw[di] at ha;rw[ha.block.1] at hx;cases hx;exact aP (h.iT b di) (by simp)
 ·cases hx;exact aP h.nD (by simp)
 ·by_cases mH:i=j
  ·subst mH;rw[dE hi] at h2;cases h2;rw[hb] at h1;cases h1;exact hN
  ·rw[dv mH] at h2;exact(h.node j c x h1 h2).mod hm fun d p e hp=>aP e (by
    rcases hp with rfl|rfl|rfl
    ·intro e;cases e;exact mH rfl
    ·simp
    ·simp)
def vk (x:Nd):Bs×List Nat×List Nat:=(x.key,x.down,x.up)
structure dw (G H:Gr):Prop where
 cM:H.cM=G.cM
 dg:H.dg=G.dg
 aJ:H.aJ=G.aJ
 cells:H.cells=G.cells
 cp:H.cp=G.cp
 list:H.list.map vk=G.list.map vk
theorem dw.refl (G:Gr):dw G G:=⟨rfl,rfl,rfl,rfl,rfl,rfl⟩
theorem dw.trans {G H K:Gr}(h:dw G H)(k:dw H K):dw G K:=⟨k.cM.trans h.cM,k.dg.trans h.dg,k.aJ.trans h.aJ,k.cells.trans h.cells,k.cp.trans h.cp,k.list.trans h.list⟩
theorem dw.length {G H:Gr}(h:dw G H):H.list.length=G.list.length:=by
 have:=congrArg List.length h.list;simpa using this
theorem dw.get {G H:Gr}(h:dw G H){i:Nat}{x:Nd}(hx:H.list[i]?=some x):∃y,G.list[i]?=some y∧x.key=y.key∧x.down=y.down∧x.up=y.up:=by
 have h1:(H.list.map vk)[i]?=some (vk x):=by simp[hx]
 rw[h.list,gG] at h1;cases hy:G.list[i]? with
 |none=>rw[hy] at h1;cases h1
 |some y=>
  rw[hy] at h1;simp only[jV,mU,vk,oI] at h1;exact⟨y,rfl,h1.1.symm,h1.2.1.symm,h1.2.2.symm⟩
theorem dw.symm {G H:Gr}(h:dw G H):dw H G:=⟨h.cM.symm,h.dg.symm,h.aJ.symm,h.cells.symm,h.cp.symm,h.list.symm⟩
theorem dw.keys {G H:Gr}(h:dw G H):H.list.map (·.key)=G.list.map (·.key):=by
 have:=congrArg (List.map (fun x:Bs×List Nat×List Nat=>x.1)) h.list;simpa[nK,Function.comp_def,vk] using this
theorem dw.keyOf {G H:Gr}(h:dw G H)(b:Nat):keyOf H.list b=keyOf G.list b:=by
 have:=congrArg (fun l=>(l[b]?).getD []) h.keys;simpa[M.keyOf] using this
theorem dw.eM {G H:Gr}(h:dw G H):fx H.list H.cells=fx G.list G.cells:=by
 rw[h.cells];unfold fx;congr 1;funext n;cases n with
 |zero=>rfl
 |succ m=>
  have:=h.keyOf m;simp only[M.keyOf] at this;simp[this]
theorem dw.fq {G H:Gr}(h:dw G H):M.fq H.list=M.fq G.list:=by
 have key:∀L:List Nd,M.fq L=(L.map (·.key)).zipIdx:=fun L=>by
  rw[List.zipIdx_map];rfl
 rw[key,key,h.keys]
theorem dw.ok {G H:Gr}(h:dw G H)(hG:ir G):ir H:=by
 refine⟨?_,?_,by rw[h.aJ];exact hG.aJ,by rw[h.cells];exact hG.small⟩
 ·rw[h.eM,h.fq,h.aJ];exact hG.eM
 ·rw[h.cells,h.length];exact hG.idx
theorem dw.eZ {G H:Gr}(h:dw G H)(hG:xD G):xD H:=by
 refine⟨h.ok hG.ok,by rw[h.cM];exact hG.mx,fun a x hx b hb=>?_,fun a x hx=>?_⟩
 ·obtain⟨y,h1,_,h2,_⟩:=h.get hx;rw[h.length];exact hG.down a y h1 b (h2▸hb)
 ·obtain⟨y,h1,h2,h3,_⟩:=h.get hx;rw[h2,h3];exact hG.len a y h1
theorem dw.kids {G H:Gr}(h:dw G H)(hG:ir G)(k:Bs):gR H k=gR G k:=by
 by_cases hk:k∈H.list.map (·.key)
 ·obtain⟨x,hx,np⟩:=bG.1 hk;obtain⟨n,hn⟩:=ey hx;obtain⟨y,h1,h2,h3,_⟩:=h.get hn;rw[Ch (h.ok hG) hn np,Ch hG h1 (h2.symm.trans np),h3];congr 1;exact rC fun b _=>h.keyOf b
 ·rw[Ji hk,Ji (by rwa [←h.keys])]
theorem dw.mark {G:Gr}{i:Nat}{x:Nd}(hx:G.list[i]?=some x)(s:Nat):dw G { G with list:=G.list.set i { x with mark:=s}}:=by
 refine⟨rfl,rfl,rfl,rfl,rfl,?_⟩;apply pB;intro j;simp only[gG]
 by_cases mH:i=j
 ·subst mH;rw[dE (aV.1 hx).1,hx];rfl
 ·rw[dv mH]
def Be (G:Gr)(a b:Nat):Prop:=∃x,G.list[a]?=some x∧b∈x.down
inductive Bb (G:Gr) (a:Nat):Nat→Prop where
 |refl:Bb G a a
 |step {b c:Nat}:Bb G a b→Be G b c→Bb G a c
def Ba (G:Gr)(p c:Bs):Prop:=∃(a b d:Nat) (x y:Nd),G.list[a]?=some x∧x.key=p∧Bb G a b∧Be G b d∧G.list[d]?=some y∧y.key=c
theorem dw.step {G H:Gr}(h:dw G H){a b:Nat}(hs:Be H a b):Be G a b:=by
 obtain⟨x,h1,h2⟩:=hs;obtain⟨y,q1,_,q2,_⟩:=h.get h1;exact⟨y,q1,q2▸h2⟩
theorem Kq (f:Nat→Nat):∀{l R:List Nat},l.Nodup→(∀x∈l,x∈R)→(l.map f).sum≤(R.map f).sum
 | [],_,_,_=>bh _
 |x::l,R,hn,hs=>by
  have hx:=hs x oK;rw[eQ] at hn;have ih:=Kq f (l:=l) (R:=R.erase x) hn.2 fun y hy=>by
   have aP:y≠x:=fun e=>hn.1 (e▸hy)
   exact(List.mem_erase_of_ne aP).2 (hs y (fP _ hy))
  have hp:((R.map f).sum)=f x+((R.erase x).map f).sum:=by
   have:=((AY hx).map f).sum_nat;simpa using this
  rw[hp,cJ,List.sum_cons];omega
theorem NW {l:List Nat}{n:Nat}(hn:l.Nodup)(hs:∀x∈l,x<n):l.length≤n:=by
 have h:=Kq (fun _=>1) (l:=l) (R:=List.range n) hn fun x hx=>tY.2 (hs x hx)
 have key:∀l:List Nat,(l.map fun _=>1).sum=l.length:=fun l=>by
  induction l with
  |nil=>rfl
  |cons x l ih=>rw[cJ,List.sum_cons,ih,ek];omega
 rw[key,key,List.length_range] at h;exact h
def jZ (G:Gr):Nat:=((List.range G.list.length).map fun m=>((G.list[m]?).map (·.down.length)).getD 0).sum
def lT (G:Gr)(m:Nat):Nat:=((G.list[m]?).map (·.down.length)).getD 0
theorem Hm {G:Gr}{l:List Nat}(hn:l.Nodup)(hs:∀x∈l,x<G.list.length):(l.map (lT G)).sum≤jZ G:=Kq (lT G) hn fun x hx=>tY.2 (hs x hx)
structure Dd (w0 w:World)(g:Nat)(G H:Gr)(ow:Nat→Option Lb)(ol:Option Nat)(al:Option Addr)(cl cb cc:Nat)(bs:List Nat)(n s:Nat)(line:List Nat)(ob:Option Nat)(a:Option Addr)(ll c:Nat):Prop where
 gm:GM w g H ow ol al cl cb cc bs
 same:dw G H
 oG:H.cW=s
 marks:∀(m:Nat) (x:Nd),H.list[m]?=some x→(x.mark=s↔m∈line)
 Jw:∀(m:Nat) (x:Nd),H.list[m]?=some x→x.mark≤s
 nodup:line.Nodup
 AJ:∀m∈line,m<G.list.length∧Bb G n m
 first:n∈line
 len:line.length=ll
 own:aH w 266 1 ob a ll c (bq (line.map fun m=>bs[m]?.getD 0))
 new:∀q,ob=some q→w0.heap.size≤q
 P1:∀q,a=some q→ob=some q.block
theorem Dd.fresh {w0 w w':World}{g:Nat}{G H:Gr}{ow:Nat→Option Lb}{ol:Option Nat}{al:Option Addr}{cl cb cc:Nat}{bs:List Nat}{n s:Nat}{line:List Nat}{ob:Option Nat}{a:Option Addr}{ll c:Nat}(h:Dd w0 w g G H ow ol al cl cb cc bs n s line ob a ll c)(hm:Ext w w'):Dd w0 w' g G H ow ol al cl cb cc bs n s line ob a ll c:=
 { h with gm:=h.gm.ext hm,own:=h.own.ext hm}
def dZ (ow:Nat→Option Lb)(w w':World):Prop:=Mod (fun b=>ow b≠none) w w'
theorem dZ.ext {ow:Nat→Option Lb}{w w1 w2:World}(h:dZ ow w w1)(hm:Ext w1 w2):dZ ow w w2:=Mod.trans h hm.mod
theorem dZ.own {ow:Nat→Option Lb}{w w1 w2:World}{b:Nat}{p:Lb}(h:dZ ow w w1)(hb:ow b=some p)(hm:Mod (· = b) w1 w2):dZ ow w w2:=Mod.trans h (hm.weaken fun k _ e=>by subst e;rw[hb];simp)
theorem dZ.new {ow:Nat→Option Lb}{w w1 w2:World}{ob:Option Nat}(h:dZ ow w w1)(hb:∀q,ob=some q→w.heap.size≤q)(hm:Mod (fun k=>some k=ob) w1 w2):dZ ow w w2:=Mod.then h hm fun i hi e=>by have:=hb i e.symm;omega
theorem dw.lT {G H:Gr}(h:dw G H)(m:Nat):M.lT H m=M.lT G m:=by
 have h1:(H.list.map vk)[m]?=(G.list.map vk)[m]?:=by rw[h.list]
 have h2:=congrArg (fun o:Option (Bs×List Nat×List Nat)=>(o.map fun x=>x.2.1.length).getD 0) h1;simpa[M.lT,Function.comp_def,vk] using h2
theorem aaY {G:Gr}{line:List Nat}{i m:Nat}(hn:line.Nodup)(hs:∀x∈line,x<G.list.length)(hm:line[i]?=some m):((line.take i).map (lT G)).sum+lT G m≤jZ G:=by
 have aN:=(aV.1 hm).1;have h:=Hm (l:=line.take (i+1)) (hn.sublist (List.take_sublist _ _)) fun x hx=>hs x (List.mem_of_mem_take hx)
 rw[gv,hm] at h;simpa using h
theorem WY {w:World}{g:Nat}{G:Gr}{ow:Nat→Option Lb}{ol:Option Nat}{al:Option Addr}{cl cb cc:Nat}{bs:List Nat}(hG:GM w g G ow ol al cl cb cc bs)(hi:xD G)(hd:∀x∈G.list,x.down.length≤65536)(he:jZ G≤65536)
  (hs:G.cW<2^62) (iO:∀x∈G.list,x.mark≤G.cW) (p c:Bs) (aD:Nat) (rY:aD≤65536) :
  aj prog 193 [ak g,str p,str c, .int .i64 aD].toArray w fun v w'=>
   (∃z n e H,v = .tuple #[.bool z,n,iV e]∧e≠1∧(bf p=true→bf c=true→jZ G≤aD→e=0∧(z=true↔Ba G p c))∧dw G H∧H.cW≤G.cW+1∧(∀x∈H.list,x.mark≤H.cW)∧GM w' g H ow ol al cl cb cc bs)∧dZ ow w w':=by
 refine aj.enter func193 rfl ntmps193 rfl (go ?_);refine GX.da (Lp hG (by have:=hi.mx;omega) p c) rfl rfl rfl rfl rfl rfl (go ?_);cases aU:(bf p&&bf c) with
 |false=>
  refine go ?_;exact⟨⟨false,_,2,G,rfl,by decide,(fun h1 h2=>by rw[h1,h2] at aU;cases aU),dw.refl G,by omega,iO,hG⟩,Mod.refl _⟩
 |true=>
 obtain⟨qh,qg⟩:bf p=true∧bf c=true:=by simpa using aU
 have hp:p.length<2^40:=by have:=dM qh;omega
 have hc:c.length<2^40:=by have:=dM qg;omega
 refine go ?_;refine GX.call (xQ hG hi.ok p hp) rfl rfl rfl rfl rfl rfl ?_;rintro _ w1 ⟨⟨za,rfl,ha⟩,cX⟩;have fL:=hG.ext cX;refine go ?_;refine dq (fun hz=>?_) (fun hz=>?_)<;>refine go ?_
 ·refine⟨⟨false,_,0,G,rfl,by decide,fun _ _ _=>⟨rfl,(fun h=>by cases h),fun h=>?_⟩,dw.refl G,by omega,iO,fL⟩,cX.mod⟩;obtain⟨a,_,_,x,_,q1,q2,_⟩:=h
  rcases ha with⟨_,h⟩|⟨_,_,h,_⟩
  ·exact absurd (bG.2 ⟨x,bD q1,q2⟩) h
  ·omega
 obtain⟨n,x0,rfl,uU,np⟩:∃(n:Nat) (x:Nd),za=(n:Int)∧G.list[n]?=some x∧x.key=p:=by
  rcases ha with⟨h,_⟩|h
  ·omega
  ·exact h
 have hn:=(aV.1 uU).1;have hNs:G.list.length<2^40:=by
  have h1:=hi.ok.eM.room;have h2:=hi.ok.small;simp only[fx,fq,fH,List.length_zipIdx] at h1;omega
 have hT:=fL.top;refine go ?_;refine GX.yT hT rfl rfl rfl rfl (by rfl) (by rfl) (by rfl) (by rfl) fun w2 qI gf=>go ?_
 have gZ:=fL.Xz (G.cW+1) G.cp gf qI;have BC:bs[n]?=some (bs[n]'(by have:=hG.len;omega)):=by simp
 generalize bs[n]'(by have:=hG.len;omega)=b0 at BC;have RS:=gZ.node n b0 x0 BC uU;obtain⟨v1,v2,uJ,ET,eH,gC⟩:=RS;obtain⟨lb,lo,cj,lV⟩:=sH gZ.arr.bL BC;subst cj;refine GC.pv (bg [0,3,6,12,21,24,27,10,15,19,31,33,36,41]) (fun _=>False) mixed ai ai (go ?_);refine GX.pure rfl (GO.indexAddr rfl rfl rfl rfl ah ah rfl ?_);refine GX.read rfl (GO.pe (lV (n:Int) ah) id (Ext.drew _) rfl rfl rfl ?_);refine go ?_;refine GX.F9 (w:=w2.drew) uJ (.inr ai) rfl rfl rfl rfl (by rfl) (by rfl) (by rfl) (by rfl) fun w3 HG x7=>go ?_
 have nW:=(gZ.ext (Ext.drew w2)).setNode (x':={ x0 with mark:=G.cW+1}) BC hn x7 ET
  ⟨v1,v2,HG,ET,(eH.mod (Ext.drew w2) fun _ _ h=>h).mod x7 (fun b hb=>lF hb ET (by simp)),(gC.mod (Ext.drew w2) fun _ _ h=>h).mod x7 (fun b hb=>lF hb ET (by simp))⟩
 have rR:dZ ow w w3:=(((dZ.ext (Mod.refl w) cX).own hG.fN gf).ext (Ext.drew w2)).own ET x7;have ux:=nW.top;obtain⟨lb3,lo3,acN,acp⟩:=sH nW.arr.bL BC;cases acN;refine go ?_;refine GX.next rfl (GO.indexAddr rfl rfl rfl rfl ah (by simpa using hn) rfl ?_);refine GX.lD (acp (n:Int) ah) rfl rfl rfl rfl (go ?_);refine GX.yR rfl rfl rfl rfl rfl rfl rfl rfl rfl fun b4 w4 Mj vY i'=>go ?_
 have L7:dw G { { G with cW:=G.cW+1,cp:=G.cp} with list:=G.list.set n { x0 with mark:=G.cW+1}}:=by
  have:=dw.mark uU (G.cW+1);exact⟨rfl,rfl,rfl,rfl,rfl,this.list⟩
 have jR:w.heap.size≤w3.heap.size:=rR.size;refine GC.bR [0,2,3] (fun s:Nat×Nat×List Nat×Option Nat×Option Addr×Nat×Nat×Gr=>[(13, .int .i64 s.1),(14, .slice s.2.2.2.2.1 s.2.2.2.2.2.2.1 s.2.2.2.2.2.1),(15, .int .i64 s.2.1)])
  (fun s w'=>Dd w w' g G s.2.2.2.2.2.2.2 ow ol (some ⟨lb,lo,none⟩) cl cb cc bs n (G.cW+1) s.2.2.1 s.2.2.2.1 s.2.2.2.2.1 s.2.2.2.2.2.2.1 s.2.2.2.2.2.1∧s.2.1≤s.2.2.2.2.2.2.1∧s.1=((s.2.2.1.take s.2.1).map (lT G)).sum ∧
    (∀(j m:Nat),j<s.2.1→s.2.2.1[j]?=some m→∀d,Be G m d→d∈s.2.2.1∧keyOf G.list d≠c)∧dZ ow w w') (fun s=>G.list.length - s.2.1)
  (0,0,[n],some b4,some ⟨b4,0,none⟩,1,1,_) rfl rfl ⟨⟨nW.ext i',L7,rfl,fun m x hx=>?_,fun m x hx=>?_,by simp,fun m hm=>?_,by simp,rfl,?_,fun q hq=>?_,fun q hq=>?_⟩,by simp,rfl,(fun j m h=>absurd h (Nat.not_lt_zero _)),rR.ext i'⟩ ?_
 ·by_cases nu:m=n
  ·subst nu;rw[dE hn] at hx;cases hx;simp
  ·rw[dv (fun e=>nu e.symm)] at hx;have:=iO x (bD hx);simp[nu];omega
 ·by_cases nu:m=n
  ·subst nu;rw[dE hn] at hx;cases hx;exact aY _
  ·rw[dv (fun e=>nu e.symm)] at hx;have:=iO x (bD hx);omega
 ·simp at hm;subst hm;exact⟨hn, .refl⟩
 ·simpa[BC,bq,ak,Value.cells] using vY
 ·cases hq;omega
 ·cases hq;rfl
 rintro⟨looked,i,line,ob,a,cap,ll,H⟩ w5 ⟨hI,eY,qV,Ii,DW⟩;dsimp only at hI eY qV Ii ⊢;have amK:ll≤G.list.length:=hI.len▸NW hI.nodup fun z hz=>(hI.AJ z hz).1
 refine go ?_;refine dq (fun hc5=>?_) (fun hc5=>?_)<;>refine go ?_
 rotate_left
 ·have BI:i=line.length:=by have:=hI.len;omega
  refine⟨⟨false,_,0,H,rfl,by decide,fun _ _ _=>⟨rfl,(fun h=>by cases h),fun h=>?_⟩,hI.same,by have:=hI.oG;omega,fun x hx=>?_,hI.gm⟩,DW⟩
  ·obtain⟨a',b',d',x,y,q1,q2,q3,q4,q5,q6⟩:=h;obtain rfl:=key_inj hi.ok q1 uU (q2.trans np.symm);have jd:∀m,Bb G a' m→m∈line:=by
    intro m hm
    induction hm with
    |refl=>exact hI.first
    |step _ dp ih=>
     obtain⟨j,hj⟩:=ey ih;exact(Ii j _ (by have:=(aV.1 hj).1;omega) hj _ dp).1
   obtain⟨j,hj⟩:=ey (jd b' q3);have:=(Ii j _ (by have:=(aV.1 hj).1;omega) hj _ q4).2;simp[keyOf,q5,q6] at this
  ·obtain⟨m,hm⟩:=ey hx;rw[hI.oG];exact hI.Jw m x hm
 have SO:i<line.length:=by have:=hI.len;omega
 have BO:line[i]?=some (line[i]'SO):=by simp
 generalize line[i]'SO=m at BO;obtain⟨uI,Ta⟩:=hI.AJ m (bD BO);have tv:=hI.same.length;have wE:H.list[m]?=some (H.list[m]'(by omega)):=by simp
 generalize H.list[m]'(by omega)=x at wE;obtain⟨xg,Fe,eS,Ca,_⟩:=hI.same.get wE;have nj:bs[m]?=some (bs[m]'(by have:=hG.len;omega)):=by simp
 generalize bs[m]'(by have:=hG.len;omega)=bm at nj;obtain⟨u1,u2,hmB,_⟩:=hI.gm.node m bm x nj wE;have jc:(line.map fun m=>bs[m]?.getD 0)[i]?=some bm:=by simp[BO,nj]
 obtain⟨qb,qo,hqa,hqA⟩:=sH hI.own.bL jc;subst hqa;refine GX.next rfl (GO.indexAddr rfl rfl rfl rfl ah ah rfl ?_);refine GX.lD (hqA (i:Int) ah) rfl rfl rfl rfl (go ?_);have SP:=hI.same.eZ hi;have Ib:∀z∈H.list,z.down.length≤65536:=fun z hz=>by
  obtain⟨j,hj⟩:=ey hz;obtain⟨y,q1,_,q2,_⟩:=hI.same.get hj;rw[q2];exact hd y (bD q1)
 refine GX.call (QB hI.gm SP x.key (SP.len m x wE).2 Ib) rfl rfl rfl rfl rfl rfl ?_;rintro _ w6 ⟨⟨ka,kc,rfl,hK⟩,iv⟩;rw[hI.same.kids hi.ok] at hK ⊢;have MK:gR G x.key=fj (x.down.map (keyOf G.list)):=by rw[Ca];exact Ch hi.ok Fe eS.symm
 have cV:(gR G x.key).length=lT G m:=by rw[MK,(lJ _).length_eq,fH,Ca];simp[lT,Fe]
 have hbound:=aaY hI.nodup (fun z hz=>(hI.AJ z hz).1) BO;rw[←qV,←cV] at hbound;have adt:∀k'∈gR G x.key,∃d,Be G m d∧keyOf G.list d=k':=fun k' dR=>by
  rw[MK] at dR;obtain⟨d,h1,h2⟩:=bG.1 ((lJ _).mem_iff.1 dR);exact⟨d,⟨xg,Fe,Ca▸h1⟩,h2⟩
 have ad8:w.heap.size≤w5.heap.size:=DW.size;have mI:∀q,ka=some q→ob≠some q.block:=fun q hq e=>by
  have h1:=hK.new hq;have h2:=hI.own;rw[e] at h2;have:=h2.block.2;omega
 have hkw:∀q,ka=some q→w5.heap.size≤q.block:=fun q hq=>hK.new hq
 refine go ?_;refine GC.bR [0,2,3,15,75,76] (fun s:Nat×Nat×List Nat×Option Nat×Option Addr×Nat×Nat×Gr=>[(13, .int .i64 s.1),(14, .slice s.2.2.2.2.1 s.2.2.2.2.2.2.1 s.2.2.2.2.2.1),(77, .int .i64 s.2.1)])
  (fun s w'=>Dd w w' g G s.2.2.2.2.2.2.2 ow ol (some ⟨lb,lo,none⟩) cl cb cc bs n (G.cW+1) s.2.2.1 s.2.2.2.1 s.2.2.2.2.1 s.2.2.2.2.2.2.1 s.2.2.2.2.2.1∧s.2.1≤(gR G x.key).length∧s.1=looked+s.2.1∧(∃more,s.2.2.1=line++more) ∧
    (∀k'∈(gR G x.key).take s.2.1,k'≠c∧∃d∈s.2.2.1,keyOf G.list d=k')∧bN w' ka (aK (gR G x.key))∧(∀q,ka=some q→s.2.2.2.1≠some q.block)∧dZ ow w w') (fun s=>(gR G x.key).length - s.2.1)
  (looked,0,line,ob,some ⟨qb,qo,none⟩,cap,ll,H) rfl rfl ⟨hI.fresh iv,bh _,rfl,⟨[],by simp⟩,by simp,hK.bL,mI,DW.ext iv⟩ ?_
 rintro⟨lk,t,tF,cQ,a',Qm,Jr,H'⟩ w7 ⟨iw,ht,S6,⟨more,zT⟩,Iy,LN,Iw,HN⟩;dsimp only at iw ht S6 zT Iy Iw ⊢;have amJ:Jr≤G.list.length:=iw.len▸NW iw.nodup fun z hz=>(iw.AJ z hz).1
 refine go ?_;refine dq (fun hc6=>?_) (fun hc6=>?_)<;>refine go ?_
 rotate_left
 ·have yj:t=(gR G x.key).length:=by omega
  subst yj;rw[kD] at Iy;have amE:=iw.len;have lA:tF.length=line.length+more.length:=by rw[zT,bH]
  have wm:=NW iw.nodup fun z hz=>(iw.AJ z hz).1
  refine GQ.bj (lk,i+1,tF,cQ,a',Qm,Jr,H') rfl ⟨iw,by simp only;omega,?_,fun j z hj hz d jQ=>?_,HN⟩ (by simp only;omega)
  ·have e1:tF.take (i+1)=line.take (i+1):=by rw[zT,vt ah]
   simp only;rw[e1,gv,BO,S6,qV,cV];simp
  ·simp only at hj hz ⊢;have lZ:line[j]?=some z:=by
    rw[zT,gp ah] at hz;exact hz
   by_cases gB:j=i
   ·subst gB;rw[BO] at lZ;cases lZ;obtain⟨y,q1,q2⟩:=jQ;rw[Fe] at q1;cases q1;have Ek:=hi.down m xg Fe d q2;have uG:keyOf G.list d∈gR G x.key:=by
     rw[MK,(lJ _).mem_iff];exact bG.2 ⟨d,Ca▸q2,rfl⟩
    obtain⟨h1,d',h2,h3⟩:=Iy _ uG;have ac9:=(iw.AJ d' h2).1;have e1:G.list[d]?=some (G.list[d]'Ek):=by simp
    have e2:G.list[d']?=some (G.list[d']'ac9):=by simp
    have:d'=d:=key_inj hi.ok e2 e1 (by simpa[keyOf,e1,e2] using h3);subst this;exact⟨h2,h1⟩
   ·obtain⟨h1,h2⟩:=Ii j z ah lZ d jQ;exact⟨by rw[zT];exact tZ _ h1,h2⟩
 have aN:t<(gR G x.key).length:=by omega
 have BM:(gR G x.key)[t]?=some ((gR G x.key)[t]'aN):=by simp
 have SZ:=pI aN;obtain⟨kb,ko,uE,SX⟩:=Gc LN aN;subst uE;generalize (gR G x.key)[t]'aN=k' at BM SZ SX;obtain⟨d,Mr,Ih⟩:=adt k' SZ;have Ek:d<G.list.length:=by obtain⟨y,q1,q2⟩:=Mr;exact hi.down m y q1 d q2
 refine GX.next rfl (GO.indexAddr rfl rfl rfl rfl ah ah rfl ?_);refine GX.lD (SX (t:Int) ah) rfl rfl rfl rfl (go ?_);refine dq (fun adA=>?_) (fun adA=>?_)<;>refine go ?_
 ·exact⟨⟨false,_,7,H',rfl,by decide,(fun _ _ hle=>by omega),iw.same,by have:=iw.oG;omega,(fun z hz=>by obtain⟨j,hj⟩:=ey hz;rw[iw.oG];exact iw.Jw j z hj),iw.gm⟩,HN⟩
 refine dq (fun E9=>?_) (fun E9=>?_)<;>refine go ?_
 ·subst E9;have e1:G.list[d]?=some (G.list[d]'Ek):=by simp
  exact⟨⟨true,_,0,H',rfl,by decide,(fun _ _ _=>⟨rfl,fun _=>⟨n,m,d,x0,_,uU,np,Ta,Mr,e1,by simpa[keyOf,e1] using Ih⟩,fun _=>rfl⟩),iw.same,by have:=iw.oG;omega,(fun z hz=>by obtain⟨j,hj⟩:=ey hz;rw[iw.oG];exact iw.Jw j z hj),iw.gm⟩,HN⟩
 have hT7:=iw.gm.top;refine GC.pv (bg [0,3,6,12,15,10,20,21,25,27]) (fun _=>False) mixed ai ai (go ?_);have adq:k'.length<2^40:=by
  rw[←Ih];have e1:G.list[d]?=some (G.list[d]'Ek):=by simp
  simp only[keyOf,e1,jV,oN];exact(hi.len d _ e1).2
 refine GX.Dp (xQ (iw.gm.ext (Ext.drew w7)) (iw.same.ok hi.ok) k' adq) (fun _ _ h=>h.2) rfl rfl rfl rfl rfl rfl ?_;rintro _ w8 ⟨⟨zd,rfl,yr⟩,vR⟩;have aml:=iw.same.length;have yp:H'.list[d]?=some (H'.list[d]'(by omega)):=by simp
 generalize H'.list[d]'(by omega)=y at yp;obtain⟨yg,hyg,Fg,_⟩:=iw.same.get yp;have T3:y.key=k':=by rw[Fg,←Ih];simp[keyOf,hyg]
 obtain rfl:zd=(d:Int):=by
  rcases yr with⟨_,h⟩|⟨d2,y2,rfl,h1,h2⟩
  ·exact absurd (bG.2 ⟨y,bD yp,T3⟩) h
  ·rw[key_inj (iw.same.ok hi.ok) h1 yp (h2.trans T3.symm)]
 have tw:bs[d]?=some (bs[d]'(by have:=hG.len;omega)):=by simp
 generalize bs[d]'(by have:=hG.len;omega)=bd at tw;obtain⟨lb7,lo7,wb,acq⟩:=sH iw.gm.arr.bL tw;cases wb;refine go ?_;refine GX.pure rfl (GO.indexAddr rfl rfl rfl rfl ah ah rfl ?_);refine GX.read rfl (GO.pe (acq (d:Int) ah) id ((Ext.drew w7).trans vR) rfl rfl rfl ?_);refine go ?_;have vU:=(iw.fresh (Ext.drew w7)).fresh vR;have HS:=vU.gm.top;obtain⟨y1,y2,hyB,Cc,aen,aeo⟩:=vU.gm.node d bd y tw yp;refine GC.pv (bg [0,3,6,12,15,18,10,22,24]) (fun _=>False) mixed ai ai (go ?_);have Fb:∀q,cQ=some q→w.heap.size≤q:=vU.new;have Bz:dZ ow w w8:=(HN.ext (Ext.drew w7)).ext vR;have RN:=(LN.ext (Ext.drew w7)).ext vR;have rf:∀(l':List Nat),(∀z∈tF,z∈l')→d∈l'→∀u∈(gR G x.key).take (t+1),u≠c∧∃d∈l',keyOf G.list d=u:=fun l' hl' mG u hu=>by
  rw[gv,BM] at hu
  rcases cx.1 hu with hu|hu
  ·obtain⟨h1,d1,h2,h3⟩:=Iy u hu;exact⟨h1,d1,hl' d1 h2,h3⟩
  ·simp at hu;subst hu;exact⟨E9,d,mG,Ih⟩
 refine dq (fun adz=>?_) (fun adz=>?_)<;>refine go ?_
 rotate_left
 ·have mG:d∈tF:=(vU.marks d y yp).1 (by have:=vU.oG;omega);exact GQ.bj (lk+1,t+1,tF,cQ,a',Qm,Jr,H') rfl ⟨(vU.fresh (Ext.drew w8)),by simp only;omega,by simp only;omega,⟨more,zT⟩,rf tF (fun _ h=>h) mG,RN.ext (Ext.drew w8),Iw,Bz.ext (Ext.drew w8)⟩ (by simp only;omega)
 have hnl:d∉tF:=fun h=>by
  have:=(vU.marks d y yp).2 h;have:=vU.oG;omega
 have pX:=vU.fresh (Ext.drew w8);have hTd:=HS.ext (Ext.drew w8);have ael:=hyB.ext (Ext.drew w8);refine go ?_;refine GX.yT ael rfl rfl rfl rfl (by rfl) (by rfl) (by rfl) (by rfl) fun w9 HH zQ=>go ?_
 have LI:=pX.gm.setNode (x':={ y with mark:=H'.cW}) tw ah zQ Cc
  ⟨y1,y2,HH,Cc,(aen.mod (Ext.drew w8) fun _ _ h=>h).mod zQ (fun b hb=>lF hb Cc (by simp)),(aeo.mod (Ext.drew w8) fun _ _ h=>h).mod zQ (fun b hb=>lF hb Cc (by simp))⟩
 have RR:dZ ow w w9:=(Bz.ext (Ext.drew w8)).own Cc zQ;have amo:bd<w.heap.size:=hG.lt bd (by rw[Cc];simp);have HO:=pX.own.mod zQ (fun q hq e=>by
  have h1:=pX.P1 q hq;have:=Fb _ h1;omega)
 refine GX.yR rfl rfl rfl rfl rfl rfl rfl rfl rfl fun b10 yZ amn DY rO=>go ?_
 refine GX.append (HO.ext rO) DY.bL rfl rfl rfl rfl rfl rfl rfl (CH [bd]) ah ah fun aht YP ZG Kv LR x6 Sh acJ=>go ?_
 have adM:∀q,cQ=some q→w.heap.size≤q:=Fb;have amQ:∀{b p},ow b=some p→¬some b=cQ:=fun {b p} e h=>by
  have:=Fb b h.symm;have:=hG.lt b (by rw[e];simp);omega
 have zF:=(LI.ext rO).mod x6 (fun b hb h=>by
  have:=Fb b h.symm;have:=hG.lt b hb;omega)
 have am0:w.heap.size≤w9.heap.size:=RR.size;have amA:w.heap.size≤kb:=dF ad8 (hkw ⟨kb,ko,none⟩ rfl);refine GQ.bj (lk+1,t+1,tF++[d],aht,YP,ZG,Jr+1,_) rfl ⟨⟨zF,?_,pX.oG,fun z u hu=>?_,fun z u hu=>?_,?_,fun z hz=>?_,tZ _ pX.first,by simp[pX.len],?_,fun q hq=>?_,fun q hq=>?_⟩,by simp only;omega,by simp only;omega,⟨more++[d],by simp[zT]⟩,rf _ (fun z hz=>tZ _ hz) (by simp),?_,fun q hq=>?_,(RR.ext rO).new adM x6⟩ (by simp only;omega)
 ·exact pX.same.trans (dw.mark yp _)
 ·by_cases yr:z=d
  ·subst yr;rw[dE ah] at hu;cases hu;simp[pX.oG]
  ·rw[dv (fun e=>yr e.symm)] at hu;rw[pX.marks z u hu];simp[yr]
 ·by_cases yr:z=d
  ·subst yr;rw[dE ah] at hu;cases hu;simp[pX.oG]
  ·rw[dv (fun e=>yr e.symm)] at hu;exact pX.Jw z u hu
 ·rw[ga];exact⟨pX.nodup,by simp,fun z hz u hu e=>by simp at hu;subst hu;subst e;exact hnl hz⟩
 ·rcases cx.1 hz with hz|hz
  ·exact pX.AJ z hz
  ·simp at hz;subst hz;exact⟨Ek,Ta.step Mr⟩
 ·have e1:((tF++[d]).map fun m=>bs[m]?.getD 0)=(tF.map fun m=>bs[m]?.getD 0)++[bd]:=by simp[tw]
  rw[e1];simpa[bq,ak,Value.cells] using LR
 ·rcases Sh q hq with h|h
  ·exact Fb q h
  ·have:=rO.size;omega
 ·rcases acJ q hq with h|⟨h,h'⟩
  ·exact h
  ·rw[h'];exact pX.P1 q h
 ·have h1:=((RN.ext (Ext.drew w8)).mod zQ (fun q hq e=>by cases hq;have e':kb=bd:=e;omega)).ext rO;exact h1.mod x6 (fun q hq e=>Iw q hq e.symm)
 ·cases hq;rintro h
  rcases Sh _ h with h'|h'
  ·exact Iw _ rfl h'
  ·obtain⟨rT,_⟩:kb<w7.heap.size∧True:=by
    have h3:0<(gR G x.key).length:=by omega
    obtain⟨b',o',e',rN⟩:=Hn LN (i:=t) (by simpa using aN);cases e';have:=rN (t:Int) rfl 0 _ rfl;exact⟨block_lt_of_cell this,trivial⟩
   have:=rO.size;have:=zQ.size;have:=vR.size;have h5:w7.drew.heap.size=w7.heap.size:=rfl;have h6:w8.drew.heap.size=w8.heap.size:=rfl;simp only at h';omega
end
end Go.Proofs.YtoloaehmppcjoaaGreat.V.M
