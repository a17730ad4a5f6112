/-
  Parts of the proof. No condition.
-/
import Derived.Test.YtmlpbmgfmnmmmaaGreatW2at
set_option linter.unusedVariables false
set_option linter.unusedSimpArgs false
set_option maxRecDepth 8000
set_option maxHeartbeats 8000000
open Go.Proofs.Tryz
namespace Go.Proofs.YtmlpbmgfmnmmmaaGreat.V.M
section
open Go.RowKit Go.Shelf Go.Sort
attribute [local irreducible] GX GO
theorem akl (a:Option Addr)(cap:Nat)(w:World):aj prog 220 [.slice a (0:Nat) cap].toArray w fun _ w'=>w'=w:=by
 refine aj.Az ((AnyM.slices_Sort_string_none (ρ:=jq) XR a cap w).mono ?_);rintro e w' ⟨rfl,rfl⟩;exact⟨_,rfl,rfl⟩
theorem XO (ob:Option Nat)(a:Option Addr)(cap n:Nat)(zs:List Bs)(hn:zs.length=n)(w:World)(hO:aG w 9 1 ob a n cap (aM zs))(df:∀x,a=some x→ob=some x.block)(hz:n≤100000) :
  aj prog 220 [.slice a n cap].toArray w fun _ w'=>aG w' 9 1 ob a n cap (aM (fj zs))∧Mod (fun k=>some k=ob) w w':=by
 cases ho:ob with
 |some g=>
  subst ho;obtain⟨ha,_⟩:=hO.block;subst ha;refine(XS g cap n zs hn w hO ah).mono ?_;rintro v w' ⟨h1,h2⟩;exact⟨h1,h2.weaken fun k _ hk=>by rw[hk]⟩
 |none=>
  subst ho;have ha:a=none:=by
   cases a with
   |none=>rfl
   |some x=>have:=df x rfl;cases this
  subst ha;have h0:n=0:=by
   obtain⟨_,⟨_,_,_,h0⟩|⟨_,h1,_⟩⟩:=hO
   ·exact h0 rfl
   ·cases h1
  subst h0;obtain rfl:=AX.1 hn;refine(akl none cap w).mono ?_;rintro v w' rfl;exact⟨hO,Mod.refl _⟩
def keyOf (L:List Nd)(b:Nat):Bs:=(L[b]?.map (·.key)).getD []
theorem Ck {G:Gr}(h:gS G){n:Nat}{x:Nd}{k:Bs}(hx:G.list[n]?=some x)(hk:x.key=k):gF G k=fj (x.down.map (keyOf G.list)):=by
 have hf:G.list.find? (fun x=>x.key=k)=some x:=by
  cases hf:G.list.find? (fun x=>x.key=k) with
  |none=>
   have:=List.find?_eq_none.1 hf x (bF hx);simp[hk] at this
  |some y=>
   have hy:=List.find?_some hf;simp only[mE] at hy;obtain⟨m,hm⟩:=ej (List.mem_of_find?_eq_some hf);have:=key_inj h hm hx (hy.trans hk.symm);subst this;rw[hm] at hx;exact hx
 unfold gF;rw[hf];rfl
theorem I7 {G:Gr}{k:Bs}(h:k∉G.list.map (·.key)):gF G k=[]:=by
 have hf:G.list.find? (fun x=>x.key=k)=none:=by
  rw[List.find?_eq_none];intro x hx hk;exact h (bK.2 ⟨x,hx,by simpa using hk⟩)
 unfold gF;rw[hf]
theorem ae5 {w:World}{g:Nat}{G:Gr}{ow:Nat→Option Lb}{ol:Option Nat}{al:Option Addr}{cl cb cc:Nat}{bs:List Nat}(hG:GM w g G ow ol al cl cb cc bs)(hi:xx G)(k:Bs)(hk:k.length<2^40)(hd:∀x∈G.list,x.down.length≤65536) :
  aj prog 300 [ak g,str k, .int .i64 0].toArray w fun v w'=>(∃a c,v = .slice a (gF G k).length c∧ij w w' 9 1 a (gF G k).length c (aM (gF G k)))∧Ext w w':=by
 refine aj.enter func300 rfl ntmps300 rfl (go ?_);refine GX.call (Hx hG (by have:=hi.mx;omega)) rfl rfl rfl rfl rfl rfl ?_;rintro _ _ ⟨rfl,rfl⟩;refine go ?_;refine GX.call (xK hG hi.ok k hk) rfl rfl rfl rfl rfl rfl ?_;rintro _ w1 ⟨⟨z,rfl,hz⟩,cW⟩;have fC:=hG.ext cW;have hT:=fC.top;refine go ?_;refine dj (fun h1=>?_) (fun h1=>?_)<;>refine go ?_
 ·have bG:k∉G.list.map (·.key):=by
   rcases hz with⟨_,h⟩|⟨n,_,h,_⟩
   ·exact h
   ·omega
  rw[I7 bG];exact⟨⟨none,0,rfl,ij.nil _ _ _ _⟩,cW⟩
 obtain⟨n,x,rfl,hx,mV⟩:∃(n:Nat) (x:Nd),z=(n:Int)∧G.list[n]?=some x∧x.key=k:=by
  rcases hz with⟨h,_⟩|h
  ·omega
  ·exact h
 have hn:=(aV.1 hx).1;have mT:bs[n]?=some (bs[n]'(by have:=hG.len;omega)):=by simp
 generalize bs[n]'(by have:=hG.len;omega)=b1 at mT;obtain⟨v1,v2,uv,_,⟨ob,a3,c3,e3,mi,_⟩,_⟩:=fC.node n b1 x mT hx;subst e3;obtain⟨lb,lo,b6,lH⟩:=sg fC.arr.bR mT;subst b6;refine GX.next rfl (GO.indexAddr rfl rfl rfl rfl ah ah rfl ?_);refine GX.lj (lH (n:Int) ah) rfl rfl rfl rfl (go ?_);refine GX.next rfl (GO.lO rfl rfl rfl rfl (by decide) (by decide) rfl (go ?_));have zL:=hd x (bF hx);refine GC.bP [0,29,30] (fun s:Nat×Option Nat×Option Addr×Nat=>[(8, .slice s.2.2.1 s.1 s.2.2.2),(31, .int .i64 s.1)])
  (fun s w'=>s.1≤x.down.length∧aG w' 9 1 s.2.1 s.2.2.1 s.1 s.2.2.2 (aM ((x.down.take s.1).map (keyOf G.list)))∧(∀q,s.2.1=some q→w1.heap.size≤q)∧(∀q,s.2.2.1=some q→s.2.1=some q.block)∧Ext w1 w') (fun s=>x.down.length - s.1)
  (0,none,none,0) rfl rfl ⟨bh _,aG.nil _ _ _,(fun _ h=>nomatch h),(fun _ h=>nomatch h),Mod.refl _⟩ ?_
 rintro⟨i,os,sa,sc⟩ w2 ⟨BJ,hO,uj,xS,di⟩;dsimp only at BJ hO uj xS ⊢;have gN:=fC.ext di;have qq:=gN.top;refine go ?_;refine dj (fun hc=>?_) (fun hc=>?_)<;>refine go ?_
 ·have aP:i<x.down.length:=by omega
  have Ia:x.down[i]?=some x.down[i]:=by simp
  generalize x.down[i]=m at Ia;obtain⟨db,d0,hda,HD⟩:=uJ (mi.ext di).bR Ia;subst hda;refine GX.next rfl (GO.indexAddr rfl rfl rfl rfl ah ah rfl ?_);refine GX.lj (HD (i:Int) ah) rfl rfl rfl rfl (go ?_);have hm:=hi.down n x hx m (bF Ia);have fK:G.list[m]?=some (G.list[m]'hm):=by simp
  generalize G.list[m]'hm=y at fK;have Md:bs[m]?=some (bs[m]'(by have:=hG.len;omega)):=by simp
  generalize bs[m]'(by have:=hG.len;omega)=b2 at Md;obtain⟨u1,u2,ML,_⟩:=gN.node m b2 y Md fK;obtain⟨lb',lo',L8,ace⟩:=sg gN.arr.bR Md;cases L8;refine GX.next rfl (GO.indexAddr rfl rfl rfl rfl ah ah rfl ?_);refine GX.lj (ace (m:Int) ah) rfl rfl rfl rfl (go ?_);refine GX.yS rfl rfl rfl rfl rfl rfl rfl rfl rfl fun b7 w7 hb7 qm oI=>go ?_
  refine GX.append (hO.ext oI) qm.bR rfl rfl rfl rfl rfl rfl rfl (yW [y.key]) ah ah fun cO a' c' w8 zH mW Ma L7=>go ?_
  have Eo:keyOf G.list m=y.key:=by simp[keyOf,fK]
  refine GQ.br (i+1,cO,a',c') rfl ⟨aP,?_,fun q hq=>?_,fun q hq=>?_,K6 (di.trans oI) uj mW⟩ (by simp only;omega)
  ·rw[ic,Ia];simpa[aM,Eo,str,Value.cells] using zH
  ·rcases Ma q hq with h|h
   ·exact uj q h
   ·have:=di.size;have:=oI.size;omega
  ·rcases L7 q hq with h|⟨h,h'⟩
   ·exact h
   ·rw[h'];exact xS q h
 have kB:i=x.down.length:=by omega
 subst kB;rw[j5] at hO;refine GX.call (XO os sa sc x.down.length (x.down.map (keyOf G.list)) (by simp) _ hO xS ah) rfl rfl rfl rfl rfl rfl ?_;rintro v w3 ⟨acu,xY⟩;refine go ?_;have cQ:(gF G k).length=x.down.length:=by rw[Ck hi.ok hx mV,(lV _).length_eq,fk]
 rw[cQ];refine⟨⟨sa,sc,rfl,os,?_,fun q hq=>?_,xS⟩,cW.trans (K6 di uj xY)⟩
 ·rw[Ck hi.ok hx mV];exact acu
 ·have:=uj q hq;have:=cW.size;omega
theorem Qx {w:World}{g:Nat}{G:Gr}{ow:Nat→Option Lb}{ol:Option Nat}{al:Option Addr}{cl cb cc:Nat}{bs:List Nat}(hG:GM w g G ow ol al cl cb cc bs)(hi:xx G)(k:Bs)(hk:k.length<2^40)(hd:∀x∈G.list,x.down.length≤65536) :
  aj prog 244 [ak g,str k].toArray w fun v w'=>(∃a c,v = .slice a (gF G k).length c∧ij w w' 9 1 a (gF G k).length c (aM (gF G k)))∧Ext w w':=by
 refine aj.enter func244 rfl ntmps244 rfl (go ?_);refine GX.call (ae5 hG hi k hk hd) rfl rfl rfl rfl rfl rfl ?_;rintro _ w1 ⟨⟨a,c,rfl,hN⟩,cW⟩;refine go ?_;exact⟨⟨a,c,rfl,hN⟩,cW⟩
end
section
attribute [local irreducible] GO GX
theorem Lg {w:World}{g:Nat}{G:Gr}{ow:Nat→Option Lb}{ol:Option Nat}{al:Option Addr}{cl cb cc:Nat}{bs:List Nat}(hG:GM w g G ow ol al cl cb cc bs)(hn:G.cL≠0)(a b:Bs) :
  aj prog 166 [ak g,str a,str b].toArray w fun v w'=>v=iV (if bI a&&bI b then 0 else 2)∧w'=w:=by
 refine aj.enter func166 rfl ntmps166 rfl (go ?_);refine GX.call (Hx hG hn) rfl rfl rfl rfl rfl rfl ?_;rintro _ _ ⟨rfl,rfl⟩;refine go ?_;refine GX.call (rO a _) rfl rfl rfl rfl rfl rfl ?_;rintro _ _ ⟨rfl,rfl⟩;refine go ?_;cases ha:bI a with
 |false=>
  refine go ?_;exact⟨rfl,rfl⟩
 |true=>
  refine go ?_;refine GX.call (rO b _) rfl rfl rfl rfl rfl rfl ?_;rintro _ _ ⟨rfl,rfl⟩;refine go ?_;cases hb:bI b with
  |false=>
   refine go ?_;exact⟨rfl,rfl⟩
  |true=>
   refine go ?_;exact⟨rfl,rfl⟩
theorem lr {ow:Nat→Option Lb}{b c:Nat}{p q:Lb}(hb:ow b=some p)(hc:ow c=some q)(h:p≠q):b≠c:=fun e=>by
 subst e;rw[hb] at hc;cases hc;exact h rfl
theorem GM.Xx {w w':World}{g:Nat}{G:Gr}{ow:Nat→Option Lb}{ol:Option Nat}{al:Option Addr}{cl cb cc:Nat}{bs:List Nat}(h:GM w g G ow ol al cl cb cc bs)(s l:Nat)(hm:Mod (· = g) w w')
  (hB:cD w' g [.int .i64 G.cL, .int .i64 G.dd,uV G.aJ, .slice al G.list.length cl, .slice (some ⟨cb,0,none⟩) G.cells.length cc, .int .i64 l, .int .i64 s]):GM w' g { G with cT:=s,cp:=l} ow ol al cl cb cc bs:=by
 have aR:∀{b p},ow b=some p→p ≠ .top→¬b=g:=fun {b p} e hp=>lr e h.fG hp
 refine⟨hB,h.fG,h.arr.mod hm (fun x hx=>?_),h.iG,h.mv,h.ju.mod hm (fun x hx=>?_),h.ng,h.len,fun i b x h1 h2=>(h.node i b x h1 h2).mod hm fun b p e hp=>aR e (by rcases hp with rfl|rfl|rfl<;>simp),fun b hb=>j4 (h.lt b hb) hm.size⟩
 ·cases df:ol with
  |none=>rw[h.mv df] at hx;cases hx
  |some b=>
   have ha:=h.arr;rw[df] at ha;rw[ha.block.1] at hx;cases hx;exact aR (h.iG b df) (by simp)
 ·cases hx;exact aR h.ng (by simp)
theorem GM.setNode {w w':World}{g:Nat}{G:Gr}{ow:Nat→Option Lb}{ol:Option Nat}{al:Option Addr}{cl cb cc:Nat}{bs:List Nat}(h:GM w g G ow ol al cl cb cc bs){i b:Nat}{x':Nd}(hb:bs[i]?=some b)(hi:i<G.list.length)(hm:Mod (· = b) w w')(df:ow b=some (.nd i))
  (hN:rr w' ow i b x'):GM w' g { G with list:=G.list.set i x'} ow ol al cl cb cc bs:=by
 have aR:∀{c p},ow c=some p→p ≠ .nd i→¬c=b:=fun {c p} e hp=>lr e df hp
 refine⟨?_,h.fG,?_,h.iG,h.mv,h.ju.mod hm (fun x hx=>?_),h.ng,by simpa using h.len,fun j c x h1 h2=>?_,fun b hb=>j4 (h.lt b hb) hm.size⟩
 ·simpa using h.top.mod hm (aR h.fG (by simp))
 ·rw[fS];refine h.arr.mod hm (fun x hx=>?_);cases df:ol with
  |none=>rw[h.mv df] at hx;cases hx
  |some b=>
   have ha:=h.arr;rw[df] at ha;rw[ha.block.1] at hx;cases hx;exact aR (h.iG b df) (by simp)
 ·cases hx;exact aR h.ng (by simp)
 ·by_cases mm:i=j
  ·subst mm;rw[dJ hi] at h2;cases h2;rw[hb] at h1;cases h1;exact hN
  ·rw[dH mm] at h2;exact(h.node j c x h1 h2).mod hm fun d p e hp=>aR e (by
    rcases hp with rfl|rfl|rfl
    ·intro e;cases e;exact mm rfl
    ·simp
    ·simp)
def vb (x:Nd):Bs×List Nat×List Nat:=(x.key,x.down,x.up)
structure dp (G H:Gr):Prop where
 cL:H.cL=G.cL
 dd:H.dd=G.dd
 aJ:H.aJ=G.aJ
 cells:H.cells=G.cells
 cp:H.cp=G.cp
 list:H.list.map vb=G.list.map vb
theorem dp.refl (G:Gr):dp G G:=⟨rfl,rfl,rfl,rfl,rfl,rfl⟩
theorem dp.trans {G H K:Gr}(h:dp G H)(k:dp H K):dp G K:=⟨k.cL.trans h.cL,k.dd.trans h.dd,k.aJ.trans h.aJ,k.cells.trans h.cells,k.cp.trans h.cp,k.list.trans h.list⟩
theorem dp.length {G H:Gr}(h:dp G H):H.list.length=G.list.length:=by
 have:=congrArg List.length h.list;simpa using this
theorem dp.get {G H:Gr}(h:dp G H){i:Nat}{x:Nd}(hx:H.list[i]?=some x):∃y,G.list[i]?=some y∧x.key=y.key∧x.down=y.down∧x.up=y.up:=by
 have h1:(H.list.map vb)[i]?=some (vb x):=by simp[hx]
 rw[h.list,gb] at h1;cases hy:G.list[i]? with
 |none=>rw[hy] at h1;cases h1
 |some y=>
  rw[hy] at h1;simp only[jr,mD,vb,mB] at h1;exact⟨y,rfl,h1.1.symm,h1.2.1.symm,h1.2.2.symm⟩
theorem dp.symm {G H:Gr}(h:dp G H):dp H G:=⟨h.cL.symm,h.dd.symm,h.aJ.symm,h.cells.symm,h.cp.symm,h.list.symm⟩
theorem dp.keys {G H:Gr}(h:dp G H):H.list.map (·.key)=G.list.map (·.key):=by
 have:=congrArg (List.map (fun x:Bs×List Nat×List Nat=>x.1)) h.list;simpa[nB,Function.comp_def,vb] using this
theorem dp.keyOf {G H:Gr}(h:dp G H)(b:Nat):keyOf H.list b=keyOf G.list b:=by
 have:=congrArg (fun l=>(l[b]?).getD []) h.keys;simpa[M.keyOf] using this
theorem dp.eC {G H:Gr}(h:dp G H):eZ H.list H.cells=eZ G.list G.cells:=by
 rw[h.cells];unfold eZ;congr 1;funext n;cases n with
 |zero=>rfl
 |succ m=>
  have:=h.keyOf m;simp only[M.keyOf] at this;simp[this]
theorem dp.eW {G H:Gr}(h:dp G H):M.eW H.list=M.eW G.list:=by
 have key:∀L:List Nd,M.eW L=(L.map (·.key)).zipIdx:=fun L=>by
  rw[List.zipIdx_map];rfl
 rw[key,key,h.keys]
theorem dp.ok {G H:Gr}(h:dp G H)(hG:gS G):gS H:=by
 refine⟨?_,?_,by rw[h.aJ];exact hG.aJ,by rw[h.cells];exact hG.small⟩
 ·rw[h.eC,h.eW,h.aJ];exact hG.eC
 ·rw[h.cells,h.length];exact hG.idx
theorem dp.eM {G H:Gr}(h:dp G H)(hG:xx G):xx H:=by
 refine⟨h.ok hG.ok,by rw[h.cL];exact hG.mx,fun a x hx b hb=>?_,fun a x hx=>?_⟩
 ·obtain⟨y,h1,_,h2,_⟩:=h.get hx;rw[h.length];exact hG.down a y h1 b (h2▸hb)
 ·obtain⟨y,h1,h2,h3,_⟩:=h.get hx;rw[h2,h3];exact hG.len a y h1
theorem dp.kids {G H:Gr}(h:dp G H)(hG:gS G)(k:Bs):gF H k=gF G k:=by
 by_cases hk:k∈H.list.map (·.key)
 ·obtain⟨x,hx,mV⟩:=bK.1 hk;obtain⟨n,hn⟩:=ej hx;obtain⟨y,h1,h2,h3,_⟩:=h.get hn;rw[Ck (h.ok hG) hn mV,Ck hG h1 (h2.symm.trans mV),h3];congr 1;exact ri fun b _=>h.keyOf b
 ·rw[I7 hk,I7 (by rwa [←h.keys])]
theorem dp.mark {G:Gr}{i:Nat}{x:Nd}(hx:G.list[i]?=some x)(s:Nat):dp G { G with list:=G.list.set i { x with mark:=s}}:=by
 refine⟨rfl,rfl,rfl,rfl,rfl,?_⟩;apply pb;intro j;simp only[gb]
 by_cases mm:i=j
 ·subst mm;rw[dJ (aV.1 hx).1,hx];rfl
 ·rw[dH mm]
def Be (G:Gr)(a b:Nat):Prop:=∃x,G.list[a]?=some x∧b∈x.down
inductive Ba (G:Gr) (a:Nat):Nat→Prop where
 |refl:Ba G a a
 |step {b c:Nat}:Ba G a b→Be G b c→Ba G a c
def A9 (G:Gr)(p c:Bs):Prop:=∃(a b d:Nat) (x y:Nd),G.list[a]?=some x∧x.key=p∧Ba G a b∧Be G b d∧G.list[d]?=some y∧y.key=c
theorem dp.step {G H:Gr}(h:dp G H){a b:Nat}(hs:Be H a b):Be G a b:=by
 obtain⟨x,h1,h2⟩:=hs;obtain⟨y,q1,_,q2,_⟩:=h.get h1;exact⟨y,q1,q2▸h2⟩
theorem Kb (f:Nat→Nat):∀{l R:List Nat},l.Nodup→(∀x∈l,x∈R)→(l.map f).sum≤(R.map f).sum
 | [],_,_,_=>bh _
 |x::l,R,hn,hs=>by
  have hx:=hs x tC;rw[eI] at hn;have ih:=Kb f (l:=l) (R:=R.erase x) hn.2 fun y hy=>by
   have aR:y≠x:=fun e=>hn.1 (e▸hy)
   exact(List.mem_erase_of_ne aR).2 (hs y (fR _ hy))
  have hp:((R.map f).sum)=f x+((R.erase x).map f).sum:=by
   have:=((AZ hx).map f).sum_nat;simpa using this
  rw[hp,cK,List.sum_cons];omega
theorem NP {l:List Nat}{n:Nat}(hn:l.Nodup)(hs:∀x∈l,x<n):l.length≤n:=by
 have h:=Kb (fun _=>1) (l:=l) (R:=List.range n) hn fun x hx=>tE.2 (hs x hx)
 have key:∀l:List Nat,(l.map fun _=>1).sum=l.length:=fun l=>by
  induction l with
  |nil=>rfl
  |cons x l ih=>rw[cK,List.sum_cons,ih,dR];omega
 rw[key,key,List.length_range] at h;exact h
def jJ (G:Gr):Nat:=((List.range G.list.length).map fun m=>((G.list[m]?).map (·.down.length)).getD 0).sum
def lF (G:Gr)(m:Nat):Nat:=((G.list[m]?).map (·.down.length)).getD 0
theorem Hl {G:Gr}{l:List Nat}(hn:l.Nodup)(hs:∀x∈l,x<G.list.length):(l.map (lF G)).sum≤jJ G:=Kb (lF G) hn fun x hx=>tE.2 (hs x hx)
structure Df (w0 w:World)(g:Nat)(G H:Gr)(ow:Nat→Option Lb)(ol:Option Nat)(al:Option Addr)(cl cb cc:Nat)(bs:List Nat)(n s:Nat)(line:List Nat)(ob:Option Nat)(a:Option Addr)(ll c:Nat):Prop where
 gm:GM w g H ow ol al cl cb cc bs
 same:dp G H
 nY:H.cT=s
 marks:∀(m:Nat) (x:Nd),H.list[m]?=some x→(x.mark=s↔m∈line)
 Jm:∀(m:Nat) (x:Nd),H.list[m]?=some x→x.mark≤s
 nodup:line.Nodup
 AK:∀m∈line,m<G.list.length∧Ba G n m
 first:n∈line
 len:line.length=ll
 own:aG w 244 1 ob a ll c (bg (line.map fun m=>bs[m]?.getD 0))
 new:∀q,ob=some q→w0.heap.size≤q
 P0:∀q,a=some q→ob=some q.block
theorem Df.fresh {w0 w w':World}{g:Nat}{G H:Gr}{ow:Nat→Option Lb}{ol:Option Nat}{al:Option Addr}{cl cb cc:Nat}{bs:List Nat}{n s:Nat}{line:List Nat}{ob:Option Nat}{a:Option Addr}{ll c:Nat}(h:Df w0 w g G H ow ol al cl cb cc bs n s line ob a ll c)(hm:Ext w w'):Df w0 w' g G H ow ol al cl cb cc bs n s line ob a ll c:=
 { h with gm:=h.gm.ext hm,own:=h.own.ext hm}
def dV (ow:Nat→Option Lb)(w w':World):Prop:=Mod (fun b=>ow b≠none) w w'
theorem dV.ext {ow:Nat→Option Lb}{w w1 w2:World}(h:dV ow w w1)(hm:Ext w1 w2):dV ow w w2:=Mod.trans h hm.mod
theorem dV.own {ow:Nat→Option Lb}{w w1 w2:World}{b:Nat}{p:Lb}(h:dV ow w w1)(hb:ow b=some p)(hm:Mod (· = b) w1 w2):dV ow w w2:=Mod.trans h (hm.weaken fun k _ e=>by subst e;rw[hb];simp)
theorem dV.new {ow:Nat→Option Lb}{w w1 w2:World}{ob:Option Nat}(h:dV ow w w1)(hb:∀q,ob=some q→w.heap.size≤q)(hm:Mod (fun k=>some k=ob) w1 w2):dV ow w w2:=Mod.then h hm fun i hi e=>by have:=hb i e.symm;omega
theorem dp.lF {G H:Gr}(h:dp G H)(m:Nat):M.lF H m=M.lF G m:=by
 have h1:(H.list.map vb)[m]?=(G.list.map vb)[m]?:=by rw[h.list]
 have h2:=congrArg (fun o:Option (Bs×List Nat×List Nat)=>(o.map fun x=>x.2.1.length).getD 0) h1;simpa[M.lF,Function.comp_def,vb] using h2
theorem aaY {G:Gr}{line:List Nat}{i m:Nat}(hn:line.Nodup)(hs:∀x∈line,x<G.list.length)(hm:line[i]?=some m):((line.take i).map (lF G)).sum+lF G m≤jJ G:=by
 have aP:=(aV.1 hm).1;have h:=Hl (l:=line.take (i+1)) (hn.sublist (List.take_sublist _ _)) fun x hx=>hs x (List.mem_of_mem_take hx)
 rw[ic,hm] at h;simpa using h
theorem WW {w:World}{g:Nat}{G:Gr}{ow:Nat→Option Lb}{ol:Option Nat}{al:Option Addr}{cl cb cc:Nat}{bs:List Nat}(hG:GM w g G ow ol al cl cb cc bs)(hi:xx G)(hd:∀x∈G.list,x.down.length≤65536)(he:jJ G≤65536)
  (hs:G.cT<2^62) (iB:∀x∈G.list,x.mark≤G.cT) (p c:Bs) (aI:Nat) (rJ:aI≤65536) :
  aj prog 168 [ak g,str p,str c, .int .i64 aI].toArray w fun v w'=>
   (∃z n e H,v = .tuple #[.bool z,n,iV e]∧e≠1∧(bI p=true→bI c=true→jJ G≤aI→e=0∧(z=true↔A9 G p c))∧dp G H∧H.cT≤G.cT+1∧(∀x∈H.list,x.mark≤H.cT)∧GM w' g H ow ol al cl cb cc bs)∧dV ow w w':=by
 refine aj.enter func168 rfl ntmps168 rfl (go ?_);refine GX.da (Lg hG (by have:=hi.mx;omega) p c) rfl rfl rfl rfl rfl rfl (go ?_);cases aX:(bI p&&bI c) with
 |false=>
  refine go ?_;exact⟨⟨false,_,2,G,rfl,by decide,(fun h1 h2=>by rw[h1,h2] at aX;cases aX),dp.refl G,by omega,iB,hG⟩,Mod.refl _⟩
 |true=>
 obtain⟨pV,pU⟩:bI p=true∧bI c=true:=by simpa using aX
 have hp:p.length<2^40:=by have:=eN pV;omega
 have hc:c.length<2^40:=by have:=eN pU;omega
 refine go ?_;refine GX.call (xK hG hi.ok p hp) rfl rfl rfl rfl rfl rfl ?_;rintro _ w1 ⟨⟨za,rfl,ha⟩,cW⟩;have fC:=hG.ext cW;refine go ?_;refine dj (fun hz=>?_) (fun hz=>?_)<;>refine go ?_
 ·refine⟨⟨false,_,0,G,rfl,by decide,fun _ _ _=>⟨rfl,(fun h=>by cases h),fun h=>?_⟩,dp.refl G,by omega,iB,fC⟩,cW.mod⟩;obtain⟨a,_,_,x,_,q1,q2,_⟩:=h
  rcases ha with⟨_,h⟩|⟨_,_,h,_⟩
  ·exact absurd (bK.2 ⟨x,bF q1,q2⟩) h
  ·omega
 obtain⟨n,x0,rfl,uF,mV⟩:∃(n:Nat) (x:Nd),za=(n:Int)∧G.list[n]?=some x∧x.key=p:=by
  rcases ha with⟨h,_⟩|h
  ·omega
  ·exact h
 have hn:=(aV.1 uF).1;have hNs:G.list.length<2^40:=by
  have h1:=hi.ok.eC.room;have h2:=hi.ok.small;simp only[eZ,eW,fk,List.length_zipIdx] at h1;omega
 have hT:=fC.top;refine go ?_;refine GX.yV hT rfl rfl rfl rfl (by rfl) (by rfl) (by rfl) (by rfl) fun w2 qh gX=>go ?_
 have gN:=fC.Xx (G.cT+1) G.cp gX qh;have BE:bs[n]?=some (bs[n]'(by have:=hG.len;omega)):=by simp
 generalize bs[n]'(by have:=hG.len;omega)=b0 at BE;have RV:=gN.node n b0 x0 BE uF;obtain⟨v1,v2,uv,EH,dN,gi⟩:=RV;obtain⟨lb,lo,b6,lH⟩:=sg gN.arr.bR BE;subst b6;refine GC.o5 (aZ [0,3,6,12,21,24,27,10,15,19,31,33,36,41]) (fun _=>False) mixed ai ai (go ?_);refine GX.pure rfl (GO.indexAddr rfl rfl rfl rfl ah ah rfl ?_);refine GX.read rfl (GO.uK (lH (n:Int) ah) id (Ext.drew _) rfl rfl rfl ?_);refine go ?_;refine GX.FY (w:=w2.drew) uv (.inr ai) rfl rfl rfl rfl (by rfl) (by rfl) (by rfl) (by rfl) fun w3 HB xY=>go ?_
 have nN:=(gN.ext (Ext.drew w2)).setNode (x':={ x0 with mark:=G.cT+1}) BE hn xY EH
  ⟨v1,v2,HB,EH,(dN.mod (Ext.drew w2) fun _ _ h=>h).mod xY (fun b hb=>lr hb EH (by simp)),(gi.mod (Ext.drew w2) fun _ _ h=>h).mod xY (fun b hb=>lr hb EH (by simp))⟩
 have rD:dV ow w w3:=(((dV.ext (Mod.refl w) cW).own hG.fG gX).ext (Ext.drew w2)).own EH xY;have uf:=nN.top;obtain⟨lb3,lo3,acD,acf⟩:=sg nN.arr.bR BE;cases acD;refine go ?_;refine GX.next rfl (GO.indexAddr rfl rfl rfl rfl ah (by simpa using hn) rfl ?_);refine GX.lj (acf (n:Int) ah) rfl rfl rfl rfl (go ?_);refine GX.yS rfl rfl rfl rfl rfl rfl rfl rfl rfl fun b4 w4 Sk BA lI=>go ?_
 have LS:dp G { { G with cT:=G.cT+1,cp:=G.cp} with list:=G.list.set n { x0 with mark:=G.cT+1}}:=by
  have:=dp.mark uF (G.cT+1);exact⟨rfl,rfl,rfl,rfl,rfl,this.list⟩
 have jw:w.heap.size≤w3.heap.size:=rD.size;refine GC.bP [0,2,3] (fun s:Nat×Nat×List Nat×Option Nat×Option Addr×Nat×Nat×Gr=>[(13, .int .i64 s.1),(14, .slice s.2.2.2.2.1 s.2.2.2.2.2.2.1 s.2.2.2.2.2.1),(15, .int .i64 s.2.1)])
  (fun s w'=>Df w w' g G s.2.2.2.2.2.2.2 ow ol (some ⟨lb,lo,none⟩) cl cb cc bs n (G.cT+1) s.2.2.1 s.2.2.2.1 s.2.2.2.2.1 s.2.2.2.2.2.2.1 s.2.2.2.2.2.1∧s.2.1≤s.2.2.2.2.2.2.1∧s.1=((s.2.2.1.take s.2.1).map (lF G)).sum ∧
    (∀(j m:Nat),j<s.2.1→s.2.2.1[j]?=some m→∀d,Be G m d→d∈s.2.2.1∧keyOf G.list d≠c)∧dV ow w w') (fun s=>G.list.length - s.2.1)
  (0,0,[n],some b4,some ⟨b4,0,none⟩,1,1,_) rfl rfl ⟨⟨nN.ext lI,LS,rfl,fun m x hx=>?_,fun m x hx=>?_,by simp,fun m hm=>?_,by simp,rfl,?_,fun q hq=>?_,fun q hq=>?_⟩,by simp,rfl,(fun j m h=>absurd h (Nat.not_lt_zero _)),rD.ext lI⟩ ?_
 ·by_cases mX:m=n
  ·subst mX;rw[dJ hn] at hx;cases hx;simp
  ·rw[dH (fun e=>mX e.symm)] at hx;have:=iB x (bF hx);simp[mX];omega
 ·by_cases mX:m=n
  ·subst mX;rw[dJ hn] at hx;cases hx;exact bj _
  ·rw[dH (fun e=>mX e.symm)] at hx;have:=iB x (bF hx);omega
 ·simp at hm;subst hm;exact⟨hn, .refl⟩
 ·simpa[BE,bg,ak,Value.cells] using BA
 ·cases hq;omega
 ·cases hq;rfl
 rintro⟨looked,i,line,ob,a,cap,ll,H⟩ w5 ⟨hI,eL,qD,H6,DT⟩;dsimp only at hI eL qD H6 ⊢;have amO:ll≤G.list.length:=hI.len▸NP hI.nodup fun z hz=>(hI.AK z hz).1
 refine go ?_;refine dj (fun hc5=>?_) (fun hc5=>?_)<;>refine go ?_
 rotate_left
 ·have BK:i=line.length:=by have:=hI.len;omega
  refine⟨⟨false,_,0,H,rfl,by decide,fun _ _ _=>⟨rfl,(fun h=>by cases h),fun h=>?_⟩,hI.same,by have:=hI.nY;omega,fun x hx=>?_,hI.gm⟩,DT⟩
  ·obtain⟨a',b',d',x,y,q1,q2,q3,q4,q5,q6⟩:=h;obtain rfl:=key_inj hi.ok q1 uF (q2.trans mV.symm);have mn:∀m,Ba G a' m→m∈line:=by
    intro m hm
    induction hm with
    |refl=>exact hI.first
    |step _ dt ih=>
     obtain⟨j,hj⟩:=ej ih;exact(H6 j _ (by have:=(aV.1 hj).1;omega) hj _ dt).1
   obtain⟨j,hj⟩:=ej (mn b' q3);have:=(H6 j _ (by have:=(aV.1 hj).1;omega) hj _ q4).2;simp[keyOf,q5,q6] at this
  ·obtain⟨m,hm⟩:=ej hx;rw[hI.nY];exact hI.Jm m x hm
 have amB:i<line.length:=by have:=hI.len;omega
 have BP:line[i]?=some (line[i]'amB):=by simp
 generalize line[i]'amB=m at BP;obtain⟨uu,S9⟩:=hI.AK m (bF BP);have sP:=hI.same.length;have wx:H.list[m]?=some (H.list[m]'(by omega)):=by simp
 generalize H.list[m]'(by omega)=x at wx;obtain⟨xg,E5,fg,Cc,_⟩:=hI.same.get wx;have mT:bs[m]?=some (bs[m]'(by have:=hG.len;omega)):=by simp
 generalize bs[m]'(by have:=hG.len;omega)=bm at mT;obtain⟨u1,u2,hmB,_⟩:=hI.gm.node m bm x mT wx;have iZ:(line.map fun m=>bs[m]?.getD 0)[i]?=some bm:=by simp[BP,mT]
 obtain⟨qb,qo,hqa,hqA⟩:=sg hI.own.bR iZ;subst hqa;refine GX.next rfl (GO.indexAddr rfl rfl rfl rfl ah ah rfl ?_);refine GX.lj (hqA (i:Int) ah) rfl rfl rfl rfl (go ?_);have SP:=hI.same.eM hi;have HX:∀z∈H.list,z.down.length≤65536:=fun z hz=>by
  obtain⟨j,hj⟩:=ej hz;obtain⟨y,q1,_,q2,_⟩:=hI.same.get hj;rw[q2];exact hd y (bF q1)
 refine GX.call (Qx hI.gm SP x.key (SP.len m x wx).2 HX) rfl rfl rfl rfl rfl rfl ?_;rintro _ w6 ⟨⟨ka,kc,rfl,hK⟩,gV⟩;rw[hI.same.kids hi.ok] at hK ⊢;have MC:gF G x.key=fj (x.down.map (keyOf G.list)):=by rw[Cc];exact Ck hi.ok E5 fg.symm
 have cQ:(gF G x.key).length=lF G m:=by rw[MC,(lV _).length_eq,fk,Cc];simp[lF,E5]
 have hbound:=aaY hI.nodup (fun z hz=>(hI.AK z hz).1) BP;rw[←qD,←cQ] at hbound;have adj:∀k'∈gF G x.key,∃d,Be G m d∧keyOf G.list d=k':=fun k' eE=>by
  rw[MC] at eE;obtain⟨d,h1,h2⟩:=bK.1 ((lV _).mem_iff.1 eE);exact⟨d,⟨xg,E5,Cc▸h1⟩,h2⟩
 have ad1:w.heap.size≤w5.heap.size:=DT.size;have mq:∀q,ka=some q→ob≠some q.block:=fun q hq e=>by
  have h1:=hK.new hq;have h2:=hI.own;rw[e] at h2;have:=h2.block.2;omega
 have hkw:∀q,ka=some q→w5.heap.size≤q.block:=fun q hq=>hK.new hq
 refine go ?_;refine GC.bP [0,2,3,15,75,76] (fun s:Nat×Nat×List Nat×Option Nat×Option Addr×Nat×Nat×Gr=>[(13, .int .i64 s.1),(14, .slice s.2.2.2.2.1 s.2.2.2.2.2.2.1 s.2.2.2.2.2.1),(77, .int .i64 s.2.1)])
  (fun s w'=>Df w w' g G s.2.2.2.2.2.2.2 ow ol (some ⟨lb,lo,none⟩) cl cb cc bs n (G.cT+1) s.2.2.1 s.2.2.2.1 s.2.2.2.2.1 s.2.2.2.2.2.2.1 s.2.2.2.2.2.1∧s.2.1≤(gF G x.key).length∧s.1=looked+s.2.1∧(∃more,s.2.2.1=line++more) ∧
    (∀k'∈(gF G x.key).take s.2.1,k'≠c∧∃d∈s.2.2.1,keyOf G.list d=k')∧bM w' ka (aM (gF G x.key))∧(∀q,ka=some q→s.2.2.2.1≠some q.block)∧dV ow w w') (fun s=>(gF G x.key).length - s.2.1)
  (looked,0,line,ob,some ⟨qb,qo,none⟩,cap,ll,H) rfl rfl ⟨hI.fresh gV,bh _,rfl,⟨[],by simp⟩,by simp,hK.bR,mq,DT.ext gV⟩ ?_
 rintro⟨lk,t,sZ,cO,a',Qj,Jh,H'⟩ w7 ⟨gW,ht,S3,⟨more,zW⟩,Im,LD,Ik,HG⟩;dsimp only at gW ht S3 zW Im Ik ⊢;have amN:Jh≤G.list.length:=gW.len▸NP gW.nodup fun z hz=>(gW.AK z hz).1
 refine go ?_;refine dj (fun hc6=>?_) (fun hc6=>?_)<;>refine go ?_
 rotate_left
 ·have yf:t=(gF G x.key).length:=by omega
  subst yf;rw[j5] at Im;have amI:=gW.len;have kZ:sZ.length=line.length+more.length:=by rw[zW,bJ]
  have vZ:=NP gW.nodup fun z hz=>(gW.AK z hz).1
  refine GQ.br (lk,i+1,sZ,cO,a',Qj,Jh,H') rfl ⟨gW,by simp only;omega,?_,fun j z hj hz d iM=>?_,HG⟩ (by simp only;omega)
  ·have e1:sZ.take (i+1)=line.take (i+1):=by rw[zW,vj ah]
   simp only;rw[e1,ic,BP,S3,qD,cQ];simp
  ·simp only at hj hz ⊢;have lN:line[j]?=some z:=by
    rw[zW,gr ah] at hz;exact hz
   by_cases gf:j=i
   ·subst gf;rw[BP] at lN;cases lN;obtain⟨y,q1,q2⟩:=iM;rw[E5] at q1;cases q1;have Sz:=hi.down m xg E5 d q2;have uq:keyOf G.list d∈gF G x.key:=by
     rw[MC,(lV _).mem_iff];exact bK.2 ⟨d,Cc▸q2,rfl⟩
    obtain⟨h1,d',h2,h3⟩:=Im _ uq;have amt:=(gW.AK d' h2).1;have e1:G.list[d]?=some (G.list[d]'Sz):=by simp
    have e2:G.list[d']?=some (G.list[d']'amt):=by simp
    have:d'=d:=key_inj hi.ok e2 e1 (by simpa[keyOf,e1,e2] using h3);subst this;exact⟨h2,h1⟩
   ·obtain⟨h1,h2⟩:=H6 j z ah lN d iM;exact⟨by rw[zW];exact tH _ h1,h2⟩
 have aP:t<(gF G x.key).length:=by omega
 have BN:(gF G x.key)[t]?=some ((gF G x.key)[t]'aP):=by simp
 have SY:=ot aP;obtain⟨kb,ko,um,SV⟩:=F9 LD aP;subst um;generalize (gF G x.key)[t]'aP=k' at BN SY SV;obtain⟨d,Mi,H5⟩:=adj k' SY;have Sz:d<G.list.length:=by obtain⟨y,q1,q2⟩:=Mi;exact hi.down m y q1 d q2
 refine GX.next rfl (GO.indexAddr rfl rfl rfl rfl ah ah rfl ?_);refine GX.lj (SV (t:Int) ah) rfl rfl rfl rfl (go ?_);refine dj (fun ads=>?_) (fun ads=>?_)<;>refine go ?_
 ·exact⟨⟨false,_,7,H',rfl,by decide,(fun _ _ hle=>by omega),gW.same,by have:=gW.nY;omega,(fun z hz=>by obtain⟨j,hj⟩:=ej hz;rw[gW.nY];exact gW.Jm j z hj),gW.gm⟩,HG⟩
 refine dj (fun EV=>?_) (fun EV=>?_)<;>refine go ?_
 ·subst EV;have e1:G.list[d]?=some (G.list[d]'Sz):=by simp
  exact⟨⟨true,_,0,H',rfl,by decide,(fun _ _ _=>⟨rfl,fun _=>⟨n,m,d,x0,_,uF,mV,S9,Mi,e1,by simpa[keyOf,e1] using H5⟩,fun _=>rfl⟩),gW.same,by have:=gW.nY;omega,(fun z hz=>by obtain⟨j,hj⟩:=ej hz;rw[gW.nY];exact gW.Jm j z hj),gW.gm⟩,HG⟩
 have hT7:=gW.gm.top;refine GC.o5 (aZ [0,3,6,12,15,10,20,21,25,27]) (fun _=>False) mixed ai ai (go ?_);have adh:k'.length<2^40:=by
  rw[←H5];have e1:G.list[d]?=some (G.list[d]'Sz):=by simp
  simp only[keyOf,e1,jr,nC];exact(hi.len d _ e1).2
 refine GX.Dn (xK (gW.gm.ext (Ext.drew w7)) (gW.same.ok hi.ok) k' adh) (fun _ _ h=>h.2) rfl rfl rfl rfl rfl rfl ?_;rintro _ w8 ⟨⟨zd,rfl,yo⟩,vK⟩;have aml:=gW.same.length;have yl:H'.list[d]?=some (H'.list[d]'(by omega)):=by simp
 generalize H'.list[d]'(by omega)=y at yl;obtain⟨yg,hyg,Nr,_⟩:=gW.same.get yl;have TX:y.key=k':=by rw[Nr,←H5];simp[keyOf,hyg]
 obtain rfl:zd=(d:Int):=by
  rcases yo with⟨_,h⟩|⟨d2,y2,rfl,h1,h2⟩
  ·exact absurd (bK.2 ⟨y,bF yl,TX⟩) h
  ·rw[key_inj (gW.same.ok hi.ok) h1 yl (h2.trans TX.symm)]
 have sQ:bs[d]?=some (bs[d]'(by have:=hG.len;omega)):=by simp
 generalize bs[d]'(by have:=hG.len;omega)=bd at sQ;obtain⟨lb7,lo7,vS,acg⟩:=sg gW.gm.arr.bR sQ;cases vS;refine go ?_;refine GX.pure rfl (GO.indexAddr rfl rfl rfl rfl ah ah rfl ?_);refine GX.read rfl (GO.uK (acg (d:Int) ah) id ((Ext.drew w7).trans vK) rfl rfl rfl ?_);refine go ?_;have vN:=(gW.fresh (Ext.drew w7)).fresh vK;have HL:=vN.gm.top;obtain⟨y1,y2,hyB,Cf,aee,aef⟩:=vN.gm.node d bd y sQ yl;refine GC.o5 (aZ [0,3,6,12,15,18,10,22,24]) (fun _=>False) mixed ai ai (go ?_);have EY:∀q,cO=some q→w.heap.size≤q:=vN.new;have Bz:dV ow w w8:=(HG.ext (Ext.drew w7)).ext vK;have RS:=(LD.ext (Ext.drew w7)).ext vK;have qL:∀(l':List Nat),(∀z∈sZ,z∈l')→d∈l'→∀u∈(gF G x.key).take (t+1),u≠c∧∃d∈l',keyOf G.list d=u:=fun l' hl' ml u hu=>by
  rw[ic,BN] at hu
  rcases cJ.1 hu with hu|hu
  ·obtain⟨h1,d1,h2,h3⟩:=Im u hu;exact⟨h1,d1,hl' d1 h2,h3⟩
  ·simp at hu;subst hu;exact⟨EV,d,ml,H5⟩
 refine dj (fun adq=>?_) (fun adq=>?_)<;>refine go ?_
 rotate_left
 ·have ml:d∈sZ:=(vN.marks d y yl).1 (by have:=vN.nY;omega);exact GQ.br (lk+1,t+1,sZ,cO,a',Qj,Jh,H') rfl ⟨(vN.fresh (Ext.drew w8)),by simp only;omega,by simp only;omega,⟨more,zW⟩,qL sZ (fun _ h=>h) ml,RS.ext (Ext.drew w8),Ik,Bz.ext (Ext.drew w8)⟩ (by simp only;omega)
 have hnl:d∉sZ:=fun h=>by
  have:=(vN.marks d y yl).2 h;have:=vN.nY;omega
 have pH:=vN.fresh (Ext.drew w8);have hTd:=HL.ext (Ext.drew w8);have aec:=hyB.ext (Ext.drew w8);refine go ?_;refine GX.yV aec rfl rfl rfl rfl (by rfl) (by rfl) (by rfl) (by rfl) fun w9 HC zT=>go ?_
 have Ly:=pH.gm.setNode (x':={ y with mark:=H'.cT}) sQ ah zT Cf
  ⟨y1,y2,HC,Cf,(aee.mod (Ext.drew w8) fun _ _ h=>h).mod zT (fun b hb=>lr hb Cf (by simp)),(aef.mod (Ext.drew w8) fun _ _ h=>h).mod zT (fun b hb=>lr hb Cf (by simp))⟩
 have RU:dV ow w w9:=(Bz.ext (Ext.drew w8)).own Cf zT;have amo:bd<w.heap.size:=hG.lt bd (by rw[Cf];simp);have HH:=pH.own.mod zT (fun q hq e=>by
  have h1:=pH.P0 q hq;have:=EY _ h1;omega)
 refine GX.yS rfl rfl rfl rfl rfl rfl rfl rfl rfl fun b10 y4 amn DV rA=>go ?_
 refine GX.append (HH.ext rA) DV.bR rfl rfl rfl rfl rfl rfl rfl (CL [bd]) ah ah fun ahv YN ZG Kg LJ xX Sj acA=>go ?_
 have adE:∀q,cO=some q→w.heap.size≤q:=EY;have amU:∀{b p},ow b=some p→¬some b=cO:=fun {b p} e h=>by
  have:=EY b h.symm;have:=hG.lt b (by rw[e];simp);omega
 have zF:=(Ly.ext rA).mod xX (fun b hb h=>by
  have:=EY b h.symm;have:=hG.lt b hb;omega)
 have am4:w.heap.size≤w9.heap.size:=RU.size;have amE:w.heap.size≤kb:=eh ad1 (hkw ⟨kb,ko,none⟩ rfl);refine GQ.br (lk+1,t+1,sZ++[d],ahv,YN,ZG,Jh+1,_) rfl ⟨⟨zF,?_,pH.nY,fun z u hu=>?_,fun z u hu=>?_,?_,fun z hz=>?_,tH _ pH.first,by simp[pH.len],?_,fun q hq=>?_,fun q hq=>?_⟩,by simp only;omega,by simp only;omega,⟨more++[d],by simp[zW]⟩,qL _ (fun z hz=>tH _ hz) (by simp),?_,fun q hq=>?_,(RU.ext rA).new adE xX⟩ (by simp only;omega)
 ·exact pH.same.trans (dp.mark yl _)
 ·by_cases yo:z=d
  ·subst yo;rw[dJ ah] at hu;cases hu;simp[pH.nY]
  ·rw[dH (fun e=>yo e.symm)] at hu;rw[pH.marks z u hu];simp[yo]
 ·by_cases yo:z=d
  ·subst yo;rw[dJ ah] at hu;cases hu;simp[pH.nY]
  ·rw[dH (fun e=>yo e.symm)] at hu;exact pH.Jm z u hu
 ·rw[gu];exact⟨pH.nodup,by simp,fun z hz u hu e=>by simp at hu;subst hu;subst e;exact hnl hz⟩
 ·rcases cJ.1 hz with hz|hz
  ·exact pH.AK z hz
  ·simp at hz;subst hz;exact⟨Sz,S9.step Mi⟩
 ·have e1:((sZ++[d]).map fun m=>bs[m]?.getD 0)=(sZ.map fun m=>bs[m]?.getD 0)++[bd]:=by simp[sQ]
  rw[e1];simpa[bg,ak,Value.cells] using LJ
 ·rcases Sj q hq with h|h
  ·exact EY q h
  ·have:=rA.size;omega
 ·rcases acA q hq with h|⟨h,h'⟩
  ·exact h
  ·rw[h'];exact pH.P0 q h
 ·have h1:=((RS.ext (Ext.drew w8)).mod zT (fun q hq e=>by cases hq;have e':kb=bd:=e;omega)).ext rA;exact h1.mod xX (fun q hq e=>Ik q hq e.symm)
 ·cases hq;rintro h
  rcases Sj _ h with h'|h'
  ·exact Ik _ rfl h'
  ·obtain⟨pL,_⟩:kb<w7.heap.size∧True:=by
    have h3:0<(gF G x.key).length:=by omega
    obtain⟨b',o',e',ry⟩:=Hm LD (i:=t) (by simpa using aP);cases e';have:=ry (t:Int) rfl 0 _ rfl;exact⟨block_lt_of_cell this,trivial⟩
   have:=rA.size;have:=zT.size;have:=vK.size;have h5:w7.drew.heap.size=w7.heap.size:=rfl;have h6:w8.drew.heap.size=w8.heap.size:=rfl;simp only at h';omega
end
end Go.Proofs.YtmlpbmgfmnmmmaaGreat.V.M
