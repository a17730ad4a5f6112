/-
  Parts of the proof. No condition.
-/
import Derived.Test.YtmlpbmgfmnmmmaaGreatW2aw
set_option linter.unusedVariables false
set_option linter.unusedSimpArgs false
set_option maxRecDepth 8000
set_option maxHeartbeats 8000000
open Go.Proofs.Tryz
namespace Go.Proofs.YtmlpbmgfmnmmmaaGreat.V.M
section
attribute [local irreducible] GO GX
def kr (a b s:Nat):Gr:=⟨a,b,s,[],List.replicate 8 0,0,0⟩
theorem aa0 (a b s:Nat)(ha:0<a∧a≤65536)(hb:b≤65536)(hs:s<ed):js (kr a b s):=by
 refine⟨⟨⟨?_,fun n hn=>?_,hs,by simp[kr]⟩,ha,fun i x h=>by simp[kr] at h,fun i x h=>by simp[kr] at h⟩,⟨by simp[kr],by simp[kr]⟩,fun i x h=>by simp[kr] at h,fun i j x y h=>by simp[kr] at h,fun x h=>by simp[kr] at h,fun x h=>by simp[kr] at h,by simp[kr],rfl,⟨bh _,hb⟩,fun x h=>by simp[kr] at h,fun x h=>by simp[kr] at h,fun x h=>by simp[kr] at h⟩
 ·have e:eZ (kr a b s).list (kr a b s).cells=List.replicate 8 none:=by simp[eZ,kr]
  rw[e];exact eP.empty _ 8 (by decide)
 ·have:=List.eq_of_mem_replicate (show n∈List.replicate 8 0 from hn);omega
def uU (g cb k:Nat):Option Lb:=if k=g then some .top else if k=cb then some .ju else none
theorem ab2 (n m:Int)(s:Nat)(w:World) :
  aj prog 42 [.int .i64 n, .int .i64 m,uV s].toArray w fun v w'=>
   ((¬(1≤n∧n≤65536∧1≤m∧m≤65536)∧v = .tuple #[.pointer none,iV 2]) ∨
    (1≤n∧n≤65536∧1≤m∧m≤65536)∧∃g cb,v = .tuple #[ak g,iV 0]∧w.heap.size≤g∧w.heap.size≤cb∧GM w' g (kr n.toNat m.toNat s) (uU g cb) none none 0 cb 8 [])∧Ext w w':=by
 refine aj.enter func42 rfl ntmps42 rfl (go ?_);refine dj (fun h1=>?_) (fun h1=>?_)<;>refine go ?_
 ·exact⟨.inl ⟨by omega,rfl⟩,Mod.refl w⟩
 refine dj (fun h2=>?_) (fun h2=>?_)<;>refine go ?_
 ·exact⟨.inl ⟨by omega,rfl⟩,Mod.refl w⟩
 refine dj (fun h3=>?_) (fun h3=>?_)<;>refine go ?_
 ·exact⟨.inl ⟨by omega,rfl⟩,Mod.refl w⟩
 refine dj (fun h4=>?_) (fun h4=>?_)<;>refine go ?_
 ·exact⟨.inl ⟨by omega,rfl⟩,Mod.refl w⟩
 refine GX.makeSlice rfl rfl rfl rfl rfl rfl ah ah ah ah fun b w1 hb hO hE=>go ?_
 refine GX.box rfl rfl rfl rfl (by rfl) fun g w2 hg qh di=>go ?_
 have aR:b≠g:=by have:=hO.block.2;omega
 have iW:aG w2 3 1 (some b) (some ⟨b,0,none⟩) 8 8 (aD (List.replicate 8 0)):=by
  have h1:=hO.ext di;rw[←NG];simpa[Value.cells] using h1
 refine⟨.inr ⟨by omega,g,b,rfl,by have:=hE.size;omega,by omega,?_,by simp[uU],aG.nil _ _ _,by simp,fun _=>rfl,by simpa[kr] using iW,by simp[uU,aR],rfl,fun i b x h=>by simp at h,fun k hk=>?_⟩,hE.trans di⟩
 ·have e1:((n.toNat:Nat):Int)=n:=by omega
  have e2:((m.toNat:Nat):Int)=m:=by omega
  simp only[kr,e1,e2];exact qh
 ·unfold uU at hk;split at hk
  ·rename_i e;subst e;exact qh.lt
  ·split at hk
   ·rename_i e;subst e;exact iW.block.2
   ·exact absurd rfl hk
theorem Lh (l:List Nat)(n c:Nat)(hn:l.length=n)(hl:n≤2^40)(a:Option Addr)(h0:a=none→n=0)(w:World)(hA:bM w a (aD l)) :
  aj prog 131 [.slice a n c].toArray w fun v w'=>(∃ob a' c',v = .slice a' n c'∧aG w' 3 1 ob a' n c' (aD l)∧(∀b,ob=some b→w.heap.size≤b)∧(ob=none→a'=none))∧Ext w w':=by
 subst hn;refine aj.enter func131 rfl ntmps131 rfl (go ?_);cases a with
 |none=>
  have S0:=h0 rfl;have ur:l=[]:=ga S0;subst ur;refine go ?_;exact⟨⟨none,none,0,rfl,aG.nil _ _ _,by simp,fun _=>rfl⟩,Mod.refl w⟩
 |some x=>
  refine go ?_;refine GX.GS rfl rfl rfl fun b w1 hb hO hE=>go ?_
  refine GX.append hO (hA.mod hE fun _ _ h=>h) rfl rfl rfl rfl rfl rfl (by simp) (qM l) ah ah fun cO a' c' w2 iW gX jS acC=>go ?_
  rw[dA] at iW ⊢;refine⟨⟨cO,a',c',rfl,by simpa using iW,fun q hq=>?_,Gv (fun h=>by cases h) acC⟩,?_⟩
  ·rcases jS q hq with h|h
   ·cases h;omega
   ·have:=hE.size;omega
  ·exact Mod.then hE gX fun i hi e=>by cases e;omega
section
variable {P:Program}{ops:Array Oper}{Q:Exit→Act→World→Prop}{n:Nat}
variable {i:Nat}{e:Env}{w:World}{ty:TypeId}{pos:String}{an:Array Edge}{g:Option (Nat×Bool)}
theorem GX.Zy [Fr]{T:Nat→Prop}{w0:World}{p:bZ}{dst:Option Tmp}{t:TypeId}{x:Operand}{v:Value}{l:List Value}
  (ho:ops[i]?=some ⟨dst, .box t x,ty,pos,an,g⟩) (hw:aH ops e ⟨dst, .box t x,ty,pos,an,g⟩=some true) (hx:ev e x=some v) (hd:fits n dst=true) (hv:v.cells.toList=l)
  (h:∀b w',b=w.heap.size→cD w' b l→Ext w w'→GX P ops Q (Mod T w0) n p (e.put dst (.pointer (some ⟨b,0,none⟩))) w'):GX P ops Q (Mod T w0) n (.ax i p) e w:=
 GX.ax ho (GO.box hv hw hx hd fun b w' h1 h2 h3=>⟨fun _ hS=>hS.trans h3.mod,h b w' h1 h2 h3⟩)
end
theorem GM.Y9 {w w':World}{g:Nat}{G:Gr}{ow du:Nat→Option Lb}{ol:Option Nat}{al:Option Addr}{cl cb cc:Nat}{bs:List Nat}(h:GM w g G ow ol al cl cb cc bs){nb qe:Nat}{jg:Option Nat}{oC:Option Addr}{x:Nd}
  (hk:∀k q,ow k=some q→du k=some q) (hl:∀k,du k≠none→k<w'.heap.size) (iC:∀b,jg=some b→du b=some .arr) (pN:jg=none→oC=none) (hm:Mod (fun k=>some k=ol∨k=g) w w')
  (hB:cD w' g [.int .i64 G.cL, .int .i64 G.dd,uV G.aJ, .slice oC (G.list.length+1) qe, .slice (some ⟨cb,0,none⟩) G.cells.length cc, .int .i64 G.cp, .int .i64 G.cT])
  (hO:aG w' 244 1 jg oC (G.list.length+1) qe (bg (bs++[nb]))) (hN:rr w' du G.list.length nb x) :
  GM w' g { G with list:=G.list++[x]} du jg oC qe cb cc (bs++[nb]):=by
 have hS:∀{c p},ow c=some p→p ≠ .top→p ≠ .arr→¬(some c=ol∨c=g):=fun {c p} e h1 h2 hx=>by
  rcases hx with hx|hx
  ·exact lr e (h.iG c hx.symm) h2 rfl
  ·exact lr e h.fG h1 hx
 refine⟨by simpa using hB,hk _ _ h.fG,by simpa using hO,iC,pN,h.ju.mod hm (fun y hy=>by cases hy;exact hS h.ng (by simp) (by simp)),hk _ _ h.ng,by simp[h.len],fun j c y h1 h2=>?_,hl⟩
 by_cases hj:j<G.list.length
 ·rw[gr hj] at h2;rw[gr (by have:=h.len;omega)] at h1;exact((h.node j c y h1 h2).mod hm fun d p e hp=>hS e (by rcases hp with rfl|rfl|rfl<;>simp) (by rcases hp with rfl|rfl|rfl<;>simp)).up hk
 ·have xV:=(aV.1 h2).1;simp only[bJ,dR,tF] at xV;have vX:j=G.list.length:=by omega
  subst vX;have hl:=h.len;have e1:c=nb:=by simpa[ia,hl] using h1.symm
  have e2:y=x:=by simpa[ia] using h2.symm
  subst e1 e2;exact hN
theorem CF {ow:Nat→Option Lb}{ob:Option Nat}{p:Lb}{k:Nat}(h:ow k=none)(hk:ob≠some k):cM ow ob p k=none:=by
 unfold cM;rw[if_neg (fun e=>hk e.symm)];exact h
theorem JA {ow:Nat→Option Lb}{p:Lb}{k:Nat}:cM ow (some k) p k=some p:=by simp[cM]
theorem JB {ow:Nat→Option Lb}{ob:Option Nat}{p:Lb}{k:Nat}(h:cM ow ob p k≠none):ow k≠none∨ob=some k:=by
 unfold cM at h;split at h
 ·rename_i e;exact .inr e.symm
 ·exact .inl h
theorem abW {w:World}{g:Nat}{G:Gr}{ow:Nat→Option Lb}{ol:Option Nat}{al:Option Addr}{cl cb cc:Nat}{bs:List Nat}(hG:GM w g G ow ol al cl cb cc bs)(hn:G.cL≠0)(hL:G.list.length≤2^20)(hC:0<G.cells.length∧G.cells.length≤2^20)
  (hd:∀x∈G.list,x.down.length≤2^20∧x.up.length≤2^20) :
  aj prog 69 [ak g].toArray w fun v w'=>
   (∃c du jg oC qe sF KQ Dm,v=ak c∧GM w' c G du jg oC qe sF KQ Dm∧∀k,du k≠none→w.heap.size≤k)∧Ext w w':=by
 have hT:=hG.top;refine aj.enter func69 rfl ntmps69 rfl (go ?_);refine GX.da (Hx hG hn) rfl rfl rfl rfl rfl rfl (go ?_);refine GX.alloc rfl rfl rfl fun c w1 hc DL cW=>go ?_
 refine GX.store DL rfl rfl rfl rfl rfl rfl rfl (by
  intro u hu;simp[Value.cells] at hu
  rcases hu with rfl|rfl|rfl|rfl|rfl|rfl|rfl<;>rfl) rfl fun w2 qh gX=>?_
 have qh:cD w2 c [.int .i64 G.cL, .int .i64 G.dd,uV G.aJ, .slice al G.list.length cl, .slice (some ⟨cb,0,none⟩) G.cells.length cc, .int .i64 G.cp, .int .i64 G.cT]:=qh;have di:=Mod.then cW gX (S:=fun _=>False) fun i hi e=>by omega
 have gN:=hG.ext di;have qq:=gN.top;refine go ?_;refine GX.call (Lh G.cells G.cells.length cc rfl ah _ (fun h=>by cases h) _ gN.ju.bR) rfl rfl rfl rfl rfl rfl ?_;rintro _ w3 ⟨⟨Wq,ac,GY,rfl,LN,Mb,Ti⟩,iy⟩;obtain⟨sF,acN⟩:∃q,Wq=some q:=by
  cases Wq with
  |some q=>exact⟨q,rfl⟩
  |none=>
   have h1:=Ti rfl;subst h1;obtain⟨_,⟨_,_,_,h2⟩|⟨b,h2,_⟩⟩:=LN
   ·have:=h2 rfl;omega
   ·cases h2
 subst acN;obtain⟨rfl,amp⟩:=LN.block;have amq:=Mb sF rfl;have Sr:¬sF=c:=by have:=qh.lt;omega
 refine go ?_;refine GX.yV (qh.ext iy) rfl rfl rfl rfl (by rfl) (by rfl) (by rfl) (by rfl) fun w4 hB4 MI=>go ?_
 refine GX.yV hB4 rfl rfl rfl rfl (by rfl) (by rfl) (by rfl) (by rfl) fun w5 RG wa=>go ?_
 have DN:Mod (fun _=>False) w w5:=Mod.then (di.trans iy) (MI.trans wa) fun i hi e=>by omega
 have ql:=hG.ext DN;have BB:=ql.top;have hGc:GM w5 c { G with list:=G.list.take 0} (uU c sF) none none 0 sF GY []:=by
  refine⟨RG,by simp[uU],aG.nil _ _ _,by simp,fun _=>rfl,LN.mod (MI.trans wa) (fun x hx e=>by cases hx;exact Sr e),by simp[uU,Sr],rfl,fun i b x h=>by simp at h,fun k hk=>?_⟩;have:=(MI.trans wa).size;unfold uU at hk;split at hk
  ·rename_i e;subst e;exact RG.lt
  ·split at hk
   ·rename_i e;subst e;omega
   ·exact absurd rfl hk
 refine go ?_;refine GC.bP [3,21,22] (fun s:Nat=>[(23, .int .i64 s)])
  (fun s w'=>s≤G.list.length∧∃du jg oC qe Dm,GM w' c { G with list:=G.list.take s} du jg oC qe sF GY Dm∧(∀k,du k≠none→w.heap.size≤k)∧Ext w w') (fun s=>G.list.length - s)
  0 rfl rfl ⟨bh _,_,_,_,_,_,hGc,fun k hk=>?_,DN⟩ ?_
 ·unfold uU at hk;split at hk
  ·omega
  ·split at hk
   ·have:=di.size;omega
   ·exact absurd rfl hk
 rintro i w6 ⟨hi,jW,wL,PZ,QA,Bk,iK,Ez,gV⟩;refine go ?_;refine dj (fun aP=>?_) (fun aP=>?_)<;>refine go ?_
 ·have S6:i<G.list.length:=by omega
  have hx:G.list[i]?=some (G.list[i]'S6):=by simp
  generalize G.list[i]'S6=x at hx;have D9:bs[i]?=some (bs[i]'(by have:=hG.len;omega)):=by simp
  generalize bs[i]'(by have:=hG.len;omega)=bx at D9;have RQ:=hG.ext gV;obtain⟨v1,v2,uv,gY,⟨od,ad,cd,e1,RY,_,bX⟩,⟨ou,au,cu,e2,DW,_,hnu⟩⟩:=RQ.node i bx x D9 hx;subst e1 e2;obtain⟨lb,lo,b6,lH⟩:=sg RQ.arr.bR D9;subst b6;have zL:=hd x (bF hx);obtain⟨G6,RN,iK⟩:∃G6:Gr,G6={ G with list:=G.list.take i}∧GM w6 c G6 jW wL PZ QA sF GY Bk:=⟨_,rfl,iK⟩
  have hl6:G6.list.length=i:=by rw[RN];simp only[dE];omega
  refine GX.next rfl (GO.indexAddr rfl rfl rfl rfl ah ah rfl ?_);refine GX.lj (lH (i:Int) ah) rfl rfl rfl rfl (go ?_);have R5:=iK.top;have R7:¬some c=wL:=fun h=>lr iK.fG (iK.iG c h.symm) (by simp) rfl
  have acr:¬some bx=wL:=fun h=>by
   have h1:=Ez bx (by rw[iK.iG bx h.symm];simp);have h2:=hG.lt bx (by rw[gY];simp);omega
  refine GC.o5 (aZ [0,6,9,12,18,21,24,27,36,39,42,45,57,60,63,4,16,31,49,67,35,53,54,69,74,77,80,81,86]) (fun k=>some k=wL) mixed ai ai (go ?_)
  repeat(
   refine go ?_
   first
   |refine GX.read rfl (GO.rQ rfl rfl rfl R5 R7 (Ext.drew _).mod (by rfl) ?_)
   |refine GX.read rfl (GO.rQ rfl rfl rfl uv acr (Ext.drew _).mod (by rfl) ?_)
   |refine GX.pure rfl (GO.lO rfl rfl rfl rfl (by decide) (by decide) rfl ?_))
  refine go ?_;have dn0:ad=none→x.down.length=0:=fun h=>by
   obtain⟨_,⟨_,_,_,h2⟩|⟨b,_,h2,_⟩⟩:=RY
   ·exact h2 h
   ·rw[h] at h2;cases h2
  have up0:au=none→x.up.length=0:=fun h=>by
   obtain⟨_,⟨_,_,_,h2⟩|⟨b,_,h2,_⟩⟩:=DW
   ·exact h2 h
   ·rw[h] at h2;cases h2
  refine GX.Dn (Lh x.down x.down.length cd rfl ah ad dn0 _ (RY.ext (Ext.drew w6)).bR) (fun _ _ h=>h.2.mod) rfl rfl rfl rfl rfl rfl ?_;rintro _ w7 ⟨⟨pT,PU,Qs,rfl,LO,sQ,MM⟩,oI⟩;refine go ?_;refine GX.Dn (Lh x.up x.up.length cu rfl ah au up0 _ ((DW.ext (Ext.drew w6)).ext oI).bR) (fun _ _ h=>h.2.mod) rfl rfl rfl rfl rfl rfl ?_;rintro _ w8 ⟨⟨rY,P6,QS,rfl,LP,hbu,adD⟩,vK⟩;refine go ?_;refine GX.pure rfl (GO.KK rfl rfl rfl rfl rfl rfl (go ?_));refine GX.Zy rfl rfl rfl rfl (by rfl) fun nb w9 wc HC sN=>go ?_
  refine GX.CT rfl rfl rfl rfl rfl rfl rfl rfl rfl fun sb y4 sX DV rA=>go ?_
  have RJ:Ext w6 y4:=(((Ext.drew w6).trans oI).trans vK).trans (sN.trans rA);have sO:=iK.ext RJ;refine GX.Bh sO.arr DV.bR (fun k h=>h) rfl rfl rfl rfl rfl rfl rfl (CL [nb]) ah ah fun mw PY Qy Kg LJ xX adt Sd=>go ?_
  have LX:=sO.top.mod xX R7;refine GX.FY LX (.inr ai) rfl rfl rfl rfl (by rfl) (by rfl) (by rfl) (by rfl) fun C4 Lq Ev=>go ?_
  have hm:Mod (fun k=>some k=wL∨k=c) y4 C4:=(xX.weaken fun q _ e => .inl e).trans (Ev.weaken fun q _ e => .inr e);have s6:w6.heap.size≤w6.drew.heap.size:=(Ext.drew w6).size;have s7:=oI.size;have s8:=vK.size;have s9:=sN.size;have s10:=rA.size;have s12:=hm.size;have amT:=HC.lt;have IG:∀k,mw=some k→jW k=some .arr∨(jW k=none∧y4.heap.size≤k):=fun k hk=>by
   rcases adt k hk with h|h
   ·exact .inl (sO.iG k h)
   ·exact .inr ⟨wH sO h,h⟩
  have n11:∀k,jW k=none→k<y4.heap.size→mw≠some k:=fun k h1 h2 e=>by
   rcases IG k e with h|h
   ·rw[h1] at h;cases h
   ·omega
  have Ro:jW nb=none:=wH iK ah;have fd:∀d,pT=some d→w6.drew.heap.size≤d∧d<w7.heap.size:=fun d e=>⟨sQ d e,by rw[e] at LO;exact LO.block.2⟩
  have fu:∀d,rY=some d→w7.heap.size≤d∧d<w8.heap.size:=fun d e=>⟨hbu d e,by rw[e] at LP;exact LP.block.2⟩
  have k1:=AD (ow:=jW) (ob:=mw) (p := .arr) (fun k hk=>(IG k hk).imp id (·.1));have z2:cM jW mw .arr nb=none:=CF Ro (n11 nb Ro ah);have k2:=AD (ow:=cM jW mw .arr) (ob:=some nb) (p := .nd i) (fun k hk=>by cases hk;exact .inr z2);have z3:∀d,pT=some d→cM (cM jW mw .arr) (some nb) (.nd i) d=none:=fun d e=>by
   have h1:=fd d e;have h2:jW d=none:=wH iK ah;exact CF (CF h2 (n11 d h2 ah)) (fun h=>by cases h;omega)
  have k3:=AD (ow:=cM (cM jW mw .arr) (some nb) (.nd i)) (ob:=pT) (p := .dn i) (fun k hk => .inr (z3 k hk));have z4:∀d,rY=some d→cM (cM (cM jW mw .arr) (some nb) (.nd i)) pT (.dn i) d=none:=fun d e=>by
   have h1:=fu d e;have h2:jW d=none:=wH iK ah;exact CF (CF (CF h2 (n11 d h2 ah)) (fun h=>by cases h;omega)) (fun h=>by have:=fd d h;omega)
  have k4:=AD (ow:=cM (cM (cM jW mw .arr) (some nb) (.nd i)) pT (.dn i)) (ob:=rY) (p := .up i) (fun k hk => .inr (z4 k hk));have hS:∀{k p},cM (cM (cM (cM jW mw .arr) (some nb) (.nd i)) pT (.dn i)) rY (.up i) k=some p→p ≠ .top→p ≠ .arr→¬(some k=wL∨k=c):=fun {k p} e h1 h2 hx=>by
   rcases hx with hx|hx
   ·have h3:=k4 _ _ (k3 _ _ (k2 _ _ (k1 _ _ (iK.iG k hx.symm))));rw[e] at h3;cases h3;exact h2 rfl
   ·subst hx;have h3:=k4 _ _ (k3 _ _ (k2 _ _ (k1 _ _ iK.fG)));rw[e] at h3;cases h3;exact h1 rfl
  have VF:cM (cM (cM (cM jW mw .arr) (some nb) (.nd i)) pT (.dn i)) rY (.up i) nb=some (.nd i):=k4 _ _ (k3 _ _ JA);have ld:∀d,pT=some d→cM (cM (cM (cM jW mw .arr) (some nb) (.nd i)) pT (.dn i)) rY (.up i) d=some (.dn i):=fun d e=>k4 _ _ (by rw[e];exact JA)
  have lu:∀d,rY=some d→cM (cM (cM (cM jW mw .arr) (some nb) (.nd i)) pT (.dn i)) rY (.up i) d=some (.up i):=fun d e=>by rw[e];exact JA
  have hN:rr C4 (cM (cM (cM (cM jW mw .arr) (some nb) (.nd i)) pT (.dn i)) rY (.up i)) G6.list.length nb x:=by
   rw[hl6];refine⟨.slice PU x.down.length Qs, .slice P6 x.up.length QS,(HC.ext rA).mod hm (hS VF (by simp) (by simp)),VF,p9.mod (S:=fun k=>some k=wL∨k=c) (w:=y4) ⟨pT,PU,Qs,rfl,((LO.ext vK).ext (sN.trans rA)),ld,MM⟩ hm (fun b hb=>hS hb (by simp) (by simp)),p9.mod (S:=fun k=>some k=wL∨k=c) (w:=y4) ⟨rY,P6,QS,rfl,(LP.ext (sN.trans rA)),lu,adD⟩ hm (fun b hb=>hS hb (by simp) (by simp))⟩
  have LK:aG C4 244 1 mw PY (G6.list.length+1) Qy (bg (Bk++[nb])):=by
   have h1:=LJ.mod Ev (fun y hy e=>by
    have h2:=KE sO.arr sO.mv Sd y hy
    rcases IG _ h2 with h3|h3
    ·rw[e,sO.fG] at h3;cases h3
    ·rw[e,sO.fG] at h3;cases h3.1)
   rw[show bg (Bk++[nb])=bg Bk++[ak nb] by simp[bg]];exact h1
  have adp:∀k,cM (cM (cM (cM jW mw .arr) (some nb) (.nd i)) pT (.dn i)) rY (.up i) k≠none→k<C4.heap.size:=CE (CE (CE (CE (fun k hk=>j4 (sO.lt k hk) s12) (fun k e=>by
   rw[e] at LK;exact LK.block.2)) (fun k e=>by cases e;omega)) (fun k e=>by have:=fd k e;omega)) (fun k e=>by have:=fu k e;omega)
  have RP:=sO.Y9 (x:=x) (fun k q e=>k4 _ _ (k3 _ _ (k2 _ _ (k1 _ _ e)))) adp (fun b e=>k4 _ _ (k3 _ _ (k2 _ _ (by rw[e];exact JA)))) (Gv sO.mv Sd) hm Lq LK hN;have HU:w.heap.size≤c:=by omega
  refine GQ.br (i+1) rfl ⟨by omega,cM (cM (cM (cM jW mw .arr) (some nb) (.nd i)) pT (.dn i)) rY (.up i),mw,PY,Qy,Bk++[nb],?_,fun k hk=>?_,Mod.then (gV.trans RJ) hm fun k hk e=>?_⟩ ah
  ·have e:({ G6 with list:=G6.list++[x]}:Gr)={ G with list:=G.list.take (i+1)}:=by
    rw[RN];simp only[ic,hx,Option.toList_some]
   rw[e] at RP;exact RP
  ·rcases JB hk with h|h
   ·rcases JB h with h|h
    ·rcases JB h with h|h
     ·rcases JB h with h|h
      ·exact Ez k h
      ·rcases IG k h with h1|h1
       ·exact Ez k (by rw[h1];simp)
       ·have:=gV.size;omega
     ·cases h;have:=gV.size;omega
    ·have:=fd k h;have:=gV.size;omega
   ·have:=fu k h;have:=gV.size;omega
  ·rcases e with h|h
   ·have:=Ez k (by rw[iK.iG k h.symm];simp);omega
   ·omega
 have BK:i=G.list.length:=by omega
 have e:({ G with list:=G.list.take i}:Gr)=G:=by rw[eO ah]
 rw[e] at iK;refine go ?_;exact⟨⟨c,jW,wL,PZ,QA,sF,GY,Bk,rfl,iK,Ez⟩,gV⟩
end
section
def Db (L:List Nd):Prop:=∀(a:Nat) (x:Nd),L[a]?=some x→∀b∈x.down,b<L.length
theorem dp.sI {G H:Gr}(h:dp G H){u v:Bs}:eV H u v↔eV G u v:=by
 have key:∀{G H:Gr},dp G H→eV H u v→eV G u v:=by
  rintro G H h ⟨a,b,x,y,h1,h2,h3,h4,h5⟩;obtain⟨x',q1,q2,q3,_⟩:=h.get h1;obtain⟨y',r1,r2,_⟩:=h.get h4;exact⟨a,b,x',y',q1,q2▸h2,q3▸h3,r1,r2▸h5⟩
 exact⟨key h,key h.symm⟩
theorem iI.get {G H:Gr}{k:Bs}{n:Nat}(h:iI G H k n){i:Nat}{x:Nd}(hx:H.list[i]?=some x):G.list[i]?=some x∨(i=G.list.length∧x=⟨k,[],[],0⟩):=by
 rcases h.list with⟨h1,_⟩|⟨_,_,h1⟩
 ·rw[h1] at hx;exact .inl hx
 ·rw[h1] at hx
  by_cases hi:i<G.list.length
  ·rw[gr hi] at hx;exact .inl hx
  ·rw[ia ah] at hx;obtain⟨h2,h3⟩:=aV.1 hx;simp only[dR,tF] at h2;have El:i=G.list.length:=by omega
   subst El;simp at h3;exact .inr ⟨rfl,h3.symm⟩
theorem iI.QZ {G H:Gr}{k:Bs}{n:Nat}(h:iI G H k n)(hd:Db G.list):Db H.list:=by
 intro a x hx b hb
 rcases h.get hx with h1|⟨_,rfl⟩
 ·have h2:=hd a x h1 b hb;have h3:=h.length;omega
 ·cases hb
theorem iI.sI {G H:Gr}{k:Bs}{n:Nat}(h:iI G H k n)(hd:Db G.list){u v:Bs}:eV H u v↔eV G u v:=by
 constructor
 ·rintro⟨a,b,x,y,h1,h2,h3,h4,h5⟩
  rcases h.get h1 with q|⟨_,rfl⟩
  ·have hb:=hd a x q b h3
   rcases h.get h4 with r|⟨r,_⟩
   ·exact⟨a,b,x,y,q,h2,h3,r,h5⟩
   ·omega
  ·cases h3
 ·rintro⟨a,b,x,y,h1,h2,h3,h4,h5⟩;exact⟨a,b,x,y,h.nV h1,h2,h3,h.nV h4,h5⟩
theorem O4 {L:List Nd}{a b:Nat}{xa xb:Nd}(ha:a<L.length)(hb:b<L.length)(eR:a≠b)(j:Nat):((L.set a xa).set b xb)[j]?=if j=b then some xb else if j=a then some xa else L[j]?:=by
 by_cases h1:j=b
 ·subst h1;rw[dJ (by simpa using hb),if_pos rfl]
 ·rw[dH (fun h=>h1 h.symm),if_neg h1]
  by_cases h2:j=a
  ·subst h2;rw[dJ ha,if_pos rfl]
  ·rw[dH (fun h=>h2 h.symm),if_neg h2]
theorem alQ {G H:Gr}{a b:Nat}{xa xb:Nd}(ha:G.list[a]?=some xa)(hb:G.list[b]?=some xb)(eR:a≠b)(hH:H.list=(G.list.set a { xa with down:=xa.down++[b]}).set b { xb with up:=xb.up++[a]}){u v:Bs} :
  eV H u v↔eV G u v∨(u=xa.key∧v=xb.key):=by
 have b6:=(aV.1 ha).1;have fq:=(aV.1 hb).1;have hg:∀j:Nat,H.list[j]?=if j=b then some { xb with up:=xb.up++[a]} else if j=a then some { xa with down:=xa.down++[b]} else G.list[j]?:=fun j=>by rw[hH];exact O4 b6 fq eR j
 have Pp:∀(j:Nat) (y:Nd),G.list[j]?=some y→∃y',H.list[j]?=some y'∧y'.key=y.key∧∀e∈y.down,e∈y'.down:=fun j y hy=>by
  rw[hg]
  by_cases h1:j=b
  ·subst h1;rw[hb] at hy;cases hy;rw[if_pos rfl];exact⟨_,rfl,rfl,fun e h=>h⟩
  ·rw[if_neg h1]
   by_cases h2:j=a
   ·subst h2;rw[ha] at hy;cases hy;rw[if_pos rfl];exact⟨_,rfl,rfl,fun e h=>tH _ h⟩
   ·rw[if_neg h2];exact⟨y,hy,rfl,fun e h=>h⟩
 have yY:∀(j:Nat) (y':Nd),H.list[j]?=some y'→∃y,G.list[j]?=some y∧y'.key=y.key∧∀e∈y'.down,e∈y.down∨(j=a∧e=b):=fun j y' hy=>by
  rw[hg] at hy
  by_cases h1:j=b
  ·subst h1;rw[if_pos rfl] at hy;cases hy;exact⟨xb,hb,rfl,fun e h => .inl h⟩
  ·rw[if_neg h1] at hy
   by_cases h2:j=a
   ·subst h2;rw[if_pos rfl] at hy;cases hy;refine⟨xa,ha,rfl,fun e h=>?_⟩
    rcases cJ.1 h with h|h
    ·exact .inl h
    ·simp at h;exact .inr ⟨rfl,h⟩
   ·rw[if_neg h2] at hy;exact⟨y',hy,rfl,fun e h => .inl h⟩
 constructor
 ·rintro⟨i,j,x,y,h1,h2,h3,h4,h5⟩;obtain⟨x',q1,q2,q3⟩:=yY i x h1;obtain⟨y',r1,r2,_⟩:=yY j y h4
  rcases q3 j h3 with h|⟨rfl,rfl⟩
  ·exact .inl ⟨i,j,x',y',q1,q2▸h2,h,r1,r2▸h5⟩
  ·rw[ha] at q1;cases q1;rw[hb] at r1;cases r1;exact .inr ⟨h2.symm.trans q2,h5.symm.trans r2⟩
 ·rintro(⟨i,j,x,y,h1,h2,h3,h4,h5⟩|⟨rfl,rfl⟩)
  ·obtain⟨x',q1,q2,q3⟩:=Pp i x h1;obtain⟨y',r1,r2,_⟩:=Pp j y h4;exact⟨i,j,x',y',q1,q2.trans h2,q3 j h3,r1,r2.trans h5⟩
  ·obtain⟨y',r1,r2,_⟩:=Pp b xb hb;refine⟨a,b,{ xa with down:=xa.down++[b]},y',?_,rfl,by simp,r1,r2⟩;rw[hg,if_neg eR,if_pos rfl]
theorem Dd.sI {G H:Gr}{p c:Bs}(h:Dd G H p c)(hi:js G){u v:Bs}:eV H u v↔eV G u v∨(u=p∧v=c):=by
 obtain⟨G0,H1,H2,a,b,hs,_,iL,fD,eR,⟨xa,xb,lM,fM,hH⟩,_⟩:=h.list;have d0:Db G0.list:=(hs.eM hi.eM).down;have d1:=iL.QZ d0;rw[alQ lM fM eR hH,fD.sI d1,iL.sI d0,hs.sI];obtain⟨x1,q1,q2⟩:=iL.at;have q3:=fD.nV q1;rw[lM] at q3;cases q3;obtain⟨y1,r1,r2⟩:=fD.at;rw[fM] at r1;cases r1;rw[q2,r2]
structure j8 (L:List Nd):Prop where
 down:Db L
 nA:∀(a:Nat) (x:Nd),L[a]?=some x→∀b∈x.up,b<L.length
 oW:∀(a b:Nat) (x y:Nd),L[a]?=some x→L[b]?=some y→(b∈x.down↔a∈y.up)
 nM:∀x∈L,x.down.Nodup
 lX:∀x∈L,x.up.Nodup
 keys:∀x∈L,bI x.key=true
theorem js.nodes {G:Gr}(h:js G):j8 G.list:=⟨h.eM.down,h.nA,h.oW,h.nM,h.lX,h.keys⟩
theorem dp.nodes {G H:Gr}(h:dp G H)(k:j8 G.list):j8 H.list:=by
 have hl:=h.length;refine⟨fun a x hx b hb=>?_,fun a x hx b hb=>?_,fun a b x y hx hy=>?_,fun x hx=>?_,fun x hx=>?_,fun x hx=>?_⟩
 ·obtain⟨y,h1,_,h2,_⟩:=h.get hx;have:=k.down a y h1 b (h2▸hb);omega
 ·obtain⟨y,h1,_,_,h2⟩:=h.get hx;have:=k.nA a y h1 b (h2▸hb);omega
 ·obtain⟨x',h1,_,h2,_⟩:=h.get hx;obtain⟨y',r1,_,_,r2⟩:=h.get hy;rw[h2,r2];exact k.oW a b x' y' h1 r1
 all_goals
  obtain⟨j,hj⟩:=ej hx;obtain⟨y,h1,h0,h2,h3⟩:=h.get hj;have hm:=bF h1
 ·rw[h2];exact k.nM y hm
 ·rw[h3];exact k.lX y hm
 ·rw[h0];exact k.keys y hm
theorem iI.nodes {G H:Gr}{k:Bs}{n:Nat}(h:iI G H k n)(hk:bI k=true)(i:j8 G.list):j8 H.list:=by
 have hl:=h.length;refine⟨h.QZ i.down,fun a x hx b hb=>?_,fun a b x y hx hy=>?_,fun x hx=>?_,fun x hx=>?_,fun x hx=>?_⟩
 ·rcases h.get hx with h1|⟨_,rfl⟩
  ·have:=i.nA a x h1 b hb;omega
  ·cases hb
 ·rcases h.get hx with h1|⟨h1,rfl⟩<;>rcases h.get hy with h2|⟨h2,rfl⟩
  ·exact i.oW a b x y h1 h2
  ·refine⟨fun hb=>?_,fun hb=>(by cases hb)⟩;have:=i.down a x h1 b hb;omega
  ·refine⟨fun hb=>(by cases hb),fun hb=>?_⟩;have:=i.nA b y h2 a hb;omega
  ·exact⟨fun hb=>(by cases hb),fun hb=>(by cases hb)⟩
 all_goals rcases h.mem hx with h1|rfl
 ·exact i.nM x h1
 ·exact mF
 ·exact i.lX x h1
 ·exact mF
 ·exact i.keys x h1
 ·exact hk
theorem alR {L M:List Nd}{a b:Nat}{xa xb:Nd}(ha:L[a]?=some xa)(hb:L[b]?=some xb)(eR:a≠b)(hM:M=(L.set a { xa with down:=xa.down++[b]}).set b { xb with up:=xb.up++[a]})(bG:b∉xa.down)(i:j8 L):j8 M:=by
 have b6:=(aV.1 ha).1;have fq:=(aV.1 hb).1;have hlen:M.length=L.length:=by rw[hM];simp
 have yY:∀(j:Nat) (y':Nd),M[j]?=some y'→∃y,L[j]?=some y∧y'.key=y.key∧y'.down=(if j=a then y.down++[b] else y.down)∧y'.up=(if j=b then y.up++[a] else y.up):=fun j y' hy=>by
  rw[hM,O4 b6 fq eR] at hy
  by_cases h1:j=b
  ·subst h1;rw[if_pos rfl] at hy;cases hy;exact⟨xb,hb,rfl,by rw[if_neg (fun h=>eR h.symm)],by rw[if_pos rfl]⟩
  ·rw[if_neg h1] at hy
   by_cases h2:j=a
   ·subst h2;rw[if_pos rfl] at hy;cases hy;exact⟨xa,ha,rfl,by rw[if_pos rfl],by rw[if_neg h1]⟩
   ·rw[if_neg h2] at hy;exact⟨y',hy,rfl,by rw[if_neg h2],by rw[if_neg h1]⟩
 have adB:a∉xb.up:=fun h=>bG ((i.oW a b xa xb ha hb).2 h)
 refine⟨fun j x hx e he=>?_,fun j x hx e he=>?_,fun j k x y hx hy=>?_,fun x hx=>?_,fun x hx=>?_,fun x hx=>?_⟩
 ·obtain⟨y,h1,_,h2,_⟩:=yY j x hx;rw[hlen];rw[h2] at he;split at he
  ·rcases cJ.1 he with h|h
   ·exact i.down j y h1 e h
   ·simp at h;omega
  ·exact i.down j y h1 e he
 ·obtain⟨y,h1,_,_,h2⟩:=yY j x hx;rw[hlen];rw[h2] at he;split at he
  ·rcases cJ.1 he with h|h
   ·exact i.nA j y h1 e h
   ·simp at h;omega
  ·exact i.nA j y h1 e he
 ·obtain⟨x',h1,_,h2,_⟩:=yY j x hx;obtain⟨y',r1,_,_,r2⟩:=yY k y hy;have hm:=i.oW j k x' y' h1 r1;rw[h2,r2]
  by_cases Ii:j=a<;>by_cases mq:k=b
  ·subst Ii mq;simp
  ·subst Ii;simp[mq,hm]
  ·subst mq;simp[Ii,hm]
  ·simp[Ii,mq,hm]
 all_goals
  obtain⟨j,hj⟩:=ej hx;obtain⟨y,h1,h0,h2,h3⟩:=yY j x hj;have hm:=bF h1
 ·rw[h2];split
  ·rename_i e;subst e
   rw[ha] at h1;cases h1;exact gu.2 ⟨i.nM _ hm,by simp,fun u hu v hv=>by simp at hv;subst hv;exact fun e=>bG (e▸hu)⟩
  ·exact i.nM y hm
 ·rw[h3];split
  ·rename_i e;subst e
   rw[hb] at h1;cases h1;exact gu.2 ⟨i.lX _ hm,by simp,fun u hu v hv=>by simp at hv;subst hv;exact fun e=>adB (e▸hu)⟩
  ·exact i.lX y hm
 ·rw[h0];exact i.keys y hm
theorem aaX (L:List Nd)(f:Nd→Nat):((List.range L.length).map fun m=>((L[m]?).map f).getD 0).sum=(L.map f).sum:=by
 congr 1;apply pb;intro j
 by_cases hj:j<L.length
 ·simp[hj]
 ·simp[hj]
theorem vG (G:Gr):jJ G=(G.list.map (·.down.length)).sum:=aaX G.list (·.down.length)
theorem Ka {L:List Nd}{i:Nat}{x y:Nd}(f:Nd→Nat)(hx:L[i]?=some x):((L.set i y).map f).sum+f x=(L.map f).sum+f y:=by
 induction L generalizing i with
 |nil=>simp at hx
 |cons z r ih=>
  cases i with
  |zero=>simp at hx;subst hx;simp;omega
  |succ i=>
   have:=ih (i:=i) (by simpa using hx);simp only[AY,cK,List.sum_cons];omega
theorem dp.jJ {G H:Gr}(h:dp G H):M.jJ H=M.jJ G:=by
 have:=congrArg (fun l:List (Bs×List Nat×List Nat)=>(l.map fun x=>x.2.1.length).sum) h.list;rw[vG,vG];simpa[nB,Function.comp_def,vb] using this
theorem iI.jJ {G H:Gr}{k:Bs}{n:Nat}(h:iI G H k n):M.jJ H=M.jJ G:=by
 rw[vG,vG]
 rcases h.list with⟨h1,_⟩|⟨_,_,h1⟩
 ·rw[h1]
 ·rw[h1];simp
end
end Go.Proofs.YtmlpbmgfmnmmmaaGreat.V.M
