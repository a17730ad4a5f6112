/-
  Parts of the proof. No condition.
-/
import Derived.Test.YtoloaehmppcjoaaGreatW2av
set_option linter.unusedVariables false
set_option linter.unusedSimpArgs false
set_option maxRecDepth 8000
set_option maxHeartbeats 8000000
open Go.Proofs.Tryz
namespace Go.Proofs.YtoloaehmppcjoaaGreat.V.M
section
attribute [local irreducible] GO GX
def kN (a b s:Nat):Gr:=⟨a,b,s,[],List.replicate 8 0,0,0⟩
theorem aa0 (a b s:Nat)(ha:0<a∧a≤65536)(hb:b≤65536)(hs:s<eu):jM (kN a b s):=by
 refine⟨⟨⟨?_,fun n hn=>?_,hs,by simp[kN]⟩,ha,fun i x h=>by simp[kN] at h,fun i x h=>by simp[kN] at h⟩,⟨by simp[kN],by simp[kN]⟩,fun i x h=>by simp[kN] at h,fun i j x y h=>by simp[kN] at h,fun x h=>by simp[kN] at h,fun x h=>by simp[kN] at h,by simp[kN],rfl,⟨bh _,hb⟩,fun x h=>by simp[kN] at h,fun x h=>by simp[kN] at h,fun x h=>by simp[kN] at h⟩
 ·have e:fx (kN a b s).list (kN a b s).cells=List.replicate 8 none:=by simp[fx,kN]
  rw[e];exact fb.empty _ 8 (by decide)
 ·have:=List.eq_of_mem_replicate (show n∈List.replicate 8 0 from hn);omega
def vg (g cb k:Nat):Option Lb:=if k=g then some .top else if k=cb then some .jO else none
theorem acb (n m:Int)(s:Nat)(w:World) :
  aj prog 63 [.int .i64 n, .int .i64 m,uV s].toArray w fun v w'=>
   ((¬(1≤n∧n≤65536∧1≤m∧m≤65536)∧v = .tuple #[.pointer none,iV 2]) ∨
    (1≤n∧n≤65536∧1≤m∧m≤65536)∧∃g cb,v = .tuple #[ak g,iV 0]∧w.heap.size≤g∧w.heap.size≤cb∧GM w' g (kN n.toNat m.toNat s) (vg g cb) none none 0 cb 8 [])∧Ext w w':=by
 refine aj.enter func63 rfl ntmps63 rfl (go ?_);refine dq (fun h1=>?_) (fun h1=>?_)<;>refine go ?_
 ·exact⟨.inl ⟨by omega,rfl⟩,Mod.refl w⟩
 refine dq (fun h2=>?_) (fun h2=>?_)<;>refine go ?_
 ·exact⟨.inl ⟨by omega,rfl⟩,Mod.refl w⟩
 refine dq (fun h3=>?_) (fun h3=>?_)<;>refine go ?_
 ·exact⟨.inl ⟨by omega,rfl⟩,Mod.refl w⟩
 refine dq (fun h4=>?_) (fun h4=>?_)<;>refine go ?_
 ·exact⟨.inl ⟨by omega,rfl⟩,Mod.refl w⟩
 refine GX.makeSlice rfl rfl rfl rfl rfl rfl ah ah ah ah fun b w1 hb hO hE=>go ?_
 refine GX.box rfl rfl rfl rfl (by rfl) fun g w2 hg qI dx=>go ?_
 have aP:b≠g:=by have:=hO.block.2;omega
 have jt:aH w2 3 1 (some b) (some ⟨b,0,none⟩) 8 8 (aG (List.replicate 8 0)):=by
  have h1:=hO.ext dx;rw[←NN];simpa[Value.cells] using h1
 refine⟨.inr ⟨by omega,g,b,rfl,by have:=hE.size;omega,by omega,?_,by simp[vg],aH.nil _ _ _,by simp,fun _=>rfl,by simpa[kN] using jt,by simp[vg,aP],rfl,fun i b x h=>by simp at h,fun k hk=>?_⟩,hE.trans dx⟩
 ·have e1:((n.toNat:Nat):Int)=n:=by omega
  have e2:((m.toNat:Nat):Int)=m:=by omega
  simp only[kN,e1,e2];exact qI
 ·unfold vg at hk;split at hk
  ·rename_i e;subst e;exact qI.lt
  ·split at hk
   ·rename_i e;subst e;exact jt.block.2
   ·exact absurd rfl hk
theorem Lq (l:List Nat)(n c:Nat)(hn:l.length=n)(hl:n≤2^40)(a:Option Addr)(h0:a=none→n=0)(w:World)(hA:bN w a (aG l)) :
  aj prog 155 [.slice a n c].toArray w fun v w'=>(∃ob a' c',v = .slice a' n c'∧aH w' 3 1 ob a' n c' (aG l)∧(∀b,ob=some b→w.heap.size≤b)∧(ob=none→a'=none))∧Ext w w':=by
 subst hn;refine aj.enter func155 rfl ntmps155 rfl (go ?_);cases a with
 |none=>
  have S3:=h0 rfl;have uH:l=[]:=gu S3;subst uH;refine go ?_;exact⟨⟨none,none,0,rfl,aH.nil _ _ _,by simp,fun _=>rfl⟩,Mod.refl w⟩
 |some x=>
  refine go ?_;refine GX.GW rfl rfl rfl fun b w1 hb hO hE=>go ?_
  refine GX.append hO (hA.mod hE fun _ _ h=>h) rfl rfl rfl rfl rfl rfl (by simp) (u4 l) ah ah fun cQ a' c' w2 jt gf ic acM=>go ?_
  rw[dz] at jt ⊢;refine⟨⟨cQ,a',c',rfl,by simpa using jt,fun q hq=>?_,Gx (fun h=>by cases h) acM⟩,?_⟩
  ·rcases ic q hq with h|h
   ·cases h;omega
   ·have:=hE.size;omega
  ·exact Mod.then hE gf fun i hi e=>by cases e;omega
section
variable {P:Program}{ops:Array Oper}{Q:Exit→Act→World→Prop}{n:Nat}
variable {i:Nat}{e:Env}{w:World}{ty:TypeId}{pos:String}{an:Array Edge}{g:Option (Nat×Bool)}
theorem GX.Zz [Fr]{T:Nat→Prop}{w0:World}{p:b6}{dst:Option Tmp}{t:TypeId}{x:Operand}{v:Value}{l:List Value}
  (ho:ops[i]?=some ⟨dst, .box t x,ty,pos,an,g⟩) (hw:aI ops e ⟨dst, .box t x,ty,pos,an,g⟩=some true) (hx:ev e x=some v) (hd:fits n dst=true) (hv:v.cells.toList=l)
  (h:∀b w',b=w.heap.size→cE w' b l→Ext w w'→GX P ops Q (Mod T w0) n p (e.put dst (.pointer (some ⟨b,0,none⟩))) w'):GX P ops Q (Mod T w0) n (.aw i p) e w:=
 GX.aw ho (GO.box hv hw hx hd fun b w' h1 h2 h3=>⟨fun _ hS=>hS.trans h3.mod,h b w' h1 h2 h3⟩)
end
theorem GM.Y' {w w':World}{g:Nat}{G:Gr}{ow dy:Nat→Option Lb}{ol:Option Nat}{al:Option Addr}{cl cb cc:Nat}{bs:List Nat}(h:GM w g G ow ol al cl cb cc bs){nb qE:Nat}{jF:Option Nat}{oT:Option Addr}{x:Nd}
  (hk:∀k q,ow k=some q→dy k=some q) (hl:∀k,dy k≠none→k<w'.heap.size) (iP:∀b,jF=some b→dy b=some .arr) (p9:jF=none→oT=none) (hm:Mod (fun k=>some k=ol∨k=g) w w')
  (hB:cE w' g [.int .i64 G.cM, .int .i64 G.dg,uV G.aJ, .slice oT (G.list.length+1) qE, .slice (some ⟨cb,0,none⟩) G.cells.length cc, .int .i64 G.cp, .int .i64 G.cW])
  (hO:aH w' 266 1 jF oT (G.list.length+1) qE (bq (bs++[nb]))) (hN:rI w' dy G.list.length nb x) :
  GM w' g { G with list:=G.list++[x]} dy jF oT qE cb cc (bs++[nb]):=by
 have hS:∀{c p},ow c=some p→p ≠ .top→p ≠ .arr→¬(some c=ol∨c=g):=fun {c p} e h1 h2 hx=>by
  rcases hx with hx|hx
  ·exact lF e (h.iT c hx.symm) h2 rfl
  ·exact lF e h.fN h1 hx
 refine⟨by simpa using hB,hk _ _ h.fN,by simpa using hO,iP,p9,h.jO.mod hm (fun y hy=>by cases hy;exact hS h.nD (by simp) (by simp)),hk _ _ h.nD,by simp[h.len],fun j c y h1 h2=>?_,hl⟩
 by_cases hj:j<G.list.length
 ·rw[gp hj] at h2;rw[gp (by have:=h.len;omega)] at h1;exact((h.node j c y h1 h2).mod hm fun d p e hp=>hS e (by rcases hp with rfl|rfl|rfl<;>simp) (by rcases hp with rfl|rfl|rfl<;>simp)).up hk
 ·have xZ:=(aV.1 h2).1;simp only[bH,ek,vz] at xZ;have wj:j=G.list.length:=by omega
  subst wj;have hl:=h.len;have e1:c=nb:=by simpa[iD,hl] using h1.symm
  have e2:y=x:=by simpa[iD] using h2.symm
  subst e1 e2;exact hN
theorem CB {ow:Nat→Option Lb}{ob:Option Nat}{p:Lb}{k:Nat}(h:ow k=none)(hk:ob≠some k):cN ow ob p k=none:=by
 unfold cN;rw[if_neg (fun e=>hk e.symm)];exact h
theorem JK {ow:Nat→Option Lb}{p:Lb}{k:Nat}:cN ow (some k) p k=some p:=by simp[cN]
theorem JL {ow:Nat→Option Lb}{ob:Option Nat}{p:Lb}{k:Nat}(h:cN ow ob p k≠none):ow k≠none∨ob=some k:=by
 unfold cN at h;split at h
 ·rename_i e;exact .inr e.symm
 ·exact .inl h
theorem ab5 {w:World}{g:Nat}{G:Gr}{ow:Nat→Option Lb}{ol:Option Nat}{al:Option Addr}{cl cb cc:Nat}{bs:List Nat}(hG:GM w g G ow ol al cl cb cc bs)(hn:G.cM≠0)(hL:G.list.length≤2^20)(hC:0<G.cells.length∧G.cells.length≤2^20)
  (hd:∀x∈G.list,x.down.length≤2^20∧x.up.length≤2^20) :
  aj prog 91 [ak g].toArray w fun v w'=>
   (∃c dy jF oT qE td K2 Dn,v=ak c∧GM w' c G dy jF oT qE td K2 Dn∧∀k,dy k≠none→w.heap.size≤k)∧Ext w w':=by
 have hT:=hG.top;refine aj.enter func91 rfl ntmps91 rfl (go ?_);refine GX.da (HB hG hn) rfl rfl rfl rfl rfl rfl (go ?_);refine GX.alloc rfl rfl rfl fun c w1 hc DO cX=>go ?_
 refine GX.store DO rfl rfl rfl rfl rfl rfl rfl (by
  intro u hu;simp[Value.cells] at hu
  rcases hu with rfl|rfl|rfl|rfl|rfl|rfl|rfl<;>rfl) rfl fun w2 qI gf=>?_
 have qI:cE w2 c [.int .i64 G.cM, .int .i64 G.dg,uV G.aJ, .slice al G.list.length cl, .slice (some ⟨cb,0,none⟩) G.cells.length cc, .int .i64 G.cp, .int .i64 G.cW]:=qI;have dx:=Mod.then cX gf (S:=fun _=>False) fun i hi e=>by omega
 have gZ:=hG.ext dx;have qO:=gZ.top;refine go ?_;refine GX.call (Lq G.cells G.cells.length cc rfl ah _ (fun h=>by cases h) _ gZ.jO.bL) rfl rfl rfl rfl rfl rfl ?_;rintro _ w3 ⟨⟨Wt,ac,G5,rfl,LX,Mk,Ti⟩,iK⟩;obtain⟨td,acX⟩:∃q,Wt=some q:=by
  cases Wt with
  |some q=>exact⟨q,rfl⟩
  |none=>
   have h1:=Ti rfl;subst h1;obtain⟨_,⟨_,_,_,h2⟩|⟨b,h2,_⟩⟩:=LX
   ·have:=h2 rfl;omega
   ·cases h2
 subst acX;obtain⟨rfl,amp⟩:=LX.block;have amq:=Mk td rfl;have Sm:¬td=c:=by have:=qI.lt;omega
 refine go ?_;refine GX.yT (qI.ext iK) rfl rfl rfl rfl (by rfl) (by rfl) (by rfl) (by rfl) fun w4 hB4 MS=>go ?_
 refine GX.yT hB4 rfl rfl rfl rfl (by rfl) (by rfl) (by rfl) (by rfl) fun w5 RA wo=>go ?_
 have DQ:Mod (fun _=>False) w w5:=Mod.then (dx.trans iK) (MS.trans wo) fun i hi e=>by omega
 have qK:=hG.ext DQ;have BA:=qK.top;have hGc:GM w5 c { G with list:=G.list.take 0} (vg c td) none none 0 td G5 []:=by
  refine⟨RA,by simp[vg],aH.nil _ _ _,by simp,fun _=>rfl,LX.mod (MS.trans wo) (fun x hx e=>by cases hx;exact Sm e),by simp[vg,Sm],rfl,fun i b x h=>by simp at h,fun k hk=>?_⟩;have:=(MS.trans wo).size;unfold vg at hk;split at hk
  ·rename_i e;subst e;exact RA.lt
  ·split at hk
   ·rename_i e;subst e;omega
   ·exact absurd rfl hk
 refine go ?_;refine GC.bR [3,21,22] (fun s:Nat=>[(23, .int .i64 s)])
  (fun s w'=>s≤G.list.length∧∃dy jF oT qE Dn,GM w' c { G with list:=G.list.take s} dy jF oT qE td G5 Dn∧(∀k,dy k≠none→w.heap.size≤k)∧Ext w w') (fun s=>G.list.length - s)
  0 rfl rfl ⟨bh _,_,_,_,_,_,hGc,fun k hk=>?_,DQ⟩ ?_
 ·unfold vg at hk;split at hk
  ·omega
  ·split at hk
   ·have:=dx.size;omega
   ·exact absurd rfl hk
 rintro i w6 ⟨hi,kq,wU,PZ,QE,Bk,ja,EK,iv⟩;refine go ?_;refine dq (fun aN=>?_) (fun aN=>?_)<;>refine go ?_
 ·have IF:i<G.list.length:=by omega
  have hx:G.list[i]?=some (G.list[i]'IF):=by simp
  generalize G.list[i]'IF=x at hx;have Ee:bs[i]?=some (bs[i]'(by have:=hG.len;omega)):=by simp
  generalize bs[i]'(by have:=hG.len;omega)=bx at Ee;have RL:=hG.ext iv;obtain⟨v1,v2,uJ,iy,⟨od,ad,cd,e1,RV,_,bT⟩,⟨ou,au,cu,e2,DZ,_,hnu⟩⟩:=RL.node i bx x Ee hx;subst e1 e2;obtain⟨lb,lo,cj,lV⟩:=sH RL.arr.bL Ee;subst cj;have Mv:=hd x (bD hx);obtain⟨G6,RH,ja⟩:∃G6:Gr,G6={ G with list:=G.list.take i}∧GM w6 c G6 kq wU PZ QE td G5 Bk:=⟨_,rfl,ja⟩
  have hl6:G6.list.length=i:=by rw[RH];simp only[dI];omega
  refine GX.next rfl (GO.indexAddr rfl rfl rfl rfl ah ah rfl ?_);refine GX.lD (lV (i:Int) ah) rfl rfl rfl rfl (go ?_);have R3:=ja.top;have R5:¬some c=wU:=fun h=>lF ja.fN (ja.iT c h.symm) (by simp) rfl
  have acB:¬some bx=wU:=fun h=>by
   have h1:=EK bx (by rw[ja.iT bx h.symm];simp);have h2:=hG.lt bx (by rw[iy];simp);omega
  refine GC.pv (bg [0,6,9,12,18,21,24,27,36,39,42,45,57,60,63,4,16,31,49,67,35,53,54,69,74,77,80,81,86]) (fun k=>some k=wU) mixed ai ai (go ?_)
  repeat(
   refine go ?_
   first
   |refine GX.read rfl (GO.su rfl rfl rfl R3 R5 (Ext.drew _).mod (by rfl) ?_)
   |refine GX.read rfl (GO.su rfl rfl rfl uJ acB (Ext.drew _).mod (by rfl) ?_)
   |refine GX.pure rfl (GO.l4 rfl rfl rfl rfl (by decide) (by decide) rfl ?_))
  refine go ?_;have dn0:ad=none→x.down.length=0:=fun h=>by
   obtain⟨_,⟨_,_,_,h2⟩|⟨b,_,h2,_⟩⟩:=RV
   ·exact h2 h
   ·rw[h] at h2;cases h2
  have up0:au=none→x.up.length=0:=fun h=>by
   obtain⟨_,⟨_,_,_,h2⟩|⟨b,_,h2,_⟩⟩:=DZ
   ·exact h2 h
   ·rw[h] at h2;cases h2
  refine GX.Dp (Lq x.down x.down.length cd rfl ah ad dn0 _ (RV.ext (Ext.drew w6)).bL) (fun _ _ h=>h.2.mod) rfl rfl rfl rfl rfl rfl ?_;rintro _ w7 ⟨⟨qf,PT,Qv,rfl,LY,tw,MW⟩,oZ⟩;refine go ?_;refine GX.Dp (Lq x.up x.up.length cu rfl ah au up0 _ ((DZ.ext (Ext.drew w6)).ext oZ).bL) (fun _ _ h=>h.2.mod) rfl rfl rfl rfl rfl rfl ?_;rintro _ w8 ⟨⟨sE,P9,QV,rfl,LZ,hbu,adL⟩,vR⟩;refine go ?_;refine GX.pure rfl (GO.KW rfl rfl rfl rfl rfl rfl (go ?_));refine GX.Zz rfl rfl rfl rfl (by rfl) fun nb w9 wu HH tk=>go ?_
  refine GX.CP rfl rfl rfl rfl rfl rfl rfl rfl rfl fun sb yZ yh DY rO=>go ?_
  have RD:Ext w6 yZ:=(((Ext.drew w6).trans oZ).trans vR).trans (tk.trans rO);have tm:=ja.ext RD;refine GX.Bh tm.arr DY.bL (fun k h=>h) rfl rfl rfl rfl rfl rfl rfl (CH [nb]) ah ah fun mQ PY QC Kv LR x6 adB Sb=>go ?_
  have Mc:=tm.top.mod x6 R5;refine GX.F9 Mc (.inr ai) rfl rfl rfl rfl (by rfl) (by rfl) (by rfl) (by rfl) fun C0 LB EE=>go ?_
  have hm:Mod (fun k=>some k=wU∨k=c) yZ C0:=(x6.weaken fun q _ e => .inl e).trans (EE.weaken fun q _ e => .inr e);have s6:w6.heap.size≤w6.drew.heap.size:=(Ext.drew w6).size;have s7:=oZ.size;have s8:=vR.size;have s9:=tk.size;have s10:=rO.size;have s12:=hm.size;have amP:=HH.lt;have IS:∀k,mQ=some k→kq k=some .arr∨(kq k=none∧yZ.heap.size≤k):=fun k hk=>by
   rcases adB k hk with h|h
   ·exact .inl (tm.iT k h)
   ·exact .inr ⟨wQ tm h,h⟩
  have n11:∀k,kq k=none→k<yZ.heap.size→mQ≠some k:=fun k h1 h2 e=>by
   rcases IS k e with h|h
   ·rw[h1] at h;cases h
   ·omega
  have Rk:kq nb=none:=wQ ja ah;have fd:∀d,qf=some d→w6.drew.heap.size≤d∧d<w7.heap.size:=fun d e=>⟨tw d e,by rw[e] at LY;exact LY.block.2⟩
  have fu:∀d,sE=some d→w7.heap.size≤d∧d<w8.heap.size:=fun d e=>⟨hbu d e,by rw[e] at LZ;exact LZ.block.2⟩
  have k1:=AB (ow:=kq) (ob:=mQ) (p := .arr) (fun k hk=>(IS k hk).imp id (·.1));have z2:cN kq mQ .arr nb=none:=CB Rk (n11 nb Rk ah);have k2:=AB (ow:=cN kq mQ .arr) (ob:=some nb) (p := .nd i) (fun k hk=>by cases hk;exact .inr z2);have z3:∀d,qf=some d→cN (cN kq mQ .arr) (some nb) (.nd i) d=none:=fun d e=>by
   have h1:=fd d e;have h2:kq d=none:=wQ ja ah;exact CB (CB h2 (n11 d h2 ah)) (fun h=>by cases h;omega)
  have k3:=AB (ow:=cN (cN kq mQ .arr) (some nb) (.nd i)) (ob:=qf) (p := .dn i) (fun k hk => .inr (z3 k hk));have z4:∀d,sE=some d→cN (cN (cN kq mQ .arr) (some nb) (.nd i)) qf (.dn i) d=none:=fun d e=>by
   have h1:=fu d e;have h2:kq d=none:=wQ ja ah;exact CB (CB (CB h2 (n11 d h2 ah)) (fun h=>by cases h;omega)) (fun h=>by have:=fd d h;omega)
  have k4:=AB (ow:=cN (cN (cN kq mQ .arr) (some nb) (.nd i)) qf (.dn i)) (ob:=sE) (p := .up i) (fun k hk => .inr (z4 k hk));have hS:∀{k p},cN (cN (cN (cN kq mQ .arr) (some nb) (.nd i)) qf (.dn i)) sE (.up i) k=some p→p ≠ .top→p ≠ .arr→¬(some k=wU∨k=c):=fun {k p} e h1 h2 hx=>by
   rcases hx with hx|hx
   ·have h3:=k4 _ _ (k3 _ _ (k2 _ _ (k1 _ _ (ja.iT k hx.symm))));rw[e] at h3;cases h3;exact h2 rfl
   ·subst hx;have h3:=k4 _ _ (k3 _ _ (k2 _ _ (k1 _ _ ja.fN)));rw[e] at h3;cases h3;exact h1 rfl
  have VG:cN (cN (cN (cN kq mQ .arr) (some nb) (.nd i)) qf (.dn i)) sE (.up i) nb=some (.nd i):=k4 _ _ (k3 _ _ JK);have ld:∀d,qf=some d→cN (cN (cN (cN kq mQ .arr) (some nb) (.nd i)) qf (.dn i)) sE (.up i) d=some (.dn i):=fun d e=>k4 _ _ (by rw[e];exact JK)
  have lu:∀d,sE=some d→cN (cN (cN (cN kq mQ .arr) (some nb) (.nd i)) qf (.dn i)) sE (.up i) d=some (.up i):=fun d e=>by rw[e];exact JK
  have hN:rI C0 (cN (cN (cN (cN kq mQ .arr) (some nb) (.nd i)) qf (.dn i)) sE (.up i)) G6.list.length nb x:=by
   rw[hl6];refine⟨.slice PT x.down.length Qv, .slice P9 x.up.length QV,(HH.ext rO).mod hm (hS VG (by simp) (by simp)),VG,qD.mod (S:=fun k=>some k=wU∨k=c) (w:=yZ) ⟨qf,PT,Qv,rfl,((LY.ext vR).ext (tk.trans rO)),ld,MW⟩ hm (fun b hb=>hS hb (by simp) (by simp)),qD.mod (S:=fun k=>some k=wU∨k=c) (w:=yZ) ⟨sE,P9,QV,rfl,(LZ.ext (tk.trans rO)),lu,adL⟩ hm (fun b hb=>hS hb (by simp) (by simp))⟩
  have LS:aH C0 266 1 mQ PY (G6.list.length+1) QC (bq (Bk++[nb])):=by
   have h1:=LR.mod EE (fun y hy e=>by
    have h2:=KR tm.arr tm.mO Sb y hy
    rcases IS _ h2 with h3|h3
    ·rw[e,tm.fN] at h3;cases h3
    ·rw[e,tm.fN] at h3;cases h3.1)
   rw[show bq (Bk++[nb])=bq Bk++[ak nb] by simp[bq]];exact h1
  have ady:∀k,cN (cN (cN (cN kq mQ .arr) (some nb) (.nd i)) qf (.dn i)) sE (.up i) k≠none→k<C0.heap.size:=CA (CA (CA (CA (fun k hk=>jL (tm.lt k hk) s12) (fun k e=>by
   rw[e] at LS;exact LS.block.2)) (fun k e=>by cases e;omega)) (fun k e=>by have:=fd k e;omega)) (fun k e=>by have:=fu k e;omega)
  have RK:=tm.Y' (x:=x) (fun k q e=>k4 _ _ (k3 _ _ (k2 _ _ (k1 _ _ e)))) ady (fun b e=>k4 _ _ (k3 _ _ (k2 _ _ (by rw[e];exact JK)))) (Gx tm.mO Sb) hm LB LS hN;have H8:w.heap.size≤c:=by omega
  refine GQ.bj (i+1) rfl ⟨by omega,cN (cN (cN (cN kq mQ .arr) (some nb) (.nd i)) qf (.dn i)) sE (.up i),mQ,PY,QC,Bk++[nb],?_,fun k hk=>?_,Mod.then (iv.trans RD) hm fun k hk e=>?_⟩ ah
  ·have e:({ G6 with list:=G6.list++[x]}:Gr)={ G with list:=G.list.take (i+1)}:=by
    rw[RH];simp only[gv,hx,Option.toList_some]
   rw[e] at RK;exact RK
  ·rcases JL hk with h|h
   ·rcases JL h with h|h
    ·rcases JL h with h|h
     ·rcases JL h with h|h
      ·exact EK k h
      ·rcases IS k h with h1|h1
       ·exact EK k (by rw[h1];simp)
       ·have:=iv.size;omega
     ·cases h;have:=iv.size;omega
    ·have:=fd k h;have:=iv.size;omega
   ·have:=fu k h;have:=iv.size;omega
  ·rcases e with h|h
   ·have:=EK k (by rw[ja.iT k h.symm];simp);omega
   ·omega
 have BI:i=G.list.length:=by omega
 have e:({ G with list:=G.list.take i}:Gr)=G:=by rw[fw ah]
 rw[e] at ja;refine go ?_;exact⟨⟨c,kq,wU,PZ,QE,td,G5,Bk,rfl,ja,EK⟩,iv⟩
end
section
def C8 (L:List Nd):Prop:=∀(a:Nat) (x:Nd),L[a]?=some x→∀b∈x.down,b<L.length
theorem dw.ti {G H:Gr}(h:dw G H){u v:Bs}:fm H u v↔fm G u v:=by
 have key:∀{G H:Gr},dw G H→fm H u v→fm G u v:=by
  rintro G H h ⟨a,b,x,y,h1,h2,h3,h4,h5⟩;obtain⟨x',q1,q2,q3,_⟩:=h.get h1;obtain⟨y',r1,r2,_⟩:=h.get h4;exact⟨a,b,x',y',q1,q2▸h2,q3▸h3,r1,r2▸h5⟩
 exact⟨key h,key h.symm⟩
theorem iX.get {G H:Gr}{k:Bs}{n:Nat}(h:iX G H k n){i:Nat}{x:Nd}(hx:H.list[i]?=some x):G.list[i]?=some x∨(i=G.list.length∧x=⟨k,[],[],0⟩):=by
 rcases h.list with⟨h1,_⟩|⟨_,_,h1⟩
 ·rw[h1] at hx;exact .inl hx
 ·rw[h1] at hx
  by_cases hi:i<G.list.length
  ·rw[gp hi] at hx;exact .inl hx
  ·rw[iD ah] at hx;obtain⟨h2,h3⟩:=aV.1 hx;simp only[ek,vz] at h2;have Eu:i=G.list.length:=by omega
   subst Eu;simp at h3;exact .inr ⟨rfl,h3.symm⟩
theorem iX.Q1 {G H:Gr}{k:Bs}{n:Nat}(h:iX G H k n)(hd:C8 G.list):C8 H.list:=by
 intro a x hx b hb
 rcases h.get hx with h1|⟨_,rfl⟩
 ·have h2:=hd a x h1 b hb;have h3:=h.length;omega
 ·cases hb
theorem iX.ti {G H:Gr}{k:Bs}{n:Nat}(h:iX G H k n)(hd:C8 G.list){u v:Bs}:fm H u v↔fm G u v:=by
 constructor
 ·rintro⟨a,b,x,y,h1,h2,h3,h4,h5⟩
  rcases h.get h1 with q|⟨_,rfl⟩
  ·have hb:=hd a x q b h3
   rcases h.get h4 with r|⟨r,_⟩
   ·exact⟨a,b,x,y,q,h2,h3,r,h5⟩
   ·omega
  ·cases h3
 ·rintro⟨a,b,x,y,h1,h2,h3,h4,h5⟩;exact⟨a,b,x,y,h.ox h1,h2,h3,h.ox h4,h5⟩
theorem O5 {L:List Nd}{a b:Nat}{xa xb:Nd}(ha:a<L.length)(hb:b<L.length)(fg:a≠b)(j:Nat):((L.set a xa).set b xb)[j]?=if j=b then some xb else if j=a then some xa else L[j]?:=by
 by_cases h1:j=b
 ·subst h1;rw[dE (by simpa using hb),if_pos rfl]
 ·rw[dv (fun h=>h1 h.symm),if_neg h1]
  by_cases h2:j=a
  ·subst h2;rw[dE ha,if_pos rfl]
  ·rw[dv (fun h=>h2 h.symm),if_neg h2]
theorem alK {G H:Gr}{a b:Nat}{xa xb:Nd}(ha:G.list[a]?=some xa)(hb:G.list[b]?=some xb)(fg:a≠b)(hH:H.list=(G.list.set a { xa with down:=xa.down++[b]}).set b { xb with up:=xb.up++[a]}){u v:Bs} :
  fm H u v↔fm G u v∨(u=xa.key∧v=xb.key):=by
 have cj:=(aV.1 ha).1;have fD:=(aV.1 hb).1;have hg:∀j:Nat,H.list[j]?=if j=b then some { xb with up:=xb.up++[a]} else if j=a then some { xa with down:=xa.down++[b]} else G.list[j]?:=fun j=>by rw[hH];exact O5 cj fD fg j
 have Pr:∀(j:Nat) (y:Nd),G.list[j]?=some y→∃y',H.list[j]?=some y'∧y'.key=y.key∧∀e∈y.down,e∈y'.down:=fun j y hy=>by
  rw[hg]
  by_cases h1:j=b
  ·subst h1;rw[hb] at hy;cases hy;rw[if_pos rfl];exact⟨_,rfl,rfl,fun e h=>h⟩
  ·rw[if_neg h1]
   by_cases h2:j=a
   ·subst h2;rw[ha] at hy;cases hy;rw[if_pos rfl];exact⟨_,rfl,rfl,fun e h=>tZ _ h⟩
   ·rw[if_neg h2];exact⟨y,hy,rfl,fun e h=>h⟩
 have yX:∀(j:Nat) (y':Nd),H.list[j]?=some y'→∃y,G.list[j]?=some y∧y'.key=y.key∧∀e∈y'.down,e∈y.down∨(j=a∧e=b):=fun j y' hy=>by
  rw[hg] at hy
  by_cases h1:j=b
  ·subst h1;rw[if_pos rfl] at hy;cases hy;exact⟨xb,hb,rfl,fun e h => .inl h⟩
  ·rw[if_neg h1] at hy
   by_cases h2:j=a
   ·subst h2;rw[if_pos rfl] at hy;cases hy;refine⟨xa,ha,rfl,fun e h=>?_⟩
    rcases cx.1 h with h|h
    ·exact .inl h
    ·simp at h;exact .inr ⟨rfl,h⟩
   ·rw[if_neg h2] at hy;exact⟨y',hy,rfl,fun e h => .inl h⟩
 constructor
 ·rintro⟨i,j,x,y,h1,h2,h3,h4,h5⟩;obtain⟨x',q1,q2,q3⟩:=yX i x h1;obtain⟨y',r1,r2,_⟩:=yX j y h4
  rcases q3 j h3 with h|⟨rfl,rfl⟩
  ·exact .inl ⟨i,j,x',y',q1,q2▸h2,h,r1,r2▸h5⟩
  ·rw[ha] at q1;cases q1;rw[hb] at r1;cases r1;exact .inr ⟨h2.symm.trans q2,h5.symm.trans r2⟩
 ·rintro(⟨i,j,x,y,h1,h2,h3,h4,h5⟩|⟨rfl,rfl⟩)
  ·obtain⟨x',q1,q2,q3⟩:=Pr i x h1;obtain⟨y',r1,r2,_⟩:=Pr j y h4;exact⟨i,j,x',y',q1,q2.trans h2,q3 j h3,r1,r2.trans h5⟩
  ·obtain⟨y',r1,r2,_⟩:=Pr b xb hb;refine⟨a,b,{ xa with down:=xa.down++[b]},y',?_,rfl,by simp,r1,r2⟩;rw[hg,if_neg fg,if_pos rfl]
theorem C'.ti {G H:Gr}{p c:Bs}(h:C' G H p c)(hi:jM G){u v:Bs}:fm H u v↔fm G u v∨(u=p∧v=c):=by
 obtain⟨G0,H1,H2,a,b,hs,_,jb,fM,fg,⟨xa,xb,lY,gi,hH⟩,_⟩:=h.list;have d0:C8 G0.list:=(hs.eZ hi.eZ).down;have d1:=jb.Q1 d0;rw[alK lY gi fg hH,fM.ti d1,jb.ti d0,hs.ti];obtain⟨x1,q1,q2⟩:=jb.at;have q3:=fM.ox q1;rw[lY] at q3;cases q3;obtain⟨y1,r1,r2⟩:=fM.at;rw[gi] at r1;cases r1;rw[q2,r2]
structure kG (L:List Nd):Prop where
 down:C8 L
 nJ:∀(a:Nat) (x:Nd),L[a]?=some x→∀b∈x.up,b<L.length
 pj:∀(a b:Nat) (x y:Nd),L[a]?=some x→L[b]?=some y→(b∈x.down↔a∈y.up)
 nT:∀x∈L,x.down.Nodup
 mi:∀x∈L,x.up.Nodup
 keys:∀x∈L,bf x.key=true
theorem jM.nodes {G:Gr}(h:jM G):kG G.list:=⟨h.eZ.down,h.nJ,h.pj,h.nT,h.mi,h.keys⟩
theorem dw.nodes {G H:Gr}(h:dw G H)(k:kG G.list):kG H.list:=by
 have hl:=h.length;refine⟨fun a x hx b hb=>?_,fun a x hx b hb=>?_,fun a b x y hx hy=>?_,fun x hx=>?_,fun x hx=>?_,fun x hx=>?_⟩
 ·obtain⟨y,h1,_,h2,_⟩:=h.get hx;have:=k.down a y h1 b (h2▸hb);omega
 ·obtain⟨y,h1,_,_,h2⟩:=h.get hx;have:=k.nJ a y h1 b (h2▸hb);omega
 ·obtain⟨x',h1,_,h2,_⟩:=h.get hx;obtain⟨y',r1,_,_,r2⟩:=h.get hy;rw[h2,r2];exact k.pj a b x' y' h1 r1
 all_goals
  obtain⟨j,hj⟩:=ey hx;obtain⟨y,h1,h0,h2,h3⟩:=h.get hj;have hm:=bD h1
 ·rw[h2];exact k.nT y hm
 ·rw[h3];exact k.mi y hm
 ·rw[h0];exact k.keys y hm
theorem iX.nodes {G H:Gr}{k:Bs}{n:Nat}(h:iX G H k n)(hk:bf k=true)(i:kG G.list):kG H.list:=by
 have hl:=h.length;refine⟨h.Q1 i.down,fun a x hx b hb=>?_,fun a b x y hx hy=>?_,fun x hx=>?_,fun x hx=>?_,fun x hx=>?_⟩
 ·rcases h.get hx with h1|⟨_,rfl⟩
  ·have:=i.nJ a x h1 b hb;omega
  ·cases hb
 ·rcases h.get hx with h1|⟨h1,rfl⟩<;>rcases h.get hy with h2|⟨h2,rfl⟩
  ·exact i.pj a b x y h1 h2
  ·refine⟨fun hb=>?_,fun hb=>(by cases hb)⟩;have:=i.down a x h1 b hb;omega
  ·refine⟨fun hb=>(by cases hb),fun hb=>?_⟩;have:=i.nJ b y h2 a hb;omega
  ·exact⟨fun hb=>(by cases hb),fun hb=>(by cases hb)⟩
 all_goals rcases h.mem hx with h1|rfl
 ·exact i.nT x h1
 ·exact lP
 ·exact i.mi x h1
 ·exact lP
 ·exact i.keys x h1
 ·exact hk
theorem alL {L M:List Nd}{a b:Nat}{xa xb:Nd}(ha:L[a]?=some xa)(hb:L[b]?=some xb)(fg:a≠b)(hM:M=(L.set a { xa with down:=xa.down++[b]}).set b { xb with up:=xb.up++[a]})(bz:b∉xa.down)(i:kG L):kG M:=by
 have cj:=(aV.1 ha).1;have fD:=(aV.1 hb).1;have hlen:M.length=L.length:=by rw[hM];simp
 have yX:∀(j:Nat) (y':Nd),M[j]?=some y'→∃y,L[j]?=some y∧y'.key=y.key∧y'.down=(if j=a then y.down++[b] else y.down)∧y'.up=(if j=b then y.up++[a] else y.up):=fun j y' hy=>by
  rw[hM,O5 cj fD fg] at hy
  by_cases h1:j=b
  ·subst h1;rw[if_pos rfl] at hy;cases hy;exact⟨xb,hb,rfl,by rw[if_neg (fun h=>fg h.symm)],by rw[if_pos rfl]⟩
  ·rw[if_neg h1] at hy
   by_cases h2:j=a
   ·subst h2;rw[if_pos rfl] at hy;cases hy;exact⟨xa,ha,rfl,by rw[if_pos rfl],by rw[if_neg h1]⟩
   ·rw[if_neg h2] at hy;exact⟨y',hy,rfl,by rw[if_neg h2],by rw[if_neg h1]⟩
 have adJ:a∉xb.up:=fun h=>bz ((i.pj a b xa xb ha hb).2 h)
 refine⟨fun j x hx e he=>?_,fun j x hx e he=>?_,fun j k x y hx hy=>?_,fun x hx=>?_,fun x hx=>?_,fun x hx=>?_⟩
 ·obtain⟨y,h1,_,h2,_⟩:=yX j x hx;rw[hlen];rw[h2] at he;split at he
  ·rcases cx.1 he with h|h
   ·exact i.down j y h1 e h
   ·simp at h;omega
  ·exact i.down j y h1 e he
 ·obtain⟨y,h1,_,_,h2⟩:=yX j x hx;rw[hlen];rw[h2] at he;split at he
  ·rcases cx.1 he with h|h
   ·exact i.nJ j y h1 e h
   ·simp at h;omega
  ·exact i.nJ j y h1 e he
 ·obtain⟨x',h1,_,h2,_⟩:=yX j x hx;obtain⟨y',r1,_,_,r2⟩:=yX k y hy;have hm:=i.pj j k x' y' h1 r1;rw[h2,r2]
  by_cases Iu:j=a<;>by_cases mI:k=b
  ·subst Iu mI;simp
  ·subst Iu;simp[mI,hm]
  ·subst mI;simp[Iu,hm]
  ·simp[Iu,mI,hm]
 all_goals
  obtain⟨j,hj⟩:=ey hx;obtain⟨y,h1,h0,h2,h3⟩:=yX j x hj;have hm:=bD h1
 ·rw[h2];split
  ·rename_i e;subst e
   rw[ha] at h1;cases h1;exact ga.2 ⟨i.nT _ hm,by simp,fun u hu v hv=>by simp at hv;subst hv;exact fun e=>bz (e▸hu)⟩
  ·exact i.nT y hm
 ·rw[h3];split
  ·rename_i e;subst e
   rw[hb] at h1;cases h1;exact ga.2 ⟨i.mi _ hm,by simp,fun u hu v hv=>by simp at hv;subst hv;exact fun e=>adJ (e▸hu)⟩
  ·exact i.mi y hm
 ·rw[h0];exact i.keys y hm
theorem aaX (L:List Nd)(f:Nd→Nat):((List.range L.length).map fun m=>((L[m]?).map f).getD 0).sum=(L.map f).sum:=by
 congr 1;apply pB;intro j
 by_cases hj:j<L.length
 ·simp[hj]
 ·simp[hj]
theorem vL (G:Gr):jZ G=(G.list.map (·.down.length)).sum:=aaX G.list (·.down.length)
theorem Kp {L:List Nd}{i:Nat}{x y:Nd}(f:Nd→Nat)(hx:L[i]?=some x):((L.set i y).map f).sum+f x=(L.map f).sum+f y:=by
 induction L generalizing i with
 |nil=>simp at hx
 |cons z r ih=>
  cases i with
  |zero=>simp at hx;subst hx;simp;omega
  |succ i=>
   have:=ih (i:=i) (by simpa using hx);simp only[AX,cJ,List.sum_cons];omega
theorem dw.jZ {G H:Gr}(h:dw G H):M.jZ H=M.jZ G:=by
 have:=congrArg (fun l:List (Bs×List Nat×List Nat)=>(l.map fun x=>x.2.1.length).sum) h.list;rw[vL,vL];simpa[nK,Function.comp_def,vk] using this
theorem iX.jZ {G H:Gr}{k:Bs}{n:Nat}(h:iX G H k n):M.jZ H=M.jZ G:=by
 rw[vL,vL]
 rcases h.list with⟨h1,_⟩|⟨_,_,h1⟩
 ·rw[h1]
 ·rw[h1];simp
end
end Go.Proofs.YtoloaehmppcjoaaGreat.V.M
