/-
  Parts of the proof. No condition.
-/
import Derived.Test.YtoloaehmppcjoaaGreatW2at
set_option linter.unusedVariables false
set_option linter.unusedSimpArgs false
set_option maxRecDepth 8000
set_option maxHeartbeats 8000000
open Go.Proofs.Tryz
namespace Go.Proofs.YtoloaehmppcjoaaGreat.V.M
attribute [local irreducible] GO GX
def wV (ow:Nat→Option Lb)(b:Nat)(p:Lb)(k:Nat):Option Lb:=if k=b then some p else ow k
structure fT (w:World)(ow dy:Nat→Option Lb):Prop where
 ox:∀b p,ow b=some p→dy b=some p
 new:∀b,dy b≠none→ow b≠none∨w.heap.size≤b
theorem fT.refl (w:World)(ow:Nat→Option Lb):fT w ow ow:=⟨fun _ _ h=>h,fun _ h => .inl h⟩
theorem fT.trans {w w1:World}{o1 o2 o3:Nat→Option Lb}(h:fT w o1 o2)(k:fT w1 o2 o3)(hs:w.heap.size≤w1.heap.size):fT w o1 o3:=
 ⟨fun b p e=>k.ox b p (h.ox b p e),fun b e=>by
  rcases k.new b e with h1|h1
  ·exact h.new b h1
  ·exact .inr (dF hs h1)⟩
theorem ahQ {w:World}{ow:Nat→Option Lb}{b:Nat}{p:Lb}(hb:w.heap.size≤b)(ho:ow b=none):fT w ow (wV ow b p):=
 ⟨fun k q e=>by
  unfold wV;rw[if_neg (fun h=>by subst h;rw[ho] at e;cases e)];exact e,fun k e=>by
  unfold wV at e;split at e
  ·rename_i h;subst h;exact .inr hb
  ·exact .inl e⟩
theorem dZ.up {w w1 w2:World}{ow dy:Nat→Option Lb}(h:dZ ow w w1)(hu:fT w ow dy)(k:dZ dy w1 w2):dZ ow w w2:=Mod.then h k fun i hi e=>by
 rcases hu.new i e with h1|h1
 ·exact h1
 ·omega
theorem qD.up {w:World}{ow dy:Nat→Option Lb}{p:Lb}{v:Value}{l:List Nat}(h:qD w ow p v l)(hk:∀b q,ow b=some q→dy b=some q):qD w dy p v l:=by
 obtain⟨ob,a,c,h1,h2,h3,h4⟩:=h;exact⟨ob,a,c,h1,h2,fun b hb=>hk b p (h3 b hb),h4⟩
theorem rI.up {w:World}{ow dy:Nat→Option Lb}{i b:Nat}{x:Nd}(h:rI w ow i b x)(hk:∀b q,ow b=some q→dy b=some q):rI w dy i b x:=by
 obtain⟨v1,v2,h1,h2,h3,h4⟩:=h;exact⟨v1,v2,h1,hk b _ h2,h3.up hk,h4.up hk⟩
theorem GM.setCells {w w':World}{g:Nat}{G:Gr}{ow:Nat→Option Lb}{ol:Option Nat}{al:Option Addr}{cl cb cc:Nat}{bs:List Nat}(h:GM w g G ow ol al cl cb cc bs){cs:List Nat}{b c:Nat}(di:ow b=none)(hm:Mod (· = g) w w')
  (hB:cE w' g [.int .i64 G.cM, .int .i64 G.dg,uV G.aJ, .slice al G.list.length cl, .slice (some ⟨b,0,none⟩) cs.length c, .int .i64 G.cp, .int .i64 G.cW]) (hO:aH w' 3 1 (some b) (some ⟨b,0,none⟩) cs.length c (aG cs)) :
  GM w' g { G with cells:=cs} (wV ow b .jO) ol al cl b c bs:=by
 have hk:∀k q,ow k=some q→wV ow b .jO k=some q:=fun k q e=>by
  unfold wV;rw[if_neg (fun h=>by subst h;rw[di] at e;cases e)];exact e
 have aP:∀{c p},ow c=some p→p ≠ .top→¬c=g:=fun {c p} e hp=>lF e h.fN hp
 refine⟨hB,hk _ _ h.fN,h.arr.mod hm (fun x hx=>?_),fun c hc=>hk _ _ (h.iT c hc),h.mO,hO,by simp[wV],h.len,fun i c x h1 h2=>((h.node i c x h1 h2).mod hm fun d p e hp=>aP e (by rcases hp with rfl|rfl|rfl<;>simp)).up hk,fun k dR=>?_⟩
 ·cases iP:ol with
  |none=>rw[h.mO iP] at hx;cases hx
  |some d=>
   have ha:=h.arr;rw[iP] at ha;rw[ha.block.1] at hx;cases hx;exact aP (h.iT d iP) (by simp)
 ·unfold wV at dR;split at dR
  ·rename_i e;subst e;exact hO.block.2
  ·exact jL (h.lt k dR) hm.size
theorem GM.setCell {w w':World}{g:Nat}{G:Gr}{ow:Nat→Option Lb}{ol:Option Nat}{al:Option Addr}{cl cb cc:Nat}{bs:List Nat}(h:GM w g G ow ol al cl cb cc bs){q v:Nat}(hm:Mod (· = cb) w w')
  (hO:aH w' 3 1 (some cb) (some ⟨cb,0,none⟩) G.cells.length cc ((aG G.cells).set q (.int .i64 v))):GM w' g { G with cells:=G.cells.set q v} ow ol al cl cb cc bs:=by
 have aP:∀{c p},ow c=some p→p ≠ .jO→¬c=cb:=fun {c p} e hp=>lF e h.nD hp
 refine⟨by simpa using h.top.mod hm (aP h.fN (by simp)),h.fN,h.arr.mod hm (fun x hx=>?_),h.iT,h.mO,?_,h.nD,h.len,fun i c x h1 h2=>(h.node i c x h1 h2).mod hm fun d p e hp=>aP e (by rcases hp with rfl|rfl|rfl<;>simp),fun k hk=>jL (h.lt k hk) hm.size⟩
 ·cases iP:ol with
  |none=>rw[h.mO iP] at hx;cases hx
  |some d=>
   have ha:=h.arr;rw[iP] at ha;rw[ha.block.1] at hx;cases hx;exact aP (h.iT d iP) (by simp)
 ·have e:(aG G.cells).set q (.int .i64 v)=aG (G.cells.set q v):=by simp[aG,pG]
  rw[e] at hO;simpa using hO
theorem NN (C:Nat):(List.replicate C [Value.int .i64 0]).flatten=aG (List.replicate C 0):=by
 induction C with
 |zero=>rfl
 |succ C ih=>rw[List.replicate_succ,oL,ih,List.replicate_succ];rfl
theorem ae3 {L:List Nd}{i:Nat}{x:Nd}(hx:L[i]?=some x):(fq L).take (i+1)=(fq L).take i++[(x.key,i)]:=by
 rw[gv];have:(fq L)[i]?=some (x.key,i):=by simp[fq,List.getElem?_zipIdx,hx]
 rw[this];rfl
theorem sW.put {G:Gr}{M:List (Bs×Nat)}(h:sW G M){k:Bs}{i q:Nat}{x:Nd}(hx:G.list[i]?=some x)(hk:x.key=k)(qU:k∉M.map (·.1))(hq:A8 G M k q)(hr:M.length+1<G.cells.length) :
  sW { G with cells:=G.cells.set q (i+1)} (M++[(k,i)]):=by
 obtain⟨d,rfl,h2,h3⟩:=hq;have hi:=(aV.1 hx).1;have hl:(fx G.list G.cells).length=G.cells.length:=by simp[fx]
 have H8:G.cells[(bK G.aJ k+d) % G.cells.length]?=some 0:=by
  rcases h3 with⟨_,h3⟩|⟨n,h3,_⟩
  ·exact h3
  ·exact absurd (bG.2 ⟨_,h3,rfl⟩) qU
 have hT:=h.eM.put (k:=k) (n:=i) (d:=d) qU (by rw[hl];exact h2) (by rw[hl,KK,H8];rfl) (by rw[hl];exact hr);refine⟨?_,fun k' n hm=>?_,fun n hn=>?_,h.aJ,⟨by simpa using h.small.1,h.small.2⟩⟩
 ·rw[hl] at hT;have e:fx G.list (G.cells.set ((bK G.aJ k+d) % G.cells.length) (i+1))=(fx G.list G.cells).set ((bK G.aJ k+d) % G.cells.length) (some (k,i)):=by
   simp only[fx,pG,hx,jV,oN,hk]
  show fb _ (fx G.list (G.cells.set ((bK G.aJ k+d) % G.cells.length) (i+1))) _;rw[e];exact hT
 ·rcases cx.1 hm with hm|hm
  ·exact h.sub k' n hm
  ·simp at hm;obtain⟨rfl,rfl⟩:=hm;exact⟨x,hx,hk⟩
 ·rcases mn hn with hn|hn
  ·exact h.idx n hn
  ·subst hn;exact hi
theorem wQ {w:World}{g:Nat}{G:Gr}{ow:Nat→Option Lb}{ol:Option Nat}{al:Option Addr}{cl cb cc:Nat}{bs:List Nat}(h:GM w g G ow ol al cl cb cc bs){b:Nat}(hb:w.heap.size≤b):ow b=none:=by
 cases ho:ow b with
 |none=>rfl
 |some p=>have:=h.lt b (by rw[ho];simp);omega
theorem Qe {w:World}{g:Nat}{G:Gr}{ow:Nat→Option Lb}{ol:Option Nat}{al:Option Addr}{cl cb cc:Nat}{bs:List Nat}(hG:GM w g G ow ol al cl cb cc bs)(hn:(G.list.map (·.key)).Nodup)(Ag:G.aJ<eu)(cV:∀x∈G.list,x.key.length<2^40)
  (C:Nat) (hC:G.list.length<C) (zC:C<2^40) :
  aj prog 274 [ak g, .int .i64 C].toArray w fun _ w'=>
   (∃cs b c dy,GM w' g { G with cells:=cs} dy ol al cl b c bs∧ir { G with cells:=cs}∧cs.length=C∧fT w ow dy)∧dZ ow w w':=by
 have hT:=hG.top;refine aj.enter func274 rfl ntmps274 rfl (go ?_);refine GX.makeSlice rfl rfl rfl rfl rfl rfl ah ah ah ah fun b w1 hb hO hE=>go ?_
 have di:=wQ hG (b:=b) ah;have fL:=hG.ext hE;refine GX.yT fL.top rfl rfl rfl rfl (by rfl) (by rfl) (by rfl) (by rfl) fun w2 qI gf=>go ?_
 have jt:aH w2 3 1 (some b) (some ⟨b,0,none⟩) (List.replicate C 0).length C (aG (List.replicate C 0)):=by
  have h1:=hO.mod gf (fun x hx e=>by cases hx;have:=hG.lt g (by rw[hG.fN];simp);have e':b=g:=e;omega);rw[←NN];simpa[Value.cells] using h1
 have gZ:=fL.setCells (cs:=List.replicate C 0) di gf (by simpa using qI) jt;have mC:dZ ow w w2:=(dZ.ext (Mod.refl w) hE).own hG.fN gf;have sj:=ahQ (w:=w) (ow:=ow) (b:=b) (p := .jO) ah di;have qO:=gZ.top;refine go ?_;refine GC.bR [0,14,15] (fun s:Nat×List Nat=>[(16, .int .i64 s.1)])
  (fun s w'=>s.1≤G.list.length∧GM w' g { G with cells:=s.2} (wV ow b .jO) ol al cl b C bs∧sW { G with cells:=s.2} ((fq G.list).take s.1)∧s.2.length=C∧dZ ow w w') (fun s=>G.list.length - s.1)
  (0,List.replicate C 0) rfl rfl ⟨bh _,gZ,?_,by simp,mC⟩ ?_
 ·refine⟨?_,(fun k n h=>by simp at h),fun n hn=>?_,Ag,⟨by simpa using zC,by simp only;omega⟩⟩
  ·have e:fx G.list (List.replicate C 0)=List.replicate C none:=by simp[fx,List.map_replicate]
   show fb _ (fx G.list (List.replicate C 0)) _;rw[e];exact fb.empty _ C ah
  ·have:=List.eq_of_mem_replicate hn;omega
 rintro⟨i,cs⟩ w3 ⟨hi,nW,ux,gO,rR⟩;dsimp only at hi nW ux gO ⊢;refine go ?_;refine dq (fun hc=>?_) (fun hc=>?_)<;>refine go ?_
 ·have aN:i<G.list.length:=by omega
  have hx:G.list[i]?=some (G.list[i]'aN):=by simp
  generalize G.list[i]'aN=x at hx;have BB:bs[i]?=some (bs[i]'(by have:=hG.len;omega)):=by simp
  generalize bs[i]'(by have:=hG.len;omega)=bi at BB;obtain⟨v1,v2,uJ,_⟩:=nW.node i bi x BB hx;obtain⟨lb,lo,cj,lV⟩:=sH nW.arr.bL BB;subst cj;refine GX.next rfl (GO.indexAddr rfl rfl rfl rfl ah ah rfl ?_);refine GX.lD (lV (i:Int) ah) rfl rfl rfl rfl (go ?_);have eS:=cV x (bD hx);refine GX.call (K3 nW ux x.key eS) rfl rfl rfl rfl rfl rfl ?_;rintro _ w4 ⟨⟨q,rfl,hq,hF⟩,i'⟩;have gz:=nW.ext i';refine go ?_;refine GX.Pd gz.jO (by simpa using hq) rfl rfl rfl rfl (by rfl) (by rfl) fun w5 LV wo=>go ?_
  have qK:=gz.setCell (q:=q) (v:=i+1) wo LV;have qU:x.key∉((fq G.list).take i).map (·.1):=by
   rw[List.map_take,Fs];intro dN;obtain⟨j,hj⟩:=ey dN;rw[vy] at hj;split at hj
   ·rename_i gB
    have h2:(G.list.map (·.key))[i]?=some x.key:=by simp[hx]
    have:=Ow hn hj h2;omega
   ·cases hj
  have hlen:((fq G.list).take i).length=i:=by
   simp[fq];omega
  have BA:=ux.put hx rfl qU hF (by rw[hlen];simp only;omega);refine GQ.bj (i+1,cs.set q (i+1)) rfl ⟨aN,qK,?_,by simpa using gO,?_⟩ (by simp only;omega)
  ·simp only;rw[ae3 hx];exact BA
  ·exact rR.up sj ((dZ.ext (Mod.refl w3) i').own gz.nD wo)
 have BI:i=G.list.length:=by omega
 have Mz:(fq G.list).take i=fq G.list:=fw (by simp[fq];omega);rw[Mz] at ux;exact⟨⟨cs,b,C,_,nW,⟨ux.eM,ux.idx,ux.aJ,ux.small.1⟩,gO,sj⟩,rR⟩
section
variable {P:Program}{ops:Array Oper}{Q:Exit→Act→World→Prop}{n:Nat}
variable {i:Nat}{e:Env}{w:World}{ty:TypeId}{pos:String}{an:Array Edge}{g:Option (Nat×Bool)}
theorem GX.alh [Fr]{T:Nat→Prop}{w0:World}{p:b6}{t:TypeId}[hf:aC P t false 1]{x y:Operand}{el:TypeId}{b len cap j:Nat}{a:Option Addr}{v:Value}{cs:List Value}(hO:aH w el 1 (some b) a len cap cs)(hj:j<cs.length)(hT:T b∨gS ops i=true)
  (ho:ops[i]?=some ⟨none, .store t x y,ty,pos,an,g⟩) (hw:aI ops e ⟨none, .store t x y,ty,pos,an,g⟩=some true) (hx:ev e x=some (.pointer (some ⟨b,j,none⟩))) (hy:ev e y=some v)
  (hc:v.cells.toList=[v]) (h1:v.oneCell'=true)
  (h:∀w',aH w' el 1 (some b) a len cap (cs.set j v)→Mod (· = b) w w'→GX P ops Q (Mod T w0) n p e w'):GX P ops Q (Mod T w0) n (.aw i p) e w:=
 GX.aw ho (GO.store (vs:=[v]) (OL hO hj) hc rfl (by simpa using h1) hw hx hy fun w' hp=>⟨(fun lz hS=>by
  rcases hT with hT|hT
  ·exact hS.trans (hp.mod.weaken fun k _ hk=>by subst hk;exact hT)
  ·rw[hT] at lz;cases lz),h w' (OK hO hp hj) hp.mod⟩)
end
theorem ae2 (L:List Nd)(x:Nd):fq (L++[x])=fq L++[(x.key,L.length)]:=by simp[fq,List.zipIdx_append]
theorem YR {L:List Nd}{cs:List Nat}(x:Nd)(h:∀n∈cs,n≤L.length):fx (L++[x]) cs=fx L cs:=by
 unfold fx;refine rC fun n hn=>?_
 cases n with
 |zero=>rfl
 |succ m=>
  have:=h _ hn;simp only[gp (show m<L.length by omega)]
theorem sW.grow {G:Gr}{M:List (Bs×Nat)}(h:sW G M)(hi:∀n∈G.cells,n≤G.list.length)(x:Nd)(hl:G.list.length+1<2^40):sW { G with list:=G.list++[x]} M:=by
 refine⟨?_,fun k n hm=>?_,fun n hn=>?_,h.aJ,⟨h.small.1,by simpa using hl⟩⟩
 ·have e:=YR x hi;show fb _ (fx (G.list++[x]) G.cells) _;rw[e];exact h.eM
 ·obtain⟨y,h1,h2⟩:=h.sub k n hm;exact⟨y,by simp[gp (aV.1 h1).1,h1],h2⟩
 ·have:=hi n hn;simp only[bH,ek,vz];omega
def sF (ow:Nat→Option Lb)(nb i:Nat)(ol:Option Nat)(k:Nat):Option Lb:=if k=nb then some (.nd i) else if some k=ol then some .arr else ow k
theorem WA {ow:Nat→Option Lb}{nb i:Nat}{jF:Option Nat}(wu:ow nb=none)(iP:∀b,jF=some b→ow b=some .arr∨ow b=none)(k:Nat)(q:Lb)(e:ow k=some q):sF ow nb i jF k=some q:=by
 unfold sF;rw[if_neg (fun h=>by subst h;rw[wu] at e;cases e)];split
 ·rename_i h
  rcases iP k h.symm with h1|h1
  ·rw[h1] at e;exact e
  ·rw[h1] at e;cases e
 ·exact e
theorem ahP {w:World}{ow:Nat→Option Lb}{nb i:Nat}{jF:Option Nat}(wu:ow nb=none)(hw:w.heap.size≤nb)(iP:∀b,jF=some b→ow b=some .arr∨(ow b=none∧w.heap.size≤b)):fT w ow (sF ow nb i jF):=
 ⟨fun k q e=>WA wu (fun b hb=>(iP b hb).imp id (·.1)) k q e,fun k e=>by
  unfold sF at e;split at e
  ·rename_i h;subst h;exact .inr hw
  ·split at e
   ·rename_i h
    rcases iP k h.symm with h1|h1
    ·exact .inl (by rw[h1];simp)
    ·exact .inr h1.2
   ·exact .inl e⟩
theorem GM.addNode {w w':World}{g:Nat}{G:Gr}{ow:Nat→Option Lb}{ol:Option Nat}{al:Option Addr}{cl cb cc:Nat}{bs:List Nat}(h:GM w g G ow ol al cl cb cc bs){nb qE:Nat}{jF:Option Nat}{oT:Option Addr}{x:Nd}
  (wu:ow nb=none) (IP:nb<w'.heap.size) (aP:jF≠some nb) (iP:∀b,jF=some b→ow b=some .arr∨ow b=none) (p9:jF=none→oT=none) (hm:Mod (fun k=>some k=ol∨k=g) w w')
  (hB:cE w' g [.int .i64 G.cM, .int .i64 G.dg,uV G.aJ, .slice oT (G.list.length+1) qE, .slice (some ⟨cb,0,none⟩) G.cells.length cc, .int .i64 G.cp, .int .i64 G.cW])
  (hO:aH w' 266 1 jF oT (G.list.length+1) qE (bq (bs++[nb]))) (hN:rI w' (sF ow nb G.list.length jF) G.list.length nb x) :
  GM w' g { G with list:=G.list++[x]} (sF ow nb G.list.length jF) jF oT qE cb cc (bs++[nb]):=by
 have hk:=WA (i:=G.list.length) wu iP;have hS:∀{c p},ow c=some p→p ≠ .top→p ≠ .arr→¬(some c=ol∨c=g):=fun {c p} e h1 h2 hx=>by
  rcases hx with hx|hx
  ·exact lF e (h.iT c hx.symm) h2 rfl
  ·exact lF e h.fN h1 hx
 refine⟨by simpa using hB,hk _ _ h.fN,by simpa using hO,fun b hb=>?_,p9,h.jO.mod hm (fun y hy=>by cases hy;exact hS h.nD (by simp) (by simp)),hk _ _ h.nD,by simp[h.len],fun j c y h1 h2=>?_,fun k dR=>?_⟩
 ·unfold sF;rw[if_neg (fun e=>by subst e;exact aP hb),if_pos hb.symm]
 ·by_cases hj:j<G.list.length
  ·rw[gp hj] at h2;rw[gp (by have:=h.len;omega)] at h1;exact((h.node j c y h1 h2).mod hm fun d p e hp=>hS e (by rcases hp with rfl|rfl|rfl<;>simp) (by rcases hp with rfl|rfl|rfl<;>simp)).up hk
  ·have xZ:=(aV.1 h2).1;simp only[bH,ek,vz] at xZ;have wj:j=G.list.length:=by omega
   subst wj;have hl:=h.len;have e1:c=nb:=by simpa[iD,hl] using h1.symm
   have e2:y=x:=by simpa[iD] using h2.symm
   subst e1 e2;exact hN
 ·unfold sF at dR;split at dR
  ·rename_i e;subst e;exact IP
  ·split at dR
   ·rename_i e
    rw[←e] at hO;exact hO.block.2
   ·exact jL (h.lt k dR) hm.size
def xB (G:Gr):Prop:=8≤G.cells.length∧G.cells.length≤2^18
structure iX (G H:Gr)(k:Bs)(n:Nat):Prop where
 cM:H.cM=G.cM
 dg:H.dg=G.dg
 aJ:H.aJ=G.aJ
 cp:H.cp=G.cp
 oG:H.cW=G.cW
 list:(H.list=G.list∧∃x,G.list[n]?=some x∧x.key=k)∨(k∉G.list.map (·.key)∧n=G.list.length∧H.list=G.list++[⟨k,[],[],0⟩])
structure YB (G H:Gr):Prop where
 cM:H.cM=G.cM
 dg:H.dg=G.dg
 aJ:H.aJ=G.aJ
 cp:H.cp=G.cp
 oG:H.cW=G.cW
 list:H.list=G.list
def PE (w0 w:World)(g:Nat)(G:Gr)(ow:Nat→Option Lb):Prop:=∃dy ol al cl cb cc bs,GM w g G dy ol al cl cb cc bs∧fT w0 ow dy
theorem ir.nodup {G:Gr}(h:ir G):(G.list.map (·.key)).Nodup:=by rw[←Fs];exact h.eM.nodup
theorem WN {w:World}{g:Nat}{G:Gr}{ow:Nat→Option Lb}{ol:Option Nat}{al:Option Addr}{cl cb cc:Nat}{bs:List Nat}(hG:GM w g G ow ol al cl cb cc bs)(aU:ir G)(BD:xB G)(lA:G.list.length≤65536)
  (cV:∀x∈G.list,x.key.length<2^40) (k:Bs) (hk:k.length<2^40) :
  aj prog 195 [ak g,str k].toArray w fun v w'=>
   (∃n H,v = .int .i64 (n:Nat)∧iX G H k n∧PE w w' g H ow∧ir H∧xB H)∧dZ ow w w':=by
 obtain⟨Sk,Sj⟩:=BD;have amV:G.list.length<G.cells.length:=by have:=aU.eM.room;simpa[fq,fx] using this
 refine aj.enter func195 rfl ntmps195 rfl (go ?_);refine GX.call (xQ hG aU k hk) rfl rfl rfl rfl rfl rfl ?_;rintro _ w1 ⟨⟨z,rfl,hz⟩,cX⟩;have fL:=hG.ext cX;have ju:=fL.top;have vW:dZ ow w w1:=dZ.ext (Mod.refl w) cX;refine go ?_;refine dq (fun pc=>?_) (fun pc=>?_)<;>refine go ?_
 ·rcases hz with⟨rfl,_⟩|⟨n,x,rfl,hx,eS⟩
  ·omega
  exact⟨⟨n,G,rfl,⟨rfl,rfl,rfl,rfl,rfl, .inl ⟨rfl,x,hx,eS⟩⟩,⟨_,_,_,_,_,_,_,fL,fT.refl _ _⟩,aU,Sk,Sj⟩,vW⟩
 have S1:k∉G.list.map (·.key):=by
  rcases hz with⟨_,h⟩|⟨n,x,rfl,_⟩
  ·exact h
  ·omega
 refine GC.pv (bg [0,3,6,18,21,24,10,12,15,28,30,33]) (fun _=>False) mixed ai ai (go ?_);refine go ?_;refine GX.pure rfl (GO.mul rfl rfl rfl rfl rfl (lf (by dsimp only[lj];omega)) ?_);refine go ?_;refine GC.cut (X:=Unit) (fun _=>[(0,ak g),(1,str k)]) (fun _ w'=>(∃H b c dy,GM w' g H dy ol al cl b c bs∧ir H∧G.list.length+1<H.cells.length∧8≤H.cells.length∧H.cells.length≤2^18∧YB G H∧fT w ow dy)∧dZ ow w w') ?_ ?_
 ·refine dq (fun Eg=>?_) (fun Eg=>?_)<;>refine go ?_
  ·refine GX.next rfl (GO.mul rfl rfl rfl rfl rfl (lf (by dsimp only[lj];omega)) ?_);refine go ?_;refine GX.call (Qe (fL.ext (Ext.drew w1)) aU.nodup aU.aJ cV (2*G.cells.length) ah ah) rfl rfl rfl rfl rfl rfl ?_;rintro _ w2 ⟨⟨cs,b,c,dy,gZ,uM,Sq,E'⟩,mC⟩;refine go ?_;have mJ:w.heap.size≤w1.drew.heap.size:=(cX.trans (Ext.drew w1)).size;exact GQ.dm () (cR (l:=[0,1]) rfl) ⟨⟨{ G with cells:=cs},b,c,dy,gZ,uM,by simp only;omega,by simp only;omega,by simp only;omega,⟨rfl,rfl,rfl,rfl,rfl,rfl⟩,(fT.refl w ow).trans E' mJ⟩,(vW.ext (Ext.drew w1)).up (fT.refl w ow) mC⟩
  ·refine go ?_;exact GQ.dm () (cR (l:=[0,1]) rfl) ⟨⟨G,cb,cc,ow,fL.ext (Ext.drew w1),aU,by omega,Sk,Sj,⟨rfl,rfl,rfl,rfl,rfl,rfl⟩,fT.refl _ _⟩,vW.ext (Ext.drew w1)⟩
 rintro⟨⟩ w2 ⟨⟨H,b,c,dy,gZ,uM,yc,ac4,Sq,sg,E'⟩,mC⟩;have tv:H.list.length=G.list.length:=congrArg List.length sg.list;have qO:=gZ.top;refine go ?_;refine GX.box rfl rfl rfl rfl (by rfl) fun nb w3 wu HG iK=>go ?_
 refine GX.yR rfl rfl rfl rfl rfl rfl rfl rfl rfl fun sb w4 yh vY i'=>go ?_
 have gz:=(gZ.ext iK).ext i';refine GX.append gz.arr vY.bL rfl rfl rfl rfl rfl rfl rfl (CH [nb]) ah ah fun Az KN cl2 w5 LV wo om cj=>go ?_
 have iP:∀q,Az=some q→dy q=some .arr∨(dy q=none∧w4.heap.size≤q):=fun q hq=>by
  rcases om q hq with h|h
  ·exact .inl (gz.iT q h)
  ·exact .inr ⟨wQ gz h,h⟩
 have BA:=gz.top.mod wo (fun h=>lF gz.fN (gz.iT g h.symm) (by simp) rfl);refine GX.yT BA rfl rfl rfl rfl (by rfl) (by rfl) (by rfl) (by rfl) fun w6 hB6 zP=>go ?_
 have RZ:w2.heap.size≤w4.heap.size:=(iK.trans i').size;have L7:w3.heap.size≤w4.heap.size:=i'.size;have BW:dy nb=none:=wQ gZ ah;have amO:nb<w3.heap.size:=HG.lt;have IH:Mod (fun q=>some q=ol∨q=g) w4 w6:=(wo.weaken fun q _ h => .inl h).trans (zP.weaken fun q _ h => .inr h);have MI:∀q,Az=some q→q≠nb:=fun q hq e=>by
  subst e
  rcases iP q hq with h|h
  ·rw[BW] at h;cases h
  ·have:=h.2;omega
 have acx:cE w6 nb [str k, .slice none 0 0, .slice none 0 0, .int .i64 0]:=(HG.ext i').mod IH (by
  rintro(h|h)
  ·have:=gz.iT nb h.symm;rw[BW] at this;cases this
  ·rw[h,gz.fN] at BW;cases BW)
 have R0:∀p,qD w6 (sF dy nb H.list.length Az) p (.slice none 0 0) []:=fun p=>⟨none,none,0,rfl,aH.nil _ _ _,by simp,fun _=>rfl⟩
 have LW:aH w6 266 1 Az KN (H.list.length+1) cl2 (bq (bs++[nb])):=by
  have h1:=LV.mod zP (fun x hx e=>by
   rcases cj x hx with h|⟨h1,h2⟩
   ·rcases iP _ h with h|h
    ·rw[e,gz.fN] at h;cases h
    ·rw[e,gz.fN] at h;cases h.1
   ·cases di:ol with
    |none=>rw[gz.mO di] at h1;cases h1
    |some d=>
     have ha:=gz.arr;rw[di] at ha;rw[ha.block.1] at h1;cases h1;have e':d=g:=e;have:=gz.iT d di;rw[e',gz.fN] at this;cases this)
  rw[show bq (bs++[nb])=bq bs++[ak nb] by simp[bq]];exact h1
 have p9:Az=none→KN=none:=fun h=>by
  cases ha:KN with
  |none=>rfl
  |some x=>
   rcases cj x ha with h1|⟨h1,h2⟩
   ·rw[h] at h1;cases h1
   ·rw[gz.mO (h2.symm.trans h)] at h1;cases h1
 have ja:=gz.addNode (x:=⟨k,[],[],0⟩) BW (by have:=IH.size;omega) (fun h=>MI nb h rfl) (fun q hq=>(iP q hq).imp id (·.1)) (fun h=>p9 h) IH hB6 LW ⟨_,_,acx,by simp[sF],R0 _,R0 _⟩;have aeg:fT w2 dy (sF dy nb H.list.length Az):=ahP BW ah fun q hq=>(iP q hq).imp id fun h=>⟨h.1,by omega⟩
 have hM6:dZ ow w w6:=mC.up E' (((dZ.ext (Mod.refl w2) iK).ext i').then IH fun q hq h=>by
  rcases h with h|h
  ·rw[gz.iT q h.symm];simp
  ·rw[h,gz.fN];simp)
 have R3:=ja.top;have hkH:k∉(fq H.list).map (·.1):=by rw[Fs,sg.list];exact S1
 have R4:=uM.X9.grow uM.idx ⟨k,[],[],0⟩ ah;have uH:(H.list++[(⟨k,[],[],0⟩:Nd)]).length=H.list.length+1:=by simp
 refine GC.pv (bg [0,3,9,12,15,19,21,8,24,29]) (fun _=>False) mixed ai ai (go ?_);refine go ?_;refine GX.Dp (K3 (ja.ext (Ext.drew w6)) R4 k hk) (fun _ _ h=>h.2) rfl rfl rfl rfl rfl rfl ?_;rintro _ w7 ⟨⟨q,rfl,hq,hF⟩,oZ⟩;have LH:=(ja.ext (Ext.drew w6)).ext oZ;refine go ?_;refine GX.alh LH.jO (by simpa using hq) (.inr ai) rfl rfl rfl rfl (by rfl) (by rfl) fun w8 zH nr=>go ?_
 have rP:=LH.setCell (q:=q) (v:=(H.list++[(⟨k,[],[],0⟩:Nd)]).length) nr zH;have HS:=rP.top;have HT:=R4.put (k:=k) (i:=H.list.length) (q:=q) (x:=⟨k,[],[],0⟩) (by simp) rfl hkH hF (by simp only[fq,fH,List.length_zipIdx];omega);refine go ?_;rw[uH] at rP;have TO:fT w ow (sF dy nb H.list.length Az):=E'.trans aeg mC.size;have Bz:=hM6.up TO (((dZ.ext (Mod.refl w6) (Ext.drew w6)).ext oZ).own LH.nD nr);refine⟨⟨H.list.length,{ H with list:=H.list++[⟨k,[],[],0⟩],cells:=H.cells.set q (H.list.length+1)},by simp only[uH];congr 1;omega,⟨sg.cM,sg.dg,sg.aJ,sg.cp,sg.oG, .inr ⟨S1,tv,?_⟩⟩,⟨_,_,_,_,_,_,_,rP,TO⟩,⟨?_,HT.idx,HT.aJ,HT.small.1⟩,?_⟩,Bz⟩
 ·exact congrArg (· ++ [(⟨k,[],[],0⟩:Nd)]) sg.list
 ·have h:=HT.eM;rw[←ae2 H.list ⟨k,[],[],0⟩] at h;exact h
 ·constructor
  ·simpa using ac4
  ·simpa using Sq
theorem GM.Xy {S:Nat→Prop}{w w':World}{g:Nat}{G:Gr}{ow dy:Nat→Option Lb}{ol:Option Nat}{al:Option Addr}{cl cb cc:Nat}{bs:List Nat}(h:GM w g G ow ol al cl cb cc bs){i b:Nat}{x':Nd}(hb:bs[i]?=some b)(hi:i<G.list.length)(hm:Mod S w w')
  (hS:∀k p,ow k=some p→S k→p = .nd i∨p = .dn i∨p = .up i) (hk:∀k q,ow k=some q→dy k=some q) (hl:∀k,dy k≠none→k<w'.heap.size) (hN:rI w' dy i b x') :
  GM w' g { G with list:=G.list.set i x'} dy ol al cl cb cc bs:=by
 have aP:∀{c p},ow c=some p→p ≠ .nd i→p ≠ .dn i→p ≠ .up i→¬S c:=fun {c p} e h1 h2 h3 hs=>by
  rcases hS c p e hs with q|q|q
  ·exact h1 q
  ·exact h2 q
  ·exact h3 q
 refine⟨?_,hk _ _ h.fN,?_,fun b hb=>hk _ _ (h.iT b hb),h.mO,h.jO.mod hm (fun x hx=>?_),hk _ _ h.nD,by simpa using h.len,fun j c x h1 h2=>?_,hl⟩
 ·simpa using h.top.mod hm (aP h.fN (by simp) (by simp) (by simp))
 ·rw[fQ];refine h.arr.mod hm (fun x hx=>?_);cases di:ol with
  |none=>rw[h.mO di] at hx;cases hx
  |some b=>
   have ha:=h.arr;rw[di] at ha;rw[ha.block.1] at hx;cases hx;exact aP (h.iT b di) (by simp) (by simp) (by simp)
 ·cases hx;exact aP h.nD (by simp) (by simp) (by simp)
 ·by_cases mH:i=j
  ·subst mH;rw[dE hi] at h2;cases h2;rw[hb] at h1;cases h1;exact hN
  ·rw[dv mH] at h2;refine((h.node j c x h1 h2).mod hm fun d p e hp=>?_).up hk;have gB:j≠i:=fun e=>mH e.symm
   rcases hp with rfl|rfl|rfl<;>exact aP e (by simp[gB]) (by simp[gB]) (by simp[gB])
def cN (ow:Nat→Option Lb)(ob:Option Nat)(p:Lb)(k:Nat):Option Lb:=if some k=ob then some p else ow k
theorem AB {ow:Nat→Option Lb}{ob:Option Nat}{p:Lb}(h:∀k,ob=some k→ow k=some p∨ow k=none)(k:Nat)(q:Lb)(e:ow k=some q):cN ow ob p k=some q:=by
 unfold cN;split
 ·rename_i hk
  rcases h k hk.symm with h1|h1
  ·rw[h1] at e;exact e
  ·rw[h1] at e;cases e
 ·exact e
theorem Wz {w:World}{ow:Nat→Option Lb}{ob:Option Nat}{p:Lb}(h:∀k,ob=some k→ow k=some p∨(ow k=none∧w.heap.size≤k)):fT w ow (cN ow ob p):=
 ⟨fun k q e=>AB (fun k hk=>(h k hk).imp id (·.1)) k q e,fun k e=>by
  unfold cN at e;split at e
  ·rename_i hk
   rcases h k hk.symm with h1|h1
   ·exact .inl (by rw[h1];simp)
   ·exact .inr h1.2
  ·exact .inl e⟩
theorem CA {w':World}{ow:Nat→Option Lb}{ob:Option Nat}{p:Lb}(h:∀k,ow k≠none→k<w'.heap.size)(ho:∀k,ob=some k→k<w'.heap.size)(k:Nat)(hk:cN ow ob p k≠none):k<w'.heap.size:=by
 unfold cN at hk;split at hk
 ·rename_i e;exact ho k e.symm
 ·exact h k hk
theorem Gx {ob cQ:Option Nat}{a a':Option Addr}(hn:ob=none→a=none)(cj:∀x,a'=some x→cQ=some x.block∨(a=some x∧cQ=ob)):cQ=none→a'=none:=fun h=>by
 cases ha:a' with
 |none=>rfl
 |some x=>
  rcases cj x ha with h1|⟨h1,h2⟩
  ·rw[h] at h1;cases h1
  ·rw[hn (h2.symm.trans h)] at h1;cases h1
theorem KR {w:World}{el:TypeId}{len cap:Nat}{cs:List Value}{ob cQ:Option Nat}{a a':Option Addr}(hO:aH w el 1 ob a len cap cs)(hn:ob=none→a=none)(cj:∀x,a'=some x→cQ=some x.block∨(a=some x∧cQ=ob))(x:Addr)(hx:a'=some x):cQ=some x.block:=by
 rcases cj x hx with h1|⟨h1,h2⟩
 ·exact h1
 ·cases di:ob with
  |none=>rw[hn di] at h1;cases h1
  |some d=>
   rw[di] at hO;rw[hO.block.1] at h1;cases h1;rw[h2,di]
theorem GM.agx {w6 w7 w8:World}{g:Nat}{G:Gr}{ow:Nat→Option Lb}{ol:Option Nat}{al:Option Addr}{cl cb cc:Nat}{bs:List Nat}(h:GM w6 g G ow ol al cl cb cc bs){a ba b:Nat}{x:Nd}{ob jE:Option Nat}{a3 a7:Option Addr}{c3 c7:Nat}{v2:Value}
  (hb:bs[a]?=some ba) (hx:G.list[a]?=some x) (iy:ow ba=some (.nd a)) (di:∀k,ob=some k→ow k=some (.dn a)) (p9:ob=none→a3=none) (mD:aH w6 3 1 ob a3 x.down.length c3 (aG x.down)) (gC:qD w6 ow (.up a) v2 x.up)
  (qL:aH w7 3 1 jE a7 (x.down.length+1) c7 (aG x.down++aG [b])) (x8:Mod (fun k=>some k=ob) w6 w7) (EL:∀q,jE=some q→ob=some q∨w6.heap.size≤q) (wb:∀q,a7=some q→jE=some q.block∨(a3=some q∧jE=ob))
  (DP:cE w8 ba [str x.key, .slice a7 (x.down.length+1) c7,v2, .int .i64 x.mark]) (nr:Mod (· = ba) w7 w8) :
  GM w8 g { G with list:=G.list.set a { x with down:=x.down++[b]}} (cN ow jE (.dn a)) ol al cl cb cc bs∧fT w6 ow (cN ow jE (.dn a))∧dZ ow w6 w8:=by
 have zU:∀k,jE=some k→ow k=some (.dn a)∨(ow k=none∧w6.heap.size≤k):=fun k hk=>by
  rcases EL k hk with h1|h1
  ·exact .inl (di k h1)
  ·exact .inr ⟨wQ h h1,h1⟩
 have hk:=AB (p := .dn a) (fun k hk=>(zU k hk).imp id (·.1));have hm:Mod (fun k=>some k=ob∨k=ba) w6 w8:=(x8.weaken fun q _ e => .inl e).trans (nr.weaken fun q _ e => .inr e);have hS:∀k p,ow k=some p→(some k=ob∨k=ba)→p = .nd a∨p = .dn a∨p = .up a:=fun k p e hs=>by
  rcases hs with hs|rfl
  ·rw[di k hs.symm] at e;cases e;simp
  ·rw[iy] at e;cases e;simp
 have hblk:=KR mD p9 wb;have MQ:∀k,jE=some k→k<w8.heap.size:=fun k dR=>by
  have h1:=qL;rw[dR] at h1;exact jL h1.block.2 nr.size
 refine⟨h.Xy hb (aV.1 hx).1 hm hS hk (CA (fun k dR=>jL (h.lt k dR) hm.size) MQ) ⟨_,_,DP,hk _ _ iy,?_,?_⟩,Wz zU,hm.weaken fun k _ hs=>?_⟩
 ·refine⟨jE,a7,c7,by simp,?_,fun k dR=>?_,Gx p9 wb⟩
  ·have h1:=qL.mod nr (fun q hq e=>by
    have h2:=hblk q hq
    rcases zU _ h2 with h3|h3
    ·rw[e,iy] at h3;cases h3
    ·rw[e,iy] at h3;cases h3.1)
   rw[←show aG (x.down++[b])=aG x.down++aG [b] by simp[aG]] at h1;simpa using h1
  ·unfold cN;rw[if_pos dR.symm]
 ·exact(gC.mod hm fun k e hs=>by
   rcases hs with hs|rfl
   ·rw[di k hs.symm] at e;cases e
   ·rw[iy] at e;cases e).up hk
 ·rcases hs with hs|rfl
  ·rw[di k hs.symm];simp
  ·rw[iy];simp
theorem GM.agy {w6 w7 w8:World}{g:Nat}{G:Gr}{ow:Nat→Option Lb}{ol:Option Nat}{al:Option Addr}{cl cb cc:Nat}{bs:List Nat}(h:GM w6 g G ow ol al cl cb cc bs){a ba b:Nat}{x:Nd}{ob jE:Option Nat}{a3 a7:Option Addr}{c3 c7:Nat}{v2:Value}
  (hb:bs[a]?=some ba) (hx:G.list[a]?=some x) (iy:ow ba=some (.nd a)) (di:∀k,ob=some k→ow k=some (.up a)) (p9:ob=none→a3=none) (mD:aH w6 3 1 ob a3 x.up.length c3 (aG x.up)) (gC:qD w6 ow (.dn a) v2 x.down)
  (qL:aH w7 3 1 jE a7 (x.up.length+1) c7 (aG x.up++aG [b])) (x8:Mod (fun k=>some k=ob) w6 w7) (EL:∀q,jE=some q→ob=some q∨w6.heap.size≤q) (wb:∀q,a7=some q→jE=some q.block∨(a3=some q∧jE=ob))
  (DP:cE w8 ba [str x.key,v2, .slice a7 (x.up.length+1) c7, .int .i64 x.mark]) (nr:Mod (· = ba) w7 w8) :
  GM w8 g { G with list:=G.list.set a { x with up:=x.up++[b]}} (cN ow jE (.up a)) ol al cl cb cc bs∧fT w6 ow (cN ow jE (.up a))∧dZ ow w6 w8:=by
 have zU:∀k,jE=some k→ow k=some (.up a)∨(ow k=none∧w6.heap.size≤k):=fun k hk=>by
  rcases EL k hk with h1|h1
  ·exact .inl (di k h1)
  ·exact .inr ⟨wQ h h1,h1⟩
 have hk:=AB (p := .up a) (fun k hk=>(zU k hk).imp id (·.1));have hm:Mod (fun k=>some k=ob∨k=ba) w6 w8:=(x8.weaken fun q _ e => .inl e).trans (nr.weaken fun q _ e => .inr e);have hS:∀k p,ow k=some p→(some k=ob∨k=ba)→p = .nd a∨p = .dn a∨p = .up a:=fun k p e hs=>by
  rcases hs with hs|rfl
  ·rw[di k hs.symm] at e;cases e;simp
  ·rw[iy] at e;cases e;simp
 have hblk:=KR mD p9 wb;have MQ:∀k,jE=some k→k<w8.heap.size:=fun k dR=>by
  have h1:=qL;rw[dR] at h1;exact jL h1.block.2 nr.size
 refine⟨h.Xy hb (aV.1 hx).1 hm hS hk (CA (fun k dR=>jL (h.lt k dR) hm.size) MQ) ⟨_,_,DP,hk _ _ iy,?_,?_⟩,Wz zU,hm.weaken fun k _ hs=>?_⟩
 ·exact(gC.mod hm fun k e hs=>by
   rcases hs with hs|rfl
   ·rw[di k hs.symm] at e;cases e
   ·rw[iy] at e;cases e).up hk
 ·refine⟨jE,a7,c7,by simp,?_,fun k dR=>?_,Gx p9 wb⟩
  ·have h1:=qL.mod nr (fun q hq e=>by
    have h2:=hblk q hq
    rcases zU _ h2 with h3|h3
    ·rw[e,iy] at h3;cases h3
    ·rw[e,iy] at h3;cases h3.1)
   rw[←show aG (x.up++[b])=aG x.up++aG [b] by simp[aG]] at h1;simpa using h1
  ·unfold cN;rw[if_pos dR.symm]
 ·rcases hs with hs|rfl
  ·rw[di k hs.symm];simp
  ·rw[iy];simp
end Go.Proofs.YtoloaehmppcjoaaGreat.V.M
