/-
  Parts of the proof. No condition.
-/
import Derived.Test.YtmlpbmgfmnmmmaaGreatW2au
set_option linter.unusedVariables false
set_option linter.unusedSimpArgs false
set_option maxRecDepth 8000
set_option maxHeartbeats 8000000
open Go.Proofs.Tryz
namespace Go.Proofs.YtmlpbmgfmnmmmaaGreat.V.M
attribute [local irreducible] GO GX
def wN (ow:Nat→Option Lb)(b:Nat)(p:Lb)(k:Nat):Option Lb:=if k=b then some p else ow k
structure fJ (w:World)(ow du:Nat→Option Lb):Prop where
 nV:∀b p,ow b=some p→du b=some p
 new:∀b,du b≠none→ow b≠none∨w.heap.size≤b
theorem fJ.refl (w:World)(ow:Nat→Option Lb):fJ w ow ow:=⟨fun _ _ h=>h,fun _ h => .inl h⟩
theorem fJ.trans {w w1:World}{o1 o2 o3:Nat→Option Lb}(h:fJ w o1 o2)(k:fJ w1 o2 o3)(hs:w.heap.size≤w1.heap.size):fJ w o1 o3:=
 ⟨fun b p e=>k.nV b p (h.nV b p e),fun b e=>by
  rcases k.new b e with h1|h1
  ·exact h.new b h1
  ·exact .inr (eh hs h1)⟩
theorem ahR {w:World}{ow:Nat→Option Lb}{b:Nat}{p:Lb}(hb:w.heap.size≤b)(ho:ow b=none):fJ w ow (wN ow b p):=
 ⟨fun k q e=>by
  unfold wN;rw[if_neg (fun h=>by subst h;rw[ho] at e;cases e)];exact e,fun k e=>by
  unfold wN at e;split at e
  ·rename_i h;subst h;exact .inr hb
  ·exact .inl e⟩
theorem dV.up {w w1 w2:World}{ow du:Nat→Option Lb}(h:dV ow w w1)(hu:fJ w ow du)(k:dV du w1 w2):dV ow w w2:=Mod.then h k fun i hi e=>by
 rcases hu.new i e with h1|h1
 ·exact h1
 ·omega
theorem p9.up {w:World}{ow du:Nat→Option Lb}{p:Lb}{v:Value}{l:List Nat}(h:p9 w ow p v l)(hk:∀b q,ow b=some q→du b=some q):p9 w du p v l:=by
 obtain⟨ob,a,c,h1,h2,h3,h4⟩:=h;exact⟨ob,a,c,h1,h2,fun b hb=>hk b p (h3 b hb),h4⟩
theorem rr.up {w:World}{ow du:Nat→Option Lb}{i b:Nat}{x:Nd}(h:rr w ow i b x)(hk:∀b q,ow b=some q→du b=some q):rr w du i b x:=by
 obtain⟨v1,v2,h1,h2,h3,h4⟩:=h;exact⟨v1,v2,h1,hk b _ h2,h3.up hk,h4.up hk⟩
theorem GM.setCells {w w':World}{g:Nat}{G:Gr}{ow:Nat→Option Lb}{ol:Option Nat}{al:Option Addr}{cl cb cc:Nat}{bs:List Nat}(h:GM w g G ow ol al cl cb cc bs){cs:List Nat}{b c:Nat}(df:ow b=none)(hm:Mod (· = g) w w')
  (hB:cD w' g [.int .i64 G.cL, .int .i64 G.dd,uV G.aJ, .slice al G.list.length cl, .slice (some ⟨b,0,none⟩) cs.length c, .int .i64 G.cp, .int .i64 G.cT]) (hO:aG w' 3 1 (some b) (some ⟨b,0,none⟩) cs.length c (aD cs)) :
  GM w' g { G with cells:=cs} (wN ow b .ju) ol al cl b c bs:=by
 have hk:∀k q,ow k=some q→wN ow b .ju k=some q:=fun k q e=>by
  unfold wN;rw[if_neg (fun h=>by subst h;rw[df] at e;cases e)];exact e
 have aR:∀{c p},ow c=some p→p ≠ .top→¬c=g:=fun {c p} e hp=>lr e h.fG hp
 refine⟨hB,hk _ _ h.fG,h.arr.mod hm (fun x hx=>?_),fun c hc=>hk _ _ (h.iG c hc),h.mv,hO,by simp[wN],h.len,fun i c x h1 h2=>((h.node i c x h1 h2).mod hm fun d p e hp=>aR e (by rcases hp with rfl|rfl|rfl<;>simp)).up hk,fun k eE=>?_⟩
 ·cases iC:ol with
  |none=>rw[h.mv iC] at hx;cases hx
  |some d=>
   have ha:=h.arr;rw[iC] at ha;rw[ha.block.1] at hx;cases hx;exact aR (h.iG d iC) (by simp)
 ·unfold wN at eE;split at eE
  ·rename_i e;subst e;exact hO.block.2
  ·exact j4 (h.lt k eE) hm.size
theorem GM.setCell {w w':World}{g:Nat}{G:Gr}{ow:Nat→Option Lb}{ol:Option Nat}{al:Option Addr}{cl cb cc:Nat}{bs:List Nat}(h:GM w g G ow ol al cl cb cc bs){q v:Nat}(hm:Mod (· = cb) w w')
  (hO:aG w' 3 1 (some cb) (some ⟨cb,0,none⟩) G.cells.length cc ((aD G.cells).set q (.int .i64 v))):GM w' g { G with cells:=G.cells.set q v} ow ol al cl cb cc bs:=by
 have aR:∀{c p},ow c=some p→p ≠ .ju→¬c=cb:=fun {c p} e hp=>lr e h.ng hp
 refine⟨by simpa using h.top.mod hm (aR h.fG (by simp)),h.fG,h.arr.mod hm (fun x hx=>?_),h.iG,h.mv,?_,h.ng,h.len,fun i c x h1 h2=>(h.node i c x h1 h2).mod hm fun d p e hp=>aR e (by rcases hp with rfl|rfl|rfl<;>simp),fun k hk=>j4 (h.lt k hk) hm.size⟩
 ·cases iC:ol with
  |none=>rw[h.mv iC] at hx;cases hx
  |some d=>
   have ha:=h.arr;rw[iC] at ha;rw[ha.block.1] at hx;cases hx;exact aR (h.iG d iC) (by simp)
 ·have e:(aD G.cells).set q (.int .i64 v)=aD (G.cells.set q v):=by simp[aD,pf]
  rw[e] at hO;simpa using hO
theorem NG (C:Nat):(List.replicate C [Value.int .i64 0]).flatten=aD (List.replicate C 0):=by
 induction C with
 |zero=>rfl
 |succ C ih=>rw[List.replicate_succ,om,ih,List.replicate_succ];rfl
theorem aeW {L:List Nd}{i:Nat}{x:Nd}(hx:L[i]?=some x):(eW L).take (i+1)=(eW L).take i++[(x.key,i)]:=by
 rw[ic];have:(eW L)[i]?=some (x.key,i):=by simp[eW,List.getElem?_zipIdx,hx]
 rw[this];rfl
theorem sD.put {G:Gr}{M:List (Bs×Nat)}(h:sD G M){k:Bs}{i q:Nat}{x:Nd}(hx:G.list[i]?=some x)(hk:x.key=k)(qC:k∉M.map (·.1))(hq:A7 G M k q)(hr:M.length+1<G.cells.length) :
  sD { G with cells:=G.cells.set q (i+1)} (M++[(k,i)]):=by
 obtain⟨d,rfl,h2,h3⟩:=hq;have hi:=(aV.1 hx).1;have hl:(eZ G.list G.cells).length=G.cells.length:=by simp[eZ]
 have HU:G.cells[(bN G.aJ k+d) % G.cells.length]?=some 0:=by
  rcases h3 with⟨_,h3⟩|⟨n,h3,_⟩
  ·exact h3
  ·exact absurd (bK.2 ⟨_,h3,rfl⟩) qC
 have hT:=h.eC.put (k:=k) (n:=i) (d:=d) qC (by rw[hl];exact h2) (by rw[hl,Kw,HU];rfl) (by rw[hl];exact hr);refine⟨?_,fun k' n hm=>?_,fun n hn=>?_,h.aJ,⟨by simpa using h.small.1,h.small.2⟩⟩
 ·rw[hl] at hT;have e:eZ G.list (G.cells.set ((bN G.aJ k+d) % G.cells.length) (i+1))=(eZ G.list G.cells).set ((bN G.aJ k+d) % G.cells.length) (some (k,i)):=by
   simp only[eZ,pf,hx,jr,nC,hk]
  show eP _ (eZ G.list (G.cells.set ((bN G.aJ k+d) % G.cells.length) (i+1))) _;rw[e];exact hT
 ·rcases cJ.1 hm with hm|hm
  ·exact h.sub k' n hm
  ·simp at hm;obtain⟨rfl,rfl⟩:=hm;exact⟨x,hx,hk⟩
 ·rcases l4 hn with hn|hn
  ·exact h.idx n hn
  ·subst hn;exact hi
theorem wH {w:World}{g:Nat}{G:Gr}{ow:Nat→Option Lb}{ol:Option Nat}{al:Option Addr}{cl cb cc:Nat}{bs:List Nat}(h:GM w g G ow ol al cl cb cc bs){b:Nat}(hb:w.heap.size≤b):ow b=none:=by
 cases ho:ow b with
 |none=>rfl
 |some p=>have:=h.lt b (by rw[ho];simp);omega
theorem Qb {w:World}{g:Nat}{G:Gr}{ow:Nat→Option Lb}{ol:Option Nat}{al:Option Addr}{cl cb cc:Nat}{bs:List Nat}(hG:GM w g G ow ol al cl cb cc bs)(hn:(G.list.map (·.key)).Nodup)(Ag:G.aJ<ed)(cQ:∀x∈G.list,x.key.length<2^40)
  (C:Nat) (hC:G.list.length<C) (zC:C<2^40) :
  aj prog 246 [ak g, .int .i64 C].toArray w fun _ w'=>
   (∃cs b c du,GM w' g { G with cells:=cs} du ol al cl b c bs∧gS { G with cells:=cs}∧cs.length=C∧fJ w ow du)∧dV ow w w':=by
 have hT:=hG.top;refine aj.enter func246 rfl ntmps246 rfl (go ?_);refine GX.makeSlice rfl rfl rfl rfl rfl rfl ah ah ah ah fun b w1 hb hO hE=>go ?_
 have df:=wH hG (b:=b) ah;have fC:=hG.ext hE;refine GX.yV fC.top rfl rfl rfl rfl (by rfl) (by rfl) (by rfl) (by rfl) fun w2 qh gX=>go ?_
 have iW:aG w2 3 1 (some b) (some ⟨b,0,none⟩) (List.replicate C 0).length C (aD (List.replicate C 0)):=by
  have h1:=hO.mod gX (fun x hx e=>by cases hx;have:=hG.lt g (by rw[hG.fG];simp);have e':b=g:=e;omega);rw[←NG];simpa[Value.cells] using h1
 have gN:=fC.setCells (cs:=List.replicate C 0) df gX (by simpa using qh) iW;have mh:dV ow w w2:=(dV.ext (Mod.refl w) hE).own hG.fG gX;have uE:=ahR (w:=w) (ow:=ow) (b:=b) (p := .ju) ah df;have qq:=gN.top;refine go ?_;refine GC.bP [0,14,15] (fun s:Nat×List Nat=>[(16, .int .i64 s.1)])
  (fun s w'=>s.1≤G.list.length∧GM w' g { G with cells:=s.2} (wN ow b .ju) ol al cl b C bs∧sD { G with cells:=s.2} ((eW G.list).take s.1)∧s.2.length=C∧dV ow w w') (fun s=>G.list.length - s.1)
  (0,List.replicate C 0) rfl rfl ⟨bh _,gN,?_,by simp,mh⟩ ?_
 ·refine⟨?_,(fun k n h=>by simp at h),fun n hn=>?_,Ag,⟨by simpa using zC,by simp only;omega⟩⟩
  ·have e:eZ G.list (List.replicate C 0)=List.replicate C none:=by simp[eZ,List.map_replicate]
   show eP _ (eZ G.list (List.replicate C 0)) _;rw[e];exact eP.empty _ C ah
  ·have:=List.eq_of_mem_replicate hn;omega
 rintro⟨i,cs⟩ w3 ⟨hi,nN,uf,gC,rD⟩;dsimp only at hi nN uf gC ⊢;refine go ?_;refine dj (fun hc=>?_) (fun hc=>?_)<;>refine go ?_
 ·have aP:i<G.list.length:=by omega
  have hx:G.list[i]?=some (G.list[i]'aP):=by simp
  generalize G.list[i]'aP=x at hx;have BD:bs[i]?=some (bs[i]'(by have:=hG.len;omega)):=by simp
  generalize bs[i]'(by have:=hG.len;omega)=bi at BD;obtain⟨v1,v2,uv,_⟩:=nN.node i bi x BD hx;obtain⟨lb,lo,b6,lH⟩:=sg nN.arr.bR BD;subst b6;refine GX.next rfl (GO.indexAddr rfl rfl rfl rfl ah ah rfl ?_);refine GX.lj (lH (i:Int) ah) rfl rfl rfl rfl (go ?_);have fg:=cQ x (bF hx);refine GX.call (KR nN uf x.key fg) rfl rfl rfl rfl rfl rfl ?_;rintro _ w4 ⟨⟨q,rfl,hq,hF⟩,lI⟩;have gd:=nN.ext lI;refine go ?_;refine GX.Pc gd.ju (by simpa using hq) rfl rfl rfl rfl (by rfl) (by rfl) fun w5 LL wa=>go ?_
  have ql:=gd.setCell (q:=q) (v:=i+1) wa LL;have qC:x.key∉((eW G.list).take i).map (·.1):=by
   rw[List.map_take,Fh];intro ea;obtain⟨j,hj⟩:=ej ea;rw[vm] at hj;split at hj
   ·rename_i gf
    have h2:(G.list.map (·.key))[i]?=some x.key:=by simp[hx]
    have:=On hn hj h2;omega
   ·cases hj
  have hlen:((eW G.list).take i).length=i:=by
   simp[eW];omega
  have BB:=uf.put hx rfl qC hF (by rw[hlen];simp only;omega);refine GQ.br (i+1,cs.set q (i+1)) rfl ⟨aP,ql,?_,by simpa using gC,?_⟩ (by simp only;omega)
  ·simp only;rw[aeW hx];exact BB
  ·exact rD.up uE ((dV.ext (Mod.refl w3) lI).own gd.ng wa)
 have BK:i=G.list.length:=by omega
 have Mp:(eW G.list).take i=eW G.list:=eO (by simp[eW];omega);rw[Mp] at uf;exact⟨⟨cs,b,C,_,nN,⟨uf.eC,uf.idx,uf.aJ,uf.small.1⟩,gC,uE⟩,rD⟩
section
variable {P:Program}{ops:Array Oper}{Q:Exit→Act→World→Prop}{n:Nat}
variable {i:Nat}{e:Env}{w:World}{ty:TypeId}{pos:String}{an:Array Edge}{g:Option (Nat×Bool)}
theorem GX.alq [Fr]{T:Nat→Prop}{w0:World}{p:bZ}{t:TypeId}[hf:aC P t false 1]{x y:Operand}{el:TypeId}{b len cap j:Nat}{a:Option Addr}{v:Value}{cs:List Value}(hO:aG w el 1 (some b) a len cap cs)(hj:j<cs.length)(hT:T b∨gG ops i=true)
  (ho:ops[i]?=some ⟨none, .store t x y,ty,pos,an,g⟩) (hw:aH ops e ⟨none, .store t x y,ty,pos,an,g⟩=some true) (hx:ev e x=some (.pointer (some ⟨b,j,none⟩))) (hy:ev e y=some v)
  (hc:v.cells.toList=[v]) (h1:v.oneCell'=true)
  (h:∀w',aG w' el 1 (some b) a len cap (cs.set j v)→Mod (· = b) w w'→GX P ops Q (Mod T w0) n p e w'):GX P ops Q (Mod T w0) n (.ax i p) e w:=
 GX.ax ho (GO.store (vs:=[v]) (OD hO hj) hc rfl (by simpa using h1) hw hx hy fun w' hp=>⟨(fun kY hS=>by
  rcases hT with hT|hT
  ·exact hS.trans (hp.mod.weaken fun k _ hk=>by subst hk;exact hT)
  ·rw[hT] at kY;cases kY),h w' (OC hO hp hj) hp.mod⟩)
end
theorem aeV (L:List Nd)(x:Nd):eW (L++[x])=eW L++[(x.key,L.length)]:=by simp[eW,List.zipIdx_append]
theorem YP {L:List Nd}{cs:List Nat}(x:Nd)(h:∀n∈cs,n≤L.length):eZ (L++[x]) cs=eZ L cs:=by
 unfold eZ;refine ri fun n hn=>?_
 cases n with
 |zero=>rfl
 |succ m=>
  have:=h _ hn;simp only[gr (show m<L.length by omega)]
theorem sD.grow {G:Gr}{M:List (Bs×Nat)}(h:sD G M)(hi:∀n∈G.cells,n≤G.list.length)(x:Nd)(hl:G.list.length+1<2^40):sD { G with list:=G.list++[x]} M:=by
 refine⟨?_,fun k n hm=>?_,fun n hn=>?_,h.aJ,⟨h.small.1,by simpa using hl⟩⟩
 ·have e:=YP x hi;show eP _ (eZ (G.list++[x]) G.cells) _;rw[e];exact h.eC
 ·obtain⟨y,h1,h2⟩:=h.sub k n hm;exact⟨y,by simp[gr (aV.1 h1).1,h1],h2⟩
 ·have:=hi n hn;simp only[bJ,dR,tF];omega
def rZ (ow:Nat→Option Lb)(nb i:Nat)(ol:Option Nat)(k:Nat):Option Lb:=if k=nb then some (.nd i) else if some k=ol then some .arr else ow k
theorem Wz {ow:Nat→Option Lb}{nb i:Nat}{jg:Option Nat}(wc:ow nb=none)(iC:∀b,jg=some b→ow b=some .arr∨ow b=none)(k:Nat)(q:Lb)(e:ow k=some q):rZ ow nb i jg k=some q:=by
 unfold rZ;rw[if_neg (fun h=>by subst h;rw[wc] at e;cases e)];split
 ·rename_i h
  rcases iC k h.symm with h1|h1
  ·rw[h1] at e;exact e
  ·rw[h1] at e;cases e
 ·exact e
theorem ahQ {w:World}{ow:Nat→Option Lb}{nb i:Nat}{jg:Option Nat}(wc:ow nb=none)(hw:w.heap.size≤nb)(iC:∀b,jg=some b→ow b=some .arr∨(ow b=none∧w.heap.size≤b)):fJ w ow (rZ ow nb i jg):=
 ⟨fun k q e=>Wz wc (fun b hb=>(iC b hb).imp id (·.1)) k q e,fun k e=>by
  unfold rZ at e;split at e
  ·rename_i h;subst h;exact .inr hw
  ·split at e
   ·rename_i h
    rcases iC k h.symm with h1|h1
    ·exact .inl (by rw[h1];simp)
    ·exact .inr h1.2
   ·exact .inl e⟩
theorem GM.addNode {w w':World}{g:Nat}{G:Gr}{ow:Nat→Option Lb}{ol:Option Nat}{al:Option Addr}{cl cb cc:Nat}{bs:List Nat}(h:GM w g G ow ol al cl cb cc bs){nb qe:Nat}{jg:Option Nat}{oC:Option Addr}{x:Nd}
  (wc:ow nb=none) (IE:nb<w'.heap.size) (aR:jg≠some nb) (iC:∀b,jg=some b→ow b=some .arr∨ow b=none) (pN:jg=none→oC=none) (hm:Mod (fun k=>some k=ol∨k=g) w w')
  (hB:cD w' g [.int .i64 G.cL, .int .i64 G.dd,uV G.aJ, .slice oC (G.list.length+1) qe, .slice (some ⟨cb,0,none⟩) G.cells.length cc, .int .i64 G.cp, .int .i64 G.cT])
  (hO:aG w' 244 1 jg oC (G.list.length+1) qe (bg (bs++[nb]))) (hN:rr w' (rZ ow nb G.list.length jg) G.list.length nb x) :
  GM w' g { G with list:=G.list++[x]} (rZ ow nb G.list.length jg) jg oC qe cb cc (bs++[nb]):=by
 have hk:=Wz (i:=G.list.length) wc iC;have hS:∀{c p},ow c=some p→p ≠ .top→p ≠ .arr→¬(some c=ol∨c=g):=fun {c p} e h1 h2 hx=>by
  rcases hx with hx|hx
  ·exact lr e (h.iG c hx.symm) h2 rfl
  ·exact lr e h.fG h1 hx
 refine⟨by simpa using hB,hk _ _ h.fG,by simpa using hO,fun b hb=>?_,pN,h.ju.mod hm (fun y hy=>by cases hy;exact hS h.ng (by simp) (by simp)),hk _ _ h.ng,by simp[h.len],fun j c y h1 h2=>?_,fun k eE=>?_⟩
 ·unfold rZ;rw[if_neg (fun e=>by subst e;exact aR hb),if_pos hb.symm]
 ·by_cases hj:j<G.list.length
  ·rw[gr hj] at h2;rw[gr (by have:=h.len;omega)] at h1;exact((h.node j c y h1 h2).mod hm fun d p e hp=>hS e (by rcases hp with rfl|rfl|rfl<;>simp) (by rcases hp with rfl|rfl|rfl<;>simp)).up hk
  ·have xV:=(aV.1 h2).1;simp only[bJ,dR,tF] at xV;have vX:j=G.list.length:=by omega
   subst vX;have hl:=h.len;have e1:c=nb:=by simpa[ia,hl] using h1.symm
   have e2:y=x:=by simpa[ia] using h2.symm
   subst e1 e2;exact hN
 ·unfold rZ at eE;split at eE
  ·rename_i e;subst e;exact IE
  ·split at eE
   ·rename_i e
    rw[←e] at hO;exact hO.block.2
   ·exact j4 (h.lt k eE) hm.size
def xu (G:Gr):Prop:=8≤G.cells.length∧G.cells.length≤2^18
structure iI (G H:Gr)(k:Bs)(n:Nat):Prop where
 cL:H.cL=G.cL
 dd:H.dd=G.dd
 aJ:H.aJ=G.aJ
 cp:H.cp=G.cp
 nY:H.cT=G.cT
 list:(H.list=G.list∧∃x,G.list[n]?=some x∧x.key=k)∨(k∉G.list.map (·.key)∧n=G.list.length∧H.list=G.list++[⟨k,[],[],0⟩])
structure Yz (G H:Gr):Prop where
 cL:H.cL=G.cL
 dd:H.dd=G.dd
 aJ:H.aJ=G.aJ
 cp:H.cp=G.cp
 nY:H.cT=G.cT
 list:H.list=G.list
def PG (w0 w:World)(g:Nat)(G:Gr)(ow:Nat→Option Lb):Prop:=∃du ol al cl cb cc bs,GM w g G du ol al cl cb cc bs∧fJ w0 ow du
theorem gS.nodup {G:Gr}(h:gS G):(G.list.map (·.key)).Nodup:=by rw[←Fh];exact h.eC.nodup
theorem WL {w:World}{g:Nat}{G:Gr}{ow:Nat→Option Lb}{ol:Option Nat}{al:Option Addr}{cl cb cc:Nat}{bs:List Nat}(hG:GM w g G ow ol al cl cb cc bs)(aX:gS G)(BF:xu G)(kZ:G.list.length≤65536)
  (cQ:∀x∈G.list,x.key.length<2^40) (k:Bs) (hk:k.length<2^40) :
  aj prog 170 [ak g,str k].toArray w fun v w'=>
   (∃n H,v = .int .i64 (n:Nat)∧iI G H k n∧PG w w' g H ow∧gS H∧xu H)∧dV ow w w':=by
 obtain⟨Sp,Sm⟩:=BF;have amZ:G.list.length<G.cells.length:=by have:=aX.eC.room;simpa[eW,eZ] using this
 refine aj.enter func170 rfl ntmps170 rfl (go ?_);refine GX.call (xK hG aX k hk) rfl rfl rfl rfl rfl rfl ?_;rintro _ w1 ⟨⟨z,rfl,hz⟩,cW⟩;have fC:=hG.ext cW;have iX:=fC.top;have vP:dV ow w w1:=dV.ext (Mod.refl w) cW;refine go ?_;refine dj (fun oR=>?_) (fun oR=>?_)<;>refine go ?_
 ·rcases hz with⟨rfl,_⟩|⟨n,x,rfl,hx,fg⟩
  ·omega
  exact⟨⟨n,G,rfl,⟨rfl,rfl,rfl,rfl,rfl, .inl ⟨rfl,x,hx,fg⟩⟩,⟨_,_,_,_,_,_,_,fC,fJ.refl _ _⟩,aX,Sp,Sm⟩,vP⟩
 have SZ:k∉G.list.map (·.key):=by
  rcases hz with⟨_,h⟩|⟨n,x,rfl,_⟩
  ·exact h
  ·omega
 refine GC.o5 (aZ [0,3,6,18,21,24,10,12,15,28,30,33]) (fun _=>False) mixed ai ai (go ?_);refine go ?_;refine GX.pure rfl (GO.mul rfl rfl rfl rfl rfl (kN (by dsimp only[kR];omega)) ?_);refine go ?_;refine GC.cut (X:=Unit) (fun _=>[(0,ak g),(1,str k)]) (fun _ w'=>(∃H b c du,GM w' g H du ol al cl b c bs∧gS H∧G.list.length+1<H.cells.length∧8≤H.cells.length∧H.cells.length≤2^18∧Yz G H∧fJ w ow du)∧dV ow w w') ?_ ?_
 ·refine dj (fun zK=>?_) (fun zK=>?_)<;>refine go ?_
  ·refine GX.next rfl (GO.mul rfl rfl rfl rfl rfl (kN (by dsimp only[kR];omega)) ?_);refine go ?_;refine GX.call (Qb (fC.ext (Ext.drew w1)) aX.nodup aX.aJ cQ (2*G.cells.length) ah ah) rfl rfl rfl rfl rfl rfl ?_;rintro _ w2 ⟨⟨cs,b,c,du,gN,uy,Su,EW⟩,mh⟩;refine go ?_;have oQ:w.heap.size≤w1.drew.heap.size:=(cW.trans (Ext.drew w1)).size;exact GQ.dx () (cZ (l:=[0,1]) rfl) ⟨⟨{ G with cells:=cs},b,c,du,gN,uy,by simp only;omega,by simp only;omega,by simp only;omega,⟨rfl,rfl,rfl,rfl,rfl,rfl⟩,(fJ.refl w ow).trans EW oQ⟩,(vP.ext (Ext.drew w1)).up (fJ.refl w ow) mh⟩
  ·refine go ?_;exact GQ.dx () (cZ (l:=[0,1]) rfl) ⟨⟨G,cb,cc,ow,fC.ext (Ext.drew w1),aX,by omega,Sp,Sm,⟨rfl,rfl,rfl,rfl,rfl,rfl⟩,fJ.refl _ _⟩,vP.ext (Ext.drew w1)⟩
 rintro⟨⟩ w2 ⟨⟨H,b,c,du,gN,uy,x9,acT,Su,pP,EW⟩,mh⟩;have sP:H.list.length=G.list.length:=congrArg List.length pP.list;have qq:=gN.top;refine go ?_;refine GX.box rfl rfl rfl rfl (by rfl) fun nb w3 wc HB iy=>go ?_
 refine GX.yS rfl rfl rfl rfl rfl rfl rfl rfl rfl fun sb w4 sX BA lI=>go ?_
 have gd:=(gN.ext iy).ext lI;refine GX.append gd.arr BA.bR rfl rfl rfl rfl rfl rfl rfl (CL [nb]) ah ah fun AA KA FH w5 LL wa nT b6=>go ?_
 have iC:∀q,AA=some q→du q=some .arr∨(du q=none∧w4.heap.size≤q):=fun q hq=>by
  rcases nT q hq with h|h
  ·exact .inl (gd.iG q h)
  ·exact .inr ⟨wH gd h,h⟩
 have BB:=gd.top.mod wa (fun h=>lr gd.fG (gd.iG g h.symm) (by simp) rfl);refine GX.yV BB rfl rfl rfl rfl (by rfl) (by rfl) (by rfl) (by rfl) fun w6 hB6 zS=>go ?_
 have hS4:w2.heap.size≤w4.heap.size:=(iy.trans lI).size;have LS:w3.heap.size≤w4.heap.size:=lI.size;have BX:du nb=none:=wH gN ah;have amS:nb<w3.heap.size:=HB.lt;have Ix:Mod (fun q=>some q=ol∨q=g) w4 w6:=(wa.weaken fun q _ h => .inl h).trans (zS.weaken fun q _ h => .inr h);have MA:∀q,AA=some q→q≠nb:=fun q hq e=>by
  subst e
  rcases iC q hq with h|h
  ·rw[BX] at h;cases h
  ·have:=h.2;omega
 have acn:cD w6 nb [str k, .slice none 0 0, .slice none 0 0, .int .i64 0]:=(HB.ext lI).mod Ix (by
  rintro(h|h)
  ·have:=gd.iG nb h.symm;rw[BX] at this;cases this
  ·rw[h,gd.fG] at BX;cases BX)
 have R4:∀p,p9 w6 (rZ du nb H.list.length AA) p (.slice none 0 0) []:=fun p=>⟨none,none,0,rfl,aG.nil _ _ _,by simp,fun _=>rfl⟩
 have LM:aG w6 244 1 AA KA (H.list.length+1) FH (bg (bs++[nb])):=by
  have h1:=LL.mod zS (fun x hx e=>by
   rcases b6 x hx with h|⟨h1,h2⟩
   ·rcases iC _ h with h|h
    ·rw[e,gd.fG] at h;cases h
    ·rw[e,gd.fG] at h;cases h.1
   ·cases df:ol with
    |none=>rw[gd.mv df] at h1;cases h1
    |some d=>
     have ha:=gd.arr;rw[df] at ha;rw[ha.block.1] at h1;cases h1;have e':d=g:=e;have:=gd.iG d df;rw[e',gd.fG] at this;cases this)
  rw[show bg (bs++[nb])=bg bs++[ak nb] by simp[bg]];exact h1
 have pN:AA=none→KA=none:=fun h=>by
  cases ha:KA with
  |none=>rfl
  |some x=>
   rcases b6 x ha with h1|⟨h1,h2⟩
   ·rw[h] at h1;cases h1
   ·rw[gd.mv (h2.symm.trans h)] at h1;cases h1
 have iK:=gd.addNode (x:=⟨k,[],[],0⟩) BX (by have:=Ix.size;omega) (fun h=>MA nb h rfl) (fun q hq=>(iC q hq).imp id (·.1)) (fun h=>pN h) Ix hB6 LM ⟨_,_,acn,by simp[rZ],R4 _,R4 _⟩;have ad7:fJ w2 du (rZ du nb H.list.length AA):=ahQ BX ah fun q hq=>(iC q hq).imp id fun h=>⟨h.1,by omega⟩
 have hM6:dV ow w w6:=mh.up EW (((dV.ext (Mod.refl w2) iy).ext lI).then Ix fun q hq h=>by
  rcases h with h|h
  ·rw[gd.iG q h.symm];simp
  ·rw[h,gd.fG];simp)
 have R5:=iK.top;have hkH:k∉(eW H.list).map (·.1):=by rw[Fh,pP.list];exact SZ
 have R6:=uy.X8.grow uy.idx ⟨k,[],[],0⟩ ah;have ur:(H.list++[(⟨k,[],[],0⟩:Nd)]).length=H.list.length+1:=by simp
 refine GC.o5 (aZ [0,3,9,12,15,19,21,8,24,29]) (fun _=>False) mixed ai ai (go ?_);refine go ?_;refine GX.Dn (KR (iK.ext (Ext.drew w6)) R6 k hk) (fun _ _ h=>h.2) rfl rfl rfl rfl rfl rfl ?_;rintro _ w7 ⟨⟨q,rfl,hq,hF⟩,oI⟩;have Lx:=(iK.ext (Ext.drew w6)).ext oI;refine go ?_;refine GX.alq Lx.ju (by simpa using hq) (.inr ai) rfl rfl rfl rfl (by rfl) (by rfl) fun w8 zH mW=>go ?_
 have rB:=Lx.setCell (q:=q) (v:=(H.list++[(⟨k,[],[],0⟩:Nd)]).length) mW zH;have HL:=rB.top;have HM:=R6.put (k:=k) (i:=H.list.length) (q:=q) (x:=⟨k,[],[],0⟩) (by simp) rfl hkH hF (by simp only[eW,fk,List.length_zipIdx];omega);refine go ?_;rw[ur] at rB;have TL:fJ w ow (rZ du nb H.list.length AA):=EW.trans ad7 mh.size;have Bz:=hM6.up TL (((dV.ext (Mod.refl w6) (Ext.drew w6)).ext oI).own Lx.ng mW);refine⟨⟨H.list.length,{ H with list:=H.list++[⟨k,[],[],0⟩],cells:=H.cells.set q (H.list.length+1)},by simp only[ur];congr 1;omega,⟨pP.cL,pP.dd,pP.aJ,pP.cp,pP.nY, .inr ⟨SZ,sP,?_⟩⟩,⟨_,_,_,_,_,_,_,rB,TL⟩,⟨?_,HM.idx,HM.aJ,HM.small.1⟩,?_⟩,Bz⟩
 ·exact congrArg (· ++ [(⟨k,[],[],0⟩:Nd)]) pP.list
 ·have h:=HM.eC;rw[←aeV H.list ⟨k,[],[],0⟩] at h;exact h
 ·constructor
  ·simpa using acT
  ·simpa using Su
theorem GM.Xw {S:Nat→Prop}{w w':World}{g:Nat}{G:Gr}{ow du:Nat→Option Lb}{ol:Option Nat}{al:Option Addr}{cl cb cc:Nat}{bs:List Nat}(h:GM w g G ow ol al cl cb cc bs){i b:Nat}{x':Nd}(hb:bs[i]?=some b)(hi:i<G.list.length)(hm:Mod S w w')
  (hS:∀k p,ow k=some p→S k→p = .nd i∨p = .dn i∨p = .up i) (hk:∀k q,ow k=some q→du k=some q) (hl:∀k,du k≠none→k<w'.heap.size) (hN:rr w' du i b x') :
  GM w' g { G with list:=G.list.set i x'} du ol al cl cb cc bs:=by
 have aR:∀{c p},ow c=some p→p ≠ .nd i→p ≠ .dn i→p ≠ .up i→¬S c:=fun {c p} e h1 h2 h3 hs=>by
  rcases hS c p e hs with q|q|q
  ·exact h1 q
  ·exact h2 q
  ·exact h3 q
 refine⟨?_,hk _ _ h.fG,?_,fun b hb=>hk _ _ (h.iG b hb),h.mv,h.ju.mod hm (fun x hx=>?_),hk _ _ h.ng,by simpa using h.len,fun j c x h1 h2=>?_,hl⟩
 ·simpa using h.top.mod hm (aR h.fG (by simp) (by simp) (by simp))
 ·rw[fS];refine h.arr.mod hm (fun x hx=>?_);cases df:ol with
  |none=>rw[h.mv df] at hx;cases hx
  |some b=>
   have ha:=h.arr;rw[df] at ha;rw[ha.block.1] at hx;cases hx;exact aR (h.iG b df) (by simp) (by simp) (by simp)
 ·cases hx;exact aR h.ng (by simp) (by simp) (by simp)
 ·by_cases mm:i=j
  ·subst mm;rw[dJ hi] at h2;cases h2;rw[hb] at h1;cases h1;exact hN
  ·rw[dH mm] at h2;refine((h.node j c x h1 h2).mod hm fun d p e hp=>?_).up hk;have gf:j≠i:=fun e=>mm e.symm
   rcases hp with rfl|rfl|rfl<;>exact aR e (by simp[gf]) (by simp[gf]) (by simp[gf])
def cM (ow:Nat→Option Lb)(ob:Option Nat)(p:Lb)(k:Nat):Option Lb:=if some k=ob then some p else ow k
theorem AD {ow:Nat→Option Lb}{ob:Option Nat}{p:Lb}(h:∀k,ob=some k→ow k=some p∨ow k=none)(k:Nat)(q:Lb)(e:ow k=some q):cM ow ob p k=some q:=by
 unfold cM;split
 ·rename_i hk
  rcases h k hk.symm with h1|h1
  ·rw[h1] at e;exact e
  ·rw[h1] at e;cases e
 ·exact e
theorem Wy {w:World}{ow:Nat→Option Lb}{ob:Option Nat}{p:Lb}(h:∀k,ob=some k→ow k=some p∨(ow k=none∧w.heap.size≤k)):fJ w ow (cM ow ob p):=
 ⟨fun k q e=>AD (fun k hk=>(h k hk).imp id (·.1)) k q e,fun k e=>by
  unfold cM at e;split at e
  ·rename_i hk
   rcases h k hk.symm with h1|h1
   ·exact .inl (by rw[h1];simp)
   ·exact .inr h1.2
  ·exact .inl e⟩
theorem CE {w':World}{ow:Nat→Option Lb}{ob:Option Nat}{p:Lb}(h:∀k,ow k≠none→k<w'.heap.size)(ho:∀k,ob=some k→k<w'.heap.size)(k:Nat)(hk:cM ow ob p k≠none):k<w'.heap.size:=by
 unfold cM at hk;split at hk
 ·rename_i e;exact ho k e.symm
 ·exact h k hk
theorem Gv {ob cO:Option Nat}{a a':Option Addr}(hn:ob=none→a=none)(b6:∀x,a'=some x→cO=some x.block∨(a=some x∧cO=ob)):cO=none→a'=none:=fun h=>by
 cases ha:a' with
 |none=>rfl
 |some x=>
  rcases b6 x ha with h1|⟨h1,h2⟩
  ·rw[h] at h1;cases h1
  ·rw[hn (h2.symm.trans h)] at h1;cases h1
theorem KE {w:World}{el:TypeId}{len cap:Nat}{cs:List Value}{ob cO:Option Nat}{a a':Option Addr}(hO:aG w el 1 ob a len cap cs)(hn:ob=none→a=none)(b6:∀x,a'=some x→cO=some x.block∨(a=some x∧cO=ob))(x:Addr)(hx:a'=some x):cO=some x.block:=by
 rcases b6 x hx with h1|⟨h1,h2⟩
 ·exact h1
 ·cases df:ob with
  |none=>rw[hn df] at h1;cases h1
  |some d=>
   rw[df] at hO;rw[hO.block.1] at h1;cases h1;rw[h2,df]
theorem GM.agz {w6 w7 w8:World}{g:Nat}{G:Gr}{ow:Nat→Option Lb}{ol:Option Nat}{al:Option Addr}{cl cb cc:Nat}{bs:List Nat}(h:GM w6 g G ow ol al cl cb cc bs){a ba b:Nat}{x:Nd}{ob jf:Option Nat}{a3 a7:Option Addr}{c3 c7:Nat}{v2:Value}
  (hb:bs[a]?=some ba) (hx:G.list[a]?=some x) (gY:ow ba=some (.nd a)) (df:∀k,ob=some k→ow k=some (.dn a)) (pN:ob=none→a3=none) (mi:aG w6 3 1 ob a3 x.down.length c3 (aD x.down)) (gi:p9 w6 ow (.up a) v2 x.up)
  (qm:aG w7 3 1 jf a7 (x.down.length+1) c7 (aD x.down++aD [b])) (xZ:Mod (fun k=>some k=ob) w6 w7) (EA:∀q,jf=some q→ob=some q∨w6.heap.size≤q) (vS:∀q,a7=some q→jf=some q.block∨(a3=some q∧jf=ob))
  (DM:cD w8 ba [str x.key, .slice a7 (x.down.length+1) c7,v2, .int .i64 x.mark]) (mW:Mod (· = ba) w7 w8) :
  GM w8 g { G with list:=G.list.set a { x with down:=x.down++[b]}} (cM ow jf (.dn a)) ol al cl cb cc bs∧fJ w6 ow (cM ow jf (.dn a))∧dV ow w6 w8:=by
 have zX:∀k,jf=some k→ow k=some (.dn a)∨(ow k=none∧w6.heap.size≤k):=fun k hk=>by
  rcases EA k hk with h1|h1
  ·exact .inl (df k h1)
  ·exact .inr ⟨wH h h1,h1⟩
 have hk:=AD (p := .dn a) (fun k hk=>(zX k hk).imp id (·.1));have hm:Mod (fun k=>some k=ob∨k=ba) w6 w8:=(xZ.weaken fun q _ e => .inl e).trans (mW.weaken fun q _ e => .inr e);have hS:∀k p,ow k=some p→(some k=ob∨k=ba)→p = .nd a∨p = .dn a∨p = .up a:=fun k p e hs=>by
  rcases hs with hs|rfl
  ·rw[df k hs.symm] at e;cases e;simp
  ·rw[gY] at e;cases e;simp
 have hblk:=KE mi pN vS;have MG:∀k,jf=some k→k<w8.heap.size:=fun k eE=>by
  have h1:=qm;rw[eE] at h1;exact j4 h1.block.2 mW.size
 refine⟨h.Xw hb (aV.1 hx).1 hm hS hk (CE (fun k eE=>j4 (h.lt k eE) hm.size) MG) ⟨_,_,DM,hk _ _ gY,?_,?_⟩,Wy zX,hm.weaken fun k _ hs=>?_⟩
 ·refine⟨jf,a7,c7,by simp,?_,fun k eE=>?_,Gv pN vS⟩
  ·have h1:=qm.mod mW (fun q hq e=>by
    have h2:=hblk q hq
    rcases zX _ h2 with h3|h3
    ·rw[e,gY] at h3;cases h3
    ·rw[e,gY] at h3;cases h3.1)
   rw[←show aD (x.down++[b])=aD x.down++aD [b] by simp[aD]] at h1;simpa using h1
  ·unfold cM;rw[if_pos eE.symm]
 ·exact(gi.mod hm fun k e hs=>by
   rcases hs with hs|rfl
   ·rw[df k hs.symm] at e;cases e
   ·rw[gY] at e;cases e).up hk
 ·rcases hs with hs|rfl
  ·rw[df k hs.symm];simp
  ·rw[gY];simp
theorem GM.agA {w6 w7 w8:World}{g:Nat}{G:Gr}{ow:Nat→Option Lb}{ol:Option Nat}{al:Option Addr}{cl cb cc:Nat}{bs:List Nat}(h:GM w6 g G ow ol al cl cb cc bs){a ba b:Nat}{x:Nd}{ob jf:Option Nat}{a3 a7:Option Addr}{c3 c7:Nat}{v2:Value}
  (hb:bs[a]?=some ba) (hx:G.list[a]?=some x) (gY:ow ba=some (.nd a)) (df:∀k,ob=some k→ow k=some (.up a)) (pN:ob=none→a3=none) (mi:aG w6 3 1 ob a3 x.up.length c3 (aD x.up)) (gi:p9 w6 ow (.dn a) v2 x.down)
  (qm:aG w7 3 1 jf a7 (x.up.length+1) c7 (aD x.up++aD [b])) (xZ:Mod (fun k=>some k=ob) w6 w7) (EA:∀q,jf=some q→ob=some q∨w6.heap.size≤q) (vS:∀q,a7=some q→jf=some q.block∨(a3=some q∧jf=ob))
  (DM:cD w8 ba [str x.key,v2, .slice a7 (x.up.length+1) c7, .int .i64 x.mark]) (mW:Mod (· = ba) w7 w8) :
  GM w8 g { G with list:=G.list.set a { x with up:=x.up++[b]}} (cM ow jf (.up a)) ol al cl cb cc bs∧fJ w6 ow (cM ow jf (.up a))∧dV ow w6 w8:=by
 have zX:∀k,jf=some k→ow k=some (.up a)∨(ow k=none∧w6.heap.size≤k):=fun k hk=>by
  rcases EA k hk with h1|h1
  ·exact .inl (df k h1)
  ·exact .inr ⟨wH h h1,h1⟩
 have hk:=AD (p := .up a) (fun k hk=>(zX k hk).imp id (·.1));have hm:Mod (fun k=>some k=ob∨k=ba) w6 w8:=(xZ.weaken fun q _ e => .inl e).trans (mW.weaken fun q _ e => .inr e);have hS:∀k p,ow k=some p→(some k=ob∨k=ba)→p = .nd a∨p = .dn a∨p = .up a:=fun k p e hs=>by
  rcases hs with hs|rfl
  ·rw[df k hs.symm] at e;cases e;simp
  ·rw[gY] at e;cases e;simp
 have hblk:=KE mi pN vS;have MG:∀k,jf=some k→k<w8.heap.size:=fun k eE=>by
  have h1:=qm;rw[eE] at h1;exact j4 h1.block.2 mW.size
 refine⟨h.Xw hb (aV.1 hx).1 hm hS hk (CE (fun k eE=>j4 (h.lt k eE) hm.size) MG) ⟨_,_,DM,hk _ _ gY,?_,?_⟩,Wy zX,hm.weaken fun k _ hs=>?_⟩
 ·exact(gi.mod hm fun k e hs=>by
   rcases hs with hs|rfl
   ·rw[df k hs.symm] at e;cases e
   ·rw[gY] at e;cases e).up hk
 ·refine⟨jf,a7,c7,by simp,?_,fun k eE=>?_,Gv pN vS⟩
  ·have h1:=qm.mod mW (fun q hq e=>by
    have h2:=hblk q hq
    rcases zX _ h2 with h3|h3
    ·rw[e,gY] at h3;cases h3
    ·rw[e,gY] at h3;cases h3.1)
   rw[←show aD (x.up++[b])=aD x.up++aD [b] by simp[aD]] at h1;simpa using h1
  ·unfold cM;rw[if_pos eE.symm]
 ·rcases hs with hs|rfl
  ·rw[df k hs.symm];simp
  ·rw[gY];simp
end Go.Proofs.YtmlpbmgfmnmmmaaGreat.V.M
