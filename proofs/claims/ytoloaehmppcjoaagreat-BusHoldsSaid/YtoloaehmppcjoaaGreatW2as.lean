/-
  Parts of the proof. No condition.
-/
import Derived.Test.YtoloaehmppcjoaaGreatW2ar
import Derived.Test.YtoloaehmppcjoaaGreatW2am
set_option linter.unusedVariables false
set_option linter.unusedSimpArgs false
set_option maxRecDepth 8000
set_option maxHeartbeats 8000000
open Go.Proofs.Tryz
namespace Go.Proofs.YtoloaehmppcjoaaGreat.V.M
section
attribute [local irreducible] GO GX aB fz aF aS aq star
section
variable {P:Program}{ops:Array Oper}{Q:Exit→Act→World→Prop}{S:World→Prop}{n:Nat}
variable {i m:Nat}{p:b6}{e:Env}{w:World}{k:Kd}{dst:Option Tmp}{ty:TypeId}{pos:String}{an:Array Edge}{g:Option (Nat×Bool)}
theorem alk [Fr](l m:List UInt8)(hk:cC k=true){t t2:TypeId}{x y:Operand}(hw:aI ops e ⟨dst, .binOp .gtr t x y t2,ty,pos,an,g⟩=some true)(hx:ev e x=some (str l))(hy:ev e y=some (str m))(hd:fits n dst=true)
  (h:GX P ops Q S n p (e.put dst (.bool (decide (m<l)))) w):GO P ops Q S n k i ⟨dst, .binOp .gtr t x y t2,ty,pos,an,g⟩ p e w:=
 GO.bin hk hw hx hy hd (fun w=>rfl) (fun w=>by
  have:=K1 l m;have key:(!decide (l<m)&&!(l == m))=decide (m<l):=by
   by_cases h1:l<m
   ·have h2:¬m<l:=List.lt_asymm h1;simp[h1,h2]
   ·by_cases h2:l=m
    ·subst h2;simp[List.lt_irrefl]
    ·have h3:m<l:=by
      rcases List.le_iff_lt_or_eq.1 (List.not_lt.1 h1) with h|h
      ·exact h
      ·exact absurd h.symm h2
     simp[h1,h2,h3]
  simp[binOp,Op.stringOp,str,this,key]) h
end
def xO (a b:Bs):Int:=if a<b then -1 else if b<a then 1 else 0
theorem aas (x y:Bs)(w:World):aj prog 134 [str x,str y].toArray w fun v w'=>v=iV (xO x y)∧w'=w:=by
 have e1:∀(z:Bs) (w:World),aj prog 206 [str z].toArray w fun v w'=>v = .bool false∧w'=w:=fun z w=>by
  refine aj.enter func206 rfl ntmps206 rfl (gh ?_);exact⟨by simp,rfl⟩
 refine aj.enter func134 rfl ntmps134 rfl (gh ?_);refine GX.da (e1 x _) rfl rfl rfl rfl rfl rfl (gh ?_);refine GX.da (e1 y _) rfl rfl rfl rfl rfl rfl (gh ?_);refine ifs (fun h1=>?_) (fun h1=>?_)<;>refine gh ?_
 ·exact⟨by rw[xO,if_pos h1],rfl⟩
 refine GX.next rfl (alk _ _ rfl rfl rfl rfl rfl (gh ?_));refine ifs (fun h2=>?_) (fun h2=>?_)<;>refine gh ?_
 ·exact⟨by rw[xO,if_neg h1,if_pos h2],rfl⟩
 exact⟨by rw[xO,if_neg h1,if_neg h2],rfl⟩
theorem Uj (x:Bs)(w:World):aj prog 326 [str x].toArray w fun v w'=>v = .bool (eV x)∧w'=w:=by
 refine aj.enter func326 rfl ntmps326 rfl (gh ?_);refine ifs (fun h1=>?_) (fun h1=>?_)<;>refine gh ?_
 ·refine⟨?_,rfl⟩;rw[eV];congr 1;exact vw.2 ah
 ·refine⟨?_,rfl⟩;rw[eV];congr 1;simp;omega
theorem Zn {o:Og}{w:World}{a:Option Addr}{n c:Nat}{cs:List Value}(hn:n<2^40)(hl:cs.length=n)(h0:a=none→n=0)(h1:∀u∈cs,u.oneCell'=true)(hs:Start o w [aF a cs]) :
  aj prog 229 [.slice a n c].toArray w (aX o (my n) (fun _=>True) (mw 5 1 n cs)):=by
 have hH:=hs.sh;refine aj.enter func229 rfl ntmps229 rfl (gh ?_);cases a with
 |none=>
  obtain rfl:=h0 rfl;obtain rfl:cs=[]:=gu ah;refine gh ?_;exact⟨(none,0),rfl,trivial,(SH.cF hH (Mod.refl w) (fun _ h=>by cases h) (aH.nil _ _ _)).to⟩
 |some x=>
  refine gh ?_;refine GX.sZ (h:=fun q w hH=>gh ?_);refine GX.pQ (hN:=SH.bL hH (x:=aF (some x) cs) bP) (hnl:=by omega) (h1:=h1) (hb:=by omega) (hm:=by omega) (h:=fun q c w hH=>gh ?_);rw[dz] at hH ⊢;exact⟨(q,c),rfl,trivial,hH.to⟩
def Ho (k:Bs)(v t:Value)(d n st:Nat):Value := .agg #[str k,v,t,uV d,uV n,uV st]
theorem yK {o:Og}{w:World}{k:Bs}{av ta:Option Addr}{nv cv nt ct d n st:Nat}{vs ts:List Value}(h1:nv<2^40)(h2:vs.length=nv)(h3:av=none→nv=0)(h4:∀u∈vs,u.oneCell'=true)(g1:nt<2^40)(g2:ts.length=nt)(g3:ta=none→nt=0)(g4:∀u∈ts,u.oneCell'=true)(hs:Start o w [aF av vs,aF ta ts]) :
  aj prog 147 [Ho k (.slice av nv cv) (.slice ta nt ct) d n st].toArray w (aX o (fun y:(Option Nat×Nat)×(Option Nat×Nat)=>Ho k (my nv y.1) (my nt y.2) d n st) (fun _=>True) (fun y=>[aq 5 1 y.1.1 nv y.1.2 vs,aq 9 1 y.2.1 nt y.2.2 ts])):=by
 have hH:=hs.sh;refine aj.enter func147 rfl ntmps147 rfl (gh ?_);refine GX.cI (h:=fun e w hH=>gh ?_);refine GX.cA (h:=fun r w hH=>gh ?_);refine GC.br (pl:=(bg [0,9,4,13,8,18,17,23,24,29])) (T:=fun _=>False) (hm:=mixed) (h:=fun w hE hH=>gh ?_);refine GX.eG (hc:=fun _ hs=>Zn (cs:=vs) h1 h2 h3 h4 hs) (h:=?_);rintro⟨q1,c1⟩ w _ vZ hH;replace hH:=SH.ap hH;refine gh ?_;refine GX.eG (hc:=fun _ hs=>aao (cs:=ts) g1 ah g3 g4 hs) (h:=?_);rintro⟨q2,c2⟩ w _ HP hH;replace hH:=SH.ap hH;refine gh ?_;refine GX.fO (h:=fun w hH=>gh ?_);refine GX.fO (h:=fun w hH=>gh ?_);refine gh ?_;refine GX.bt (h:=fun w hH=>gh ?_);exact⟨((q1,c1),(q2,c2)),rfl,trivial,hH.to⟩
end
section
attribute [local irreducible] GO GX
structure Nd where
 key:Bs
 down:List Nat
 up:List Nat
 mark:Nat
structure Gr where
 cM:Nat
 dg:Nat
 aJ:Nat
 list:List Nd
 cells:List Nat
 cp:Nat
 cW:Nat
inductive Lb where
 |top|arr|jO
 |nd (i:Nat)|dn (i:Nat)|up (i:Nat)
 deriving DecidableEq
def qD (w:World)(ow:Nat→Option Lb)(p:Lb)(v:Value)(l:List Nat):Prop:=
 ∃ob a c,v = .slice a l.length c∧aH w 3 1 ob a l.length c (aG l)∧(∀b,ob=some b→ow b=some p)∧(ob=none→a=none)
def rI (w:World)(ow:Nat→Option Lb)(i b:Nat)(x:Nd):Prop:=
 ∃v1 v2,cE w b [str x.key,v1,v2, .int .i64 x.mark]∧ow b=some (.nd i)∧qD w ow (.dn i) v1 x.down∧qD w ow (.up i) v2 x.up
structure GM (w:World)(g:Nat)(G:Gr)(ow:Nat→Option Lb)(ol:Option Nat)(al:Option Addr)(cl cb cc:Nat)(bs:List Nat):Prop where
 top:cE w g [.int .i64 G.cM, .int .i64 G.dg,uV G.aJ, .slice al G.list.length cl, .slice (some ⟨cb,0,none⟩) G.cells.length cc, .int .i64 G.cp, .int .i64 G.cW]
 fN:ow g=some .top
 arr:aH w 266 1 ol al G.list.length cl (bq bs)
 iT:∀b,ol=some b→ow b=some .arr
 mO:ol=none→al=none
 jO:aH w 3 1 (some cb) (some ⟨cb,0,none⟩) G.cells.length cc (aG G.cells)
 nD:ow cb=some .jO
 len:bs.length=G.list.length
 node:∀(i b:Nat) (x:Nd),bs[i]?=some b→G.list[i]?=some x→rI w ow i b x
 lt:∀b,ow b≠none→b<w.heap.size
theorem qD.mod {S:Nat→Prop}{w w':World}{ow:Nat→Option Lb}{p:Lb}{v:Value}{l:List Nat}(h:qD w ow p v l)(hm:Mod S w w')(hn:∀b,ow b=some p→¬S b):qD w' ow p v l:=by
 obtain⟨ob,a,c,rfl,h1,h2,h3⟩:=h;refine⟨ob,a,c,rfl,h1.mod hm (fun x hx=>?_),h2,h3⟩;cases di:ob with
 |none=>rw[h3 di] at hx;cases hx
 |some b=>
  rw[di] at h1;obtain⟨ha,_⟩:=h1.block;rw[ha] at hx;cases hx;exact hn b (h2 b di)
theorem rI.mod {S:Nat→Prop}{w w':World}{ow:Nat→Option Lb}{i b:Nat}{x:Nd}(h:rI w ow i b x)(hm:Mod S w w')(hn:∀b p,ow b=some p→p = .nd i∨p = .dn i∨p = .up i→¬S b):rI w' ow i b x:=by
 obtain⟨v1,v2,h1,h2,h3,h4⟩:=h;exact⟨v1,v2,h1.mod hm (hn b _ h2 (.inl rfl)),h2,h3.mod hm fun b hb=>hn b _ hb (.inr (.inl rfl)),h4.mod hm fun b hb=>hn b _ hb (.inr (.inr rfl))⟩
theorem GM.mod {S:Nat→Prop}{w w':World}{g:Nat}{G:Gr}{ow:Nat→Option Lb}{ol:Option Nat}{al:Option Addr}{cl cb cc:Nat}{bs:List Nat}(h:GM w g G ow ol al cl cb cc bs)(hm:Mod S w w')(hn:∀b,ow b≠none→¬S b):GM w' g G ow ol al cl cb cc bs:=by
 have aP:∀{b p},ow b=some p→¬S b:=fun {b p} e=>hn b (by rw[e];simp)
 refine⟨h.top.mod hm (aP h.fN),h.fN,h.arr.mod hm (fun x hx=>?_),h.iT,h.mO,h.jO.mod hm (fun x hx=>?_),h.nD,h.len,fun i b x h1 h2=>(h.node i b x h1 h2).mod hm fun b p e _=>aP e,fun b hb=>jL (h.lt b hb) hm.size⟩
 ·cases di:ol with
  |none=>rw[h.mO di] at hx;cases hx
  |some b=>
   have ha:=h.arr;rw[di] at ha;rw[ha.block.1] at hx;cases hx;exact aP (h.iT b di)
 ·cases hx;exact aP h.nD
theorem GM.ext {w w':World}{g:Nat}{G:Gr}{ow:Nat→Option Lb}{ol:Option Nat}{al:Option Addr}{cl cb cc:Nat}{bs:List Nat}(h:GM w g G ow ol al cl cb cc bs)(hm:Ext w w'):GM w' g G ow ol al cl cb cc bs:=h.mod hm fun _ _ h=>h
def fq (L:List Nd):List (Bs×Nat):=L.zipIdx.map fun x=>(x.1.key,x.2)
def fx (L:List Nd)(cs:List Nat):Cs:=cs.map fun n=>match n with|0=>none|m+1=>some ((L[m]?.map (·.key)).getD [],m)
structure ir (G:Gr):Prop where
 eM:fb (fun k=>bK G.aJ k) (fx G.list G.cells) (fq G.list)
 idx:∀n∈G.cells,n≤G.list.length
 aJ:G.aJ<eu
 small:G.cells.length<2^40
theorem VZ {L:List Nd}{k:Bs}{n:Nat}:(k,n)∈fq L↔∃x,L[n]?=some x∧x.key=k:=by
 simp only[fq,bG,oI,List.mem_zipIdx_iff_getElem?];constructor
 ·rintro⟨⟨x,i⟩,h1,h2,rfl⟩;exact⟨x,h1,h2⟩
 ·rintro⟨x,h1,h2⟩;exact⟨(x,n),h1,h2,rfl⟩
def A7 (G:Gr)(k:Bs)(q:Nat):Prop:=
 ∃d,q=(bK G.aJ k+d) % G.cells.length∧(∀e,e<d→∃y,(fx G.list G.cells)[(bK G.aJ k+e) % G.cells.length]?=some (some y)∧y.1≠k) ∧
  ((k∉G.list.map (·.key)∧G.cells[q]?=some 0)∨∃n x,G.list[n]?=some x∧x.key=k∧G.cells[q]?=some (n+1))
theorem Fs (L:List Nd):(fq L).map (·.1)=L.map (·.key):=by
 simp only[fq,nK];rw[show((fun x:Bs×Nat=>x.1) ∘ fun x:Nd×Nat=>(x.1.key,x.2))=(fun x:Nd=>x.key) ∘ Prod.fst from rfl,←nK,List.zipIdx_map_fst]
theorem KK {L:List Nd}{cs:List Nat}{q:Nat}:(fx L cs)[q]?=(cs[q]?).map fun n=>match n with|0=>none|m+1=>some ((L[m]?.map (·.key)).getD [],m):=by simp[fx]
structure sW (G:Gr)(M:List (Bs×Nat)):Prop where
 eM:fb (fun k=>bK G.aJ k) (fx G.list G.cells) M
 sub:∀(k:Bs) (n:Nat),(k,n)∈M→∃x,G.list[n]?=some x∧x.key=k
 idx:∀n∈G.cells,n≤G.list.length
 aJ:G.aJ<eu
 small:G.cells.length<2^40∧G.list.length<2^40
def A8 (G:Gr)(M:List (Bs×Nat))(k:Bs)(q:Nat):Prop:=
 ∃d,q=(bK G.aJ k+d) % G.cells.length∧(∀e,e<d→∃y,(fx G.list G.cells)[(bK G.aJ k+e) % G.cells.length]?=some (some y)∧y.1≠k) ∧
  ((k∉M.map (·.1)∧G.cells[q]?=some 0)∨∃n,(k,n)∈M∧G.cells[q]?=some (n+1))
theorem sW.find {G:Gr}{M:List (Bs×Nat)}(h:sW G M)(k:Bs):∃d,(∀e,e<d→∃m x,G.cells[(bK G.aJ k+e) % G.cells.length]?=some (m+1)∧G.list[m]?=some x∧x.key≠k)∧A8 G M k ((bK G.aJ k+d) % G.cells.length):=by
 obtain⟨d,h1,h2⟩:=h.eM.find k;have hl:(fx G.list G.cells).length=G.cells.length:=by simp[fx]
 rw[hl] at h1 h2;refine⟨d,fun e he=>?_,d,rfl,h1,?_⟩
 ·obtain⟨y,q1,q2⟩:=h1 e he;rw[KK] at q1;cases hc:G.cells[(bK G.aJ k+e) % G.cells.length]? with
  |none=>rw[hc] at q1;cases q1
  |some n=>
   rw[hc] at q1;cases n with
   |zero=>simp at q1
   |succ m=>
    have hm:=h.idx _ (bD hc);have hx:G.list[m]?=some (G.list[m]'(by omega)):=by simp
    simp only[jV,hx,oN,mU] at q1;exact⟨m,_,rfl,hx,by rw[←q1] at q2;exact q2⟩
 ·rw[KK] at h2
  rcases h2 with⟨q1,q2⟩|⟨n,q1,q2⟩
  ·refine .inl ⟨q1,?_⟩;cases hc:G.cells[(bK G.aJ k+d) % G.cells.length]? with
   |none=>rw[hc] at q2;cases q2
   |some n=>
    rw[hc] at q2;cases n with
    |zero=>rfl
    |succ m=>simp at q2
  ·refine .inr ⟨n,q1,?_⟩;cases hc:G.cells[(bK G.aJ k+d) % G.cells.length]? with
   |none=>rw[hc] at q2;cases q2
   |some n'=>
    rw[hc] at q2;cases n' with
    |zero=>simp at q2
    |succ m=>
     simp only[jV,mU,oI] at q2;rw[q2.2]
theorem ir.X9 {G:Gr}(h:ir G):sW G (fq G.list):=
 ⟨h.eM,fun k n hm=>VZ.1 hm,h.idx,h.aJ,h.small,by
  have h1:=h.eM.room;have h2:=h.small;simp only[fx,fq,fH,List.length_zipIdx] at h1;omega⟩
theorem A8.found {G:Gr}{k:Bs}{q:Nat}(h:A8 G (fq G.list) k q):A7 G k q:=by
 obtain⟨d,h1,h2,h3⟩:=h;refine⟨d,h1,h2,?_⟩
 rcases h3 with⟨h3,h4⟩|⟨n,h3,h4⟩
 ·exact .inl ⟨by rwa [Fs] at h3,h4⟩
 ·obtain⟨x,q1,q2⟩:=VZ.1 h3;exact .inr ⟨n,x,q1,q2,h4⟩
theorem K3 {w:World}{g:Nat}{G:Gr}{ow:Nat→Option Lb}{ol:Option Nat}{al:Option Addr}{cl cb cc:Nat}{bs:List Nat}(hG:GM w g G ow ol al cl cb cc bs){M:List (Bs×Nat)}(aU:sW G M)(k:Bs)(hk:k.length<2^40) :
  aj prog 273 [ak g,str k].toArray w fun v w'=>(∃q,v = .pointer (some ⟨cb,q,none⟩)∧q<G.cells.length∧A8 G M k q)∧Ext w w':=by
 have hT:=hG.top;have kS:0<G.cells.length:=by have:=aU.eM.room;simp[fx] at this;omega
 have sg:=aU.small.1;have lA:=aU.small.2;have hC:(G.cells.length:Int)≠0:=by omega
 obtain⟨d,qR,fE⟩:=aU.find k;refine aj.enter func273 rfl ntmps273 rfl (go ?_);refine GC.pv (bg [0,3,6,12,18,21,24,10,28,30,33,17,36,39]) (fun _=>False) mixed ai ai (go ?_);refine GX.Dp (Pg G.aJ aU.aJ k hk _) (by rintro _ _ ⟨_,rfl⟩;exact Mod.refl _) rfl rfl rfl rfl rfl rfl ?_;rintro _ _ ⟨rfl,rfl⟩;refine go ?_;refine GX.pure rfl (GO.rem rfl rfl rfl rfl rfl hC (Int.ofNat_tmod _ _).symm ?_);refine go ?_;refine GC.bR [0,1] (fun e:Nat=>[(5,uV ((bK G.aJ k+e) % G.cells.length))]) (fun e w'=>e≤d∧Ext w w') (fun e=>d - e) 0 rfl rfl ⟨bh _,Ext.drew w⟩ ?_;rintro e w1 ⟨he,cX⟩;have fL:=hG.ext cX;have ju:=fL.top;have hq:(bK G.aJ k+e) % G.cells.length<G.cells.length:=e7 _ kS;have qQ:G.cells[(bK G.aJ k+e) % G.cells.length]?=some (G.cells[(bK G.aJ k+e) % G.cells.length]'hq):=by simp
 generalize hcv:G.cells[(bK G.aJ k+e) % G.cells.length]'hq=cv at qQ;have ac5:cv≤G.list.length:=aU.idx _ (bD qQ);have DN:=NM fL.jO qQ (((bK G.aJ k+e) % G.cells.length:Nat):Int) rfl;generalize IW:(bK G.aJ k+e) % G.cells.length=q at hq qQ DN ⊢;have Ep:(cv=0∨∃m x,cv=m+1∧G.list[m]?=some x∧x.key=k)→e=d:=fun hs=>by
  by_cases Eo:e<d
  ·exfalso;obtain⟨m,x,h1,h2,h3⟩:=qR e Eo;rw[IW,qQ] at h1;cases h1
   rcases hs with hs|⟨m',x',h4,h5,h6⟩
   ·cases hs
   ·cases h4;rw[h2] at h5;cases h5;exact h3 h6
  ·omega
 have nZ:e=d→∃q',(Value.pointer (some ⟨cb,0+((q:Nat):Int).toNat*1,none⟩):Value) = .pointer (some ⟨cb,q',none⟩)∧q'<G.cells.length∧A8 G M k q':=fun h=>by
  subst h;exact⟨q,by simp,hq,IW▸fE⟩
 refine go ?_;refine GC.pv (bg [0,3,6,12,10,15,19,21,24,27,30,33,39,42,45,51,78,37,49,54,58,60,63,67,69,72,76,81,84]) (fun _=>False) mixed ai ai (go ?_);refine GX.pure rfl (GO.indexAddr rfl rfl rfl rfl ah ah rfl ?_);refine GX.read rfl (GO.pe DN id (Ext.drew _) rfl rfl rfl ?_);refine go ?_;refine dq (fun hz=>?_) (fun hz=>?_)<;>refine go ?_
 ·obtain⟨m,rfl⟩:∃m,cv=m+1:=⟨cv - 1,by omega⟩
  have fU:G.list[m]?=some (G.list[m]'(by omega)):=by simp
  generalize G.list[m]'(by omega)=x at fU;have nj:bs[m]?=some (bs[m]'(by have:=hG.len;omega)):=by simp
  generalize bs[m]'(by have:=hG.len;omega)=nb at nj;obtain⟨v1,v2,uJ,_⟩:=fL.node m nb x nj fU;obtain⟨lb,lo,cj,lV⟩:=sH fL.arr.bL nj;subst cj;refine GX.pure rfl (GO.indexAddr rfl rfl rfl rfl ah ah rfl ?_);refine GX.read rfl (GO.pe DN id (Ext.drew _) rfl rfl rfl ?_);refine go ?_;refine GX.pure rfl (GO.indexAddr rfl rfl rfl rfl ah ah rfl ?_);refine GX.read rfl (GO.pe (lV (((m+1:Nat):Int) - 1) ah) id (Ext.drew _) rfl rfl rfl ?_);refine go ?_;refine dq (fun aP=>?_) (fun aP=>?_)<;>refine go ?_
  ·have Eo:e<d:=by
    by_cases h:e=d
    ·exfalso;subst h;obtain⟨d',_,_,h3⟩:=fE;rw[IW,qQ] at h3
     rcases h3 with⟨_,h3⟩|⟨n,h4,h6⟩
     ·cases h3
     ·cases h6;obtain⟨x',h4,h5⟩:=aU.sub _ _ h4;rw[fU] at h4;cases h4;exact aP h5
    ·omega
   have Af:((q:Int)+1).tmod (G.cells.length:Int)=(((bK G.aJ k+(e+1)) % G.cells.length:Nat):Int):=by
    rw[show((q:Int)+1)=((q+1:Nat):Int) by simp,←Int.ofNat_tmod,←IW];congr 1;rw[Nat.mod_add_mod,Nat.add_assoc]
   refine GX.next rfl (GO.rem rfl rfl rfl rfl rfl hC Af ?_);refine go ?_;exact GQ.bj (e+1) rfl ⟨Eo,cX.trans (Ext.drew _)⟩ ah
  ·have np:x.key=k:=Classical.not_not.1 aP;refine GX.next rfl (GO.indexAddr rfl rfl rfl rfl ah ah rfl (go ?_));exact⟨nZ (Ep (.inr ⟨m,x,rfl,fU,np⟩)),cX.trans (Ext.drew _)⟩
 ·refine GX.next rfl (GO.indexAddr rfl rfl rfl rfl ah ah rfl (go ?_));exact⟨nZ (Ep (.inl ah)),cX.trans (Ext.drew _)⟩
theorem Z6 {w:World}{g:Nat}{G:Gr}{ow:Nat→Option Lb}{ol:Option Nat}{al:Option Addr}{cl cb cc:Nat}{bs:List Nat}(hG:GM w g G ow ol al cl cb cc bs)(aU:ir G)(k:Bs)(hk:k.length<2^40) :
  aj prog 273 [ak g,str k].toArray w fun v w'=>(∃q,v = .pointer (some ⟨cb,q,none⟩)∧q<G.cells.length∧A7 G k q)∧Ext w w':=
 (K3 hG aU.X9 k hk).mono fun v w' ⟨⟨q,h1,h2,h3⟩,h4⟩=>⟨⟨q,h1,h2,h3.found⟩,h4⟩
theorem A7.yes {G:Gr}{k:Bs}{q n:Nat}(h:A7 G k q)(hc:G.cells[q]?=some (n+1)):∃x,G.list[n]?=some x∧x.key=k:=by
 obtain⟨_,_,_,⟨_,h1⟩|⟨m,x,h1,h2,h3⟩⟩:=h
 ·rw[hc] at h1;cases h1
 ·rw[hc] at h3;cases h3;exact⟨x,h1,h2⟩
theorem A7.no {G:Gr}{k:Bs}{q:Nat}(h:A7 G k q)(hc:G.cells[q]?=some 0):k∉G.list.map (·.key):=by
 obtain⟨_,_,_,⟨h1,_⟩|⟨m,x,h1,h2,h3⟩⟩:=h
 ·exact h1
 ·rw[hc] at h3;cases h3
def KE (G:Gr)(k:Bs)(z:Int):Prop:=(z = -1∧k∉G.list.map (·.key))∨∃(n:Nat) (x:Nd),z=(n:Int)∧G.list[n]?=some x∧x.key=k
theorem xQ {w:World}{g:Nat}{G:Gr}{ow:Nat→Option Lb}{ol:Option Nat}{al:Option Addr}{cl cb cc:Nat}{bs:List Nat}(hG:GM w g G ow ol al cl cb cc bs)(aU:ir G)(k:Bs)(hk:k.length<2^40) :
  aj prog 194 [ak g,str k].toArray w fun v w'=>(∃z,v=iV z∧KE G k z)∧Ext w w':=by
 refine aj.enter func194 rfl ntmps194 rfl (go ?_);refine GX.call (Z6 hG aU k hk) rfl rfl rfl rfl rfl rfl ?_;rintro _ w1 ⟨⟨q,rfl,hq,hF⟩,hE⟩;have qQ:G.cells[q]?=some (G.cells[q]'hq):=by simp
 have DN:=NM (hG.ext hE).jO qQ ((q:Nat):Int) rfl;have ac5:G.cells[q]'hq≤G.list.length:=aU.idx _ (bD qQ);have sg:=aU.small;have lA:G.list.length<G.cells.length:=by have:=aU.eM.room;simpa[fx,fq] using this
 refine go ?_;refine GX.lD (by simpa using DN) rfl rfl rfl rfl (go ?_);refine⟨⟨_,rfl,?_⟩,hE⟩;cases hc:G.cells[q]'hq with
 |zero=>rw[hc] at qQ;exact Or.inl ⟨rfl,hF.no qQ⟩
 |succ n=>
  rw[hc] at qQ;obtain⟨x,h1,h2⟩:=hF.yes qQ;exact Or.inr ⟨n,x,by omega,h1,h2⟩
theorem HB {w:World}{g:Nat}{G:Gr}{ow:Nat→Option Lb}{ol:Option Nat}{al:Option Addr}{cl cb cc:Nat}{bs:List Nat}(hG:GM w g G ow ol al cl cb cc bs)(hn:G.cM≠0) :
  aj prog 154 [ak g].toArray w fun v w'=>v = .bool false∧w'=w:=by
 have hT:=hG.top;refine aj.enter func154 rfl ntmps154 rfl (go ?_);exact⟨congrArg _ (bQ ah),rfl⟩
theorem aeE (l:List Nat)(x:Nat)(n:Nat)(hn:l.length=n)(hl:n<2^40)(a:Option Addr)(c:Nat)(w:World)(hA:bN w a (aG l)) :
  aj prog 331 [.slice a n c,iV x].toArray w fun v w'=>(∃z:Int,v=iV z∧(0≤z↔x∈l))∧w'=w:=by
 subst hn;refine aj.enter func331 rfl ntmps331 rfl (go ?_);refine GC.bR [0,1,7] (fun k:Nat=>[(8, .int .i64 k)]) (fun k w'=>k≤l.length∧x∉l.take k∧w=w') (fun k=>l.length - k) 0 rfl rfl ⟨bh _,by simp,rfl⟩ ?_;rintro k _ ⟨hk,bz,rfl⟩;refine go ?_;refine dq (fun hc=>?_) (fun hc=>?_)<;>refine go ?_
 ·have aN:k<l.length:=by omega
  obtain⟨b,o,e,gN⟩:=uZ hA (show l[k]?=some l[k] by simp);subst e;refine GX.next rfl (GO.indexAddr rfl rfl rfl rfl ah ah rfl ?_);refine GX.lD (gN (k:Int) ah) rfl rfl rfl rfl (go ?_);refine dq (fun hq=>?_) (fun hq=>?_)<;>refine go ?_
  ·exact⟨⟨_,rfl,fun _=>by rw[show x=l[k] by omega];exact pI aN,fun _=>by omega⟩,rfl⟩
  refine GQ.bj (k+1) rfl ⟨aN,?_,rfl⟩ ah;rw[lh aN];intro h
  rcases cx.1 h with h|h
  ·exact bz h
  ·simp at h;omega
 have kQ:k=l.length:=by omega
 subst kQ;rw[kD] at bz;exact⟨⟨_,rfl,fun h=>absurd h ah,fun h=>absurd h bz⟩,rfl⟩
theorem aaB (l:List Nat)(x:Nat)(n:Nat)(hn:l.length=n)(hl:n<2^40)(a:Option Addr)(c:Nat)(w:World)(hA:bN w a (aG l)) :
  aj prog 271 [.slice a n c,iV x].toArray w fun v w'=>v = .bool (decide (x∈l))∧w'=w:=by
 refine aj.enter func271 rfl ntmps271 rfl (go ?_);refine GX.call (aeE l x n hn hl a c w hA) rfl rfl rfl rfl rfl rfl ?_;rintro _ _ ⟨⟨z,rfl,hz⟩,rfl⟩;refine go ?_;exact⟨Gi hz,rfl⟩
structure xD (G:Gr):Prop where
 ok:ir G
 mx:0<G.cM∧G.cM≤65536
 down:∀(a:Nat) (x:Nd),G.list[a]?=some x→∀b∈x.down,b<G.list.length
 len:∀(a:Nat) (x:Nd),G.list[a]?=some x→x.down.length<2^40∧x.key.length<2^40
def fm (G:Gr)(p c:Bs):Prop:=∃(a b:Nat) (x y:Nd),G.list[a]?=some x∧x.key=p∧b∈x.down∧G.list[b]?=some y∧y.key=c
def gR (G:Gr)(k:Bs):List Bs:=match G.list.find? (fun x=>x.key=k) with
 |some x=>fj (x.down.map fun b=>(G.list[b]?.map (·.key)).getD [])
 |none=>[]
theorem Ow {α:Type}{l:List α}(h:l.Nodup){a b:Nat}{v:α}(ha:l[a]?=some v)(hb:l[b]?=some v):a=b:=by
 obtain⟨l1,q1⟩:=aV.1 ha;obtain⟨l2,q2⟩:=aV.1 hb
 rcases Nat.lt_trichotomy a b with aN|aN|aN
 ·exact absurd (q1.trans q2.symm) (sP.1 h a b l1 l2 aN)
 ·exact aN
 ·exact absurd (q2.trans q1.symm) (sP.1 h b a l2 l1 aN)
theorem key_inj {G:Gr}(h:ir G){a b:Nat}{x y:Nd}(ha:G.list[a]?=some x)(hb:G.list[b]?=some y)(hk:x.key=y.key):a=b:=by
 have hn:=h.eM.nodup;rw[Fs] at hn;have h1:(G.list.map (·.key))[a]?=some x.key:=by simp[ha]
 have h2:(G.list.map (·.key))[b]?=some x.key:=by simp[hb,hk]
 exact Ow hn h1 h2
theorem Sd {w:World}{g:Nat}{G:Gr}{ow:Nat→Option Lb}{ol:Option Nat}{al:Option Addr}{cl cb cc:Nat}{bs:List Nat}(hG:GM w g G ow ol al cl cb cc bs)(hi:xD G)(p c:Bs)(hp:p.length<2^40)(hc:c.length<2^40) :
  aj prog 192 [ak g,str p,str c].toArray w fun v w'=>(∃z,v = .bool z∧(z=true↔fm G p c))∧Ext w w':=by
 refine aj.enter func192 rfl ntmps192 rfl (go ?_);refine GX.call (HB hG (by have:=hi.mx;omega)) rfl rfl rfl rfl rfl rfl ?_;rintro _ _ ⟨rfl,rfl⟩;refine go ?_;refine GX.call (xQ hG hi.ok p hp) rfl rfl rfl rfl rfl rfl ?_;rintro _ w1 ⟨⟨za,rfl,ha⟩,cX⟩;have fL:=hG.ext cX;refine go ?_;refine GX.call (xQ fL hi.ok c hc) rfl rfl rfl rfl rfl rfl ?_;rintro _ w2 ⟨⟨zb,rfl,hb⟩,dx⟩;have gZ:=fL.ext dx;have hT:=gZ.top;have hE:=cX.trans dx;have noP:za = -1→¬fm G p c:=by
  rintro rfl ⟨a,b,x,y,h1,h2,_⟩
  rcases ha with⟨_,h⟩|⟨n,_,h,_⟩
  ·exact h (bG.2 ⟨x,bD h1,h2⟩)
  ·omega
 have noC:zb = -1→¬fm G p c:=by
  rintro rfl ⟨a,b,x,y,_,_,_,h1,h2⟩
  rcases hb with⟨_,h⟩|⟨n,_,h,_⟩
  ·exact h (bG.2 ⟨y,bD h1,h2⟩)
  ·omega
 refine go ?_;refine dq (fun h1=>?_) (fun h1=>?_)<;>refine go ?_
 rotate_left
 ·exact⟨⟨false,rfl,fun h=>by(cases h),fun h=>absurd h (noP (by rcases ha with⟨h,_⟩|⟨n,_,h,_⟩<;>omega))⟩,hE⟩
 refine dq (fun h2=>?_) (fun h2=>?_)<;>refine go ?_
 rotate_left
 ·exact⟨⟨false,rfl,fun h=>by(cases h),fun h=>absurd h (noC (by rcases hb with⟨h,_⟩|⟨n,_,h,_⟩<;>omega))⟩,hE⟩
 obtain⟨na,x,rfl,hx,np⟩:∃(n:Nat) (x:Nd),za=(n:Int)∧G.list[n]?=some x∧x.key=p:=by
  rcases ha with⟨h,_⟩|h
  ·omega
  ·exact h
 obtain⟨nb,y,rfl,hy,uG⟩:∃(n:Nat) (x:Nd),zb=(n:Int)∧G.list[n]?=some x∧x.key=c:=by
  rcases hb with⟨h,_⟩|h
  ·omega
  ·exact h
 have p9:=(aV.1 hx).1;have nj:bs[na]?=some (bs[na]'(by have:=hG.len;omega)):=by simp
 generalize bs[na]'(by have:=hG.len;omega)=b1 at nj;obtain⟨v1,v2,uJ,_,⟨ob,a3,c3,e3,mD,_⟩,_⟩:=gZ.node na b1 x nj hx;subst e3;obtain⟨lb,lo,cj,lV⟩:=sH gZ.arr.bL nj;subst cj;refine GX.next rfl (GO.indexAddr rfl rfl rfl rfl ah ah rfl ?_);refine GX.lD (lV (na:Int) ah) rfl rfl rfl rfl (go ?_);refine GX.next rfl (GO.l4 rfl rfl rfl rfl (by decide) (by decide) rfl (go ?_));refine GX.call (aaB x.down nb x.down.length rfl (hi.len na x hx).1 a3 c3 _ mD.bL) rfl rfl rfl rfl rfl rfl ?_;rintro _ _ ⟨rfl,rfl⟩;refine go ?_;refine⟨⟨_,rfl,?_⟩,hE⟩;rw[decide_eq_true_iff];constructor
 ·intro h;exact⟨na,nb,x,y,hx,np,h,hy,uG⟩
 ·rintro⟨a,b,x',y',q1,q2,q3,q4,q5⟩;obtain rfl:=key_inj hi.ok q1 hx (q2.trans np.symm);obtain rfl:=key_inj hi.ok q4 hy (q5.trans uG.symm);rw[q1] at hx;cases hx;exact q3
end
end Go.Proofs.YtoloaehmppcjoaaGreat.V.M
