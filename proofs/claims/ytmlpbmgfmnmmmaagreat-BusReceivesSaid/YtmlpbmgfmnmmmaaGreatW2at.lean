/-
  Parts of the proof. No condition.
-/
import Derived.Test.YtmlpbmgfmnmmmaaGreatW2as
import Derived.Test.YtmlpbmgfmnmmmaaGreatW2an
set_option linter.unusedVariables false
set_option linter.unusedSimpArgs false
set_option maxRecDepth 8000
set_option maxHeartbeats 8000000
open Go.Proofs.Tryz
namespace Go.Proofs.YtmlpbmgfmnmmmaaGreat.V.M
section
attribute [local irreducible] GO GX aA fz aF aQ ao star
section
variable {P:Program}{ops:Array Oper}{Q:Exit→Act→World→Prop}{S:World→Prop}{n:Nat}
variable {i m:Nat}{p:bZ}{e:Env}{w:World}{k:Kd}{dst:Option Tmp}{ty:TypeId}{pos:String}{an:Array Edge}{g:Option (Nat×Bool)}
theorem alu [Fr](l m:List UInt8)(hk:cB k=true){t t2:TypeId}{x y:Operand}(hw:aH ops e ⟨dst, .binOp .gtr t x y t2,ty,pos,an,g⟩=some true)(hx:ev e x=some (str l))(hy:ev e y=some (str m))(hd:fits n dst=true)
  (h:GX P ops Q S n p (e.put dst (.bool (decide (m<l)))) w):GO P ops Q S n k i ⟨dst, .binOp .gtr t x y t2,ty,pos,an,g⟩ p e w:=
 GO.bin hk hw hx hy hd (fun w=>rfl) (fun w=>by
  have:=KP l m;have key:(!decide (l<m)&&!(l == m))=decide (m<l):=by
   by_cases h1:l<m
   ·have h2:¬m<l:=List.lt_asymm h1;simp[h1,h2]
   ·by_cases h2:l=m
    ·subst h2;simp[List.lt_irrefl]
    ·have h3:m<l:=by
      rcases List.le_iff_lt_or_eq.1 (List.not_lt.1 h1) with h|h
      ·exact h
      ·exact absurd h.symm h2
     simp[h1,h2,h3]
  simp[binOp,Op.stringOp,str,this,key]) h
end
def xG (a b:Bs):Int:=if a<b then -1 else if b<a then 1 else 0
theorem aar (x y:Bs)(w:World):aj prog 110 [str x,str y].toArray w fun v w'=>v=iV (xG x y)∧w'=w:=by
 have e1:∀(z:Bs) (w:World),aj prog 181 [str z].toArray w fun v w'=>v = .bool false∧w'=w:=fun z w=>by
  refine aj.enter func181 rfl ntmps181 rfl (gh ?_);exact⟨by simp,rfl⟩
 refine aj.enter func110 rfl ntmps110 rfl (gh ?_);refine GX.da (e1 x _) rfl rfl rfl rfl rfl rfl (gh ?_);refine GX.da (e1 y _) rfl rfl rfl rfl rfl rfl (gh ?_);refine ifs (fun h1=>?_) (fun h1=>?_)<;>refine gh ?_
 ·exact⟨by rw[xG,if_pos h1],rfl⟩
 refine GX.next rfl (alu _ _ rfl rfl rfl rfl rfl (gh ?_));refine ifs (fun h2=>?_) (fun h2=>?_)<;>refine gh ?_
 ·exact⟨by rw[xG,if_neg h1,if_pos h2],rfl⟩
 exact⟨by rw[xG,if_neg h1,if_neg h2],rfl⟩
theorem Uf (x:Bs)(w:World):aj prog 294 [str x].toArray w fun v w'=>v = .bool (fF x)∧w'=w:=by
 refine aj.enter func294 rfl ntmps294 rfl (gh ?_);refine ifs (fun h1=>?_) (fun h1=>?_)<;>refine gh ?_
 ·refine⟨?_,rfl⟩;rw[fF];congr 1;exact tA.2 ah
 ·refine⟨?_,rfl⟩;rw[fF];congr 1;simp;omega
theorem Zn {o:Og}{w:World}{a:Option Addr}{n c:Nat}{cs:List Value}(hn:n<2^40)(hl:cs.length=n)(h0:a=none→n=0)(h1:∀u∈cs,u.oneCell'=true)(hs:Start o w [aF a cs]) :
  aj prog 204 [.slice a n c].toArray w (aU o (mN n) (fun _=>True) (mM 5 1 n cs)):=by
 have hH:=hs.sh;refine aj.enter func204 rfl ntmps204 rfl (gh ?_);cases a with
 |none=>
  obtain rfl:=h0 rfl;obtain rfl:cs=[]:=ga ah;refine gh ?_;exact⟨(none,0),rfl,trivial,(SH.cE hH (Mod.refl w) (fun _ h=>by cases h) (aG.nil _ _ _)).to⟩
 |some x=>
  refine gh ?_;refine GX.tU (h:=fun q w hH=>gh ?_);refine GX.nI (hN:=SH.bR hH (x:=aF (some x) cs) bL) (hnl:=by omega) (h1:=h1) (hb:=by omega) (hm:=by omega) (h:=fun q c w hH=>gh ?_);rw[dA] at hH ⊢;exact⟨(q,c),rfl,trivial,hH.to⟩
def Hn (k:Bs)(v t:Value)(d n st:Nat):Value := .agg #[str k,v,t,uV d,uV n,uV st]
theorem yG {o:Og}{w:World}{k:Bs}{av ta:Option Addr}{nv cv nt ct d n st:Nat}{vs ts:List Value}(h1:nv<2^40)(h2:vs.length=nv)(h3:av=none→nv=0)(h4:∀u∈vs,u.oneCell'=true)(g1:nt<2^40)(g2:ts.length=nt)(g3:ta=none→nt=0)(g4:∀u∈ts,u.oneCell'=true)(hs:Start o w [aF av vs,aF ta ts]) :
  aj prog 123 [Hn k (.slice av nv cv) (.slice ta nt ct) d n st].toArray w (aU o (fun y:(Option Nat×Nat)×(Option Nat×Nat)=>Hn k (mN nv y.1) (mN nt y.2) d n st) (fun _=>True) (fun y=>[ao 5 1 y.1.1 nv y.1.2 vs,ao 9 1 y.2.1 nt y.2.2 ts])):=by
 have hH:=hs.sh;refine aj.enter func123 rfl ntmps123 rfl (gh ?_);refine GX.cw (h:=fun e w hH=>gh ?_);refine GX.cm (h:=fun r w hH=>gh ?_);refine GC.bq (pl:=(aZ [0,9,4,13,8,18,17,23,24,29])) (T:=fun _=>False) (hm:=mixed) (h:=fun w hE hH=>gh ?_);refine GX.ew (hc:=fun _ hs=>Zn (cs:=vs) h1 h2 h3 h4 hs) (h:=?_);rintro⟨q1,c1⟩ w _ hS1 hH;replace hH:=SH.ap hH;refine gh ?_;refine GX.ew (hc:=fun _ hs=>aao (cs:=ts) g1 ah g3 g4 hs) (h:=?_);rintro⟨q2,c2⟩ w _ HI hH;replace hH:=SH.ap hH;refine gh ?_;refine GX.fH (h:=fun w hH=>gh ?_);refine GX.fH (h:=fun w hH=>gh ?_);refine gh ?_;refine GX.bc (h:=fun w hH=>gh ?_);exact⟨((q1,c1),(q2,c2)),rfl,trivial,hH.to⟩
end
section
attribute [local irreducible] GO GX
structure Nd where
 key:Bs
 down:List Nat
 up:List Nat
 mark:Nat
structure Gr where
 cL:Nat
 dd:Nat
 aJ:Nat
 list:List Nd
 cells:List Nat
 cp:Nat
 cT:Nat
inductive Lb where
 |top|arr|ju
 |nd (i:Nat)|dn (i:Nat)|up (i:Nat)
 deriving DecidableEq
def p9 (w:World)(ow:Nat→Option Lb)(p:Lb)(v:Value)(l:List Nat):Prop:=
 ∃ob a c,v = .slice a l.length c∧aG w 3 1 ob a l.length c (aD l)∧(∀b,ob=some b→ow b=some p)∧(ob=none→a=none)
def rr (w:World)(ow:Nat→Option Lb)(i b:Nat)(x:Nd):Prop:=
 ∃v1 v2,cD w b [str x.key,v1,v2, .int .i64 x.mark]∧ow b=some (.nd i)∧p9 w ow (.dn i) v1 x.down∧p9 w ow (.up i) v2 x.up
structure GM (w:World)(g:Nat)(G:Gr)(ow:Nat→Option Lb)(ol:Option Nat)(al:Option Addr)(cl cb cc:Nat)(bs:List Nat):Prop where
 top:cD w g [.int .i64 G.cL, .int .i64 G.dd,uV G.aJ, .slice al G.list.length cl, .slice (some ⟨cb,0,none⟩) G.cells.length cc, .int .i64 G.cp, .int .i64 G.cT]
 fG:ow g=some .top
 arr:aG w 244 1 ol al G.list.length cl (bg bs)
 iG:∀b,ol=some b→ow b=some .arr
 mv:ol=none→al=none
 ju:aG w 3 1 (some cb) (some ⟨cb,0,none⟩) G.cells.length cc (aD G.cells)
 ng:ow cb=some .ju
 len:bs.length=G.list.length
 node:∀(i b:Nat) (x:Nd),bs[i]?=some b→G.list[i]?=some x→rr w ow i b x
 lt:∀b,ow b≠none→b<w.heap.size
theorem p9.mod {S:Nat→Prop}{w w':World}{ow:Nat→Option Lb}{p:Lb}{v:Value}{l:List Nat}(h:p9 w ow p v l)(hm:Mod S w w')(hn:∀b,ow b=some p→¬S b):p9 w' ow p v l:=by
 obtain⟨ob,a,c,rfl,h1,h2,h3⟩:=h;refine⟨ob,a,c,rfl,h1.mod hm (fun x hx=>?_),h2,h3⟩;cases df:ob with
 |none=>rw[h3 df] at hx;cases hx
 |some b=>
  rw[df] at h1;obtain⟨ha,_⟩:=h1.block;rw[ha] at hx;cases hx;exact hn b (h2 b df)
theorem rr.mod {S:Nat→Prop}{w w':World}{ow:Nat→Option Lb}{i b:Nat}{x:Nd}(h:rr w ow i b x)(hm:Mod S w w')(hn:∀b p,ow b=some p→p = .nd i∨p = .dn i∨p = .up i→¬S b):rr w' ow i b x:=by
 obtain⟨v1,v2,h1,h2,h3,h4⟩:=h;exact⟨v1,v2,h1.mod hm (hn b _ h2 (.inl rfl)),h2,h3.mod hm fun b hb=>hn b _ hb (.inr (.inl rfl)),h4.mod hm fun b hb=>hn b _ hb (.inr (.inr rfl))⟩
theorem GM.mod {S:Nat→Prop}{w w':World}{g:Nat}{G:Gr}{ow:Nat→Option Lb}{ol:Option Nat}{al:Option Addr}{cl cb cc:Nat}{bs:List Nat}(h:GM w g G ow ol al cl cb cc bs)(hm:Mod S w w')(hn:∀b,ow b≠none→¬S b):GM w' g G ow ol al cl cb cc bs:=by
 have aR:∀{b p},ow b=some p→¬S b:=fun {b p} e=>hn b (by rw[e];simp)
 refine⟨h.top.mod hm (aR h.fG),h.fG,h.arr.mod hm (fun x hx=>?_),h.iG,h.mv,h.ju.mod hm (fun x hx=>?_),h.ng,h.len,fun i b x h1 h2=>(h.node i b x h1 h2).mod hm fun b p e _=>aR e,fun b hb=>j4 (h.lt b hb) hm.size⟩
 ·cases df:ol with
  |none=>rw[h.mv df] at hx;cases hx
  |some b=>
   have ha:=h.arr;rw[df] at ha;rw[ha.block.1] at hx;cases hx;exact aR (h.iG b df)
 ·cases hx;exact aR h.ng
theorem GM.ext {w w':World}{g:Nat}{G:Gr}{ow:Nat→Option Lb}{ol:Option Nat}{al:Option Addr}{cl cb cc:Nat}{bs:List Nat}(h:GM w g G ow ol al cl cb cc bs)(hm:Ext w w'):GM w' g G ow ol al cl cb cc bs:=h.mod hm fun _ _ h=>h
def eW (L:List Nd):List (Bs×Nat):=L.zipIdx.map fun x=>(x.1.key,x.2)
def eZ (L:List Nd)(cs:List Nat):Cs:=cs.map fun n=>match n with|0=>none|m+1=>some ((L[m]?.map (·.key)).getD [],m)
structure gS (G:Gr):Prop where
 eC:eP (fun k=>bN G.aJ k) (eZ G.list G.cells) (eW G.list)
 idx:∀n∈G.cells,n≤G.list.length
 aJ:G.aJ<ed
 small:G.cells.length<2^40
theorem VV {L:List Nd}{k:Bs}{n:Nat}:(k,n)∈eW L↔∃x,L[n]?=some x∧x.key=k:=by
 simp only[eW,bK,mB,List.mem_zipIdx_iff_getElem?];constructor
 ·rintro⟨⟨x,i⟩,h1,h2,rfl⟩;exact⟨x,h1,h2⟩
 ·rintro⟨x,h1,h2⟩;exact⟨(x,n),h1,h2,rfl⟩
def A6 (G:Gr)(k:Bs)(q:Nat):Prop:=
 ∃d,q=(bN G.aJ k+d) % G.cells.length∧(∀e,e<d→∃y,(eZ G.list G.cells)[(bN G.aJ k+e) % G.cells.length]?=some (some y)∧y.1≠k) ∧
  ((k∉G.list.map (·.key)∧G.cells[q]?=some 0)∨∃n x,G.list[n]?=some x∧x.key=k∧G.cells[q]?=some (n+1))
theorem Fh (L:List Nd):(eW L).map (·.1)=L.map (·.key):=by
 simp only[eW,nB];rw[show((fun x:Bs×Nat=>x.1) ∘ fun x:Nd×Nat=>(x.1.key,x.2))=(fun x:Nd=>x.key) ∘ Prod.fst from rfl,←nB,List.zipIdx_map_fst]
theorem Kw {L:List Nd}{cs:List Nat}{q:Nat}:(eZ L cs)[q]?=(cs[q]?).map fun n=>match n with|0=>none|m+1=>some ((L[m]?.map (·.key)).getD [],m):=by simp[eZ]
structure sD (G:Gr)(M:List (Bs×Nat)):Prop where
 eC:eP (fun k=>bN G.aJ k) (eZ G.list G.cells) M
 sub:∀(k:Bs) (n:Nat),(k,n)∈M→∃x,G.list[n]?=some x∧x.key=k
 idx:∀n∈G.cells,n≤G.list.length
 aJ:G.aJ<ed
 small:G.cells.length<2^40∧G.list.length<2^40
def A7 (G:Gr)(M:List (Bs×Nat))(k:Bs)(q:Nat):Prop:=
 ∃d,q=(bN G.aJ k+d) % G.cells.length∧(∀e,e<d→∃y,(eZ G.list G.cells)[(bN G.aJ k+e) % G.cells.length]?=some (some y)∧y.1≠k) ∧
  ((k∉M.map (·.1)∧G.cells[q]?=some 0)∨∃n,(k,n)∈M∧G.cells[q]?=some (n+1))
theorem sD.find {G:Gr}{M:List (Bs×Nat)}(h:sD G M)(k:Bs):∃d,(∀e,e<d→∃m x,G.cells[(bN G.aJ k+e) % G.cells.length]?=some (m+1)∧G.list[m]?=some x∧x.key≠k)∧A7 G M k ((bN G.aJ k+d) % G.cells.length):=by
 obtain⟨d,h1,h2⟩:=h.eC.find k;have hl:(eZ G.list G.cells).length=G.cells.length:=by simp[eZ]
 rw[hl] at h1 h2;refine⟨d,fun e he=>?_,d,rfl,h1,?_⟩
 ·obtain⟨y,q1,q2⟩:=h1 e he;rw[Kw] at q1;cases hc:G.cells[(bN G.aJ k+e) % G.cells.length]? with
  |none=>rw[hc] at q1;cases q1
  |some n=>
   rw[hc] at q1;cases n with
   |zero=>simp at q1
   |succ m=>
    have hm:=h.idx _ (bF hc);have hx:G.list[m]?=some (G.list[m]'(by omega)):=by simp
    simp only[jr,hx,nC,mD] at q1;exact⟨m,_,rfl,hx,by rw[←q1] at q2;exact q2⟩
 ·rw[Kw] at h2
  rcases h2 with⟨q1,q2⟩|⟨n,q1,q2⟩
  ·refine .inl ⟨q1,?_⟩;cases hc:G.cells[(bN G.aJ k+d) % G.cells.length]? with
   |none=>rw[hc] at q2;cases q2
   |some n=>
    rw[hc] at q2;cases n with
    |zero=>rfl
    |succ m=>simp at q2
  ·refine .inr ⟨n,q1,?_⟩;cases hc:G.cells[(bN G.aJ k+d) % G.cells.length]? with
   |none=>rw[hc] at q2;cases q2
   |some n'=>
    rw[hc] at q2;cases n' with
    |zero=>simp at q2
    |succ m=>
     simp only[jr,mD,mB] at q2;rw[q2.2]
theorem gS.X8 {G:Gr}(h:gS G):sD G (eW G.list):=
 ⟨h.eC,fun k n hm=>VV.1 hm,h.idx,h.aJ,h.small,by
  have h1:=h.eC.room;have h2:=h.small;simp only[eZ,eW,fk,List.length_zipIdx] at h1;omega⟩
theorem A7.found {G:Gr}{k:Bs}{q:Nat}(h:A7 G (eW G.list) k q):A6 G k q:=by
 obtain⟨d,h1,h2,h3⟩:=h;refine⟨d,h1,h2,?_⟩
 rcases h3 with⟨h3,h4⟩|⟨n,h3,h4⟩
 ·exact .inl ⟨by rwa [Fh] at h3,h4⟩
 ·obtain⟨x,q1,q2⟩:=VV.1 h3;exact .inr ⟨n,x,q1,q2,h4⟩
theorem KR {w:World}{g:Nat}{G:Gr}{ow:Nat→Option Lb}{ol:Option Nat}{al:Option Addr}{cl cb cc:Nat}{bs:List Nat}(hG:GM w g G ow ol al cl cb cc bs){M:List (Bs×Nat)}(aX:sD G M)(k:Bs)(hk:k.length<2^40) :
  aj prog 245 [ak g,str k].toArray w fun v w'=>(∃q,v = .pointer (some ⟨cb,q,none⟩)∧q<G.cells.length∧A7 G M k q)∧Ext w w':=by
 have hT:=hG.top;have kF:0<G.cells.length:=by have:=aX.eC.room;simp[eZ] at this;omega
 have pP:=aX.small.1;have kZ:=aX.small.2;have hC:(G.cells.length:Int)≠0:=by omega
 obtain⟨d,qz,ft⟩:=aX.find k;refine aj.enter func245 rfl ntmps245 rfl (go ?_);refine GC.o5 (aZ [0,3,6,12,18,21,24,10,28,30,33,17,36,39]) (fun _=>False) mixed ai ai (go ?_);refine GX.Dn (Pe G.aJ aX.aJ k hk _) (by rintro _ _ ⟨_,rfl⟩;exact Mod.refl _) rfl rfl rfl rfl rfl rfl ?_;rintro _ _ ⟨rfl,rfl⟩;refine go ?_;refine GX.pure rfl (GO.rem rfl rfl rfl rfl rfl hC (Int.ofNat_tmod _ _).symm ?_);refine go ?_;refine GC.bP [0,1] (fun e:Nat=>[(5,uV ((bN G.aJ k+e) % G.cells.length))]) (fun e w'=>e≤d∧Ext w w') (fun e=>d - e) 0 rfl rfl ⟨bh _,Ext.drew w⟩ ?_;rintro e w1 ⟨he,cW⟩;have fC:=hG.ext cW;have iX:=fC.top;have hq:(bN G.aJ k+e) % G.cells.length<G.cells.length:=fm _ kF;have qw:G.cells[(bN G.aJ k+e) % G.cells.length]?=some (G.cells[(bN G.aJ k+e) % G.cells.length]'hq):=by simp
 generalize hcv:G.cells[(bN G.aJ k+e) % G.cells.length]'hq=cv at qw;have acU:cv≤G.list.length:=aX.idx _ (bF qw);have DK:=NF fC.ju qw (((bN G.aJ k+e) % G.cells.length:Nat):Int) rfl;generalize IL:(bN G.aJ k+e) % G.cells.length=q at hq qw DK ⊢;have Ei:(cv=0∨∃m x,cv=m+1∧G.list[m]?=some x∧x.key=k)→e=d:=fun hs=>by
  by_cases Eh:e<d
  ·exfalso;obtain⟨m,x,h1,h2,h3⟩:=qz e Eh;rw[IL,qw] at h1;cases h1
   rcases hs with hs|⟨m',x',h4,h5,h6⟩
   ·cases hs
   ·cases h4;rw[h2] at h5;cases h5;exact h3 h6
  ·omega
 have nS:e=d→∃q',(Value.pointer (some ⟨cb,0+((q:Nat):Int).toNat*1,none⟩):Value) = .pointer (some ⟨cb,q',none⟩)∧q'<G.cells.length∧A7 G M k q':=fun h=>by
  subst h;exact⟨q,by simp,hq,IL▸ft⟩
 refine go ?_;refine GC.o5 (aZ [0,3,6,12,10,15,19,21,24,27,30,33,39,42,45,51,78,37,49,54,58,60,63,67,69,72,76,81,84]) (fun _=>False) mixed ai ai (go ?_);refine GX.pure rfl (GO.indexAddr rfl rfl rfl rfl ah ah rfl ?_);refine GX.read rfl (GO.uK DK id (Ext.drew _) rfl rfl rfl ?_);refine go ?_;refine dj (fun hz=>?_) (fun hz=>?_)<;>refine go ?_
 ·obtain⟨m,rfl⟩:∃m,cv=m+1:=⟨cv - 1,by omega⟩
  have fK:G.list[m]?=some (G.list[m]'(by omega)):=by simp
  generalize G.list[m]'(by omega)=x at fK;have mT:bs[m]?=some (bs[m]'(by have:=hG.len;omega)):=by simp
  generalize bs[m]'(by have:=hG.len;omega)=nb at mT;obtain⟨v1,v2,uv,_⟩:=fC.node m nb x mT fK;obtain⟨lb,lo,b6,lH⟩:=sg fC.arr.bR mT;subst b6;refine GX.pure rfl (GO.indexAddr rfl rfl rfl rfl ah ah rfl ?_);refine GX.read rfl (GO.uK DK id (Ext.drew _) rfl rfl rfl ?_);refine go ?_;refine GX.pure rfl (GO.indexAddr rfl rfl rfl rfl ah ah rfl ?_);refine GX.read rfl (GO.uK (lH (((m+1:Nat):Int) - 1) ah) id (Ext.drew _) rfl rfl rfl ?_);refine go ?_;refine dj (fun aR=>?_) (fun aR=>?_)<;>refine go ?_
  ·have Eh:e<d:=by
    by_cases h:e=d
    ·exfalso;subst h;obtain⟨d',_,_,h3⟩:=ft;rw[IL,qw] at h3
     rcases h3 with⟨_,h3⟩|⟨n,h4,h6⟩
     ·cases h3
     ·cases h6;obtain⟨x',h4,h5⟩:=aX.sub _ _ h4;rw[fK] at h4;cases h4;exact aR h5
    ·omega
   have Af:((q:Int)+1).tmod (G.cells.length:Int)=(((bN G.aJ k+(e+1)) % G.cells.length:Nat):Int):=by
    rw[show((q:Int)+1)=((q+1:Nat):Int) by simp,←Int.ofNat_tmod,←IL];congr 1;rw[Nat.mod_add_mod,Nat.add_assoc]
   refine GX.next rfl (GO.rem rfl rfl rfl rfl rfl hC Af ?_);refine go ?_;exact GQ.br (e+1) rfl ⟨Eh,cW.trans (Ext.drew _)⟩ ah
  ·have mV:x.key=k:=Classical.not_not.1 aR;refine GX.next rfl (GO.indexAddr rfl rfl rfl rfl ah ah rfl (go ?_));exact⟨nS (Ei (.inr ⟨m,x,rfl,fK,mV⟩)),cW.trans (Ext.drew _)⟩
 ·refine GX.next rfl (GO.indexAddr rfl rfl rfl rfl ah ah rfl (go ?_));exact⟨nS (Ei (.inl ah)),cW.trans (Ext.drew _)⟩
theorem Z6 {w:World}{g:Nat}{G:Gr}{ow:Nat→Option Lb}{ol:Option Nat}{al:Option Addr}{cl cb cc:Nat}{bs:List Nat}(hG:GM w g G ow ol al cl cb cc bs)(aX:gS G)(k:Bs)(hk:k.length<2^40) :
  aj prog 245 [ak g,str k].toArray w fun v w'=>(∃q,v = .pointer (some ⟨cb,q,none⟩)∧q<G.cells.length∧A6 G k q)∧Ext w w':=
 (KR hG aX.X8 k hk).mono fun v w' ⟨⟨q,h1,h2,h3⟩,h4⟩=>⟨⟨q,h1,h2,h3.found⟩,h4⟩
theorem A6.yes {G:Gr}{k:Bs}{q n:Nat}(h:A6 G k q)(hc:G.cells[q]?=some (n+1)):∃x,G.list[n]?=some x∧x.key=k:=by
 obtain⟨_,_,_,⟨_,h1⟩|⟨m,x,h1,h2,h3⟩⟩:=h
 ·rw[hc] at h1;cases h1
 ·rw[hc] at h3;cases h3;exact⟨x,h1,h2⟩
theorem A6.no {G:Gr}{k:Bs}{q:Nat}(h:A6 G k q)(hc:G.cells[q]?=some 0):k∉G.list.map (·.key):=by
 obtain⟨_,_,_,⟨h1,_⟩|⟨m,x,h1,h2,h3⟩⟩:=h
 ·exact h1
 ·rw[hc] at h3;cases h3
def Kq (G:Gr)(k:Bs)(z:Int):Prop:=(z = -1∧k∉G.list.map (·.key))∨∃(n:Nat) (x:Nd),z=(n:Int)∧G.list[n]?=some x∧x.key=k
theorem xK {w:World}{g:Nat}{G:Gr}{ow:Nat→Option Lb}{ol:Option Nat}{al:Option Addr}{cl cb cc:Nat}{bs:List Nat}(hG:GM w g G ow ol al cl cb cc bs)(aX:gS G)(k:Bs)(hk:k.length<2^40) :
  aj prog 169 [ak g,str k].toArray w fun v w'=>(∃z,v=iV z∧Kq G k z)∧Ext w w':=by
 refine aj.enter func169 rfl ntmps169 rfl (go ?_);refine GX.call (Z6 hG aX k hk) rfl rfl rfl rfl rfl rfl ?_;rintro _ w1 ⟨⟨q,rfl,hq,hF⟩,hE⟩;have qw:G.cells[q]?=some (G.cells[q]'hq):=by simp
 have DK:=NF (hG.ext hE).ju qw ((q:Nat):Int) rfl;have acU:G.cells[q]'hq≤G.list.length:=aX.idx _ (bF qw);have pP:=aX.small;have kZ:G.list.length<G.cells.length:=by have:=aX.eC.room;simpa[eZ,eW] using this
 refine go ?_;refine GX.lj (by simpa using DK) rfl rfl rfl rfl (go ?_);refine⟨⟨_,rfl,?_⟩,hE⟩;cases hc:G.cells[q]'hq with
 |zero=>rw[hc] at qw;exact Or.inl ⟨rfl,hF.no qw⟩
 |succ n=>
  rw[hc] at qw;obtain⟨x,h1,h2⟩:=hF.yes qw;exact Or.inr ⟨n,x,by omega,h1,h2⟩
theorem Hx {w:World}{g:Nat}{G:Gr}{ow:Nat→Option Lb}{ol:Option Nat}{al:Option Addr}{cl cb cc:Nat}{bs:List Nat}(hG:GM w g G ow ol al cl cb cc bs)(hn:G.cL≠0) :
  aj prog 130 [ak g].toArray w fun v w'=>v = .bool false∧w'=w:=by
 have hT:=hG.top;refine aj.enter func130 rfl ntmps130 rfl (go ?_);exact⟨congrArg _ (bt ah),rfl⟩
theorem aew (l:List Nat)(x:Nat)(n:Nat)(hn:l.length=n)(hl:n<2^40)(a:Option Addr)(c:Nat)(w:World)(hA:bM w a (aD l)) :
  aj prog 299 [.slice a n c,iV x].toArray w fun v w'=>(∃z:Int,v=iV z∧(0≤z↔x∈l))∧w'=w:=by
 subst hn;refine aj.enter func299 rfl ntmps299 rfl (go ?_);refine GC.bP [0,1,7] (fun k:Nat=>[(8, .int .i64 k)]) (fun k w'=>k≤l.length∧x∉l.take k∧w=w') (fun k=>l.length - k) 0 rfl rfl ⟨bh _,by simp,rfl⟩ ?_;rintro k _ ⟨hk,bG,rfl⟩;refine go ?_;refine dj (fun hc=>?_) (fun hc=>?_)<;>refine go ?_
 ·have aP:k<l.length:=by omega
  obtain⟨b,o,e,jM⟩:=uJ hA (show l[k]?=some l[k] by simp);subst e;refine GX.next rfl (GO.indexAddr rfl rfl rfl rfl ah ah rfl ?_);refine GX.lj (jM (k:Int) ah) rfl rfl rfl rfl (go ?_);refine dj (fun hq=>?_) (fun hq=>?_)<;>refine go ?_
  ·exact⟨⟨_,rfl,fun _=>by rw[show x=l[k] by omega];exact ot aP,fun _=>by omega⟩,rfl⟩
  refine GQ.br (k+1) rfl ⟨aP,?_,rfl⟩ ah;rw[kQ aP];intro h
  rcases cJ.1 h with h|h
  ·exact bG h
  ·simp at h;omega
 have kB:k=l.length:=by omega
 subst kB;rw[j5] at bG;exact⟨⟨_,rfl,fun h=>absurd h ah,fun h=>absurd h bG⟩,rfl⟩
theorem aaB (l:List Nat)(x:Nat)(n:Nat)(hn:l.length=n)(hl:n<2^40)(a:Option Addr)(c:Nat)(w:World)(hA:bM w a (aD l)) :
  aj prog 243 [.slice a n c,iV x].toArray w fun v w'=>v = .bool (decide (x∈l))∧w'=w:=by
 refine aj.enter func243 rfl ntmps243 rfl (go ?_);refine GX.call (aew l x n hn hl a c w hA) rfl rfl rfl rfl rfl rfl ?_;rintro _ _ ⟨⟨z,rfl,hz⟩,rfl⟩;refine go ?_;exact⟨Gg hz,rfl⟩
structure xx (G:Gr):Prop where
 ok:gS G
 mx:0<G.cL∧G.cL≤65536
 down:∀(a:Nat) (x:Nd),G.list[a]?=some x→∀b∈x.down,b<G.list.length
 len:∀(a:Nat) (x:Nd),G.list[a]?=some x→x.down.length<2^40∧x.key.length<2^40
def eV (G:Gr)(p c:Bs):Prop:=∃(a b:Nat) (x y:Nd),G.list[a]?=some x∧x.key=p∧b∈x.down∧G.list[b]?=some y∧y.key=c
def gF (G:Gr)(k:Bs):List Bs:=match G.list.find? (fun x=>x.key=k) with
 |some x=>fj (x.down.map fun b=>(G.list[b]?.map (·.key)).getD [])
 |none=>[]
theorem On {α:Type}{l:List α}(h:l.Nodup){a b:Nat}{v:α}(ha:l[a]?=some v)(hb:l[b]?=some v):a=b:=by
 obtain⟨l1,q1⟩:=aV.1 ha;obtain⟨l2,q2⟩:=aV.1 hb
 rcases Nat.lt_trichotomy a b with aP|aP|aP
 ·exact absurd (q1.trans q2.symm) (sv.1 h a b l1 l2 aP)
 ·exact aP
 ·exact absurd (q2.trans q1.symm) (sv.1 h b a l2 l1 aP)
theorem key_inj {G:Gr}(h:gS G){a b:Nat}{x y:Nd}(ha:G.list[a]?=some x)(hb:G.list[b]?=some y)(hk:x.key=y.key):a=b:=by
 have hn:=h.eC.nodup;rw[Fh] at hn;have h1:(G.list.map (·.key))[a]?=some x.key:=by simp[ha]
 have h2:(G.list.map (·.key))[b]?=some x.key:=by simp[hb,hk]
 exact On hn h1 h2
theorem Sg {w:World}{g:Nat}{G:Gr}{ow:Nat→Option Lb}{ol:Option Nat}{al:Option Addr}{cl cb cc:Nat}{bs:List Nat}(hG:GM w g G ow ol al cl cb cc bs)(hi:xx G)(p c:Bs)(hp:p.length<2^40)(hc:c.length<2^40) :
  aj prog 167 [ak g,str p,str c].toArray w fun v w'=>(∃z,v = .bool z∧(z=true↔eV G p c))∧Ext w w':=by
 refine aj.enter func167 rfl ntmps167 rfl (go ?_);refine GX.call (Hx hG (by have:=hi.mx;omega)) rfl rfl rfl rfl rfl rfl ?_;rintro _ _ ⟨rfl,rfl⟩;refine go ?_;refine GX.call (xK hG hi.ok p hp) rfl rfl rfl rfl rfl rfl ?_;rintro _ w1 ⟨⟨za,rfl,ha⟩,cW⟩;have fC:=hG.ext cW;refine go ?_;refine GX.call (xK fC hi.ok c hc) rfl rfl rfl rfl rfl rfl ?_;rintro _ w2 ⟨⟨zb,rfl,hb⟩,di⟩;have gN:=fC.ext di;have hT:=gN.top;have hE:=cW.trans di;have noP:za = -1→¬eV G p c:=by
  rintro rfl ⟨a,b,x,y,h1,h2,_⟩
  rcases ha with⟨_,h⟩|⟨n,_,h,_⟩
  ·exact h (bK.2 ⟨x,bF h1,h2⟩)
  ·omega
 have noC:zb = -1→¬eV G p c:=by
  rintro rfl ⟨a,b,x,y,_,_,_,h1,h2⟩
  rcases hb with⟨_,h⟩|⟨n,_,h,_⟩
  ·exact h (bK.2 ⟨y,bF h1,h2⟩)
  ·omega
 refine go ?_;refine dj (fun h1=>?_) (fun h1=>?_)<;>refine go ?_
 rotate_left
 ·exact⟨⟨false,rfl,fun h=>by(cases h),fun h=>absurd h (noP (by rcases ha with⟨h,_⟩|⟨n,_,h,_⟩<;>omega))⟩,hE⟩
 refine dj (fun h2=>?_) (fun h2=>?_)<;>refine go ?_
 rotate_left
 ·exact⟨⟨false,rfl,fun h=>by(cases h),fun h=>absurd h (noC (by rcases hb with⟨h,_⟩|⟨n,_,h,_⟩<;>omega))⟩,hE⟩
 obtain⟨na,x,rfl,hx,mV⟩:∃(n:Nat) (x:Nd),za=(n:Int)∧G.list[n]?=some x∧x.key=p:=by
  rcases ha with⟨h,_⟩|h
  ·omega
  ·exact h
 obtain⟨nb,y,rfl,hy,uq⟩:∃(n:Nat) (x:Nd),zb=(n:Int)∧G.list[n]?=some x∧x.key=c:=by
  rcases hb with⟨h,_⟩|h
  ·omega
  ·exact h
 have pN:=(aV.1 hx).1;have mT:bs[na]?=some (bs[na]'(by have:=hG.len;omega)):=by simp
 generalize bs[na]'(by have:=hG.len;omega)=b1 at mT;obtain⟨v1,v2,uv,_,⟨ob,a3,c3,e3,mi,_⟩,_⟩:=gN.node na b1 x mT hx;subst e3;obtain⟨lb,lo,b6,lH⟩:=sg gN.arr.bR mT;subst b6;refine GX.next rfl (GO.indexAddr rfl rfl rfl rfl ah ah rfl ?_);refine GX.lj (lH (na:Int) ah) rfl rfl rfl rfl (go ?_);refine GX.next rfl (GO.lO rfl rfl rfl rfl (by decide) (by decide) rfl (go ?_));refine GX.call (aaB x.down nb x.down.length rfl (hi.len na x hx).1 a3 c3 _ mi.bR) rfl rfl rfl rfl rfl rfl ?_;rintro _ _ ⟨rfl,rfl⟩;refine go ?_;refine⟨⟨_,rfl,?_⟩,hE⟩;rw[decide_eq_true_iff];constructor
 ·intro h;exact⟨na,nb,x,y,hx,mV,h,hy,uq⟩
 ·rintro⟨a,b,x',y',q1,q2,q3,q4,q5⟩;obtain rfl:=key_inj hi.ok q1 hx (q2.trans mV.symm);obtain rfl:=key_inj hi.ok q4 hy (q5.trans uq.symm);rw[q1] at hx;cases hx;exact q3
end
end Go.Proofs.YtmlpbmgfmnmmmaaGreat.V.M
