/-
  Parts of the proof. No condition.
-/
import Derived.Test.YtmlpbmgfmnmmmaaGreatW2bj
import Derived.Test.YtmlpbmgfmnmmmaaGreatW2br
import Derived.Shelf.SlSortCmp.NoneTotal
set_option linter.unusedVariables false
set_option linter.unusedSimpArgs false
set_option maxRecDepth 8000
set_option maxHeartbeats 8000000
open Go.Proofs.Tryz
namespace Go.Proofs.YtmlpbmgfmnmmmaaGreat.V.M
open Go.RowKit Go.Shelf Go.Sort
theorem SH.ahV {o:Og}{w:World}{l:List It}{el:TypeId}{sz n c:Nat}{q:Option Nat}{cs:List Value}(h:SH o w (ao el sz q n c cs::l)):aG w el sz q (ay q) n c cs:=let⟨_,_,h,_⟩:=h.head;h
instance:Inhabited cH:=⟨s0⟩
section
variable {P:Program}{ops:Array Oper}{Q:Exit→Act→World→Prop}{S:World→Prop}{n:Nat}
variable {i:Nat}{p:bZ}{e:Env}{w:World}{dst:Option Tmp}{ty:TypeId}{pos:String}{an:Array Edge}{g:Option (Nat×Bool)}
theorem GO.P' [Fr]{t:TypeId}{x:Operand}{v:Value}{l:List Value}(hv:v.cells.toList=l)(hw:aH ops e ⟨dst, .box t x,ty,pos,an,g⟩=some true)(hx:ev e x=some v)(hd:fits n dst=true)
  (h:∀b w',b=w.heap.size→cD w' b l→Ext w w'→w'.drawn=w.drawn→(gG ops i=false→S w→S w')∧GX P ops Q S n p (e.put dst (.pointer (some ⟨b,0,none⟩))) w'):GO P ops Q S n .ax i ⟨dst, .box t x,ty,pos,an,g⟩ p e w:=
 GO.run (R:=fun u w'=>u = .pointer (some ⟨w.heap.size,0,none⟩)∧cD w' w.heap.size l∧Ext w w'∧w'.drawn=w.drawn) hw hd
  (fun a ha=>⟨_,_,w.alloc (.cells v.cells t),by simp[execOp,bC ha hx,Instr.box,newVar,newRow], .inl rfl,rfl,by
    have:=cD.new w l t;rw[←hv] at this ⊢;simpa using this,Ext.alloc _ _,rfl⟩)
  (by rintro _ w' ⟨rfl,h1,h2,h3⟩;exact h _ w' rfl h1 h2 h3)
theorem GO.ZD [Fr]{t:TypeId}{len:Nat}{parts:Array (Nat×Operand)}{vs:List (Nat×Value)}{pl:List (Nat×List Value)}{out:List Value}{el:TypeId}{sz aS:Nat}[hf:cj P t el sz aS]
  (hb:wV P t len pl=some out) (jR:len*aS≤140737488355328∧len≤maxLen) (hw:aH ops e ⟨dst, .buildSlice t len parts,ty,pos,an,g⟩=some true)
  (hx:parts.toList.mapM (fun x=>(ev e x.2).map fun v=>(x.1,v))=some vs) (hp:vs.map (fun x=>(x.1,x.2.cells.toList))=pl) (hlen:out.length=len*sz) (hd:fits n dst=true)
  (h:∀b w',b=w.heap.size→aG w' el sz (some b) (some ⟨b,0,none⟩) len len out→Ext w w'→w'.drawn=w.drawn→(gG ops i=false→S w→S w')∧GX P ops Q S n p (e.put dst (.slice (some ⟨b,0,none⟩) len len)) w'):GO P ops Q S n .ax i ⟨dst, .buildSlice t len parts,ty,pos,an,g⟩ p e w:=by
 refine GO.run (R:=fun u w'=>u = .slice (some ⟨w.heap.size,0,none⟩) len len∧aG w' el sz (some w.heap.size) (some ⟨w.heap.size,0,none⟩) len len out∧Ext w w'∧w'.drawn=w.drawn) hw hd (fun a ha=>?_) (by rintro _ w' ⟨rfl,h1,h2,h3⟩;exact h _ w' rfl h1 h2 h3);have Ab:(parts.map fun(i,x)=>(i,a.eval x)).toList=vs:=by simpa using K5 ha parts.toList vs hx
 obtain⟨hu,ii,z,hi,hz,hs,_,iE⟩:=hf.facts;unfold wV at hb;simp only[hu,hi,hz] at hb;split at hb
 ·rename_i h1 h2
  have kF:¬len*ii.size=0:=by have:=h1;simp[Nat.blt] at this;omega
  have hle:¬len*ii.size > 2^24:=by have:=vi h2;omega
  have Ej:=fill_eq _ vs pl _ out hp hb;subst hs;refine⟨_,_,w.alloc (.cells out.toArray el),?_, .inl rfl,rfl,?_,Ext.alloc _ _,rfl⟩
  ·simp only[execOp,Sem.run_bind,Instr.buildSlice,run_underlying hu,Result.andThen_ok,Go.sizeOf,typeInfo,run_program,hi,Sem.run_pure,if_neg hle,if_neg kF,zeroValue,hz,Ab];rw[Ej];simp[newRow]
  ·refine aG.new ⟨hlen, .inr ⟨w.heap.size,len,out.toArray,rfl,bh _,heap_alloc_new w _,bj _,jR.2,by simpa using hlen,?_⟩⟩;rw[←hlen];simp
 ·cases hb
end
attribute [local irreducible] GX GO
attribute [local irreducible] aA ao aQ aF fz star
def sH (x y:cC):Int:=qU (oG x.d y.d) (xG x.k y.k)
theorem ZA (a b:Bs):a<b∨a=b∨b<a:=by
 by_cases h1:a<b
 ·exact .inl h1
 ·by_cases h2:b<a
  ·exact .inr (.inr h2)
  ·exact .inr (.inl (List.le_antisymm h2 h1))
theorem Zz (a:Bs):¬a<a:=List.lt_irrefl a
theorem G7 {x y:cC}:sH x y<0↔x.d<y.d∨(x.d=y.d∧x.k<y.k):=by
 unfold sH qU oG xG
 by_cases h1:x.d<y.d
 ·simp[h1]
 ·by_cases h2:y.d<x.d
  ·simp[h1,h2];omega
  ·have e:x.d=y.d:=by omega
   by_cases h3:x.k<y.k
   ·simp[h1,h2,h3,e]
   ·by_cases h4:y.k<x.k<;>simp[h1,h2,h3,h4]
theorem CZ:SWO (ltOf sH):=by
 refine⟨fun x=>?_,fun x y z h1 h2=>?_,fun x y z h1 h2=>?_⟩
 ·simp only[ltOf,decide_eq_false_iff_not,G7];rintro(h|⟨_,h⟩)
  ·omega
  ·exact Zz _ h
 ·simp only[ltOf,mE,G7] at h1 h2 ⊢
  rcases h1 with h1|⟨h1,k1⟩<;>rcases h2 with h2|⟨h2,k2⟩
  ·exact .inl ah
  ·exact .inl ah
  ·exact .inl ah
  ·exact .inr ⟨by omega,List.lt_trans k1 k2⟩
 ·simp only[ltOf,decide_eq_false_iff_not,G7] at h1 h2 ⊢;rintro(h|⟨h,k⟩)
  ·have a1:¬x.d<y.d:=fun q=>h1 (.inl q)
   have a2:¬y.d<z.d:=fun q=>h2 (.inl q)
   omega
  ·have a1:¬x.d<y.d:=fun q=>h1 (.inl q)
   have a2:¬y.d<z.d:=fun q=>h2 (.inl q)
   have b1:¬x.k<y.k:=fun q=>h1 (.inr ⟨by omega,q⟩)
   have b2:¬y.k<z.k:=fun q=>h2 (.inr ⟨by omega,q⟩)
   have c1:y.k≤x.k:=b1;have c2:z.k≤y.k:=b2;exact(List.le_trans c2 c1) k
def AS (l:List cC):List cC:=l.mergeSort fun x y=>decide (¬sH y x<0)
theorem FR (l:List cC):(AS l).Perm l:=List.mergeSort_perm l _
theorem ajT {l m:List cC}(hn:(l.map (·.k)).Nodup)(hp:m.Perm l)(hs:m.Pairwise fun x y=>¬sH y x<0):m=AS l:=by
 have h1:(AS l).Pairwise fun x y=>¬sH y x<0:=by
  have:=List.pairwise_mergeSort (le:=fun x y:cC=>decide (¬sH y x<0)) (fun a b c h1 h2=>by
   have h3:=CZ.ntrans c b a (by simpa[ltOf] using h2) (by simpa[ltOf] using h1);simpa[ltOf] using h3) (fun a b=>by
   by_cases h:sH b a<0
   ·have:¬sH a b<0:=fun h'=>by
     have h3:=CZ.trans a b a (by simpa[ltOf] using h') (by simpa[ltOf] using h);have h4:=CZ.irrefl a;rw[h3] at h4;cases h4
    simp[this]
   ·simp[h]) l
  exact this.imp fun h=>by simpa using h
 refine(hp.trans (FR l).symm).eq_of_pairwise (fun a b ha hb k1 k2=>?_) hs h1;have b6:a∈l:=hp.mem_iff.1 ha;have fq:b∈l:=(FR l).mem_iff.1 hb;refine map_inj hn b6 fq ?_;rw[G7] at k1 k2
 rcases ZA a.k b.k with h|h|h
 ·exact absurd (show a.d<b.d∨(a.d=b.d∧a.k<b.k) from by
   by_cases e:a.d=b.d
   ·exact .inr ⟨e,h⟩
   ·rcases Nat.lt_or_gt_of_ne e with e|e
    ·exact .inl e
    ·exact absurd (.inl e) k1) k2
 ·exact h
 ·exact absurd (show b.d<a.d∨(b.d=a.d∧b.k<a.k) from by
   by_cases e:b.d=a.d
   ·exact .inr ⟨e,h⟩
   ·rcases Nat.lt_or_gt_of_ne e with e|e
    ·exact .inl e
    ·exact absurd (.inl e) k2) k1
def bw.gone (s:bw)(now:Nat):List cC:=AS (s.E.filter fun e=>due e.d now)
def bw.left (s:bw)(now:Nat):bw:={ s with E:=s.E.filter fun e=>!due e.d now,K:=s.K+(s.gone now).length}
theorem ab3 {E jL R:List cC}{now:Nat}(hs:R.Sublist E)(hp:E.Perm (jL++R))(h1:∀e∈jL,due e.d now=true)(h2:∀e∈R,due e.d now=false):R=E.filter (fun e=>!due e.d now)∧jL.Perm (E.filter fun e=>due e.d now):=by
 constructor
 ·have h3:=hs.filter fun e=>!due e.d now
  rw[p8.2 fun e he=>by simp[h2 e he]] at h3;refine h3.eq_of_length ?_;rw[(hp.filter _).length_eq,y5,List.filter_eq_nil_iff.2 fun e he=>by simp[h1 e he],p8.2 fun e he=>by simp[h2 e he],jF]
 ·have h3:=hp.filter fun e=>due e.d now
  have f1:jL.filter (fun e=>due e.d now)=jL:=p8.2 fun e he=>by simp[h1 e he]
  have f2:R.filter (fun e=>due e.d now)=[]:=List.filter_eq_nil_iff.2 fun e he=>by simp[h2 e he]
  rw[y5,f1,f2,eY] at h3;exact h3.symm
theorem ahG (b c:Nat)(x y:Int)(w:World)(hA:At w b 0 [iV x,iV y]):aj prog 108 [.slice (some ⟨b,0,none⟩) 2 c].toArray w fun v w'=>v=iV (qU x y)∧w'=w:=by
 refine aj.enter func108 rfl ntmps108 rfl (go ?_);refine GC.bP [3,6,7] (fun k:Nat=>[(8,iV k)]) (fun k w'=>k≤2∧(0<k→x=0)∧(1<k→y=0)∧w'=w) (fun k=>2 - k) 0 rfl rfl ⟨bh _,ah,ah,rfl⟩ ?_;rintro k w1 ⟨h1,h2,h3,hw⟩;subst hw;refine go ?_;refine dj (fun h4=>?_) (fun h4=>?_)<;>refine go ?_
 ·rcases(show k=0∨k=1 by omega) with rfl|rfl
  ·refine GX.next rfl (GO.indexAddr rfl rfl rfl rfl (by simp) (by simp) rfl (go ?_));refine dj (fun h5=>?_) (fun h5=>?_)<;>refine go ?_
   ·exact⟨by rw[qU,if_pos h5],rfl⟩
   ·exact GQ.br 1 rfl ⟨by omega,ah,ah,rfl⟩ ah
  ·refine GX.next rfl (GO.indexAddr rfl rfl rfl rfl (by simp) (by simp) rfl (go ?_));refine GX.lj (At.one hA (k:=1) rfl) rfl rfl rfl rfl (go ?_);refine dj (fun h5=>?_) (fun h5=>?_)<;>refine go ?_
   ·exact⟨by rw[qU,if_neg (by simp[h2])],rfl⟩
   ·exact GQ.br 2 rfl ⟨by omega,ah,ah,rfl⟩ ah
 ·exact⟨by rw[qU,if_neg (by simp[h2 ah]),h3 ah],rfl⟩
theorem abx (k1 k2:Bs)(v1 t1 n1 s1 v2 t2 n2 s2:Value)(d1 d2:Nat)(w:World):aj prog 107 [.agg #[str k1,v1,t1,uV d1,n1,s1], .agg #[str k2,v2,t2,uV d2,n2,s2]].toArray w fun v w'=>v=iV (qU (oG d1 d2) (xG k1 k2))∧∃q os,w'=grow (w.drewN q) os:=by
 refine aj.enter func107 rfl ntmps107 rfl (go ?_);refine GX.ax rfl (GO.P' rfl rfl rfl rfl fun b1 w1 jQ DL cW qz=>⟨fun _ _=>trivial,go ?_⟩);refine GX.ax rfl (GO.P' rfl rfl rfl rfl fun b2 w2 iY qh di ft=>⟨fun _ _=>trivial,go ?_⟩);have ack:=DL.ext di;refine GC.o5 (aZ [0,6,15,21,4,10,19,25,14,29,32,35,36]) (fun _=>False) mixed ai ai (go ?_)
 repeat(
  refine go ?_
  first
  |refine GX.read rfl (GO.rQ rfl rfl rfl ack id (Ext.drew _) (by rfl) ?_)
  |refine GX.read rfl (GO.rQ rfl rfl rfl qh id (Ext.drew _) (by rfl) ?_))
 refine GX.pA (hc:=QI d1 d2 _) (h:=go ?_);refine GX.pA (hc:=aar k1 k2 _) (h:=go ?_);refine GX.ax rfl (GO.ZD (out:=[iV (oG d1 d2),iV (xG k1 k2)]) ai ⟨by decide,by unfold maxLen;decide⟩ rfl rfl rfl rfl rfl fun b3 w3 BC mi iy xR=>⟨fun _ hS=>hS.trans iy.mod,go ?_⟩);refine GX.pA (hc:=ahG b3 2 _ _ _ mi.bR) (h:=go ?_);refine⟨rfl,Ext.grown (((cW.trans di).trans (Ext.drew _)).trans iy) ?_⟩;rw[xR];show w.drawn≤w2.drawn+1;omega
theorem ajU {o:Og}{w:World}{q:Option Nat}{n c:Nat}{S:List cH}(hn:S.length=n)(hl:n<2^40)(hs:Start o w [ao 138 6 q n c (aK eB S)]) :
  aj prog 106 [.slice (ay q) n c, .func (.func 107) #[] #[]].toArray w (aU o (fun _:List cH => .tuple #[]) (fun S'=>S'.Perm S∧S'.Pairwise fun x y=>¬sH y.e x.e<0) (fun S'=>[ao 138 6 q n c (aK eB S')])):=by
 have hH:=hs.sh;have hO:=hH.ahV;have hT:aC prog (kM.t 24) true 6:=inferInstanceAs (aC prog 138 true 6);have hC:aw prog 107:=inferInstance;subst hn;cases q with
 |none=>
  have h0:S.length=0:=by
   by_cases h0:0<S.length
   ·obtain⟨_,h⟩:=hH.pos (el:=138) (sz:=6) (q:=none);cases h
   ·omega
  obtain rfl:=ga h0;refine aj.Az ((AnyF.slices_SortFunc_none XP none c (.func (.func 107) #[] #[]) w).mono ?_);rintro e w' ⟨rfl,rfl⟩;exact⟨_,rfl,[],rfl,⟨.refl _,by simp⟩,hH.to⟩
 |some b=>
  refine(akj XP hT.isAgg hT.sizeOf o9 AQ (fun x y=>sH x.e y.e) ⟨fun x=>CZ.irrefl x.e,fun x y z=>CZ.trans x.e y.e z.e,fun x y z=>CZ.ntrans x.e y.e z.e⟩ 107 (W7 hC) (fun x y w=>?_) S hl w hO).mono ?_
  ·exact abx x.e.k y.e.k _ _ _ _ _ _ _ _ x.e.d y.e.d w
  ·rintro v w' ⟨rfl,S',h1,h2,h3,h4⟩;exact⟨S',rfl,⟨h1,h2⟩,(hH.ly bA.here (fun _=>h3) (h4.weaken fun k _ hk=>by rw[hk]) (fun b hb => .inl hb)).to⟩
structure PE where
 X:dB
 s:bw
 jL:List cH
 q:Option Nat
 c:Nat
structure YA (s0:bw)(now i:Nat)(out rest:List Tm)(y:PE):Prop where
 ok:de y.X y.s
 il:i≤out.length
 gl:y.jL.length=i
 sub:y.s.E.Sublist s0.E
 perm:s0.E.Perm (y.jL.map (·.e)++y.s.E)
 due:∀x∈y.jL,due x.e.d now=true
 dat:(dD y.X.S y.X.L).Perm (out.drop i++rest)
 K:y.s.K=s0.K+i
 aI:y.s.bytes=s0.bytes∧y.s.many=s0.many
theorem alb {o:Og}{w:World}{b:Nat}{s:bw}(now:Nat)(hK:s.K<2^59)(hs:Start o w [jD b s]) :
  aj prog 58 [ak b,uV now].toArray w (aU o (fun y:List cH×Option Nat×Nat => .slice (ay y.2.1) y.1.length y.2.2) (fun y=>y.1.map (·.e)=s.gone now) (fun y=>[jD b (s.left now),ao 138 6 y.2.1 y.1.length y.2.2 (aK eB y.1),bB (cY y.1)])):=by
 have hH:=hs.sh;obtain⟨⟨X,hX⟩,hH⟩:=SH.un hH;replace hH:=SH.ap hH;dsimp only at hH;refine aj.enter func58 rfl ntmps58 rfl (gh ?_);refine GX.aL (hc:=fun _ hs=>FX hs) (h:=fun w hE hH=>gh ?_);refine gh ?_;refine GX.bS (hc:=fun _ hs=>ac4 now hs) (h:=?_);rintro⟨out,rest,q0,c0,z⟩ w ⟨hP,BG,bX⟩ hH;dsimp only at hP BG bX hH ⊢;replace hH:=SH.ap hH;refine gh ?_;have iC:out.length≤1048576:=by
  have h1:=hP.length_eq;have h2:=hX.ll;have h3:=hX.len;have h4:=hX.many;have h5:(dD X.S X.L).length≤X.L.length:=by unfold dD;rw[fk];exact rh _ _
  rw[bJ] at h1;omega
 have aO:=SH.cE (el:=138) (sz:=6) (q:=none) (n:=0) (c:=0) (cs:=[]) hH (Mod.refl w) (fun _ h=>by cases h) (aG.nil _ _ _);replace hH:=aO.pz;clear aO;refine GC.bP [0,21,22] (fun y:Nat×PE=>[(7, .slice (ay y.2.q) y.2.jL.length y.2.c),(23,iV y.1)]) (fun y w'=>YA s now y.1 out rest y.2∧SH o w' (ao 138 6 y.2.q y.2.jL.length y.2.c (aK eB y.2.jL)::bB (cY y.2.jL)::ao 211 2 q0 out.length c0 (aK lA out)::y.2.X.Fe b y.2.s rest)) (fun y=>out.length - y.1) (0,⟨X,s,[],none,0⟩) rfl rfl ⟨⟨hX,bh _,rfl,List.Sublist.refl _,mC _,fun _ h=>(by cases h),hP,rfl,rfl,rfl⟩,hH.to⟩ ?_;rintro⟨i,X1,s1,jL,q,c⟩ w ⟨⟨aX,eL,lK,fY,uA,Mk,vV,LC,zV⟩,hH⟩;dsimp only at aX eL lK fY uA Mk vV LC zV hH ⊢;refine gh ?_;refine ifs (fun h1=>?_) (fun h1=>?_)<;>refine gh ?_
 ·obtain⟨x,hx⟩:∃x,out[i]?=some x:=⟨_,bO ah⟩
  obtain⟨qb,rfl⟩:=hH.pos (el:=211) (sz:=2) (q:=q0);have Nq:=bF hx;rw[show out.drop i=x::out.drop (i+1) by rw[p7 ah];congr 1;exact(aV.1 hx).2] at vV;obtain⟨n,MO,aR⟩:=bK.1 (vV.mem_iff.2 (tC ..));obtain⟨mY,uw⟩:=ib.1 MO;have zY:=eN uw;have Ts:=Hh (S:=X1.S) mY;rw[if_pos zY,aR] at Ts;have SA:(dD X1.S (X1.L.erase n)).Perm (out.drop (i+1)++rest):=List.Perm.cons_inv (Ts.symm.trans vV);have adU:∀z∈rest,z.1≠n:=fun z hz=>Dt (S:=X1.S) (L:=X1.L.erase n) (n:=n) (.inl (Ay aX.nd)) z (SA.mem_iff.2 (List.mem_append_right _ hz))
  have Iy:n<1048576:=j4 (aX.lt n mY) aX.sl;refine gh ?_;refine GX.next rfl (GO.jz (hv:=jj nr hx) (h:=gh ?_));refine GX.cm (h:=fun z w hH=>gh ?_);refine GX.bc (h:=fun w hH=>gh ?_);subst aR;dsimp only[dB.Fe] at hH Iy;refine GX.bS (hc:=fun _ hs=>X6 aX mY ah (D:=rest) (D':=rest) (fun hs=>(MP n Iy adU hs).mono fun _ _ ⟨h1,h2⟩=>⟨(0,9),h1,trivial,h2⟩) hs) (h:=?_);rintro T w uy hH;replace hH:=SH.ap hH;have acZ:dD (X1.S.set n s0) (X1.L.erase n)=dD X1.S (X1.L.erase n):=Hg fun m hm=>yP _ fun e=>Ay aX.nd (e▸hm)
  have II:=aX.CI mY;have hdn:=BG _ Nq;generalize Cd:aN X1.S n=xn at *;refine gh ?_;refine GX.mK (h1:=by exact AQ _) (h:=fun q c w _ hH=>gh ?_);have cF:=hH.iu (m:=cY (jL++[xn])) (fx xn) (cY jL) (by repeat(first|exact Pk.nil|(apply Pk.cons;repeat(first|exact aB.here|apply aB.there)))) (by rw[CG,CH];exact sx);rw[show aK eB jL++eB xn=aK eB (jL++[xn]) by rw[kK],show jL.length+1=(jL++[xn]).length by simp] at cF;refine GQ.br (i+1,⟨X1.p5 n T,s1.drop xn.e.k,jL++[xn],_,_⟩) (by dsimp only;rw[bJ];rfl) ⟨⟨uy,by dsimp only;omega,by simp;omega,(List.filter_sublist).trans fY,?_,fun x hx=>?_,?_,by show s1.K+1=_;omega,zV⟩,cF.to⟩ (by dsimp only;omega)
  ·refine uA.trans ?_;rw[eD,cP];exact List.Perm.append_left _ II
  ·rcases cJ.1 hx with hx|hx
   ·exact Mk x hx
   ·simp at hx;subst hx;exact hdn
  ·show(dD (X1.S.set n s0) (X1.L.erase n)).Perm _;rw[acZ];exact SA
 ·obtain rfl:i=out.length:=by omega
  rw[l0 (bj _),jF] at vV;refine gh ?_;dsimp only[dB.Fe] at hH;refine GX.bS (hc:=fun _ hs=>ajU (S:=jL) rfl ah hs) (h:=?_);rintro S' w ⟨wh,IH⟩ hH;replace hH:=SH.ap hH;have zY:∀e∈s1.E,due e.d now=false:=fun e he=>by
   rw[aX.pC] at he;obtain⟨n,hn,rfl⟩:=bK.1 he;cases HZ:due (aN X1.S n).e.d now with
   |false=>rfl
   |true=>
    have h1:(n,(aN X1.S n).e.d)∈dD X1.S X1.L:=bK.2 ⟨n,ib.2 ⟨hn,by
     unfold due at HZ;simp only[mE] at HZ ⊢;exact HZ.1⟩,rfl⟩
    have:=bX _ (vV.mem_iff.1 h1);rw[HZ] at this;cases this
  obtain⟨e1,e2⟩:=ab3 fY uA (fun e he=>by obtain⟨x,hx,rfl⟩:=bK.1 he;exact Mk x hx) zY;have kD:((s.E.filter fun e=>due e.d now).map (·.k)).Nodup:=(List.Sublist.map _ List.filter_sublist).nodup hX.kn;have e3:S'.map (·.e)=s.gone now:=ajT kD ((wh.map _).trans e2) (by rw[rl];exact IH);have amz:(s.gone now).length=out.length:=by rw[←e3,fk,wh.length_eq,lK]
  have es:s1=s.left now:=by
   cases s1;cases s;simp only[bw.left] at *
   simp_all
  rw[es] at aX hH;replace hH:=Aa hH vV.symm;have cF:=hH.KH (WB wh).symm;rw[←wh.length_eq] at cF ⊢;refine gh ?_;exact⟨(S',q,c),rfl,e3,(mA aX cF).to⟩
end Go.Proofs.YtmlpbmgfmnmmmaaGreat.V.M
