/-
  Parts of the proof. No condition.
-/
import Derived.Test.YtoloaehmppcjoaaGreatW2bh
import Derived.Test.YtoloaehmppcjoaaGreatW2bp
import Derived.Shelf.SlSortCmp.NoneTotal
set_option linter.unusedVariables false
set_option linter.unusedSimpArgs false
set_option maxRecDepth 8000
set_option maxHeartbeats 8000000
open Go.Proofs.Tryz
namespace Go.Proofs.YtoloaehmppcjoaaGreat.V.M
open Go.RowKit Go.Shelf Go.Sort
theorem SH.ahU {o:Og}{w:World}{l:List It}{el:TypeId}{sz n c:Nat}{q:Option Nat}{cs:List Value}(h:SH o w (aq el sz q n c cs::l)):aH w el sz q (aA q) n c cs:=let⟨_,_,h,_⟩:=h.head;h
instance:Inhabited cG:=⟨s0⟩
section
variable {P:Program}{ops:Array Oper}{Q:Exit→Act→World→Prop}{S:World→Prop}{n:Nat}
variable {i:Nat}{p:b6}{e:Env}{w:World}{dst:Option Tmp}{ty:TypeId}{pos:String}{an:Array Edge}{g:Option (Nat×Bool)}
theorem GO.Qc [Fr]{t:TypeId}{x:Operand}{v:Value}{l:List Value}(hv:v.cells.toList=l)(hw:aI ops e ⟨dst, .box t x,ty,pos,an,g⟩=some true)(hx:ev e x=some v)(hd:fits n dst=true)
  (h:∀b w',b=w.heap.size→cE w' b l→Ext w w'→w'.drawn=w.drawn→(gS ops i=false→S w→S w')∧GX P ops Q S n p (e.put dst (.pointer (some ⟨b,0,none⟩))) w'):GO P ops Q S n .aw i ⟨dst, .box t x,ty,pos,an,g⟩ p e w:=
 GO.run (R:=fun u w'=>u = .pointer (some ⟨w.heap.size,0,none⟩)∧cE w' w.heap.size l∧Ext w w'∧w'.drawn=w.drawn) hw hd
  (fun a ha=>⟨_,_,w.alloc (.cells v.cells t),by simp[execOp,bE ha hx,Instr.box,newVar,newRow], .inl rfl,rfl,by
    have:=cE.new w l t;rw[←hv] at this ⊢;simpa using this,Ext.alloc _ _,rfl⟩)
  (by rintro _ w' ⟨rfl,h1,h2,h3⟩;exact h _ w' rfl h1 h2 h3)
theorem GO.ZE [Fr]{t:TypeId}{len:Nat}{parts:Array (Nat×Operand)}{vs:List (Nat×Value)}{pl:List (Nat×List Value)}{out:List Value}{el:TypeId}{sz aT:Nat}[hf:cr P t el sz aT]
  (hb:xh P t len pl=some out) (j8:len*aT≤140737488355328∧len≤maxLen) (hw:aI ops e ⟨dst, .buildSlice t len parts,ty,pos,an,g⟩=some true)
  (hx:parts.toList.mapM (fun x=>(ev e x.2).map fun v=>(x.1,v))=some vs) (hp:vs.map (fun x=>(x.1,x.2.cells.toList))=pl) (hlen:out.length=len*sz) (hd:fits n dst=true)
  (h:∀b w',b=w.heap.size→aH w' el sz (some b) (some ⟨b,0,none⟩) len len out→Ext w w'→w'.drawn=w.drawn→(gS ops i=false→S w→S w')∧GX P ops Q S n p (e.put dst (.slice (some ⟨b,0,none⟩) len len)) w'):GO P ops Q S n .aw i ⟨dst, .buildSlice t len parts,ty,pos,an,g⟩ p e w:=by
 refine GO.run (R:=fun u w'=>u = .slice (some ⟨w.heap.size,0,none⟩) len len∧aH w' el sz (some w.heap.size) (some ⟨w.heap.size,0,none⟩) len len out∧Ext w w'∧w'.drawn=w.drawn) hw hd (fun a ha=>?_) (by rintro _ w' ⟨rfl,h1,h2,h3⟩;exact h _ w' rfl h1 h2 h3);have Aa:(parts.map fun(i,x)=>(i,a.eval x)).toList=vs:=by simpa using Li ha parts.toList vs hx
 obtain⟨hu,ii,z,hi,hz,hs,_,iR⟩:=hf.facts;unfold xh at hb;simp only[hu,hi,hz] at hb;split at hb
 ·rename_i h1 h2
  have kS:¬len*ii.size=0:=by have:=h1;simp[Nat.blt] at this;omega
  have hle:¬len*ii.size > 2^24:=by have:=vq h2;omega
  have Er:=fill_eq _ vs pl _ out hp hb;subst hs;refine⟨_,_,w.alloc (.cells out.toArray el),?_, .inl rfl,rfl,?_,Ext.alloc _ _,rfl⟩
  ·simp only[execOp,Sem.run_bind,Instr.buildSlice,run_underlying hu,Result.andThen_ok,Go.sizeOf,typeInfo,run_program,hi,Sem.run_pure,if_neg hle,if_neg kS,zeroValue,hz,Aa];rw[Er];simp[newRow]
  ·refine aH.new ⟨hlen, .inr ⟨w.heap.size,len,out.toArray,rfl,bh _,heap_alloc_new w _,aY _,j8.2,by simpa using hlen,?_⟩⟩;rw[←hlen];simp
 ·cases hb
end
attribute [local irreducible] GX GO
attribute [local irreducible] aB aq aS aF fz star
def th (x y:bM):Int:=rl (oX x.d y.d) (xO x.k y.k)
theorem ZB (a b:Bs):a<b∨a=b∨b<a:=by
 by_cases h1:a<b
 ·exact .inl h1
 ·by_cases h2:b<a
  ·exact .inr (.inr h2)
  ·exact .inr (.inl (List.le_antisymm h2 h1))
theorem ZA (a:Bs):¬a<a:=List.lt_irrefl a
theorem G8 {x y:bM}:th x y<0↔x.d<y.d∨(x.d=y.d∧x.k<y.k):=by
 unfold th rl oX xO
 by_cases h1:x.d<y.d
 ·simp[h1]
 ·by_cases h2:y.d<x.d
  ·simp[h1,h2];omega
  ·have e:x.d=y.d:=by omega
   by_cases h3:x.k<y.k
   ·simp[h1,h2,h3,e]
   ·by_cases h4:y.k<x.k<;>simp[h1,h2,h3,h4]
theorem CW:SWO (ltOf th):=by
 refine⟨fun x=>?_,fun x y z h1 h2=>?_,fun x y z h1 h2=>?_⟩
 ·simp only[ltOf,decide_eq_false_iff_not,G8];rintro(h|⟨_,h⟩)
  ·omega
  ·exact ZA _ h
 ·simp only[ltOf,oO,G8] at h1 h2 ⊢
  rcases h1 with h1|⟨h1,k1⟩<;>rcases h2 with h2|⟨h2,k2⟩
  ·exact .inl ah
  ·exact .inl ah
  ·exact .inl ah
  ·exact .inr ⟨by omega,List.lt_trans k1 k2⟩
 ·simp only[ltOf,decide_eq_false_iff_not,G8] at h1 h2 ⊢;rintro(h|⟨h,k⟩)
  ·have a1:¬x.d<y.d:=fun q=>h1 (.inl q)
   have a2:¬y.d<z.d:=fun q=>h2 (.inl q)
   omega
  ·have a1:¬x.d<y.d:=fun q=>h1 (.inl q)
   have a2:¬y.d<z.d:=fun q=>h2 (.inl q)
   have b1:¬x.k<y.k:=fun q=>h1 (.inr ⟨by omega,q⟩)
   have b2:¬y.k<z.k:=fun q=>h2 (.inr ⟨by omega,q⟩)
   have c1:y.k≤x.k:=b1;have c2:z.k≤y.k:=b2;exact(List.le_trans c2 c1) k
def AS (l:List bM):List bM:=l.mergeSort fun x y=>decide (¬th y x<0)
theorem CQ (l:List bM):(AS l).Perm l:=List.mergeSort_perm l _
theorem ajL {l m:List bM}(hn:(l.map (·.k)).Nodup)(hp:m.Perm l)(hs:m.Pairwise fun x y=>¬th y x<0):m=AS l:=by
 have h1:(AS l).Pairwise fun x y=>¬th y x<0:=by
  have:=List.pairwise_mergeSort (le:=fun x y:bM=>decide (¬th y x<0)) (fun a b c h1 h2=>by
   have h3:=CW.ntrans c b a (by simpa[ltOf] using h2) (by simpa[ltOf] using h1);simpa[ltOf] using h3) (fun a b=>by
   by_cases h:th b a<0
   ·have:¬th a b<0:=fun h'=>by
     have h3:=CW.trans a b a (by simpa[ltOf] using h') (by simpa[ltOf] using h);have h4:=CW.irrefl a;rw[h3] at h4;cases h4
    simp[this]
   ·simp[h]) l
  exact this.imp fun h=>by simpa using h
 refine(hp.trans (CQ l).symm).eq_of_pairwise (fun a b ha hb k1 k2=>?_) hs h1;have cj:a∈l:=hp.mem_iff.1 ha;have fD:b∈l:=(CQ l).mem_iff.1 hb;refine map_inj hn cj fD ?_;rw[G8] at k1 k2
 rcases ZB a.k b.k with h|h|h
 ·exact absurd (show a.d<b.d∨(a.d=b.d∧a.k<b.k) from by
   by_cases e:a.d=b.d
   ·exact .inr ⟨e,h⟩
   ·rcases Nat.lt_or_gt_of_ne e with e|e
    ·exact .inl e
    ·exact absurd (.inl e) k1) k2
 ·exact h
 ·exact absurd (show b.d<a.d∨(b.d=a.d∧b.k<a.k) from by
   by_cases e:b.d=a.d
   ·exact .inr ⟨e,h⟩
   ·rcases Nat.lt_or_gt_of_ne e with e|e
    ·exact .inl e
    ·exact absurd (.inl e) k2) k1
def bw.gone (s:bw)(now:Nat):List bM:=AS (s.E.filter fun e=>due e.d now)
def bw.left (s:bw)(now:Nat):bw:={ s with E:=s.E.filter fun e=>!due e.d now,K:=s.K+(s.gone now).length}
theorem acd {E j5 R:List bM}{now:Nat}(hs:R.Sublist E)(hp:E.Perm (j5++R))(h1:∀e∈j5,due e.d now=true)(h2:∀e∈R,due e.d now=false):R=E.filter (fun e=>!due e.d now)∧j5.Perm (E.filter fun e=>due e.d now):=by
 constructor
 ·have h3:=hs.filter fun e=>!due e.d now
  rw[oM.2 fun e he=>by simp[h2 e he]] at h3;refine h3.eq_of_length ?_;rw[(hp.filter _).length_eq,vu,List.filter_eq_nil_iff.2 fun e he=>by simp[h1 e he],oM.2 fun e he=>by simp[h2 e he],kC]
 ·have h3:=hp.filter fun e=>due e.d now
  have f1:j5.filter (fun e=>due e.d now)=j5:=oM.2 fun e he=>by simp[h1 e he]
  have f2:R.filter (fun e=>due e.d now)=[]:=List.filter_eq_nil_iff.2 fun e he=>by simp[h2 e he]
  rw[vu,f1,f2,fB] at h3;exact h3.symm
theorem ahF (b c:Nat)(x y:Int)(w:World)(hA:At w b 0 [iV x,iV y]):aj prog 132 [.slice (some ⟨b,0,none⟩) 2 c].toArray w fun v w'=>v=iV (rl x y)∧w'=w:=by
 refine aj.enter func132 rfl ntmps132 rfl (go ?_);refine GC.bR [3,6,7] (fun k:Nat=>[(8,iV k)]) (fun k w'=>k≤2∧(0<k→x=0)∧(1<k→y=0)∧w'=w) (fun k=>2 - k) 0 rfl rfl ⟨bh _,ah,ah,rfl⟩ ?_;rintro k w1 ⟨h1,h2,h3,hw⟩;subst hw;refine go ?_;refine dq (fun h4=>?_) (fun h4=>?_)<;>refine go ?_
 ·rcases(show k=0∨k=1 by omega) with rfl|rfl
  ·refine GX.next rfl (GO.indexAddr rfl rfl rfl rfl (by simp) (by simp) rfl (go ?_));refine dq (fun h5=>?_) (fun h5=>?_)<;>refine go ?_
   ·exact⟨by rw[rl,if_pos h5],rfl⟩
   ·exact GQ.bj 1 rfl ⟨by omega,ah,ah,rfl⟩ ah
  ·refine GX.next rfl (GO.indexAddr rfl rfl rfl rfl (by simp) (by simp) rfl (go ?_));refine GX.lD (At.one hA (k:=1) rfl) rfl rfl rfl rfl (go ?_);refine dq (fun h5=>?_) (fun h5=>?_)<;>refine go ?_
   ·exact⟨by rw[rl,if_neg (by simp[h2])],rfl⟩
   ·exact GQ.bj 2 rfl ⟨by omega,ah,ah,rfl⟩ ah
 ·exact⟨by rw[rl,if_neg (by simp[h2 ah]),h3 ah],rfl⟩
theorem abA (k1 k2:Bs)(v1 t1 n1 s1 v2 t2 n2 s2:Value)(d1 d2:Nat)(w:World):aj prog 131 [.agg #[str k1,v1,t1,uV d1,n1,s1], .agg #[str k2,v2,t2,uV d2,n2,s2]].toArray w fun v w'=>v=iV (rl (oX d1 d2) (xO k1 k2))∧∃q os,w'=grow (w.drewN q) os:=by
 refine aj.enter func131 rfl ntmps131 rfl (go ?_);refine GX.aw rfl (GO.Qc rfl rfl rfl rfl fun b1 w1 mE DO cX qR=>⟨fun _ _=>trivial,go ?_⟩);refine GX.aw rfl (GO.Qc rfl rfl rfl rfl fun b2 w2 iM qI dx fE=>⟨fun _ _=>trivial,go ?_⟩);have acv:=DO.ext dx;refine GC.pv (bg [0,6,15,21,4,10,19,25,14,29,32,35,36]) (fun _=>False) mixed ai ai (go ?_)
 repeat(
  refine go ?_
  first
  |refine GX.read rfl (GO.su rfl rfl rfl acv id (Ext.drew _) (by rfl) ?_)
  |refine GX.read rfl (GO.su rfl rfl rfl qI id (Ext.drew _) (by rfl) ?_))
 refine GX.pS (hc:=QL d1 d2 _) (h:=go ?_);refine GX.pS (hc:=aas k1 k2 _) (h:=go ?_);refine GX.aw rfl (GO.ZE (out:=[iV (oX d1 d2),iV (xO k1 k2)]) ai ⟨by decide,by unfold maxLen;decide⟩ rfl rfl rfl rfl rfl fun b3 w3 xT mD iK xV=>⟨fun _ hS=>hS.trans iK.mod,go ?_⟩);refine GX.pS (hc:=ahF b3 2 _ _ _ mD.bL) (h:=go ?_);refine⟨rfl,Ext.grown (((cX.trans dx).trans (Ext.drew _)).trans iK) ?_⟩;rw[xV];show w.drawn≤w2.drawn+1;omega
theorem ajM {o:Og}{w:World}{q:Option Nat}{n c:Nat}{S:List cG}(hn:S.length=n)(hl:n<2^40)(hs:Start o w [aq 159 6 q n c (aL eL S)]) :
  aj prog 130 [.slice (aA q) n c, .func (.func 131) #[] #[]].toArray w (aX o (fun _:List cG => .tuple #[]) (fun S'=>S'.Perm S∧S'.Pairwise fun x y=>¬th y.e x.e<0) (fun S'=>[aq 159 6 q n c (aL eL S')])):=by
 have hH:=hs.sh;have hO:=hH.ahU;have hT:aC prog (kY.t 24) true 6:=inferInstanceAs (aC prog 159 true 6);have hC:ax prog 131:=inferInstance;subst hn;cases q with
 |none=>
  have h0:S.length=0:=by
   by_cases h0:0<S.length
   ·obtain⟨_,h⟩:=hH.pos (el:=159) (sz:=6) (q:=none);cases h
   ·omega
  obtain rfl:=gu h0;refine aj.Ay ((AnyF.slices_SortFunc_none XQ none c (.func (.func 131) #[] #[]) w).mono ?_);rintro e w' ⟨rfl,rfl⟩;exact⟨_,rfl,[],rfl,⟨.refl _,by simp⟩,hH.to⟩
 |some b=>
  refine(akb XQ hT.isAgg hT.sizeOf pA AQ (fun x y=>th x.e y.e) ⟨fun x=>CW.irrefl x.e,fun x y z=>CW.trans x.e y.e z.e,fun x y z=>CW.ntrans x.e y.e z.e⟩ 131 (Xa hC) (fun x y w=>?_) S hl w hO).mono ?_
  ·exact abA x.e.k y.e.k _ _ _ _ _ _ _ _ x.e.d y.e.d w
  ·rintro v w' ⟨rfl,S',h1,h2,h3,h4⟩;exact⟨S',rfl,⟨h1,h2⟩,(hH.lG bA.here (fun _=>h3) (h4.weaken fun k _ hk=>by rw[hk]) (fun b hb => .inl hb)).to⟩
structure PC where
 X:dG
 s:bw
 j5:List cG
 q:Option Nat
 c:Nat
structure YC (s0:bw)(now i:Nat)(out rest:List Tm)(y:PC):Prop where
 ok:dh y.X y.s
 il:i≤out.length
 gl:y.j5.length=i
 sub:y.s.E.Sublist s0.E
 perm:s0.E.Perm (y.j5.map (·.e)++y.s.E)
 due:∀x∈y.j5,due x.e.d now=true
 dat:(dH y.X.S y.X.L).Perm (out.drop i++rest)
 K:y.s.K=s0.K+i
 aD:y.s.bytes=s0.bytes∧y.s.many=s0.many
theorem ak3 {o:Og}{w:World}{b:Nat}{s:bw}(now:Nat)(hK:s.K<2^59)(hs:Start o w [kz b s]) :
  aj prog 80 [ak b,uV now].toArray w (aX o (fun y:List cG×Option Nat×Nat => .slice (aA y.2.1) y.1.length y.2.2) (fun y=>y.1.map (·.e)=s.gone now) (fun y=>[kz b (s.left now),aq 159 6 y.2.1 y.1.length y.2.2 (aL eL y.1),bJ (cZ y.1)])):=by
 have hH:=hs.sh;obtain⟨⟨X,hX⟩,hH⟩:=SH.un hH;replace hH:=SH.ap hH;dsimp only at hH;refine aj.enter func80 rfl ntmps80 rfl (gh ?_);refine GX.aM (hc:=fun _ hs=>Kg hs) (h:=fun w hE hH=>gh ?_);refine gh ?_;refine GX.bZ (hc:=fun _ hs=>adg now hs) (h:=?_);rintro⟨out,rest,q0,c0,z⟩ w ⟨hP,BE,bT⟩ hH;dsimp only at hP BE bT hH ⊢;replace hH:=SH.ap hH;refine gh ?_;have iP:out.length≤1048576:=by
  have h1:=hP.length_eq;have h2:=hX.ll;have h3:=hX.len;have h4:=hX.many;have h5:(dH X.S X.L).length≤X.L.length:=by unfold dH;rw[fH];exact pF _ _
  rw[bH] at h1;omega
 have aQ:=SH.cF (el:=159) (sz:=6) (q:=none) (n:=0) (c:=0) (cs:=[]) hH (Mod.refl w) (fun _ h=>by cases h) (aH.nil _ _ _);replace hH:=aQ.pR;clear aQ;refine GC.bR [0,21,22] (fun y:Nat×PC=>[(7, .slice (aA y.2.q) y.2.j5.length y.2.c),(23,iV y.1)]) (fun y w'=>YC s now y.1 out rest y.2∧SH o w' (aq 159 6 y.2.q y.2.j5.length y.2.c (aL eL y.2.j5)::bJ (cZ y.2.j5)::aq 234 2 q0 out.length c0 (aL lM out)::y.2.X.Fo b y.2.s rest)) (fun y=>out.length - y.1) (0,⟨X,s,[],none,0⟩) rfl rfl ⟨⟨hX,bh _,rfl,List.Sublist.refl _,pD _,fun _ h=>(by cases h),hP,rfl,rfl,rfl⟩,hH.to⟩ ?_;rintro⟨i,X1,s1,j5,q,c⟩ w ⟨⟨aU,eY,oe,eO,uO,Mu,wg,LM,zS⟩,hH⟩;dsimp only at aU eY oe eO uO Mu wg LM zS hH ⊢;refine gh ?_;refine ifs (fun h1=>?_) (fun h1=>?_)<;>refine gh ?_
 ·obtain⟨x,hx⟩:∃x,out[i]?=some x:=⟨_,bO ah⟩
  obtain⟨qb,rfl⟩:=hH.pos (el:=234) (sz:=2) (q:=q0);have Ny:=bD hx;rw[show out.drop i=x::out.drop (i+1) by rw[tV ah];congr 1;exact(aV.1 hx).2] at wg;obtain⟨n,hnm,aP⟩:=bG.1 (wg.mem_iff.2 (oK ..));obtain⟨ny,uK⟩:=fR.1 hnm;have zV:=dM uK;have Ts:=Hi (S:=X1.S) ny;rw[if_pos zV,aP] at Ts;have Sx:(dH X1.S (X1.L.erase n)).Perm (out.drop (i+1)++rest):=List.Perm.cons_inv (Ts.symm.trans wg);have ad2:∀z∈rest,z.1≠n:=fun z hz=>Dw (S:=X1.S) (L:=X1.L.erase n) (n:=n) (.inl (Av aU.nd)) z (Sx.mem_iff.2 (List.mem_append_right _ hz))
  have II:n<1048576:=jL (aU.lt n ny) aU.sl;refine gh ?_;refine GX.next rfl (GO.kg (hv:=ku nG hx) (h:=gh ?_));refine GX.cA (h:=fun z w hH=>gh ?_);refine GX.bt (h:=fun w hH=>gh ?_);subst aP;dsimp only[dG.Fo] at hH II;refine GX.bZ (hc:=fun _ hs=>X7 aU ny ah (D:=rest) (D':=rest) (fun hs=>(MZ n II ad2 hs).mono fun _ _ ⟨h1,h2⟩=>⟨(0,9),h1,trivial,h2⟩) hs) (h:=?_);rintro T w uM hH;replace hH:=SH.ap hH;have adb:dH (X1.S.set n s0) (X1.L.erase n)=dH X1.S (X1.L.erase n):=Hh fun m hm=>yQ _ fun e=>Av aU.nd (e▸hm)
  have IT:=aU.CE ny;have hdn:=BE _ Ny;generalize Ja:aO X1.S n=xn at *;refine gh ?_;refine GX.nR (h1:=by exact AQ _) (h:=fun q c w _ hH=>gh ?_);have cH:=hH.iI (m:=cZ (j5++[xn])) (fG xn) (cZ j5) (by repeat(first|exact Pk.nil|(apply Pk.cons;repeat(first|exact az.here|apply az.there)))) (by rw[CC,CD];exact sQ);rw[show aL eL j5++eL xn=aL eL (j5++[xn]) by rw[lH],show j5.length+1=(j5++[xn]).length by simp] at cH;refine GQ.bj (i+1,⟨X1.qw n T,s1.drop xn.e.k,j5++[xn],_,_⟩) (by dsimp only;rw[bH];rfl) ⟨⟨uM,by dsimp only;omega,by simp;omega,(List.filter_sublist).trans eO,?_,fun x hx=>?_,?_,by show s1.K+1=_;omega,zS⟩,cH.to⟩ (by dsimp only;omega)
  ·refine uO.trans ?_;rw[eA,cS];exact List.Perm.append_left _ IT
  ·rcases cx.1 hx with hx|hx
   ·exact Mu x hx
   ·simp at hx;subst hx;exact hdn
  ·show(dH (X1.S.set n s0) (X1.L.erase n)).Perm _;rw[adb];exact Sx
 ·obtain rfl:i=out.length:=by omega
  rw[mm (aY _),kC] at wg;refine gh ?_;dsimp only[dG.Fo] at hH;refine GX.bZ (hc:=fun _ hs=>ajM (S:=j5) rfl ah hs) (h:=?_);rintro S' w ⟨r9,se⟩ hH;replace hH:=SH.ap hH;have zV:∀e∈s1.E,due e.d now=false:=fun e he=>by
   rw[aU.pT] at he;obtain⟨n,hn,rfl⟩:=bG.1 he;cases Ie:due (aO X1.S n).e.d now with
   |false=>rfl
   |true=>
    have h1:(n,(aO X1.S n).e.d)∈dH X1.S X1.L:=bG.2 ⟨n,fR.2 ⟨hn,by
     unfold due at Ie;simp only[oO] at Ie ⊢;exact Ie.1⟩,rfl⟩
    have:=bT _ (wg.mem_iff.1 h1);rw[Ie] at this;cases this
  obtain⟨e1,e2⟩:=acd eO uO (fun e he=>by obtain⟨x,hx,rfl⟩:=bG.1 he;exact Mu x hx) zV;have iN:((s.E.filter fun e=>due e.d now).map (·.k)).Nodup:=(List.Sublist.map _ List.filter_sublist).nodup hX.kn;have e3:S'.map (·.e)=s.gone now:=ajL iN ((r9.map _).trans e2) (by rw[rD];exact se);have amx:(s.gone now).length=out.length:=by rw[←e3,fH,r9.length_eq,oe]
  have es:s1=s.left now:=by
   cases s1;cases s;simp only[bw.left] at *
   simp_all
  rw[es] at aU hH;replace hH:=z8 hH wg.symm;have cH:=hH.KU (WC r9).symm;rw[←r9.length_eq] at cH ⊢;refine gh ?_;exact⟨(S',q,c),rfl,e3,(mT aU cH).to⟩
end Go.Proofs.YtoloaehmppcjoaaGreat.V.M
