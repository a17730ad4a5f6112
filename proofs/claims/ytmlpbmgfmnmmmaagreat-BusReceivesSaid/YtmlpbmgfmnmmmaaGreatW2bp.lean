/-
  Parts of the proof. No condition.
-/
import Derived.Test.YtmlpbmgfmnmmmaaGreatW2bo
set_option linter.unusedVariables false
set_option linter.unusedSimpArgs false
set_option maxRecDepth 8000
set_option maxHeartbeats 8000000
open Go.Proofs.Tryz
namespace Go.Proofs.YtmlpbmgfmnmmmaaGreat.V.M
section
attribute [local irreducible] GO GX
structure dS where
 cL:Nat
 dd:Nat
 K:Nat
 E:Bs→Bs→Prop
inductive xz (E:Bs→Bs→Prop) (p:Bs):Bs→Prop
 |one {c:Bs}:E p c→xz E p c
 |more {d c:Bs}:xz E p d→E d c→xz E p c
def xA (E:Bs→Bs→Prop)(k:Bs):Prop:=(∃c,E k c)∨∃p,E p k
open Classical in
noncomputable def Ju (E:Bs→Bs→Prop):Nat:=if h:∃L:List Bs,L.Nodup∧∀k,k∈L↔xA E k then(Classical.choose h).length else 0
open Classical in
noncomputable def Jg (E:Bs→Bs→Prop):Nat:=if h:∃L:List (Bs×Bs),L.Nodup∧∀x,x∈L↔E x.1 x.2 then(Classical.choose h).length else 0
open Classical in
noncomputable def kH (E:Bs→Bs→Prop)(k:Bs):List Bs:=if h:∃L:List Bs,oz L∧L.Nodup∧∀c,c∈L↔E k c then Classical.choose h else[]
theorem VC {α:Type}[BEq α][LawfulBEq α]{L M:List α}(h1:L.Nodup)(h2:M.Nodup)(h:∀x,x∈L↔x∈M):L.length=M.length:=
 Nat.le_antisymm (xo h1 fun x hx=>(h x).1 hx) (xo h2 fun x hx=>(h x).2 hx)
theorem ahm {E:Bs→Bs→Prop}{L:List Bs}(h1:L.Nodup)(h2:∀k,k∈L↔xA E k):Ju E=L.length:=by
 have h:∃L:List Bs,L.Nodup∧∀k,k∈L↔xA E k:=⟨L,h1,h2⟩
 unfold Ju;rw[dif_pos h];obtain⟨k1,k2⟩:=Classical.choose_spec h;exact VC k1 h1 fun k=>(k2 k).trans (h2 k).symm
theorem agB {E:Bs→Bs→Prop}{L:List (Bs×Bs)}(h1:L.Nodup)(h2:∀x,x∈L↔E x.1 x.2):Jg E=L.length:=by
 have h:∃L:List (Bs×Bs),L.Nodup∧∀x,x∈L↔E x.1 x.2:=⟨L,h1,h2⟩
 unfold Jg;rw[dif_pos h];obtain⟨k1,k2⟩:=Classical.choose_spec h;exact VC k1 h1 fun k=>(k2 k).trans (h2 k).symm
theorem Uq {E:Bs→Bs→Prop}{k:Bs}{L:List Bs}(h1:oz L)(h2:L.Nodup)(h3:∀c,c∈L↔E k c):kH E k=L:=by
 have h:∃L:List Bs,oz L∧L.Nodup∧∀c,c∈L↔E k c:=⟨L,h1,h2,h3⟩
 unfold kH;rw[dif_pos h];obtain⟨k1,k2,k3⟩:=Classical.choose_spec h;have hp:(Classical.choose h).Perm L:=(List.perm_ext_iff_of_nodup k2 h2).2 fun c=>(k3 c).trans (h3 c).symm
 exact hp.eq_of_pairwise (fun a b _ _ h1 h2=>List.le_antisymm h1 h2) k1 h1
theorem Dx {G:Gr}{a b:Nat}{x y:Nd}(h1:G.list[a]?=some x)(h2:b∈x.down)(h3:G.list[b]?=some y):eV G x.key y.key:=⟨a,b,x,y,h1,rfl,h2,h3,rfl⟩
theorem P5 {G:Gr}{k:Bs}(h:k∈G.list.map (·.key)):∃(n:Nat) (x:Nd),G.list[n]?=some x∧x.key=k:=by
 obtain⟨x,hx,hk⟩:=bK.1 h;obtain⟨n,hn⟩:=ej hx;exact⟨n,x,hn,hk⟩
section
variable {G:Gr}(hi:js G)
include hi
theorem js.Jt (k:Bs):k∈G.list.map (·.key)↔xA (eV G) k:=by
 constructor
 ·intro h;obtain⟨n,x,hx,rfl⟩:=P5 h
  rcases hi.used x (bF hx) with hu|hu
  ·obtain⟨b,hb⟩:=List.exists_mem_of_ne_nil _ hu;have:=hi.eM.down n x hx b hb;exact .inl ⟨_,Dx hx hb (bO this)⟩
  ·obtain⟨a,ha⟩:=List.exists_mem_of_ne_nil _ hu;have b6:=hi.nA n x hx a ha;have h2:=(hi.oW a n _ x (bO b6) hx).2 ha;exact .inr ⟨_,Dx (bO b6) h2 hx⟩
 ·rintro(⟨c,a,b,x,y,h1,h2,_⟩|⟨p,a,b,x,y,_,_,_,h1,h2⟩)
  ·exact bK.2 ⟨x,bF h1,h2⟩
  ·exact bK.2 ⟨y,bF h1,h2⟩
theorem js.ahn:Ju (eV G)=G.list.length:=by
 rw[ahm hi.eM.ok.nodup hi.Jt,fk]
theorem js.Hj {n:Nat}{x:Nd}(hx:G.list[n]?=some x):(x.down.map (keyOf G.list)).Nodup∧∀c,c∈x.down.map (keyOf G.list)↔eV G x.key c:=by
 have Eo:∀b∈x.down,∃y,G.list[b]?=some y∧keyOf G.list b=y.key:=fun b hb=>by
  have:=hi.eM.down n x hx b hb;exact⟨_,bO this,by unfold keyOf;rw[bO this];rfl⟩
 constructor
 ·rw[pj,rl];refine List.Pairwise.imp_of_mem (fun {a b} ha hb eR e=>?_) (pj.1 (hi.nM x (bF hx)));obtain⟨y,h1,h2⟩:=Eo a ha;obtain⟨z,h3,h4⟩:=Eo b hb;exact eR (key_inj hi.eM.ok h1 h3 (by rw[←h2,←h4,e]))
 ·intro c;constructor
  ·intro h;obtain⟨b,hb,rfl⟩:=bK.1 h;obtain⟨y,h1,h2⟩:=Eo b hb;rw[h2];exact Dx hx hb h1
  ·rintro⟨a,b,x',y,h1,h2,h3,h4,h5⟩;obtain rfl:=key_inj hi.eM.ok h1 hx h2;rw[hx] at h1;cases h1;refine bK.2 ⟨b,h3,?_⟩;unfold keyOf;rw[h4];exact h5
theorem js.agC:Jg (eV G)=G.cp:=by
 have key:∀L:List Nd,(L.flatMap fun x=>(x.down.map (keyOf G.list)).map fun c=>(x.key,c)).length=(L.map (·.down.length)).sum:=fun L=>by
  induction L with
  |nil=>rfl
  |cons x L ih=>rw[List.flatMap_cons,bJ,ih];simp
 rw[←hi.zu,vG,←key];refine agB ?_ fun x=>?_
 ·rw[pj,List.pairwise_flatMap];refine⟨fun x hx=>?_,?_⟩
  ·obtain⟨n,hn⟩:=ej hx;rw[rl];exact(pj.1 (hi.Hj hn).1).imp fun h e=>h (by simpa using congrArg Prod.snd e)
  ·have h1:=hi.eM.ok.nodup;rw[pj,rl] at h1;refine h1.imp fun {a b} h u hu v hv e=>h ?_
   obtain⟨_,_,rfl⟩:=bK.1 hu;obtain⟨_,_,rfl⟩:=bK.1 hv;exact congrArg Prod.fst e
 ·obtain⟨u,v⟩:=x;simp only[List.mem_flatMap];constructor
  ·rintro⟨x,hx,h⟩;obtain⟨c,hc,e⟩:=bK.1 h;cases e;obtain⟨n,hn⟩:=ej hx;exact((hi.Hj hn).2 v).1 hc
  ·intro h;obtain⟨a,b,x,y,h1,rfl,h3,h4,h5⟩:=id h;exact⟨x,bF h1,bK.2 ⟨v,((hi.Hj h1).2 v).2 h,rfl⟩⟩
theorem js.ae8 (k:Bs):kH (eV G) k=gF G k:=by
 by_cases hk:k∈G.list.map (·.key)
 ·obtain⟨n,x,hx,rfl⟩:=P5 hk;rw[Ck hi.eM.ok hx rfl];obtain⟨h1,h2⟩:=hi.Hj hx;exact Uq (CU _) ((lV _).nodup_iff.2 h1) fun c=>(lV _).mem_iff.trans (h2 c)
 ·rw[I7 hk];refine Uq (by simp[oz]) mF fun c=>⟨fun h=>(by cases h),fun h=>?_⟩
  exact absurd ((hi.Jt k).2 (.inl ⟨c,h⟩)) hk
theorem js.Wa (k:Bs)[Decidable (xA (eV G) k)]:dK G k=if xA (eV G) k then 0 else 1:=by
 unfold dK
 by_cases h:k∈G.list.map (·.key)
 ·rw[if_pos h,if_pos ((hi.Jt k).1 h)]
 ·rw[if_neg h,if_neg (fun h'=>h ((hi.Jt k).2 h'))]
theorem js.agk (p c:Bs):A9 G p c↔xz (eV G) p c:=by
 constructor
 ·rintro⟨a,b,d,x,y,h1,rfl,h2,h3,h4,rfl⟩;obtain⟨z,hz,hd⟩:=h3
  induction h2 generalizing d y z with
  |refl=>rw[h1] at hz;cases hz;exact .one (Dx h1 hd h4)
  |step h2 h5 ih=>
   obtain⟨u,hu,hb⟩:=id h5;exact .more (ih _ z hz u hu hb) (Dx hz hd h4)
 ·intro h
  induction h with
  |one h=>
   obtain⟨a,b,x,y,h1,h2,h3,h4,h5⟩:=h;exact⟨a,a,b,x,y,h1,h2, .refl,⟨x,h1,h3⟩,h4,h5⟩
  |more _ h ih=>
   obtain⟨a,b,d,x,y,h1,h2,h3,h4,h5,h6⟩:=ih;obtain⟨a',b',x',y',k1,k2,k3,k4,k5⟩:=h;obtain rfl:=key_inj hi.eM.ok k1 h5 (k2.trans h6.symm);exact⟨a,a',b',x,y',h1,h2, .step h3 h4,⟨x',k1,k3⟩,k4,k5⟩
end
end
section
attribute [local irreducible] GO GX
structure vu (G:Gr)(A:dS):Prop where
 inv:js G
 cL:G.cL=A.cL
 dd:G.dd=A.dd
 E:eV G=A.E
 K:G.cT≤A.K
def gA (g:Nat)(A:dS):It:=star fun G:{ G:Gr // vu G A}=>[iT g G.1]
instance {g:Nat}{G:Gr}:Zf (iT g G):=Zf.star fun X=>by
 have:fV (rT X.1.M G.list):=by
  generalize X.1.M=M;generalize G.list=L;unfold rT
  induction M generalizing L with
  |nil=>simp;infer_instance
  |cons m M ih=>
   cases L with
   |nil=>simp;infer_instance
   |cons x L=>
    rw[List.zipWith_cons_cons,om];exact fV.append (by unfold yD nf mO ny;infer_instance) (ih L)
 have hb:Zf (bB (rT X.1.M G.list)):=Zf.Bj this
 infer_instance
instance {g:Nat}{A:dS}:Zf (gA g A):=Zf.star fun _=>inferInstance
theorem zy {o:Og}{w:World}{l r:List It}{g:Nat}{G:Gr}{A:dS}(hG:vu G A)(hH:SH o w l)(hp:Pk l [iT g G] r:=by repeat(first|exact Pk.nil|(apply Pk.cons;repeat(first|exact aB.here|apply aB.there)))):SH o w (gA g A::r):=
 SH.fold (f:=fun G:{ G:Gr // vu G A}=>[iT g G.1]) ⟨G,hG⟩ hH hp
theorem Pa {o:Og}{w:World}{g:Nat}{G:Gr}(hs:Start o w [iT g G]):∃ow ol al cl cb cc bs,GM w g G ow ol al cl cb cc bs∧∀b,ow b≠none↔o.F b:=by
 obtain⟨rfl,⟨F1,F2,e,_,h1,h2⟩,_⟩:=hs;have e2:F2=fun _=>False:=h2
 subst e2;obtain⟨ow,ol,al,cl,cb,cc,bs,k1,k2⟩:=Lj h1;exact⟨ow,ol,al,cl,cb,cc,bs,k1,fun b=>(k2 b).trans (by rw[e];simp)⟩
theorem SH.Oq {o:Og}{w w':World}{g:Nat}{G H:Gr}{ow du:Nat→Option Lb}{ol:Option Nat}{al:Option Addr}{cl cb cc:Nat}{bs:List Nat}(hs:Start o w [iT g G])(hF:∀b,ow b≠none↔o.F b)(hM:dV ow w w')(hG:GM w' g H du ol al cl cb cc bs)(hn:∀b,du b≠none→ow b≠none∨w.heap.size≤b):SH o w' [iT g H]:=by
 obtain⟨rfl,_,h3,h4⟩:=hs;obtain⟨F,k1,k2⟩:=Yf hG o.Z;refine⟨o.Z,F,⟨hM.weaken fun b _ hb=>(hF b).1 hb,fun b hb=>?_,fun _ h=>h,fun _ h => .inl h⟩,⟨F,fun _=>False,by simp,fun _ _ h=>h,k1,rfl⟩,fun b hb hz=>?_,fun b hb=>j4 (h4 b hb) hM.size⟩
 ·rcases hn b (k2 b hb) with h|h
  ·exact .inl ((hF b).1 h)
  ·exact .inr h
 ·rcases hn b (k2 b hb) with h|h
  ·exact h3 b ((hF b).1 h) hz
  ·have:=h4 b hz;omega
theorem XU {o:Og}{w:World}{g:Nat}{A:dS}(hs:Start o w [fz (gA g A)]):∃G ow ol al cl cb cc bs,vu G A∧GM w g G ow ol al cl cb cc bs:=by
 obtain⟨rfl,⟨F1,F2,e,_,⟨⟨F',Z',_,_,⟨⟨G,hG⟩,F3,F4,e3,_,h1,_⟩⟩,_⟩,_⟩,_⟩:=hs;obtain⟨ow,ol,al,cl,cb,cc,bs,k1,_⟩:=Lj h1;exact⟨G,ow,ol,al,cl,cb,cc,bs,hG,k1⟩
theorem SH.V' {o:Og}{w w':World}{l:List It}{g:Nat}{G:Gr}{ow:Nat→Option Lb}{ol:Option Nat}{al:Option Addr}{cl cb cc:Nat}{bs:List Nat}(hH:SH o w l)(hE:Ext w w')(hG:GM w' g G ow ol al cl cb cc bs)(hn:∀b,ow b≠none→w.heap.size≤b):SH o w' (iT g G::l):=by
 obtain⟨F,k1,k2⟩:=Yf hG fun _=>False
 exact hH.add hE ⟨F,fun Z=>(inferInstance:Zf (iT g G)).out _ _ Z _ k1,fun b hb=>hn b (k2 b hb)⟩
theorem js.lF {G:Gr}(hi:js G):jJ G≤65536∧∀x∈G.list,x.down.length≤65536∧x.up.length≤65536:=by
 have qA:jJ G≤65536:=by have:=hi.zu;have:=hi.cp;omega
 refine⟨qA,fun x hx=>?_⟩;obtain⟨j,hj⟩:=ej hx;have pJ:=(aV.1 hj).1;have h1:=Hl (G:=G) (l:=[j]) (by simp) (by simpa using pJ);simp[M.lF,hj] at h1;have h2:=Cz (hi.lX x hx) (hi.nA j x hj);have h3:=hi.len;have h4:=hi.eM.mx;omega
def dS.new (n m:Nat):dS:=⟨n,m,0,fun _ _=>False⟩
theorem ab9 {o:Og}{w:World}(n m s:Nat)(hn:1≤n∧n≤65536)(hm:1≤m∧m≤65536)(dN:s<ed)(hs:Start o w []) :
  aj prog 42 [iV n,iV m,uV s].toArray w (aU o (fun g:Nat => .tuple #[ak g,iV 0]) (fun _=>True) (fun g=>[gA g (dS.new n m)])):=by
 refine(ab2 n m s w).mono ?_;rintro v w' ⟨h,hE⟩
 rcases h with⟨h,_⟩|⟨_,g,cb,rfl,h1,h2,h3⟩
 ·exact absurd ⟨by omega,by omega,by omega,by omega⟩ h
 ·rw[tG,tG] at h3;have hH:=hs.sh.V' hE h3 fun b hb=>by
   unfold uU at hb;split at hb
   ·omega
   ·split at hb
    ·omega
    ·exact absurd rfl hb
  refine⟨g,rfl,trivial,zy ⟨aa0 _ _ _ ah ah dN,rfl,rfl,?_,bh _⟩ hH⟩;funext u v;refine propext ⟨?_,fun h=>h.elim⟩;rintro⟨a,b,x,y,h,_⟩;simp[kr] at h
open Classical in
noncomputable def dS.py (A:dS)(p c:Bs):Int:=
 if(bI p&&bI c)=false then 2 else if A.E p c then 0 else if p=c∨xz A.E c p then 13
 else if A.cL<Ju A.E+(if xA A.E p then 0 else 1)+(if xA A.E c then 0 else 1)∨Jg A.E=A.dd then 7 else 0
open Classical in
noncomputable def dS.oB (A:dS)(p c:Bs):Bool:=decide ((bI p&&bI c)=true∧¬A.E p c∧A.py p c=0)
open Classical in
noncomputable def dS.add (A:dS)(p c:Bs):dS:={ A with K:=A.K+1,E:=if A.oB p c=true then fun u v=>A.E u v∨(u=p∧v=c) else A.E}
theorem tJ.abs {G H:Gr}{A:dS}{p c:Bs}{z:Bool}{e:Int}(h:tJ G H p c z e)(hA:vu G A)(hs:H.cT≤G.cT+1)(iB:∀x∈H.list,x.mark≤H.cT):z=A.oB p c∧e=A.py p c∧vu H (A.add p c):=by
 classical
 have hi:=h.inv hA.inv iB;have hg:=hA.inv;have lf:=hg.Wa p;have jS:=hg.Wa c;have bG:=hg.ahn;have hl:=hg.agC;have Ip:=hg.agk c p;have hK:H.cT≤A.K+1:=by have:=hA.K;omega
 rw[hA.E] at lf jS bG hl Ip;have uu:=hA.cL;have zU:=hA.dd;have same:∀(hS:dp G H),eV H=A.E:=fun hS=>by
  rw[←hA.E];funext u v;exact propext hS.sI
 cases h with
 |bad h1 h2=>
  subst h2;have e1:A.py p c=2:=by unfold dS.py;rw[if_pos h1]
  have e2:A.oB p c=false:=bt fun h=>by rw[h1] at h;exact absurd h.1 (by simp)
  exact⟨e2.symm,e1.symm,hA.inv,uu,zU,by show _=if A.oB p c=true then _ else _;rw[e2,if_neg (by simp)];exact hA.E,hK⟩
 |has h1 h2 h3 h4=>
  subst h4;rw[hA.E] at h3;have ok:(bI p&&bI c)=true:=by rw[h1,h2];rfl
  have e1:A.py p c=0:=by unfold dS.py;rw[if_neg (by rw[ok];simp),if_pos h3]
  have e2:A.oB p c=false:=bt fun h=>h.2.1 h3
  exact⟨e2.symm,e1.symm,hA.inv,uu,zU,by show _=if A.oB p c=true then _ else _;rw[e2,if_neg (by simp)];exact hA.E,hK⟩
 |He h1 h2 h3 h4 h5=>
  rw[hA.E] at h3;have ok:(bI p&&bI c)=true:=by rw[h1,h2];rfl
  have ua:p=c∨xz A.E c p:=h4.imp id Ip.1;have e1:A.py p c=13:=by unfold dS.py;rw[if_neg (by rw[ok];simp),if_neg h3,if_pos ua]
  have e2:A.oB p c=false:=bt fun h=>by rw[e1] at h;exact absurd h.2.2 (by decide)
  exact⟨e2.symm,e1.symm,hi,h5.cL.trans uu,h5.dd.trans zU,by show _=if A.oB p c=true then _ else _;rw[e2,if_neg (by simp)];exact same h5,hK⟩
 |full h1 h2 h3 h4 h5 h6 h7=>
  rw[hA.E] at h3;have ok:(bI p&&bI c)=true:=by rw[h1,h2];rfl
  have ua:¬(p=c∨xz A.E c p):=fun h=>h.elim h4 fun h=>h5 (Ip.2 h)
  rw[lf,jS,←bG,←hl,uu,zU] at h6;have e1:A.py p c=7:=by unfold dS.py;rw[if_neg (by rw[ok];simp),if_neg h3,if_neg ua,if_pos h6]
  have e2:A.oB p c=false:=bt fun h=>by rw[e1] at h;exact absurd h.2.2 (by decide)
  exact⟨e2.symm,e1.symm,hi,h7.cL.trans uu,h7.dd.trans zU,by show _=if A.oB p c=true then _ else _;rw[e2,if_neg (by simp)];exact same h7,hK⟩
 |new h1 h2 h3 h4 h5 h6 h7 h8=>
  have SC:=fun u v=>h8.sI hA.inv (u:=u) (v:=v)
  rw[hA.E] at h3 SC;have ok:(bI p&&bI c)=true:=by rw[h1,h2];rfl
  have ua:¬(p=c∨xz A.E c p):=fun h=>h.elim h4 fun h=>h5 (Ip.2 h)
  rw[lf,jS,←bG,uu] at h6;rw[←hl,zU] at h7;have e1:A.py p c=0:=by unfold dS.py;rw[if_neg (by rw[ok];simp),if_neg h3,if_neg ua,if_neg ah]
  have e2:A.oB p c=true:=bQ ⟨ok,h3,e1⟩;exact⟨e2.symm,e1.symm,hi,h8.cL.trans uu,h8.dd.trans zU,by show _=if A.oB p c=true then _ else _;rw[e2,if_pos rfl];funext u v;exact propext (SC u v),hK⟩
theorem Lk {o:Og}{w:World}{g:Nat}{A:dS}(p c:Bs)(hK:A.K<2^40)(hs:Start o w [gA g A]) :
  aj prog 101 [ak g,str p,str c].toArray w (Po o (.tuple #[.bool (A.oB p c),iV (A.py p c)]) [gA g (A.add p c)]):=by
 obtain⟨⟨G,hA⟩,hs⟩:=Start.un hs;replace hs:Start o w [iT g G]:=hs;obtain⟨ow,ol,al,cl,cb,cc,bs,hG,hF⟩:=Pa hs;refine(Y' hG hA.inv (by have:=hA.K;omega) p c).mono ?_;rintro v w' ⟨⟨z,e,H,rfl,hAdd,B8,iB,⟨du,jg,oC,qe,sF,KQ,Dm,vM,uE⟩⟩,hM⟩;obtain⟨rfl,rfl,hH⟩:=hAdd.abs hA B8 iB;exact⟨rfl,zy hH (SH.Oq hs hF hM vM uE.new)⟩
theorem Ll {o:Og}{w:World}{g:Nat}{A:dS}(hs:Start o w [fz (gA g A)]) :
  aj prog 69 [ak g].toArray w (aU o ak (fun _=>True) (fun c=>[gA c A])):=by
 obtain⟨G,ow,ol,al,cl,cb,cc,bs,hA,hG⟩:=XU hs;have hi:=hA.inv;have fK:=hi.eM.mx;have kZ:=hi.len;have BF:=hi.cells;obtain⟨_,hd⟩:=hi.lF;refine(abW hG ah ah ⟨by have:=BF.1;omega,by have:=BF.2;omega⟩ fun x hx=>by have:=hd x hx;omega).mono ?_;rintro v w' ⟨⟨c,du,jg,oC,qe,sF,KQ,Dm,rfl,vM,nT⟩,hE⟩;exact⟨c,rfl,trivial,(zy hA (hs.sh.V' hE vM nT)).to⟩
theorem ahe {o:Og}{w w':World}{l:List It}{el:TypeId}{sz n c:Nat}{a:Option Addr}{cs:List Value}(hH:SH o w l)(hE:Ext w w')(h:ij w w' el sz a n c cs):∃q,a=ay q∧SH o w' (ao el sz q n c cs::l):=by
 obtain⟨ob,h1,h2,h3⟩:=h;have e:=wO h1 fun h0=>by
  cases ha:a with
  |none=>rfl
  |some x=>have:=h3 x ha;rw[h0] at this;cases this
 subst e;exact⟨ob,rfl,hH.cE hE (fun b hb=>h2 b hb) h1⟩
theorem ab8 {o:Og}{w:World}{g:Nat}{A:dS}(k:Bs)(hk:k.length<2^40)(hs:Start o w [fz (gA g A)]) :
  aj prog 244 [ak g,str k].toArray w (aU o (mN (kH A.E k).length) (fun _=>True) (mM 9 1 (kH A.E k).length (aM (kH A.E k)))):=by
 obtain⟨G,ow,ol,al,cl,cb,cc,bs,hA,hG⟩:=XU hs;obtain⟨_,hd⟩:=hA.inv.lF;have Il:=hA.inv.ae8 k;rw[hA.E] at Il;rw[Il];refine(Qx hG hA.inv.eM k hk fun x hx=>(hd x hx).1).mono ?_;rintro v w' ⟨⟨a,c,rfl,hN⟩,hE⟩;obtain⟨q,rfl,hH⟩:=ahe hs.sh hE hN;exact⟨(q,c),rfl,trivial,hH.to⟩
theorem acb {o:Og}{w:World}{g:Nat}{A:dS}(p c:Bs)(aI:Nat)(hm:aI≤65536)(hK:A.K<2^40)(hs:Start o w [gA g A]) :
  aj prog 168 [ak g,str p,str c,iV aI].toArray w (aU o (fun y:Bool×Value×Int => .tuple #[.bool y.1,y.2.1,iV y.2.2]) (fun y=>y.2.2≠1) (fun _=>[gA g { A with K:=A.K+1}])):=by
 obtain⟨⟨G,hA⟩,hs⟩:=Start.un hs;replace hs:Start o w [iT g G]:=hs;obtain⟨ow,ol,al,cl,cb,cc,bs,hG,hF⟩:=Pa hs;obtain⟨he,hd⟩:=hA.inv.lF;have hAK:=hA.K;refine(WW hG hA.inv.eM (fun x hx=>(hd x hx).1) he ah hA.inv.marks p c aI hm).mono ?_;rintro v w' ⟨⟨z,n,e,H,rfl,SB,_,hS,B8,iB,vM⟩,hM⟩;have hH:vu H { A with K:=A.K+1}:=⟨hS.inv hA.inv iB,hS.cL.trans hA.cL,hS.dd.trans hA.dd,by
  show _=A.E;rw[←hA.E];funext u v;exact propext hS.sI,by show _≤A.K+1;omega⟩
 exact⟨(z,n,e),rfl,SB,zy hH (SH.Oq hs hF hM vM fun b hb => .inl hb)⟩
end
section
def ep (x:Nd):Bool:=decide (0<x.down.length+x.up.length)
def cA (L:List Nd)(j:Nat):Nat:=((L.take j).filter ep).length
def kJ (t:Nat→Nat)(x:Nd):Nd:={ x with down:=x.down.map t,up:=x.up.map t}
def fQ (L:List Nd):List Nd:=(L.filter ep).map (kJ (cA L))
theorem aiu {L:List Nd}{j:Nat}{x:Nd}(hx:L[j]?=some x):cA L (j+1)=cA L j+if ep x then 1 else 0:=by
 unfold cA;rw[ic,hx,y5,bJ];congr 1;cases h:ep x<;>simp[oo,h]
theorem ait {L:List Nd}{a b:Nat}(h:a≤b):cA L a≤cA L b:=by
 unfold cA;exact((List.take_prefix_take_left h).sublist.filter _).length_le
theorem WR {L:List Nd}{a b:Nat}{x:Nd}(hx:L[a]?=some x)(hk:ep x=true)(h:a<b):cA L a<cA L b:=by
 have h1:=aiu hx;rw[hk,if_pos rfl] at h1;have h2:=ait (L:=L) (a:=a+1) (b:=b) h;omega
theorem JK {L:List Nd}{a b:Nat}{x y:Nd}(hx:L[a]?=some x)(hy:L[b]?=some y)(h1:ep x=true)(h2:ep y=true)(h:cA L a=cA L b):a=b:=by
 rcases Nat.lt_trichotomy a b with k|k|k
 ·have:=WR hx h1 k;omega
 ·exact k
 ·have:=WR hy h2 k;omega
theorem Ri:∀{L:List Nd}{j:Nat}{x:Nd},L[j]?=some x→ep x=true→(L.filter ep)[cA L j]?=some x
 | [],_,_,h,_=>by simp at h
 |y::L,0,x,h,hk=>by
  simp at h;subst h;simp[cA,oo,hk]
 |y::L,j+1,x,h,hk=>by
  have ih:=Ri (L:=L) (j:=j) (by simpa using h) hk;have e:cA (y::L) (j+1)=(if ep y then 1 else 0)+cA L j:=by
   unfold cA;rw[List.take_succ_cons,oo];split<;>simp[Nat.add_comm]
  rw[e,oo];split
  ·rw[Nat.add_comm,List.getElem?_cons_succ];exact ih
  ·rw[dA];exact ih
theorem K8:∀{L:List Nd}{r:Nat}{x:Nd},(L.filter ep)[r]?=some x→∃j:Nat,L[j]?=some x∧ep x=true∧cA L j=r
 | [],_,_,h=>by simp at h
 |y::L,r,x,h=>by
  rw[oo] at h;have e:∀j,cA (y::L) (j+1)=(if ep y then 1 else 0)+cA L j:=fun j=>by
   unfold cA;rw[List.take_succ_cons,oo];split<;>simp[Nat.add_comm]
  split at h
  ·rename_i hk
   cases r with
   |zero=>simp at h;subst h;exact⟨0,rfl,hk,by simp[cA]⟩
   |succ r=>
    obtain⟨j,h1,h2,h3⟩:=K8 (L:=L) (r:=r) (by simpa using h);exact⟨j+1,by simpa using h1,h2,by rw[e,hk,if_pos rfl,h3];omega⟩
  ·rename_i hk
   obtain⟨j,h1,h2,h3⟩:=K8 (L:=L) h;exact⟨j+1,by simpa using h1,h2,by rw[e,if_neg hk,h3];omega⟩
section
variable {L:List Nd}(hi:j8 L)
include hi
theorem j8.yw {a:Nat}{x:Nd}(hx:L[a]?=some x){b:Nat}(hb:b∈x.down):∃y:Nd,L[b]?=some y∧ep y=true:=by
 have fq:=hi.down a x hx b hb;refine⟨_,bO fq,bQ ?_⟩;have:=(hi.oW a b x _ hx (bO fq)).1 hb;have:=vl this;omega
theorem j8.Ff {b:Nat}{y:Nd}(hy:L[b]?=some y){a:Nat}(ha:a∈y.up):∃x:Nd,L[a]?=some x∧ep x=true:=by
 have b6:=hi.nA b y hy a ha;refine⟨_,bO b6,bQ ?_⟩;have:=(hi.oW a b _ y (bO b6) hy).2 ha;have:=vl this;omega
omit hi in
theorem wP {r:Nat}{z:Nd}(h:(fQ L)[r]?=some z):∃(j:Nat) (x:Nd),L[j]?=some x∧ep x=true∧cA L j=r∧z=kJ (cA L) x:=by
 unfold fQ at h;rw[gb] at h;obtain⟨x,h1,h2⟩:=vp.1 h;obtain⟨j,k1,k2,k3⟩:=K8 h1;exact⟨j,x,k1,k2,k3,h2.symm⟩
omit hi in
theorem JC {j:Nat}{x:Nd}(hx:L[j]?=some x)(hk:ep x=true):(fQ L)[cA L j]?=some (kJ (cA L) x):=by
 unfold fQ;rw[gb,Ri hx hk];rfl
theorem j8.OG {a b:Nat}{x y:Nd}(hx:L[a]?=some x)(hy:L[b]?=some y)(hk:ep y=true):cA L b∈x.down.map (cA L)↔b∈x.down:=by
 constructor
 ·intro h;obtain⟨c,hc,e⟩:=bK.1 h;obtain⟨z,hz,yr⟩:=hi.yw hx hc;rw[JK hy hz hk yr e.symm];exact hc
 ·exact fun h=>bK.2 ⟨b,h,rfl⟩
theorem j8.ah1 {a b:Nat}{x y:Nd}(hx:L[a]?=some x)(hy:L[b]?=some y)(hk:ep x=true):cA L a∈y.up.map (cA L)↔a∈y.up:=by
 constructor
 ·intro h;obtain⟨c,hc,e⟩:=bK.1 h;obtain⟨z,hz,yr⟩:=hi.Ff hy hc;rw[JK hx hz hk yr e.symm];exact hc
 ·exact fun h=>bK.2 ⟨a,h,rfl⟩
theorem j8.pack:j8 (fQ L):=by
 refine⟨fun r z hz b hb=>?_,fun r z hz b hb=>?_,fun r s z v hz hv=>?_,fun z hz=>?_,fun z hz=>?_,fun z hz=>?_⟩
 ·obtain⟨j,x,h1,h2,_,rfl⟩:=wP hz;obtain⟨c,hc,rfl⟩:=bK.1 (show b∈x.down.map (cA L) from hb);obtain⟨y,hy,hk⟩:=hi.yw h1 hc;exact(aV.1 (JC hy hk)).1
 ·obtain⟨j,x,h1,h2,_,rfl⟩:=wP hz;obtain⟨c,hc,rfl⟩:=bK.1 (show b∈x.up.map (cA L) from hb);obtain⟨y,hy,hk⟩:=hi.Ff h1 hc;exact(aV.1 (JC hy hk)).1
 ·obtain⟨a,x,h1,h2,rfl,rfl⟩:=wP hz;obtain⟨b,y,k1,k2,rfl,rfl⟩:=wP hv;show cA L b∈x.down.map (cA L)↔cA L a∈y.up.map (cA L);rw[hi.OG h1 k1 k2,hi.ah1 h1 k1 h2];exact hi.oW a b x y h1 k1
 ·obtain⟨r,hr⟩:=ej hz;obtain⟨j,x,h1,h2,_,rfl⟩:=wP hr;show(x.down.map (cA L)).Nodup;rw[pj,rl];refine List.Pairwise.imp_of_mem (fun {a b} ha hb eR e=>?_) (pj.1 (hi.nM x (bF h1)));obtain⟨y,hy,hk⟩:=hi.yw h1 ha;obtain⟨z,hz,kC⟩:=hi.yw h1 hb;exact eR (JK hy hz hk kC e)
 ·obtain⟨r,hr⟩:=ej hz;obtain⟨j,x,h1,h2,_,rfl⟩:=wP hr;show(x.up.map (cA L)).Nodup;rw[pj,rl];refine List.Pairwise.imp_of_mem (fun {a b} ha hb eR e=>?_) (pj.1 (hi.lX x (bF h1)));obtain⟨y,hy,hk⟩:=hi.Ff h1 ha;obtain⟨z,hz,kC⟩:=hi.Ff h1 hb;exact eR (JK hy hz hk kC e)
 ·obtain⟨r,hr⟩:=ej hz;obtain⟨j,x,h1,_,_,rfl⟩:=wP hr;exact hi.keys x (bF h1)
theorem j8.ah0 {G H:Gr}(hG:G.list=L)(hH:H.list=fQ L){u v:Bs}:eV H u v↔eV G u v:=by
 constructor
 ·rintro⟨r,s,z,y',h1,h2,h3,h4,h5⟩;rw[hH] at h1 h4;obtain⟨a,x,k1,k2,rfl,rfl⟩:=wP h1;obtain⟨b,y,m1,m2,rfl,rfl⟩:=wP h4;exact⟨a,b,x,y,by rw[hG];exact k1,h2,(hi.OG k1 m1 m2).1 h3,by rw[hG];exact m1,h5⟩
 ·rintro⟨a,b,x,y,h1,h2,h3,h4,h5⟩;rw[hG] at h1 h4;have kx:ep x=true:=bQ (by have:=vl h3;omega);obtain⟨y',pQ,ky⟩:=hi.yw h1 h3;rw[h4] at pQ;cases pQ;exact⟨cA L a,cA L b,kJ (cA L) x,kJ (cA L) y,by rw[hH];exact JC h1 kx,h2,(hi.OG h1 h4 ky).2 h3,by rw[hH];exact JC h4 ky,h5⟩
omit hi in
theorem abB (M:List Nd):((M.filter ep).map (·.down.length)).sum=(M.map (·.down.length)).sum:=by
 induction M with
 |nil=>rfl
 |cons x M ih=>
  rw[oo];split
  ·simp only[cK,List.sum_cons,ih]
  ·rename_i h
   have:¬0<x.down.length+x.up.length:=fun h'=>h (bQ h')
   simp only[cK,List.sum_cons,ih];omega
omit hi in
theorem ah2:((fQ L).map (·.down.length)).sum=(L.map (·.down.length)).sum:=by
 unfold fQ;rw[nB];have e:((fun x:Nd=>x.down.length) ∘ kJ (cA L))=fun x:Nd=>x.down.length:=by funext x;simp[kJ]
 rw[e];exact abB L
omit hi in
theorem ah7:∀z∈fQ L,z.down≠[]∨z.up≠[]:=by
 intro z hz;unfold fQ at hz;obtain⟨x,hx,rfl⟩:=bK.1 hz;have:=eN (ib.1 hx).2
 by_cases h:x.down=[]
 ·right;intro h2;have h3:x.up=[]:=List.map_eq_nil_iff.1 h2;rw[h,h3] at this;simp at this
 ·left;intro h2;exact h (List.map_eq_nil_iff.1 h2)
omit hi in
theorem ah4:((fQ L).map (·.key)).Sublist (L.map (·.key)):=by
 unfold fQ;rw[nB];exact(List.filter_sublist (p:=ep) (l:=L)).map _
end
def gR (L:List Nd)(a b:Nat)(xa xb:Nd):List Nd:=(L.set a { xa with down:=xa.down.filter (·≠b)}).set b { xb with up:=xb.up.filter (·≠a)}
theorem Ke {L:List Nd}{a b:Nat}{xa xb:Nd}(ha:L[a]?=some xa)(hb:(L.set a { xa with down:=xa.down.filter (·≠b)})[b]?=some xb):∀(j:Nat) (z:Nd),L[j]?=some z→(gR L a b xa xb)[j]?=some { z with down:=if j=a then z.down.filter (·≠b) else z.down,up:=if j=b then z.up.filter (·≠a) else z.up}:=by
 intro j z hz;have pJ:=(aV.1 hz).1;unfold gR
 by_cases h1:j=b
 ·subst h1;rw[dJ (by simpa using pJ),if_pos rfl]
  by_cases h2:j=a
  ·subst h2;rw[ha] at hz;cases hz;rw[dJ pJ] at hb;cases hb;simp
  ·rw[dH (Ne.symm h2),hz] at hb;cases hb;simp[h2]
 ·rw[dH (Ne.symm h1),if_neg h1]
  by_cases h2:j=a
  ·subst h2;rw[ha] at hz;cases hz;rw[dJ pJ];simp
  ·rw[dH (Ne.symm h2),hz];simp[h2]
theorem vg {L:List Nd}{a b:Nat}{xa xb:Nd}(ha:L[a]?=some xa)(hb:(L.set a { xa with down:=xa.down.filter (·≠b)})[b]?=some xb){j:Nat}{y:Nd}(h:(gR L a b xa xb)[j]?=some y):∃z:Nd,L[j]?=some z∧y={ z with down:=if j=a then z.down.filter (·≠b) else z.down,up:=if j=b then z.up.filter (·≠a) else z.up}:=by
 have pJ:j<L.length:=by have:=(aV.1 h).1;simpa[gR] using this
 have hz:L[j]?=some L[j]:=bO pJ;rw[Ke ha hb j _ hz] at h;cases h;exact⟨_,hz,rfl⟩
section
variable {L:List Nd}(hi:j8 L){a b:Nat}{xa xb:Nd}(ha:L[a]?=some xa)(hb:(L.set a { xa with down:=xa.down.filter (·≠b)})[b]?=some xb)
include hi ha hb
theorem j8.gR:j8 (gR L a b xa xb):=by
 have hlen:(M.gR L a b xa xb).length=L.length:=by simp[M.gR]
 refine⟨fun j y hy c hc=>?_,fun j y hy c hc=>?_,fun j k y v hy hv=>?_,fun y hy=>?_,fun y hy=>?_,fun y hy=>?_⟩
 ·obtain⟨z,hz,rfl⟩:=vg ha hb hy;rw[hlen];simp only at hc;split at hc
  ·exact hi.down j z hz c ((ib.1 hc).1)
  ·exact hi.down j z hz c hc
 ·obtain⟨z,hz,rfl⟩:=vg ha hb hy;rw[hlen];simp only at hc;split at hc
  ·exact hi.nA j z hz c ((ib.1 hc).1)
  ·exact hi.nA j z hz c hc
 ·obtain⟨z,hz,rfl⟩:=vg ha hb hy;obtain⟨u,hu,rfl⟩:=vg ha hb hv;have hm:=hi.oW j k z u hz hu;simp only
  by_cases h1:j=a<;>by_cases h2:k=b
  ·subst h1 h2;simp[hm]
  ·subst h1;simp[h2,hm]
  ·subst h2;simp[h1,hm]
  ·simp[h1,h2,hm]
 ·obtain⟨j,hj⟩:=ej hy;obtain⟨z,hz,rfl⟩:=vg ha hb hj;have:=hi.nM z (bF hz);simp only;split
  ·exact this.filter _
  ·exact this
 ·obtain⟨j,hj⟩:=ej hy;obtain⟨z,hz,rfl⟩:=vg ha hb hj;have:=hi.lX z (bF hz);simp only;split
  ·exact this.filter _
  ·exact this
 ·obtain⟨j,hj⟩:=ej hy;obtain⟨z,hz,rfl⟩:=vg ha hb hj;exact hi.keys z (bF hz)
omit hi in
theorem al7:(gR L a b xa xb).map (·.key)=L.map (·.key):=by
 apply pb;intro j;rw[gb,gb];cases hj:L[j]? with
 |none=>
  have h1:L.length≤j:=List.getElem?_eq_none_iff.1 hj;rw[sy (by simp[gR];exact h1)]
 |some z=>
  rw[Ke ha hb j z hj];rfl
omit hi in
theorem al1 {G H:Gr}(hG:G.list=L)(hH:H.list=gR L a b xa xb)(aX:gS G){yb:Nd}(eG:L[b]?=some yb){u v:Bs}:eV H u v↔eV G u v∧¬(u=xa.key∧v=yb.key):=by
 constructor
 ·rintro⟨i,j,x,y,h1,rfl,h3,h4,rfl⟩;rw[hH] at h1 h4;obtain⟨x',q1,rfl⟩:=vg ha hb h1;obtain⟨y',r1,rfl⟩:=vg ha hb h4;simp only at h3 ⊢;refine⟨⟨i,j,x',y',by rw[hG];exact q1,rfl,?_,by rw[hG];exact r1,rfl⟩,fun⟨e1,e2⟩=>?_⟩
  ·split at h3
   ·exact(ib.1 h3).1
   ·exact h3
  ·have Mt:=key_inj aX (a:=i) (b:=a) (by rw[hG];exact q1) (by rw[hG];exact ha) e1;have Mx:=key_inj aX (a:=j) (b:=b) (by rw[hG];exact r1) (by rw[hG];exact eG) e2;rw[if_pos Mt] at h3;have:=(ib.1 h3).2;simp[Mx] at this
 ·rintro⟨⟨i,j,x,y,h1,rfl,h3,h4,rfl⟩,hn⟩;rw[hG] at h1 h4;refine⟨i,j,{ x with down:=if i=a then x.down.filter (·≠b) else x.down,up:=if i=b then x.up.filter (·≠a) else x.up},{ y with down:=if j=a then y.down.filter (·≠b) else y.down,up:=if j=b then y.up.filter (·≠a) else y.up},by rw[hH];exact Ke ha hb i x h1,rfl,?_,by rw[hH];exact Ke ha hb j y h4,rfl⟩;simp only;split
  ·rename_i Mt
   refine ib.2 ⟨h3,?_⟩;simp only[ne_eq,decide_not,Bool.not_eq_true',decide_eq_false_iff_not];intro Mx;subst Mt Mx;rw[ha] at h1;cases h1;rw[eG] at h4;cases h4;exact hn ⟨rfl,rfl⟩
  ·exact h3
end
theorem abD {l:List Nat}(hn:l.Nodup){x:Nat}(hx:x∈l):(l.filter (·≠x)).length+1=l.length:=by
 induction l with
 |nil=>cases hx
 |cons y l ih=>
  rw[eI] at hn
  rcases bY.1 hx with rfl|hx
  ·rw[List.filter_cons_of_neg (by simp),p8.2 fun z hz=>by simp;rintro rfl;exact hn.1 hz];rfl
  ·rw[List.filter_cons_of_pos (by simp;rintro rfl;exact hn.1 hx),dR,ih hn.2 hx];rfl
theorem al3 {L:List Nd}{a b:Nat}{xa xb:Nd}(ha:L[a]?=some xa)(hb:(L.set a { xa with down:=xa.down.filter (·≠b)})[b]?=some xb)(hn:xa.down.Nodup)(hm:b∈xa.down):((gR L a b xa xb).map (·.down.length)).sum+1=(L.map (·.down.length)).sum:=by
 unfold gR;have h1:=Ka (fun x:Nd=>x.down.length) hb (y:={ xb with up:=xb.up.filter (·≠a)});have h2:=Ka (fun x:Nd=>x.down.length) ha (y:={ xa with down:=xa.down.filter (·≠b)});have h3:=abD hn hm;simp only at h1 h2;omega
end
end Go.Proofs.YtmlpbmgfmnmmmaaGreat.V.M
