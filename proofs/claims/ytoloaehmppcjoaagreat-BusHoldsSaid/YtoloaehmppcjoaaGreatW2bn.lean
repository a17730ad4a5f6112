/-
  Parts of the proof. No condition.
-/
import Derived.Test.YtoloaehmppcjoaaGreatW2bm
set_option linter.unusedVariables false
set_option linter.unusedSimpArgs false
set_option maxRecDepth 8000
set_option maxHeartbeats 8000000
open Go.Proofs.Tryz
namespace Go.Proofs.YtoloaehmppcjoaaGreat.V.M
section
attribute [local irreducible] GO GX
structure dX where
 cM:Nat
 dg:Nat
 K:Nat
 E:Bs→Bs→Prop
inductive xF (E:Bs→Bs→Prop) (p:Bs):Bs→Prop
 |one {c:Bs}:E p c→xF E p c
 |more {d c:Bs}:xF E p d→E d c→xF E p c
def xG (E:Bs→Bs→Prop)(k:Bs):Prop:=(∃c,E k c)∨∃p,E p k
open Classical in
noncomputable def JE (E:Bs→Bs→Prop):Nat:=if h:∃L:List Bs,L.Nodup∧∀k,k∈L↔xG E k then(Classical.choose h).length else 0
open Classical in
noncomputable def Jq (E:Bs→Bs→Prop):Nat:=if h:∃L:List (Bs×Bs),L.Nodup∧∀x,x∈L↔E x.1 x.2 then(Classical.choose h).length else 0
open Classical in
noncomputable def ie (E:Bs→Bs→Prop)(k:Bs):List Bs:=if h:∃L:List Bs,oQ L∧L.Nodup∧∀c,c∈L↔E k c then Classical.choose h else[]
theorem VC {α:Type}[BEq α][LawfulBEq α]{L M:List α}(h1:L.Nodup)(h2:M.Nodup)(h:∀x,x∈L↔x∈M):L.length=M.length:=
 Nat.le_antisymm (xz h1 fun x hx=>(h x).1 hx) (xz h2 fun x hx=>(h x).2 hx)
theorem ahj {E:Bs→Bs→Prop}{L:List Bs}(h1:L.Nodup)(h2:∀k,k∈L↔xG E k):JE E=L.length:=by
 have h:∃L:List Bs,L.Nodup∧∀k,k∈L↔xG E k:=⟨L,h1,h2⟩
 unfold JE;rw[dif_pos h];obtain⟨k1,k2⟩:=Classical.choose_spec h;exact VC k1 h1 fun k=>(k2 k).trans (h2 k).symm
theorem agz {E:Bs→Bs→Prop}{L:List (Bs×Bs)}(h1:L.Nodup)(h2:∀x,x∈L↔E x.1 x.2):Jq E=L.length:=by
 have h:∃L:List (Bs×Bs),L.Nodup∧∀x,x∈L↔E x.1 x.2:=⟨L,h1,h2⟩
 unfold Jq;rw[dif_pos h];obtain⟨k1,k2⟩:=Classical.choose_spec h;exact VC k1 h1 fun k=>(k2 k).trans (h2 k).symm
theorem Uu {E:Bs→Bs→Prop}{k:Bs}{L:List Bs}(h1:oQ L)(h2:L.Nodup)(h3:∀c,c∈L↔E k c):ie E k=L:=by
 have h:∃L:List Bs,oQ L∧L.Nodup∧∀c,c∈L↔E k c:=⟨L,h1,h2,h3⟩
 unfold ie;rw[dif_pos h];obtain⟨k1,k2,k3⟩:=Classical.choose_spec h;have hp:(Classical.choose h).Perm L:=(List.perm_ext_iff_of_nodup k2 h2).2 fun c=>(k3 c).trans (h3 c).symm
 exact hp.eq_of_pairwise (fun a b _ _ h1 h2=>List.le_antisymm h1 h2) k1 h1
theorem DB {G:Gr}{a b:Nat}{x y:Nd}(h1:G.list[a]?=some x)(h2:b∈x.down)(h3:G.list[b]?=some y):fm G x.key y.key:=⟨a,b,x,y,h1,rfl,h2,h3,rfl⟩
theorem P8 {G:Gr}{k:Bs}(h:k∈G.list.map (·.key)):∃(n:Nat) (x:Nd),G.list[n]?=some x∧x.key=k:=by
 obtain⟨x,hx,hk⟩:=bG.1 h;obtain⟨n,hn⟩:=ey hx;exact⟨n,x,hn,hk⟩
section
variable {G:Gr}(hi:jM G)
include hi
theorem jM.JD (k:Bs):k∈G.list.map (·.key)↔xG (fm G) k:=by
 constructor
 ·intro h;obtain⟨n,x,hx,rfl⟩:=P8 h
  rcases hi.used x (bD hx) with hu|hu
  ·obtain⟨b,hb⟩:=List.exists_mem_of_ne_nil _ hu;have:=hi.eZ.down n x hx b hb;exact .inl ⟨_,DB hx hb (bO this)⟩
  ·obtain⟨a,ha⟩:=List.exists_mem_of_ne_nil _ hu;have cj:=hi.nJ n x hx a ha;have h2:=(hi.pj a n _ x (bO cj) hx).2 ha;exact .inr ⟨_,DB (bO cj) h2 hx⟩
 ·rintro(⟨c,a,b,x,y,h1,h2,_⟩|⟨p,a,b,x,y,_,_,_,h1,h2⟩)
  ·exact bG.2 ⟨x,bD h1,h2⟩
  ·exact bG.2 ⟨y,bD h1,h2⟩
theorem jM.ahk:JE (fm G)=G.list.length:=by
 rw[ahj hi.eZ.ok.nodup hi.JD,fH]
theorem jM.Hk {n:Nat}{x:Nd}(hx:G.list[n]?=some x):(x.down.map (keyOf G.list)).Nodup∧∀c,c∈x.down.map (keyOf G.list)↔fm G x.key c:=by
 have Ez:∀b∈x.down,∃y,G.list[b]?=some y∧keyOf G.list b=y.key:=fun b hb=>by
  have:=hi.eZ.down n x hx b hb;exact⟨_,bO this,by unfold keyOf;rw[bO this];rfl⟩
 constructor
 ·rw[pM,rD];refine List.Pairwise.imp_of_mem (fun {a b} ha hb fg e=>?_) (pM.1 (hi.nT x (bD hx)));obtain⟨y,h1,h2⟩:=Ez a ha;obtain⟨z,h3,h4⟩:=Ez b hb;exact fg (key_inj hi.eZ.ok h1 h3 (by rw[←h2,←h4,e]))
 ·intro c;constructor
  ·intro h;obtain⟨b,hb,rfl⟩:=bG.1 h;obtain⟨y,h1,h2⟩:=Ez b hb;rw[h2];exact DB hx hb h1
  ·rintro⟨a,b,x',y,h1,h2,h3,h4,h5⟩;obtain rfl:=key_inj hi.eZ.ok h1 hx h2;rw[hx] at h1;cases h1;refine bG.2 ⟨b,h3,?_⟩;unfold keyOf;rw[h4];exact h5
theorem jM.agA:Jq (fm G)=G.cp:=by
 have key:∀L:List Nd,(L.flatMap fun x=>(x.down.map (keyOf G.list)).map fun c=>(x.key,c)).length=(L.map (·.down.length)).sum:=fun L=>by
  induction L with
  |nil=>rfl
  |cons x L ih=>rw[List.flatMap_cons,bH,ih];simp
 rw[←hi.zt,vL,←key];refine agz ?_ fun x=>?_
 ·rw[pM,List.pairwise_flatMap];refine⟨fun x hx=>?_,?_⟩
  ·obtain⟨n,hn⟩:=ey hx;rw[rD];exact(pM.1 (hi.Hk hn).1).imp fun h e=>h (by simpa using congrArg Prod.snd e)
  ·have h1:=hi.eZ.ok.nodup;rw[pM,rD] at h1;refine h1.imp fun {a b} h u hu v hv e=>h ?_
   obtain⟨_,_,rfl⟩:=bG.1 hu;obtain⟨_,_,rfl⟩:=bG.1 hv;exact congrArg Prod.fst e
 ·obtain⟨u,v⟩:=x;simp only[List.mem_flatMap];constructor
  ·rintro⟨x,hx,h⟩;obtain⟨c,hc,e⟩:=bG.1 h;cases e;obtain⟨n,hn⟩:=ey hx;exact((hi.Hk hn).2 v).1 hc
  ·intro h;obtain⟨a,b,x,y,h1,rfl,h3,h4,h5⟩:=id h;exact⟨x,bD h1,bG.2 ⟨v,((hi.Hk h1).2 v).2 h,rfl⟩⟩
theorem jM.afg (k:Bs):ie (fm G) k=gR G k:=by
 by_cases hk:k∈G.list.map (·.key)
 ·obtain⟨n,x,hx,rfl⟩:=P8 hk;rw[Ch hi.eZ.ok hx rfl];obtain⟨h1,h2⟩:=hi.Hk hx;exact Uu (CR _) ((lJ _).nodup_iff.2 h1) fun c=>(lJ _).mem_iff.trans (h2 c)
 ·rw[Ji hk];refine Uu (by simp[oQ]) lP fun c=>⟨fun h=>(by cases h),fun h=>?_⟩
  exact absurd ((hi.JD k).2 (.inl ⟨c,h⟩)) hk
theorem jM.Wc (k:Bs)[Decidable (xG (fm G) k)]:dO G k=if xG (fm G) k then 0 else 1:=by
 unfold dO
 by_cases h:k∈G.list.map (·.key)
 ·rw[if_pos h,if_pos ((hi.JD k).1 h)]
 ·rw[if_neg h,if_neg (fun h'=>h ((hi.JD k).2 h'))]
theorem jM.agn (p c:Bs):Ba G p c↔xF (fm G) p c:=by
 constructor
 ·rintro⟨a,b,d,x,y,h1,rfl,h2,h3,h4,rfl⟩;obtain⟨z,hz,hd⟩:=h3
  induction h2 generalizing d y z with
  |refl=>rw[h1] at hz;cases hz;exact .one (DB h1 hd h4)
  |step h2 h5 ih=>
   obtain⟨u,hu,hb⟩:=id h5;exact .more (ih _ z hz u hu hb) (DB hz hd h4)
 ·intro h
  induction h with
  |one h=>
   obtain⟨a,b,x,y,h1,h2,h3,h4,h5⟩:=h;exact⟨a,a,b,x,y,h1,h2, .refl,⟨x,h1,h3⟩,h4,h5⟩
  |more _ h ih=>
   obtain⟨a,b,d,x,y,h1,h2,h3,h4,h5,h6⟩:=ih;obtain⟨a',b',x',y',k1,k2,k3,k4,k5⟩:=h;obtain rfl:=key_inj hi.eZ.ok k1 h5 (k2.trans h6.symm);exact⟨a,a',b',x,y',h1,h2, .step h3 h4,⟨x',k1,k3⟩,k4,k5⟩
end
end
section
attribute [local irreducible] GO GX
structure vE (G:Gr)(A:dX):Prop where
 inv:jM G
 cM:G.cM=A.cM
 dg:G.dg=A.dg
 E:fm G=A.E
 K:G.cW≤A.K
def gL (g:Nat)(A:dX):It:=star fun G:{ G:Gr // vE G A}=>[jr g G.1]
instance {g:Nat}{G:Gr}:Zf (jr g G):=Zf.star fun X=>by
 have:gb (sA X.1.M G.list):=by
  generalize X.1.M=M;generalize G.list=L;unfold sA
  induction M generalizing L with
  |nil=>simp;infer_instance
  |cons m M ih=>
   cases L with
   |nil=>simp;infer_instance
   |cons x L=>
    rw[List.zipWith_cons_cons,oL];exact gb.append (by unfold yG nB nf nI;infer_instance) (ih L)
 have hb:Zf (bJ (sA X.1.M G.list)):=Zf.Bj this
 infer_instance
instance {g:Nat}{A:dX}:Zf (gL g A):=Zf.star fun _=>inferInstance
theorem zx {o:Og}{w:World}{l r:List It}{g:Nat}{G:Gr}{A:dX}(hG:vE G A)(hH:SH o w l)(hp:Pk l [jr g G] r:=by repeat(first|exact Pk.nil|(apply Pk.cons;repeat(first|exact az.here|apply az.there)))):SH o w (gL g A::r):=
 SH.fold (f:=fun G:{ G:Gr // vE G A}=>[jr g G.1]) ⟨G,hG⟩ hH hp
theorem Pb {o:Og}{w:World}{g:Nat}{G:Gr}(hs:Start o w [jr g G]):∃ow ol al cl cb cc bs,GM w g G ow ol al cl cb cc bs∧∀b,ow b≠none↔o.F b:=by
 obtain⟨rfl,⟨F1,F2,e,_,h1,h2⟩,_⟩:=hs;have e2:F2=fun _=>False:=h2
 subst e2;obtain⟨ow,ol,al,cl,cb,cc,bs,k1,k2⟩:=Lt h1;exact⟨ow,ol,al,cl,cb,cc,bs,k1,fun b=>(k2 b).trans (by rw[e];simp)⟩
theorem SH.OA {o:Og}{w w':World}{g:Nat}{G H:Gr}{ow dy:Nat→Option Lb}{ol:Option Nat}{al:Option Addr}{cl cb cc:Nat}{bs:List Nat}(hs:Start o w [jr g G])(hF:∀b,ow b≠none↔o.F b)(hM:dZ ow w w')(hG:GM w' g H dy ol al cl cb cc bs)(hn:∀b,dy b≠none→ow b≠none∨w.heap.size≤b):SH o w' [jr g H]:=by
 obtain⟨rfl,_,h3,h4⟩:=hs;obtain⟨F,k1,k2⟩:=Yg hG o.Z;refine⟨o.Z,F,⟨hM.weaken fun b _ hb=>(hF b).1 hb,fun b hb=>?_,fun _ h=>h,fun _ h => .inl h⟩,⟨F,fun _=>False,by simp,fun _ _ h=>h,k1,rfl⟩,fun b hb hz=>?_,fun b hb=>jL (h4 b hb) hM.size⟩
 ·rcases hn b (k2 b hb) with h|h
  ·exact .inl ((hF b).1 h)
  ·exact .inr h
 ·rcases hn b (k2 b hb) with h|h
  ·exact h3 b ((hF b).1 h) hz
  ·have:=h4 b hz;omega
theorem XV {o:Og}{w:World}{g:Nat}{A:dX}(hs:Start o w [fz (gL g A)]):∃G ow ol al cl cb cc bs,vE G A∧GM w g G ow ol al cl cb cc bs:=by
 obtain⟨rfl,⟨F1,F2,e,_,⟨⟨F',Z',_,_,⟨⟨G,hG⟩,F3,F4,e3,_,h1,_⟩⟩,_⟩,_⟩,_⟩:=hs;obtain⟨ow,ol,al,cl,cb,cc,bs,k1,_⟩:=Lt h1;exact⟨G,ow,ol,al,cl,cb,cc,bs,hG,k1⟩
theorem SH.Wb {o:Og}{w w':World}{l:List It}{g:Nat}{G:Gr}{ow:Nat→Option Lb}{ol:Option Nat}{al:Option Addr}{cl cb cc:Nat}{bs:List Nat}(hH:SH o w l)(hE:Ext w w')(hG:GM w' g G ow ol al cl cb cc bs)(hn:∀b,ow b≠none→w.heap.size≤b):SH o w' (jr g G::l):=by
 obtain⟨F,k1,k2⟩:=Yg hG fun _=>False
 exact hH.add hE ⟨F,fun Z=>(inferInstance:Zf (jr g G)).out _ _ Z _ k1,fun b hb=>hn b (k2 b hb)⟩
theorem jM.lT {G:Gr}(hi:jM G):jZ G≤65536∧∀x∈G.list,x.down.length≤65536∧x.up.length≤65536:=by
 have qS:jZ G≤65536:=by have:=hi.zt;have:=hi.cp;omega
 refine⟨qS,fun x hx=>?_⟩;obtain⟨j,hj⟩:=ey hx;have p7:=(aV.1 hj).1;have h1:=Hm (G:=G) (l:=[j]) (by simp) (by simpa using p7);simp[M.lT,hj] at h1;have h2:=Cx (hi.mi x hx) (hi.nJ j x hj);have h3:=hi.len;have h4:=hi.eZ.mx;omega
def dX.new (n m:Nat):dX:=⟨n,m,0,fun _ _=>False⟩
theorem acj {o:Og}{w:World}(n m s:Nat)(hn:1≤n∧n≤65536)(hm:1≤m∧m≤65536)(eH:s<eu)(hs:Start o w []) :
  aj prog 63 [iV n,iV m,uV s].toArray w (aX o (fun g:Nat => .tuple #[ak g,iV 0]) (fun _=>True) (fun g=>[gL g (dX.new n m)])):=by
 refine(acb n m s w).mono ?_;rintro v w' ⟨h,hE⟩
 rcases h with⟨h,_⟩|⟨_,g,cb,rfl,h1,h2,h3⟩
 ·exact absurd ⟨by omega,by omega,by omega,by omega⟩ h
 ·rw[qB,qB] at h3;have hH:=hs.sh.Wb hE h3 fun b hb=>by
   unfold vg at hb;split at hb
   ·omega
   ·split at hb
    ·omega
    ·exact absurd rfl hb
  refine⟨g,rfl,trivial,zx ⟨aa0 _ _ _ ah ah eH,rfl,rfl,?_,bh _⟩ hH⟩;funext u v;refine propext ⟨?_,fun h=>h.elim⟩;rintro⟨a,b,x,y,h,_⟩;simp[kN] at h
open Classical in
noncomputable def dX.pP (A:dX)(p c:Bs):Int:=
 if(bf p&&bf c)=false then 2 else if A.E p c then 0 else if p=c∨xF A.E c p then 13
 else if A.cM<JE A.E+(if xG A.E p then 0 else 1)+(if xG A.E c then 0 else 1)∨Jq A.E=A.dg then 7 else 0
open Classical in
noncomputable def dX.oS (A:dX)(p c:Bs):Bool:=decide ((bf p&&bf c)=true∧¬A.E p c∧A.pP p c=0)
open Classical in
noncomputable def dX.add (A:dX)(p c:Bs):dX:={ A with K:=A.K+1,E:=if A.oS p c=true then fun u v=>A.E u v∨(u=p∧v=c) else A.E}
theorem ud.abs {G H:Gr}{A:dX}{p c:Bs}{z:Bool}{e:Int}(h:ud G H p c z e)(hA:vE G A)(hs:H.cW≤G.cW+1)(iO:∀x∈H.list,x.mark≤H.cW):z=A.oS p c∧e=A.pP p c∧vE H (A.add p c):=by
 classical
 have hi:=h.inv hA.inv iO;have hg:=hA.inv;have j9:=hg.Wc p;have ic:=hg.Wc c;have bz:=hg.ahk;have hl:=hg.agA;have IA:=hg.agn c p;have hK:H.cW≤A.K+1:=by have:=hA.K;omega
 rw[hA.E] at j9 ic bz hl IA;have uI:=hA.cM;have zR:=hA.dg;have same:∀(hS:dw G H),fm H=A.E:=fun hS=>by
  rw[←hA.E];funext u v;exact propext hS.ti
 cases h with
 |bad h1 h2=>
  subst h2;have e1:A.pP p c=2:=by unfold dX.pP;rw[if_pos h1]
  have e2:A.oS p c=false:=bQ fun h=>by rw[h1] at h;exact absurd h.1 (by simp)
  exact⟨e2.symm,e1.symm,hA.inv,uI,zR,by show _=if A.oS p c=true then _ else _;rw[e2,if_neg (by simp)];exact hA.E,hK⟩
 |has h1 h2 h3 h4=>
  subst h4;rw[hA.E] at h3;have ok:(bf p&&bf c)=true:=by rw[h1,h2];rfl
  have e1:A.pP p c=0:=by unfold dX.pP;rw[if_neg (by rw[ok];simp),if_pos h3]
  have e2:A.oS p c=false:=bQ fun h=>h.2.1 h3
  exact⟨e2.symm,e1.symm,hA.inv,uI,zR,by show _=if A.oS p c=true then _ else _;rw[e2,if_neg (by simp)];exact hA.E,hK⟩
 |Hf h1 h2 h3 h4 h5=>
  rw[hA.E] at h3;have ok:(bf p&&bf c)=true:=by rw[h1,h2];rfl
  have uv:p=c∨xF A.E c p:=h4.imp id IA.1;have e1:A.pP p c=13:=by unfold dX.pP;rw[if_neg (by rw[ok];simp),if_neg h3,if_pos uv]
  have e2:A.oS p c=false:=bQ fun h=>by rw[e1] at h;exact absurd h.2.2 (by decide)
  exact⟨e2.symm,e1.symm,hi,h5.cM.trans uI,h5.dg.trans zR,by show _=if A.oS p c=true then _ else _;rw[e2,if_neg (by simp)];exact same h5,hK⟩
 |full h1 h2 h3 h4 h5 h6 h7=>
  rw[hA.E] at h3;have ok:(bf p&&bf c)=true:=by rw[h1,h2];rfl
  have uv:¬(p=c∨xF A.E c p):=fun h=>h.elim h4 fun h=>h5 (IA.2 h)
  rw[j9,ic,←bz,←hl,uI,zR] at h6;have e1:A.pP p c=7:=by unfold dX.pP;rw[if_neg (by rw[ok];simp),if_neg h3,if_neg uv,if_pos h6]
  have e2:A.oS p c=false:=bQ fun h=>by rw[e1] at h;exact absurd h.2.2 (by decide)
  exact⟨e2.symm,e1.symm,hi,h7.cM.trans uI,h7.dg.trans zR,by show _=if A.oS p c=true then _ else _;rw[e2,if_neg (by simp)];exact same h7,hK⟩
 |new h1 h2 h3 h4 h5 h6 h7 h8=>
  have Sz:=fun u v=>h8.ti hA.inv (u:=u) (v:=v)
  rw[hA.E] at h3 Sz;have ok:(bf p&&bf c)=true:=by rw[h1,h2];rfl
  have uv:¬(p=c∨xF A.E c p):=fun h=>h.elim h4 fun h=>h5 (IA.2 h)
  rw[j9,ic,←bz,uI] at h6;rw[←hl,zR] at h7;have e1:A.pP p c=0:=by unfold dX.pP;rw[if_neg (by rw[ok];simp),if_neg h3,if_neg uv,if_neg ah]
  have e2:A.oS p c=true:=b8 ⟨ok,h3,e1⟩;exact⟨e2.symm,e1.symm,hi,h8.cM.trans uI,h8.dg.trans zR,by show _=if A.oS p c=true then _ else _;rw[e2,if_pos rfl];funext u v;exact propext (Sz u v),hK⟩
theorem Lu {o:Og}{w:World}{g:Nat}{A:dX}(p c:Bs)(hK:A.K<2^40)(hs:Start o w [gL g A]) :
  aj prog 125 [ak g,str p,str c].toArray w (Po o (.tuple #[.bool (A.oS p c),iV (A.pP p c)]) [gL g (A.add p c)]):=by
 obtain⟨⟨G,hA⟩,hs⟩:=Start.un hs;replace hs:Start o w [jr g G]:=hs;obtain⟨ow,ol,al,cl,cb,cc,bs,hG,hF⟩:=Pb hs;refine(Za hG hA.inv (by have:=hA.K;omega) p c).mono ?_;rintro v w' ⟨⟨z,e,H,rfl,hAdd,B6,iO,⟨dy,jF,oT,qE,td,K2,Dn,vT,sj⟩⟩,hM⟩;obtain⟨rfl,rfl,hH⟩:=hAdd.abs hA B6 iO;exact⟨rfl,zx hH (SH.OA hs hF hM vT sj.new)⟩
theorem Lw {o:Og}{w:World}{g:Nat}{A:dX}(hs:Start o w [fz (gL g A)]) :
  aj prog 91 [ak g].toArray w (aX o ak (fun _=>True) (fun c=>[gL c A])):=by
 obtain⟨G,ow,ol,al,cl,cb,cc,bs,hA,hG⟩:=XV hs;have hi:=hA.inv;have fU:=hi.eZ.mx;have lA:=hi.len;have BD:=hi.cells;obtain⟨_,hd⟩:=hi.lT;refine(ab5 hG ah ah ⟨by have:=BD.1;omega,by have:=BD.2;omega⟩ fun x hx=>by have:=hd x hx;omega).mono ?_;rintro v w' ⟨⟨c,dy,jF,oT,qE,td,K2,Dn,rfl,vT,om⟩,hE⟩;exact⟨c,rfl,trivial,(zx hA (hs.sh.Wb hE vT om)).to⟩
theorem ahb {o:Og}{w w':World}{l:List It}{el:TypeId}{sz n c:Nat}{a:Option Addr}{cs:List Value}(hH:SH o w l)(hE:Ext w w')(h:iF w w' el sz a n c cs):∃q,a=aA q∧SH o w' (aq el sz q n c cs::l):=by
 obtain⟨ob,h1,h2,h3⟩:=h;have e:=wW h1 fun h0=>by
  cases ha:a with
  |none=>rfl
  |some x=>have:=h3 x ha;rw[h0] at this;cases this
 subst e;exact⟨ob,rfl,hH.cF hE (fun b hb=>h2 b hb) h1⟩
theorem aci {o:Og}{w:World}{g:Nat}{A:dX}(k:Bs)(hk:k.length<2^40)(hs:Start o w [fz (gL g A)]) :
  aj prog 272 [ak g,str k].toArray w (aX o (my (ie A.E k).length) (fun _=>True) (mw 9 1 (ie A.E k).length (aK (ie A.E k)))):=by
 obtain⟨G,ow,ol,al,cl,cb,cc,bs,hA,hG⟩:=XV hs;obtain⟨_,hd⟩:=hA.inv.lT;have Ix:=hA.inv.afg k;rw[hA.E] at Ix;rw[Ix];refine(QB hG hA.inv.eZ k hk fun x hx=>(hd x hx).1).mono ?_;rintro v w' ⟨⟨a,c,rfl,hN⟩,hE⟩;obtain⟨q,rfl,hH⟩:=ahb hs.sh hE hN;exact⟨(q,c),rfl,trivial,hH.to⟩
theorem acm {o:Og}{w:World}{g:Nat}{A:dX}(p c:Bs)(aD:Nat)(hm:aD≤65536)(hK:A.K<2^40)(hs:Start o w [gL g A]) :
  aj prog 193 [ak g,str p,str c,iV aD].toArray w (aX o (fun y:Bool×Value×Int => .tuple #[.bool y.1,y.2.1,iV y.2.2]) (fun y=>y.2.2≠1) (fun _=>[gL g { A with K:=A.K+1}])):=by
 obtain⟨⟨G,hA⟩,hs⟩:=Start.un hs;replace hs:Start o w [jr g G]:=hs;obtain⟨ow,ol,al,cl,cb,cc,bs,hG,hF⟩:=Pb hs;obtain⟨he,hd⟩:=hA.inv.lT;have hAK:=hA.K;refine(WY hG hA.inv.eZ (fun x hx=>(hd x hx).1) he ah hA.inv.marks p c aD hm).mono ?_;rintro v w' ⟨⟨z,n,e,H,rfl,Sy,_,hS,B6,iO,vT⟩,hM⟩;have hH:vE H { A with K:=A.K+1}:=⟨hS.inv hA.inv iO,hS.cM.trans hA.cM,hS.dg.trans hA.dg,by
  show _=A.E;rw[←hA.E];funext u v;exact propext hS.ti,by show _≤A.K+1;omega⟩
 exact⟨(z,n,e),rfl,Sy,zx hH (SH.OA hs hF hM vT fun b hb => .inl hb)⟩
end
section
def eB (x:Nd):Bool:=decide (0<x.down.length+x.up.length)
def cz (L:List Nd)(j:Nat):Nat:=((L.take j).filter eB).length
def kV (t:Nat→Nat)(x:Nd):Nd:={ x with down:=x.down.map t,up:=x.up.map t}
def f' (L:List Nd):List Nd:=(L.filter eB).map (kV (cz L))
theorem air {L:List Nd}{j:Nat}{x:Nd}(hx:L[j]?=some x):cz L (j+1)=cz L j+if eB x then 1 else 0:=by
 unfold cz;rw[gv,hx,vu,bH];congr 1;cases h:eB x<;>simp[lO,h]
theorem aiq {L:List Nd}{a b:Nat}(h:a≤b):cz L a≤cz L b:=by
 unfold cz;exact((List.take_prefix_take_left h).sublist.filter _).length_le
theorem WT {L:List Nd}{a b:Nat}{x:Nd}(hx:L[a]?=some x)(hk:eB x=true)(h:a<b):cz L a<cz L b:=by
 have h1:=air hx;rw[hk,if_pos rfl] at h1;have h2:=aiq (L:=L) (a:=a+1) (b:=b) h;omega
theorem JV {L:List Nd}{a b:Nat}{x y:Nd}(hx:L[a]?=some x)(hy:L[b]?=some y)(h1:eB x=true)(h2:eB y=true)(h:cz L a=cz L b):a=b:=by
 rcases Nat.lt_trichotomy a b with k|k|k
 ·have:=WT hx h1 k;omega
 ·exact k
 ·have:=WT hy h2 k;omega
theorem Rf:∀{L:List Nd}{j:Nat}{x:Nd},L[j]?=some x→eB x=true→(L.filter eB)[cz L j]?=some x
 | [],_,_,h,_=>by simp at h
 |y::L,0,x,h,hk=>by
  simp at h;subst h;simp[cz,lO,hk]
 |y::L,j+1,x,h,hk=>by
  have ih:=Rf (L:=L) (j:=j) (by simpa using h) hk;have e:cz (y::L) (j+1)=(if eB y then 1 else 0)+cz L j:=by
   unfold cz;rw[List.take_succ_cons,lO];split<;>simp[Nat.add_comm]
  rw[e,lO];split
  ·rw[Nat.add_comm,List.getElem?_cons_succ];exact ih
  ·rw[dz];exact ih
theorem Ll:∀{L:List Nd}{r:Nat}{x:Nd},(L.filter eB)[r]?=some x→∃j:Nat,L[j]?=some x∧eB x=true∧cz L j=r
 | [],_,_,h=>by simp at h
 |y::L,r,x,h=>by
  rw[lO] at h;have e:∀j,cz (y::L) (j+1)=(if eB y then 1 else 0)+cz L j:=fun j=>by
   unfold cz;rw[List.take_succ_cons,lO];split<;>simp[Nat.add_comm]
  split at h
  ·rename_i hk
   cases r with
   |zero=>simp at h;subst h;exact⟨0,rfl,hk,by simp[cz]⟩
   |succ r=>
    obtain⟨j,h1,h2,h3⟩:=Ll (L:=L) (r:=r) (by simpa using h);exact⟨j+1,by simpa using h1,h2,by rw[e,hk,if_pos rfl,h3];omega⟩
  ·rename_i hk
   obtain⟨j,h1,h2,h3⟩:=Ll (L:=L) h;exact⟨j+1,by simpa using h1,h2,by rw[e,if_neg hk,h3];omega⟩
section
variable {L:List Nd}(hi:kG L)
include hi
theorem kG.yy {a:Nat}{x:Nd}(hx:L[a]?=some x){b:Nat}(hb:b∈x.down):∃y:Nd,L[b]?=some y∧eB y=true:=by
 have fD:=hi.down a x hx b hb;refine⟨_,bO fD,b8 ?_⟩;have:=(hi.pj a b x _ hx (bO fD)).1 hb;have:=tX this;omega
theorem kG.Fp {b:Nat}{y:Nd}(hy:L[b]?=some y){a:Nat}(ha:a∈y.up):∃x:Nd,L[a]?=some x∧eB x=true:=by
 have cj:=hi.nJ b y hy a ha;refine⟨_,bO cj,b8 ?_⟩;have:=(hi.pj a b _ y (bO cj) hy).2 ha;have:=tX this;omega
omit hi in
theorem wX {r:Nat}{z:Nd}(h:(f' L)[r]?=some z):∃(j:Nat) (x:Nd),L[j]?=some x∧eB x=true∧cz L j=r∧z=kV (cz L) x:=by
 unfold f' at h;rw[gG] at h;obtain⟨x,h1,h2⟩:=y5.1 h;obtain⟨j,k1,k2,k3⟩:=Ll h1;exact⟨j,x,k1,k2,k3,h2.symm⟩
omit hi in
theorem JM {j:Nat}{x:Nd}(hx:L[j]?=some x)(hk:eB x=true):(f' L)[cz L j]?=some (kV (cz L) x):=by
 unfold f';rw[gG,Rf hx hk];rfl
theorem kG.OO {a b:Nat}{x y:Nd}(hx:L[a]?=some x)(hy:L[b]?=some y)(hk:eB y=true):cz L b∈x.down.map (cz L)↔b∈x.down:=by
 constructor
 ·intro h;obtain⟨c,hc,e⟩:=bG.1 h;obtain⟨z,hz,yt⟩:=hi.yy hx hc;rw[JV hy hz hk yt e.symm];exact hc
 ·exact fun h=>bG.2 ⟨b,h,rfl⟩
theorem kG.ah0 {a b:Nat}{x y:Nd}(hx:L[a]?=some x)(hy:L[b]?=some y)(hk:eB x=true):cz L a∈y.up.map (cz L)↔a∈y.up:=by
 constructor
 ·intro h;obtain⟨c,hc,e⟩:=bG.1 h;obtain⟨z,hz,yt⟩:=hi.Fp hy hc;rw[JV hx hz hk yt e.symm];exact hc
 ·exact fun h=>bG.2 ⟨a,h,rfl⟩
theorem kG.pack:kG (f' L):=by
 refine⟨fun r z hz b hb=>?_,fun r z hz b hb=>?_,fun r s z v hz hv=>?_,fun z hz=>?_,fun z hz=>?_,fun z hz=>?_⟩
 ·obtain⟨j,x,h1,h2,_,rfl⟩:=wX hz;obtain⟨c,hc,rfl⟩:=bG.1 (show b∈x.down.map (cz L) from hb);obtain⟨y,hy,hk⟩:=hi.yy h1 hc;exact(aV.1 (JM hy hk)).1
 ·obtain⟨j,x,h1,h2,_,rfl⟩:=wX hz;obtain⟨c,hc,rfl⟩:=bG.1 (show b∈x.up.map (cz L) from hb);obtain⟨y,hy,hk⟩:=hi.Fp h1 hc;exact(aV.1 (JM hy hk)).1
 ·obtain⟨a,x,h1,h2,rfl,rfl⟩:=wX hz;obtain⟨b,y,k1,k2,rfl,rfl⟩:=wX hv;show cz L b∈x.down.map (cz L)↔cz L a∈y.up.map (cz L);rw[hi.OO h1 k1 k2,hi.ah0 h1 k1 h2];exact hi.pj a b x y h1 k1
 ·obtain⟨r,hr⟩:=ey hz;obtain⟨j,x,h1,h2,_,rfl⟩:=wX hr;show(x.down.map (cz L)).Nodup;rw[pM,rD];refine List.Pairwise.imp_of_mem (fun {a b} ha hb fg e=>?_) (pM.1 (hi.nT x (bD h1)));obtain⟨y,hy,hk⟩:=hi.yy h1 ha;obtain⟨z,hz,je⟩:=hi.yy h1 hb;exact fg (JV hy hz hk je e)
 ·obtain⟨r,hr⟩:=ey hz;obtain⟨j,x,h1,h2,_,rfl⟩:=wX hr;show(x.up.map (cz L)).Nodup;rw[pM,rD];refine List.Pairwise.imp_of_mem (fun {a b} ha hb fg e=>?_) (pM.1 (hi.mi x (bD h1)));obtain⟨y,hy,hk⟩:=hi.Fp h1 ha;obtain⟨z,hz,je⟩:=hi.Fp h1 hb;exact fg (JV hy hz hk je e)
 ·obtain⟨r,hr⟩:=ey hz;obtain⟨j,x,h1,_,_,rfl⟩:=wX hr;exact hi.keys x (bD h1)
theorem kG.ahZ {G H:Gr}(hG:G.list=L)(hH:H.list=f' L){u v:Bs}:fm H u v↔fm G u v:=by
 constructor
 ·rintro⟨r,s,z,y',h1,h2,h3,h4,h5⟩;rw[hH] at h1 h4;obtain⟨a,x,k1,k2,rfl,rfl⟩:=wX h1;obtain⟨b,y,m1,m2,rfl,rfl⟩:=wX h4;exact⟨a,b,x,y,by rw[hG];exact k1,h2,(hi.OO k1 m1 m2).1 h3,by rw[hG];exact m1,h5⟩
 ·rintro⟨a,b,x,y,h1,h2,h3,h4,h5⟩;rw[hG] at h1 h4;have kx:eB x=true:=b8 (by have:=tX h3;omega);obtain⟨y',mL,ky⟩:=hi.yy h1 h3;rw[h4] at mL;cases mL;exact⟨cz L a,cz L b,kV (cz L) x,kV (cz L) y,by rw[hH];exact JM h1 kx,h2,(hi.OO h1 h4 ky).2 h3,by rw[hH];exact JM h4 ky,h5⟩
omit hi in
theorem abF (M:List Nd):((M.filter eB).map (·.down.length)).sum=(M.map (·.down.length)).sum:=by
 induction M with
 |nil=>rfl
 |cons x M ih=>
  rw[lO];split
  ·simp only[cJ,List.sum_cons,ih]
  ·rename_i h
   have:¬0<x.down.length+x.up.length:=fun h'=>h (b8 h')
   simp only[cJ,List.sum_cons,ih];omega
omit hi in
theorem ah1:((f' L).map (·.down.length)).sum=(L.map (·.down.length)).sum:=by
 unfold f';rw[nK];have e:((fun x:Nd=>x.down.length) ∘ kV (cz L))=fun x:Nd=>x.down.length:=by funext x;simp[kV]
 rw[e];exact abF L
omit hi in
theorem ah6:∀z∈f' L,z.down≠[]∨z.up≠[]:=by
 intro z hz;unfold f' at hz;obtain⟨x,hx,rfl⟩:=bG.1 hz;have:=dM (fR.1 hx).2
 by_cases h:x.down=[]
 ·right;intro h2;have h3:x.up=[]:=List.map_eq_nil_iff.1 h2;rw[h,h3] at this;simp at this
 ·left;intro h2;exact h (List.map_eq_nil_iff.1 h2)
omit hi in
theorem ah3:((f' L).map (·.key)).Sublist (L.map (·.key)):=by
 unfold f';rw[nK];exact(List.filter_sublist (p:=eB) (l:=L)).map _
end
def im (L:List Nd)(a b:Nat)(xa xb:Nd):List Nd:=(L.set a { xa with down:=xa.down.filter (·≠b)}).set b { xb with up:=xb.up.filter (·≠a)}
theorem Ku {L:List Nd}{a b:Nat}{xa xb:Nd}(ha:L[a]?=some xa)(hb:(L.set a { xa with down:=xa.down.filter (·≠b)})[b]?=some xb):∀(j:Nat) (z:Nd),L[j]?=some z→(im L a b xa xb)[j]?=some { z with down:=if j=a then z.down.filter (·≠b) else z.down,up:=if j=b then z.up.filter (·≠a) else z.up}:=by
 intro j z hz;have p7:=(aV.1 hz).1;unfold im
 by_cases h1:j=b
 ·subst h1;rw[dE (by simpa using p7),if_pos rfl]
  by_cases h2:j=a
  ·subst h2;rw[ha] at hz;cases hz;rw[dE p7] at hb;cases hb;simp
  ·rw[dv (Ne.symm h2),hz] at hb;cases hb;simp[h2]
 ·rw[dv (Ne.symm h1),if_neg h1]
  by_cases h2:j=a
  ·subst h2;rw[ha] at hz;cases hz;rw[dE p7];simp
  ·rw[dv (Ne.symm h2),hz];simp[h2]
theorem vn {L:List Nd}{a b:Nat}{xa xb:Nd}(ha:L[a]?=some xa)(hb:(L.set a { xa with down:=xa.down.filter (·≠b)})[b]?=some xb){j:Nat}{y:Nd}(h:(im L a b xa xb)[j]?=some y):∃z:Nd,L[j]?=some z∧y={ z with down:=if j=a then z.down.filter (·≠b) else z.down,up:=if j=b then z.up.filter (·≠a) else z.up}:=by
 have p7:j<L.length:=by have:=(aV.1 h).1;simpa[im] using this
 have hz:L[j]?=some L[j]:=bO p7;rw[Ku ha hb j _ hz] at h;cases h;exact⟨_,hz,rfl⟩
section
variable {L:List Nd}(hi:kG L){a b:Nat}{xa xb:Nd}(ha:L[a]?=some xa)(hb:(L.set a { xa with down:=xa.down.filter (·≠b)})[b]?=some xb)
include hi ha hb
theorem kG.im:kG (im L a b xa xb):=by
 have hlen:(M.im L a b xa xb).length=L.length:=by simp[M.im]
 refine⟨fun j y hy c hc=>?_,fun j y hy c hc=>?_,fun j k y v hy hv=>?_,fun y hy=>?_,fun y hy=>?_,fun y hy=>?_⟩
 ·obtain⟨z,hz,rfl⟩:=vn ha hb hy;rw[hlen];simp only at hc;split at hc
  ·exact hi.down j z hz c ((fR.1 hc).1)
  ·exact hi.down j z hz c hc
 ·obtain⟨z,hz,rfl⟩:=vn ha hb hy;rw[hlen];simp only at hc;split at hc
  ·exact hi.nJ j z hz c ((fR.1 hc).1)
  ·exact hi.nJ j z hz c hc
 ·obtain⟨z,hz,rfl⟩:=vn ha hb hy;obtain⟨u,hu,rfl⟩:=vn ha hb hv;have hm:=hi.pj j k z u hz hu;simp only
  by_cases h1:j=a<;>by_cases h2:k=b
  ·subst h1 h2;simp[hm]
  ·subst h1;simp[h2,hm]
  ·subst h2;simp[h1,hm]
  ·simp[h1,h2,hm]
 ·obtain⟨j,hj⟩:=ey hy;obtain⟨z,hz,rfl⟩:=vn ha hb hj;have:=hi.nT z (bD hz);simp only;split
  ·exact this.filter _
  ·exact this
 ·obtain⟨j,hj⟩:=ey hy;obtain⟨z,hz,rfl⟩:=vn ha hb hj;have:=hi.mi z (bD hz);simp only;split
  ·exact this.filter _
  ·exact this
 ·obtain⟨j,hj⟩:=ey hy;obtain⟨z,hz,rfl⟩:=vn ha hb hj;exact hi.keys z (bD hz)
omit hi in
theorem alY:(im L a b xa xb).map (·.key)=L.map (·.key):=by
 apply pB;intro j;rw[gG,gG];cases hj:L[j]? with
 |none=>
  have h1:L.length≤j:=List.getElem?_eq_none_iff.1 hj;rw[pH (by simp[im];exact h1)]
 |some z=>
  rw[Ku ha hb j z hj];rfl
omit hi in
theorem alW {G H:Gr}(hG:G.list=L)(hH:H.list=im L a b xa xb)(aU:ir G){yb:Nd}(eT:L[b]?=some yb){u v:Bs}:fm H u v↔fm G u v∧¬(u=xa.key∧v=yb.key):=by
 constructor
 ·rintro⟨i,j,x,y,h1,rfl,h3,h4,rfl⟩;rw[hH] at h1 h4;obtain⟨x',q1,rfl⟩:=vn ha hb h1;obtain⟨y',r1,rfl⟩:=vn ha hb h4;simp only at h3 ⊢;refine⟨⟨i,j,x',y',by rw[hG];exact q1,rfl,?_,by rw[hG];exact r1,rfl⟩,fun⟨e1,e2⟩=>?_⟩
  ·split at h3
   ·exact(fR.1 h3).1
   ·exact h3
  ·have MC:=key_inj aU (a:=i) (b:=a) (by rw[hG];exact q1) (by rw[hG];exact ha) e1;have MF:=key_inj aU (a:=j) (b:=b) (by rw[hG];exact r1) (by rw[hG];exact eT) e2;rw[if_pos MC] at h3;have:=(fR.1 h3).2;simp[MF] at this
 ·rintro⟨⟨i,j,x,y,h1,rfl,h3,h4,rfl⟩,hn⟩;rw[hG] at h1 h4;refine⟨i,j,{ x with down:=if i=a then x.down.filter (·≠b) else x.down,up:=if i=b then x.up.filter (·≠a) else x.up},{ y with down:=if j=a then y.down.filter (·≠b) else y.down,up:=if j=b then y.up.filter (·≠a) else y.up},by rw[hH];exact Ku ha hb i x h1,rfl,?_,by rw[hH];exact Ku ha hb j y h4,rfl⟩;simp only;split
  ·rename_i MC
   refine fR.2 ⟨h3,?_⟩;simp only[ne_eq,decide_not,Bool.not_eq_true',decide_eq_false_iff_not];intro MF;subst MC MF;rw[ha] at h1;cases h1;rw[eT] at h4;cases h4;exact hn ⟨rfl,rfl⟩
  ·exact h3
end
theorem abH {l:List Nat}(hn:l.Nodup){x:Nat}(hx:x∈l):(l.filter (·≠x)).length+1=l.length:=by
 induction l with
 |nil=>cases hx
 |cons y l ih=>
  rw[eQ] at hn
  rcases bU.1 hx with rfl|hx
  ·rw[List.filter_cons_of_neg (by simp),oM.2 fun z hz=>by simp;rintro rfl;exact hn.1 hz];rfl
  ·rw[List.filter_cons_of_pos (by simp;rintro rfl;exact hn.1 hx),ek,ih hn.2 hx];rfl
theorem alX {L:List Nd}{a b:Nat}{xa xb:Nd}(ha:L[a]?=some xa)(hb:(L.set a { xa with down:=xa.down.filter (·≠b)})[b]?=some xb)(hn:xa.down.Nodup)(hm:b∈xa.down):((im L a b xa xb).map (·.down.length)).sum+1=(L.map (·.down.length)).sum:=by
 unfold im;have h1:=Kp (fun x:Nd=>x.down.length) hb (y:={ xb with up:=xb.up.filter (·≠a)});have h2:=Kp (fun x:Nd=>x.down.length) ha (y:={ xa with down:=xa.down.filter (·≠b)});have h3:=abH hn hm;simp only at h1 h2;omega
end
end Go.Proofs.YtoloaehmppcjoaaGreat.V.M
