/-
  Parts of the proof. No condition.
-/
import Derived.Test.YtmlpbmgfmnmmmaaGreatW2bq
import Derived.Test.YtmlpbmgfmnmmmaaGreatW2ad
import Derived.Shelf.SlSortCmp.WholeK
set_option linter.unusedVariables false
set_option linter.unusedSimpArgs false
set_option maxRecDepth 8000
set_option maxHeartbeats 8000000
open Go.Proofs.Tryz
namespace Go.Proofs.YtmlpbmgfmnmmmaaGreat.V.M
section
attribute [local irreducible] GO GX aA eo fz aF aQ ao star
def rR (met:List Bs)(lv:List Bs)(to:Bs):List Bs:=if to∈met++lv then lv else lv++[to]
def Fo (f:Bs→List Bs)(met last:List Bs):List Bs:=(last.flatMap f).foldl (rR met) []
inductive nG (f:Bs→List Bs):List Bs→List Bs→List (List Bs)→Prop
 |stop {met:List Bs}:nG f met [] []
 |step {met last:List Bs}{r:List (List Bs)}(h:last≠[]) (hr:nG f (met++Fo f met last) (fj (Fo f met last)) r):nG f met last ((if Fo f met last=[] then[] else[fj (Fo f met last)])++r)
theorem nG.Bn {f:Bs→List Bs}{met last:List Bs}{a b:List (List Bs)}(h:nG f met last a)(k:nG f met last b):a=b:=by
 induction h generalizing b with
 |stop=>cases k with
  |stop=>rfl
  |step h=>exact absurd rfl h
 |step h hr ih=>cases k with
  |stop=>exact absurd rfl h
  |step _ wi=>rw[ih wi]
open Classical in
noncomputable def NQ (E:Bs→Bs→Prop)(k:Bs):List (List Bs):=if h:∃r,nG (kH E) [k] [k] r then Classical.choose h else[]
theorem agt {E:Bs→Bs→Prop}{k:Bs}{r:List (List Bs)}(h:nG (kH E) [k] [k] r):NQ E k=r:=by
 have hx:∃r,nG (kH E) [k] [k] r:=⟨r,h⟩
 unfold NQ;rw[dif_pos hx];exact(Classical.choose_spec hx).Bn h
theorem agK {met lv:List Bs}(h:(met++lv).Nodup)(to:Bs):(met++rR met lv to).Nodup:=by
 unfold rR;split
 ·exact h
 ·rename_i hn
  rw[←cP,gu];exact⟨h,by simp,fun a ha b hb e=>by simp at hb;subst hb e;exact hn ha⟩
theorem ae7 (E:Bs→Bs→Prop)(k:Bs):(kH E k).Nodup:=by
 unfold kH;split
 ·rename_i hx
  exact(Classical.choose_spec hx).2.1
 ·simp
theorem ae6 {E:Bs→Bs→Prop}{k c:Bs}(h:c∈kH E k):E k c:=by
 unfold kH at h;split at h
 ·rename_i hx
  exact((Classical.choose_spec hx).2.2 c).1 h
 ·cases h
theorem agL {P:Bs→Prop}{met lv:List Bs}(h:∀x∈lv,P x){to:Bs}(ht:P to):∀x∈rR met lv to,P x:=by
 unfold rR;split
 ·exact h
 ·intro x hx
  rcases cJ.1 hx with hx|hx
  ·exact h x hx
  ·simp at hx;subst hx;exact ht
theorem CA:∀{l m:List Bs},l.Nodup→(∀x∈l,x∈m)→l.length≤m.length
 | [],_,_,_=>bh _
 |x::l,m,h,hs=>by
  rw[eI] at h;have h1:x∈m:=hs x (by simp);have h2:=CA (m:=m.erase x) h.2 fun y hy=>(List.mem_erase_of_ne fun e=>h.1 (by rw[←e];exact hy)).2 (hs y (by simp[hy]))
  have h3:=List.length_erase_of_mem h1;have h4:=vl h1;rw[dR];omega
structure PJ where
 met:List Bs
 last:Lv
 Ls:List Lv
 q:Option Nat×Nat
structure YL (f:Bs→List Bs)(U:List Bs)(k:Bs)(y:PJ):Prop where
 nd:y.met.Nodup
 sub:∀x∈y.met,x∈U
 anc:∀x∈y.last.l,x∈U
 go:∀r,nG f y.met y.last.l r→nG f [k] [k] (y.Ls.map (·.l)++r)
 len:y.Ls.length≤y.met.length
 cat:(iJ y.Ls).length≤y.met.length
 lens:∀x∈y.Ls,x.l.length≤U.length
 ll:y.last.l.length≤U.length
structure YK (f:Bs→List Bs)(k:Bs)(y:List Lv×Option Nat×Nat):Prop where
 lv:nG f [k] [k] (y.1.map (·.l))
 len:y.1.length≤65537
 cat:(iJ y.1).length≤65537
 lens:∀x∈y.1,x.l.length≤65537
abbrev N4 (M:List (Bs×Bool))(met:List Bs):Prop:=∀x,az M x=if x∈met then some true else none
theorem ak2 {o:Og}{w:World}{q:Option Nat}{n c:Nat}{l:List Bs}(hn:l.length=n)(hz:n≤100000)(hs:Start o w [ao 9 1 q n c (aM l)]):aj prog 220 [.slice (ay q) n c].toArray w (aU o (fun v:Value=>v) (fun _=>True) (fun _=>[ao 9 1 q n c (aM (fj l))])):=by
 have hH:=hs.sh;refine(XO q (ay q) c n l hn w (hH.own aB.here) (fun x hx=>by cases q with
  |none=>cases hx
  |some b=>cases hx;rfl) hz).mono fun v w' ⟨h1,h2⟩=>⟨v,rfl,trivial,(hH.ly bA.here (fun _=>h1) (h2.weaken fun k _ hk=>hk) (fun b hb => .inl hb)).to⟩
theorem ajz {o:Og}{w:World}{g:Nat}{A:dS}(k:Bs)(hk:bI k=true)(hs:Start o w [gA g A]) :
  aj prog 323 [str k, .func (.func 244) #[ak g] #[]].toArray w (aU o (fun y:List Lv×Option Nat×Nat => .slice (ay y.2.1) y.1.length y.2.2) (YK (kH A.E) k) (fun y=>[gA g A,ao 22 1 y.2.1 y.1.length y.2.2 (oU y.1),eo y.1])):=by
 obtain⟨⟨G,hA⟩,hG⟩:=Start.un hs;obtain⟨U,R8,LZ,R9,hU4⟩:∃U:List Bs,U.length≤65537∧k∈U∧(∀x c,c∈kH A.E x→c∈U)∧∀x∈U,x.length≤250:=by
  have hi:=hA.inv;have h1:=hi.len;have h2:=hi.eM.mx;refine⟨k::G.list.map (·.key),by simp;omega,by simp,fun x c hc=>?_,fun x hx=>?_⟩
  ·have hc:=ae6 hc;rw[←hA.E] at hc;obtain⟨a,b,y,z,_,_,_,h3,rfl⟩:=hc;exact fR _ (bK.2 ⟨z,bF h3,rfl⟩)
  ·rcases bY.1 hx with rfl|hx
   ·exact(eN hk).2
   ·obtain⟨z,hz,rfl⟩:=bK.1 hx;exact(eN (hi.keys z hz)).2
 clear hG hA;have hU5:∀x,(kH A.E x).length≤65537:=fun x=>eh (CA (ae7 _ x) (R9 x)) R8
 have hH:=hs.sh;refine aj.enter func323 rfl ntmps323 rfl (gh ?_);refine GX.yB str Value.bool (h:=fun m w hH=>gh ?_);refine GX.Fp (v:=true) (h:=fun w hH=>gh ?_);refine GX.nk (h:=fun b1 w hH=>gh ?_);replace hH:=hH.freeze aB.here;replace hH:=hH.Rq;have aO:=SH.cE (el:=22) (sz:=1) (q:=none) (n:=0) (c:=0) (cs:=[]) hH (Mod.refl w) (fun _ h=>by cases h) (aG.nil _ _ _);refine GC.bP [1,6] (fun y:PJ=>[(5, .slice (ay y.q.1) y.Ls.length y.q.2),(7,Cp y.last)]) (fun y w'=>YL (kH A.E) U k y∧∃M,N4 M y.met∧SH o w' [ao 22 1 y.q.1 y.Ls.length y.q.2 (oU y.Ls),eo y.Ls,aF (ay y.last.q.1) (aM y.last.l),aQ m str Value.bool M,gA g A]) (fun y=>2*(65540 - y.met.length)+if y.last.l=[] then 0 else 1) ⟨[k],⟨[k],(some b1,1)⟩,[],(none,0)⟩ rfl rfl ⟨⟨by simp,fun x hx=>by simp at hx;subst hx;exact LZ,fun x hx=>by simp at hx;subst hx;exact LZ,fun r h=>h,by simp,by simp[iJ],fun _ h=>(by cases h),vl LZ⟩,bE [] k true,fun x=>?_,aO.to⟩ ?_
 ·rw[kI]
  by_cases e:x=k
  ·simp[e]
  ·simp[e,az]
 rintro⟨met,⟨last,lq,lc⟩,Ls,q,c⟩ w ⟨⟨bX,fY,S5,Ic,hlen,Me,Ir,kZ⟩,M,hM,hH⟩;dsimp only at bX fY S5 Ic hlen Me Ir kZ hM hH ⊢;have BT:=CA bX fY;have amH:=CA bX fY;refine gh ?_;refine ifs (fun h1=>?_) (fun h1=>?_)<;>refine gh ?_
 ·have gB:0<last.length:=by simpa using h1
  refine GC.bP [1,5,6,21,22] (fun y:Nat×List Bs×Option Nat×Nat=>[(8, .slice (ay y.2.2.1) y.2.1.length y.2.2.2),(23,iV y.1)]) (fun y w'=>y.1≤last.length∧y.2.1=((last.take y.1).flatMap (kH A.E)).foldl (rR met) []∧(met++y.2.1).Nodup∧(∀x∈y.2.1,x∈U)∧∃M,N4 M (met++y.2.1)∧SH o w' [ao 9 1 y.2.2.1 y.2.1.length y.2.2.2 (aM y.2.1),aQ m str Value.bool M,ao 22 1 q Ls.length c (oU Ls),eo Ls,aF (ay lq) (aM last),gA g A]) (fun y=>last.length - y.1) (0,[],none,0) rfl rfl ⟨bh _,by simp,by simpa using bX,fun _ h=>(by cases h),M,by simpa using hM,?_⟩ ?_
  ·have aO:=SH.cE (el:=9) (sz:=1) (q:=none) (n:=0) (c:=0) (cs:=[]) hH (Mod.refl w) (fun _ h=>by cases h) (aG.nil _ _ _);exact aO.to
  rintro⟨i,lv,q8,c8⟩ w ⟨hi,xW,hnl,Et,M,hM,hH⟩;dsimp only at hi xW hnl Et hM hH ⊢;have amP:met.length+lv.length≤U.length:=by
   have:=CA hnl fun x hx=>(cJ.1 hx).elim (fY x) (Et x)
   simpa using this
  refine gh ?_;refine ifs (fun h2=>?_) (fun h2=>?_)<;>refine gh ?_
  ·have mR:i<last.length:=by simpa using h2
   obtain⟨x,hx⟩:∃x,last[i]?=some x:=⟨_,bO mR⟩
   have hxU:=S5 x (bF hx);have wv:=hU4 x hxU;obtain⟨qb,rfl⟩:∃qb,lq=some qb:=by
    obtain⟨b,o,e,_⟩:=(hH.bR (x:=aF (ay lq) (aM last)) (a:=ay lq) (cs:=aM last) bL).rV (by simpa[aM] using gB);cases lq with
    |none=>cases e
    |some b=>exact⟨b,rfl⟩
   refine gh ?_;refine GX.next rfl (GO.cG (hv:=show(aM last)[i]?=some (str x) by simp[aM,hx]) (h:=gh ?_));refine GX.dX (hc:=fun _ hs=>ab8 x ah hs) (h:=?_);rintro⟨q2,c2⟩ w _ hE hH;replace hH:=SH.ap hH;have hK5:=hU5 x;have RR:=R9 x;generalize hK:kH A.E x=K at hH hK5 RR;refine gh ?_;refine GC.bP [1,5,6,21,22,23,29,30] (fun y:Nat×List Bs×Option Nat×Nat=>[(8, .slice (ay y.2.2.1) y.2.1.length y.2.2.2),(31,iV y.1)]) (fun y w'=>y.1≤K.length∧y.2.1=(K.take y.1).foldl (rR met) lv∧(met++y.2.1).Nodup∧(∀x∈y.2.1,x∈U)∧∃M,N4 M (met++y.2.1)∧SH o w' [ao 9 1 y.2.2.1 y.2.1.length y.2.2.2 (aM y.2.1),ao 9 1 q2 K.length c2 (aM K),aQ m str Value.bool M,ao 22 1 q Ls.length c (oU Ls),eo Ls,aF (ay (some qb)) (aM last),gA g A]) (fun y=>K.length - y.1) (0,lv,q8,c8) rfl rfl ⟨bh _,by simp,hnl,Et,M,hM,hH.to⟩ ?_;rintro⟨j,uL,q9,c9⟩ w ⟨hj,Iw,BY,Eu,M,hM,hH⟩;dsimp only at hj Iw BY Eu hM hH ⊢;have amQ:met.length+uL.length≤U.length:=by
    have:=CA BY fun x hx=>(cJ.1 hx).elim (fY x) (Eu x)
    simpa using this
   refine gh ?_;refine ifs (fun h3=>?_) (fun h3=>?_)<;>refine gh ?_
   ·have Bw:j<K.length:=by simpa using h3
    obtain⟨t,ht⟩:∃t,K[j]?=some t:=⟨_,bO Bw⟩
    have htU:=RR t (bF ht);obtain⟨qk,rfl⟩:=hH.pos (el:=9) (sz:=1) (q:=q2) (n:=K.length);have dt:(K.take (j+1)).foldl (rR met) lv=rR met uL t:=by rw[ic,ht,vt,←Iw];rfl
    refine gh ?_;refine GX.next rfl (GO.cG (hv:=show(aM K)[j]?=some (str t) by simp[aM,ht]) (h:=gh ?_))
    by_cases mn:t∈met++uL
    ·refine GX.lP (hV:=show jc Value.bool (Value.bool false) false (az M t) = .bool true by rw[hM t,if_pos mn];rfl) (h:=gh ?_);refine GQ.br (j+1,uL,q9,c9) rfl ⟨by dsimp only;omega,by dsimp only;rw[dt,rR,if_pos mn],BY,Eu,M,hM,hH.to⟩ (by dsimp only;omega)
    ·refine GX.lP (hV:=show jc Value.bool (Value.bool false) false (az M t) = .bool false by rw[hM t,if_neg mn];rfl) (h:=gh ?_);refine GX.Fq (v:=true) (h:=fun w hH=>gh ?_);refine GX.mK (h1:=by exact yW [t]) (h:=fun q c w _ hH=>gh ?_);have e3:rR met uL t=uL++[t]:=by rw[rR,if_neg mn]
     refine GQ.br (j+1,uL++[t],_,_) (by dsimp only;rw[bJ];rfl) ⟨by dsimp only;omega,by dsimp only;rw[dt,e3],by rw[←e3];exact agK BY t,by rw[←e3];exact agL Eu htU,bE M t true,fun y=>?_,?_⟩ (by dsimp only;omega)
     ·rw[kI,hM y]
      by_cases e:y=t
      ·simp[e]
      ·simp[e]
     ·dsimp only;rw[show aM (uL++[t])=aM uL++[str t] by simp[aM],bJ];exact hH.to
   ·obtain rfl:j=K.length:=by omega
    rw[eO (bj _)] at Iw;refine gh ?_;refine GQ.br (i+1,uL,q9,c9) rfl ⟨by dsimp only;omega,?_,BY,Eu,M,hM,hH.to⟩ (by dsimp only;omega);dsimp only;rw[ic,hx,List.flatMap_append,vt,←xW,Iw];simp[hK]
  ·obtain rfl:i=last.length:=by omega
   rw[eO (bj _)] at xW;have Iu:lv=Fo (kH A.E) met last:=xW;refine gh ?_;refine GX.bS (hc:=fun _ hs=>ak2 (l:=lv) rfl ah hs) (h:=?_);rintro _ w _ hH;replace hH:=SH.ap hH;have dY:(fj lv).length=lv.length:=(lV lv).length_eq;have pP:∀x,x∈fj lv↔x∈lv:=fun x=>(lV lv).mem_iff
   refine gh ?_;refine ifs (fun h3=>?_) (fun h3=>?_)<;>refine gh ?_
   ·have MH:lv≠[]:=by
     rintro rfl;simp at h3
    refine GX.mK (h1:=by simp[Value.oneCell']) (h:=fun q c w _ hH=>gh ?_);replace hH:=SH.freeze (el:=9) (sz:=1) (q:=q8) (n:=lv.length) (c:=c8) (cs:=aM (fj lv)) hH bL;replace hH:=hH.xH bL;replace hH:=SH.abL (L:=Ls) (y:=⟨fj lv,(q8,c8)⟩) hH;refine GQ.br ⟨met++lv,⟨fj lv,(q8,c8)⟩,Ls++[⟨fj lv,(q8,c8)⟩],(_,_)⟩ (by dsimp only[Cp];rw[dY,bJ];rfl) ⟨⟨hnl,fun x hx=>(cJ.1 hx).elim (fY x) (Et x),fun x hx=>Et x ((pP x).1 hx),fun r hr=>?_,?_,?_,fun x hx=>?_,by dsimp only;omega⟩,M,hM,?_⟩ ?_
    ·have h5:=Ic _ (nG.step (fun e=>by rw[e] at gB;exact absurd gB (by simp)) (by rw[←Iu];exact hr));rw[←Iu,if_neg MH] at h5;simpa using h5
    ·have:=xl.2 MH;simp only[bJ,ie];omega
    ·simp only[iJ,eD,A2,bJ,cK,tD,om,List.flatten_nil,eY] at Me ⊢;omega
    ·rcases cJ.1 hx with hx|hx
     ·exact Ir x hx
     ·simp at hx;subst hx;dsimp only;omega
    ·dsimp only;rw[show oU (Ls++[⟨fj lv,(q8,c8)⟩])=oU Ls++[Value.slice (ay q8) lv.length c8] by simp[oU,Cp,dY],bJ];exact hH.to
    ·have:=xl.2 MH;simp only[bJ];split<;>split<;>omega
   ·obtain rfl:lv=[]:=ga ah;replace hH:=SH.freeze (el:=9) (sz:=1) (q:=q8) (n:=0) (c:=c8) (cs:=aM (fj [])) hH bL;refine gh ?_;have e0:fj ([]:List Bs)=[]:=ga (by rw[dY];rfl);rw[e0] at hH;refine GQ.br ⟨met,⟨[],(q8,c8)⟩,Ls,(q,c)⟩ rfl ⟨⟨bX,fY,fun _ h=>(by cases h),fun r hr=>?_,hlen,Me,Ir,bh _⟩,M,by simpa using hM,hH.to⟩ ?_
    ·have h5:=Ic _ (nG.step (fun e=>by rw[e] at gB;exact absurd gB (by simp)) (by rw[←Iu,e0,eY];exact hr));rw[←Iu,if_pos rfl] at h5;simpa using h5
    ·dsimp only;rw[if_pos rfl,if_neg (fun e=>by rw[e] at gB;exact absurd gB (by simp))];omega
 ·obtain rfl:last=[]:=by simpa using h1
  refine gh ?_;have h5:=Ic _ nG.stop;rw[eY] at h5;refine⟨(Ls,q,c),rfl,⟨h5,by dsimp only;omega,by dsimp only;omega,fun x hx=>eh (Ir x hx) R8⟩,hH.to⟩
end
section
attribute [local irreducible] GO GX aA eo fz aF aQ ao star
def dS.tick (A:dS):dS:={ A with K:=A.K+1}
theorem Z3 {o:Og}{w:World}{g:Nat}{A:dS}(hK:A.K<2^40)(hs:Start o w [gA g A]) :
  aj prog 344 [ak g].toArray w (Po o (iV 0) [gA g A.tick]):=by
 have hH:=hs.sh;refine aj.enter func344 rfl ntmps344 rfl (gh ?_);refine GX.bS (hc:=fun _ hs=>acb [97] [97] 0 ah hK hs) (h:=?_);rintro⟨z,v,e⟩ w he hH;replace hH:=SH.ap hH;dsimp only at he;refine gh ?_;rw[show decide ((z,v,e).2.2=1)=false from bt he];refine gh ?_;exact⟨rfl,hH.to⟩
theorem Z2 {o:Og}{w:World}{g:Nat}{A:dS}(k:Bs)(hK:A.K<2^40)(hs:Start o w [gA g A]) :
  aj prog 322 [ak g,str k].toArray w (Po o (iV (if bI k then 0 else 2)) [gA g A.tick]):=by
 have hH:=hs.sh;refine aj.enter func322 rfl ntmps322 rfl (gh ?_);refine GX.bz (hc:=fun _ hs=>Z3 hK hs) (h:=fun w hH=>gh ?_);refine gh ?_;refine GX.da (rO k _) rfl rfl rfl rfl rfl rfl (gh ?_);cases hk:bI k with
 |true=>refine gh ?_;exact⟨rfl,hH.to⟩
 |false=>refine gh ?_;exact⟨rfl,hH.to⟩
open Classical in
noncomputable def cR (E:Bs→Bs→Prop)(k:Bs):List Bs:=if bI k then(NQ E k).flatten else[]
theorem agu {o:Og}{w:World}{g:Nat}{A:dS}(k:Bs)(hK:A.K<2^40)(hs:Start o w [gA g A]) :
  aj prog 287 [ak g,str k].toArray w (aU o (fun y:List Lv×Option Nat×Nat => .tuple #[.slice (ay y.2.1) y.1.length y.2.2,iV (if bI k then 0 else 2)]) (fun y=>iJ y.1=cR A.E k∧y.1.length≤65537∧(iJ y.1).length≤65537∧∀x∈y.1,x.l.length≤65537) (fun y=>[gA g A.tick,ao 22 1 y.2.1 y.1.length y.2.2 (oU y.1),eo y.1])):=by
 have hH:=hs.sh;refine aj.enter func287 rfl ntmps287 rfl (gh ?_);refine GX.bz (hc:=fun _ hs=>Z2 k hK hs) (h:=fun w hH=>gh ?_);cases hk:bI k with
 |false=>
  have aO:=SH.cE (el:=22) (sz:=1) (q:=none) (n:=0) (c:=0) (cs:=[]) hH.Rq (Mod.refl w) (fun _ h=>by cases h) (aG.nil _ _ _);refine gh ?_;exact⟨([],none,0),rfl,⟨by simp[iJ,cR,hk],by simp,by simp[iJ],fun _ h=>by cases h⟩,aO.to⟩
 |true=>
  refine gh ?_;refine GX.bS (hc:=fun _ hs=>ajz (A:=A.tick) k hk hs) (h:=?_);rintro⟨Ls,q,c⟩ w ⟨h1,h2,h3,h4⟩ hH;replace hH:=SH.ap hH;refine gh ?_;refine⟨(Ls,q,c),rfl,⟨?_,h2,h3,h4⟩,hH.to⟩;have h5:nG (kH A.E) [k] [k] (Ls.map (·.l)):=h1;rw[cR,if_pos hk,agt h5];rfl
theorem Zo {o:Og}{w:World}{g:Nat}{A:dS}(k:Bs)(hK:A.K<2^40)(hs:Start o w [gA g A]) :
  aj prog 218 [ak g,str k].toArray w (aU o (fun y:Option Nat×Nat => .tuple #[.slice (ay y.1) (cR A.E k).length y.2,iV (if bI k then 0 else 2)]) (fun _=>(cR A.E k).length≤65537) (fun y=>[gA g A.tick,ao 9 1 y.1 (cR A.E k).length y.2 (aM (cR A.E k))])):=by
 have hH:=hs.sh;refine aj.enter func218 rfl ntmps218 rfl (gh ?_);refine GX.bS (hc:=fun _ hs=>agu k hK hs) (h:=?_);rintro⟨Ls,q,c⟩ w ⟨h1,h2,h3,h4⟩ hH;replace hH:=SH.ap hH;dsimp only at h1 h2 h3 h4;refine gh ?_;refine GX.dX (hc:=fun _ hs=>aaA (L:=Ls) (q:=q) (c:=c) rfl ah (fun y hy=>by have:=h4 y hy;omega) ah hs) (h:=?_);rintro⟨q2,c2⟩ w _ hE hH;replace hH:=SH.ap hH;refine gh ?_;rw[h1] at h3 hH ⊢;exact⟨(q2,c2),rfl,h3,hH.to⟩
end
section
open Go.RowKit Go.Shelf Go.Sort
theorem Ext.grown {w w':World}(h:Ext w w')(h4:w.drawn≤w'.drawn):∃q os,w'=grow (w.drewN q) os:=by
 refine⟨w'.drawn - w.drawn,w'.heap.extract w.heap.size w'.heap.size,?_⟩;have h1:=h.os;have h2:=h.tape;have h3:=h.output;have h5:=h.size;have h6:=h.block;have e:w'.heap=w.heap++w'.heap.extract w.heap.size w'.heap.size:=by
  apply Array.ext_getElem?;intro i;rw[Array.getElem?_append];split
  ·rename_i hi;exact h6 i hi id
  ·rename_i hi
   rw[Array.getElem?_extract];simp only[Nat.min_self];split
   ·congr 1;omega
   ·exact Array.getElem?_eq_none ah
 cases w with
 |mk hp tp dr os out=>
  cases w' with
  |mk z8 tp' dr' os' ane=>
   simp only at h1 h2 h3 h4 e;subst h1 h2 h3;simp only[grow,World.drewN,World.mk.injEq,true_and,and_true];exact⟨e,by omega⟩
section
variable {α:Type}[Inhabited α]{f:α→List Value}{k:Nat}
theorem Rn (hk:∀x,(f x).length=k):∀l:List α,(flatK f k l.toArray).toList=(l.map f).flatten:=by
 intro l;apply pb;intro t
 rcases Nat.eq_zero_or_pos k with h0|hp
 ·have e:(l.map f).flatten=[]:=by
   apply List.flatten_eq_nil_iff.2;intro x hx;obtain⟨y,_,rfl⟩:=bK.1 hx;exact ga ((hk y).trans h0)
  rw[e];simp[flatK,h0]
 have key:∀(l:List α) (i c:Nat) (_:i<l.length),c<k→((l.map f).flatten)[i*k+c]?=(f l[i]!)[c]?:=by
  intro l
  induction l with
  |nil=>intro i c h;exact absurd h (by simp)
  |cons x l ih=>
   intro i c h hc;rw[cK,om];cases i with
   |zero=>
    rw[vo,dA,gr (by rw[hk];exact hc)];simp
   |succ i=>
    rw[ia (by rw[hk,iP];omega),hk,show(i+1)*k+c - k=i*k+c by rw[iP];omega];rw[ih i c (by simpa using h) hc];simp
 by_cases ht:t<l.length*k
 ·have hd:t / k<l.length:=by rw[Nat.div_lt_iff_lt_mul hp];exact ht
  have hm:t % k<k:=fm _ hp;have h2:=key l (t / k) (t % k) hd hm;rw[show t / k*k+t % k=t by rw[Nat.mul_comm];exact Nat.div_add_mod t k] at h2;rw[h2];have hz:t % k<(f l[t / k]!).length:=by rw[hk];exact hm
  simp only[flatK,Array.toList_map,Array.toList_range,gb,xh];rw[List.getElem?_range ht,bO hz];simp only[jr];congr 1;rw[getElem!_pos _ _ (by simpa using hz)];simp[hd]
 ·have hl:((l.map f).flatten).length=l.length*k:=by
   clear ht key
   induction l with
   |nil=>simp
   |cons x l ih=>rw[cK,om,bJ,ih,hk,dR,iP];omega
  rw[sy (by simp;omega),sy ah]
theorem ac5 {w:World}{g n:Nat}{os:Array Obj}{cur:Array Value}{e:TypeId}{fr:Nat×Nat}(d:Array Value)(hb:w.heap[g]?=some (.cells cur e fr)) :
  (grow (putRow id (Sort.ahead w n) g 0 d) os).heap[g]?=some (.cells (putCells id 0 d cur) e fr):=by
 have hg:g<w.heap.size:=(re.1 hb).1;rw[heap_grow_old _ _ (by simpa using hg)];simp[putRow,mapBlock,Sort.ahead,Array.getElem?_modify,hb,onCells]
theorem ag4 {w:World}{g n:Nat}{os:Array Obj}(d:Array Value):Mod (· = g) w (grow (putRow id (Sort.ahead w n) g 0 d) os):=by
 refine⟨rfl,rfl,rfl,by simp,fun k hk aR=>?_⟩;rw[heap_grow_old _ _ (by simpa using hk)];have:g≠k:=fun e=>aR e.symm
 simp[putRow,mapBlock,Sort.ahead,Array.getElem?_modify,this]
theorem alJ (cur F:Array Value)(h:F.size≤cur.size):(putCells id 0 F cur).toList.take F.size=F.toList:=by
 apply pb;intro j
 by_cases hj:j<F.size
 ·rw[C' hj,Array.getElem?_toList,Array.getElem?_toList];simp[putCells,hj,show j<cur.size by omega]
 ·rw[List.getElem?_take_eq_none ah,sy (by simp;omega)]
theorem akj {P:Program}{ρ:Ren}(L:SlLaysF0.n6 P ρ)(aE:∀w,(isAgg (ρ.t 24)).run P w = .ok true w)(zE:∀w,(Go.sizeOf (ρ.t 24)).run P w = .ok k w)(hk:∀x,(f x).length=k)(h1:∀x,∀v∈f x,v.oneCell'=true)(cf:α→α→Int)(hO:SWO (ltOf cf))(g:Nat)
  (eg:∀args w,(callFunc g args).run P w = .ok (.enter g args) w) (hc:∀x y w,aj P g #[.agg (f x).toArray, .agg (f y).toArray] w fun v w'=>v = .int .i64 (cf x y)∧∃q os,w'=grow (w.drewN q) os) {el:TypeId}{b cap:Nat}(l:List α) (hn:l.length<2^40) (w:World) (hW:aG w el k (some b) (some ⟨b,0,none⟩) l.length cap ((l.map f).flatten)) :
  aj P (ρ.f 6) #[.slice (some ⟨b,0,none⟩) l.length cap, .func (.func g) #[] #[]] w fun v w'=>v = .tuple #[]∧∃l':List α,l'.Perm l∧(l'.Pairwise fun x y=>¬cf y x<0)∧aG w' el k (some b) (some ⟨b,0,none⟩) l.length cap ((l'.map f).flatten)∧Mod (· = b) w w':=by
 obtain⟨hlen,⟨h,_⟩|⟨b',ug,_,_,⟨h,_⟩|⟨g',k',cur,h,eE,hg,r1,r2,r3,r4⟩⟩⟩:=hW
 ·cases h
 ·cases h
 cases ug;cases h;have kX:=Rn hk l;have hH:HoldsK f k w b 0 l.toArray:=by
  intro j hj;rw[size_flatK] at hj;have vX:j<l.length*k:=by simpa using hj
  refine⟨?_,by simp[World.frozen?,hg]⟩;have e1:(cur.toList.take (l.length*k))[j]?=(flatK f k l.toArray).toList[j]?:=by rw[r4,kX]
  rw[C' vX] at e1;simp only[World.cell?,hg,dA];simp only[Option.isSome_none,vn,if_false];rw[←Array.getElem?_toList,e1,Array.getElem?_toList];rw[Array.getElem?_eq_getElem (by rw[size_flatK];exact hj),getElem!_pos _ j (by rw[size_flatK];exact hj)];rfl
 have acV:=AnyQ.slices_SortFunc L k aE zE f hk h1 cf hO g #[] b 0 cap l.toArray w eg (fun m os dk _ x y=>by
  refine(aj.calls (hc x y _)).mono ?_;rintro e w' ⟨v,rfl,rfl,hE⟩;exact⟨rfl,hE⟩) hH (re.1 hg).1 (by simp;omega)
 refine aj.Az (acV.mono ?_);rintro e w' ⟨rfl,d',n,os,⟨jw,_,uA⟩,M3,rfl⟩;have TG:d'.size=l.length:=by simpa using jw
 refine⟨_,rfl,rfl,d'.toList,?_,?_,?_,ag4 _⟩
 ·rw[show l.toArray.size=d'.size from jw.symm] at uA;have e0:d'.extract 0 d'.size=d':=by simp
  have e1:l.toArray.extract 0 d'.size=l.toArray:=by rw[jw];simp
  rw[e0,e1] at uA;simpa using uA
 ·rw[sv];intro i j hi hj mm;have h2:=M3 i j (bh _) mm (by simpa[TG] using hj);have El:i<d'.size:=by simpa using hi
  have vX:j<d'.size:=by simpa using hj
  rw[getElem!_pos d' j vX,getElem!_pos d' i El] at h2;simpa[ltOf] using h2
 ·have Mn:=Rn hk d'.toList;rw[Array.toArray_toList] at Mn;have pO:(flatK f k d').size=l.length*k:=by rw[size_flatK,TG]
  have cQ:l.length*k≤cur.size:=by rw[r3];exact y7 _ r1
  have e2:((d'.toList.map f).flatten).length=l.length*k:=by rw[←Mn,Array.length_toList,pO]
  refine⟨e2, .inr ⟨b,rfl,rfl,e2, .inr ⟨b,cap,_,rfl,bh _,ac5 _ hg,r1,r2,by simp[putCells,r3],?_⟩⟩⟩;rw[←Mn,←pO];exact alJ cur _ (by rw[pO];exact cQ)
end
end
end Go.Proofs.YtmlpbmgfmnmmmaaGreat.V.M
namespace Go.Proofs.YtmlpbmgfmnmmmaaGreat.V
open Go.Shelf
theorem nD {P:Program}{t:TypeId}{z:Value}(h:(P.info? t).bind (·.zero)=some z)(w:World):(zeroValue t).run P w = .ok z w:=by
 cases hi:P.info? t with
 |none=>rw[hi] at h;cases h
 |some i=>
  rw[hi] at h;have hz:i.zero=some z:=h;simp[zeroValue,typeInfo,hi,hz]
def kM:Ren:=⟨fun|6=>106|14=>179|15=>116|20=>260|21=>261|22=>262|23=>263|24=>264|25=>265|26=>266|27=>267|28=>193|29=>194|46=>310|47=>273|48=>274|49=>311|50=>312|57=>341|_=>0,fun|0=>0|3=>3|4=>4|5=>5|9=>9|22=>135|24=>138|25=>217|39=>224|45=>317|46=>318|50=>322|53=>325|55=>38|66=>386|70=>367|76=>420|77=>125|_=>0,fun _=>0⟩
theorem akd:Bears prog 106 (SlBodyF.n6 kM):=⟨"slices.SortFunc[[]tagcache/api.Entry,tagcache/api.Entry]",by decide,by kernel_rfl⟩
theorem ajV:Bears prog 179 (SlBodyF.n14 kM):=⟨"slices.pdqsortCmpFunc[tagcache/api.Entry]",by decide,by kernel_rfl⟩
theorem ajW:(prog).funcs[116]?=some (SlBodyF.n15 kM):=ai
theorem ajX:Bears prog 260 (SlBodyF.n20 kM):=⟨"slices.insertionSortCmpFunc[tagcache/api.Entry]",by decide,by kernel_rfl⟩
theorem ajY:Bears prog 261 (SlBodyF.n21 kM):=⟨"slices.heapSortCmpFunc[tagcache/api.Entry]",by decide,by kernel_rfl⟩
theorem ajZ:Bears prog 262 (SlBodyF.n22 kM):=⟨"slices.breakPatternsCmpFunc[tagcache/api.Entry]",by decide,by kernel_rfl⟩
theorem aj0:Bears prog 263 (SlBodyF.n23 kM):=⟨"slices.choosePivotCmpFunc[tagcache/api.Entry]",by decide,by kernel_rfl⟩
theorem aj1:Bears prog 264 (SlBodyF.n24 kM):=⟨"slices.reverseRangeCmpFunc[tagcache/api.Entry]",by decide,by kernel_rfl⟩
theorem aj2:Bears prog 265 (SlBodyF.n25 kM):=⟨"slices.partialInsertionSortCmpFunc[tagcache/api.Entry]",by decide,by kernel_rfl⟩
theorem aj3:Bears prog 266 (SlBodyF.n26 kM):=⟨"slices.partitionEqualCmpFunc[tagcache/api.Entry]",by decide,by kernel_rfl⟩
theorem aj4:Bears prog 267 (SlBodyF.n27 kM):=⟨"slices.partitionCmpFunc[tagcache/api.Entry]",by decide,by kernel_rfl⟩
theorem aj5:(prog).funcs[193]?=some (SlBodyF.n28 kM):=ai
theorem aj6:(prog).funcs[194]?=some (SlBodyF.n29 kM):=ai
theorem aj7:Bears prog 310 (SlBodyF.n46 kM):=⟨"slices.siftDownCmpFunc[tagcache/api.Entry]",by decide,by kernel_rfl⟩
theorem aj8:(prog).funcs[273]?=some (SlBodyF.n47 kM):=ai
theorem aj9:(prog).funcs[274]?=some (SlBodyF.n48 kM):=ai
theorem aka:Bears prog 311 (SlBodyF.n49 kM):=⟨"slices.medianAdjacentCmpFunc[tagcache/api.Entry]",by decide,by kernel_rfl⟩
theorem akb:Bears prog 312 (SlBodyF.n50 kM):=⟨"slices.medianCmpFunc[tagcache/api.Entry]",by decide,by kernel_rfl⟩
theorem akc:Bears prog 341 (SlBodyF.n57 kM):=⟨"slices.order2CmpFunc[tagcache/api.Entry]",by decide,by kernel_rfl⟩
theorem UE:cy prog 0=some (false,1):=ai
theorem afu:((prog).info? 0).bind (·.zero)=some ((Value.tuple #[])):=ai
theorem UF:cy prog 3=some (false,1):=ai
theorem afv:((prog).info? 3).bind (·.zero)=some ((Value.int IntKind.i64 0)):=ai
theorem UN:cy prog 4=some (false,1):=ai
theorem afD:((prog).info? 4).bind (·.zero)=some ((Value.bool false)):=ai
theorem UO:cy prog 5=some (false,1):=ai
theorem afE:((prog).info? 5).bind (·.zero)=some ((Value.int IntKind.u8 0)):=ai
theorem UP:cy prog 9=some (false,1):=ai
theorem afF:((prog).info? 9).bind (·.zero)=some ((Value.string { data:=#[]})):=ai
theorem UQ:cy prog 135=some (false,1):=ai
theorem afG:((prog).info? 135).bind (·.zero)=some ((Value.slice none 0 0)):=ai
theorem UR:cy prog 217=some (false,1):=ai
theorem afH:((prog).info? 217).bind (·.zero)=some ((Value.nilFunc)):=ai
theorem US:cy prog 224=some (false,1):=ai
theorem afI:((prog).info? 224).bind (·.zero)=some ((Value.int IntKind.u64 0)):=ai
theorem UT:cy prog 317=some (false,1):=ai
theorem afJ:((prog).info? 317).bind (·.zero)=some ((Value.int IntKind.i64 0)):=ai
theorem UU:cy prog 318=some (false,1):=ai
theorem afK:((prog).info? 318).bind (·.zero)=some ((Value.tuple #[Value.int IntKind.i64 0,Value.int IntKind.i64 0])):=ai
theorem UG:cy prog 322=some (false,1):=ai
theorem afw:((prog).info? 322).bind (·.zero)=some ((Value.tuple #[Value.int IntKind.i64 0,Value.bool false])):=ai
theorem UH:cy prog 325=some (false,1):=ai
theorem afx:((prog).info? 325).bind (·.zero)=some ((Value.int IntKind.u32 0)):=ai
theorem UI:cy prog 38=some (false,1):=ai
theorem afy:((prog).info? 38).bind (·.zero)=some ((Value.int IntKind.u64 0)):=ai
theorem UJ:cy prog 386=some (false,1):=ai
theorem afz:((prog).info? 386).bind (·.zero)=some ((Value.int IntKind.u64 0)):=ai
theorem UK:cy prog 367=some (false,1):=ai
theorem afA:((prog).info? 367).bind (·.zero)=some ((Value.pointer none)):=ai
theorem UL:cy prog 420=some (false,1):=ai
theorem afB:((prog).info? 420).bind (·.zero)=some ((Value.pointer none)):=ai
theorem UM:cy prog 125=some (false,1):=ai
theorem afC:((prog).info? 125).bind (·.zero)=some ((Value.tuple #[Value.int IntKind.i64 0,Value.int IntKind.i64 0])):=ai
theorem XP:SlLaysF0.n6 prog kM:={ mixed:=by kernel_rfl,f6:=akd,f14:=ajV,f15:=ajW,f20:=ajX,f21:=ajY,f22:=ajZ,f23:=aj0,f24:=aj1,f25:=aj2,f26:=aj3,f27:=aj4,f28:=aj5,f29:=aj6,f46:=aj7,f47:=aj8,f48:=aj9,f49:=aka,f50:=akb,f57:=akc,t0:=by kernel_rfl,a0:=fun w=>(aC.mk UE).isAgg w,z0:=fun w=>(aC.mk UE).sizeOf w,v0:=nD afu,t3:=by kernel_rfl,a3:=fun w=>(aC.mk UF).isAgg w,z3:=fun w=>(aC.mk UF).sizeOf w,v3:=nD afv,t4:=by kernel_rfl,a4:=fun w=>(aC.mk UN).isAgg w,z4:=fun w=>(aC.mk UN).sizeOf w,v4:=nD afD,t5:=by kernel_rfl,a5:=fun w=>(aC.mk UO).isAgg w,z5:=fun w=>(aC.mk UO).sizeOf w,v5:=nD afE,t9:=by kernel_rfl,a9:=fun w=>(aC.mk UP).isAgg w,z9:=fun w=>(aC.mk UP).sizeOf w,v9:=nD afF,t22:=by kernel_rfl,a22:=fun w=>(aC.mk UQ).isAgg w,z22:=fun w=>(aC.mk UQ).sizeOf w,v22:=nD afG,t25:=by kernel_rfl,a25:=fun w=>(aC.mk UR).isAgg w,z25:=fun w=>(aC.mk UR).sizeOf w,v25:=nD afH,t39:=by kernel_rfl,a39:=fun w=>(aC.mk US).isAgg w,z39:=fun w=>(aC.mk US).sizeOf w,v39:=nD afI,t45:=by kernel_rfl,a45:=fun w=>(aC.mk UT).isAgg w,z45:=fun w=>(aC.mk UT).sizeOf w,v45:=nD afJ,t46:=by kernel_rfl,a46:=fun w=>(aC.mk UU).isAgg w,z46:=fun w=>(aC.mk UU).sizeOf w,v46:=nD afK,t50:=by kernel_rfl,a50:=fun w=>(aC.mk UG).isAgg w,z50:=fun w=>(aC.mk UG).sizeOf w,v50:=nD afw,t53:=by kernel_rfl,a53:=fun w=>(aC.mk UH).isAgg w,z53:=fun w=>(aC.mk UH).sizeOf w,v53:=nD afx,t55:=by kernel_rfl,a55:=fun w=>(aC.mk UI).isAgg w,z55:=fun w=>(aC.mk UI).sizeOf w,v55:=nD afy,t66:=by kernel_rfl,a66:=fun w=>(aC.mk UJ).isAgg w,z66:=fun w=>(aC.mk UJ).sizeOf w,v66:=nD afz,t70:=by kernel_rfl,a70:=fun w=>(aC.mk UK).isAgg w,z70:=fun w=>(aC.mk UK).sizeOf w,v70:=nD afA,t76:=by kernel_rfl,a76:=fun w=>(aC.mk UL).isAgg w,z76:=fun w=>(aC.mk UL).sizeOf w,v76:=nD afB,t77:=by kernel_rfl,a77:=fun w=>(aC.mk UM).isAgg w,z77:=fun w=>(aC.mk UM).sizeOf w,v77:=nD afC}
end Go.Proofs.YtmlpbmgfmnmmmaaGreat.V
