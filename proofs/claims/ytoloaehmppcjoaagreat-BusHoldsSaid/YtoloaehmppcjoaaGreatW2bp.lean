/-
  Parts of the proof. No condition.
-/
import Derived.Test.YtoloaehmppcjoaaGreatW2bo
import Derived.Test.YtoloaehmppcjoaaGreatW2ad
import Derived.Shelf.SlSortCmp.WholeK
set_option linter.unusedVariables false
set_option linter.unusedSimpArgs false
set_option maxRecDepth 8000
set_option maxHeartbeats 8000000
open Go.Proofs.Tryz
namespace Go.Proofs.YtoloaehmppcjoaaGreat.V.M
section
attribute [local irreducible] GO GX aB eX fz aF aS aq star
def sv (met:List Bs)(lv:List Bs)(to:Bs):List Bs:=if to∈met++lv then lv else lv++[to]
def wJ (f:Bs→List Bs)(met last:List Bs):List Bs:=(last.flatMap f).foldl (sv met) []
inductive lR (f:Bs→List Bs):List Bs→List Bs→List (List Bs)→Prop
 |stop {met:List Bs}:lR f met [] []
 |step {met last:List Bs}{r:List (List Bs)}(h:last≠[]) (hr:lR f (met++wJ f met last) (fj (wJ f met last)) r):lR f met last ((if wJ f met last=[] then[] else[fj (wJ f met last)])++r)
theorem lR.Bn {f:Bs→List Bs}{met last:List Bs}{a b:List (List Bs)}(h:lR f met last a)(k:lR f met last b):a=b:=by
 induction h generalizing b with
 |stop=>cases k with
  |stop=>rfl
  |step h=>exact absurd rfl h
 |step h hr ih=>cases k with
  |stop=>exact absurd rfl h
  |step _ wy=>rw[ih wy]
open Classical in
noncomputable def NX (E:Bs→Bs→Prop)(k:Bs):List (List Bs):=if h:∃r,lR (ie E) [k] [k] r then Classical.choose h else[]
theorem VF {E:Bs→Bs→Prop}{k:Bs}{r:List (List Bs)}(h:lR (ie E) [k] [k] r):NX E k=r:=by
 have hx:∃r,lR (ie E) [k] [k] r:=⟨r,h⟩
 unfold NX;rw[dif_pos hx];exact(Classical.choose_spec hx).Bn h
theorem agI {met lv:List Bs}(h:(met++lv).Nodup)(to:Bs):(met++sv met lv to).Nodup:=by
 unfold sv;split
 ·exact h
 ·rename_i hn
  rw[←cS,ga];exact⟨h,by simp,fun a ha b hb e=>by simp at hb;subst hb e;exact hn ha⟩
theorem afe (E:Bs→Bs→Prop)(k:Bs):(ie E k).Nodup:=by
 unfold ie;split
 ·rename_i hx
  exact(Classical.choose_spec hx).2.1
 ·simp
theorem afd {E:Bs→Bs→Prop}{k c:Bs}(h:c∈ie E k):E k c:=by
 unfold ie at h;split at h
 ·rename_i hx
  exact((Classical.choose_spec hx).2.2 c).1 h
 ·cases h
theorem agJ {P:Bs→Prop}{met lv:List Bs}(h:∀x∈lv,P x){to:Bs}(ht:P to):∀x∈sv met lv to,P x:=by
 unfold sv;split
 ·exact h
 ·intro x hx
  rcases cx.1 hx with hx|hx
  ·exact h x hx
  ·simp at hx;subst hx;exact ht
theorem Cy:∀{l m:List Bs},l.Nodup→(∀x∈l,x∈m)→l.length≤m.length
 | [],_,_,_=>bh _
 |x::l,m,h,hs=>by
  rw[eQ] at h;have h1:x∈m:=hs x (by simp);have h2:=Cy (m:=m.erase x) h.2 fun y hy=>(List.mem_erase_of_ne fun e=>h.1 (by rw[←e];exact hy)).2 (hs y (by simp[hy]))
  have h3:=List.length_erase_of_mem h1;have h4:=tX h1;rw[ek];omega
structure PJ where
 met:List Bs
 last:Lv
 Ls:List Lv
 q:Option Nat×Nat
structure YM (f:Bs→List Bs)(U:List Bs)(k:Bs)(y:PJ):Prop where
 nd:y.met.Nodup
 sub:∀x∈y.met,x∈U
 am9:∀x∈y.last.l,x∈U
 go:∀r,lR f y.met y.last.l r→lR f [k] [k] (y.Ls.map (·.l)++r)
 len:y.Ls.length≤y.met.length
 cat:(iZ y.Ls).length≤y.met.length
 lens:∀x∈y.Ls,x.l.length≤U.length
 ll:y.last.l.length≤U.length
structure YL (f:Bs→List Bs)(k:Bs)(y:List Lv×Option Nat×Nat):Prop where
 lv:lR f [k] [k] (y.1.map (·.l))
 len:y.1.length≤65537
 cat:(iZ y.1).length≤65537
 lens:∀x∈y.1,x.l.length≤65537
abbrev Oa (M:List (Bs×Bool))(met:List Bs):Prop:=∀x,ay M x=if x∈met then some true else none
theorem akU {o:Og}{w:World}{q:Option Nat}{n c:Nat}{l:List Bs}(hn:l.length=n)(hz:n≤100000)(hs:Start o w [aq 9 1 q n c (aK l)]):aj prog 248 [.slice (aA q) n c].toArray w (aX o (fun v:Value=>v) (fun _=>True) (fun _=>[aq 9 1 q n c (aK (fj l))])):=by
 have hH:=hs.sh;refine(XP q (aA q) c n l hn w (hH.own az.here) (fun x hx=>by cases q with
  |none=>cases hx
  |some b=>cases hx;rfl) hz).mono fun v w' ⟨h1,h2⟩=>⟨v,rfl,trivial,(hH.lG bA.here (fun _=>h1) (h2.weaken fun k _ hk=>hk) (fun b hb => .inl hb)).to⟩
theorem aju {o:Og}{w:World}{g:Nat}{A:dX}(k:Bs)(hk:bf k=true)(hs:Start o w [gL g A]) :
  aj prog 362 [str k, .func (.func 272) #[ak g] #[]].toArray w (aX o (fun y:List Lv×Option Nat×Nat => .slice (aA y.2.1) y.1.length y.2.2) (YL (ie A.E) k) (fun y=>[gL g A,aq 22 1 y.2.1 y.1.length y.2.2 (ph y.1),eX y.1])):=by
 obtain⟨⟨G,hA⟩,hG⟩:=Start.un hs;obtain⟨U,R6,Mf,R7,hU4⟩:∃U:List Bs,U.length≤65537∧k∈U∧(∀x c,c∈ie A.E x→c∈U)∧∀x∈U,x.length≤250:=by
  have hi:=hA.inv;have h1:=hi.len;have h2:=hi.eZ.mx;refine⟨k::G.list.map (·.key),by simp;omega,by simp,fun x c hc=>?_,fun x hx=>?_⟩
  ·have hc:=afd hc;rw[←hA.E] at hc;obtain⟨a,b,y,z,_,_,_,h3,rfl⟩:=hc;exact fP _ (bG.2 ⟨z,bD h3,rfl⟩)
  ·rcases bU.1 hx with rfl|hx
   ·exact(dM hk).2
   ·obtain⟨z,hz,rfl⟩:=bG.1 hx;exact(dM (hi.keys z hz)).2
 clear hG hA;have hU5:∀x,(ie A.E x).length≤65537:=fun x=>dF (Cy (afe _ x) (R7 x)) R6
 have hH:=hs.sh;refine aj.enter func362 rfl ntmps362 rfl (gh ?_);refine GX.yD str Value.bool (h:=fun m w hH=>gh ?_);refine GX.Fx (v:=true) (h:=fun w hH=>gh ?_);refine GX.oF (h:=fun b1 w hH=>gh ?_);replace hH:=hH.freeze az.here;replace hH:=hH.Rn;have aQ:=SH.cF (el:=22) (sz:=1) (q:=none) (n:=0) (c:=0) (cs:=[]) hH (Mod.refl w) (fun _ h=>by cases h) (aH.nil _ _ _);refine GC.bR [1,6] (fun y:PJ=>[(5, .slice (aA y.q.1) y.Ls.length y.q.2),(7,Co y.last)]) (fun y w'=>YM (ie A.E) U k y∧∃M,Oa M y.met∧SH o w' [aq 22 1 y.q.1 y.Ls.length y.q.2 (ph y.Ls),eX y.Ls,aF (aA y.last.q.1) (aK y.last.l),aS m str Value.bool M,gL g A]) (fun y=>2*(65540 - y.met.length)+if y.last.l=[] then 0 else 1) ⟨[k],⟨[k],(some b1,1)⟩,[],(none,0)⟩ rfl rfl ⟨⟨by simp,fun x hx=>by simp at hx;subst hx;exact Mf,fun x hx=>by simp at hx;subst hx;exact Mf,fun r h=>h,by simp,by simp[iZ],fun _ h=>(by cases h),tX Mf⟩,bC [] k true,fun x=>?_,aQ.to⟩ ?_
 ·rw[kU]
  by_cases e:x=k
  ·simp[e]
  ·simp[e,ay]
 rintro⟨met,⟨last,lq,lc⟩,Ls,q,c⟩ w ⟨⟨bT,eO,S8,Io,hlen,Mn,IC,lA⟩,M,hM,hH⟩;dsimp only at bT eO S8 Io hlen Mn IC lA hM hH ⊢;have BS:=Cy bT eO;have amD:=Cy bT eO;refine gh ?_;refine ifs (fun h1=>?_) (fun h1=>?_)<;>refine gh ?_
 ·have gM:0<last.length:=by simpa using h1
  refine GC.bR [1,5,6,21,22] (fun y:Nat×List Bs×Option Nat×Nat=>[(8, .slice (aA y.2.2.1) y.2.1.length y.2.2.2),(23,iV y.1)]) (fun y w'=>y.1≤last.length∧y.2.1=((last.take y.1).flatMap (ie A.E)).foldl (sv met) []∧(met++y.2.1).Nodup∧(∀x∈y.2.1,x∈U)∧∃M,Oa M (met++y.2.1)∧SH o w' [aq 9 1 y.2.2.1 y.2.1.length y.2.2.2 (aK y.2.1),aS m str Value.bool M,aq 22 1 q Ls.length c (ph Ls),eX Ls,aF (aA lq) (aK last),gL g A]) (fun y=>last.length - y.1) (0,[],none,0) rfl rfl ⟨bh _,by simp,by simpa using bT,fun _ h=>(by cases h),M,by simpa using hM,?_⟩ ?_
  ·have aQ:=SH.cF (el:=9) (sz:=1) (q:=none) (n:=0) (c:=0) (cs:=[]) hH (Mod.refl w) (fun _ h=>by cases h) (aH.nil _ _ _);exact aQ.to
  rintro⟨i,lv,q8,c8⟩ w ⟨hi,x5,hnl,EC,M,hM,hH⟩;dsimp only at hi x5 hnl EC hM hH ⊢;have amL:met.length+lv.length≤U.length:=by
   have:=Cy hnl fun x hx=>(cx.1 hx).elim (eO x) (EC x)
   simpa using this
  refine gh ?_;refine ifs (fun h2=>?_) (fun h2=>?_)<;>refine gh ?_
  ·have ni:i<last.length:=by simpa using h2
   obtain⟨x,hx⟩:∃x,last[i]?=some x:=⟨_,bO ni⟩
   have hxU:=S8 x (bD hx);have Al:=hU4 x hxU;obtain⟨qb,rfl⟩:∃qb,lq=some qb:=by
    obtain⟨b,o,e,_⟩:=(hH.bL (x:=aF (aA lq) (aK last)) (a:=aA lq) (cs:=aK last) bP).sC (by simpa[aK] using gM);cases lq with
    |none=>cases e
    |some b=>exact⟨b,rfl⟩
   refine gh ?_;refine GX.next rfl (GO.cT (hv:=show(aK last)[i]?=some (str x) by simp[aK,hx]) (h:=gh ?_));refine GX.ef (hc:=fun _ hs=>aci x ah hs) (h:=?_);rintro⟨q2,c2⟩ w _ hE hH;replace hH:=SH.ap hH;have hK5:=hU5 x;have RM:=R7 x;generalize hK:ie A.E x=K at hH hK5 RM;refine gh ?_;refine GC.bR [1,5,6,21,22,23,29,30] (fun y:Nat×List Bs×Option Nat×Nat=>[(8, .slice (aA y.2.2.1) y.2.1.length y.2.2.2),(31,iV y.1)]) (fun y w'=>y.1≤K.length∧y.2.1=(K.take y.1).foldl (sv met) lv∧(met++y.2.1).Nodup∧(∀x∈y.2.1,x∈U)∧∃M,Oa M (met++y.2.1)∧SH o w' [aq 9 1 y.2.2.1 y.2.1.length y.2.2.2 (aK y.2.1),aq 9 1 q2 K.length c2 (aK K),aS m str Value.bool M,aq 22 1 q Ls.length c (ph Ls),eX Ls,aF (aA (some qb)) (aK last),gL g A]) (fun y=>K.length - y.1) (0,lv,q8,c8) rfl rfl ⟨bh _,by simp,hnl,EC,M,hM,hH.to⟩ ?_;rintro⟨j,u5,q9,c9⟩ w ⟨hj,IG,BX,ED,M,hM,hH⟩;dsimp only at hj IG BX ED hM hH ⊢;have amM:met.length+u5.length≤U.length:=by
    have:=Cy BX fun x hx=>(cx.1 hx).elim (eO x) (ED x)
    simpa using this
   refine gh ?_;refine ifs (fun h3=>?_) (fun h3=>?_)<;>refine gh ?_
   ·have Bw:j<K.length:=by simpa using h3
    obtain⟨t,ht⟩:∃t,K[j]?=some t:=⟨_,bO Bw⟩
    have htU:=RM t (bD ht);obtain⟨qk,rfl⟩:=hH.pos (el:=9) (sz:=1) (q:=q2) (n:=K.length);have dp:(K.take (j+1)).foldl (sv met) lv=sv met u5 t:=by rw[gv,ht,vC,←IG];rfl
    refine gh ?_;refine GX.next rfl (GO.cT (hv:=show(aK K)[j]?=some (str t) by simp[aK,ht]) (h:=gh ?_))
    by_cases jd:t∈met++u5
    ·refine GX.mN (hV:=show jA Value.bool (Value.bool false) false (ay M t) = .bool true by rw[hM t,if_pos jd];rfl) (h:=gh ?_);refine GQ.bj (j+1,u5,q9,c9) rfl ⟨by dsimp only;omega,by dsimp only;rw[dp,sv,if_pos jd],BX,ED,M,hM,hH.to⟩ (by dsimp only;omega)
    ·refine GX.mN (hV:=show jA Value.bool (Value.bool false) false (ay M t) = .bool false by rw[hM t,if_neg jd];rfl) (h:=gh ?_);refine GX.Fy (v:=true) (h:=fun w hH=>gh ?_);refine GX.nR (h1:=by exact yU [t]) (h:=fun q c w _ hH=>gh ?_);have e3:sv met u5 t=u5++[t]:=by rw[sv,if_neg jd]
     refine GQ.bj (j+1,u5++[t],_,_) (by dsimp only;rw[bH];rfl) ⟨by dsimp only;omega,by dsimp only;rw[dp,e3],by rw[←e3];exact agI BX t,by rw[←e3];exact agJ ED htU,bC M t true,fun y=>?_,?_⟩ (by dsimp only;omega)
     ·rw[kU,hM y]
      by_cases e:y=t
      ·simp[e]
      ·simp[e]
     ·dsimp only;rw[show aK (u5++[t])=aK u5++[str t] by simp[aK],bH];exact hH.to
   ·obtain rfl:j=K.length:=by omega
    rw[fw (aY _)] at IG;refine gh ?_;refine GQ.bj (i+1,u5,q9,c9) rfl ⟨by dsimp only;omega,?_,BX,ED,M,hM,hH.to⟩ (by dsimp only;omega);dsimp only;rw[gv,hx,List.flatMap_append,vC,←x5,IG];simp[hK]
  ·obtain rfl:i=last.length:=by omega
   rw[fw (aY _)] at x5;have ID:lv=wJ (ie A.E) met last:=x5;refine gh ?_;refine GX.bZ (hc:=fun _ hs=>akU (l:=lv) rfl ah hs) (h:=?_);rintro _ w _ hH;replace hH:=SH.ap hH;have ep:(fj lv).length=lv.length:=(lJ lv).length_eq;have sg:∀x,x∈fj lv↔x∈lv:=fun x=>(lJ lv).mem_iff
   refine gh ?_;refine ifs (fun h3=>?_) (fun h3=>?_)<;>refine gh ?_
   ·have MR:lv≠[]:=by
     rintro rfl;simp at h3
    refine GX.nR (h1:=by simp[Value.oneCell']) (h:=fun q c w _ hH=>gh ?_);replace hH:=SH.freeze (el:=9) (sz:=1) (q:=q8) (n:=lv.length) (c:=c8) (cs:=aK (fj lv)) hH bP;replace hH:=hH.DA bP;replace hH:=SH.abQ (L:=Ls) (y:=⟨fj lv,(q8,c8)⟩) hH;refine GQ.bj ⟨met++lv,⟨fj lv,(q8,c8)⟩,Ls++[⟨fj lv,(q8,c8)⟩],(_,_)⟩ (by dsimp only[Co];rw[ep,bH];rfl) ⟨⟨hnl,fun x hx=>(cx.1 hx).elim (eO x) (EC x),fun x hx=>EC x ((sg x).1 hx),fun r hr=>?_,?_,?_,fun x hx=>?_,by dsimp only;omega⟩,M,hM,?_⟩ ?_
    ·have h5:=Io _ (lR.step (fun e=>by rw[e] at gM;exact absurd gM (by simp)) (by rw[←ID];exact hr));rw[←ID,if_neg MR] at h5;simpa using h5
    ·have:=xw.2 MR;simp only[bH,gW];omega
    ·simp only[iZ,eA,A0,bH,cJ,tW,oL,List.flatten_nil,fB] at Mn ⊢;omega
    ·rcases cx.1 hx with hx|hx
     ·exact IC x hx
     ·simp at hx;subst hx;dsimp only;omega
    ·dsimp only;rw[show ph (Ls++[⟨fj lv,(q8,c8)⟩])=ph Ls++[Value.slice (aA q8) lv.length c8] by simp[ph,Co,ep],bH];exact hH.to
    ·have:=xw.2 MR;simp only[bH];split<;>split<;>omega
   ·obtain rfl:lv=[]:=gu ah;replace hH:=SH.freeze (el:=9) (sz:=1) (q:=q8) (n:=0) (c:=c8) (cs:=aK (fj [])) hH bP;refine gh ?_;have e0:fj ([]:List Bs)=[]:=gu (by rw[ep];rfl);rw[e0] at hH;refine GQ.bj ⟨met,⟨[],(q8,c8)⟩,Ls,(q,c)⟩ rfl ⟨⟨bT,eO,fun _ h=>(by cases h),fun r hr=>?_,hlen,Mn,IC,bh _⟩,M,by simpa using hM,hH.to⟩ ?_
    ·have h5:=Io _ (lR.step (fun e=>by rw[e] at gM;exact absurd gM (by simp)) (by rw[←ID,e0,fB];exact hr));rw[←ID,if_pos rfl] at h5;simpa using h5
    ·dsimp only;rw[if_pos rfl,if_neg (fun e=>by rw[e] at gM;exact absurd gM (by simp))];omega
 ·obtain rfl:last=[]:=by simpa using h1
  refine gh ?_;have h5:=Io _ lR.stop;rw[fB] at h5;refine⟨(Ls,q,c),rfl,⟨h5,by dsimp only;omega,by dsimp only;omega,fun x hx=>dF (IC x hx) R6⟩,hH.to⟩
end
section
attribute [local irreducible] GO GX aB eX fz aF aS aq star
def dX.tick (A:dX):dX:={ A with K:=A.K+1}
theorem Z3 {o:Og}{w:World}{g:Nat}{A:dX}(hK:A.K<2^40)(hs:Start o w [gL g A]) :
  aj prog 389 [ak g].toArray w (Po o (iV 0) [gL g A.tick]):=by
 have hH:=hs.sh;refine aj.enter func389 rfl ntmps389 rfl (gh ?_);refine GX.bZ (hc:=fun _ hs=>acm [97] [97] 0 ah hK hs) (h:=?_);rintro⟨z,v,e⟩ w he hH;replace hH:=SH.ap hH;dsimp only at he;refine gh ?_;rw[show decide ((z,v,e).2.2=1)=false from bQ he];refine gh ?_;exact⟨rfl,hH.to⟩
theorem Z2 {o:Og}{w:World}{g:Nat}{A:dX}(k:Bs)(hK:A.K<2^40)(hs:Start o w [gL g A]) :
  aj prog 361 [ak g,str k].toArray w (Po o (iV (if bf k then 0 else 2)) [gL g A.tick]):=by
 have hH:=hs.sh;refine aj.enter func361 rfl ntmps361 rfl (gh ?_);refine GX.bF (hc:=fun _ hs=>Z3 hK hs) (h:=fun w hH=>gh ?_);refine gh ?_;refine GX.da (sr k _) rfl rfl rfl rfl rfl rfl (gh ?_);cases hk:bf k with
 |true=>refine gh ?_;exact⟨rfl,hH.to⟩
 |false=>refine gh ?_;exact⟨rfl,hH.to⟩
open Classical in
noncomputable def cO (E:Bs→Bs→Prop)(k:Bs):List Bs:=if bf k then(NX E k).flatten else[]
theorem agv {o:Og}{w:World}{g:Nat}{A:dX}(k:Bs)(hK:A.K<2^40)(hs:Start o w [gL g A]) :
  aj prog 319 [ak g,str k].toArray w (aX o (fun y:List Lv×Option Nat×Nat => .tuple #[.slice (aA y.2.1) y.1.length y.2.2,iV (if bf k then 0 else 2)]) (fun y=>iZ y.1=cO A.E k∧y.1.length≤65537∧(iZ y.1).length≤65537∧∀x∈y.1,x.l.length≤65537) (fun y=>[gL g A.tick,aq 22 1 y.2.1 y.1.length y.2.2 (ph y.1),eX y.1])):=by
 have hH:=hs.sh;refine aj.enter func319 rfl ntmps319 rfl (gh ?_);refine GX.bF (hc:=fun _ hs=>Z2 k hK hs) (h:=fun w hH=>gh ?_);cases hk:bf k with
 |false=>
  have aQ:=SH.cF (el:=22) (sz:=1) (q:=none) (n:=0) (c:=0) (cs:=[]) hH.Rn (Mod.refl w) (fun _ h=>by cases h) (aH.nil _ _ _);refine gh ?_;exact⟨([],none,0),rfl,⟨by simp[iZ,cO,hk],by simp,by simp[iZ],fun _ h=>by cases h⟩,aQ.to⟩
 |true=>
  refine gh ?_;refine GX.bZ (hc:=fun _ hs=>aju (A:=A.tick) k hk hs) (h:=?_);rintro⟨Ls,q,c⟩ w ⟨h1,h2,h3,h4⟩ hH;replace hH:=SH.ap hH;refine gh ?_;refine⟨(Ls,q,c),rfl,⟨?_,h2,h3,h4⟩,hH.to⟩;have h5:lR (ie A.E) [k] [k] (Ls.map (·.l)):=h1;rw[cO,if_pos hk,VF h5];rfl
theorem Zp {o:Og}{w:World}{g:Nat}{A:dX}(k:Bs)(hK:A.K<2^40)(hs:Start o w [gL g A]) :
  aj prog 246 [ak g,str k].toArray w (aX o (fun y:Option Nat×Nat => .tuple #[.slice (aA y.1) (cO A.E k).length y.2,iV (if bf k then 0 else 2)]) (fun _=>(cO A.E k).length≤65537) (fun y=>[gL g A.tick,aq 9 1 y.1 (cO A.E k).length y.2 (aK (cO A.E k))])):=by
 have hH:=hs.sh;refine aj.enter func246 rfl ntmps246 rfl (gh ?_);refine GX.bZ (hc:=fun _ hs=>agv k hK hs) (h:=?_);rintro⟨Ls,q,c⟩ w ⟨h1,h2,h3,h4⟩ hH;replace hH:=SH.ap hH;dsimp only at h1 h2 h3 h4;refine gh ?_;refine GX.ef (hc:=fun _ hs=>aaA (L:=Ls) (q:=q) (c:=c) rfl ah (fun y hy=>by have:=h4 y hy;omega) ah hs) (h:=?_);rintro⟨q2,c2⟩ w _ hE hH;replace hH:=SH.ap hH;refine gh ?_;rw[h1] at h3 hH ⊢;exact⟨(q2,c2),rfl,h3,hH.to⟩
end
section
open Go.RowKit Go.Shelf Go.Sort
theorem Ext.grown {w w':World}(h:Ext w w')(h4:w.drawn≤w'.drawn):∃q os,w'=grow (w.drewN q) os:=by
 refine⟨w'.drawn - w.drawn,w'.heap.extract w.heap.size w'.heap.size,?_⟩;have h1:=h.os;have h2:=h.tape;have h3:=h.output;have h5:=h.size;have h6:=h.block;have e:w'.heap=w.heap++w'.heap.extract w.heap.size w'.heap.size:=by
  apply Array.ext_getElem?;intro i;rw[Array.getElem?_append];split
  ·rename_i hi;exact h6 i hi id
  ·rename_i hi
   rw[Array.getElem?_extract];simp only[Nat.min_self];split
   ·congr 1;omega
   ·exact Array.getElem?_eq_none ah
 cases w with
 |mk hp tp dr os out=>
  cases w' with
  |mk z7 tp' dr' os' anb=>
   simp only at h1 h2 h3 h4 e;subst h1 h2 h3;simp only[grow,World.drewN,World.mk.injEq,true_and,and_true];exact⟨e,by omega⟩
section
variable {α:Type}[Inhabited α]{f:α→List Value}{k:Nat}
theorem Rj (hk:∀x,(f x).length=k):∀l:List α,(flatK f k l.toArray).toList=(l.map f).flatten:=by
 intro l;apply pB;intro t
 rcases Nat.eq_zero_or_pos k with h0|hp
 ·have e:(l.map f).flatten=[]:=by
   apply List.flatten_eq_nil_iff.2;intro x hx;obtain⟨y,_,rfl⟩:=bG.1 hx;exact gu ((hk y).trans h0)
  rw[e];simp[flatK,h0]
 have key:∀(l:List α) (i c:Nat) (_:i<l.length),c<k→((l.map f).flatten)[i*k+c]?=(f l[i]!)[c]?:=by
  intro l
  induction l with
  |nil=>intro i c h;exact absurd h (by simp)
  |cons x l ih=>
   intro i c h hc;rw[cJ,oL];cases i with
   |zero=>
    rw[vB,dz,gp (by rw[hk];exact hc)];simp
   |succ i=>
    rw[iD (by rw[hk,jm];omega),hk,show(i+1)*k+c - k=i*k+c by rw[jm];omega];rw[ih i c (by simpa using h) hc];simp
 by_cases ht:t<l.length*k
 ·have hd:t / k<l.length:=by rw[Nat.div_lt_iff_lt_mul hp];exact ht
  have hm:t % k<k:=e7 _ hp;have h2:=key l (t / k) (t % k) hd hm;rw[show t / k*k+t % k=t by rw[Nat.mul_comm];exact Nat.div_add_mod t k] at h2;rw[h2];have hz:t % k<(f l[t / k]!).length:=by rw[hk];exact hm
  simp only[flatK,Array.toList_map,Array.toList_range,gG,xu];rw[List.getElem?_range ht,bO hz];simp only[jV];congr 1;rw[getElem!_pos _ _ (by simpa using hz)];simp[hd]
 ·have hl:((l.map f).flatten).length=l.length*k:=by
   clear ht key
   induction l with
   |nil=>simp
   |cons x l ih=>rw[cJ,oL,bH,ih,hk,ek,jm];omega
  rw[pH (by simp;omega),pH ah]
theorem adh {w:World}{g n:Nat}{os:Array Obj}{cur:Array Value}{e:TypeId}{fr:Nat×Nat}(d:Array Value)(hb:w.heap[g]?=some (.cells cur e fr)) :
  (grow (putRow id (Sort.ahead w n) g 0 d) os).heap[g]?=some (.cells (putCells id 0 d cur) e fr):=by
 have hg:g<w.heap.size:=(rA.1 hb).1;rw[heap_grow_old _ _ (by simpa using hg)];simp[putRow,mapBlock,Sort.ahead,Array.getElem?_modify,hb,onCells]
theorem ag2 {w:World}{g n:Nat}{os:Array Obj}(d:Array Value):Mod (· = g) w (grow (putRow id (Sort.ahead w n) g 0 d) os):=by
 refine⟨rfl,rfl,rfl,by simp,fun k hk aP=>?_⟩;rw[heap_grow_old _ _ (by simpa using hk)];have:g≠k:=fun e=>aP e.symm
 simp[putRow,mapBlock,Sort.ahead,Array.getElem?_modify,this]
theorem alD (cur F:Array Value)(h:F.size≤cur.size):(putCells id 0 F cur).toList.take F.size=F.toList:=by
 apply pB;intro j
 by_cases hj:j<F.size
 ·rw[C5 hj,Array.getElem?_toList,Array.getElem?_toList];simp[putCells,hj,show j<cur.size by omega]
 ·rw[List.getElem?_take_eq_none ah,pH (by simp;omega)]
theorem akb {P:Program}{ρ:Ren}(L:SlLaysF0.n6 P ρ)(aE:∀w,(isAgg (ρ.t 24)).run P w = .ok true w)(zE:∀w,(Go.sizeOf (ρ.t 24)).run P w = .ok k w)(hk:∀x,(f x).length=k)(h1:∀x,∀v∈f x,v.oneCell'=true)(cf:α→α→Int)(hO:SWO (ltOf cf))(g:Nat)
  (eg:∀args w,(callFunc g args).run P w = .ok (.enter g args) w) (hc:∀x y w,aj P g #[.agg (f x).toArray, .agg (f y).toArray] w fun v w'=>v = .int .i64 (cf x y)∧∃q os,w'=grow (w.drewN q) os) {el:TypeId}{b cap:Nat}(l:List α) (hn:l.length<2^40) (w:World) (hW:aH w el k (some b) (some ⟨b,0,none⟩) l.length cap ((l.map f).flatten)) :
  aj P (ρ.f 6) #[.slice (some ⟨b,0,none⟩) l.length cap, .func (.func g) #[] #[]] w fun v w'=>v = .tuple #[]∧∃l':List α,l'.Perm l∧(l'.Pairwise fun x y=>¬cf y x<0)∧aH w' el k (some b) (some ⟨b,0,none⟩) l.length cap ((l'.map f).flatten)∧Mod (· = b) w w':=by
 obtain⟨hlen,⟨h,_⟩|⟨b',uz,_,_,⟨h,_⟩|⟨g',k',cur,h,dR,hg,r1,r2,r3,r4⟩⟩⟩:=hW
 ·cases h
 ·cases h
 cases uz;cases h;have ly:=Rj hk l;have hH:HoldsK f k w b 0 l.toArray:=by
  intro j hj;rw[size_flatK] at hj;have wj:j<l.length*k:=by simpa using hj
  refine⟨?_,by simp[World.frozen?,hg]⟩;have e1:(cur.toList.take (l.length*k))[j]?=(flatK f k l.toArray).toList[j]?:=by rw[r4,ly]
  rw[C5 wj] at e1;simp only[World.cell?,hg,dz];simp only[Option.isSome_none,vA,if_false];rw[←Array.getElem?_toList,e1,Array.getElem?_toList];rw[Array.getElem?_eq_getElem (by rw[size_flatK];exact hj),getElem!_pos _ j (by rw[size_flatK];exact hj)];rfl
 have ac6:=AnyQ.slices_SortFunc L k aE zE f hk h1 cf hO g #[] b 0 cap l.toArray w eg (fun m os dk _ x y=>by
  refine(aj.calls (hc x y _)).mono ?_;rintro e w' ⟨v,rfl,rfl,hE⟩;exact⟨rfl,hE⟩) hH (rA.1 hg).1 (by simp;omega)
 refine aj.Ay (ac6.mono ?_);rintro e w' ⟨rfl,d',n,os,⟨jR,_,uO⟩,Nf,rfl⟩;have TI:d'.size=l.length:=by simpa using jR
 refine⟨_,rfl,rfl,d'.toList,?_,?_,?_,ag2 _⟩
 ·rw[show l.toArray.size=d'.size from jR.symm] at uO;have e0:d'.extract 0 d'.size=d':=by simp
  have e1:l.toArray.extract 0 d'.size=l.toArray:=by rw[jR];simp
  rw[e0,e1] at uO;simpa using uO
 ·rw[sP];intro i j hi hj mH;have h2:=Nf i j (bh _) mH (by simpa[TI] using hj);have Eu:i<d'.size:=by simpa using hi
  have wj:j<d'.size:=by simpa using hj
  rw[getElem!_pos d' j wj,getElem!_pos d' i Eu] at h2;simpa[ltOf] using h2
 ·have Mx:=Rj hk d'.toList;rw[Array.toArray_toList] at Mx;have oq:(flatK f k d').size=l.length*k:=by rw[size_flatK,TI]
  have cV:l.length*k≤cur.size:=by rw[r3];exact y4 _ r1
  have e2:((d'.toList.map f).flatten).length=l.length*k:=by rw[←Mx,Array.length_toList,oq]
  refine⟨e2, .inr ⟨b,rfl,rfl,e2, .inr ⟨b,cap,_,rfl,bh _,adh _ hg,r1,r2,by simp[putCells,r3],?_⟩⟩⟩;rw[←Mx,←oq];exact alD cur _ (by rw[oq];exact cV)
end
end
end Go.Proofs.YtoloaehmppcjoaaGreat.V.M
namespace Go.Proofs.YtoloaehmppcjoaaGreat.V
open Go.Shelf
theorem nL {P:Program}{t:TypeId}{z:Value}(h:(P.info? t).bind (·.zero)=some z)(w:World):(zeroValue t).run P w = .ok z w:=by
 cases hi:P.info? t with
 |none=>rw[hi] at h;cases h
 |some i=>
  rw[hi] at h;have hz:i.zero=some z:=h;simp[zeroValue,typeInfo,hi,hz]
def kY:Ren:=⟨fun|6=>130|14=>204|15=>140|20=>288|21=>289|22=>290|23=>291|24=>292|25=>293|26=>294|27=>295|28=>218|29=>219|46=>342|47=>301|48=>302|49=>343|50=>344|57=>380|_=>0,fun|0=>0|3=>3|4=>4|5=>5|9=>9|22=>156|24=>159|25=>240|39=>246|45=>340|46=>341|50=>345|53=>348|55=>38|66=>414|70=>395|76=>455|77=>222|_=>0,fun _=>0⟩
theorem aj5:Bears prog 130 (SlBodyF.n6 kY):=⟨"slices.SortFunc[[]tagcache/api.Entry,tagcache/api.Entry]",by decide,by kernel_rfl⟩
theorem ajN:Bears prog 204 (SlBodyF.n14 kY):=⟨"slices.pdqsortCmpFunc[tagcache/api.Entry]",by decide,by kernel_rfl⟩
theorem ajO:(prog).funcs[140]?=some (SlBodyF.n15 kY):=ai
theorem ajP:Bears prog 288 (SlBodyF.n20 kY):=⟨"slices.insertionSortCmpFunc[tagcache/api.Entry]",by decide,by kernel_rfl⟩
theorem ajQ:Bears prog 289 (SlBodyF.n21 kY):=⟨"slices.heapSortCmpFunc[tagcache/api.Entry]",by decide,by kernel_rfl⟩
theorem ajR:Bears prog 290 (SlBodyF.n22 kY):=⟨"slices.breakPatternsCmpFunc[tagcache/api.Entry]",by decide,by kernel_rfl⟩
theorem ajS:Bears prog 291 (SlBodyF.n23 kY):=⟨"slices.choosePivotCmpFunc[tagcache/api.Entry]",by decide,by kernel_rfl⟩
theorem ajT:Bears prog 292 (SlBodyF.n24 kY):=⟨"slices.reverseRangeCmpFunc[tagcache/api.Entry]",by decide,by kernel_rfl⟩
theorem ajU:Bears prog 293 (SlBodyF.n25 kY):=⟨"slices.partialInsertionSortCmpFunc[tagcache/api.Entry]",by decide,by kernel_rfl⟩
theorem ajV:Bears prog 294 (SlBodyF.n26 kY):=⟨"slices.partitionEqualCmpFunc[tagcache/api.Entry]",by decide,by kernel_rfl⟩
theorem ajW:Bears prog 295 (SlBodyF.n27 kY):=⟨"slices.partitionCmpFunc[tagcache/api.Entry]",by decide,by kernel_rfl⟩
theorem ajX:(prog).funcs[218]?=some (SlBodyF.n28 kY):=ai
theorem ajY:(prog).funcs[219]?=some (SlBodyF.n29 kY):=ai
theorem ajZ:Bears prog 342 (SlBodyF.n46 kY):=⟨"slices.siftDownCmpFunc[tagcache/api.Entry]",by decide,by kernel_rfl⟩
theorem aj0:(prog).funcs[301]?=some (SlBodyF.n47 kY):=ai
theorem aj1:(prog).funcs[302]?=some (SlBodyF.n48 kY):=ai
theorem aj2:Bears prog 343 (SlBodyF.n49 kY):=⟨"slices.medianAdjacentCmpFunc[tagcache/api.Entry]",by decide,by kernel_rfl⟩
theorem aj3:Bears prog 344 (SlBodyF.n50 kY):=⟨"slices.medianCmpFunc[tagcache/api.Entry]",by decide,by kernel_rfl⟩
theorem aj4:Bears prog 380 (SlBodyF.n57 kY):=⟨"slices.order2CmpFunc[tagcache/api.Entry]",by decide,by kernel_rfl⟩
theorem UF:cD prog 0=some (false,1):=ai
theorem afx:((prog).info? 0).bind (·.zero)=some ((Value.tuple #[])):=ai
theorem UG:cD prog 3=some (false,1):=ai
theorem afy:((prog).info? 3).bind (·.zero)=some ((Value.int IntKind.i64 0)):=ai
theorem UO:cD prog 4=some (false,1):=ai
theorem afG:((prog).info? 4).bind (·.zero)=some ((Value.bool false)):=ai
theorem UP:cD prog 5=some (false,1):=ai
theorem afH:((prog).info? 5).bind (·.zero)=some ((Value.int IntKind.u8 0)):=ai
theorem UQ:cD prog 9=some (false,1):=ai
theorem afI:((prog).info? 9).bind (·.zero)=some ((Value.string { data:=#[]})):=ai
theorem UR:cD prog 156=some (false,1):=ai
theorem afJ:((prog).info? 156).bind (·.zero)=some ((Value.slice none 0 0)):=ai
theorem US:cD prog 240=some (false,1):=ai
theorem afK:((prog).info? 240).bind (·.zero)=some ((Value.nilFunc)):=ai
theorem UT:cD prog 246=some (false,1):=ai
theorem afL:((prog).info? 246).bind (·.zero)=some ((Value.int IntKind.u64 0)):=ai
theorem UU:cD prog 340=some (false,1):=ai
theorem afM:((prog).info? 340).bind (·.zero)=some ((Value.int IntKind.i64 0)):=ai
theorem UW:cD prog 341=some (false,1):=ai
theorem afN:((prog).info? 341).bind (·.zero)=some ((Value.tuple #[Value.int IntKind.i64 0,Value.int IntKind.i64 0])):=ai
theorem UH:cD prog 345=some (false,1):=ai
theorem afz:((prog).info? 345).bind (·.zero)=some ((Value.tuple #[Value.int IntKind.i64 0,Value.bool false])):=ai
theorem UI:cD prog 348=some (false,1):=ai
theorem afA:((prog).info? 348).bind (·.zero)=some ((Value.int IntKind.u32 0)):=ai
theorem UJ:cD prog 38=some (false,1):=ai
theorem afB:((prog).info? 38).bind (·.zero)=some ((Value.int IntKind.u64 0)):=ai
theorem UK:cD prog 414=some (false,1):=ai
theorem afC:((prog).info? 414).bind (·.zero)=some ((Value.int IntKind.u64 0)):=ai
theorem UL:cD prog 395=some (false,1):=ai
theorem afD:((prog).info? 395).bind (·.zero)=some ((Value.pointer none)):=ai
theorem UM:cD prog 455=some (false,1):=ai
theorem afE:((prog).info? 455).bind (·.zero)=some ((Value.pointer none)):=ai
theorem UN:cD prog 222=some (false,1):=ai
theorem afF:((prog).info? 222).bind (·.zero)=some ((Value.tuple #[Value.int IntKind.i64 0,Value.int IntKind.i64 0])):=ai
theorem XQ:SlLaysF0.n6 prog kY:={ mixed:=by kernel_rfl,f6:=aj5,f14:=ajN,f15:=ajO,f20:=ajP,f21:=ajQ,f22:=ajR,f23:=ajS,f24:=ajT,f25:=ajU,f26:=ajV,f27:=ajW,f28:=ajX,f29:=ajY,f46:=ajZ,f47:=aj0,f48:=aj1,f49:=aj2,f50:=aj3,f57:=aj4,t0:=by kernel_rfl,a0:=fun w=>(aC.mk UF).isAgg w,z0:=fun w=>(aC.mk UF).sizeOf w,v0:=nL afx,t3:=by kernel_rfl,a3:=fun w=>(aC.mk UG).isAgg w,z3:=fun w=>(aC.mk UG).sizeOf w,v3:=nL afy,t4:=by kernel_rfl,a4:=fun w=>(aC.mk UO).isAgg w,z4:=fun w=>(aC.mk UO).sizeOf w,v4:=nL afG,t5:=by kernel_rfl,a5:=fun w=>(aC.mk UP).isAgg w,z5:=fun w=>(aC.mk UP).sizeOf w,v5:=nL afH,t9:=by kernel_rfl,a9:=fun w=>(aC.mk UQ).isAgg w,z9:=fun w=>(aC.mk UQ).sizeOf w,v9:=nL afI,t22:=by kernel_rfl,a22:=fun w=>(aC.mk UR).isAgg w,z22:=fun w=>(aC.mk UR).sizeOf w,v22:=nL afJ,t25:=by kernel_rfl,a25:=fun w=>(aC.mk US).isAgg w,z25:=fun w=>(aC.mk US).sizeOf w,v25:=nL afK,t39:=by kernel_rfl,a39:=fun w=>(aC.mk UT).isAgg w,z39:=fun w=>(aC.mk UT).sizeOf w,v39:=nL afL,t45:=by kernel_rfl,a45:=fun w=>(aC.mk UU).isAgg w,z45:=fun w=>(aC.mk UU).sizeOf w,v45:=nL afM,t46:=by kernel_rfl,a46:=fun w=>(aC.mk UW).isAgg w,z46:=fun w=>(aC.mk UW).sizeOf w,v46:=nL afN,t50:=by kernel_rfl,a50:=fun w=>(aC.mk UH).isAgg w,z50:=fun w=>(aC.mk UH).sizeOf w,v50:=nL afz,t53:=by kernel_rfl,a53:=fun w=>(aC.mk UI).isAgg w,z53:=fun w=>(aC.mk UI).sizeOf w,v53:=nL afA,t55:=by kernel_rfl,a55:=fun w=>(aC.mk UJ).isAgg w,z55:=fun w=>(aC.mk UJ).sizeOf w,v55:=nL afB,t66:=by kernel_rfl,a66:=fun w=>(aC.mk UK).isAgg w,z66:=fun w=>(aC.mk UK).sizeOf w,v66:=nL afC,t70:=by kernel_rfl,a70:=fun w=>(aC.mk UL).isAgg w,z70:=fun w=>(aC.mk UL).sizeOf w,v70:=nL afD,t76:=by kernel_rfl,a76:=fun w=>(aC.mk UM).isAgg w,z76:=fun w=>(aC.mk UM).sizeOf w,v76:=nL afE,t77:=by kernel_rfl,a77:=fun w=>(aC.mk UN).isAgg w,z77:=fun w=>(aC.mk UN).sizeOf w,v77:=nL afF}
end Go.Proofs.YtoloaehmppcjoaaGreat.V
