/-
  Parts of the proof. No condition.
-/
import Derived.Test.YtmlpbmgfmnmmmaaGreatW2bf
import Derived.Test.YtmlpbmgfmnmmmaaGreatW2ay
import Derived.Test.YtmlpbmgfmnmmmaaGreatW2aq
import Derived.Test.YtmlpbmgfmnmmmaaGreatW2bd
set_option linter.unusedVariables false
set_option linter.unusedSimpArgs false
set_option maxRecDepth 8000
set_option maxHeartbeats 8000000
open Go.Proofs.Tryz
namespace Go.Proofs.YtmlpbmgfmnmmmaaGreat.V.M
section
section
variable {P:Program}{ops:Array Oper}{Q:Exit→Act→World→Prop}{S:World→Prop}{n:Nat}
variable {i m:Nat}{p:bZ}{e:Env}{w:World}{k:Kd}{dst:Option Tmp}{ty:TypeId}{pos:String}{an:Array Edge}{g:Option (Nat×Bool)}
variable {og:Og}{l r l':List It}{b:Nat}{κ ν:Type}[DecidableEq κ]{kv:κ→Value}{vv:ν→Value}{M:List (κ×ν)}
theorem GX.abg [Fr]{t kt el:TypeId}{x y:Operand}{a:κ}{Z:Value}{z:ν}(hH:SH og w l:=by assumption)
  (ho:ops[i]?=some ⟨dst, .mapEntry t x y,ty,pos,an,g⟩:=by rfl) (hu:bH P t (.map kt el):=by infer_instance) (hw:aH ops e ⟨dst, .mapEntry t x y,ty,pos,an,g⟩=some true:=by rfl) (hx:ev e x=some (.map (some b)):=by rfl) (hr:bA (aQ b kv vv M) (aQ b kv vv (bE M a ((az M a).getD z))) l l':=by repeat(first|exact bA.here|apply bA.there)) (hk:j6 P kv kt:=by infer_instance) (jT:me P el Z:=by infer_instance) (hz:Z=vv z:=by rfl) (hy:ev e y=some (kv a):=by rfl) (hd:fits n dst=true:=by rfl)
  (h:∀w' st,SH og w' l'→Bd w' b kv vv (bE M a ((az M a).getD z)) a st→GX P ops Q (fun _=>True) n (aY (i+1) m) (e.put dst (.tuple #[vv ((az M a).getD z),iV (st:Nat)])) w'):GX P ops Q (fun _=>True) n (aY i (m+1)) e w:=by
 subst hz;obtain⟨_,hs,_⟩:=hr.perm;have hM:dU w b kv vv M:=let⟨_,_,h,_⟩:=(hH.perm hs).head;h;obtain⟨w1,st,h1,h2,h3,h4⟩:=Xg hM hu.out hk jT.out a;refine GX.ax ho (GO.run (R:=fun u w'=>u = .tuple #[vv ((az M a).getD z),iV (st:Nat)]∧w'=w1) hw hd (fun ac ha=>⟨_,_,w1,by simp[execOp,bC ha hx,bC ha hy,h1], .inl rfl,rfl,rfl⟩) ?_);rintro _ _ ⟨rfl,rfl⟩;exact⟨fun _ _=>trivial,h _ _ (hH.uY hr h2 h4) h3⟩
theorem GX.abd [Fr]{t:TypeId}{x s y:Operand}{a:κ}{st:Nat}{v:ν}(hH:SH og w l:=by assumption)(hE:Bd w b kv vv M a st:=by assumption)
  (ho:ops[i]?=some ⟨none, .entryStore t x s y,ty,pos,an,g⟩:=by rfl) (hw:aH ops e ⟨none, .entryStore t x s y,ty,pos,an,g⟩=some true:=by rfl) (hx:ev e x=some (.map (some b)):=by rfl) (hs:ev e s=some (iV (st:Nat)):=by rfl) (hr:bA (aQ b kv vv M) (aQ b kv vv (bE M a v)) l l':=by repeat(first|exact bA.here|apply bA.there)) (hv:ev e y=some (vv v):=by rfl)
  (h:∀w',SH og w' l'→GX P ops Q (fun _=>True) n (aY (i+1) m) e w'):GX P ops Q (fun _=>True) n (aY i (m+1)) e w:=by
 obtain⟨w1,h1,h2,h3⟩:=W9 (P:=P) hE (t:=t) v;refine GX.ax ho (GO.run (R:=fun _ w'=>w'=w1) hw rfl (fun ac ha=>⟨.skip,undef,_,by simp[execOp,bC ha hx,bC ha hs,bC ha hv,h1], .inr ⟨rfl,rfl⟩,rfl⟩) ?_);rintro _ _ rfl;exact⟨fun _ _=>trivial,h _ (hH.uY hr h2 h3)⟩
end
theorem SH.ahb {o:Og}{w:World}{l t:List It}{κ ν:Type}{kv:κ→Value}{vv:ν→Value}{M:List (κ×ν)}{b:Nat}{el:TypeId}{sz n c:Nat}{q:Option Nat}{cs:List Value}(h:SH o w l)(hp:Pk l [aQ b kv vv M,ao el sz q n c cs] t:=by repeat(first|exact Pk.nil|(apply Pk.cons;repeat(first|exact aB.here|apply aB.there)))):some b≠q:=by
 obtain⟨_,_,_,⟨_,rfl⟩,⟨_,rfl⟩,hd,_⟩:=SH.nodup (h.perm hp.perm);exact fun e=>hd b rfl e.symm
attribute [local irreducible] GX GO
attribute [local irreducible] aA ao aQ aF fz star
def jB:List Bs→dM→List Nat→List Nat×Int×dM
 | [],s,acc=>(acc,0,s)
 |x::l,s,acc=>if(fw s x).2.1=0 then jB l (fw s x).2.2 (acc++[(fw s x).1.toNat]) else(acc,(fw s x).2.1,(fw s x).2.2)
def jX (R:gL)(id:Nat)(t:List Bs):List Nat×Int×gL:=
 if(jB t ⟨R.aI,R.N⟩ []).2.1=0 then((jB t ⟨R.aI,R.N⟩ []).1,0,⟨R.aI,(jB t ⟨R.aI,R.N⟩ []).2.2.N,id,fun j=>if j=id then some (t,(jB t ⟨R.aI,R.N⟩ []).1) else R.live j,R.K+1⟩)
 else([],(jB t ⟨R.aI,R.N⟩ []).2.1,⟨R.aI,(jn (jB t ⟨R.aI,R.N⟩ []).2.2 (jB t ⟨R.aI,R.N⟩ []).1).2.N,R.last,R.live,R.K+1⟩)
theorem aei {B:Nat}{s:dM}(h:∀y∈s.N,y.2≤B)(x:Bs):(fw s x).2.2.aI=s.aI∧(∀y∈(fw s x).2.2.N,y.2≤B+1)∧0≤(fw s x).1:=by
 unfold fw;split
 ·exact⟨rfl,fun y hy=>vq (h y hy),Int.le_refl 0⟩
 ·refine⟨rfl,fun y hy=>?_,by omega⟩;show y.2≤B+1;dsimp only at hy;unfold e7 at hy;split at hy
  ·rename_i n hn
   rcases l4 hy with hy|rfl
   ·exact vq (h y hy)
   ·by_cases hl:n<s.N.length
    ·have:=h (s.N.getD n ([],0)) (by rw[fT,bO hl];exact ot hl);show(s.N.getD n ([],0)).2+1≤B+1;omega
    ·show(s.N.getD n ([],0)).2+1≤B+1;rw[fT,sy ah];show 0+1≤B+1;omega
  ·split at hy
   ·rcases l4 hy with hy|rfl
    ·exact vq (h y hy)
    ·show 1≤B+1;omega
   ·rcases cJ.1 hy with hy|hy
    ·exact vq (h y hy)
    ·rw[lC.1 hy];show 1≤B+1;omega
theorem VW {κ ν:Type}[DecidableEq κ]{M:List (κ×ν)}{k:κ}{v:ν}{x:κ×ν}(h:x∈bE M k v):x∈M∨x=(k,v):=by
 induction M with
 |nil=>exact .inr (by simpa[bE] using h)
 |cons y M ih=>
  obtain⟨a,u⟩:=y;simp only[bE] at h;split at h
  ·rename_i e
   rcases bY.1 h with h|h
   ·subst e;exact .inr h
   ·exact .inl (fR _ h)
  ·rcases bY.1 h with h|h
   ·exact .inl (by rw[h];simp)
   ·exact(ih h).imp (fR _) fun h=>h
theorem ajp {o:Og}{w:World}{b c:Nat}{a:Option Addr}{R:gL}(id:Nat)(t:List Bs)(xU:R.last<id)(ht:cr t=(t,0))(hK:R.K<16384)(hs:Start o w [nX b R,aF a (aM t)]) :
  aj prog 150 [ak b,uV id, .slice a t.length c].toArray w (aU o (O0 (jX R id t).1 (jX R id t).2.1) (fun _=>True) (fun q=>[nX b (jX R id t).2.2,ao 3 1 q.1 (jX R id t).1.length q.2 (aD (jX R id t).1)])):=by
 have hH:=hs.sh;have Ca:t.all fF=true∧t.length≤16:=by
  unfold cr at ht;split at ht
  ·cases ht
  ·rename_i h1
   split at ht
   ·cases ht
   ·rename_i h2
    refine⟨by simpa using h1,?_⟩;have h3:=congrArg (fun y=>y.1.length) ht;dsimp only at h3;rw[(lV _).length_eq,fk] at h3;omega
 obtain⟨⟨X,hX⟩,hH⟩:=SH.un hH;replace hH:=SH.ap hH;dsimp only at hH;refine aj.enter func150 rfl ntmps150 rfl (gh ?_);refine GX.aL (hc:=fun _ hs=>FK (r:=0) hs) (h:=fun w hE hH=>gh ?_);refine GX.dX (hc:=fun _ hs=>Gd t rfl ah hs) (h:=?_);rw[ht];rintro⟨q1,c1⟩ w _ hE hH;replace hH:=SH.ap hH;refine gh ?_;rw[show decide ((id:Int)≤(R.last:Int))=false from bt ah];refine gh ?_;refine GX.aL (hc:=fun _ hs=>Rb t t rfl rfl ah ah hs) (h:=fun w hE hH=>gh ?_);rw[bQ rfl];refine gh ?_;dsimp only at hH ⊢;replace hH:=SH.cE (el:=3) (sz:=1) (q:=none) (n:=0) (c:=0) (cs:=[]) hH (Mod.refl w) (fun _ h=>by cases h) (aG.nil _ _ _);refine GC.bP [0,1,8,42,43] (fun y:Nat×(Option Nat×Nat)×List Nat×dM=>[(44,iV y.1),(10, .slice (ay y.2.1.1) y.1 y.2.1.2)]) (fun y w'=>y.1≤t.length∧y.2.2.1.length=y.1∧jB t ⟨R.aI,R.N⟩ []=jB (t.drop y.1) y.2.2.2 y.2.2.1∧y.2.2.2.aI=R.aI∧(∀z∈y.2.2.2.N,z.2≤64*R.K+y.1)∧SH o w' [ao 3 1 y.2.1.1 y.1 y.2.1.2 (aD y.2.2.1),ao 9 1 q1 t.length c1 (aM t),aA b [ak X.i,uV R.last, .map (some X.lm), .map (some X.sm),iV X.many,iV X.eT],jy X.i y.2.2.2,aQ X.lm (fun n:Nat=>uV n) jo X.M,aQ X.sm iV ji X.S,bB (bT jC X.M),bB (bT jh X.S)]) (fun y=>t.length - y.1) (0,(none,0),[],⟨R.aI,R.N⟩) rfl rfl ⟨bh _,rfl,rfl,rfl,hX.refs,hH.to⟩ ?_;rintro⟨j,⟨q,d⟩,acc,s⟩ w ⟨hj,zI,jO,zV,qJ,hH⟩;dsimp only at hj zI jO zV qJ hH ⊢;have IZ:=hX.eT;have mX:=hX.many;refine gh ?_;refine ifs (fun h4=>?_) (fun h4=>?_)<;>refine gh ?_
 ·have hx:t[j]?=some t[j]:=by simp[show j<t.length by omega]
  have Ef:t.drop j=t[j]::t.drop (j+1):=p7 ah;have E7:fF t[j]=true:=rj.1 Ca.1 _ (ot _);generalize t[j]=x at hx Ef E7;have hxv:(aM t)[j]?=some (str x):=by simp[aM,hx]
  obtain⟨p1,rfl⟩:=hH.pos (el:=9) (sz:=1) (q:=q1);refine gh ?_;refine GX.next rfl (GO.cG (hv:=hxv) (h:=gh ?_));have hrn:∀n,oX s.N x=some n→(s.N.getD n ([],0)).2+1<2097152:=fun n _=>by
   by_cases hl:n<s.N.length
   ·have:=qJ (s.N.getD n ([],0)) (by rw[fT,bO hl];exact ot hl);omega
   ·rw[fT,sy ah];show 0+1<2097152
    decide
  obtain⟨m1,m2,m3⟩:=aei qJ x;refine GX.bz (hc:=fun _ hs=>aej x E7 hrn hs) (h:=fun w hH=>gh ?_);rw[Ef,jB] at jO;refine ifs (fun h5=>?_) (fun h5=>?_)<;>refine gh ?_
  ·rw[if_neg h5] at jO;obtain⟨n1,n2,n3⟩:=O1 m2 acc;refine GC.bP [0,14,59,60] (fun y:Nat=>[(61,iV y)]) (fun y w'=>y≤acc.length∧SH o w' [ao 3 1 q j d (aD acc),aA b [ak X.i,uV R.last, .map (some X.lm), .map (some X.sm),iV X.many,iV X.eT],jy X.i (jn (fw s x).2.2 (acc.take y)).2,aQ X.lm (fun n:Nat=>uV n) jo X.M,aQ X.sm iV ji X.S,bB (bT jC X.M),bB (bT jh X.S)]) (fun y=>acc.length - y) 0 rfl rfl ⟨bh _,hH.to⟩ ?_;rintro k w ⟨hk,hH⟩;refine gh ?_;refine ifs (fun h6=>?_) (fun h6=>?_)<;>refine gh ?_
   ·have hy:acc[k]?=some acc[k]:=by simp[show k<acc.length by omega]
    generalize acc[k]=n at hy;obtain⟨p2,rfl⟩:=hH.pos (el:=3) (sz:=1) (q:=q);refine gh ?_;refine GX.next rfl (GO.cG (hv:=show(aD acc)[k]?=some (iV n) by simp[aD,hy]) (h:=gh ?_));refine GX.bz (hc:=fun _ hs=>T8 (n:Int) hs) (h:=fun w hH=>gh ?_);refine GQ.br (k+1) rfl ⟨by omega,?_⟩ ah;rw[Xn hy];exact hH.to
   ·obtain rfl:k=acc.length:=by omega
    rw[j5] at hH;refine gh ?_;have EN:jX R id t=([],(fw s x).2.1,⟨R.aI,(jn (fw s x).2.2 acc).2.N,R.last,R.live,R.K+1⟩):=by unfold jX;rw[jO,if_neg h5]
    rw[EN];generalize jn (fw s x).2.2 acc=Y at hH n1 n2 ⊢;obtain⟨F,mo,N'⟩:=Y;dsimp only at hH n1 n2 ⊢;obtain rfl:mo=R.aI:=n1.trans (m1.trans zV);replace hH:=SH.cE (el:=3) (sz:=1) (q:=none) (n:=0) (c:=0) (cs:=[]) hH (Mod.refl w) (fun _ h=>by cases h) (aG.nil _ _ _);have oM:xB X ⟨R.aI,N',R.last,R.live,R.K+1⟩:=⟨hX.live,hX.nd,fun x hx=>⟨(hX.eb x hx).len,(hX.eb x hx).aI,(hX.eb x hx).nz⟩,hX.Ct,by show X.many≤64*(R.K+1);omega,by show X.eT≤64*(R.K+1);omega,fun x hx=>by have:=hX.J0 x hx;show _≤64*(R.K+1);omega,fun y hy=>by have:=n2 y hy;show y.2≤64*(R.K+1);omega⟩
    exact⟨(none,0),rfl,trivial,(AM oM hH).to⟩
  ·rw[if_pos ah] at jO;refine GX.mK (h1:=by simp[Value.oneCell']) (h:=fun q c w _ hH=>gh ?_);refine GQ.br (j+1,(q,c),acc++[(fw s x).1.toNat],(fw s x).2.2) rfl ⟨by simp only;omega,by simp[zI],jO,m1.trans zV,m2,?_⟩ (by simp only;omega);dsimp only;rw[show aD (acc++[(fw s x).1.toNat])=aD acc++[iV (fw s x).1] by simp[aD,Int.toNat_of_nonneg m3]];exact hH.to
 ·obtain rfl:j=t.length:=by omega
  rw[List.drop_length] at jO;have EN:jX R id t=(acc,0,⟨R.aI,s.N,id,fun j=>if j=id then some (t,acc) else R.live j,R.K+1⟩):=by unfold jX;rw[jO];rfl
  rw[EN];refine GC.bP [0,1,8,10,78,79] (fun y:Nat×List (Int×vz)=>[(80,iV y.1)]) (fun y w'=>y.1≤t.length∧(y.2.map (·.1)).Nodup∧(∀z∈y.2,z.2.l.length≤64*R.K+y.1)∧SH o w' [ao 3 1 q t.length d (aD acc),ao 9 1 q1 t.length c1 (aM t),aA b [ak X.i,uV R.last, .map (some X.lm), .map (some X.sm),iV X.many,iV X.eT],jy X.i s,aQ X.lm (fun n:Nat=>uV n) jo X.M,aQ X.sm iV ji y.2,bB (bT jC X.M),bB (bT jh y.2)]) (fun y=>t.length - y.1) (0,X.S) rfl rfl ⟨bh _,hX.Ct,hX.J0,hH.to⟩ ?_;rintro⟨k,S⟩ w ⟨hk,bX,dY,hH⟩;dsimp only at hk bX dY hH ⊢;refine gh ?_;refine ifs (fun h6=>?_) (fun h6=>?_)<;>refine gh ?_
  ·have hy:acc[k]?=some acc[k]:=by simp[show k<acc.length by omega]
   generalize acc[k]=n at hy;obtain⟨p2,rfl⟩:=hH.pos (el:=3) (sz:=1) (q:=q);refine gh ?_;refine GX.next rfl (GO.cG (hv:=show(aD acc)[k]?=some (iV n) by simp[aD,hy]) (h:=gh ?_));obtain⟨e,he,sT,hH⟩:∃e:vz,jc ji (.slice none 0 0) false (az S (n:Int))=ji e∧e.l.length≤64*R.K+k∧SH o w (ao 38 1 e.q e.l.length e.c (lY e.l)::bB (bT jh (bD S (n:Int)))::[ao 3 1 (some p2) t.length d (aD acc),ao 9 1 q1 t.length c1 (aM t),aA b [ak X.i,uV R.last, .map (some X.lm), .map (some X.sm),iV X.many,iV X.eT],jy X.i s,aQ X.lm (fun n:Nat=>uV n) jo X.M,aQ X.sm iV ji S,bB (bT jC X.M)]):=by
    cases hm:az S (n:Int) with
    |none=>exact⟨⟨none,0,[]⟩,rfl,bh _,SH.cE (el:=38) (sz:=1) (q:=none) (n:=0) (c:=0) (cs:=[]) (SH.Dj (n:Int) hH) (Mod.refl w) (fun _ h=>by cases h) (aG.nil _ _ _)⟩
    |some e=>exact⟨e,rfl,dY _ (Fs hm),SH.oF (jh ((n:Int),e)) _ hH (o0 hm)⟩
   obtain⟨eq,ec,el⟩:=e;dsimp only at sT hH;have Sl:¬some b=eq:=hH.th (b:=b) (q:=eq) (el:=38) (sz:=1);have Te:¬some X.sm=eq:=hH.ahb (b:=X.sm) (q:=eq) (el:=38) (sz:=1);refine GC.bq (pl:=(aZ [0,3,6,12,15,18,21,27,33,10,25,31,38,41,44])) (T:=fun k=>some k=eq) (hm:=mixed) (h:=fun w hE hH=>gh ?_);refine gh ?_;refine GX.read rfl (GO.NS (hV:=he) (h:=gh ?_));dsimp only[ji];refine GX.P1 (h1:=by simp[Value.oneCell']) (h:=fun q c w _ hH=>gh ?_);refine GX.Av (v:=(⟨q,c,el++[id]⟩:vz)) (hv:=by rw[show ji ⟨q,c,el++[id]⟩ = .slice (ay q) (el.length+1) c by simp[ji]];rfl) (h:=fun w hH=>gh ?_);rw[show el.length+1=(el++[id]).length by simp,show lY el++[uV id]=lY (el++[id]) by simp[lY]] at hH;replace hH:=hH.iu (m:=bT jh (bE S (n:Int) ⟨q,c,el++[id]⟩)) (jh ((n:Int),⟨q,c,el++[id]⟩)) (bT jh (bD S (n:Int))) (by repeat(first|exact Pk.nil|(apply Pk.cons;repeat(first|exact aB.here|apply aB.there)))) FA;refine GQ.br (k+1,bE S (n:Int) ⟨q,c,el++[id]⟩) rfl ⟨by simp only;omega,rU bX _ _,fun z hz=>?_,hH.to⟩ (by simp only;omega)
   rcases VW hz with hz|rfl
   ·have:=dY z hz;show _≤64*R.K+(k+1);omega
   ·show(el++[id]).length≤64*R.K+(k+1);rw[bJ];show el.length+1≤_;omega
  ·obtain rfl:k=t.length:=by omega
   refine gh ?_;refine GX.dw (h:=fun w hH=>gh ?_);refine GX.dw (h:=fun w hH=>gh ?_);have EG:ay q=none→t.length=0:=fun e=>by
    by_cases h0:0<t.length
    ·obtain⟨p2,rfl⟩:=hH.pos (el:=3) (sz:=1) (q:=q);cases e
    ·omega
   refine GX.abg (z:=(⟨[],[],none,0,none,0⟩:sB)) (h:=fun w st hH hE=>gh ?_);refine GX.abd (v:=(⟨t,acc,ay q1,c1,ay q,d⟩:sB)) (hv:=by rw[show jo ⟨t,acc,ay q1,c1,ay q,d⟩ = .agg #[.slice (ay q1) t.length c1, .slice (ay q) t.length d] by simp[jo,zI]];rfl) (h:=fun w hH=>gh ?_);rw[Jn] at hH;refine GX.dX (hc:=fun _ hs=>vD (cs:=aD acc) ah (by simp[zI]) EG (qM _) hs) (h:=?_);rintro⟨q3,c3⟩ w _ hE hH;replace hH:=SH.ap hH;refine gh ?_;have aO:=((hH.freeze (el:=3) (sz:=1) (q:=q) (n:=t.length) (c:=d) (cs:=aD acc) bL).freeze (el:=9) (sz:=1) (q:=q1) (n:=t.length) (c:=c1) (cs:=aM t) bL).Dj (f:=jC) (M:=X.M) id;have cF:=aO.iu (m:=bT jC (bE X.M id ⟨t,acc,ay q1,c1,ay q,d⟩)) (jC (id,⟨t,acc,ay q1,c1,ay q,d⟩)) (bT jC (bD X.M id)) (by repeat(first|exact Pk.nil|(apply Pk.cons;repeat(first|exact aB.here|apply aB.there)))) FA;have oM:xB ⟨X.i,X.lm,X.sm,bE X.M id ⟨t,acc,ay q1,c1,ay q,d⟩,S,X.many+acc.length,X.eT⟩ ⟨R.aI,s.N,id,fun j=>if j=id then some (t,acc) else R.live j,R.K+1⟩:=⟨fun j=>by
    dsimp only;rw[kI];split
    ·rfl
    ·exact hX.live j,rU hX.nd _ _,fun z hz=>by
    rcases VW hz with hz|rfl
    ·exact⟨(hX.eb z hz).len,(hX.eb z hz).aI,(hX.eb z hz).nz⟩
    ·exact⟨zI.symm,by show acc.length≤64;omega,fun h=>by
      show acc.length=0;rw[zI];exact EG h⟩,bX,by show X.many+acc.length≤64*(R.K+1);omega,by show X.eT≤64*(R.K+1);omega,fun z hz=>by have:=dY z hz;show _≤64*(R.K+1);omega,fun y hy=>by have:=qJ y hy;show y.2≤64*(R.K+1);omega⟩
   obtain⟨mo,N⟩:=s;obtain rfl:mo=R.aI:=zV;rw[show Value.int IntKind.i64 ((X.many:Int)+(t.length:Int))=iV (X.many+t.length:Nat) by show iV _=iV _;congr 1] at cF;rw[←zI] at cF ⊢;exact⟨(q3,c3),rfl,trivial,(AM oM cF).to⟩
end
section
section
variable {P:Program}{ops:Array Oper}{Q:Exit→Act→World→Prop}{S:World→Prop}{n:Nat}
variable {i m:Nat}{p:bZ}{e:Env}{w:World}{k:Kd}{dst:Option Tmp}{ty:TypeId}{pos:String}{an:Array Edge}{g:Option (Nat×Bool)}
variable {og:Og}{l r l':List It}{b:Nat}{κ ν:Type}[DecidableEq κ]{kv:κ→Value}{vv:ν→Value}{M:List (κ×ν)}
def yL (it b:Nat)(kv:κ→Value)(vv:ν→Value)(M R:List (κ×ν)):It where
 ok w _ F:=nF w it b kv vv M R∧F=fun k=>k=b∨k=it
 mod:=fun⟨h,e⟩ hm hn _=>⟨h.mod hm (hn b (.inl (by rw[e];exact .inl rfl))) (hn it (.inl (by rw[e];exact .inr rfl))),e⟩
 lt:=fun {w Z F k} ⟨h,e⟩ hb=>by
  rw[e] at hb
  rcases hb with rfl|rfl
  ·exact h.map.lt
  ·exact h.lt
instance {it:Nat}{R:List (κ×ν)}:Zf (yL it b kv vv M R):=⟨fun _ _ _ _ h=>h⟩
theorem SH.OU {it:Nat}{R:List (κ×ν)}(h:SH og w l)(hr:bA (yL it b kv vv M R) (aQ b kv vv M) l l':=by repeat(first|exact bA.here|apply bA.there)):SH og w l':=
 h.rep hr fun _ _ ⟨h1,e⟩ _=>⟨(· = b),⟨h1.map,rfl⟩,Mod.refl _,fun k hb => .inl (by rw[e];exact .inl hb)⟩
theorem GX.OO [Fr]{t kt el:TypeId}{x:Operand}{l2:Nat→List It}(hH:SH og w l:=by assumption)
  (ho:ops[i]?=some ⟨dst, .range t x,ty,pos,an,g⟩:=by rfl) (hu:bH P t (.map kt el):=by infer_instance) (hw:aH ops e ⟨dst, .range t x,ty,pos,an,g⟩=some true:=by rfl) (hx:ev e x=some (.map (some b)):=by rfl) (hr:∀it,bA (aQ b kv vv M) (yL it b kv vv M M) l (l2 it):=by intro _;repeat(first|exact bA.here|apply bA.there)) (hd:fits n dst=true:=by rfl)
  (h:∀it w',SH og w' (l2 it)→GX P ops Q (fun _=>True) n (aY (i+1) m) (e.put dst (.pointer (some ⟨it,0,none⟩))) w'):GX P ops Q (fun _=>True) n (aY i (m+1)) e w:=by
 obtain⟨_,hs,_⟩:=(hr 0).perm;have hM:dU w b kv vv M:=let⟨_,_,h,_⟩:=(hH.perm hs).head;h;refine GX.range hM ho hw hx hd fun it w' Ig hI hE=>h it w' (hH.rep (hr it) fun _ _ ⟨_,e⟩ _=>⟨fun k=>k=b∨k=it,⟨hI,rfl⟩,hE.mod,fun k hb=>?_⟩)
 rcases hb with hb|hb
 ·exact .inl (by rw[e];exact hb)
 ·exact .inr ah
theorem GX.Of [Fr]{x:Operand}{it:Nat}{R:List (κ×ν)}{l2:List (κ×ν)→List It}(hH:SH og w l:=by assumption)
  (ho:ops[i]?=some ⟨dst, .next x false,ty,pos,an,g⟩:=by rfl) (hw:aH ops e ⟨dst, .next x false,ty,pos,an,g⟩=some true:=by rfl) (hx:ev e x=some (.pointer (some ⟨it,0,none⟩)):=by rfl) (hr:∀R',bA (yL it b kv vv M R) (yL it b kv vv M R') l (l2 R'):=by intro _;repeat(first|exact bA.here|apply bA.there)) (hd:fits n dst=true:=by rfl)
  (h0:R=[]→GX P ops Q (fun _=>True) n (aY (i+1) m) (e.put dst (.tuple #[.bool false])) w)
  (h1:∀y R1 R2 w',R=R1++y::R2→SH og w' (l2 (R1++R2))→A5 w' it (kv y.1) (vv y.2)→GX P ops Q (fun _=>True) n (aY (i+1) m) (e.put dst (.tuple #[.bool true,kv y.1,vv y.2])) w'):GX P ops Q (fun _=>True) n (aY i (m+1)) e w:=by
 obtain⟨_,hs,_⟩:=(hr R).perm;have hM:nF w it b kv vv M R:=let⟨_,_,h,_⟩:=(hH.perm hs).head;h;refine GX.Wb hM ho hw hx hd h0 fun y R1 R2 w' hR hI hm hE=>h1 y R1 R2 w' hR (hH.rep (hr _) fun _ _ ⟨_,e⟩ _=>⟨fun k=>k=b∨k=it,⟨hI,rfl⟩,hm.weaken fun k _ hk=>by rw[e];exact .inr hk,fun k hb => .inl (by rw[e];exact hb)⟩) hE
end
section
variable {P:Program}{ops:Array Oper}{Q:Exit→Act→World→Prop}{S:World→Prop}{n:Nat}
variable {i m:Nat}{p:bZ}{e:Env}{w:World}{k:Kd}{dst:Option Tmp}{ty:TypeId}{pos:String}{an:Array Edge}{g:Option (Nat×Bool)}
variable {og:Og}{l r l':List It}{b:Nat}
theorem GX.td [Fr]{κ ν:Type}[DecidableEq κ](kv:κ→Value)(vv:ν→Value){T:Nat→Prop}{w0:World}{t:TypeId}(hH:SH og w l:=by assumption)
  (ho:ops[i]?=some ⟨dst, .makeMap t none,ty,pos,an,g⟩:=by rfl) (hw:aH ops e ⟨dst, .makeMap t none,ty,pos,an,g⟩=some true:=by rfl) (hd:fits n dst=true:=by rfl) (hT:Mod T w0 w:=by first|assumption|exact Ext.mod (by assumption))
  (h:∀b w',Mod T w0 w'→SH og w' (aQ b kv vv []::l)→GX P ops Q (Mod T w0) n p (e.put dst (.map (some b))) w'):GX P ops Q (Mod T w0) n (.ax i p) e w:=
 GX.ax ho (GO.run (R:=fun u w'=>u = .map (some w.heap.size)∧w'=w.alloc (.map #[] 0)) hw hd (fun ac ha=>⟨_,_,_,by simp[execOp,Instr.makeMap], .inl rfl,rfl,rfl⟩)
  (by rintro _ _ ⟨rfl,rfl⟩;exact⟨fun _ hS=>hS.trans (Ext.alloc w _).mod,h _ _ (hT.trans (Ext.alloc w _).mod) (hH.Od (Ext.alloc w _) rfl ⟨[],0,heap_alloc_new w _,trivial,mF,fun _ h=>by cases h⟩)⟩))
def pq (x:It):Prop:=∀w Z F,x.ok w Z F→F=fun _=>False
theorem pq.aF {a:Option Addr}{cs:List Value}:pq (aF a cs):=fun _ _ _ h=>h.2.2
theorem pq.sep:∀{l:List It},(∀x∈l,pq x)→∀{w:World}{Z F:Nat→Prop},Sep w Z l F→F=fun _=>False
 | [],_,_,_,_,h=>h
 |x::l,hx,w,Z,F,⟨F1,F2,e,_,h1,h2⟩=>by
  have e1:=hx x (by simp) w Z F1 h1;have e2:=pq.sep (fun y hy=>hx y (fR _ hy)) h2;subst e1 e2;rw[e];funext b;simp
theorem pq.Bj {l:List It}(h:∀x∈l,pq x):pq (bB l):=fun _ _ _ ⟨_,hk⟩=>pq.sep h hk
theorem SH.aaW {o:Og}{x:It}(h:SH o w l)(hx:pq x)(hs:aB x l r:=by repeat(first|exact aB.here|apply aB.there)):SH o w (x::l):=by
 obtain⟨Z,F,hu,⟨F1,F2,rfl,hd,h1,h2⟩,h3,h4⟩:=h.pY hs;have e:=hx _ _ _ h1;subst e;exact SH.perm (l:=x::x::r) ⟨Z,fun b=>False∨F2 b,hu,⟨fun _=>False,_,by simp,fun _ h=>h.elim,h1,fun _=>False,F2,rfl,hd,h1,h2⟩,h3,h4⟩ (List.Perm.cons _ hs.perm.symm)
end
theorem ahS (M:List (Nat×sB)):∀x∈bT jC M,pq x:=by
 intro x hx;obtain⟨l,hl,hx⟩:=List.mem_flatten.1 hx;obtain⟨y,_,rfl⟩:=bK.1 hl;simp only[jC,bY,tI,or_false] at hx
 rcases hx with rfl|rfl
 ·exact pq.aF
 ·exact pq.aF
theorem N7 {κ ν:Type}[DecidableEq κ]{M:List (κ×ν)}{k:κ}(h:k∉M.map (·.1))(v:ν):bE M k v=M++[(k,v)]:=by
 induction M with
 |nil=>rfl
 |cons x M ih=>
  obtain⟨a,u⟩:=x;simp only[cK,bY,not_or] at h;simp only[bE];rw[if_neg (fun e=>h.1 (by first|exact e|exact e.symm)),ih h.2];rfl
theorem V2 {κ ν:Type}[DecidableEq κ]{M N:List (κ×ν)}(hp:M.Perm N)(hn:(N.map (·.1)).Nodup)(k:κ):az M k=az N k:=by
 have hm:(M.map (·.1)).Nodup:=(hp.map (·.1)).nodup_iff.2 hn;cases h:az N k with
 |none=>
  rw[wE] at h ⊢;exact fun hk=>h ((hp.map (·.1)).mem_iff.1 hk)
 |some v=>exact Ft hm (hp.mem_iff.2 (Fs h))
theorem ahT {κ ν:Type}{f:κ×ν→List It}{M N:List (κ×ν)}(hp:M.Perm N):(bT f M).Perm (bT f N):=(hp.map f).flatten
instance {b:Nat}{s:dM}:Zf (jy b s):=Zf.star fun _=>inferInstance
attribute [local irreducible] GX GO
attribute [local irreducible] aA ao aQ aF fz star
theorem al0 (l:List Nat):∀u∈lY l,u.oneCell'=true:=by
 intro u hu;obtain⟨x,_,rfl⟩:=bK.1 hu;rfl
structure YG where
 c:Nat
 i:Nat
 lm:Nat
 sm:Nat
theorem ajv {o:Og}{w:World}{b:Nat}{R:gL}(hK:R.K<16384)(hs:Start o w [nX b R]) :
  aj prog 65 [ak b].toArray w (aU o ak (fun _=>True) (fun c=>[nX b R,nX c R])):=by
 have hH:=hs.sh;obtain⟨⟨X,hX⟩,hH⟩:=SH.un hH;replace hH:=SH.ap hH;dsimp only at hH;refine aj.enter func65 rfl ntmps65 rfl (gh ?_);refine GX.aL (hc:=fun _ hs=>FK (r:=0) hs) (h:=fun w hE hH=>gh ?_);refine GC.cut (X:=YG) (fun z=>[(0,ak b),(3,ak z.c)]) (fun z w'=>SH o w' [aA b [ak X.i,uV R.last, .map (some X.lm), .map (some X.sm),iV X.many,iV X.eT],jy X.i ⟨R.aI,R.N⟩,aQ X.lm (fun n:Nat=>uV n) jo X.M,aQ X.sm iV ji X.S,bB (bT jC X.M),bB (bT jh X.S),aA z.c [ak z.i,uV R.last, .map (some z.lm), .map (some z.sm),iV X.many,iV X.eT],jy z.i ⟨R.aI,R.N⟩,aQ z.lm (fun n:Nat=>uV n) jo [],aQ z.sm iV ji []]) ?_ ?_
 ·refine GC.bq (pl:=(.pure 0 (.pure 1 (.pure 2 (.pure 5 (.pure 6 (.pure 7 (.pure 11 (.pure 12 (.pure 13 (.pure 15 (.pure 16 (.pure 17 (.read 3 (.read 8 (.read 14 (.read 18 (.alt (.ax 4 (.alt (.ax 9 (.ax 10 (.pure 19 (.ax 20 (.pure 21 .done))))) (.ax 10 (.ax 9 (.pure 19 (.ax 20 (.pure 21 .done))))))) (.alt (.ax 9 (.alt (.ax 4 (.ax 10 (.pure 19 (.ax 20 (.pure 21 .done))))) (.ax 10 (.ax 4 (.pure 19 (.ax 20 (.pure 21 .done))))))) (.ax 10 (.alt (.ax 4 (.ax 9 (.pure 19 (.ax 20 (.pure 21 .done))))) (.ax 9 (.ax 4 (.pure 19 (.ax 20 (.pure 21 .done)))))))))))))))))))))))))) (T:=fun _=>False) (hm:=mixed) (h:=fun w hE hH=>gh ?_);refine gh ?_;refine GX.alt (gh ?_) (gh ?_)
  ·refine GX.ew (hc:=fun _ hs=>Fa hs) (h:=?_);rintro z1 w _ hS hH;replace hH:=SH.ap hH;refine gh ?_;refine GX.alt (gh ?_) (gh ?_)
   ·refine GX.td (fun n:Nat=>uV n) jo (h:=fun z2 w hS hH=>gh ?_);refine GX.td (iV:Int→Value) ji (h:=fun z3 w hS hH=>gh ?_);refine GX.nJ (h:=fun c w hS hH=>gh ?_);exact GQ.dx ⟨c,z1,z2,z3⟩ (cZ (l:=[0,3]) rfl) hH.to
   ·refine GX.td (iV:Int→Value) ji (h:=fun z3 w hS hH=>gh ?_);refine GX.td (fun n:Nat=>uV n) jo (h:=fun z2 w hS hH=>gh ?_);refine GX.nJ (h:=fun c w hS hH=>gh ?_);exact GQ.dx ⟨c,z1,z2,z3⟩ (cZ (l:=[0,3]) rfl) hH.to
  ·refine GX.alt (gh ?_) (gh ?_)
   ·refine GX.td (fun n:Nat=>uV n) jo (h:=fun z2 w hS hH=>gh ?_);refine GX.alt (gh ?_) (gh ?_)
    ·refine GX.ew (hc:=fun _ hs=>Fa hs) (h:=?_);rintro z1 w _ hS hH;replace hH:=SH.ap hH;refine gh ?_;refine GX.td (iV:Int→Value) ji (h:=fun z3 w hS hH=>gh ?_);refine GX.nJ (h:=fun c w hS hH=>gh ?_);exact GQ.dx ⟨c,z1,z2,z3⟩ (cZ (l:=[0,3]) rfl) hH.to
    ·refine GX.td (iV:Int→Value) ji (h:=fun z3 w hS hH=>gh ?_);refine GX.ew (hc:=fun _ hs=>Fa hs) (h:=?_);rintro z1 w _ hS hH;replace hH:=SH.ap hH;refine gh ?_;refine GX.nJ (h:=fun c w hS hH=>gh ?_);exact GQ.dx ⟨c,z1,z2,z3⟩ (cZ (l:=[0,3]) rfl) hH.to
   ·refine GX.td (iV:Int→Value) ji (h:=fun z3 w hS hH=>gh ?_);refine GX.alt (gh ?_) (gh ?_)
    ·refine GX.ew (hc:=fun _ hs=>Fa hs) (h:=?_);rintro z1 w _ hS hH;replace hH:=SH.ap hH;refine gh ?_;refine GX.td (fun n:Nat=>uV n) jo (h:=fun z2 w hS hH=>gh ?_);refine GX.nJ (h:=fun c w hS hH=>gh ?_);exact GQ.dx ⟨c,z1,z2,z3⟩ (cZ (l:=[0,3]) rfl) hH.to
    ·refine GX.td (fun n:Nat=>uV n) jo (h:=fun z2 w hS hH=>gh ?_);refine GX.ew (hc:=fun _ hs=>Fa hs) (h:=?_);rintro z1 w _ hS hH;replace hH:=SH.ap hH;refine gh ?_;refine GX.nJ (h:=fun c w hS hH=>gh ?_);exact GQ.dx ⟨c,z1,z2,z3⟩ (cZ (l:=[0,3]) rfl) hH.to
 ·rintro⟨c,i2,Fl,FQ⟩ w hH;dsimp only at hH ⊢;refine gh ?_;refine GX.OO (h:=fun it w hH=>gh ?_);refine GC.bP [0,3,35] (fun _:List (Nat×sB)×List (Nat×sB)=>[]) (fun y w'=>(y.1++y.2).Perm X.M∧SH o w' [aA b [ak X.i,uV R.last, .map (some X.lm), .map (some X.sm),iV X.many,iV X.eT],jy X.i ⟨R.aI,R.N⟩,yL it X.lm (fun n:Nat=>uV n) jo X.M y.2,aQ X.sm iV ji X.S,bB (bT jC X.M),bB (bT jh X.S),aA c [ak i2,uV R.last, .map (some Fl), .map (some FQ),iV X.many,iV X.eT],jy i2 ⟨R.aI,R.N⟩,aQ Fl (fun n:Nat=>uV n) jo y.1,aQ FQ iV ji []]) (fun y=>y.2.length) ([],X.M) rfl rfl ⟨mC _,hH.to⟩ ?_;rintro⟨M2,Rm⟩ w ⟨hp,hH⟩;dsimp only at hp hH ⊢;refine gh ?_;refine GX.Of (h0:=fun hR=>gh ?_) (h1:=fun y R1 R2 w hR hH qj=>gh ?_)
  ·subst hR;rw[eY] at hp;replace hH:=hH.OU;refine GX.OO (h:=fun it w hH=>gh ?_);refine GC.bP [3,51] (fun _:List (Int×vz)×List (Int×vz)=>[]) (fun y w'=>(y.1.map (·.1)++y.2.map (·.1)).Perm (X.S.map (·.1))∧(∀z∈y.2,z∈X.S)∧(∀z∈y.1,z.2.l.length≤64*R.K)∧SH o w' [aA b [ak X.i,uV R.last, .map (some X.lm), .map (some X.sm),iV X.many,iV X.eT],jy X.i ⟨R.aI,R.N⟩,aQ X.lm (fun n:Nat=>uV n) jo X.M,yL it X.sm iV ji X.S y.2,bB (bT jC X.M),bB (bT jh X.S),aA c [ak i2,uV R.last, .map (some Fl), .map (some FQ),iV X.many,iV X.eT],jy i2 ⟨R.aI,R.N⟩,aQ Fl (fun n:Nat=>uV n) jo M2,aQ FQ iV ji y.1,bB (bT jh y.1)]) (fun y=>y.2.length) ([],X.S) rfl rfl ⟨mC _,fun _ h=>h,fun _ h=>(by cases h),(show SH o w (bB (bT jh [])::_) from hH.pz).to⟩ ?_;rintro⟨S2,Rs⟩ w ⟨Ad,fY,dY,hH⟩;dsimp only at Ad fY dY hH ⊢;refine gh ?_;refine GX.Of (h0:=fun hR=>gh ?_) (h1:=fun y R1 R2 w hR hH qj=>gh ?_)
   ·subst hR;replace hH:=hH.OU;rw[tD,eY] at Ad;have aO:=(hH.aaW (x:=bB (bT jC X.M)) (pq.Bj (ahS X.M))).KH (m:=bT jC X.M) (m':=bT jC M2) (ahT hp.symm);have oM:xB ⟨i2,Fl,FQ,M2,S2,X.many,X.eT⟩ R:=⟨fun j=>by rw[hX.live j,V2 hp hX.nd],((hp.map (·.1)).nodup_iff).2 hX.nd,fun x hx=>hX.eb x (hp.mem_iff.1 hx),Ad.nodup_iff.2 hX.Ct,hX.many,hX.eT,dY,hX.refs⟩
    have cF:=AM (b:=c) oM aO;exact⟨c,rfl,trivial,(AM (b:=b) hX cF).to⟩
   ·obtain⟨k,e⟩:=y;dsimp only at qj;have hm:az X.S k=some e:=Ft hX.Ct (fY _ (by rw[hR];simp));have sT:=hX.J0 _ (Fs hm);dsimp only at sT;replace hH:=SH.ap (SH.oF (m:=bT jh X.S) (jh (k,e)) _ hH (o0 hm));obtain⟨eq,ec,el⟩:=e;dsimp only at hH sT;have g1:ay eq=none→el.length=0:=fun e=>by
     by_cases h0:0<el.length
     ·obtain⟨p2,rfl⟩:=hH.pos (el:=38) (sz:=1) (q:=eq);cases e
     ·omega
    refine GC.bq (pl:=(aZ [0,3,6,12,15,10,20,23])) (T:=fun _=>False) (hm:=mixed) (h:=fun w hE hH=>gh ?_);dsimp only[ji];refine gh ?_;refine GX.ew (hc:=fun _ hs=>QG (cs:=lY el) ah (by simp[lY]) g1 (al0 _) hs) (h:=?_);rintro⟨q3,c3⟩ w _ hS hH;replace hH:=SH.ap hH;refine gh ?_;refine GX.Av (v:=(⟨q3,c3,el⟩:vz)) (h:=fun w hH=>gh ?_);replace hH:=hH.iu (m:=bT jh X.S) (jh (k,⟨eq,ec,el⟩)) (bT jh (bD X.S k)) (by repeat(first|exact Pk.nil|(apply Pk.cons;repeat(first|exact aB.here|apply aB.there)))) (o0 hm);have EC:k∉S2.map (·.1):=fun hk=>by
     have bX:=Ad.nodup_iff.2 hX.Ct;rw[hR,gu] at bX;exact bX.2.2 k hk k (by simp) rfl
    rw[N7 EC] at hH;replace hH:=hH.iu (m:=bT jh (S2++[(k,⟨q3,c3,el⟩)])) (jh (k,⟨q3,c3,el⟩)) (bT jh S2) (by repeat(first|exact Pk.nil|(apply Pk.cons;repeat(first|exact aB.here|apply aB.there)))) (by simp only[bT,eD,A2];exact List.perm_append_comm.trans (by simp));refine GQ.br (S2++[(k,⟨q3,c3,el⟩)],R1++R2) rfl ⟨?_,fun z hz=>fY z (by rw[hR];simp only[cJ,bY] at hz ⊢;exact hz.imp id .inr),fun z hz=>?_,hH.to⟩ (by rw[hR];simp)
    ·refine List.Perm.trans ?_ Ad;rw[hR];simp only[eD,cK,tD,cP,List.singleton_append];exact(List.perm_middle.symm).append_left _
    ·rcases cJ.1 hz with hz|hz
     ·exact dY z hz
     ·rw[lC.1 hz];exact sT
  ·obtain⟨k,v⟩:=y;dsimp only at qj;refine GX.cm (h:=fun z w hH=>gh ?_);refine GX.bc (h:=fun w hH=>gh ?_);refine GC.bq (pl:=(aZ [0,3,6,12,10,16,20])) (T:=fun _=>False) (hm:=mixed) (h:=fun w hE hH=>gh ?_);refine GX.Av (v:=v) (h:=fun w hH=>gh ?_);have EC:k∉M2.map (·.1):=fun hk=>by
    have bX:=((hp.map (·.1)).nodup_iff).2 hX.nd;rw[hR,eD,gu] at bX;exact bX.2.2 k hk k (by simp) rfl
   rw[N7 EC] at hH;refine GQ.br (M2++[(k,v)],R1++R2) rfl ⟨?_,hH.to⟩ (by rw[hR];simp);refine List.Perm.trans ?_ hp;rw[hR];simp only[cP,List.singleton_append];exact(List.perm_middle.symm).append_left M2
end
end Go.Proofs.YtmlpbmgfmnmmmaaGreat.V.M
