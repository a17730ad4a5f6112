/-
  Parts of the proof. No condition.
-/
import Derived.Test.YtoloaehmppcjoaaGreatW2bd
import Derived.Test.YtoloaehmppcjoaaGreatW2ax
import Derived.Test.YtoloaehmppcjoaaGreatW2ap
import Derived.Test.YtoloaehmppcjoaaGreatW2bb
set_option linter.unusedVariables false
set_option linter.unusedSimpArgs false
set_option maxRecDepth 8000
set_option maxHeartbeats 8000000
open Go.Proofs.Tryz
namespace Go.Proofs.YtoloaehmppcjoaaGreat.V.M
section
section
variable {P:Program}{ops:Array Oper}{Q:Exit→Act→World→Prop}{S:World→Prop}{n:Nat}
variable {i m:Nat}{p:b6}{e:Env}{w:World}{k:Kd}{dst:Option Tmp}{ty:TypeId}{pos:String}{an:Array Edge}{g:Option (Nat×Bool)}
variable {og:Og}{l r l':List It}{b:Nat}{κ ν:Type}[DecidableEq κ]{kv:κ→Value}{vv:ν→Value}{M:List (κ×ν)}
theorem GX.abk [Fr]{t kt el:TypeId}{x y:Operand}{a:κ}{Z:Value}{z:ν}(hH:SH og w l:=by assumption)
  (ho:ops[i]?=some ⟨dst, .mapEntry t x y,ty,pos,an,g⟩:=by rfl) (hu:bI P t (.map kt el):=by infer_instance) (hw:aI ops e ⟨dst, .mapEntry t x y,ty,pos,an,g⟩=some true:=by rfl) (hx:ev e x=some (.map (some b)):=by rfl) (hr:bA (aS b kv vv M) (aS b kv vv (bC M a ((ay M a).getD z))) l l':=by repeat(first|exact bA.here|apply bA.there)) (hk:kE P kv kt:=by infer_instance) (kf:mv P el Z:=by infer_instance) (hz:Z=vv z:=by rfl) (hy:ev e y=some (kv a):=by rfl) (hd:fits n dst=true:=by rfl)
  (h:∀w' st,SH og w' l'→Bd w' b kv vv (bC M a ((ay M a).getD z)) a st→GX P ops Q (fun _=>True) n (bc (i+1) m) (e.put dst (.tuple #[vv ((ay M a).getD z),iV (st:Nat)])) w'):GX P ops Q (fun _=>True) n (bc i (m+1)) e w:=by
 subst hz;obtain⟨_,hs,_⟩:=hr.perm;have hM:dY w b kv vv M:=let⟨_,_,h,_⟩:=(hH.perm hs).head;h;obtain⟨w1,st,h1,h2,h3,h4⟩:=Xi hM hu.out hk kf.out a;refine GX.aw ho (GO.run (R:=fun u w'=>u = .tuple #[vv ((ay M a).getD z),iV (st:Nat)]∧w'=w1) hw hd (fun ac ha=>⟨_,_,w1,by simp[execOp,bE ha hx,bE ha hy,h1], .inl rfl,rfl,rfl⟩) ?_);rintro _ _ ⟨rfl,rfl⟩;exact⟨fun _ _=>trivial,h _ _ (hH.vi hr h2 h4) h3⟩
theorem GX.abh [Fr]{t:TypeId}{x s y:Operand}{a:κ}{st:Nat}{v:ν}(hH:SH og w l:=by assumption)(hE:Bd w b kv vv M a st:=by assumption)
  (ho:ops[i]?=some ⟨none, .entryStore t x s y,ty,pos,an,g⟩:=by rfl) (hw:aI ops e ⟨none, .entryStore t x s y,ty,pos,an,g⟩=some true:=by rfl) (hx:ev e x=some (.map (some b)):=by rfl) (hs:ev e s=some (iV (st:Nat)):=by rfl) (hr:bA (aS b kv vv M) (aS b kv vv (bC M a v)) l l':=by repeat(first|exact bA.here|apply bA.there)) (hv:ev e y=some (vv v):=by rfl)
  (h:∀w',SH og w' l'→GX P ops Q (fun _=>True) n (bc (i+1) m) e w'):GX P ops Q (fun _=>True) n (bc i (m+1)) e w:=by
 obtain⟨w1,h1,h2,h3⟩:=Xc (P:=P) hE (t:=t) v;refine GX.aw ho (GO.run (R:=fun _ w'=>w'=w1) hw rfl (fun ac ha=>⟨.skip,undef,_,by simp[execOp,bE ha hx,bE ha hs,bE ha hv,h1], .inr ⟨rfl,rfl⟩,rfl⟩) ?_);rintro _ _ rfl;exact⟨fun _ _=>trivial,h _ (hH.vi hr h2 h3)⟩
end
theorem SH.ag8 {o:Og}{w:World}{l t:List It}{κ ν:Type}{kv:κ→Value}{vv:ν→Value}{M:List (κ×ν)}{b:Nat}{el:TypeId}{sz n c:Nat}{q:Option Nat}{cs:List Value}(h:SH o w l)(hp:Pk l [aS b kv vv M,aq el sz q n c cs] t:=by repeat(first|exact Pk.nil|(apply Pk.cons;repeat(first|exact az.here|apply az.there)))):some b≠q:=by
 obtain⟨_,_,_,⟨_,rfl⟩,⟨_,rfl⟩,hd,_⟩:=SH.nodup (h.perm hp.perm);exact fun e=>hd b rfl e.symm
attribute [local irreducible] GX GO
attribute [local irreducible] aB aq aS aF fz star
def iU:List Bs→dQ→List Nat→List Nat×Int×dQ
 | [],s,acc=>(acc,0,s)
 |x::l,s,acc=>if(fp s x).2.1=0 then iU l (fp s x).2.2 (acc++[(fp s x).1.toNat]) else(acc,(fp s x).2.1,(fp s x).2.2)
def ji (R:gY)(id:Nat)(t:List Bs):List Nat×Int×gY:=
 if(iU t ⟨R.aD,R.N⟩ []).2.1=0 then((iU t ⟨R.aD,R.N⟩ []).1,0,⟨R.aD,(iU t ⟨R.aD,R.N⟩ []).2.2.N,id,fun j=>if j=id then some (t,(iU t ⟨R.aD,R.N⟩ []).1) else R.live j,R.K+1⟩)
 else([],(iU t ⟨R.aD,R.N⟩ []).2.1,⟨R.aD,(gj (iU t ⟨R.aD,R.N⟩ []).2.2 (iU t ⟨R.aD,R.N⟩ []).1).2.N,R.last,R.live,R.K+1⟩)
theorem aer {B:Nat}{s:dQ}(h:∀y∈s.N,y.2≤B)(x:Bs):(fp s x).2.2.aD=s.aD∧(∀y∈(fp s x).2.2.N,y.2≤B+1)∧0≤(fp s x).1:=by
 unfold fp;split
 ·exact⟨rfl,fun y hy=>ua (h y hy),Int.le_refl 0⟩
 ·refine⟨rfl,fun y hy=>?_,by omega⟩;show y.2≤B+1;dsimp only at hy;unfold cL at hy;split at hy
  ·rename_i n hn
   rcases mn hy with hy|rfl
   ·exact ua (h y hy)
   ·by_cases hl:n<s.N.length
    ·have:=h (s.N.getD n ([],0)) (by rw[dP,bO hl];exact pI hl);show(s.N.getD n ([],0)).2+1≤B+1;omega
    ·show(s.N.getD n ([],0)).2+1≤B+1;rw[dP,pH ah];show 0+1≤B+1;omega
  ·split at hy
   ·rcases mn hy with hy|rfl
    ·exact ua (h y hy)
    ·show 1≤B+1;omega
   ·rcases cx.1 hy with hy|hy
    ·exact ua (h y hy)
    ·rw[jn.1 hy];show 1≤B+1;omega
theorem V0 {κ ν:Type}[DecidableEq κ]{M:List (κ×ν)}{k:κ}{v:ν}{x:κ×ν}(h:x∈bC M k v):x∈M∨x=(k,v):=by
 induction M with
 |nil=>exact .inr (by simpa[bC] using h)
 |cons y M ih=>
  obtain⟨a,u⟩:=y;simp only[bC] at h;split at h
  ·rename_i e
   rcases bU.1 h with h|h
   ·subst e;exact .inr h
   ·exact .inl (fP _ h)
  ·rcases bU.1 h with h|h
   ·exact .inl (by rw[h];simp)
   ·exact(ih h).imp (fP _) fun h=>h
theorem ajk {o:Og}{w:World}{b c:Nat}{a:Option Addr}{R:gY}(id:Nat)(t:List Bs)(xY:R.last<id)(ht:bY t=(t,0))(hK:R.K<16384)(hs:Start o w [oE b R,aF a (aK t)]) :
  aj prog 175 [ak b,uV id, .slice a t.length c].toArray w (aX o (O3 (ji R id t).1 (ji R id t).2.1) (fun _=>True) (fun q=>[oE b (ji R id t).2.2,aq 3 1 q.1 (ji R id t).1.length q.2 (aG (ji R id t).1)])):=by
 have hH:=hs.sh;have ot:t.all eV=true∧t.length≤16:=by
  unfold bY at ht;split at ht
  ·cases ht
  ·rename_i h1
   split at ht
   ·cases ht
   ·rename_i h2
    refine⟨by simpa using h1,?_⟩;have h3:=congrArg (fun y=>y.1.length) ht;dsimp only at h3;rw[(lJ _).length_eq,fH] at h3;omega
 obtain⟨⟨X,hX⟩,hH⟩:=SH.un hH;replace hH:=SH.ap hH;dsimp only at hH;refine aj.enter func175 rfl ntmps175 rfl (gh ?_);refine GX.aM (hc:=fun _ hs=>FQ (r:=0) hs) (h:=fun w hE hH=>gh ?_);refine GX.ef (hc:=fun _ hs=>Gf t rfl ah hs) (h:=?_);rw[ht];rintro⟨q1,c1⟩ w _ hE hH;replace hH:=SH.ap hH;refine gh ?_;rw[show decide ((id:Int)≤(R.last:Int))=false from bQ ah];refine gh ?_;refine GX.aM (hc:=fun _ hs=>Q9 t t rfl rfl ah ah hs) (h:=fun w hE hH=>gh ?_);rw[b8 rfl];refine gh ?_;dsimp only at hH ⊢;replace hH:=SH.cF (el:=3) (sz:=1) (q:=none) (n:=0) (c:=0) (cs:=[]) hH (Mod.refl w) (fun _ h=>by cases h) (aH.nil _ _ _);refine GC.bR [0,1,8,42,43] (fun y:Nat×(Option Nat×Nat)×List Nat×dQ=>[(44,iV y.1),(10, .slice (aA y.2.1.1) y.1 y.2.1.2)]) (fun y w'=>y.1≤t.length∧y.2.2.1.length=y.1∧iU t ⟨R.aD,R.N⟩ []=iU (t.drop y.1) y.2.2.2 y.2.2.1∧y.2.2.2.aD=R.aD∧(∀z∈y.2.2.2.N,z.2≤64*R.K+y.1)∧SH o w' [aq 3 1 y.2.1.1 y.1 y.2.1.2 (aG y.2.2.1),aq 9 1 q1 t.length c1 (aK t),aB b [ak X.i,uV R.last, .map (some X.lm), .map (some X.sm),iV X.many,iV X.dW],jS X.i y.2.2.2,aS X.lm (fun n:Nat=>uV n) jI X.M,aS X.sm iV jH X.S,bJ (bS jU X.M),bJ (bS jG X.S)]) (fun y=>t.length - y.1) (0,(none,0),[],⟨R.aD,R.N⟩) rfl rfl ⟨bh _,rfl,rfl,rfl,hX.refs,hH.to⟩ ?_;rintro⟨j,⟨q,d⟩,acc,s⟩ w ⟨hj,zI,j7,zS,ra,hH⟩;dsimp only at hj zI j7 zS ra hH ⊢;have B':=hX.dW;have nu:=hX.many;refine gh ?_;refine ifs (fun h4=>?_) (fun h4=>?_)<;>refine gh ?_
 ·have hx:t[j]?=some t[j]:=by simp[show j<t.length by omega]
  have Em:t.drop j=t[j]::t.drop (j+1):=tV ah;have Ff:eV t[j]=true:=sR.1 ot.1 _ (pI _);generalize t[j]=x at hx Em Ff;have hxv:(aK t)[j]?=some (str x):=by simp[aK,hx]
  obtain⟨p1,rfl⟩:=hH.pos (el:=9) (sz:=1) (q:=q1);refine gh ?_;refine GX.next rfl (GO.cT (hv:=hxv) (h:=gh ?_));have hrn:∀n,jB s.N x=some n→(s.N.getD n ([],0)).2+1<2097152:=fun n _=>by
   by_cases hl:n<s.N.length
   ·have:=ra (s.N.getD n ([],0)) (by rw[dP,bO hl];exact pI hl);omega
   ·rw[dP,pH ah];show 0+1<2097152
    decide
  obtain⟨m1,m2,m3⟩:=aer ra x;refine GX.bF (hc:=fun _ hs=>aes x Ff hrn hs) (h:=fun w hH=>gh ?_);rw[Em,iU] at j7;refine ifs (fun h5=>?_) (fun h5=>?_)<;>refine gh ?_
  ·rw[if_neg h5] at j7;obtain⟨n1,n2,n3⟩:=O4 m2 acc;refine GC.bR [0,14,59,60] (fun y:Nat=>[(61,iV y)]) (fun y w'=>y≤acc.length∧SH o w' [aq 3 1 q j d (aG acc),aB b [ak X.i,uV R.last, .map (some X.lm), .map (some X.sm),iV X.many,iV X.dW],jS X.i (gj (fp s x).2.2 (acc.take y)).2,aS X.lm (fun n:Nat=>uV n) jI X.M,aS X.sm iV jH X.S,bJ (bS jU X.M),bJ (bS jG X.S)]) (fun y=>acc.length - y) 0 rfl rfl ⟨bh _,hH.to⟩ ?_;rintro k w ⟨hk,hH⟩;refine gh ?_;refine ifs (fun h6=>?_) (fun h6=>?_)<;>refine gh ?_
   ·have hy:acc[k]?=some acc[k]:=by simp[show k<acc.length by omega]
    generalize acc[k]=n at hy;obtain⟨p2,rfl⟩:=hH.pos (el:=3) (sz:=1) (q:=q);refine gh ?_;refine GX.next rfl (GO.cT (hv:=show(aG acc)[k]?=some (iV n) by simp[aG,hy]) (h:=gh ?_));refine GX.bF (hc:=fun _ hs=>Ub (n:Int) hs) (h:=fun w hH=>gh ?_);refine GQ.bj (k+1) rfl ⟨by omega,?_⟩ ah;rw[Xp hy];exact hH.to
   ·obtain rfl:k=acc.length:=by omega
    rw[kD] at hH;refine gh ?_;have EW:ji R id t=([],(fp s x).2.1,⟨R.aD,(gj (fp s x).2.2 acc).2.N,R.last,R.live,R.K+1⟩):=by unfold ji;rw[j7,if_neg h5]
    rw[EW];generalize gj (fp s x).2.2 acc=Y at hH n1 n2 ⊢;obtain⟨F,mo,N'⟩:=Y;dsimp only at hH n1 n2 ⊢;obtain rfl:mo=R.aD:=n1.trans (m1.trans zS);replace hH:=SH.cF (el:=3) (sz:=1) (q:=none) (n:=0) (c:=0) (cs:=[]) hH (Mod.refl w) (fun _ h=>by cases h) (aH.nil _ _ _);have o6:xH X ⟨R.aD,N',R.last,R.live,R.K+1⟩:=⟨hX.live,hX.nd,fun x hx=>⟨(hX.eb x hx).len,(hX.eb x hx).aD,(hX.eb x hx).nz⟩,hX.Cq,by show X.many≤64*(R.K+1);omega,by show X.dW≤64*(R.K+1);omega,fun x hx=>by have:=hX.Kb x hx;show _≤64*(R.K+1);omega,fun y hy=>by have:=n2 y hy;show y.2≤64*(R.K+1);omega⟩
    exact⟨(none,0),rfl,trivial,(AK o6 hH).to⟩
  ·rw[if_pos ah] at j7;refine GX.nR (h1:=by simp[Value.oneCell']) (h:=fun q c w _ hH=>gh ?_);refine GQ.bj (j+1,(q,c),acc++[(fp s x).1.toNat],(fp s x).2.2) rfl ⟨by simp only;omega,by simp[zI],j7,m1.trans zS,m2,?_⟩ (by simp only;omega);dsimp only;rw[show aG (acc++[(fp s x).1.toNat])=aG acc++[iV (fp s x).1] by simp[aG,Int.toNat_of_nonneg m3]];exact hH.to
 ·obtain rfl:j=t.length:=by omega
  rw[List.drop_length] at j7;have EW:ji R id t=(acc,0,⟨R.aD,s.N,id,fun j=>if j=id then some (t,acc) else R.live j,R.K+1⟩):=by unfold ji;rw[j7];rfl
  rw[EW];refine GC.bR [0,1,8,10,78,79] (fun y:Nat×List (Int×vH)=>[(80,iV y.1)]) (fun y w'=>y.1≤t.length∧(y.2.map (·.1)).Nodup∧(∀z∈y.2,z.2.l.length≤64*R.K+y.1)∧SH o w' [aq 3 1 q t.length d (aG acc),aq 9 1 q1 t.length c1 (aK t),aB b [ak X.i,uV R.last, .map (some X.lm), .map (some X.sm),iV X.many,iV X.dW],jS X.i s,aS X.lm (fun n:Nat=>uV n) jI X.M,aS X.sm iV jH y.2,bJ (bS jU X.M),bJ (bS jG y.2)]) (fun y=>t.length - y.1) (0,X.S) rfl rfl ⟨bh _,hX.Cq,hX.Kb,hH.to⟩ ?_;rintro⟨k,S⟩ w ⟨hk,bT,ep,hH⟩;dsimp only at hk bT ep hH ⊢;refine gh ?_;refine ifs (fun h6=>?_) (fun h6=>?_)<;>refine gh ?_
  ·have hy:acc[k]?=some acc[k]:=by simp[show k<acc.length by omega]
   generalize acc[k]=n at hy;obtain⟨p2,rfl⟩:=hH.pos (el:=3) (sz:=1) (q:=q);refine gh ?_;refine GX.next rfl (GO.cT (hv:=show(aG acc)[k]?=some (iV n) by simp[aG,hy]) (h:=gh ?_));obtain⟨e,he,wh,hH⟩:∃e:vH,jA jH (.slice none 0 0) false (ay S (n:Int))=jH e∧e.l.length≤64*R.K+k∧SH o w (aq 38 1 e.q e.l.length e.c (tT e.l)::bJ (bS jG (bB S (n:Int)))::[aq 3 1 (some p2) t.length d (aG acc),aq 9 1 q1 t.length c1 (aK t),aB b [ak X.i,uV R.last, .map (some X.lm), .map (some X.sm),iV X.many,iV X.dW],jS X.i s,aS X.lm (fun n:Nat=>uV n) jI X.M,aS X.sm iV jH S,bJ (bS jU X.M)]):=by
    cases hm:ay S (n:Int) with
    |none=>exact⟨⟨none,0,[]⟩,rfl,bh _,SH.cF (el:=38) (sz:=1) (q:=none) (n:=0) (c:=0) (cs:=[]) (SH.Dk (n:Int) hH) (Mod.refl w) (fun _ h=>by cases h) (aH.nil _ _ _)⟩
    |some e=>exact⟨e,rfl,ep _ (Fz hm),SH.rK (jG ((n:Int),e)) _ hH (pq hm)⟩
   obtain⟨eq,ec,el⟩:=e;dsimp only at wh hH;have Si:¬some b=eq:=hH.tI (b:=b) (q:=eq) (el:=38) (sz:=1);have Tf:¬some X.sm=eq:=hH.ag8 (b:=X.sm) (q:=eq) (el:=38) (sz:=1);refine GC.br (pl:=(bg [0,3,6,12,15,18,21,27,33,10,25,31,38,41,44])) (T:=fun k=>some k=eq) (hm:=mixed) (h:=fun w hE hH=>gh ?_);refine gh ?_;refine GX.read rfl (GO.NZ (hV:=he) (h:=gh ?_));dsimp only[jH];refine GX.P4 (h1:=by simp[Value.oneCell']) (h:=fun q c w _ hH=>gh ?_);refine GX.As (v:=(⟨q,c,el++[id]⟩:vH)) (hv:=by rw[show jH ⟨q,c,el++[id]⟩ = .slice (aA q) (el.length+1) c by simp[jH]];rfl) (h:=fun w hH=>gh ?_);rw[show el.length+1=(el++[id]).length by simp,show tT el++[uV id]=tT (el++[id]) by simp[tT]] at hH;replace hH:=hH.iI (m:=bS jG (bC S (n:Int) ⟨q,c,el++[id]⟩)) (jG ((n:Int),⟨q,c,el++[id]⟩)) (bS jG (bB S (n:Int))) (by repeat(first|exact Pk.nil|(apply Pk.cons;repeat(first|exact az.here|apply az.there)))) FG;refine GQ.bj (k+1,bC S (n:Int) ⟨q,c,el++[id]⟩) rfl ⟨by simp only;omega,sB bT _ _,fun z hz=>?_,hH.to⟩ (by simp only;omega)
   rcases V0 hz with hz|rfl
   ·have:=ep z hz;show _≤64*R.K+(k+1);omega
   ·show(el++[id]).length≤64*R.K+(k+1);rw[bH];show el.length+1≤_;omega
  ·obtain rfl:k=t.length:=by omega
   refine gh ?_;refine GX.dC (h:=fun w hH=>gh ?_);refine GX.dC (h:=fun w hH=>gh ?_);have ER:aA q=none→t.length=0:=fun e=>by
    by_cases h0:0<t.length
    ·obtain⟨p2,rfl⟩:=hH.pos (el:=3) (sz:=1) (q:=q);cases e
    ·omega
   refine GX.abk (z:=(⟨[],[],none,0,none,0⟩:sU)) (h:=fun w st hH hE=>gh ?_);refine GX.abh (v:=(⟨t,acc,aA q1,c1,aA q,d⟩:sU)) (hv:=by rw[show jI ⟨t,acc,aA q1,c1,aA q,d⟩ = .agg #[.slice (aA q1) t.length c1, .slice (aA q) t.length d] by simp[jI,zI]];rfl) (h:=fun w hH=>gh ?_);rw[Jx] at hH;refine GX.ef (hc:=fun _ hs=>vJ (cs:=aG acc) ah (by simp[zI]) ER (u4 _) hs) (h:=?_);rintro⟨q3,c3⟩ w _ hE hH;replace hH:=SH.ap hH;refine gh ?_;have aQ:=((hH.freeze (el:=3) (sz:=1) (q:=q) (n:=t.length) (c:=d) (cs:=aG acc) bP).freeze (el:=9) (sz:=1) (q:=q1) (n:=t.length) (c:=c1) (cs:=aK t) bP).Dk (f:=jU) (M:=X.M) id;have cH:=aQ.iI (m:=bS jU (bC X.M id ⟨t,acc,aA q1,c1,aA q,d⟩)) (jU (id,⟨t,acc,aA q1,c1,aA q,d⟩)) (bS jU (bB X.M id)) (by repeat(first|exact Pk.nil|(apply Pk.cons;repeat(first|exact az.here|apply az.there)))) FG;have o6:xH ⟨X.i,X.lm,X.sm,bC X.M id ⟨t,acc,aA q1,c1,aA q,d⟩,S,X.many+acc.length,X.dW⟩ ⟨R.aD,s.N,id,fun j=>if j=id then some (t,acc) else R.live j,R.K+1⟩:=⟨fun j=>by
    dsimp only;rw[kU];split
    ·rfl
    ·exact hX.live j,sB hX.nd _ _,fun z hz=>by
    rcases V0 hz with hz|rfl
    ·exact⟨(hX.eb z hz).len,(hX.eb z hz).aD,(hX.eb z hz).nz⟩
    ·exact⟨zI.symm,by show acc.length≤64;omega,fun h=>by
      show acc.length=0;rw[zI];exact ER h⟩,bT,by show X.many+acc.length≤64*(R.K+1);omega,by show X.dW≤64*(R.K+1);omega,fun z hz=>by have:=ep z hz;show _≤64*(R.K+1);omega,fun y hy=>by have:=ra y hy;show y.2≤64*(R.K+1);omega⟩
   obtain⟨mo,N⟩:=s;obtain rfl:mo=R.aD:=zS;rw[show Value.int IntKind.i64 ((X.many:Int)+(t.length:Int))=iV (X.many+t.length:Nat) by show iV _=iV _;congr 1] at cH;rw[←zI] at cH ⊢;exact⟨(q3,c3),rfl,trivial,(AK o6 cH).to⟩
end
section
section
variable {P:Program}{ops:Array Oper}{Q:Exit→Act→World→Prop}{S:World→Prop}{n:Nat}
variable {i m:Nat}{p:b6}{e:Env}{w:World}{k:Kd}{dst:Option Tmp}{ty:TypeId}{pos:String}{an:Array Edge}{g:Option (Nat×Bool)}
variable {og:Og}{l r l':List It}{b:Nat}{κ ν:Type}[DecidableEq κ]{kv:κ→Value}{vv:ν→Value}{M:List (κ×ν)}
def yO (it b:Nat)(kv:κ→Value)(vv:ν→Value)(M R:List (κ×ν)):It where
 ok w _ F:=nN w it b kv vv M R∧F=fun k=>k=b∨k=it
 mod:=fun⟨h,e⟩ hm hn _=>⟨h.mod hm (hn b (.inl (by rw[e];exact .inl rfl))) (hn it (.inl (by rw[e];exact .inr rfl))),e⟩
 lt:=fun {w Z F k} ⟨h,e⟩ hb=>by
  rw[e] at hb
  rcases hb with rfl|rfl
  ·exact h.map.lt
  ·exact h.lt
instance {it:Nat}{R:List (κ×ν)}:Zf (yO it b kv vv M R):=⟨fun _ _ _ _ h=>h⟩
theorem SH.OY {it:Nat}{R:List (κ×ν)}(h:SH og w l)(hr:bA (yO it b kv vv M R) (aS b kv vv M) l l':=by repeat(first|exact bA.here|apply bA.there)):SH og w l':=
 h.rep hr fun _ _ ⟨h1,e⟩ _=>⟨(· = b),⟨h1.map,rfl⟩,Mod.refl _,fun k hb => .inl (by rw[e];exact .inl hb)⟩
theorem GX.OU [Fr]{t kt el:TypeId}{x:Operand}{l2:Nat→List It}(hH:SH og w l:=by assumption)
  (ho:ops[i]?=some ⟨dst, .range t x,ty,pos,an,g⟩:=by rfl) (hu:bI P t (.map kt el):=by infer_instance) (hw:aI ops e ⟨dst, .range t x,ty,pos,an,g⟩=some true:=by rfl) (hx:ev e x=some (.map (some b)):=by rfl) (hr:∀it,bA (aS b kv vv M) (yO it b kv vv M M) l (l2 it):=by intro _;repeat(first|exact bA.here|apply bA.there)) (hd:fits n dst=true:=by rfl)
  (h:∀it w',SH og w' (l2 it)→GX P ops Q (fun _=>True) n (bc (i+1) m) (e.put dst (.pointer (some ⟨it,0,none⟩))) w'):GX P ops Q (fun _=>True) n (bc i (m+1)) e w:=by
 obtain⟨_,hs,_⟩:=(hr 0).perm;have hM:dY w b kv vv M:=let⟨_,_,h,_⟩:=(hH.perm hs).head;h;refine GX.range hM ho hw hx hd fun it w' Iq hI hE=>h it w' (hH.rep (hr it) fun _ _ ⟨_,e⟩ _=>⟨fun k=>k=b∨k=it,⟨hI,rfl⟩,hE.mod,fun k hb=>?_⟩)
 rcases hb with hb|hb
 ·exact .inl (by rw[e];exact hb)
 ·exact .inr ah
theorem GX.Ol [Fr]{x:Operand}{it:Nat}{R:List (κ×ν)}{l2:List (κ×ν)→List It}(hH:SH og w l:=by assumption)
  (ho:ops[i]?=some ⟨dst, .next x false,ty,pos,an,g⟩:=by rfl) (hw:aI ops e ⟨dst, .next x false,ty,pos,an,g⟩=some true:=by rfl) (hx:ev e x=some (.pointer (some ⟨it,0,none⟩)):=by rfl) (hr:∀R',bA (yO it b kv vv M R) (yO it b kv vv M R') l (l2 R'):=by intro _;repeat(first|exact bA.here|apply bA.there)) (hd:fits n dst=true:=by rfl)
  (h0:R=[]→GX P ops Q (fun _=>True) n (bc (i+1) m) (e.put dst (.tuple #[.bool false])) w)
  (h1:∀y R1 R2 w',R=R1++y::R2→SH og w' (l2 (R1++R2))→A6 w' it (kv y.1) (vv y.2)→GX P ops Q (fun _=>True) n (bc (i+1) m) (e.put dst (.tuple #[.bool true,kv y.1,vv y.2])) w'):GX P ops Q (fun _=>True) n (bc i (m+1)) e w:=by
 obtain⟨_,hs,_⟩:=(hr R).perm;have hM:nN w it b kv vv M R:=let⟨_,_,h,_⟩:=(hH.perm hs).head;h;refine GX.Wd hM ho hw hx hd h0 fun y R1 R2 w' hR hI hm hE=>h1 y R1 R2 w' hR (hH.rep (hr _) fun _ _ ⟨_,e⟩ _=>⟨fun k=>k=b∨k=it,⟨hI,rfl⟩,hm.weaken fun k _ hk=>by rw[e];exact .inr hk,fun k hb => .inl (by rw[e];exact hb)⟩) hE
end
section
variable {P:Program}{ops:Array Oper}{Q:Exit→Act→World→Prop}{S:World→Prop}{n:Nat}
variable {i m:Nat}{p:b6}{e:Env}{w:World}{k:Kd}{dst:Option Tmp}{ty:TypeId}{pos:String}{an:Array Edge}{g:Option (Nat×Bool)}
variable {og:Og}{l r l':List It}{b:Nat}
theorem GX.tG [Fr]{κ ν:Type}[DecidableEq κ](kv:κ→Value)(vv:ν→Value){T:Nat→Prop}{w0:World}{t:TypeId}(hH:SH og w l:=by assumption)
  (ho:ops[i]?=some ⟨dst, .makeMap t none,ty,pos,an,g⟩:=by rfl) (hw:aI ops e ⟨dst, .makeMap t none,ty,pos,an,g⟩=some true:=by rfl) (hd:fits n dst=true:=by rfl) (hT:Mod T w0 w:=by first|assumption|exact Ext.mod (by assumption))
  (h:∀b w',Mod T w0 w'→SH og w' (aS b kv vv []::l)→GX P ops Q (Mod T w0) n p (e.put dst (.map (some b))) w'):GX P ops Q (Mod T w0) n (.aw i p) e w:=
 GX.aw ho (GO.run (R:=fun u w'=>u = .map (some w.heap.size)∧w'=w.alloc (.map #[] 0)) hw hd (fun ac ha=>⟨_,_,_,by simp[execOp,Instr.makeMap], .inl rfl,rfl,rfl⟩)
  (by rintro _ _ ⟨rfl,rfl⟩;exact⟨fun _ hS=>hS.trans (Ext.alloc w _).mod,h _ _ (hT.trans (Ext.alloc w _).mod) (hH.Oi (Ext.alloc w _) rfl ⟨[],0,heap_alloc_new w _,trivial,lP,fun _ h=>by cases h⟩)⟩))
def pN (x:It):Prop:=∀w Z F,x.ok w Z F→F=fun _=>False
theorem pN.aF {a:Option Addr}{cs:List Value}:pN (aF a cs):=fun _ _ _ h=>h.2.2
theorem pN.sep:∀{l:List It},(∀x∈l,pN x)→∀{w:World}{Z F:Nat→Prop},Sep w Z l F→F=fun _=>False
 | [],_,_,_,_,h=>h
 |x::l,hx,w,Z,F,⟨F1,F2,e,_,h1,h2⟩=>by
  have e1:=hx x (by simp) w Z F1 h1;have e2:=pN.sep (fun y hy=>hx y (fP _ hy)) h2;subst e1 e2;rw[e];funext b;simp
theorem pN.Bj {l:List It}(h:∀x∈l,pN x):pN (bJ l):=fun _ _ _ ⟨_,hk⟩=>pN.sep h hk
theorem SH.aaW {o:Og}{x:It}(h:SH o w l)(hx:pN x)(hs:az x l r:=by repeat(first|exact az.here|apply az.there)):SH o w (x::l):=by
 obtain⟨Z,F,hu,⟨F1,F2,rfl,hd,h1,h2⟩,h3,h4⟩:=h.qq hs;have e:=hx _ _ _ h1;subst e;exact SH.perm (l:=x::x::r) ⟨Z,fun b=>False∨F2 b,hu,⟨fun _=>False,_,by simp,fun _ h=>h.elim,h1,fun _=>False,F2,rfl,hd,h1,h2⟩,h3,h4⟩ (List.Perm.cons _ hs.perm.symm)
end
theorem ahR (M:List (Nat×sU)):∀x∈bS jU M,pN x:=by
 intro x hx;obtain⟨l,hl,hx⟩:=List.mem_flatten.1 hx;obtain⟨y,_,rfl⟩:=bG.1 hl;simp only[jU,bU,uc,or_false] at hx
 rcases hx with rfl|rfl
 ·exact pN.aF
 ·exact pN.aF
theorem Od {κ ν:Type}[DecidableEq κ]{M:List (κ×ν)}{k:κ}(h:k∉M.map (·.1))(v:ν):bC M k v=M++[(k,v)]:=by
 induction M with
 |nil=>rfl
 |cons x M ih=>
  obtain⟨a,u⟩:=x;simp only[cJ,bU,not_or] at h;simp only[bC];rw[if_neg (fun e=>h.1 (by first|exact e|exact e.symm)),ih h.2];rfl
theorem V5 {κ ν:Type}[DecidableEq κ]{M N:List (κ×ν)}(hp:M.Perm N)(hn:(N.map (·.1)).Nodup)(k:κ):ay M k=ay N k:=by
 have hm:(M.map (·.1)).Nodup:=(hp.map (·.1)).nodup_iff.2 hn;cases h:ay N k with
 |none=>
  rw[wM] at h ⊢;exact fun hk=>h ((hp.map (·.1)).mem_iff.1 hk)
 |some v=>exact FA hm (hp.mem_iff.2 (Fz h))
theorem ahS {κ ν:Type}{f:κ×ν→List It}{M N:List (κ×ν)}(hp:M.Perm N):(bS f M).Perm (bS f N):=(hp.map f).flatten
instance {b:Nat}{s:dQ}:Zf (jS b s):=Zf.star fun _=>inferInstance
attribute [local irreducible] GX GO
attribute [local irreducible] aB aq aS aF fz star
theorem alV (l:List Nat):∀u∈tT l,u.oneCell'=true:=by
 intro u hu;obtain⟨x,_,rfl⟩:=bG.1 hu;rfl
structure YI where
 c:Nat
 i:Nat
 lm:Nat
 sm:Nat
theorem ajq {o:Og}{w:World}{b:Nat}{R:gY}(hK:R.K<16384)(hs:Start o w [oE b R]) :
  aj prog 87 [ak b].toArray w (aX o ak (fun _=>True) (fun c=>[oE b R,oE c R])):=by
 have hH:=hs.sh;obtain⟨⟨X,hX⟩,hH⟩:=SH.un hH;replace hH:=SH.ap hH;dsimp only at hH;refine aj.enter func87 rfl ntmps87 rfl (gh ?_);refine GX.aM (hc:=fun _ hs=>FQ (r:=0) hs) (h:=fun w hE hH=>gh ?_);refine GC.cut (X:=YI) (fun z=>[(0,ak b),(3,ak z.c)]) (fun z w'=>SH o w' [aB b [ak X.i,uV R.last, .map (some X.lm), .map (some X.sm),iV X.many,iV X.dW],jS X.i ⟨R.aD,R.N⟩,aS X.lm (fun n:Nat=>uV n) jI X.M,aS X.sm iV jH X.S,bJ (bS jU X.M),bJ (bS jG X.S),aB z.c [ak z.i,uV R.last, .map (some z.lm), .map (some z.sm),iV X.many,iV X.dW],jS z.i ⟨R.aD,R.N⟩,aS z.lm (fun n:Nat=>uV n) jI [],aS z.sm iV jH []]) ?_ ?_
 ·refine GC.br (pl:=(.pure 0 (.pure 1 (.pure 2 (.pure 5 (.pure 6 (.pure 7 (.pure 11 (.pure 12 (.pure 13 (.pure 15 (.pure 16 (.pure 17 (.read 3 (.read 8 (.read 14 (.read 18 (.alt (.aw 4 (.alt (.aw 9 (.aw 10 (.pure 19 (.aw 20 (.pure 21 .done))))) (.aw 10 (.aw 9 (.pure 19 (.aw 20 (.pure 21 .done))))))) (.alt (.aw 9 (.alt (.aw 4 (.aw 10 (.pure 19 (.aw 20 (.pure 21 .done))))) (.aw 10 (.aw 4 (.pure 19 (.aw 20 (.pure 21 .done))))))) (.aw 10 (.alt (.aw 4 (.aw 9 (.pure 19 (.aw 20 (.pure 21 .done))))) (.aw 9 (.aw 4 (.pure 19 (.aw 20 (.pure 21 .done)))))))))))))))))))))))))) (T:=fun _=>False) (hm:=mixed) (h:=fun w hE hH=>gh ?_);refine gh ?_;refine GX.alt (gh ?_) (gh ?_)
  ·refine GX.eG (hc:=fun _ hs=>Fj hs) (h:=?_);rintro z1 w _ hS hH;replace hH:=SH.ap hH;refine gh ?_;refine GX.alt (gh ?_) (gh ?_)
   ·refine GX.tG (fun n:Nat=>uV n) jI (h:=fun z2 w hS hH=>gh ?_);refine GX.tG (iV:Int→Value) jH (h:=fun z3 w hS hH=>gh ?_);refine GX.oW (h:=fun c w hS hH=>gh ?_);exact GQ.dm ⟨c,z1,z2,z3⟩ (cR (l:=[0,3]) rfl) hH.to
   ·refine GX.tG (iV:Int→Value) jH (h:=fun z3 w hS hH=>gh ?_);refine GX.tG (fun n:Nat=>uV n) jI (h:=fun z2 w hS hH=>gh ?_);refine GX.oW (h:=fun c w hS hH=>gh ?_);exact GQ.dm ⟨c,z1,z2,z3⟩ (cR (l:=[0,3]) rfl) hH.to
  ·refine GX.alt (gh ?_) (gh ?_)
   ·refine GX.tG (fun n:Nat=>uV n) jI (h:=fun z2 w hS hH=>gh ?_);refine GX.alt (gh ?_) (gh ?_)
    ·refine GX.eG (hc:=fun _ hs=>Fj hs) (h:=?_);rintro z1 w _ hS hH;replace hH:=SH.ap hH;refine gh ?_;refine GX.tG (iV:Int→Value) jH (h:=fun z3 w hS hH=>gh ?_);refine GX.oW (h:=fun c w hS hH=>gh ?_);exact GQ.dm ⟨c,z1,z2,z3⟩ (cR (l:=[0,3]) rfl) hH.to
    ·refine GX.tG (iV:Int→Value) jH (h:=fun z3 w hS hH=>gh ?_);refine GX.eG (hc:=fun _ hs=>Fj hs) (h:=?_);rintro z1 w _ hS hH;replace hH:=SH.ap hH;refine gh ?_;refine GX.oW (h:=fun c w hS hH=>gh ?_);exact GQ.dm ⟨c,z1,z2,z3⟩ (cR (l:=[0,3]) rfl) hH.to
   ·refine GX.tG (iV:Int→Value) jH (h:=fun z3 w hS hH=>gh ?_);refine GX.alt (gh ?_) (gh ?_)
    ·refine GX.eG (hc:=fun _ hs=>Fj hs) (h:=?_);rintro z1 w _ hS hH;replace hH:=SH.ap hH;refine gh ?_;refine GX.tG (fun n:Nat=>uV n) jI (h:=fun z2 w hS hH=>gh ?_);refine GX.oW (h:=fun c w hS hH=>gh ?_);exact GQ.dm ⟨c,z1,z2,z3⟩ (cR (l:=[0,3]) rfl) hH.to
    ·refine GX.tG (fun n:Nat=>uV n) jI (h:=fun z2 w hS hH=>gh ?_);refine GX.eG (hc:=fun _ hs=>Fj hs) (h:=?_);rintro z1 w _ hS hH;replace hH:=SH.ap hH;refine gh ?_;refine GX.oW (h:=fun c w hS hH=>gh ?_);exact GQ.dm ⟨c,z1,z2,z3⟩ (cR (l:=[0,3]) rfl) hH.to
 ·rintro⟨c,i2,Fv,FX⟩ w hH;dsimp only at hH ⊢;refine gh ?_;refine GX.OU (h:=fun it w hH=>gh ?_);refine GC.bR [0,3,35] (fun _:List (Nat×sU)×List (Nat×sU)=>[]) (fun y w'=>(y.1++y.2).Perm X.M∧SH o w' [aB b [ak X.i,uV R.last, .map (some X.lm), .map (some X.sm),iV X.many,iV X.dW],jS X.i ⟨R.aD,R.N⟩,yO it X.lm (fun n:Nat=>uV n) jI X.M y.2,aS X.sm iV jH X.S,bJ (bS jU X.M),bJ (bS jG X.S),aB c [ak i2,uV R.last, .map (some Fv), .map (some FX),iV X.many,iV X.dW],jS i2 ⟨R.aD,R.N⟩,aS Fv (fun n:Nat=>uV n) jI y.1,aS FX iV jH []]) (fun y=>y.2.length) ([],X.M) rfl rfl ⟨pD _,hH.to⟩ ?_;rintro⟨M2,Rm⟩ w ⟨hp,hH⟩;dsimp only at hp hH ⊢;refine gh ?_;refine GX.Ol (h0:=fun hR=>gh ?_) (h1:=fun y R1 R2 w hR hH qJ=>gh ?_)
  ·subst hR;rw[fB] at hp;replace hH:=hH.OY;refine GX.OU (h:=fun it w hH=>gh ?_);refine GC.bR [3,51] (fun _:List (Int×vH)×List (Int×vH)=>[]) (fun y w'=>(y.1.map (·.1)++y.2.map (·.1)).Perm (X.S.map (·.1))∧(∀z∈y.2,z∈X.S)∧(∀z∈y.1,z.2.l.length≤64*R.K)∧SH o w' [aB b [ak X.i,uV R.last, .map (some X.lm), .map (some X.sm),iV X.many,iV X.dW],jS X.i ⟨R.aD,R.N⟩,aS X.lm (fun n:Nat=>uV n) jI X.M,yO it X.sm iV jH X.S y.2,bJ (bS jU X.M),bJ (bS jG X.S),aB c [ak i2,uV R.last, .map (some Fv), .map (some FX),iV X.many,iV X.dW],jS i2 ⟨R.aD,R.N⟩,aS Fv (fun n:Nat=>uV n) jI M2,aS FX iV jH y.1,bJ (bS jG y.1)]) (fun y=>y.2.length) ([],X.S) rfl rfl ⟨pD _,fun _ h=>h,fun _ h=>(by cases h),(show SH o w (bJ (bS jG [])::_) from hH.pR).to⟩ ?_;rintro⟨S2,Rs⟩ w ⟨Ac,eO,ep,hH⟩;dsimp only at Ac eO ep hH ⊢;refine gh ?_;refine GX.Ol (h0:=fun hR=>gh ?_) (h1:=fun y R1 R2 w hR hH qJ=>gh ?_)
   ·subst hR;replace hH:=hH.OY;rw[tW,fB] at Ac;have aQ:=(hH.aaW (x:=bJ (bS jU X.M)) (pN.Bj (ahR X.M))).KU (m:=bS jU X.M) (m':=bS jU M2) (ahS hp.symm);have o6:xH ⟨i2,Fv,FX,M2,S2,X.many,X.dW⟩ R:=⟨fun j=>by rw[hX.live j,V5 hp hX.nd],((hp.map (·.1)).nodup_iff).2 hX.nd,fun x hx=>hX.eb x (hp.mem_iff.1 hx),Ac.nodup_iff.2 hX.Cq,hX.many,hX.dW,ep,hX.refs⟩
    have cH:=AK (b:=c) o6 aQ;exact⟨c,rfl,trivial,(AK (b:=b) hX cH).to⟩
   ·obtain⟨k,e⟩:=y;dsimp only at qJ;have hm:ay X.S k=some e:=FA hX.Cq (eO _ (by rw[hR];simp));have wh:=hX.Kb _ (Fz hm);dsimp only at wh;replace hH:=SH.ap (SH.rK (m:=bS jG X.S) (jG (k,e)) _ hH (pq hm));obtain⟨eq,ec,el⟩:=e;dsimp only at hH wh;have g1:aA eq=none→el.length=0:=fun e=>by
     by_cases h0:0<el.length
     ·obtain⟨p2,rfl⟩:=hH.pos (el:=38) (sz:=1) (q:=eq);cases e
     ·omega
    refine GC.br (pl:=(bg [0,3,6,12,15,10,20,23])) (T:=fun _=>False) (hm:=mixed) (h:=fun w hE hH=>gh ?_);dsimp only[jH];refine gh ?_;refine GX.eG (hc:=fun _ hs=>QJ (cs:=tT el) ah (by simp[tT]) g1 (alV _) hs) (h:=?_);rintro⟨q3,c3⟩ w _ hS hH;replace hH:=SH.ap hH;refine gh ?_;refine GX.As (v:=(⟨q3,c3,el⟩:vH)) (h:=fun w hH=>gh ?_);replace hH:=hH.iI (m:=bS jG X.S) (jG (k,⟨eq,ec,el⟩)) (bS jG (bB X.S k)) (by repeat(first|exact Pk.nil|(apply Pk.cons;repeat(first|exact az.here|apply az.there)))) (pq hm);have EN:k∉S2.map (·.1):=fun hk=>by
     have bT:=Ac.nodup_iff.2 hX.Cq;rw[hR,ga] at bT;exact bT.2.2 k hk k (by simp) rfl
    rw[Od EN] at hH;replace hH:=hH.iI (m:=bS jG (S2++[(k,⟨q3,c3,el⟩)])) (jG (k,⟨q3,c3,el⟩)) (bS jG S2) (by repeat(first|exact Pk.nil|(apply Pk.cons;repeat(first|exact az.here|apply az.there)))) (by simp only[bS,eA,A0];exact List.perm_append_comm.trans (by simp));refine GQ.bj (S2++[(k,⟨q3,c3,el⟩)],R1++R2) rfl ⟨?_,fun z hz=>eO z (by rw[hR];simp only[cx,bU] at hz ⊢;exact hz.imp id .inr),fun z hz=>?_,hH.to⟩ (by rw[hR];simp)
    ·refine List.Perm.trans ?_ Ac;rw[hR];simp only[eA,cJ,tW,cS,List.singleton_append];exact(List.perm_middle.symm).append_left _
    ·rcases cx.1 hz with hz|hz
     ·exact ep z hz
     ·rw[jn.1 hz];exact wh
  ·obtain⟨k,v⟩:=y;dsimp only at qJ;refine GX.cA (h:=fun z w hH=>gh ?_);refine GX.bt (h:=fun w hH=>gh ?_);refine GC.br (pl:=(bg [0,3,6,12,10,16,20])) (T:=fun _=>False) (hm:=mixed) (h:=fun w hE hH=>gh ?_);refine GX.As (v:=v) (h:=fun w hH=>gh ?_);have EN:k∉M2.map (·.1):=fun hk=>by
    have bT:=((hp.map (·.1)).nodup_iff).2 hX.nd;rw[hR,eA,ga] at bT;exact bT.2.2 k hk k (by simp) rfl
   rw[Od EN] at hH;refine GQ.bj (M2++[(k,v)],R1++R2) rfl ⟨?_,hH.to⟩ (by rw[hR];simp);refine List.Perm.trans ?_ hp;rw[hR];simp only[cS,List.singleton_append];exact(List.perm_middle.symm).append_left M2
end
end Go.Proofs.YtoloaehmppcjoaaGreat.V.M
