/-
  Parts of the proof. No condition.
-/
import Derived.Test.YtmlpbmgfmnmmmaaGreatW2as
import Derived.Test.YtmlpbmgfmnmmmaaGreatW2bg
import Derived.Test.YtmlpbmgfmnmmmaaGreatW2bd
import Derived.Test.YtmlpbmgfmnmmmaaGreatW2ad
import Derived.Shelf.SortM.Plain
import Derived.Shelf.SortM.SortNone
import Derived.Test.YtmlpbmgfmnmmmaaGreatW2am
import Derived.Sort.OwnSortedInts
set_option linter.unusedVariables false
set_option linter.unusedSimpArgs false
set_option maxRecDepth 8000
set_option maxHeartbeats 8000000
open Go.Proofs.Tryz
namespace Go.Proofs.YtmlpbmgfmnmmmaaGreat.V.M
section
theorem V1 {κ ν μ:Type}[DecidableEq κ](f:ν→μ)(M:List (κ×ν))(k:κ):az (M.map fun x=>(x.1,f x.2)) k=(az M k).map f:=by
 induction M with
 |nil=>rfl
 |cons x M ih=>
  obtain⟨a,u⟩:=x;simp only[cK,az];split
  ·rfl
  ·exact ih
def tu (T:ke):List (Int×Pu):=T.map fun x=>(x.1,x.2.2)
theorem FD (T:ke):(tu T).map (·.1)=T.map (·.1):=by simp[tu]
theorem gy.copy {S:b5}{T T2:ke}(h:gy S T)(hp:(tu T2).Perm (tu T)):gy S T2:=by
 have bX:((tu T).map (·.1)).Nodup:=by rw[FD];exact h.nd
 have hg:∀k,(az T2 k).map (·.2)=(az T k).map (·.2):=fun k=>by
  have h1:=V2 hp bX k;unfold tu at h1;rw[V1 (fun x:Nat×Pu=>x.2),V1 (fun x:Nat×Pu=>x.2)] at h1;exact h1
 have hs:∀k v,az T2 k=some v→∃v0,az T k=some v0∧v0.2=v.2:=fun k v hv=>by
  have h1:=hg k;rw[hv] at h1;cases hT:az T k with
  |none=>rw[hT] at h1;cases h1
  |some v0=>rw[hT] at h1;exact⟨v0,rfl,(Option.some.inj h1).symm⟩
 refine⟨?_,fun k v hv=>?_,h.g,h.l,h.nw,fun k v hv=>?_,fun n=>?_⟩
 ·rw[←FD];exact((hp.map (·.1)).nodup_iff).2 bX
 ·obtain⟨v0,h1,_⟩:=hs k v hv;exact h.key k v0 h1
 ·obtain⟨v0,h1,h2⟩:=hs k v hv;rw[←h2];exact h.bd k v0 h1
 ·rw[h.of n];have h1:=hg (n:Int);cases hT:az T (n:Int) with
  |none=>rw[hT] at h1;cases qq:az T2 (n:Int) with
   |none=>rfl
   |some v=>rw[qq] at h1;cases h1
  |some v0=>rw[hT] at h1;cases qq:az T2 (n:Int) with
   |none=>rw[qq] at h1;cases h1
   |some v=>rw[qq] at h1;dsimp only;rw[show v.2=v0.2 from Option.some.inj h1]
attribute [local irreducible] GX GO
attribute [local irreducible] aA ao aQ aF fz star
theorem ajy {o:Og}{w:World}{s:Nat}{S:b5}(hl:S.last<2^40)(hs:Start o w [dy s S]) :
  aj prog 67 [ak s].toArray w (aU o ak (fun _=>True) (fun c=>[dy s S,dy c S])):=by
 have hH:=hs.sh;refine aj.enter func67 rfl ntmps67 rfl (gh ?_);refine GX.aL (hc:=fun _ hs=>AR hs) (h:=fun w hE hH=>gh ?_);obtain⟨⟨⟨b,T⟩,hT⟩,hH⟩:=SH.un hH;replace hH:=SH.ap hH;dsimp only at hH;refine gh ?_;refine GC.bq (pl:=(aZ [0,3,6,12,15,18,24,27,30,10,22,34,38,39,44,45])) (T:=fun _=>False) (hm:=mixed) (h:=fun w hE hH=>gh ?_);refine GX.td (iV:Int→Value) lS (h:=fun b2 w hS hH=>gh ?_);refine GX.nJ (h:=fun c w hS hH=>gh ?_);refine GX.OO (h:=fun it w hH=>gh ?_);refine GC.bP [3,27] (fun _:ke×ke=>[]) (fun y w'=>(tu y.1++tu y.2).Perm (tu T)∧(∀z∈y.2,z∈T)∧SH o w' [aA s [uV S.fX,uV S.now,uV S.last, .map (some b)],yL it b iV lS T y.2,bB (bT gP T),aA c [uV S.fX,uV S.now,uV S.last, .map (some b2)],aQ b2 iV lS y.1,bB (bT gP y.1)]) (fun y=>y.2.length) ([],T) rfl rfl ⟨mC _,fun _ h=>h,(show SH o w (bB (bT gP [])::_) from hH.pz).to⟩ ?_;rintro⟨T2,Rm⟩ w ⟨hp,fY,hH⟩;dsimp only at hp fY hH ⊢;refine gh ?_;refine GX.Of (h0:=fun hR=>gh ?_) (h1:=fun y R1 R2 w hR hH qj=>gh ?_)
 ·subst hR;replace hH:=hH.OU;rw[show tu []=[] from rfl,eY] at hp;have aO:=ve (s:=c) (b:=b2) (T:=T2) hH (hT.copy hp);exact⟨c,rfl,trivial,(ve (s:=s) (b:=b) (T:=T) aO hT).to⟩
 ·obtain⟨k,p,u⟩:=y;dsimp only at qj;have hm:az T k=some (p,u):=Ft hT.nd (fY _ (by rw[hR];simp));obtain⟨b1,Zj,b3⟩:=hT.bd _ _ hm;dsimp only at b1 Zj b3;replace hH:=SH.ap (SH.oF (m:=bT gP T) (gP (k,(p,u))) _ hH (o0 hm));dsimp only at hH;obtain⟨⟨a,d⟩,hH⟩:=SH.un hH;replace hH:=SH.ap hH;dsimp only at hH;have g1:a=none→u.soft.length=0:=fun e=>hH.Ou (el:=242) (sz:=2) (c:=d) (live:=aK eX u.soft) (ha:=e)
  refine GC.bq (pl:=(aZ [0,3,6,12,15,18,21,27,30,33,10,25,37,41,42,47,50])) (T:=fun _=>False) (hm:=mixed) (h:=fun w hE hH=>gh ?_);refine gh ?_;refine GX.ew (hc:=fun _ hs=>QC (cs:=aK eX u.soft) ah (gQ wU _) g1 (FI XB _) hs) (h:=?_);rintro⟨q3,c3⟩ w _ hS hH;replace hH:=SH.ap hH;refine gh ?_;refine GX.nJ (h:=fun p3 w hS hH=>gh ?_);refine GX.Av (v:=((p3,u):Nat×Pu)) (h:=fun w hH=>gh ?_);have DP:=si (p:=p) (u:=u) hH;have aO:=si (p:=p3) (u:=u) (DP.wK (el:=242) (sz:=2) (q:=q3) (cs:=aK eX u.soft));have cF:=aO.iu (m:=bT gP T) (gP (k,(p,u))) (bT gP (bD T k)) (by repeat(first|exact Pk.nil|(apply Pk.cons;repeat(first|exact aB.here|apply aB.there)))) (o0 hm);have EC:k∉T2.map (·.1):=fun hk=>by
   have bX:=((hp.map (·.1)).nodup_iff).2 (by rw[FD];exact hT.nd);rw[hR,eD,FD,FD,gu] at bX;exact bX.2.2 k hk k (by simp) rfl
  rw[N7 EC] at cF;have iU:=cF.iu (m:=bT gP (T2++[(k,(p3,u))])) (gP (k,(p3,u))) (bT gP T2) (by repeat(first|exact Pk.nil|(apply Pk.cons;repeat(first|exact aB.here|apply aB.there)))) (by simp only[bT,eD,A2];exact List.perm_append_comm.trans (by simp));refine GQ.br (T2++[(k,(p3,u))],R1++R2) rfl ⟨?_,fun z hz=>fY z (by rw[hR];simp only[cJ,bY] at hz ⊢;exact hz.imp id .inr),iU.to⟩ (by rw[hR];simp);refine List.Perm.trans ?_ hp;rw[hR];simp only[tu,eD,cK,tD,cP,List.singleton_append];exact(List.perm_middle.symm).append_left _
end
section
attribute [local irreducible] GO GX aA fz aF aQ ao star
variable {o:Og}{w:World}
structure xy (l:List Nat):Prop where
 lt:∀n∈l,n<65536
 inc:l.Pairwise (· < ·)
 len:l.length≤16
theorem Ut (n:Nat)(hn:n<65536)(w:World):aj prog 136 [iV n].toArray w fun v w'=>v = .bool true∧w'=w:=by
 refine aj.enter func136 rfl ntmps136 rfl (gh ?_);rw[show decide ((n:Int)<65536)=true from bQ ah];exact⟨rfl,rfl⟩
theorem agM {a:Option Addr}{c since:Nat}{l:List Nat}(hl:xy l)(hs:Start o w [aF a (aD l)]):aj prog 285 [Value.agg #[.slice a l.length c,uV since]].toArray w (Po o (.bool true) []):=by
 have hH:=hs.sh;have pF:=hl.len;refine aj.enter func285 rfl ntmps285 rfl (gh ?_);refine GX.cw (h:=fun z w hH=>gh ?_);refine GC.bP [1,6,7] (fun y:Nat=>[(8,iV y)]) (fun y w'=>y≤l.length∧SH o w' [aF a (aD l),aA z [.slice a l.length c,uV since]]) (fun y=>l.length - y) 0 rfl rfl ⟨bh _,hH.to⟩ ?_;rintro j w ⟨hj,hH⟩;refine gh ?_;refine ifs (fun h1=>?_) (fun h1=>?_)<;>refine gh ?_
 ·have hx:l[j]?=some l[j]:=by simp[show j<l.length by omega]
  have hn:=hl.lt _ (bF hx);have aP:∀k m,k<j→l[k]?=some m→m<l[j]:=fun k m hkj hk=>by
   obtain⟨h1,h2⟩:=aV.1 hk;rw[←h2];exact sv.1 hl.inc k j h1 ah hkj
  generalize l[j]=n at hx hn aP;have hA:=hH.bR (x:=aF a (aD l)) (a:=a) (cs:=aD l) bL;obtain⟨bk,ok,rfl,jM⟩:=uJ hA hx;refine gh ?_;refine GX.next rfl (GO.rP rfl rfl rfl (jM _ ah) (gh ?_));refine GX.da (Ut n hn _) rfl rfl rfl rfl rfl rfl (gh ?_)
  by_cases h0:j=0
  ·subst h0;refine gh ?_;exact GQ.br 1 rfl ⟨by omega,hH⟩ ah
  ·rw[show decide ((0:Int)<(j:Int))=true from bQ ah];have ey:l[j - 1]?=some l[j - 1]:=by simp[show j - 1<l.length by omega]
   have hm:=aP (j - 1) _ ah ey;generalize l[j - 1]=m at ey hm;obtain⟨Zq,ok2,e2,Lp⟩:=uJ hA ey;obtain⟨rfl,rfl⟩:bk=Zq∧ok=ok2:=by cases e2;exact⟨rfl,rfl⟩
   refine gh ?_;rw[show(j:Int) - 1=((j - 1:Nat):Int) by omega];refine gh ?_;refine GX.next rfl (GO.rP rfl rfl rfl (Lp _ ah) (gh ?_));rw[show decide ((n:Int)≤(m:Int))=false from bt ah];refine gh ?_;exact GQ.br (j+1) rfl ⟨by omega,hH⟩ ah
 ·rw[bQ ah];exact⟨rfl,hH.to⟩
theorem Vx {a:Option Addr}{c since s:Nat}{S:b5}{l:List Nat}(hl:xy l)(hS:S.last<2^40)(hs:Start o w [dy s S,aF a (aD l)]):aj prog 213 [Value.agg #[.slice a l.length c,uV since],ak s].toArray w (Po o (iV 0) [dy s S,aF a (aD l)]):=by
 have hH:=hs.sh;refine aj.enter func213 rfl ntmps213 rfl (gh ?_);refine GX.cw (h:=fun z w hH=>gh ?_);refine GX.bS (hc:=fun _ hs=>XM 0 (by decide) hS hs) (h:=?_);rintro⟨q,d⟩ w _ hH;replace hH:=SH.ap hH;refine gh ?_;refine GX.cm (h:=fun z2 w hH=>gh ?_);refine GX.bc (h:=fun w hH=>gh ?_);refine GX.aL (hc:=fun _ hs=>agM hl hs) (h:=fun w hE hH=>gh ?_);exact⟨rfl,hH.to⟩
def wA (S:b5)(since:Nat)(l:List Nat):Nat:=l.foldl (fun f n=>match sL (S.A n).soft since with|some t=>min f t|none=>f) never
theorem afd {S:b5}{since:Nat}{l:List Nat}{i n:Nat}(h:l[i]?=some n):wA S since (l.take (i+1))=match sL (S.A n).soft since with|some t=>min (wA S since (l.take i)) t|none=>wA S since (l.take i):=by
 obtain⟨h1,h2⟩:=aV.1 h;unfold wA;rw[kQ h1,vt,h2];rfl
theorem agJ {a:Option Addr}{c since s:Nat}{S:b5}{l:List Nat}(hl:xy l)(hS:S.last<2^40)(hs:Start o w [dy s S,aF a (aD l)]):aj prog 138 [Value.agg #[.slice a l.length c,uV since],ak s].toArray w (Po o (.tuple #[uV (wA S since l),iV 0]) [dy s S,aF a (aD l)]):=by
 have hH:=hs.sh;have pF:=hl.len;refine aj.enter func138 rfl ntmps138 rfl (gh ?_);refine GX.cw (h:=fun z w hH=>gh ?_);refine GX.bz (hc:=fun _ hs=>Vx hl hS hs) (h:=fun w hH=>gh ?_);refine GC.bP [1,2,20,21] (fun y:Nat×Nat=>[(22,iV y.1),(7,uV y.2)]) (fun y w'=>y.1≤l.length∧y.2=wA S since (l.take y.1)∧SH o w' [dy s S,aF a (aD l),aA z [.slice a l.length c,uV since]]) (fun y=>l.length - y.1) (0,never) rfl rfl ⟨bh _,rfl,hH.to⟩ ?_;rintro⟨j,F⟩ w ⟨hj,hF,hH⟩;dsimp only at hj hF hH ⊢;refine gh ?_;refine ifs (fun h1=>?_) (fun h1=>?_)<;>refine gh ?_
 ·have hx:l[j]?=some l[j]:=by simp[show j<l.length by omega]
  have hn:=hl.lt _ (bF hx);generalize l[j]=n at hx hn;have hA:=hH.bR (x:=aF a (aD l)) (a:=a) (cs:=aD l) bL;obtain⟨bk,ok,rfl,jM⟩:=uJ hA hx;refine gh ?_;refine GX.next rfl (GO.rP rfl rfl rfl (jM _ ah) (gh ?_));refine GX.bz (hc:=fun _ hs=>ajH n since hn hS hs) (h:=fun w hH=>gh ?_);have B7:=afd (S:=S) (since:=since) hx;cases hf:sL (S.A n).soft since with
  |none=>
   rw[hf] at B7;dsimp only at B7;refine gh ?_;exact GQ.br (j+1,F) rfl ⟨by simp only;omega,hF.trans B7.symm,hH⟩ (by simp only;omega)
  |some t=>
   rw[hf] at B7;dsimp only at B7;refine gh ?_;rw[show(if(((some t).getD 0:Nat):Int)<(F:Int) then(((some t).getD 0:Nat):Int) else(F:Int))=((min F t:Nat):Int) by
    show(if(t:Int)<(F:Int) then(t:Int) else(F:Int))=_;split<;>omega]
   exact GQ.br (j+1,min F t) rfl ⟨by simp only;omega,by dsimp only;rw[B7,hF],hH⟩ (by simp only;omega)
 ·obtain rfl:j=l.length:=by omega
  rw[j5] at hF;subst hF;refine gh ?_;exact⟨rfl,hH.to⟩
def xN (S:b5)(since n:Nat):Bool:=decide ((since:Int)<((S.A n).mS:Nat))
theorem agH {bs z s since n:Nat}{v:Value}{S:b5}(hn:n<65536)(hS:S.last<2^40)(hs:Start o w [dy s S,aA bs [ak s],aA z [v,uV since]]):aj prog 215 [iV n,ak bs,ak z].toArray w (Po o (.bool (xN S since n)) [dy s S,aA bs [ak s],aA z [v,uV since]]):=by
 have hH:=hs.sh;refine aj.enter func215 rfl ntmps215 rfl (gh ?_);refine GX.bS (hc:=fun _ hs=>XM n hn hS hs) (h:=?_);rintro⟨q,d⟩ w _ hH;replace hH:=SH.ap hH;refine gh ?_;refine GX.cm (h:=fun z2 w hH=>gh ?_);refine GX.bc (h:=fun w hH=>gh ?_);exact⟨rfl,hH.to⟩
theorem agy {a:Option Addr}{c bs z s since:Nat}{v:Value}{S:b5}{l:List Nat}(hl:xy l)(hS:S.last<2^40)(hs:Start o w [dy s S,aA bs [ak s],aA z [v,uV since],aF a (aD l)]):aj prog 286 [.slice a l.length c, .func (.func 215) #[] #[ak bs,ak z]].toArray w (aU o (fun y:Int=>iV y) (fun y=>decide (0≤y)=l.any (xN S since)) (fun _=>[dy s S,aA bs [ak s],aA z [v,uV since],aF a (aD l)])):=by
 have hH:=hs.sh;have pF:=hl.len;refine aj.enter func286 rfl ntmps286 rfl (gh ?_);refine GC.bP [0,1,7] (fun y:Nat=>[(8,iV y)]) (fun y w'=>y≤l.length∧(l.take y).any (xN S since)=false∧SH o w' [dy s S,aA bs [ak s],aA z [v,uV since],aF a (aD l)]) (fun y=>l.length - y) 0 rfl rfl ⟨bh _,by simp,hH.to⟩ ?_;rintro j w ⟨hj,bG,hH⟩;refine gh ?_;refine ifs (fun h1=>?_) (fun h1=>?_)<;>refine gh ?_
 ·have hx:l[j]?=some l[j]:=by simp[show j<l.length by omega]
  have qL:=kQ (show j<l.length by omega);have hn:=hl.lt _ (bF hx);have ea:=bF hx;generalize l[j]=n at hx hn qL ea;have hA:=hH.bR (x:=aF a (aD l)) (a:=a) (cs:=aD l) bL;obtain⟨bk,ok,rfl,jM⟩:=uJ hA hx;refine gh ?_;refine GX.next rfl (GO.rP rfl rfl rfl (jM _ ah) (gh ?_));refine GX.bz (hc:=fun _ hs=>agH hn hS hs) (h:=fun w hH=>gh ?_);cases hb:xN S since n with
  |true=>
   refine gh ?_;refine⟨(j:Int),rfl,?_,hH.to⟩;show decide ((0:Int)≤(j:Int))=_;rw[bQ ah];exact(xp.2 ⟨n,ea,hb⟩).symm
  |false=>
   refine gh ?_;refine GQ.br (j+1) rfl ⟨by omega,?_,hH⟩ ah;rw[qL,List.any_append,bG];simp[hb]
 ·obtain rfl:j=l.length:=by omega
  rw[j5] at bG;refine gh ?_;exact⟨-1,rfl,by rw[bG];rfl,hH.to⟩
theorem agi {a:Option Addr}{c bs z s since:Nat}{v:Value}{S:b5}{l:List Nat}(hl:xy l)(hS:S.last<2^40)(hs:Start o w [dy s S,aA bs [ak s],aA z [v,uV since],aF a (aD l)]):aj prog 214 [.slice a l.length c, .func (.func 215) #[] #[ak bs,ak z]].toArray w (Po o (.bool (l.any (xN S since))) [dy s S,aA bs [ak s],aA z [v,uV since],aF a (aD l)]):=by
 have hH:=hs.sh;refine aj.enter func214 rfl ntmps214 rfl (gh ?_);refine GX.bS (hc:=fun _ hs=>agy hl hS hs) (h:=?_);rintro y w hy hH;replace hH:=SH.ap hH;refine gh ?_;exact⟨by rw[←hy],hH.to⟩
theorem agI {a:Option Addr}{c since s:Nat}{S:b5}{l:List Nat}(hl:xy l)(hS:S.last<2^40)(hs:Start o w [dy s S,aF a (aD l)]):aj prog 137 [Value.agg #[.slice a l.length c,uV since],ak s].toArray w (Po o (.tuple #[.bool (l.any (xN S since)),iV 0]) [dy s S,aF a (aD l)]):=by
 have hH:=hs.sh;refine aj.enter func137 rfl ntmps137 rfl (gh ?_);refine GX.cw (h:=fun z w hH=>gh ?_);refine GX.cw (h:=fun bs w hH=>gh ?_);refine GX.bz (hc:=fun _ hs=>Vx hl hS hs) (h:=fun w hH=>gh ?_);refine GX.bz (hc:=fun _ hs=>agi hl hS hs) (h:=fun w hH=>gh ?_);exact⟨rfl,hH.to⟩
theorem afc (S:b5)(since:Nat)(l:List Nat):wA S since l≤never:=by
 have key:∀(l:List Nat) (f:Nat),f≤never→l.foldl (fun f n=>match sL (S.A n).soft since with|some t=>min f t|none=>f) f≤never:=by
  intro l
  induction l with
  |nil=>intro f h;exact h
  |cons n l ih=>
   intro f h;refine ih _ ?_;dsimp only;split
   ·exact eh (Nat.min_le_left _ _) h
   ·exact h
 exact key l never (bj _)
def As (S:b5)(since:Nat)(l:List Nat)(now d:Nat):Nat:=if l.any (xN S since) then 0 else Cq (max S.now now) d (wA S since l) S.fX
theorem agF {a:Option Addr}{c since s now d:Nat}{S:b5}{l:List Nat}(hl:xy l)(hS:S.last<2^40)(hs:Start o w [dy s S,aF a (aD l)]):aj prog 74 [Value.agg #[.slice a l.length c,uV since],ak s,uV now,uV d].toArray w (Po o (.tuple #[iV (As S since l now d),iV 0]) [dy s S,aF a (aD l)]):=by
 have hH:=hs.sh;obtain⟨T0,oK⟩:=J3 hH;have hg:S.fX≤never:=eh oK.g (by decide);refine aj.enter func74 rfl ntmps74 rfl (gh ?_);refine GX.cw (h:=fun z w hH=>gh ?_);refine GX.bz (hc:=fun _ hs=>agI hl hS hs) (h:=fun w hH=>gh ?_);unfold As;cases hb:l.any (xN S since) with
 |true=>
  refine gh ?_;exact⟨rfl,hH.to⟩
 |false=>
  refine gh ?_;refine GX.bz (hc:=fun _ hs=>agJ hl hS hs) (h:=fun w hH=>gh ?_);refine GX.aL (hc:=fun _ hs=>ajS hs) (h:=fun w hE hH=>gh ?_);refine GX.da (Dy S.now now _) rfl rfl rfl rfl rfl rfl (gh ?_);refine GX.aL (hc:=fun _ hs=>ajJ hs) (h:=fun w hE hH=>gh ?_);refine GX.da (aah (max S.now now) d (wA S since l) S.fX (afc S since l) hg _) rfl rfl rfl rfl rfl rfl (gh ?_);exact⟨rfl,hH.to⟩
theorem aay {q:Option Nat}{c n:Nat}{l:List Nat}(hn:l.length=n)(hl:n<2^40)(hp:l.Pairwise (· < ·))(hs:Start o w [fz (ao 3 1 q n c (aD l))]):aj prog 135 [.slice (ay q) n c].toArray w (Po o (.slice (ay q) n c) []):=by
 subst hn;have hH:=hs.sh;refine aj.enter func135 rfl ntmps135 rfl (gh ?_);refine ifs (fun h1=>?_) (fun h1=>?_)<;>refine gh ?_
 ·exact⟨rfl,hH.to⟩
 obtain⟨p,rfl⟩:=hH.lR (el:=3) (sz:=1) (q:=q);refine gh ?_;refine GC.bP [0] (fun y:Nat=>[(3,iV y)]) (fun y w'=>1≤y∧y≤l.length∧SH o w' [fz (ao 3 1 (some p) l.length c (aD l))]) (fun y=>l.length - y) 1 rfl rfl ⟨bj _,by omega,hH.to⟩ ?_;rintro j w ⟨SQ,hj,hH⟩;refine gh ?_;refine ifs (fun h2=>?_) (fun h2=>?_)<;>refine gh ?_
 ·have hx:l[j]?=some l[j]:=by simp[show j<l.length by omega]
  have ey:l[j - 1]?=some l[j - 1]:=by simp[show j - 1<l.length by omega]
  have aP:l[j - 1]<l[j]:=sv.1 hp (j - 1) j ah ah ah;generalize l[j]=x at hx aP;generalize l[j - 1]=y at ey aP;refine GC.bq (pl:=(aZ [0,3,6,12,15,18,21,10,25,27])) (T:=fun _=>False) (hm:=mixed) (h:=fun w hE hH=>gh ?_);refine gh ?_;refine GX.read rfl (GO.jU (hv:=show(aD l)[j]?=some (iV x) by simp[aD,hx]) (h:=gh ?_));rw[show(j:Int) - 1=((j - 1:Nat):Int) by omega];refine gh ?_;refine GX.read rfl (GO.jU (hv:=show(aD l)[j - 1]?=some (iV y) by simp[aD,ey]) (h:=gh ?_));refine ifs (fun h3=>?_) (fun h3=>?_)<;>refine gh ?_
  ·omega
  ·exact GQ.br (j+1) rfl ⟨by omega,by omega,hH.to⟩ ah
 ·exact⟨rfl,hH.to⟩
end
end Go.Proofs.YtmlpbmgfmnmmmaaGreat.V.M
namespace Go.Proofs.YtmlpbmgfmnmmmaaGreat.V
open Go.Shelf
theorem ig {P:Program}{t:TypeId}{z:Value}(h:(P.info? t).bind (·.zero)=some z)(w:World):(zeroValue t).run P w = .ok z w:=by
 cases hi:P.info? t with
 |none=>rw[hi] at h;cases h
 |some i=>
  rw[hi] at h;have hz:i.zero=some z:=h;simp[zeroValue,typeInfo,hi,hz]
def iO:Ren:=⟨fun|5=>62|7=>115|8=>116|10=>184|11=>185|12=>186|13=>187|14=>188|15=>189|16=>190|17=>191|18=>192|19=>193|20=>194|30=>272|31=>273|32=>274|33=>275|34=>276|35=>277|40=>316|_=>0,fun|0=>0|3=>3|4=>4|5=>5|9=>9|22=>72|23=>72|25=>3|32=>224|35=>317|36=>318|41=>322|44=>325|46=>38|53=>386|57=>367|63=>420|64=>125|_=>0,fun _=>0⟩
theorem akZ:Bears prog 62 (SlBodyM.n5 iO):=⟨"slices.Sort[[]int,int]",by decide,by kernel_rfl⟩
theorem ak0:Bears prog 115 (SlBodyM.n7 iO):=⟨"slices.pdqsortOrdered[int]",by decide,by kernel_rfl⟩
theorem ak1:(prog).funcs[116]?=some (SlBodyM.n8 iO):=ai
theorem akH:Bears prog 184 (SlBodyM.n10 iO):=⟨"slices.insertionSortOrdered[int]",by decide,by kernel_rfl⟩
theorem akI:Bears prog 185 (SlBodyM.n11 iO):=⟨"slices.heapSortOrdered[int]",by decide,by kernel_rfl⟩
theorem akJ:Bears prog 186 (SlBodyM.n12 iO):=⟨"slices.breakPatternsOrdered[int]",by decide,by kernel_rfl⟩
theorem akK:Bears prog 187 (SlBodyM.n13 iO):=⟨"slices.choosePivotOrdered[int]",by decide,by kernel_rfl⟩
theorem akL:Bears prog 188 (SlBodyM.n14 iO):=⟨"slices.reverseRangeOrdered[int]",by decide,by kernel_rfl⟩
theorem akM:Bears prog 189 (SlBodyM.n15 iO):=⟨"slices.partialInsertionSortOrdered[int]",by decide,by kernel_rfl⟩
theorem akN:Bears prog 190 (SlBodyM.n16 iO):=⟨"cmp.Less[int]",by decide,by kernel_rfl⟩
theorem akO:Bears prog 191 (SlBodyM.n17 iO):=⟨"slices.partitionEqualOrdered[int]",by decide,by kernel_rfl⟩
theorem akP:Bears prog 192 (SlBodyM.n18 iO):=⟨"slices.partitionOrdered[int]",by decide,by kernel_rfl⟩
theorem akQ:(prog).funcs[193]?=some (SlBodyM.n19 iO):=ai
theorem akR:(prog).funcs[194]?=some (SlBodyM.n20 iO):=ai
theorem akS:Bears prog 272 (SlBodyM.n30 iO):=⟨"slices.siftDownOrdered[int]",by decide,by kernel_rfl⟩
theorem akT:(prog).funcs[273]?=some (SlBodyM.n31 iO):=ai
theorem akU:(prog).funcs[274]?=some (SlBodyM.n32 iO):=ai
theorem akV:Bears prog 275 (SlBodyM.n33 iO):=⟨"slices.medianAdjacentOrdered[int]",by decide,by kernel_rfl⟩
theorem akW:Bears prog 276 (SlBodyM.n34 iO):=⟨"slices.medianOrdered[int]",by decide,by kernel_rfl⟩
theorem akX:Bears prog 277 (SlBodyM.n35 iO):=⟨"cmp.isNaN[int]",by decide,by kernel_rfl⟩
theorem akY:Bears prog 316 (SlBodyM.n40 iO):=⟨"slices.order2Ordered[int]",by decide,by kernel_rfl⟩
theorem Cn:cy prog 0=some (false,1):=ai
theorem NK:((prog).info? 0).bind (·.zero)=some ((Value.tuple #[])):=ai
theorem yy:cy prog 3=some (false,1):=ai
theorem Jb:((prog).info? 3).bind (·.zero)=some ((Value.int IntKind.i64 0)):=ai
theorem Ja:cy prog 4=some (false,1):=ai
theorem Vv:((prog).info? 4).bind (·.zero)=some ((Value.bool false)):=ai
theorem Vo:cy prog 5=some (false,1):=ai
theorem af8:((prog).info? 5).bind (·.zero)=some ((Value.int IntKind.u8 0)):=ai
theorem Vp:cy prog 9=some (false,1):=ai
theorem af9:((prog).info? 9).bind (·.zero)=some ((Value.string { data:=#[]})):=ai
theorem Co:cy prog 72=some (false,1):=ai
theorem NL:((prog).info? 72).bind (·.zero)=some ((Value.slice none 0 0)):=ai
theorem Vq:cy prog 224=some (false,1):=ai
theorem aga:((prog).info? 224).bind (·.zero)=some ((Value.int IntKind.u64 0)):=ai
theorem Vr:cy prog 317=some (false,1):=ai
theorem agb:((prog).info? 317).bind (·.zero)=some ((Value.int IntKind.i64 0)):=ai
theorem Vt:cy prog 318=some (false,1):=ai
theorem agc:((prog).info? 318).bind (·.zero)=some ((Value.tuple #[Value.int IntKind.i64 0,Value.int IntKind.i64 0])):=ai
theorem Vu:cy prog 322=some (false,1):=ai
theorem agd:((prog).info? 322).bind (·.zero)=some ((Value.tuple #[Value.int IntKind.i64 0,Value.bool false])):=ai
theorem Vf:cy prog 325=some (false,1):=ai
theorem afZ:((prog).info? 325).bind (·.zero)=some ((Value.int IntKind.u32 0)):=ai
theorem Vg:cy prog 38=some (false,1):=ai
theorem af0:((prog).info? 38).bind (·.zero)=some ((Value.int IntKind.u64 0)):=ai
theorem Vh:cy prog 386=some (false,1):=ai
theorem af1:((prog).info? 386).bind (·.zero)=some ((Value.int IntKind.u64 0)):=ai
theorem Vi:cy prog 367=some (false,1):=ai
theorem af2:((prog).info? 367).bind (·.zero)=some ((Value.pointer none)):=ai
theorem Vj:cy prog 420=some (false,1):=ai
theorem af3:((prog).info? 420).bind (·.zero)=some ((Value.pointer none)):=ai
theorem Vk:cy prog 125=some (false,1):=ai
theorem af4:((prog).info? 125).bind (·.zero)=some ((Value.tuple #[Value.int IntKind.i64 0,Value.int IntKind.i64 0])):=ai
theorem FU:SlLaysM.n5 prog iO:={ mixed:=by kernel_rfl,f5:=akZ,f7:=ak0,f8:=ak1,f10:=akH,f11:=akI,f12:=akJ,f13:=akK,f14:=akL,f15:=akM,f16:=akN,f17:=akO,f18:=akP,f19:=akQ,f20:=akR,f30:=akS,f31:=akT,f32:=akU,f33:=akV,f34:=akW,f35:=akX,f40:=akY,t0:=by kernel_rfl,a0:=fun w=>(aC.mk Cn).isAgg w,z0:=fun w=>(aC.mk Cn).sizeOf w,v0:=ig NK,t3:=by kernel_rfl,a3:=fun w=>(aC.mk yy).isAgg w,z3:=fun w=>(aC.mk yy).sizeOf w,v3:=ig Jb,t4:=by kernel_rfl,a4:=fun w=>(aC.mk Ja).isAgg w,z4:=fun w=>(aC.mk Ja).sizeOf w,v4:=ig Vv,t5:=by kernel_rfl,a5:=fun w=>(aC.mk Vo).isAgg w,z5:=fun w=>(aC.mk Vo).sizeOf w,v5:=ig af8,t9:=by kernel_rfl,a9:=fun w=>(aC.mk Vp).isAgg w,z9:=fun w=>(aC.mk Vp).sizeOf w,v9:=ig af9,t22:=by kernel_rfl,a22:=fun w=>(aC.mk Co).isAgg w,z22:=fun w=>(aC.mk Co).sizeOf w,v22:=ig NL,t23:=by kernel_rfl,a23:=fun w=>(aC.mk Co).isAgg w,z23:=fun w=>(aC.mk Co).sizeOf w,v23:=ig NL,t25:=by kernel_rfl,a25:=fun w=>(aC.mk yy).isAgg w,z25:=fun w=>(aC.mk yy).sizeOf w,v25:=ig Jb,t32:=by kernel_rfl,a32:=fun w=>(aC.mk Vq).isAgg w,z32:=fun w=>(aC.mk Vq).sizeOf w,v32:=ig aga,t35:=by kernel_rfl,a35:=fun w=>(aC.mk Vr).isAgg w,z35:=fun w=>(aC.mk Vr).sizeOf w,v35:=ig agb,t36:=by kernel_rfl,a36:=fun w=>(aC.mk Vt).isAgg w,z36:=fun w=>(aC.mk Vt).sizeOf w,v36:=ig agc,t41:=by kernel_rfl,a41:=fun w=>(aC.mk Vu).isAgg w,z41:=fun w=>(aC.mk Vu).sizeOf w,v41:=ig agd,t44:=by kernel_rfl,a44:=fun w=>(aC.mk Vf).isAgg w,z44:=fun w=>(aC.mk Vf).sizeOf w,v44:=ig afZ,t46:=by kernel_rfl,a46:=fun w=>(aC.mk Vg).isAgg w,z46:=fun w=>(aC.mk Vg).sizeOf w,v46:=ig af0,t53:=by kernel_rfl,a53:=fun w=>(aC.mk Vh).isAgg w,z53:=fun w=>(aC.mk Vh).sizeOf w,v53:=ig af1,t57:=by kernel_rfl,a57:=fun w=>(aC.mk Vi).isAgg w,z57:=fun w=>(aC.mk Vi).sizeOf w,v57:=ig af2,t63:=by kernel_rfl,a63:=fun w=>(aC.mk Vj).isAgg w,z63:=fun w=>(aC.mk Vj).sizeOf w,v63:=ig af3,t64:=by kernel_rfl,a64:=fun w=>(aC.mk Vk).isAgg w,z64:=fun w=>(aC.mk Vk).sizeOf w,v64:=ig af4}
end Go.Proofs.YtmlpbmgfmnmmmaaGreat.V
namespace Go.Proofs.YtmlpbmgfmnmmmaaGreat.V.M
section
open Go.RowKit Go.Shelf Go.Sort
attribute [local irreducible] GX GO
def J1 (l:List Int):List Int:=l.mergeSort fun x y=>decide (x≤y)
theorem akh (g cap n:Nat)(zs:List Int)(hn:zs.length=n)(w:World)(hO:aG w 3 1 (some g) (some ⟨g,0,none⟩) n cap (dI zs))(hz:zs.length≤100000) :
  aj prog 62 [.slice (some ⟨g,0,none⟩) n cap].toArray w fun v w'=>v = .tuple #[]∧aG w' 3 1 (some g) (some ⟨g,0,none⟩) n cap (dI (J1 zs))∧Mod (· = g) w w':=by
 subst hn;obtain⟨cur,hg,r1,r2,r3,r4⟩:=qV hO;have hH:=holds_of_blockI (ss:=zs) hg (by rw[kO] at r4;exact r4);refine aj.Az ((AnyM.slices_Sort_int (ρ:=iO) FU g 0 cap zs w hH (re.1 hg).1 ah).mono ?_);rintro e w' ⟨rfl,n,os,rfl⟩;refine⟨_,rfl,rfl,?_,?_⟩
 ·have h:=ownsRow_sortedI (n:=n) (os:=os) (ts:=zs.mergeSort fun x y=>decide (x≤y)) (ss:=zs) (base:=0) (by simp) (bh _) hg r1 r2 (by simpa using r3);exact⟨by simp[dI,J1], .inr ⟨g,rfl,rfl,h⟩⟩
 ·exact(Mod.Ot (grownBy_sortedI _)).weaken fun k _ hk=>by cases hk;rfl
end
section
open Go.RowKit Go.Shelf Go.Sort
attribute [local irreducible] GX GO
theorem Zp (w:World):aj prog 116 [Value.int .u64 0].toArray w fun v w'=>v=iV 0∧w'=w:=by
 refine aj.Az ((calls_of_every_depth fun D=>AnySM.bits_LenIn { FU with} D (0:Int) w ah ah).mono ?_);rintro e w' ⟨rfl,rfl⟩;exact⟨_,rfl,rfl,rfl⟩
theorem aeF (c:Nat)(w:World):aj prog 184 [Value.slice none 0 c,iV 0,iV 0].toArray w fun v w'=>v = .tuple #[]∧w'=w:=by
 refine aj.enter func184 rfl ntmps184 rfl (gh ?_);refine GC.bP [0,1,2] (fun _:Unit=>[(6, .int .i64 (0+1))]) (fun _ w'=>w'=w) (fun _=>0) () rfl rfl rfl ?_;rintro _ _ rfl;refine gh ?_;exact⟨rfl,rfl⟩
theorem ah9 (c:Nat)(w:World):aj prog 115 [Value.slice none 0 c,iV 0,iV 0,iV 0].toArray w fun v w'=>v = .tuple #[]∧w'=w:=by
 refine aj.enter func115 rfl ntmps115 rfl (gh ?_);refine GC.bP [0] (fun _:Unit=>[(1,iV 0),(2,iV 0),(3,iV 0),(8, .bool true),(9, .bool true)]) (fun _ w'=>w'=w) (fun _=>0) () rfl rfl rfl ?_;rintro _ _ rfl;refine gh ?_;refine GX.da (aeF _ _) rfl rfl rfl rfl rfl rfl (gh ?_);exact⟨rfl,rfl⟩
theorem akg (c:Nat)(w:World):aj prog 62 [Value.slice none 0 c].toArray w fun v w'=>v = .tuple #[]∧w'=w:=by
 refine aj.enter func62 rfl ntmps62 rfl (gh ?_);refine GX.da (Zp _) rfl rfl rfl rfl rfl rfl (gh ?_);refine GX.da (ah9 _ _) rfl rfl rfl rfl rfl rfl (gh ?_);exact⟨rfl,rfl⟩
end
section
theorem SH.cY {o:Og}{w:World}{l:List It}{el:TypeId}{sz n c:Nat}{q:Option Nat}{cs:List Value}(h:SH o w (ao el sz q n c cs::l)):aG w el sz q (ay q) n c cs:=let⟨_,_,h,_⟩:=h.head;h
attribute [local irreducible] GX GO
attribute [local irreducible] aA ao aQ aF fz star
def iH (l:List Nat):List Nat:=l.mergeSort fun x y=>decide (x≤y)
theorem FT (l:List Nat):(iH l).Perm l:=List.mergeSort_perm l _
theorem akk (l:List Nat):dI (J1 (l.map fun n:Nat=>(n:Int)))=aD (iH l):=by
 unfold J1 iH;rw[←List.map_mergeSort (r:=fun x y:Nat=>decide (x≤y)) (f:=fun n:Nat=>(n:Int)) (fun a _ b _=>by simp)];simp[dI,aD]
theorem aeH (l:List Nat):aD l=dI (l.map fun n:Nat=>(n:Int)):=by simp[dI,aD]
theorem aki {o:Og}{w:World}{q:Option Nat}{n c:Nat}{l:List Nat}(hn:l.length=n)(hz:n≤100000)(hs:Start o w [ao 3 1 q n c (aD l)]):aj prog 62 [.slice (ay q) n c].toArray w (Po o (.tuple #[]) [ao 3 1 q n c (aD (iH l))]):=by
 have hH:=hs.sh;have hO:=hH.cY;cases q with
 |none=>
  obtain rfl:n=0:=by
   by_cases h0:0<n
   ·obtain⟨_,h⟩:=hH.pos (el:=3) (sz:=1) (q:=none);cases h
   ·omega
  obtain rfl:l=[]:=ga hn;refine(akg c w).mono fun v w' ⟨h1,h2⟩=>?_
  subst h2;rw[show iH []=[] by simp[iH]];exact⟨h1,hH.to⟩
 |some g=>
  rw[aeH] at hO;refine(akh g c n _ (by simpa using hn) w hO (by simpa[hn] using hz)).mono fun v w' ⟨h1,h2,h3⟩=>?_
  rw[akk] at h2;exact⟨h1,(hH.ly bA.here (fun _=>h2) (h3.weaken fun k _ hk=>by rw[hk]) (fun b hb => .inl hb)).to⟩
theorem XQ {l:List Nat}(hn:l.Nodup)(aP:∀n∈l,n<65536)(pF:l.length≤16):xy (iH l):=by
 refine⟨fun n h=>aP n ((FT l).mem_iff.1 h),?_,by rw[(FT l).length_eq];exact pF⟩;have hs:(iH l).Pairwise fun x y=>x≤y:=by
  have:=List.pairwise_mergeSort (le:=fun x y:Nat=>decide (x≤y)) (fun a b c h1 h2=>by simp only[mE] at *;omega) (fun a b=>by simp only[Bool.or_eq_true,mE];omega) l;simpa[iH] using this
 have hd:(iH l).Nodup:=(FT l).nodup_iff.2 hn;exact hs.imp₂ (fun a b h1 h2=>by omega) hd
def afe (n since:Nat)(q:Option Nat×Nat):Value := .tuple #[.agg #[.slice (ay q.1) n q.2,uV since],iV 0]
theorem agG {o:Og}{w:World}{a:Option Addr}{c n since:Nat}{l:List Nat}(hl:l.length=n)(hn:l.Nodup)(aP:∀x∈l,x<65536)(pF:n≤16)(h0:a=none→n=0)(hs:Start o w [aF a (aD l)]) :
  aj prog 73 [.slice a n c,uV since].toArray w (aU o (afe n since) (fun _=>True) (fun q=>[ao 3 1 q.1 n q.2 (aD (iH l))])):=by
 have hH:=hs.sh;have hL:=XQ hn aP ah;have dY:(iH l).length=n:=by rw[(FT l).length_eq,hl]
 refine aj.enter func73 rfl ntmps73 rfl (gh ?_);refine GX.cm (h:=fun z w hH=>gh ?_);refine GX.dX (hc:=fun _ hs=>vD (cs:=aD l) ah (by simp[hl]) h0 (qM _) hs) (h:=?_);rintro⟨q,d⟩ w _ hE hH;replace hH:=SH.ap hH;refine gh ?_;refine GX.bz (hc:=fun _ hs=>aki hl ah hs) (h:=fun w hH=>gh ?_);refine GX.aL (hc:=fun _ hs=>aay dY ah hL.inc hs) (h:=fun w hE hH=>gh ?_);refine GC.bP [1,4,6,15,16] (fun y:Nat=>[(17,iV y)]) (fun y w'=>y≤n∧SH o w' [ao 3 1 q n d (aD (iH l)),aA z [.slice none 0 0,uV 0]]) (fun y=>n - y) 0 rfl rfl ⟨bh _,hH.to⟩ ?_;rintro j w ⟨hj,hH⟩;refine gh ?_;refine ifs (fun h1=>?_) (fun h1=>?_)<;>refine gh ?_
 ·have hx:(iH l)[j]?=some (iH l)[j]:=by simp[show j<(iH l).length by omega]
  have ey:=hL.lt _ (bF hx);generalize (iH l)[j]=x at hx ey;obtain⟨p,rfl⟩:=hH.pos (el:=3) (sz:=1) (q:=q);refine gh ?_;refine GX.next rfl (GO.cG (hv:=show(aD (iH l))[j]?=some (iV x) by simp[aD,hx]) (h:=gh ?_));refine GX.da (Ut x ey _) rfl rfl rfl rfl rfl rfl (gh ?_);exact GQ.br (j+1) rfl ⟨by omega,hH⟩ ah
 ·refine gh ?_;refine ifs (fun h2=>?_) (fun h2=>?_)<;>refine gh ?_
  ·omega
  refine GX.bc (h:=fun w hH=>gh ?_);exact⟨(q,d),rfl,trivial,hH.to⟩
end
end Go.Proofs.YtmlpbmgfmnmmmaaGreat.V.M
