/-
  Parts of the proof. No condition.
-/
import Derived.Test.YtoloaehmppcjoaaGreatW2ar
import Derived.Test.YtoloaehmppcjoaaGreatW2be
import Derived.Test.YtoloaehmppcjoaaGreatW2bb
import Derived.Test.YtoloaehmppcjoaaGreatW2ad
import Derived.Shelf.SortM.Plain
import Derived.Shelf.SortM.SortNone
import Derived.Test.YtoloaehmppcjoaaGreatW2am
import Derived.Sort.OwnSortedInts
set_option linter.unusedVariables false
set_option linter.unusedSimpArgs false
set_option maxRecDepth 8000
set_option maxHeartbeats 8000000
open Go.Proofs.Tryz
namespace Go.Proofs.YtoloaehmppcjoaaGreat.V.M
section
theorem V4 {κ ν μ:Type}[DecidableEq κ](f:ν→μ)(M:List (κ×ν))(k:κ):ay (M.map fun x=>(x.1,f x.2)) k=(ay M k).map f:=by
 induction M with
 |nil=>rfl
 |cons x M ih=>
  obtain⟨a,u⟩:=x;simp only[cJ,ay];split
  ·rfl
  ·exact ih
def tO (T:kI):List (Int×Pu):=T.map fun x=>(x.1,x.2.2)
theorem FI (T:kI):(tO T).map (·.1)=T.map (·.1):=by simp[tO]
theorem gJ.copy {S:bW}{T T2:kI}(h:gJ S T)(hp:(tO T2).Perm (tO T)):gJ S T2:=by
 have bT:((tO T).map (·.1)).Nodup:=by rw[FI];exact h.nd
 have hg:∀k,(ay T2 k).map (·.2)=(ay T k).map (·.2):=fun k=>by
  have h1:=V5 hp bT k;unfold tO at h1;rw[V4 (fun x:Nat×Pu=>x.2),V4 (fun x:Nat×Pu=>x.2)] at h1;exact h1
 have hs:∀k v,ay T2 k=some v→∃v0,ay T k=some v0∧v0.2=v.2:=fun k v hv=>by
  have h1:=hg k;rw[hv] at h1;cases hT:ay T k with
  |none=>rw[hT] at h1;cases h1
  |some v0=>rw[hT] at h1;exact⟨v0,rfl,(Option.some.inj h1).symm⟩
 refine⟨?_,fun k v hv=>?_,h.g,h.l,h.nw,fun k v hv=>?_,fun n=>?_⟩
 ·rw[←FI];exact((hp.map (·.1)).nodup_iff).2 bT
 ·obtain⟨v0,h1,_⟩:=hs k v hv;exact h.key k v0 h1
 ·obtain⟨v0,h1,h2⟩:=hs k v hv;rw[←h2];exact h.bd k v0 h1
 ·rw[h.of n];have h1:=hg (n:Int);cases hT:ay T (n:Int) with
  |none=>rw[hT] at h1;cases qO:ay T2 (n:Int) with
   |none=>rfl
   |some v=>rw[qO] at h1;cases h1
  |some v0=>rw[hT] at h1;cases qO:ay T2 (n:Int) with
   |none=>rw[qO] at h1;cases h1
   |some v=>rw[qO] at h1;dsimp only;rw[show v.2=v0.2 from Option.some.inj h1]
attribute [local irreducible] GX GO
attribute [local irreducible] aB aq aS aF fz star
theorem ajt {o:Og}{w:World}{s:Nat}{S:bW}(hl:S.last<2^40)(hs:Start o w [dB s S]) :
  aj prog 89 [ak s].toArray w (aX o ak (fun _=>True) (fun c=>[dB s S,dB c S])):=by
 have hH:=hs.sh;refine aj.enter func89 rfl ntmps89 rfl (gh ?_);refine GX.aM (hc:=fun _ hs=>AR hs) (h:=fun w hE hH=>gh ?_);obtain⟨⟨⟨b,T⟩,hT⟩,hH⟩:=SH.un hH;replace hH:=SH.ap hH;dsimp only at hH;refine gh ?_;refine GC.br (pl:=(bg [0,3,6,12,15,18,24,27,30,10,22,34,38,39,44,45])) (T:=fun _=>False) (hm:=mixed) (h:=fun w hE hH=>gh ?_);refine GX.tG (iV:Int→Value) me (h:=fun b2 w hS hH=>gh ?_);refine GX.oW (h:=fun c w hS hH=>gh ?_);refine GX.OU (h:=fun it w hH=>gh ?_);refine GC.bR [3,27] (fun _:kI×kI=>[]) (fun y w'=>(tO y.1++tO y.2).Perm (tO T)∧(∀z∈y.2,z∈T)∧SH o w' [aB s [uV S.dK,uV S.now,uV S.last, .map (some b)],yO it b iV me T y.2,bJ (bS ig T),aB c [uV S.dK,uV S.now,uV S.last, .map (some b2)],aS b2 iV me y.1,bJ (bS ig y.1)]) (fun y=>y.2.length) ([],T) rfl rfl ⟨pD _,fun _ h=>h,(show SH o w (bJ (bS ig [])::_) from hH.pR).to⟩ ?_;rintro⟨T2,Rm⟩ w ⟨hp,eO,hH⟩;dsimp only at hp eO hH ⊢;refine gh ?_;refine GX.Ol (h0:=fun hR=>gh ?_) (h1:=fun y R1 R2 w hR hH qJ=>gh ?_)
 ·subst hR;replace hH:=hH.OY;rw[show tO []=[] from rfl,fB] at hp;have aQ:=vl (s:=c) (b:=b2) (T:=T2) hH (hT.copy hp);exact⟨c,rfl,trivial,(vl (s:=s) (b:=b) (T:=T) aQ hT).to⟩
 ·obtain⟨k,p,u⟩:=y;dsimp only at qJ;have hm:ay T k=some (p,u):=FA hT.nd (eO _ (by rw[hR];simp));obtain⟨b1,Zj,b3⟩:=hT.bd _ _ hm;dsimp only at b1 Zj b3;replace hH:=SH.ap (SH.rK (m:=bS ig T) (ig (k,(p,u))) _ hH (pq hm));dsimp only at hH;obtain⟨⟨a,d⟩,hH⟩:=SH.un hH;replace hH:=SH.ap hH;dsimp only at hH;have g1:a=none→u.soft.length=0:=fun e=>hH.OC (el:=264) (sz:=2) (c:=d) (live:=aL fv u.soft) (ha:=e)
  refine GC.br (pl:=(bg [0,3,6,12,15,18,21,27,30,33,10,25,37,41,42,47,50])) (T:=fun _=>False) (hm:=mixed) (h:=fun w hE hH=>gh ?_);refine gh ?_;refine GX.eG (hc:=fun _ hs=>QG (cs:=aL fv u.soft) ah (gT xf _) g1 (FO XD _) hs) (h:=?_);rintro⟨q3,c3⟩ w _ hS hH;replace hH:=SH.ap hH;refine gh ?_;refine GX.oW (h:=fun p3 w hS hH=>gh ?_);refine GX.As (v:=((p3,u):Nat×Pu)) (h:=fun w hH=>gh ?_);have tu:=sI (p:=p) (u:=u) hH;have aQ:=sI (p:=p3) (u:=u) (tu.wT (el:=264) (sz:=2) (q:=q3) (cs:=aL fv u.soft));have cH:=aQ.iI (m:=bS ig T) (ig (k,(p,u))) (bS ig (bB T k)) (by repeat(first|exact Pk.nil|(apply Pk.cons;repeat(first|exact az.here|apply az.there)))) (pq hm);have EN:k∉T2.map (·.1):=fun hk=>by
   have bT:=((hp.map (·.1)).nodup_iff).2 (by rw[FI];exact hT.nd);rw[hR,eA,FI,FI,ga] at bT;exact bT.2.2 k hk k (by simp) rfl
  rw[Od EN] at cH;have js:=cH.iI (m:=bS ig (T2++[(k,(p3,u))])) (ig (k,(p3,u))) (bS ig T2) (by repeat(first|exact Pk.nil|(apply Pk.cons;repeat(first|exact az.here|apply az.there)))) (by simp only[bS,eA,A0];exact List.perm_append_comm.trans (by simp));refine GQ.bj (T2++[(k,(p3,u))],R1++R2) rfl ⟨?_,fun z hz=>eO z (by rw[hR];simp only[cx,bU] at hz ⊢;exact hz.imp id .inr),js.to⟩ (by rw[hR];simp);refine List.Perm.trans ?_ hp;rw[hR];simp only[tO,eA,cJ,tW,cS,List.singleton_append];exact(List.perm_middle.symm).append_left _
end
section
attribute [local irreducible] GO GX aB fz aF aS aq star
variable {o:Og}{w:World}
structure xE (l:List Nat):Prop where
 lt:∀n∈l,n<65536
 inc:l.Pairwise (· < ·)
 len:l.length≤16
theorem Ux (n:Nat)(hn:n<65536)(w:World):aj prog 160 [iV n].toArray w fun v w'=>v = .bool true∧w'=w:=by
 refine aj.enter func160 rfl ntmps160 rfl (gh ?_);rw[show decide ((n:Int)<65536)=true from b8 ah];exact⟨rfl,rfl⟩
theorem agK {a:Option Addr}{c since:Nat}{l:List Nat}(hl:xE l)(hs:Start o w [aF a (aG l)]):aj prog 313 [Value.agg #[.slice a l.length c,uV since]].toArray w (Po o (.bool true) []):=by
 have hH:=hs.sh;have pV:=hl.len;refine aj.enter func313 rfl ntmps313 rfl (gh ?_);refine GX.cI (h:=fun z w hH=>gh ?_);refine GC.bR [1,6,7] (fun y:Nat=>[(8,iV y)]) (fun y w'=>y≤l.length∧SH o w' [aF a (aG l),aB z [.slice a l.length c,uV since]]) (fun y=>l.length - y) 0 rfl rfl ⟨bh _,hH.to⟩ ?_;rintro j w ⟨hj,hH⟩;refine gh ?_;refine ifs (fun h1=>?_) (fun h1=>?_)<;>refine gh ?_
 ·have hx:l[j]?=some l[j]:=by simp[show j<l.length by omega]
  have hn:=hl.lt _ (bD hx);have aN:∀k m,k<j→l[k]?=some m→m<l[j]:=fun k m hkj hk=>by
   obtain⟨h1,h2⟩:=aV.1 hk;rw[←h2];exact sP.1 hl.inc k j h1 ah hkj
  generalize l[j]=n at hx hn aN;have hA:=hH.bL (x:=aF a (aG l)) (a:=a) (cs:=aG l) bP;obtain⟨bk,ok,rfl,gN⟩:=uZ hA hx;refine gh ?_;refine GX.next rfl (GO.l6 rfl rfl rfl (gN _ ah) (gh ?_));refine GX.da (Ux n hn _) rfl rfl rfl rfl rfl rfl (gh ?_)
  by_cases h0:j=0
  ·subst h0;refine gh ?_;exact GQ.bj 1 rfl ⟨by omega,hH⟩ ah
  ·rw[show decide ((0:Int)<(j:Int))=true from b8 ah];have fh:l[j - 1]?=some l[j - 1]:=by simp[show j - 1<l.length by omega]
   have hm:=aN (j - 1) _ ah fh;generalize l[j - 1]=m at fh hm;obtain⟨Zr,ok2,e2,LA⟩:=uZ hA fh;obtain⟨rfl,rfl⟩:bk=Zr∧ok=ok2:=by cases e2;exact⟨rfl,rfl⟩
   refine gh ?_;rw[show(j:Int) - 1=((j - 1:Nat):Int) by omega];refine gh ?_;refine GX.next rfl (GO.l6 rfl rfl rfl (LA _ ah) (gh ?_));rw[show decide ((n:Int)≤(m:Int))=false from bQ ah];refine gh ?_;exact GQ.bj (j+1) rfl ⟨by omega,hH⟩ ah
 ·rw[b8 ah];exact⟨rfl,hH.to⟩
theorem Vy {a:Option Addr}{c since s:Nat}{S:bW}{l:List Nat}(hl:xE l)(hS:S.last<2^40)(hs:Start o w [dB s S,aF a (aG l)]):aj prog 238 [Value.agg #[.slice a l.length c,uV since],ak s].toArray w (Po o (iV 0) [dB s S,aF a (aG l)]):=by
 have hH:=hs.sh;refine aj.enter func238 rfl ntmps238 rfl (gh ?_);refine GX.cI (h:=fun z w hH=>gh ?_);refine GX.bZ (hc:=fun _ hs=>XN 0 (by decide) hS hs) (h:=?_);rintro⟨q,d⟩ w _ hH;replace hH:=SH.ap hH;refine gh ?_;refine GX.cA (h:=fun z2 w hH=>gh ?_);refine GX.bt (h:=fun w hH=>gh ?_);refine GX.aM (hc:=fun _ hs=>agK hl hs) (h:=fun w hE hH=>gh ?_);exact⟨rfl,hH.to⟩
def oy (S:bW)(since:Nat)(l:List Nat):Nat:=l.foldl (fun f n=>match qG (S.A n).soft since with|some t=>min f t|none=>f) never
theorem afl {S:bW}{since:Nat}{l:List Nat}{i n:Nat}(h:l[i]?=some n):oy S since (l.take (i+1))=match qG (S.A n).soft since with|some t=>min (oy S since (l.take i)) t|none=>oy S since (l.take i):=by
 obtain⟨h1,h2⟩:=aV.1 h;unfold oy;rw[lh h1,vC,h2];rfl
theorem agH {a:Option Addr}{c since s:Nat}{S:bW}{l:List Nat}(hl:xE l)(hS:S.last<2^40)(hs:Start o w [dB s S,aF a (aG l)]):aj prog 162 [Value.agg #[.slice a l.length c,uV since],ak s].toArray w (Po o (.tuple #[uV (oy S since l),iV 0]) [dB s S,aF a (aG l)]):=by
 have hH:=hs.sh;have pV:=hl.len;refine aj.enter func162 rfl ntmps162 rfl (gh ?_);refine GX.cI (h:=fun z w hH=>gh ?_);refine GX.bF (hc:=fun _ hs=>Vy hl hS hs) (h:=fun w hH=>gh ?_);refine GC.bR [1,2,20,21] (fun y:Nat×Nat=>[(22,iV y.1),(7,uV y.2)]) (fun y w'=>y.1≤l.length∧y.2=oy S since (l.take y.1)∧SH o w' [dB s S,aF a (aG l),aB z [.slice a l.length c,uV since]]) (fun y=>l.length - y.1) (0,never) rfl rfl ⟨bh _,rfl,hH.to⟩ ?_;rintro⟨j,F⟩ w ⟨hj,hF,hH⟩;dsimp only at hj hF hH ⊢;refine gh ?_;refine ifs (fun h1=>?_) (fun h1=>?_)<;>refine gh ?_
 ·have hx:l[j]?=some l[j]:=by simp[show j<l.length by omega]
  have hn:=hl.lt _ (bD hx);generalize l[j]=n at hx hn;have hA:=hH.bL (x:=aF a (aG l)) (a:=a) (cs:=aG l) bP;obtain⟨bk,ok,rfl,gN⟩:=uZ hA hx;refine gh ?_;refine GX.next rfl (GO.l6 rfl rfl rfl (gN _ ah) (gh ?_));refine GX.bF (hc:=fun _ hs=>ajz n since hn hS hs) (h:=fun w hH=>gh ?_);have B5:=afl (S:=S) (since:=since) hx;cases hf:qG (S.A n).soft since with
  |none=>
   rw[hf] at B5;dsimp only at B5;refine gh ?_;exact GQ.bj (j+1,F) rfl ⟨by simp only;omega,hF.trans B5.symm,hH⟩ (by simp only;omega)
  |some t=>
   rw[hf] at B5;dsimp only at B5;refine gh ?_;rw[show(if(((some t).getD 0:Nat):Int)<(F:Int) then(((some t).getD 0:Nat):Int) else(F:Int))=((min F t:Nat):Int) by
    show(if(t:Int)<(F:Int) then(t:Int) else(F:Int))=_;split<;>omega]
   exact GQ.bj (j+1,min F t) rfl ⟨by simp only;omega,by dsimp only;rw[B5,hF],hH⟩ (by simp only;omega)
 ·obtain rfl:j=l.length:=by omega
  rw[kD] at hF;subst hF;refine gh ?_;exact⟨rfl,hH.to⟩
def uy (S:bW)(since n:Nat):Bool:=decide ((since:Int)<((S.A n).jv:Nat))
theorem agF {bs z s since n:Nat}{v:Value}{S:bW}(hn:n<65536)(hS:S.last<2^40)(hs:Start o w [dB s S,aB bs [ak s],aB z [v,uV since]]):aj prog 240 [iV n,ak bs,ak z].toArray w (Po o (.bool (uy S since n)) [dB s S,aB bs [ak s],aB z [v,uV since]]):=by
 have hH:=hs.sh;refine aj.enter func240 rfl ntmps240 rfl (gh ?_);refine GX.bZ (hc:=fun _ hs=>XN n hn hS hs) (h:=?_);rintro⟨q,d⟩ w _ hH;replace hH:=SH.ap hH;refine gh ?_;refine GX.cA (h:=fun z2 w hH=>gh ?_);refine GX.bt (h:=fun w hH=>gh ?_);exact⟨rfl,hH.to⟩
theorem agw {a:Option Addr}{c bs z s since:Nat}{v:Value}{S:bW}{l:List Nat}(hl:xE l)(hS:S.last<2^40)(hs:Start o w [dB s S,aB bs [ak s],aB z [v,uV since],aF a (aG l)]):aj prog 314 [.slice a l.length c, .func (.func 240) #[] #[ak bs,ak z]].toArray w (aX o (fun y:Int=>iV y) (fun y=>decide (0≤y)=l.any (uy S since)) (fun _=>[dB s S,aB bs [ak s],aB z [v,uV since],aF a (aG l)])):=by
 have hH:=hs.sh;have pV:=hl.len;refine aj.enter func314 rfl ntmps314 rfl (gh ?_);refine GC.bR [0,1,7] (fun y:Nat=>[(8,iV y)]) (fun y w'=>y≤l.length∧(l.take y).any (uy S since)=false∧SH o w' [dB s S,aB bs [ak s],aB z [v,uV since],aF a (aG l)]) (fun y=>l.length - y) 0 rfl rfl ⟨bh _,by simp,hH.to⟩ ?_;rintro j w ⟨hj,bz,hH⟩;refine gh ?_;refine ifs (fun h1=>?_) (fun h1=>?_)<;>refine gh ?_
 ·have hx:l[j]?=some l[j]:=by simp[show j<l.length by omega]
  have rf:=lh (show j<l.length by omega);have hn:=hl.lt _ (bD hx);have dN:=bD hx;generalize l[j]=n at hx hn rf dN;have hA:=hH.bL (x:=aF a (aG l)) (a:=a) (cs:=aG l) bP;obtain⟨bk,ok,rfl,gN⟩:=uZ hA hx;refine gh ?_;refine GX.next rfl (GO.l6 rfl rfl rfl (gN _ ah) (gh ?_));refine GX.bF (hc:=fun _ hs=>agF hn hS hs) (h:=fun w hH=>gh ?_);cases hb:uy S since n with
  |true=>
   refine gh ?_;refine⟨(j:Int),rfl,?_,hH.to⟩;show decide ((0:Int)≤(j:Int))=_;rw[b8 ah];exact(vD.2 ⟨n,dN,hb⟩).symm
  |false=>
   refine gh ?_;refine GQ.bj (j+1) rfl ⟨by omega,?_,hH⟩ ah;rw[rf,List.any_append,bz];simp[hb]
 ·obtain rfl:j=l.length:=by omega
  rw[kD] at bz;refine gh ?_;exact⟨-1,rfl,by rw[bz];rfl,hH.to⟩
theorem agk {a:Option Addr}{c bs z s since:Nat}{v:Value}{S:bW}{l:List Nat}(hl:xE l)(hS:S.last<2^40)(hs:Start o w [dB s S,aB bs [ak s],aB z [v,uV since],aF a (aG l)]):aj prog 239 [.slice a l.length c, .func (.func 240) #[] #[ak bs,ak z]].toArray w (Po o (.bool (l.any (uy S since))) [dB s S,aB bs [ak s],aB z [v,uV since],aF a (aG l)]):=by
 have hH:=hs.sh;refine aj.enter func239 rfl ntmps239 rfl (gh ?_);refine GX.bZ (hc:=fun _ hs=>agw hl hS hs) (h:=?_);rintro y w hy hH;replace hH:=SH.ap hH;refine gh ?_;exact⟨by rw[←hy],hH.to⟩
theorem agG {a:Option Addr}{c since s:Nat}{S:bW}{l:List Nat}(hl:xE l)(hS:S.last<2^40)(hs:Start o w [dB s S,aF a (aG l)]):aj prog 161 [Value.agg #[.slice a l.length c,uV since],ak s].toArray w (Po o (.tuple #[.bool (l.any (uy S since)),iV 0]) [dB s S,aF a (aG l)]):=by
 have hH:=hs.sh;refine aj.enter func161 rfl ntmps161 rfl (gh ?_);refine GX.cI (h:=fun z w hH=>gh ?_);refine GX.cI (h:=fun bs w hH=>gh ?_);refine GX.bF (hc:=fun _ hs=>Vy hl hS hs) (h:=fun w hH=>gh ?_);refine GX.bF (hc:=fun _ hs=>agk hl hS hs) (h:=fun w hH=>gh ?_);exact⟨rfl,hH.to⟩
theorem afk (S:bW)(since:Nat)(l:List Nat):oy S since l≤never:=by
 have key:∀(l:List Nat) (f:Nat),f≤never→l.foldl (fun f n=>match qG (S.A n).soft since with|some t=>min f t|none=>f) f≤never:=by
  intro l
  induction l with
  |nil=>intro f h;exact h
  |cons n l ih=>
   intro f h;refine ih _ ?_;dsimp only;split
   ·exact dF (Nat.min_le_left _ _) h
   ·exact h
 exact key l never (aY _)
def wI (S:bW)(since:Nat)(l:List Nat)(now d:Nat):Nat:=if l.any (uy S since) then 0 else u6 (max S.now now) d (oy S since l) S.dK
theorem agD {a:Option Addr}{c since s now d:Nat}{S:bW}{l:List Nat}(hl:xE l)(hS:S.last<2^40)(hs:Start o w [dB s S,aF a (aG l)]):aj prog 96 [Value.agg #[.slice a l.length c,uV since],ak s,uV now,uV d].toArray w (Po o (.tuple #[iV (wI S since l now d),iV 0]) [dB s S,aF a (aG l)]):=by
 have hH:=hs.sh;obtain⟨T0,o4⟩:=Kf hH;have hg:S.dK≤never:=dF o4.g (by decide);refine aj.enter func96 rfl ntmps96 rfl (gh ?_);refine GX.cI (h:=fun z w hH=>gh ?_);refine GX.bF (hc:=fun _ hs=>agG hl hS hs) (h:=fun w hH=>gh ?_);unfold wI;cases hb:l.any (uy S since) with
 |true=>
  refine gh ?_;exact⟨rfl,hH.to⟩
 |false=>
  refine gh ?_;refine GX.bF (hc:=fun _ hs=>agH hl hS hs) (h:=fun w hH=>gh ?_);refine GX.aM (hc:=fun _ hs=>ajJ hs) (h:=fun w hE hH=>gh ?_);refine GX.da (DC S.now now _) rfl rfl rfl rfl rfl rfl (gh ?_);refine GX.aM (hc:=fun _ hs=>ajB hs) (h:=fun w hE hH=>gh ?_);refine GX.da (aah (max S.now now) d (oy S since l) S.dK (afk S since l) hg _) rfl rfl rfl rfl rfl rfl (gh ?_);exact⟨rfl,hH.to⟩
theorem aay {q:Option Nat}{c n:Nat}{l:List Nat}(hn:l.length=n)(hl:n<2^40)(hp:l.Pairwise (· < ·))(hs:Start o w [fz (aq 3 1 q n c (aG l))]):aj prog 159 [.slice (aA q) n c].toArray w (Po o (.slice (aA q) n c) []):=by
 subst hn;have hH:=hs.sh;refine aj.enter func159 rfl ntmps159 rfl (gh ?_);refine ifs (fun h1=>?_) (fun h1=>?_)<;>refine gh ?_
 ·exact⟨rfl,hH.to⟩
 obtain⟨p,rfl⟩:=hH.l8 (el:=3) (sz:=1) (q:=q);refine gh ?_;refine GC.bR [0] (fun y:Nat=>[(3,iV y)]) (fun y w'=>1≤y∧y≤l.length∧SH o w' [fz (aq 3 1 (some p) l.length c (aG l))]) (fun y=>l.length - y) 1 rfl rfl ⟨aY _,by omega,hH.to⟩ ?_;rintro j w ⟨SQ,hj,hH⟩;refine gh ?_;refine ifs (fun h2=>?_) (fun h2=>?_)<;>refine gh ?_
 ·have hx:l[j]?=some l[j]:=by simp[show j<l.length by omega]
  have fh:l[j - 1]?=some l[j - 1]:=by simp[show j - 1<l.length by omega]
  have aN:l[j - 1]<l[j]:=sP.1 hp (j - 1) j ah ah ah;generalize l[j]=x at hx aN;generalize l[j - 1]=y at fh aN;refine GC.br (pl:=(bg [0,3,6,12,15,18,21,10,25,27])) (T:=fun _=>False) (hm:=mixed) (h:=fun w hE hH=>gh ?_);refine gh ?_;refine GX.read rfl (GO.lC (hv:=show(aG l)[j]?=some (iV x) by simp[aG,hx]) (h:=gh ?_));rw[show(j:Int) - 1=((j - 1:Nat):Int) by omega];refine gh ?_;refine GX.read rfl (GO.lC (hv:=show(aG l)[j - 1]?=some (iV y) by simp[aG,fh]) (h:=gh ?_));refine ifs (fun h3=>?_) (fun h3=>?_)<;>refine gh ?_
  ·omega
  ·exact GQ.bj (j+1) rfl ⟨by omega,by omega,hH.to⟩ ah
 ·exact⟨rfl,hH.to⟩
end
end Go.Proofs.YtoloaehmppcjoaaGreat.V.M
namespace Go.Proofs.YtoloaehmppcjoaaGreat.V
open Go.Shelf
theorem iE {P:Program}{t:TypeId}{z:Value}(h:(P.info? t).bind (·.zero)=some z)(w:World):(zeroValue t).run P w = .ok z w:=by
 cases hi:P.info? t with
 |none=>rw[hi] at h;cases h
 |some i=>
  rw[hi] at h;have hz:i.zero=some z:=h;simp[zeroValue,typeInfo,hi,hz]
def jj:Ren:=⟨fun|5=>84|7=>139|8=>140|10=>209|11=>210|12=>211|13=>212|14=>213|15=>214|16=>215|17=>216|18=>217|19=>218|20=>219|30=>300|31=>301|32=>302|33=>303|34=>304|35=>305|40=>348|_=>0,fun|0=>0|3=>3|4=>4|5=>5|9=>9|22=>105|23=>105|25=>3|32=>246|35=>340|36=>341|41=>345|44=>348|46=>38|53=>414|57=>395|63=>455|64=>222|_=>0,fun _=>0⟩
theorem akR:Bears prog 84 (SlBodyM.n5 jj):=⟨"slices.Sort[[]int,int]",by decide,by kernel_rfl⟩
theorem akS:Bears prog 139 (SlBodyM.n7 jj):=⟨"slices.pdqsortOrdered[int]",by decide,by kernel_rfl⟩
theorem akT:(prog).funcs[140]?=some (SlBodyM.n8 jj):=ai
theorem akz:Bears prog 209 (SlBodyM.n10 jj):=⟨"slices.insertionSortOrdered[int]",by decide,by kernel_rfl⟩
theorem akA:Bears prog 210 (SlBodyM.n11 jj):=⟨"slices.heapSortOrdered[int]",by decide,by kernel_rfl⟩
theorem akB:Bears prog 211 (SlBodyM.n12 jj):=⟨"slices.breakPatternsOrdered[int]",by decide,by kernel_rfl⟩
theorem akC:Bears prog 212 (SlBodyM.n13 jj):=⟨"slices.choosePivotOrdered[int]",by decide,by kernel_rfl⟩
theorem akD:Bears prog 213 (SlBodyM.n14 jj):=⟨"slices.reverseRangeOrdered[int]",by decide,by kernel_rfl⟩
theorem akE:Bears prog 214 (SlBodyM.n15 jj):=⟨"slices.partialInsertionSortOrdered[int]",by decide,by kernel_rfl⟩
theorem akF:Bears prog 215 (SlBodyM.n16 jj):=⟨"cmp.Less[int]",by decide,by kernel_rfl⟩
theorem akG:Bears prog 216 (SlBodyM.n17 jj):=⟨"slices.partitionEqualOrdered[int]",by decide,by kernel_rfl⟩
theorem akH:Bears prog 217 (SlBodyM.n18 jj):=⟨"slices.partitionOrdered[int]",by decide,by kernel_rfl⟩
theorem akI:(prog).funcs[218]?=some (SlBodyM.n19 jj):=ai
theorem akJ:(prog).funcs[219]?=some (SlBodyM.n20 jj):=ai
theorem akK:Bears prog 300 (SlBodyM.n30 jj):=⟨"slices.siftDownOrdered[int]",by decide,by kernel_rfl⟩
theorem akL:(prog).funcs[301]?=some (SlBodyM.n31 jj):=ai
theorem akM:(prog).funcs[302]?=some (SlBodyM.n32 jj):=ai
theorem akN:Bears prog 303 (SlBodyM.n33 jj):=⟨"slices.medianAdjacentOrdered[int]",by decide,by kernel_rfl⟩
theorem akO:Bears prog 304 (SlBodyM.n34 jj):=⟨"slices.medianOrdered[int]",by decide,by kernel_rfl⟩
theorem akP:Bears prog 305 (SlBodyM.n35 jj):=⟨"cmp.isNaN[int]",by decide,by kernel_rfl⟩
theorem akQ:Bears prog 348 (SlBodyM.n40 jj):=⟨"slices.order2Ordered[int]",by decide,by kernel_rfl⟩
theorem Ck:cD prog 0=some (false,1):=ai
theorem NR:((prog).info? 0).bind (·.zero)=some ((Value.tuple #[])):=ai
theorem yA:cD prog 3=some (false,1):=ai
theorem Jm:((prog).info? 3).bind (·.zero)=some ((Value.int IntKind.i64 0)):=ai
theorem Jl:cD prog 4=some (false,1):=ai
theorem Vx:((prog).info? 4).bind (·.zero)=some ((Value.bool false)):=ai
theorem Vp:cD prog 5=some (false,1):=ai
theorem agb:((prog).info? 5).bind (·.zero)=some ((Value.int IntKind.u8 0)):=ai
theorem Vq:cD prog 9=some (false,1):=ai
theorem agc:((prog).info? 9).bind (·.zero)=some ((Value.string { data:=#[]})):=ai
theorem Cm:cD prog 105=some (false,1):=ai
theorem NS:((prog).info? 105).bind (·.zero)=some ((Value.slice none 0 0)):=ai
theorem Vr:cD prog 246=some (false,1):=ai
theorem agd:((prog).info? 246).bind (·.zero)=some ((Value.int IntKind.u64 0)):=ai
theorem Vt:cD prog 340=some (false,1):=ai
theorem age:((prog).info? 340).bind (·.zero)=some ((Value.int IntKind.i64 0)):=ai
theorem Vu:cD prog 341=some (false,1):=ai
theorem agf:((prog).info? 341).bind (·.zero)=some ((Value.tuple #[Value.int IntKind.i64 0,Value.int IntKind.i64 0])):=ai
theorem Vv:cD prog 345=some (false,1):=ai
theorem agh:((prog).info? 345).bind (·.zero)=some ((Value.tuple #[Value.int IntKind.i64 0,Value.bool false])):=ai
theorem Vg:cD prog 348=some (false,1):=ai
theorem af2:((prog).info? 348).bind (·.zero)=some ((Value.int IntKind.u32 0)):=ai
theorem Vh:cD prog 38=some (false,1):=ai
theorem af3:((prog).info? 38).bind (·.zero)=some ((Value.int IntKind.u64 0)):=ai
theorem Vi:cD prog 414=some (false,1):=ai
theorem af4:((prog).info? 414).bind (·.zero)=some ((Value.int IntKind.u64 0)):=ai
theorem Vj:cD prog 395=some (false,1):=ai
theorem af5:((prog).info? 395).bind (·.zero)=some ((Value.pointer none)):=ai
theorem Vk:cD prog 455=some (false,1):=ai
theorem af6:((prog).info? 455).bind (·.zero)=some ((Value.pointer none)):=ai
theorem Vl:cD prog 222=some (false,1):=ai
theorem af7:((prog).info? 222).bind (·.zero)=some ((Value.tuple #[Value.int IntKind.i64 0,Value.int IntKind.i64 0])):=ai
theorem FY:SlLaysM.n5 prog jj:={ mixed:=by kernel_rfl,f5:=akR,f7:=akS,f8:=akT,f10:=akz,f11:=akA,f12:=akB,f13:=akC,f14:=akD,f15:=akE,f16:=akF,f17:=akG,f18:=akH,f19:=akI,f20:=akJ,f30:=akK,f31:=akL,f32:=akM,f33:=akN,f34:=akO,f35:=akP,f40:=akQ,t0:=by kernel_rfl,a0:=fun w=>(aC.mk Ck).isAgg w,z0:=fun w=>(aC.mk Ck).sizeOf w,v0:=iE NR,t3:=by kernel_rfl,a3:=fun w=>(aC.mk yA).isAgg w,z3:=fun w=>(aC.mk yA).sizeOf w,v3:=iE Jm,t4:=by kernel_rfl,a4:=fun w=>(aC.mk Jl).isAgg w,z4:=fun w=>(aC.mk Jl).sizeOf w,v4:=iE Vx,t5:=by kernel_rfl,a5:=fun w=>(aC.mk Vp).isAgg w,z5:=fun w=>(aC.mk Vp).sizeOf w,v5:=iE agb,t9:=by kernel_rfl,a9:=fun w=>(aC.mk Vq).isAgg w,z9:=fun w=>(aC.mk Vq).sizeOf w,v9:=iE agc,t22:=by kernel_rfl,a22:=fun w=>(aC.mk Cm).isAgg w,z22:=fun w=>(aC.mk Cm).sizeOf w,v22:=iE NS,t23:=by kernel_rfl,a23:=fun w=>(aC.mk Cm).isAgg w,z23:=fun w=>(aC.mk Cm).sizeOf w,v23:=iE NS,t25:=by kernel_rfl,a25:=fun w=>(aC.mk yA).isAgg w,z25:=fun w=>(aC.mk yA).sizeOf w,v25:=iE Jm,t32:=by kernel_rfl,a32:=fun w=>(aC.mk Vr).isAgg w,z32:=fun w=>(aC.mk Vr).sizeOf w,v32:=iE agd,t35:=by kernel_rfl,a35:=fun w=>(aC.mk Vt).isAgg w,z35:=fun w=>(aC.mk Vt).sizeOf w,v35:=iE age,t36:=by kernel_rfl,a36:=fun w=>(aC.mk Vu).isAgg w,z36:=fun w=>(aC.mk Vu).sizeOf w,v36:=iE agf,t41:=by kernel_rfl,a41:=fun w=>(aC.mk Vv).isAgg w,z41:=fun w=>(aC.mk Vv).sizeOf w,v41:=iE agh,t44:=by kernel_rfl,a44:=fun w=>(aC.mk Vg).isAgg w,z44:=fun w=>(aC.mk Vg).sizeOf w,v44:=iE af2,t46:=by kernel_rfl,a46:=fun w=>(aC.mk Vh).isAgg w,z46:=fun w=>(aC.mk Vh).sizeOf w,v46:=iE af3,t53:=by kernel_rfl,a53:=fun w=>(aC.mk Vi).isAgg w,z53:=fun w=>(aC.mk Vi).sizeOf w,v53:=iE af4,t57:=by kernel_rfl,a57:=fun w=>(aC.mk Vj).isAgg w,z57:=fun w=>(aC.mk Vj).sizeOf w,v57:=iE af5,t63:=by kernel_rfl,a63:=fun w=>(aC.mk Vk).isAgg w,z63:=fun w=>(aC.mk Vk).sizeOf w,v63:=iE af6,t64:=by kernel_rfl,a64:=fun w=>(aC.mk Vl).isAgg w,z64:=fun w=>(aC.mk Vl).sizeOf w,v64:=iE af7}
end Go.Proofs.YtoloaehmppcjoaaGreat.V
namespace Go.Proofs.YtoloaehmppcjoaaGreat.V.M
section
open Go.RowKit Go.Shelf Go.Sort
attribute [local irreducible] GX GO
def Kc (l:List Int):List Int:=l.mergeSort fun x y=>decide (x≤y)
theorem aj9 (g cap n:Nat)(zs:List Int)(hn:zs.length=n)(w:World)(hO:aH w 3 1 (some g) (some ⟨g,0,none⟩) n cap (dL zs))(hz:zs.length≤100000) :
  aj prog 84 [.slice (some ⟨g,0,none⟩) n cap].toArray w fun v w'=>v = .tuple #[]∧aH w' 3 1 (some g) (some ⟨g,0,none⟩) n cap (dL (Kc zs))∧Mod (· = g) w w':=by
 subst hn;obtain⟨cur,hg,r1,r2,r3,r4⟩:=rm hO;have hH:=holds_of_blockI (ss:=zs) hg (by rw[mj] at r4;exact r4);refine aj.Ay ((AnyM.slices_Sort_int (ρ:=jj) FY g 0 cap zs w hH (rA.1 hg).1 ah).mono ?_);rintro e w' ⟨rfl,n,os,rfl⟩;refine⟨_,rfl,rfl,?_,?_⟩
 ·have h:=ownsRow_sortedI (n:=n) (os:=os) (ts:=zs.mergeSort fun x y=>decide (x≤y)) (ss:=zs) (base:=0) (by simp) (bh _) hg r1 r2 (by simpa using r3);exact⟨by simp[dL,Kc], .inr ⟨g,rfl,rfl,h⟩⟩
 ·exact(Mod.OB (grownBy_sortedI _)).weaken fun k _ hk=>by cases hk;rfl
end
section
open Go.RowKit Go.Shelf Go.Sort
attribute [local irreducible] GX GO
theorem Zq (w:World):aj prog 140 [Value.int .u64 0].toArray w fun v w'=>v=iV 0∧w'=w:=by
 refine aj.Ay ((calls_of_every_depth fun D=>AnySM.bits_LenIn { FY with} D (0:Int) w ah ah).mono ?_);rintro e w' ⟨rfl,rfl⟩;exact⟨_,rfl,rfl,rfl⟩
theorem aeO (c:Nat)(w:World):aj prog 209 [Value.slice none 0 c,iV 0,iV 0].toArray w fun v w'=>v = .tuple #[]∧w'=w:=by
 refine aj.enter func209 rfl ntmps209 rfl (gh ?_);refine GC.bR [0,1,2] (fun _:Unit=>[(6, .int .i64 (0+1))]) (fun _ w'=>w'=w) (fun _=>0) () rfl rfl rfl ?_;rintro _ _ rfl;refine gh ?_;exact⟨rfl,rfl⟩
theorem ah8 (c:Nat)(w:World):aj prog 139 [Value.slice none 0 c,iV 0,iV 0,iV 0].toArray w fun v w'=>v = .tuple #[]∧w'=w:=by
 refine aj.enter func139 rfl ntmps139 rfl (gh ?_);refine GC.bR [0] (fun _:Unit=>[(1,iV 0),(2,iV 0),(3,iV 0),(8, .bool true),(9, .bool true)]) (fun _ w'=>w'=w) (fun _=>0) () rfl rfl rfl ?_;rintro _ _ rfl;refine gh ?_;refine GX.da (aeO _ _) rfl rfl rfl rfl rfl rfl (gh ?_);exact⟨rfl,rfl⟩
theorem aj8 (c:Nat)(w:World):aj prog 84 [Value.slice none 0 c].toArray w fun v w'=>v = .tuple #[]∧w'=w:=by
 refine aj.enter func84 rfl ntmps84 rfl (gh ?_);refine GX.da (Zq _) rfl rfl rfl rfl rfl rfl (gh ?_);refine GX.da (ah8 _ _) rfl rfl rfl rfl rfl rfl (gh ?_);exact⟨rfl,rfl⟩
end
section
theorem SH.cZ {o:Og}{w:World}{l:List It}{el:TypeId}{sz n c:Nat}{q:Option Nat}{cs:List Value}(h:SH o w (aq el sz q n c cs::l)):aH w el sz q (aA q) n c cs:=let⟨_,_,h,_⟩:=h.head;h
attribute [local irreducible] GX GO
attribute [local irreducible] aB aq aS aF fz star
def iC (l:List Nat):List Nat:=l.mergeSort fun x y=>decide (x≤y)
theorem CS (l:List Nat):(iC l).Perm l:=List.mergeSort_perm l _
theorem akc (l:List Nat):dL (Kc (l.map fun n:Nat=>(n:Int)))=aG (iC l):=by
 unfold Kc iC;rw[←List.map_mergeSort (r:=fun x y:Nat=>decide (x≤y)) (f:=fun n:Nat=>(n:Int)) (fun a _ b _=>by simp)];simp[dL,aG]
theorem aeQ (l:List Nat):aG l=dL (l.map fun n:Nat=>(n:Int)):=by simp[dL,aG]
theorem aka {o:Og}{w:World}{q:Option Nat}{n c:Nat}{l:List Nat}(hn:l.length=n)(hz:n≤100000)(hs:Start o w [aq 3 1 q n c (aG l)]):aj prog 84 [.slice (aA q) n c].toArray w (Po o (.tuple #[]) [aq 3 1 q n c (aG (iC l))]):=by
 have hH:=hs.sh;have hO:=hH.cZ;cases q with
 |none=>
  obtain rfl:n=0:=by
   by_cases h0:0<n
   ·obtain⟨_,h⟩:=hH.pos (el:=3) (sz:=1) (q:=none);cases h
   ·omega
  obtain rfl:l=[]:=gu hn;refine(aj8 c w).mono fun v w' ⟨h1,h2⟩=>?_
  subst h2;rw[show iC []=[] by simp[iC]];exact⟨h1,hH.to⟩
 |some g=>
  rw[aeQ] at hO;refine(aj9 g c n _ (by simpa using hn) w hO (by simpa[hn] using hz)).mono fun v w' ⟨h1,h2,h3⟩=>?_
  rw[akc] at h2;exact⟨h1,(hH.lG bA.here (fun _=>h2) (h3.weaken fun k _ hk=>by rw[hk]) (fun b hb => .inl hb)).to⟩
theorem XR {l:List Nat}(hn:l.Nodup)(aN:∀n∈l,n<65536)(pV:l.length≤16):xE (iC l):=by
 refine⟨fun n h=>aN n ((CS l).mem_iff.1 h),?_,by rw[(CS l).length_eq];exact pV⟩;have hs:(iC l).Pairwise fun x y=>x≤y:=by
  have:=List.pairwise_mergeSort (le:=fun x y:Nat=>decide (x≤y)) (fun a b c h1 h2=>by simp only[oO] at *;omega) (fun a b=>by simp only[Bool.or_eq_true,oO];omega) l;simpa[iC] using this
 have hd:(iC l).Nodup:=(CS l).nodup_iff.2 hn;exact hs.imp₂ (fun a b h1 h2=>by omega) hd
def afm (n since:Nat)(q:Option Nat×Nat):Value := .tuple #[.agg #[.slice (aA q.1) n q.2,uV since],iV 0]
theorem agE {o:Og}{w:World}{a:Option Addr}{c n since:Nat}{l:List Nat}(hl:l.length=n)(hn:l.Nodup)(aN:∀x∈l,x<65536)(pV:n≤16)(h0:a=none→n=0)(hs:Start o w [aF a (aG l)]) :
  aj prog 95 [.slice a n c,uV since].toArray w (aX o (afm n since) (fun _=>True) (fun q=>[aq 3 1 q.1 n q.2 (aG (iC l))])):=by
 have hH:=hs.sh;have hL:=XR hn aN ah;have ep:(iC l).length=n:=by rw[(CS l).length_eq,hl]
 refine aj.enter func95 rfl ntmps95 rfl (gh ?_);refine GX.cA (h:=fun z w hH=>gh ?_);refine GX.ef (hc:=fun _ hs=>vJ (cs:=aG l) ah (by simp[hl]) h0 (u4 _) hs) (h:=?_);rintro⟨q,d⟩ w _ hE hH;replace hH:=SH.ap hH;refine gh ?_;refine GX.bF (hc:=fun _ hs=>aka hl ah hs) (h:=fun w hH=>gh ?_);refine GX.aM (hc:=fun _ hs=>aay ep ah hL.inc hs) (h:=fun w hE hH=>gh ?_);refine GC.bR [1,4,6,15,16] (fun y:Nat=>[(17,iV y)]) (fun y w'=>y≤n∧SH o w' [aq 3 1 q n d (aG (iC l)),aB z [.slice none 0 0,uV 0]]) (fun y=>n - y) 0 rfl rfl ⟨bh _,hH.to⟩ ?_;rintro j w ⟨hj,hH⟩;refine gh ?_;refine ifs (fun h1=>?_) (fun h1=>?_)<;>refine gh ?_
 ·have hx:(iC l)[j]?=some (iC l)[j]:=by simp[show j<(iC l).length by omega]
  have fh:=hL.lt _ (bD hx);generalize (iC l)[j]=x at hx fh;obtain⟨p,rfl⟩:=hH.pos (el:=3) (sz:=1) (q:=q);refine gh ?_;refine GX.next rfl (GO.cT (hv:=show(aG (iC l))[j]?=some (iV x) by simp[aG,hx]) (h:=gh ?_));refine GX.da (Ux x fh _) rfl rfl rfl rfl rfl rfl (gh ?_);exact GQ.bj (j+1) rfl ⟨by omega,hH⟩ ah
 ·refine gh ?_;refine ifs (fun h2=>?_) (fun h2=>?_)<;>refine gh ?_
  ·omega
  refine GX.bt (h:=fun w hH=>gh ?_);exact⟨(q,d),rfl,trivial,hH.to⟩
end
end Go.Proofs.YtoloaehmppcjoaaGreat.V.M
