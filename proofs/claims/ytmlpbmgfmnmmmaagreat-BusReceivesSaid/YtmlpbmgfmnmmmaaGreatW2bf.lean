/-
  Parts of the proof. No condition.
-/
import Derived.Test.YtmlpbmgfmnmmmaaGreatW2be
import Derived.Test.YtmlpbmgfmnmmmaaGreatW2as
import Derived.Test.YtmlpbmgfmnmmmaaGreatW2bd
set_option linter.unusedVariables false
set_option linter.unusedSimpArgs false
set_option maxRecDepth 8000
set_option maxHeartbeats 8000000
open Go.Proofs.Tryz
namespace Go.Proofs.YtmlpbmgfmnmmmaaGreat.V.M
section
section
variable {P:Program}{Q:Exit→Act→World→Prop}{n:Nat}{e:Env}{w:World}
theorem GC.QU [Fr]{X:Type}{c:Code}{id:Nat}(E:X→Env)(J:X→World→Prop)(h1:GC P c (Exit.inBlock id (Exit.then (fun a w=>∃x,fA a (E x) n∧J x w) Q)) n e w)(h2:∀x w,J x w→GQ Q .normal n (E x) w):GC P c (Exit.inBlock id Q) n e w:=by
 unfold GC at h1 ⊢;unfold GQ at h2;intro a ha;refine Code.wpIn_mono (fun e a w hq=>?_) (h1 a ha);have hN:Exit.then (fun a w=>∃x,fA a (E x) n∧J x w) Q .normal a w→Q .normal a w:=fun⟨x,hk,hj⟩=>h2 x w hj a hk
 cases e with
 |normal=>exact hN hq
 |exit i=>
  by_cases h:i=id
  ·subst h;have hq:Exit.then (fun a w=>∃x,fA a (E x) n∧J x w) Q .normal a w:=by simpa[Exit.inBlock] using hq
   simpa[Exit.inBlock] using hN hq
  ·have hq:Exit.then (fun a w=>∃x,fA a (E x) n∧J x w) Q (.exit i) a w:=by simpa[Exit.inBlock,h] using hq
   have hq:Q (.exit i) a w:=hq;simpa[Exit.inBlock,h] using hq
 |_=>exact hq
end
attribute [local irreducible] GX GO
attribute [local irreducible] aA ao aQ aF fz star
def vB (N:fU)(z:Int):Option Nat:=if 0≤z∧z<N.length∧0<(N.getD z.toNat ([],0)).2 then some z.toNat else none
def KG (q:Option Nat)(x:Option Nat):Value:=match x with
 |some n => .tuple #[.pointer (some ⟨q.getD 0,0+n*3,none⟩),iV 0]
 |none => .tuple #[.pointer none,iV 9]
theorem aet {o:Og}{w:World}{b:Nat}{X:vx}{s:dM}(hX:rp X s)(z:Int)(hs:Start o w [fz (aA b [iV s.aI,uV X.aJ, .slice (ay X.q1.1) X.H.length X.q1.2, .slice (ay X.q2.1) X.N.length X.q2.2, .slice X.a (cx s.N).length X.c,iV (dq s.N)]),fz (ao 337 3 X.q2.1 X.N.length X.q2.2 (aK eF X.N))]) :
  aj prog 268 [ak b,iV z].toArray w (Po o (KG X.q2.1 (vB s.N z)) []):=by
 have hH:=hs.sh;obtain⟨aX,hN,dN,rJ,_⟩:=id hX;obtain⟨sd,H,N,⟨q1,c1⟩,⟨q2,c2⟩,a,c⟩:=X;dsimp only at hH aX hN dN ⊢;have hnl:=aX.list;have hlen:s.N.length=N.length:=by rw[hN];simp[dO]
 refine aj.enter func268 rfl ntmps268 rfl (gh ?_);refine GX.aL (hc:=fun _ hs=>Fb rJ.1 hs) (h:=fun w hE hH=>gh ?_)
 by_cases h0:z<0
 ·rw[show decide (z<0)=true from bQ h0];refine gh ?_;rw[vB,if_neg ah];exact⟨rfl,hH.to⟩
 rw[show decide (z<0)=false from bt h0];refine gh ?_
 by_cases h1:(N.length:Int)≤z
 ·rw[show decide ((N.length:Int)≤z)=true from bQ h1];refine gh ?_;rw[vB,if_neg ah];exact⟨rfl,hH.to⟩
 rw[show decide ((N.length:Int)≤z)=false from bt h1];obtain⟨n,rfl⟩:=Int.eq_ofNat_of_zero_le (show 0≤z by omega);have Iz:n<N.length:=by omega
 have hy:N[n]?=some N[n]:=by simp[Iz]
 generalize N[n]=y at hy;have hg:(s.N.getD n ([],0)).2=y.r:=by rw[hN,fT,yE hy];rfl
 obtain⟨p,rfl⟩:=hH.lR (el:=337) (sz:=3) (q:=q2);refine gh ?_;refine GX.next rfl (GO.cG (hv:=nj fi hy (j:=1) rfl) (h:=gh ?_))
 by_cases h2:y.r=0
 ·rw[show decide (((y.r:Nat):Int)=0)=true from bQ ah];refine gh ?_;rw[vB,if_neg (by show¬(_∧_∧0<(s.N.getD n ([],0)).2);rw[hg];omega)];exact⟨rfl,hH.to⟩
 ·rw[show decide (((y.r:Nat):Int)=0)=false from bt ah];refine gh ?_;rw[vB,if_pos (by refine⟨by omega,by omega,?_⟩;show 0<(s.N.getD n ([],0)).2;rw[hg];omega)];exact⟨rfl,hH.to⟩
def pR (s:dM)(z:Int):Bool×Int×dM:=match vB s.N z with
 |none=>(false,9,s)
 |some n=>if 1<(s.N.getD n ([],0)).2 then(false,0,{ s with N:=s.N.set n ((s.N.getD n ([],0)).1,(s.N.getD n ([],0)).2 - 1)}) else(true,0,{ s with N:=s.N.set n ([],0)})
def CK (p1 p2 bk:Nat)(x:Option Nat):Addr:=match x with
 |none=>⟨p1,bk,none⟩
 |some m=>⟨p2,0+m*3+2,none⟩
theorem T8 {o:Og}{w:World}{b:Nat}{s:dM}(z:Int)(hs:Start o w [jy b s]) :
  aj prog 182 [ak b,iV z].toArray w (Po o (.tuple #[.bool (pR s z).1,iV (pR s z).2.1]) [jy b (pR s z).2.2]):=by
 have hH:=hs.sh;obtain⟨⟨X,hX⟩,hH⟩:=SH.un hH;replace hH:=SH.ap hH;dsimp only at hH;obtain⟨aX,hN,dN,rJ,Ec⟩:=id hX;refine aj.enter func182 rfl ntmps182 rfl (gh ?_);refine GX.aL (hc:=fun _ hs=>aet hX z hs) (h:=fun w hE hH=>gh ?_);unfold pR;cases hn:vB s.N z with
 |none=>
  dsimp only[KG];refine gh ?_;exact⟨rfl,(wz hX hH).to⟩
 |some n=>
 obtain⟨sd,H,N,⟨q1,c1⟩,⟨q2,c2⟩,af,cf⟩:=X;dsimp only at hH aX hN dN ⊢;have rH:=aX.size;have iA:=aX.list;have hlen:s.N.length=N.length:=by rw[hN];simp[dO]
 obtain⟨rfl,Iz,iD⟩:z=(n:Int)∧n<N.length∧0<(s.N.getD n ([],0)).2:=by
  unfold vB at hn;split at hn
  ·rename_i h
   cases hn;exact⟨by omega,by omega,h.2.2⟩
  ·cases hn
 have hy:N[n]?=some N[n]:=by simp[Iz]
 generalize N[n]=y at hy;have B':s.N[n]?=some (y.t,y.r):=by rw[hN];exact yE hy
 rw[fT,B'] at iD ⊢;simp only[nC] at iD ⊢;have uH:=aX.refs y (bF hy);obtain⟨p,rfl⟩:=hH.pos (el:=337) (sz:=3);dsimp only[KG,Option.getD_some];refine gh ?_;refine GX.next rfl (GO.cG (hv:=nj fi hy (j:=1) rfl) (h:=gh ?_));rw[show((y.r:Nat):Int) - 1=((y.r - 1:Nat):Int) by omega];refine GX.vf (hb:=?_) (hc:=show(aK eF N).take (0+n*3+1)++[iV ((y.r - 1:Nat):Int)]++(aK eF N).drop (0+n*3+1+1)=aK eF (N.set n ⟨y.t,y.r - 1,y.nx⟩) from ?_) (h:=fun w hH=>gh ?_)
 ·rw[gQ fi];show 0+n*3+1+1≤_;omega
 ·rw[dA];exact(O8 (by rw[gQ fi];omega) _).trans (CR fi hy (by decide) rfl)
 have E8:(N.set n ⟨y.t,y.r - 1,y.nx⟩)[n]?=some ⟨y.t,y.r - 1,y.nx⟩:=dJ Iz;have vZ:(N.set n ⟨y.t,y.r - 1,y.nx⟩).length=N.length:=fS;refine GX.next rfl (GO.cG (hv:=nj fi E8 (j:=1) rfl) (h:=gh ?_));refine ifs (fun h1=>?_) (fun h1=>?_)<;>refine gh ?_
 ·dsimp only at h1;rw[if_pos ah];have xQ:=Ha (y:=(y.t,y.r - 1)) B';simp only[if_pos (show 0<y.r - 1 by omega),if_pos iD] at xQ;have oO:cx (s.N.set n (y.t,y.r - 1))=cx s.N:=Rt B' iD (by show 0<y.r - 1;omega);have oM:rp ⟨sd,H,N.set n ⟨y.t,y.r - 1,y.nx⟩,(q1,c1),(some p,c2),af,cf⟩ ({ s with N:=s.N.set n (y.t,y.r - 1)}:dM):=⟨aX.Yk hy iD ⟨by omega,by omega⟩,by rw[Cy,hN],dN,rJ,by show dq (s.N.set n (y.t,y.r - 1))≤s.aI;omega⟩
  rw[←oO,show dq s.N=dq (s.N.set n (y.t,y.r - 1)) by omega,←vZ] at hH;exact⟨rfl,(wz oM hH).to⟩
 dsimp only at h1;rw[if_neg ah];have Nt:=aX.tag y (bF hy) iD;have wv:y.t.length<2^40:=by have:=eN Nt;omega
 obtain⟨p1,rfl⟩:=hH.pos (el:=3) (sz:=1);have fq:bN sd y.t % H.length<H.length:=fm _ ah;obtain⟨L,hL,vO,DS⟩:=aX.chain _ fq;have mY:n∈L:=(DS n).2 ⟨y,hy,iD,rfl⟩;refine gh ?_;refine GX.next rfl (GO.cG (hv:=nj fi E8 (j:=0) rfl) (h:=gh ?_));refine GX.aL (hc:=fun _ hs=>I3 rH dN y.t wv hs) (h:=fun w hE hH=>gh ?_);have hN1:∀h l,fy N h l→fy (N.set n ⟨y.t,y.r - 1,y.nx⟩) h l:=fun h l hc=>hc.Xz _ hy rfl
 have EL:y.r - 1=0:=by omega
 rw[EL] at hH hN1;rw[EL] at E8 vZ;refine GC.QU (X:=List Nat×Option Nat×List Nat) (fun x=>[(0,ak b),(1,iV n),(6, .pointer (some ⟨p,0+n*3,none⟩)),(8, .pointer (some (CK p1 p (bN sd y.t % H.length) x.2.1)))]) (fun x w'=>L=x.1++x.2.1.toList++n::x.2.2∧(x.2.1=none→x.1=[])∧SH o w' [aA b [iV s.aI,uV sd, .slice (ay (some p1)) H.length c1, .slice (ay (some p)) N.length c2, .slice af (cx s.N).length cf,iV (dq s.N)],ao 3 1 (some p1) H.length c1 (dI H),ao 337 3 (some p) N.length c2 (aK eF (N.set n ⟨y.t,0,y.nx⟩)),fP 3 1 af (cx s.N).length cf (aD (cx s.N))]) ?_ ?_
 ·refine GC.bP [0,1,6] (fun x:List Nat×Option Nat×List Nat=>[(8, .pointer (some (CK p1 p (bN sd y.t % H.length) x.2.1)))]) (fun x w'=>L=x.1++x.2.1.toList++x.2.2∧(x.2.1=none→x.1=[])∧n∈x.2.2∧SH o w' [aA b [iV s.aI,uV sd, .slice (ay (some p1)) H.length c1, .slice (ay (some p)) N.length c2, .slice af (cx s.N).length cf,iV (dq s.N)],ao 3 1 (some p1) H.length c1 (dI H),ao 337 3 (some p) N.length c2 (aK eF (N.set n ⟨y.t,0,y.nx⟩)),fP 3 1 af (cx s.N).length cf (aD (cx s.N))]) (fun x=>x.2.2.length) ([],none,L) rfl rfl ⟨rfl,fun _=>rfl,mY,hH.to⟩ ?_;rintro⟨P,mo,R⟩ w ⟨kz,DX,Ex,hH⟩;dsimp only at kz DX Ex hH ⊢;cases R with
  |nil=>cases Ex
  |cons k R=>
  have MB:k∈L:=by rw[kz];simp
  obtain⟨yk,Nr,_⟩:=(DS k).1 MB;have hkN:=(aV.1 Nr).1;cases mo with
  |none=>
   obtain rfl:=DX rfl;simp only[Option.toList_none,jF] at kz;have hk:H.getD (bN sd y.t % H.length) (-1)=(k:Int):=by rw[kz] at hL;exact hL.1
   dsimp only[CK];have hv:=I4 fq;rw[hk] at hv;refine gh ?_;refine GX.next rfl (GO.cG (hv:=hv) (h:=gh ?_));refine ifs (fun h2=>?_) (fun h2=>?_)<;>refine gh ?_
   ·refine GC.bq (pl:=(aZ [0,3,6,12,15,10,19,21,24,27])) (T:=fun _=>False) (hm:=mixed) (h:=fun w hE hH=>gh ?_);refine gh ?_;refine GX.read rfl (GO.jU (hv:=hv) (h:=gh ?_));refine GQ.br ([],some k,R) rfl ⟨kz,fun h=>(by cases h),(by rcases bY.1 Ex with h|h;exact absurd (by rw[h]) h2;exact h),hH.to⟩ (by simp)
   ·obtain rfl:k=n:=by omega
    exact GQ.dx ([],none,R) (cZ (l:=[0,1,6,8]) rfl) ⟨kz,fun _=>rfl,hH.to⟩
  |some m=>
   simp only[Option.toList_some] at kz;have zG:=hL;rw[kz,cP] at zG;obtain⟨ym,Ce,rE⟩:=zG.split;have hk:ym.nx=(k:Int):=rE.1;have mX:m≠n:=fun e=>by
    rw[kz,gu] at vO;exact vO.2.2 m (by simp) n Ex e
   have uu:=(aV.1 Ce).1;have I1:(N.set n ⟨y.t,0,y.nx⟩)[m]?=some ym:=by rw[dH (Ne.symm mX)];exact Ce
   have hv:=nj fi I1 (j:=2) (v:=iV ym.nx) rfl;rw[hk] at hv;dsimp only[CK];refine gh ?_;refine GX.next rfl (GO.cG (hv:=hv) (h:=gh ?_));refine ifs (fun h2=>?_) (fun h2=>?_)<;>refine gh ?_
   ·refine GC.bq (pl:=(aZ [0,3,6,12,15,10,19,21,24,27])) (T:=fun _=>False) (hm:=mixed) (h:=fun w hE hH=>gh ?_);refine gh ?_;refine GX.read rfl (GO.jU (hv:=hv) (h:=gh ?_));refine GQ.br (P++[m],some k,R) rfl ⟨by rw[kz];simp,fun h=>(by cases h),(by rcases bY.1 Ex with h|h;exact absurd (by rw[h]) h2;exact h),hH.to⟩ (by simp)
   ·obtain rfl:k=n:=by omega
    exact GQ.dx (P,some m,R) (cZ (l:=[0,1,6,8]) rfl) ⟨kz,fun h=>(by cases h),hH.to⟩
 ·rintro⟨P,mo,R⟩ w ⟨kz,DX,hH⟩;dsimp only at kz DX hH ⊢;have dY:∀M:List Nm,dO M=dO N→dO (M.set n lQ)=s.N.set n ([],0):=fun M h=>by rw[Cy,h,hN];rfl
  refine GQ.DG (GC.seq (GC.cut (X:=List Int×List Nm) (fun _=>[(0,ak b),(1,iV n),(6, .pointer (some ⟨p,0+n*3,none⟩))]) (fun x w'=>gJ sd x.1 (x.2.set n lQ)∧dO (x.2.set n lQ)=s.N.set n ([],0)∧x.1.length=H.length∧x.2.length=N.length∧SH o w' [aA b [iV s.aI,uV sd, .slice (ay (some p1)) H.length c1, .slice (ay (some p)) N.length c2, .slice af (cx s.N).length cf,iV (dq s.N)],ao 3 1 (some p1) H.length c1 (dI x.1),ao 337 3 (some p) N.length c2 (aK eF x.2),fP 3 1 af (cx s.N).length cf (aD (cx s.N))]) ?_ ?_))
  ·cases mo with
   |none=>
    obtain rfl:=DX rfl;simp only[Option.toList_none,jF] at kz;dsimp only[CK];refine gh ?_;refine GX.next rfl (GO.cG (hv:=nj fi E8 (j:=2) rfl) (h:=gh ?_));refine GX.J4 (j:=bN sd y.t % H.length) (hj:=by simp only[Fi];exact fq) (h:=fun w hH=>gh ?_);rw[show(dI H).set (bN sd y.t % H.length) (iV y.nx)=dI (H.set (bN sd y.t % H.length) y.nx) by simp[dI,pf]] at hH;refine GQ.dx (H.set (bN sd y.t % H.length) y.nx,N.set n ⟨y.t,0,y.nx⟩) (cZ (l:=[0,1,6]) rfl) ⟨?_,?_,by simp,vZ,hH.to⟩
    ·rw[List.set_set];exact aX.aaS hy iD rfl (s:=R) (by rw[←kz];exact hL) (by rw[←kz];exact vO)
    ·rw[List.set_set];exact dY N rfl
   |some m=>
    simp only[Option.toList_some] at kz;have zG:=hL;rw[kz,cP] at zG;obtain⟨ym,Ce,rE⟩:=zG.split;have mX:m≠n:=fun e=>by
     rw[kz,gu] at vO;exact vO.2.2 m (by simp) n (by simp) e
    have uu:=(aV.1 Ce).1;have I1:(N.set n ⟨y.t,0,y.nx⟩)[m]?=some ym:=by rw[dH (Ne.symm mX)];exact Ce
    dsimp only[CK];refine gh ?_;refine GX.next rfl (GO.cG (hv:=nj fi E8 (j:=2) rfl) (h:=gh ?_));refine GX.vf (hb:=?_) (hc:=show(aK eF (N.set n ⟨y.t,0,y.nx⟩)).take (0+m*3+2)++[iV y.nx]++(aK eF (N.set n ⟨y.t,0,y.nx⟩)).drop (0+m*3+2+1)=aK eF ((N.set n ⟨y.t,0,y.nx⟩).set m ⟨ym.t,ym.r,y.nx⟩) from ?_) (h:=fun w hH=>gh ?_)
    ·rw[gQ fi];show 0+m*3+2+1≤_;omega
    ·rw[dA];exact(O8 (by rw[gQ fi];omega) _).trans (CR fi I1 (by decide) rfl)
    refine GQ.dx (H,(N.set n ⟨y.t,0,y.nx⟩).set m ⟨ym.t,ym.r,y.nx⟩) (cZ (l:=[0,1,6]) rfl) ⟨?_,?_,rfl,by simp,hH.to⟩
    ·rw[List.set_comm _ _ (Ne.symm mX),List.set_set];exact aX.aaT hy Ce iD rfl (by rw[←kz];exact hL) (by rw[←kz];exact vO)
    ·rw[Cy,Wg I1,Cy,List.set_set,hN];rfl
  ·rintro⟨H',M⟩ w ⟨rK,qF,vY,Ep,hH⟩;dsimp only at rK qF vY Ep hH ⊢;refine gh ?_;refine GX.vf (hb:=?_) (hc:=show(aK eF M).take (0+n*3)++eF lQ++(aK eF M).drop (0+n*3+(eF lQ).length)=aK eF (M.set n lQ) from ?_) (h:=fun w hH=>gh ?_)
   ·rw[gQ fi];have:=fi lQ;omega
   ·rw[dA];exact AN fi ah lQ
   have xQ:=Ha (y:=([],0)) B';simp only[if_pos iD,Nat.lt_irrefl,if_false] at xQ;have kX:(cx s.N).length≤65536:=by
    unfold cx;refine eh (rh _ _) ?_;rw[List.length_range];omega
   refine GX.dw (h:=fun w hH=>gh ?_);refine GX.dX (hc:=fun _ hs=>ZB (cx s.N) n rfl ah (zx _) hs) (h:=?_);rintro⟨i,f⟩ w ⟨BJ,zQ,SN⟩ hE hH;dsimp only at BJ zQ SN ⊢;replace hH:=SH.ap hH;refine gh ?_;have g3:af=none→(cx s.N).length=0:=fun e=>hH.Ou (el:=3) (sz:=1) (c:=cf) (live:=aD (cx s.N)) (ha:=e)
   refine GX.dX (hc:=fun _ hs=>vD (cs:=aD (cx s.N)) ah (by simp) g3 (qM _) hs) (h:=?_);rintro⟨q3,c3⟩ w _ hE hH;replace hH:=SH.ap hH;refine gh ?_;refine GX.nk (h:=fun z w hH=>gh ?_);refine GX.bS (hc:=fun _ hs=>aeD i BJ ah rfl (qM _) hs) (h:=?_);rintro⟨q4,c4⟩ w _ hH;replace hH:=SH.ap hH;refine gh ?_;refine GX.dw (h:=fun w hH=>gh ?_);have qH:∀m∈(cx s.N).drop i,n<m:=fun m hm=>by
    have h2:=SN m hm;have h3:m≠n:=fun e=>by
     obtain⟨x,hx,h0⟩:=oV.1 (xj hm);rw[e,B'] at hx;cases hx;exact absurd h0 (by show y.r≠0;omega)
    omega
   have oO:=abO B' iD zQ qH ([],0) rfl;have hfn:(cx (s.N.set n ([],0))).length=(cx s.N).length+1:=by rw[oO];simp;omega
   have hci:List.take i (aD (cx s.N))++iV n::List.drop i (aD (cx s.N))=aD (cx (s.N.set n ([],0))):=by rw[oO];simp[aD,List.map_take,List.map_drop]
   rw[hci,←hfn] at hH;have aO:=hH.wK (el:=3) (sz:=1) (q:=q4) (cs:=aD (cx (s.N.set n ([],0))));have oM:rp ⟨sd,H',M.set n lQ,(some p1,c1),(some p,c2),ay q4,c4⟩ ({ s with N:=s.N.set n ([],0)}:dM):=⟨rK,qF.symm,dN,rJ,by show dq (s.N.set n ([],0))≤s.aI;omega⟩
   rw[show Value.int IntKind.i64 ((dq s.N:Int) - 1)=iV (dq (s.N.set n ([],0))) by show iV _=iV _;congr 1;omega,←vY,show N.length=(M.set n lQ).length by rw[fS,Ep]] at aO;exact⟨rfl,(wz oM aO).to⟩
end
section
attribute [local irreducible] GO GX aA fz aF aQ ao star
variable {o:Og}{w:World}
structure sB where
 t:List Bs
 n:List Nat
 ta:Option Addr
 tc:Nat
 na:Option Addr
 nc:Nat
def jo (e:sB):Value := .agg #[.slice e.ta e.t.length e.tc, .slice e.na e.n.length e.nc]
def jC (x:Nat×sB):List It:=[aF x.2.ta (aM x.2.t),aF x.2.na (aD x.2.n)]
def lY (l:List Nat):List Value:=l.map fun n:Nat=>uV n
structure vz where
 q:Option Nat
 c:Nat
 l:List Nat
def ji (e:vz):Value := .slice (ay e.q) e.l.length e.c
def jh (x:Int×vz):List It:=[ao 38 1 x.2.q x.2.l.length x.2.c (lY x.2.l)]
structure gL where
 aI:Nat
 N:fU
 last:Nat
 live:Nat→Option (List Bs×List Nat)
 K:Nat
structure Bb where
 i:Nat
 lm:Nat
 sm:Nat
 M:List (Nat×sB)
 S:List (Int×vz)
 many:Nat
 eT:Nat
structure YJ (K:Nat)(e:sB):Prop where
 len:e.t.length=e.n.length
 aI:e.n.length≤64
 nz:e.na=none→e.n.length=0
structure xB (X:Bb)(R:gL):Prop where
 live:∀id,R.live id=(az X.M id).map fun e=>(e.t,e.n)
 nd:(X.M.map (·.1)).Nodup
 eb:∀x∈X.M,YJ R.K x.2
 Ct:(X.S.map (·.1)).Nodup
 many:X.many≤64*R.K
 eT:X.eT≤64*R.K
 J0:∀x∈X.S,x.2.l.length≤64*R.K
 refs:∀y∈R.N,y.2≤64*R.K
abbrev Bb.dm (X:Bb)(b:Nat)(R:gL):List It:=
 [aA b [ak X.i,uV R.last, .map (some X.lm), .map (some X.sm),iV X.many,iV X.eT],jy X.i ⟨R.aI,R.N⟩,aQ X.lm (fun n:Nat=>uV n) jo X.M,aQ X.sm iV ji X.S,bB (bT jC X.M),bB (bT jh X.S)]
def nX (b:Nat)(R:gL):It:=star fun X:{ X:Bb // xB X R}=>X.1.dm b R
theorem AM {l t:List It}{b:Nat}{X:Bb}{R:gL}(hX:xB X R)(hH:SH o w l)(hp:Pk l (X.dm b R) t:=by repeat(first|exact Pk.nil|(apply Pk.cons;repeat(first|exact aB.here|apply aB.there)))):SH o w (nX b R::t):=
 SH.fold (f:=fun X:{ X:Bb // xB X R}=>X.1.dm b R) ⟨X,hX⟩ hH hp
theorem FK {b i lm sm r:Nat}{v1 v4 v5:Value}(hs:Start o w [fz (aA b [ak i,v1, .map (some lm), .map (some sm),v4,v5])]):aj prog 124 [ak b].toArray w (Po o (.bool false) []):=by
 have hH:=hs.sh;refine aj.enter func124 rfl ntmps124 rfl (gh ?_);exact⟨rfl,hH.to⟩
def JT (M:List (Nat×sB))(id:Nat):Value:=match az M id with
 |some e => .tuple #[jo e,iV 0]
 |none => .tuple #[.agg #[.slice none 0 0, .slice none 0 0],iV 9]
theorem Xo {b i lm sm:Nat}{v1 v4 v5:Value}{M:List (Nat×sB)}(id:Nat)(hs:Start o w [fz (aA b [ak i,v1, .map (some lm), .map (some sm),v4,v5]),fz (aQ lm (fun n:Nat=>uV n) jo M)]):aj prog 134 [ak b,uV id].toArray w (Po o (JT M id) []):=by
 have hH:=hs.sh;refine aj.enter func134 rfl ntmps134 rfl (gh ?_);refine GX.cm (h:=fun z w hH=>gh ?_);refine GX.aL (hc:=fun _ hs=>FK (r:=0) hs) (h:=fun w hE hH=>gh ?_);unfold JT;cases hm:az M id with
 |none=>
  refine GX.lP (hV:=show _ = .tuple #[.agg #[.slice none 0 0, .slice none 0 0], .bool false] by unfold jc;rw[hm];rfl) (h:=gh ?_);refine GX.cm (h:=fun c w hH=>gh ?_);refine GX.bc (h:=fun w hH=>gh ?_);refine GX.bc (h:=fun w hH=>gh ?_);exact⟨rfl,hH.to⟩
 |some e=>
  refine GX.lP (hV:=show _ = .tuple #[jo e, .bool true] by unfold jc;rw[hm];rfl) (h:=gh ?_);refine GX.cm (h:=fun c w hH=>gh ?_);refine GX.bc (h:=fun w hH=>gh ?_);refine GX.bc (h:=fun w hH=>gh ?_);exact⟨rfl,hH.to⟩
end
section
section
variable {o:Og}{w:World}{l:List It}
instance {a:Option Addr}{cs:List Value}:Rd (fz (aF a cs)) a cs:=⟨fun _ _ _ ⟨⟨_,_,_,h2,h,hz,_⟩,_⟩=>⟨h,fun hc y hy => .inr (h2 _ (hz hc y hy))⟩⟩
theorem SH.vJ (h:SH o w l):SH o w (aF none []::l):=by
 obtain⟨Z,F,hu,h2,h3,h4⟩:=h;exact⟨Z,F,hu,⟨fun _=>False,F,by simp,fun _ h=>h.elim,⟨bM.nil w,fun _ _ h=>(by cases h),rfl⟩,h2⟩,h3,h4⟩
end
attribute [local irreducible] GX GO
attribute [local irreducible] aA ao aQ aF fz star
theorem Xl {o:Og}{w:World}{b:Nat}{R:gL}(x:Bs)(hs:Start o w [fz (nX b R)]) :
  aj prog 154 [ak b,str x].toArray w (Po o (.tuple #[iV (lh R.N x).1,iV (lh R.N x).2]) []):=by
 have hH:=hs.sh;obtain⟨⟨X,hX⟩,hH⟩:=SH.dQ hH;replace hH:=SH.dW hH;dsimp only at hH;refine aj.enter func154 rfl ntmps154 rfl (gh ?_);refine GX.aL (hc:=fun _ hs=>FK (r:=0) hs) (h:=fun w hE hH=>gh ?_);refine GX.aL (hc:=fun _ hs=>aen x hs) (h:=fun w hE hH=>gh ?_);exact⟨rfl,hH.to⟩
theorem aju {o:Og}{w:World}{b:Nat}{R:gL}(hs:Start o w [fz (nX b R)]) :
  aj prog 165 [ak b].toArray w (Po o (.tuple #[iV (dq R.N),iV R.aI]) []):=by
 have hH:=hs.sh;obtain⟨⟨X,hX⟩,hH⟩:=SH.dQ hH;replace hH:=SH.dW hH;dsimp only at hH;refine aj.enter func165 rfl ntmps165 rfl (gh ?_);refine GX.aL (hc:=fun _ hs=>FK (r:=0) hs) (h:=fun w hE hH=>gh ?_);refine GX.aL (hc:=fun _ hs=>aeo hs) (h:=fun w hE hH=>gh ?_);exact⟨rfl,hH.to⟩
def tx (R:gL)(id:Nat):List Nat:=((R.live id).map (·.2)).getD []
def Xk (R:gL)(id:Nat):Int:=if(R.live id).isSome then 0 else 9
def O0 (l:List Nat)(e:Int)(q:Option Nat×Nat):Value := .tuple #[.slice (ay q.1) l.length q.2,iV e]
theorem Fs {κ ν:Type}[DecidableEq κ]{M:List (κ×ν)}{k:κ}{v:ν}(h:az M k=some v):(k,v)∈M:=by
 induction M with
 |nil=>simp[az] at h
 |cons x M ih=>
  obtain⟨a,u⟩:=x;simp only[az] at h;split at h
  ·rename_i e;cases h;subst e;simp
  ·exact fR _ (ih h)
theorem ajr {o:Og}{w:World}{b:Nat}{R:gL}(id:Nat)(hs:Start o w [fz (nX b R)]) :
  aj prog 72 [ak b,uV id].toArray w (aU o (O0 (tx R id) (Xk R id)) (fun _=>True) (fun q=>[ao 3 1 q.1 (tx R id).length q.2 (aD (tx R id))])):=by
 have hH:=hs.sh;obtain⟨⟨X,hX⟩,hH⟩:=SH.dQ hH;replace hH:=SH.dW hH;dsimp only at hH;refine aj.enter func72 rfl ntmps72 rfl (gh ?_);refine GX.aL (hc:=fun _ hs=>Xo id hs) (h:=fun w hE hH=>gh ?_);unfold tx Xk JT;rw[hX.live id];cases hm:az X.M id with
 |none=>
  dsimp only;replace hH:=hH.vJ;refine gh ?_;refine GX.cm (h:=fun c w hH=>gh ?_);refine GX.bc (h:=fun w hH=>gh ?_);refine GX.dX (hc:=fun _ hs=>vD (a:=none) (n:=0) (cs:=[]) ah rfl (fun _=>rfl) (fun _ h=>by cases h) hs) (h:=?_);rintro⟨q,d⟩ w _ hE hH;replace hH:=SH.ap hH;refine gh ?_;exact⟨(q,d),rfl,trivial,hH.to⟩
 |some e=>
  dsimp only;obtain⟨h1,h2,h3⟩:=hX.eb _ (Fs hm);dsimp only at h1 h2 h3;replace hH:=SH.dW (SH.GL (m:=bT jC X.M) (jC (id,e)) _ hH (o0 hm));dsimp only at hH;refine gh ?_;refine GX.cm (h:=fun c w hH=>gh ?_);refine GX.bc (h:=fun w hH=>gh ?_);refine GX.dX (hc:=fun _ hs=>vD (cs:=aD e.n) ah (by simp) h3 (qM _) hs) (h:=?_);rintro⟨q,d⟩ w _ hE hH;replace hH:=SH.ap hH;refine gh ?_;exact⟨(q,d),rfl,trivial,hH.to⟩
end
section
attribute [local irreducible] GO GX aA fz aF aQ ao star
theorem ajw {o:Og}{w:World}(m sd:Nat)(hm:1≤m∧m≤65536)(dN:sd<18446744073709551616)(hs:Start o w []) :
  aj prog 40 [iV m,uV sd].toArray w (aU o (fun b:Nat => .tuple #[ak b,iV 0]) (fun _=>True) (fun b=>[nX b ⟨m,[],0,fun _=>none,0⟩])):=by
 have hH:=hs.sh;refine aj.enter func40 rfl ntmps40 rfl (gh ?_);refine GX.bS (hc:=fun _ hs=>aey m sd hm dN hs) (h:=?_);rintro i w _ hH;replace hH:=SH.ap hH;refine gh ?_;refine GX.yB (fun n:Nat=>uV n) jo (h:=fun lm w hH=>gh ?_);refine GX.yB (iV:Int→Value) ji (h:=fun sm w hH=>gh ?_);refine GX.cw (h:=fun b w hH=>gh ?_);have hX:xB ⟨i,lm,sm,[],[],0,0⟩ ⟨m,[],0,fun _=>none,0⟩:=⟨fun _=>rfl,mF,(fun _ h=>by cases h),mF,bh _,bh _,(fun _ h=>by cases h),(fun _ h=>by cases h)⟩
 have aO:SH o w (bB (bT jC [])::bB (bT jh [])::_):=hH.pz.pz;exact⟨b,rfl,trivial,(AM hX aO).to⟩
def o6 (y:List Nat×dM)(n:Nat):List Nat×dM:=(if(pR y.2 n).1=true then y.1++[n] else y.1,(pR y.2 n).2.2)
def jn (s:dM)(l:List Nat):List Nat×dM:=l.foldl o6 ([],s)
theorem Xn {s:dM}{l:List Nat}{i n:Nat}(h:l[i]?=some n):jn s (l.take (i+1))=o6 (jn s (l.take i)) n:=by
 obtain⟨h1,h2⟩:=aV.1 h;unfold jn;rw[kQ h1,vt,h2];rfl
theorem aer (s:dM)(z:Int):(pR s z).2.2.aI=s.aI:=by
 unfold pR;split
 ·rfl
 ·split<;>rfl
theorem aes {K:Nat}{s:dM}(h:∀y∈s.N,y.2≤K)(z:Int):∀y∈(pR s z).2.2.N,y.2≤K:=by
 unfold pR;split
 ·exact h
 ·rename_i n hn
  split
  ·intro y hy
   rcases l4 hy with hy|rfl
   ·exact h y hy
   ·have hl:n<s.N.length:=by
     unfold vB at hn;split at hn
     ·rename_i hh;cases hn;omega
     ·cases hn
    have:=h (s.N.getD n ([],0)) (by rw[fT,bO hl];exact ot hl);show(s.N.getD n ([],0)).2 - 1≤K;omega
  ·intro y hy
   rcases l4 hy with hy|rfl
   ·exact h y hy
   ·exact bh _
theorem O1 {K:Nat}{s:dM}(h:∀y∈s.N,y.2≤K)(l:List Nat):(jn s l).2.aI=s.aI∧(∀y∈(jn s l).2.N,y.2≤K)∧(jn s l).1.length≤l.length:=by
 have key:∀(l:List Nat) (y:List Nat×dM),y.2.aI=s.aI→(∀x∈y.2.N,x.2≤K)→(l.foldl o6 y).2.aI=s.aI∧(∀x∈(l.foldl o6 y).2.N,x.2≤K)∧(l.foldl o6 y).1.length≤y.1.length+l.length:=by
  intro l
  induction l with
  |nil=>intro y h1 h2;exact⟨h1,h2,bj _⟩
  |cons n l ih=>
   intro y h1 h2;obtain⟨k1,k2,k3⟩:=ih (o6 y n) ((aer _ _).trans h1) (aes h2 _);refine⟨k1,k2,eh k3 ?_⟩;unfold o6;split<;>simp<;>omega
 obtain⟨k1,k2,k3⟩:=key l ([],s) rfl h;exact⟨k1,k2,by rw[←dA l.length];exact k3⟩
def jm (R:gL)(id:Nat):List Nat×Int×gL:=match R.live id with
 |none=>([],9,R)
 |some e=>((jn ⟨R.aI,R.N⟩ e.2).1,0,⟨R.aI,(jn ⟨R.aI,R.N⟩ e.2).2.N,R.last,fun j=>if j=id then none else R.live j,R.K+1⟩)
theorem ajq {o:Og}{w:World}{b:Nat}{R:gL}(id:Nat)(hK:R.K<2^40)(hs:Start o w [nX b R]) :
  aj prog 111 [ak b,uV id].toArray w (aU o (O0 (jm R id).1 (jm R id).2.1) (fun _=>True) (fun q=>[nX b (jm R id).2.2,ao 3 1 q.1 (jm R id).1.length q.2 (aD (jm R id).1)])):=by
 have hH:=hs.sh;obtain⟨⟨X,hX⟩,hH⟩:=SH.un hH;replace hH:=SH.ap hH;dsimp only at hH;refine aj.enter func111 rfl ntmps111 rfl (gh ?_);refine GX.aL (hc:=fun _ hs=>Xo id hs) (h:=fun w hE hH=>gh ?_);unfold jm JT;rw[hX.live id];cases hm:az X.M id with
 |none=>
  dsimp only;refine gh ?_;refine GX.cm (h:=fun c w hH=>gh ?_);refine GX.bc (h:=fun w hH=>gh ?_);have aO:=SH.cE (el:=3) (sz:=1) (q:=none) (n:=0) (c:=0) (cs:=[]) hH (Mod.refl w) (fun _ h=>by cases h) (aG.nil _ _ _);exact⟨(none,0),rfl,trivial,(AM hX aO).to⟩
 |some e=>
  dsimp only;obtain⟨h1,h2,h3⟩:=hX.eb _ (Fs hm);dsimp only at h1 h2 h3;obtain⟨k1,k2,k3⟩:=O1 (s:=⟨R.aI,R.N⟩) hX.refs e.n;have HN:=hX.eT;replace hH:=SH.ap (SH.oF (m:=bT jC X.M) (jC (id,e)) _ hH (o0 hm));obtain⟨ts,nn,ta,tc,na,nc⟩:=e;dsimp only at hH h1 h2 h3 k1 k2 k3 ⊢;unfold jo;refine gh ?_;refine GX.cm (h:=fun c w hH=>gh ?_);refine GX.bc (h:=fun w hH=>gh ?_);replace hH:=SH.cE (el:=3) (sz:=1) (q:=none) (n:=0) (c:=0) (cs:=[]) hH (Mod.refl w) (fun _ h=>by cases h) (aG.nil _ _ _);refine GC.bP [0,1,23,24] (fun y:Nat×Nat×Option Nat×Nat=>[(25,iV y.1),(8, .slice (ay y.2.2.1) y.2.1 y.2.2.2)]) (fun y w'=>y.1≤nn.length∧(jn ⟨R.aI,R.N⟩ (nn.take y.1)).1.length=y.2.1∧SH o w' [ao 3 1 y.2.2.1 y.2.1 y.2.2.2 (aD (jn ⟨R.aI,R.N⟩ (nn.take y.1)).1),aF na (aD nn),aA b [ak X.i,uV R.last, .map (some X.lm), .map (some X.sm),iV X.many,iV (X.eT+y.1:Nat)],jy X.i (jn ⟨R.aI,R.N⟩ (nn.take y.1)).2,aQ X.lm (fun n:Nat=>uV n) jo X.M,aQ X.sm iV ji X.S,bB (bT jC (bD X.M id)),bB (bT jh X.S)]) (fun y=>nn.length - y.1) (0,0,none,0) rfl rfl ⟨bh _,by rw[List.take_zero];rfl,by dsimp only;rw[List.take_zero];exact hH.to⟩ ?_;rintro⟨j,k,q,d⟩ w ⟨hj,hk,hH⟩;dsimp only at hj hk hH ⊢;refine gh ?_;refine ifs (fun h4=>?_) (fun h4=>?_)<;>refine gh ?_
  ·have hx:nn[j]?=some nn[j]:=by simp[show j<nn.length by omega]
   generalize nn[j]=n at hx;have dt:=Xn (s:=⟨R.aI,R.N⟩) hx;have hA:=hH.bR (x:=aF na (aD nn)) (a:=na) (cs:=aD nn) bL;obtain⟨bk,ok,rfl,jM⟩:=uJ hA hx;have k4:=(O1 (s:=⟨R.aI,R.N⟩) hX.refs (nn.take j)).2.2;rw[dE] at k4;generalize jn ⟨R.aI,R.N⟩ (nn.take j)=Y at dt hH hk k4;obtain⟨F,s⟩:=Y;dsimp only at hH hk k4 ⊢;subst hk;refine gh ?_;refine GX.next rfl (GO.rP rfl rfl rfl (jM _ ah) (gh ?_));refine GX.bz (hc:=fun _ hs=>T8 (n:Int) hs) (h:=fun w hH=>gh ?_);unfold o6 at dt;cases hr:(pR s n).1 with
   |true=>
    rw[if_pos hr] at dt;refine gh ?_;refine GX.mK (h1:=by simp[Value.oneCell']) (h:=fun q c w _ hH=>gh ?_);refine GX.dw (h:=fun w hH=>gh ?_);refine GQ.br (j+1,F.length+1,q,c) rfl ⟨by simp only;omega,by dsimp only;rw[dt];simp,?_⟩ (by simp only;omega);dsimp only;rw[dt,show aD (F++[n])=aD F++[iV n] by simp[aD]];exact hH.to
   |false=>
    rw[if_neg (by rw[hr];decide)] at dt;refine gh ?_;refine GX.dw (h:=fun w hH=>gh ?_);refine GQ.br (j+1,F.length,q,d) rfl ⟨by simp only;omega,by dsimp only;rw[dt],?_⟩ (by simp only;omega);dsimp only;rw[dt];exact hH.to
  ·obtain rfl:j=nn.length:=by omega
   rw[j5] at hH hk;subst hk;refine gh ?_;refine GX.Jj (h:=fun w hH=>gh ?_);simp only[jr];generalize jn ⟨R.aI,R.N⟩ nn=Y at hH k1 k2 ⊢;obtain⟨F,mo,N'⟩:=Y;dsimp only at hH k1 k2;subst k1;have oM:xB ⟨X.i,X.lm,X.sm,bD X.M id,X.S,X.many,X.eT+nn.length⟩ ⟨R.aI,N',R.last,fun j=>if j=id then none else R.live j,R.K+1⟩:=⟨fun j=>by
    dsimp only;rw[iF hX.nd];split
    ·rfl
    ·exact hX.live j,hX.nd.sublist ((wX X.M id).map _),fun x hx=>⟨(hX.eb x ((wX X.M id).subset hx)).len,(hX.eb x ((wX X.M id).subset hx)).aI,(hX.eb x ((wX X.M id).subset hx)).nz⟩,hX.Ct,by have:=hX.many;show X.many≤64*(R.K+1);omega,by show X.eT+nn.length≤64*(R.K+1);omega,fun x hx=>by have:=hX.J0 x hx;show _≤64*(R.K+1);omega,fun y hy=>by have:=k2 y hy;show y.2≤64*(R.K+1);omega⟩
   exact⟨(q,d),rfl,trivial,(AM oM hH).to⟩
end
end Go.Proofs.YtmlpbmgfmnmmmaaGreat.V.M
