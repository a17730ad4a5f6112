/-
  Parts of the proof. No condition.
-/
import Derived.Test.YtoloaehmppcjoaaGreatW2bc
import Derived.Test.YtoloaehmppcjoaaGreatW2ar
import Derived.Test.YtoloaehmppcjoaaGreatW2bb
set_option linter.unusedVariables false
set_option linter.unusedSimpArgs false
set_option maxRecDepth 8000
set_option maxHeartbeats 8000000
open Go.Proofs.Tryz
namespace Go.Proofs.YtoloaehmppcjoaaGreat.V.M
section
section
variable {P:Program}{Q:Exit→Act→World→Prop}{n:Nat}{e:Env}{w:World}
theorem GC.QW [Fr]{X:Type}{c:Code}{id:Nat}(E:X→Env)(J:X→World→Prop)(h1:GC P c (Exit.inBlock id (Exit.then (fun a w=>∃x,fJ a (E x) n∧J x w) Q)) n e w)(h2:∀x w,J x w→GQ Q .normal n (E x) w):GC P c (Exit.inBlock id Q) n e w:=by
 unfold GC at h1 ⊢;unfold GQ at h2;intro a ha;refine Code.wpIn_mono (fun e a w hq=>?_) (h1 a ha);have hN:Exit.then (fun a w=>∃x,fJ a (E x) n∧J x w) Q .normal a w→Q .normal a w:=fun⟨x,hk,hj⟩=>h2 x w hj a hk
 cases e with
 |normal=>exact hN hq
 |exit i=>
  by_cases h:i=id
  ·subst h;have hq:Exit.then (fun a w=>∃x,fJ a (E x) n∧J x w) Q .normal a w:=by simpa[Exit.inBlock] using hq
   simpa[Exit.inBlock] using hN hq
  ·have hq:Exit.then (fun a w=>∃x,fJ a (E x) n∧J x w) Q (.exit i) a w:=by simpa[Exit.inBlock,h] using hq
   have hq:Q (.exit i) a w:=hq;simpa[Exit.inBlock,h] using hq
 |_=>exact hq
end
attribute [local irreducible] GX GO
attribute [local irreducible] aB aq aS aF fz star
def sY (N:eF)(z:Int):Option Nat:=if 0≤z∧z<N.length∧0<(N.getD z.toNat ([],0)).2 then some z.toNat else none
def KT (q:Option Nat)(x:Option Nat):Value:=match x with
 |some n => .tuple #[.pointer (some ⟨q.getD 0,0+n*3,none⟩),iV 0]
 |none => .tuple #[.pointer none,iV 9]
theorem aeB {o:Og}{w:World}{b:Nat}{X:vG}{s:dQ}(hX:rH X s)(z:Int)(hs:Start o w [fz (aB b [iV s.aD,uV X.aJ, .slice (aA X.q1.1) X.H.length X.q1.2, .slice (aA X.q2.1) X.N.length X.q2.2, .slice X.a (cw s.N).length X.c,iV (du s.N)]),fz (aq 360 3 X.q2.1 X.N.length X.q2.2 (aL eP X.N))]) :
  aj prog 296 [ak b,iV z].toArray w (Po o (KT X.q2.1 (sY s.N z)) []):=by
 have hH:=hs.sh;obtain⟨aU,hN,eH,rY,_⟩:=id hX;obtain⟨sd,H,N,⟨q1,c1⟩,⟨q2,c2⟩,a,c⟩:=X;dsimp only at hH aU hN eH ⊢;have hnl:=aU.list;have hlen:s.N.length=N.length:=by rw[hN];simp[dU]
 refine aj.enter func296 rfl ntmps296 rfl (gh ?_);refine GX.aM (hc:=fun _ hs=>Fk rY.1 hs) (h:=fun w hE hH=>gh ?_)
 by_cases h0:z<0
 ·rw[show decide (z<0)=true from b8 h0];refine gh ?_;rw[sY,if_neg ah];exact⟨rfl,hH.to⟩
 rw[show decide (z<0)=false from bQ h0];refine gh ?_
 by_cases h1:(N.length:Int)≤z
 ·rw[show decide ((N.length:Int)≤z)=true from b8 h1];refine gh ?_;rw[sY,if_neg ah];exact⟨rfl,hH.to⟩
 rw[show decide ((N.length:Int)≤z)=false from bQ h1];obtain⟨n,rfl⟩:=Int.eq_ofNat_of_zero_le (show 0≤z by omega);have IJ:n<N.length:=by omega
 have hy:N[n]?=some N[n]:=by simp[IJ]
 generalize N[n]=y at hy;have hg:(s.N.getD n ([],0)).2=y.r:=by rw[hN,dP,yH hy];rfl
 obtain⟨p,rfl⟩:=hH.l8 (el:=360) (sz:=3) (q:=q2);refine gh ?_;refine GX.next rfl (GO.cT (hv:=mS fA hy (j:=1) rfl) (h:=gh ?_))
 by_cases h2:y.r=0
 ·rw[show decide (((y.r:Nat):Int)=0)=true from b8 ah];refine gh ?_;rw[sY,if_neg (by show¬(_∧_∧0<(s.N.getD n ([],0)).2);rw[hg];omega)];exact⟨rfl,hH.to⟩
 ·rw[show decide (((y.r:Nat):Int)=0)=false from bQ ah];refine gh ?_;rw[sY,if_pos (by refine⟨by omega,by omega,?_⟩;show 0<(s.N.getD n ([],0)).2;rw[hg];omega)];exact⟨rfl,hH.to⟩
def ov (s:dQ)(z:Int):Bool×Int×dQ:=match sY s.N z with
 |none=>(false,9,s)
 |some n=>if 1<(s.N.getD n ([],0)).2 then(false,0,{ s with N:=s.N.set n ((s.N.getD n ([],0)).1,(s.N.getD n ([],0)).2 - 1)}) else(true,0,{ s with N:=s.N.set n ([],0)})
def CG (p1 p2 bk:Nat)(x:Option Nat):Addr:=match x with
 |none=>⟨p1,bk,none⟩
 |some m=>⟨p2,0+m*3+2,none⟩
theorem Ub {o:Og}{w:World}{b:Nat}{s:dQ}(z:Int)(hs:Start o w [jS b s]) :
  aj prog 207 [ak b,iV z].toArray w (Po o (.tuple #[.bool (ov s z).1,iV (ov s z).2.1]) [jS b (ov s z).2.2]):=by
 have hH:=hs.sh;obtain⟨⟨X,hX⟩,hH⟩:=SH.un hH;replace hH:=SH.ap hH;dsimp only at hH;obtain⟨aU,hN,eH,rY,Ei⟩:=id hX;refine aj.enter func207 rfl ntmps207 rfl (gh ?_);refine GX.aM (hc:=fun _ hs=>aeB hX z hs) (h:=fun w hE hH=>gh ?_);unfold ov;cases hn:sY s.N z with
 |none=>
  dsimp only[KT];refine gh ?_;exact⟨rfl,(wH hX hH).to⟩
 |some n=>
 obtain⟨sd,H,N,⟨q1,c1⟩,⟨q2,c2⟩,af,cf⟩:=X;dsimp only at hH aU hN eH ⊢;have rW:=aU.size;have jf:=aU.list;have hlen:s.N.length=N.length:=by rw[hN];simp[dU]
 obtain⟨rfl,IJ,iQ⟩:z=(n:Int)∧n<N.length∧0<(s.N.getD n ([],0)).2:=by
  unfold sY at hn;split at hn
  ·rename_i h
   cases hn;exact⟨by omega,by omega,h.2.2⟩
  ·cases hn
 have hy:N[n]?=some N[n]:=by simp[IJ]
 generalize N[n]=y at hy;have B8:s.N[n]?=some (y.t,y.r):=by rw[hN];exact yH hy
 rw[dP,B8] at iQ ⊢;simp only[oN] at iQ ⊢;have uX:=aU.refs y (bD hy);obtain⟨p,rfl⟩:=hH.pos (el:=360) (sz:=3);dsimp only[KT,Option.getD_some];refine gh ?_;refine GX.next rfl (GO.cT (hv:=mS fA hy (j:=1) rfl) (h:=gh ?_));rw[show((y.r:Nat):Int) - 1=((y.r - 1:Nat):Int) by omega];refine GX.vm (hb:=?_) (hc:=show(aL eP N).take (0+n*3+1)++[iV ((y.r - 1:Nat):Int)]++(aL eP N).drop (0+n*3+1+1)=aL eP (N.set n ⟨y.t,y.r - 1,y.nx⟩) from ?_) (h:=fun w hH=>gh ?_)
 ·rw[gT fA];show 0+n*3+1+1≤_;omega
 ·rw[dz];exact(O9 (by rw[gT fA];omega) _).trans (CM fA hy (by decide) rfl)
 have wF:(N.set n ⟨y.t,y.r - 1,y.nx⟩)[n]?=some ⟨y.t,y.r - 1,y.nx⟩:=dE IJ;have wm:(N.set n ⟨y.t,y.r - 1,y.nx⟩).length=N.length:=fQ;refine GX.next rfl (GO.cT (hv:=mS fA wF (j:=1) rfl) (h:=gh ?_));refine ifs (fun h1=>?_) (fun h1=>?_)<;>refine gh ?_
 ·dsimp only at h1;rw[if_pos ah];have xU:=Hc (y:=(y.t,y.r - 1)) B8;simp only[if_pos (show 0<y.r - 1 by omega),if_pos iQ] at xU;have p6:cw (s.N.set n (y.t,y.r - 1))=cw s.N:=Rp B8 iQ (by show 0<y.r - 1;omega);have o6:rH ⟨sd,H,N.set n ⟨y.t,y.r - 1,y.nx⟩,(q1,c1),(some p,c2),af,cf⟩ ({ s with N:=s.N.set n (y.t,y.r - 1)}:dQ):=⟨aU.Ym hy iQ ⟨by omega,by omega⟩,by rw[Cw,hN],eH,rY,by show du (s.N.set n (y.t,y.r - 1))≤s.aD;omega⟩
  rw[←p6,show du s.N=du (s.N.set n (y.t,y.r - 1)) by omega,←wm] at hH;exact⟨rfl,(wH o6 hH).to⟩
 dsimp only at h1;rw[if_neg ah];have NB:=aU.tag y (bD hy) iQ;have Al:y.t.length<2^40:=by have:=dM NB;omega
 obtain⟨p1,rfl⟩:=hH.pos (el:=3) (sz:=1);have fD:bK sd y.t % H.length<H.length:=e7 _ ah;obtain⟨L,hL,vV,DV⟩:=aU.chain _ fD;have ny:n∈L:=(DV n).2 ⟨y,hy,iQ,rfl⟩;refine gh ?_;refine GX.next rfl (GO.cT (hv:=mS fA wF (j:=0) rfl) (h:=gh ?_));refine GX.aM (hc:=fun _ hs=>Je rW eH y.t Al hs) (h:=fun w hE hH=>gh ?_);have hN1:∀h l,fI N h l→fI (N.set n ⟨y.t,y.r - 1,y.nx⟩) h l:=fun h l hc=>hc.XB _ hy rfl
 have EV:y.r - 1=0:=by omega
 rw[EV] at hH hN1;rw[EV] at wF wm;refine GC.QW (X:=List Nat×Option Nat×List Nat) (fun x=>[(0,ak b),(1,iV n),(6, .pointer (some ⟨p,0+n*3,none⟩)),(8, .pointer (some (CG p1 p (bK sd y.t % H.length) x.2.1)))]) (fun x w'=>L=x.1++x.2.1.toList++n::x.2.2∧(x.2.1=none→x.1=[])∧SH o w' [aB b [iV s.aD,uV sd, .slice (aA (some p1)) H.length c1, .slice (aA (some p)) N.length c2, .slice af (cw s.N).length cf,iV (du s.N)],aq 3 1 (some p1) H.length c1 (dL H),aq 360 3 (some p) N.length c2 (aL eP (N.set n ⟨y.t,0,y.nx⟩)),fZ 3 1 af (cw s.N).length cf (aG (cw s.N))]) ?_ ?_
 ·refine GC.bR [0,1,6] (fun x:List Nat×Option Nat×List Nat=>[(8, .pointer (some (CG p1 p (bK sd y.t % H.length) x.2.1)))]) (fun x w'=>L=x.1++x.2.1.toList++x.2.2∧(x.2.1=none→x.1=[])∧n∈x.2.2∧SH o w' [aB b [iV s.aD,uV sd, .slice (aA (some p1)) H.length c1, .slice (aA (some p)) N.length c2, .slice af (cw s.N).length cf,iV (du s.N)],aq 3 1 (some p1) H.length c1 (dL H),aq 360 3 (some p) N.length c2 (aL eP (N.set n ⟨y.t,0,y.nx⟩)),fZ 3 1 af (cw s.N).length cf (aG (cw s.N))]) (fun x=>x.2.2.length) ([],none,L) rfl rfl ⟨rfl,fun _=>rfl,ny,hH.to⟩ ?_;rintro⟨P,mo,R⟩ w ⟨kP,D2,EH,hH⟩;dsimp only at kP D2 EH hH ⊢;cases R with
  |nil=>cases EH
  |cons k R=>
  have MJ:k∈L:=by rw[kP];simp
  obtain⟨yk,Fg,_⟩:=(DV k).1 MJ;have hkN:=(aV.1 Fg).1;cases mo with
  |none=>
   obtain rfl:=D2 rfl;simp only[Option.toList_none,kC] at kP;have hk:H.getD (bK sd y.t % H.length) (-1)=(k:Int):=by rw[kP] at hL;exact hL.1
   dsimp only[CG];have hv:=Jf fD;rw[hk] at hv;refine gh ?_;refine GX.next rfl (GO.cT (hv:=hv) (h:=gh ?_));refine ifs (fun h2=>?_) (fun h2=>?_)<;>refine gh ?_
   ·refine GC.br (pl:=(bg [0,3,6,12,15,10,19,21,24,27])) (T:=fun _=>False) (hm:=mixed) (h:=fun w hE hH=>gh ?_);refine gh ?_;refine GX.read rfl (GO.lC (hv:=hv) (h:=gh ?_));refine GQ.bj ([],some k,R) rfl ⟨kP,fun h=>(by cases h),(by rcases bU.1 EH with h|h;exact absurd (by rw[h]) h2;exact h),hH.to⟩ (by simp)
   ·obtain rfl:k=n:=by omega
    exact GQ.dm ([],none,R) (cR (l:=[0,1,6,8]) rfl) ⟨kP,fun _=>rfl,hH.to⟩
  |some m=>
   simp only[Option.toList_some] at kP;have zG:=hL;rw[kP,cS] at zG;obtain⟨ym,Cb,p5⟩:=zG.split;have hk:ym.nx=(k:Int):=p5.1;have nu:m≠n:=fun e=>by
    rw[kP,ga] at vV;exact vV.2.2 m (by simp) n EH e
   have uI:=(aV.1 Cb).1;have Jc:(N.set n ⟨y.t,0,y.nx⟩)[m]?=some ym:=by rw[dv (Ne.symm nu)];exact Cb
   have hv:=mS fA Jc (j:=2) (v:=iV ym.nx) rfl;rw[hk] at hv;dsimp only[CG];refine gh ?_;refine GX.next rfl (GO.cT (hv:=hv) (h:=gh ?_));refine ifs (fun h2=>?_) (fun h2=>?_)<;>refine gh ?_
   ·refine GC.br (pl:=(bg [0,3,6,12,15,10,19,21,24,27])) (T:=fun _=>False) (hm:=mixed) (h:=fun w hE hH=>gh ?_);refine gh ?_;refine GX.read rfl (GO.lC (hv:=hv) (h:=gh ?_));refine GQ.bj (P++[m],some k,R) rfl ⟨by rw[kP];simp,fun h=>(by cases h),(by rcases bU.1 EH with h|h;exact absurd (by rw[h]) h2;exact h),hH.to⟩ (by simp)
   ·obtain rfl:k=n:=by omega
    exact GQ.dm (P,some m,R) (cR (l:=[0,1,6,8]) rfl) ⟨kP,fun h=>(by cases h),hH.to⟩
 ·rintro⟨P,mo,R⟩ w ⟨kP,D2,hH⟩;dsimp only at kP D2 hH ⊢;have ep:∀M:List Nm,dU M=dU N→dU (M.set n l7)=s.N.set n ([],0):=fun M h=>by rw[Cw,h,hN];rfl
  refine GQ.Br (GC.seq (GC.cut (X:=List Int×List Nm) (fun _=>[(0,ak b),(1,iV n),(6, .pointer (some ⟨p,0+n*3,none⟩))]) (fun x w'=>gX sd x.1 (x.2.set n l7)∧dU (x.2.set n l7)=s.N.set n ([],0)∧x.1.length=H.length∧x.2.length=N.length∧SH o w' [aB b [iV s.aD,uV sd, .slice (aA (some p1)) H.length c1, .slice (aA (some p)) N.length c2, .slice af (cw s.N).length cf,iV (du s.N)],aq 3 1 (some p1) H.length c1 (dL x.1),aq 360 3 (some p) N.length c2 (aL eP x.2),fZ 3 1 af (cw s.N).length cf (aG (cw s.N))]) ?_ ?_))
  ·cases mo with
   |none=>
    obtain rfl:=D2 rfl;simp only[Option.toList_none,kC] at kP;dsimp only[CG];refine gh ?_;refine GX.next rfl (GO.cT (hv:=mS fA wF (j:=2) rfl) (h:=gh ?_));refine GX.Kh (j:=bK sd y.t % H.length) (hj:=by simp only[Ft];exact fD) (h:=fun w hH=>gh ?_);rw[show(dL H).set (bK sd y.t % H.length) (iV y.nx)=dL (H.set (bK sd y.t % H.length) y.nx) by simp[dL,pG]] at hH;refine GQ.dm (H.set (bK sd y.t % H.length) y.nx,N.set n ⟨y.t,0,y.nx⟩) (cR (l:=[0,1,6]) rfl) ⟨?_,?_,by simp,wm,hH.to⟩
    ·rw[List.set_set];exact aU.aaS hy iQ rfl (s:=R) (by rw[←kP];exact hL) (by rw[←kP];exact vV)
    ·rw[List.set_set];exact ep N rfl
   |some m=>
    simp only[Option.toList_some] at kP;have zG:=hL;rw[kP,cS] at zG;obtain⟨ym,Cb,p5⟩:=zG.split;have nu:m≠n:=fun e=>by
     rw[kP,ga] at vV;exact vV.2.2 m (by simp) n (by simp) e
    have uI:=(aV.1 Cb).1;have Jc:(N.set n ⟨y.t,0,y.nx⟩)[m]?=some ym:=by rw[dv (Ne.symm nu)];exact Cb
    dsimp only[CG];refine gh ?_;refine GX.next rfl (GO.cT (hv:=mS fA wF (j:=2) rfl) (h:=gh ?_));refine GX.vm (hb:=?_) (hc:=show(aL eP (N.set n ⟨y.t,0,y.nx⟩)).take (0+m*3+2)++[iV y.nx]++(aL eP (N.set n ⟨y.t,0,y.nx⟩)).drop (0+m*3+2+1)=aL eP ((N.set n ⟨y.t,0,y.nx⟩).set m ⟨ym.t,ym.r,y.nx⟩) from ?_) (h:=fun w hH=>gh ?_)
    ·rw[gT fA];show 0+m*3+2+1≤_;omega
    ·rw[dz];exact(O9 (by rw[gT fA];omega) _).trans (CM fA Jc (by decide) rfl)
    refine GQ.dm (H,(N.set n ⟨y.t,0,y.nx⟩).set m ⟨ym.t,ym.r,y.nx⟩) (cR (l:=[0,1,6]) rfl) ⟨?_,?_,rfl,by simp,hH.to⟩
    ·rw[List.set_comm _ _ (Ne.symm nu),List.set_set];exact aU.aaT hy Cb iQ rfl (by rw[←kP];exact hL) (by rw[←kP];exact vV)
    ·rw[Cw,Wh Jc,Cw,List.set_set,hN];rfl
  ·rintro⟨H',M⟩ w ⟨rZ,qX,wk,EA,hH⟩;dsimp only at rZ qX wk EA hH ⊢;refine gh ?_;refine GX.vm (hb:=?_) (hc:=show(aL eP M).take (0+n*3)++eP l7++(aL eP M).drop (0+n*3+(eP l7).length)=aL eP (M.set n l7) from ?_) (h:=fun w hH=>gh ?_)
   ·rw[gT fA];have:=fA l7;omega
   ·rw[dz];exact AM fA ah l7
   have xU:=Hc (y:=([],0)) B8;simp only[if_pos iQ,Nat.lt_irrefl,if_false] at xU;have ly:(cw s.N).length≤65536:=by
    unfold cw;refine dF (pF _ _) ?_;rw[List.length_range];omega
   refine GX.dC (h:=fun w hH=>gh ?_);refine GX.ef (hc:=fun _ hs=>ZC (cw s.N) n rfl ah (zw _) hs) (h:=?_);rintro⟨i,f⟩ w ⟨BH,wi,SN⟩ hE hH;dsimp only at BH wi SN ⊢;replace hH:=SH.ap hH;refine gh ?_;have g3:af=none→(cw s.N).length=0:=fun e=>hH.OC (el:=3) (sz:=1) (c:=cf) (live:=aG (cw s.N)) (ha:=e)
   refine GX.ef (hc:=fun _ hs=>vJ (cs:=aG (cw s.N)) ah (by simp) g3 (u4 _) hs) (h:=?_);rintro⟨q3,c3⟩ w _ hE hH;replace hH:=SH.ap hH;refine gh ?_;refine GX.oF (h:=fun z w hH=>gh ?_);refine GX.bZ (hc:=fun _ hs=>aeM i BH ah rfl (u4 _) hs) (h:=?_);rintro⟨q4,c4⟩ w _ hH;replace hH:=SH.ap hH;refine gh ?_;refine GX.dC (h:=fun w hH=>gh ?_);have qZ:∀m∈(cw s.N).drop i,n<m:=fun m hm=>by
    have h2:=SN m hm;have h3:m≠n:=fun e=>by
     obtain⟨x,hx,h0⟩:=oz.1 (xv hm);rw[e,B8] at hx;cases hx;exact absurd h0 (by show y.r≠0;omega)
    omega
   have p6:=abT B8 iQ wi qZ ([],0) rfl;have hfn:(cw (s.N.set n ([],0))).length=(cw s.N).length+1:=by rw[p6];simp;omega
   have hci:List.take i (aG (cw s.N))++iV n::List.drop i (aG (cw s.N))=aG (cw (s.N.set n ([],0))):=by rw[p6];simp[aG,List.map_take,List.map_drop]
   rw[hci,←hfn] at hH;have aQ:=hH.wT (el:=3) (sz:=1) (q:=q4) (cs:=aG (cw (s.N.set n ([],0))));have o6:rH ⟨sd,H',M.set n l7,(some p1,c1),(some p,c2),aA q4,c4⟩ ({ s with N:=s.N.set n ([],0)}:dQ):=⟨rZ,qX.symm,eH,rY,by show du (s.N.set n ([],0))≤s.aD;omega⟩
   rw[show Value.int IntKind.i64 ((du s.N:Int) - 1)=iV (du (s.N.set n ([],0))) by show iV _=iV _;congr 1;omega,←wk,show N.length=(M.set n l7).length by rw[fQ,EA]] at aQ;exact⟨rfl,(wH o6 aQ).to⟩
end
section
attribute [local irreducible] GO GX aB fz aF aS aq star
variable {o:Og}{w:World}
structure sU where
 t:List Bs
 n:List Nat
 ta:Option Addr
 tc:Nat
 na:Option Addr
 nc:Nat
def jI (e:sU):Value := .agg #[.slice e.ta e.t.length e.tc, .slice e.na e.n.length e.nc]
def jU (x:Nat×sU):List It:=[aF x.2.ta (aK x.2.t),aF x.2.na (aG x.2.n)]
def tT (l:List Nat):List Value:=l.map fun n:Nat=>uV n
structure vH where
 q:Option Nat
 c:Nat
 l:List Nat
def jH (e:vH):Value := .slice (aA e.q) e.l.length e.c
def jG (x:Int×vH):List It:=[aq 38 1 x.2.q x.2.l.length x.2.c (tT x.2.l)]
structure gY where
 aD:Nat
 N:eF
 last:Nat
 live:Nat→Option (List Bs×List Nat)
 K:Nat
structure Bc where
 i:Nat
 lm:Nat
 sm:Nat
 M:List (Nat×sU)
 S:List (Int×vH)
 many:Nat
 dW:Nat
structure YK (K:Nat)(e:sU):Prop where
 len:e.t.length=e.n.length
 aD:e.n.length≤64
 nz:e.na=none→e.n.length=0
structure xH (X:Bc)(R:gY):Prop where
 live:∀id,R.live id=(ay X.M id).map fun e=>(e.t,e.n)
 nd:(X.M.map (·.1)).Nodup
 eb:∀x∈X.M,YK R.K x.2
 Cq:(X.S.map (·.1)).Nodup
 many:X.many≤64*R.K
 dW:X.dW≤64*R.K
 Kb:∀x∈X.S,x.2.l.length≤64*R.K
 refs:∀y∈R.N,y.2≤64*R.K
abbrev Bc.dS (X:Bc)(b:Nat)(R:gY):List It:=
 [aB b [ak X.i,uV R.last, .map (some X.lm), .map (some X.sm),iV X.many,iV X.dW],jS X.i ⟨R.aD,R.N⟩,aS X.lm (fun n:Nat=>uV n) jI X.M,aS X.sm iV jH X.S,bJ (bS jU X.M),bJ (bS jG X.S)]
def oE (b:Nat)(R:gY):It:=star fun X:{ X:Bc // xH X R}=>X.1.dS b R
theorem AK {l t:List It}{b:Nat}{X:Bc}{R:gY}(hX:xH X R)(hH:SH o w l)(hp:Pk l (X.dS b R) t:=by repeat(first|exact Pk.nil|(apply Pk.cons;repeat(first|exact az.here|apply az.there)))):SH o w (oE b R::t):=
 SH.fold (f:=fun X:{ X:Bc // xH X R}=>X.1.dS b R) ⟨X,hX⟩ hH hp
theorem FQ {b i lm sm r:Nat}{v1 v4 v5:Value}(hs:Start o w [fz (aB b [ak i,v1, .map (some lm), .map (some sm),v4,v5])]):aj prog 148 [ak b].toArray w (Po o (.bool false) []):=by
 have hH:=hs.sh;refine aj.enter func148 rfl ntmps148 rfl (gh ?_);exact⟨rfl,hH.to⟩
def J5 (M:List (Nat×sU))(id:Nat):Value:=match ay M id with
 |some e => .tuple #[jI e,iV 0]
 |none => .tuple #[.agg #[.slice none 0 0, .slice none 0 0],iV 9]
theorem Xq {b i lm sm:Nat}{v1 v4 v5:Value}{M:List (Nat×sU)}(id:Nat)(hs:Start o w [fz (aB b [ak i,v1, .map (some lm), .map (some sm),v4,v5]),fz (aS lm (fun n:Nat=>uV n) jI M)]):aj prog 158 [ak b,uV id].toArray w (Po o (J5 M id) []):=by
 have hH:=hs.sh;refine aj.enter func158 rfl ntmps158 rfl (gh ?_);refine GX.cA (h:=fun z w hH=>gh ?_);refine GX.aM (hc:=fun _ hs=>FQ (r:=0) hs) (h:=fun w hE hH=>gh ?_);unfold J5;cases hm:ay M id with
 |none=>
  refine GX.mN (hV:=show _ = .tuple #[.agg #[.slice none 0 0, .slice none 0 0], .bool false] by unfold jA;rw[hm];rfl) (h:=gh ?_);refine GX.cA (h:=fun c w hH=>gh ?_);refine GX.bt (h:=fun w hH=>gh ?_);refine GX.bt (h:=fun w hH=>gh ?_);exact⟨rfl,hH.to⟩
 |some e=>
  refine GX.mN (hV:=show _ = .tuple #[jI e, .bool true] by unfold jA;rw[hm];rfl) (h:=gh ?_);refine GX.cA (h:=fun c w hH=>gh ?_);refine GX.bt (h:=fun w hH=>gh ?_);refine GX.bt (h:=fun w hH=>gh ?_);exact⟨rfl,hH.to⟩
end
section
section
variable {o:Og}{w:World}{l:List It}
instance {a:Option Addr}{cs:List Value}:Rd (fz (aF a cs)) a cs:=⟨fun _ _ _ ⟨⟨_,_,_,h2,h,hz,_⟩,_⟩=>⟨h,fun hc y hy => .inr (h2 _ (hz hc y hy))⟩⟩
theorem SH.nh (h:SH o w l):SH o w (aF none []::l):=by
 obtain⟨Z,F,hu,h2,h3,h4⟩:=h;exact⟨Z,F,hu,⟨fun _=>False,F,by simp,fun _ h=>h.elim,⟨bN.nil w,fun _ _ h=>(by cases h),rfl⟩,h2⟩,h3,h4⟩
end
attribute [local irreducible] GX GO
attribute [local irreducible] aB aq aS aF fz star
theorem Xo {o:Og}{w:World}{b:Nat}{R:gY}(x:Bs)(hs:Start o w [fz (oE b R)]) :
  aj prog 179 [ak b,str x].toArray w (Po o (.tuple #[iV (gD R.N x).1,iV (gD R.N x).2]) []):=by
 have hH:=hs.sh;obtain⟨⟨X,hX⟩,hH⟩:=SH.dV hH;replace hH:=SH.ed hH;dsimp only at hH;refine aj.enter func179 rfl ntmps179 rfl (gh ?_);refine GX.aM (hc:=fun _ hs=>FQ (r:=0) hs) (h:=fun w hE hH=>gh ?_);refine GX.aM (hc:=fun _ hs=>aew x hs) (h:=fun w hE hH=>gh ?_);exact⟨rfl,hH.to⟩
theorem ajp {o:Og}{w:World}{b:Nat}{R:gY}(hs:Start o w [fz (oE b R)]) :
  aj prog 190 [ak b].toArray w (Po o (.tuple #[iV (du R.N),iV R.aD]) []):=by
 have hH:=hs.sh;obtain⟨⟨X,hX⟩,hH⟩:=SH.dV hH;replace hH:=SH.ed hH;dsimp only at hH;refine aj.enter func190 rfl ntmps190 rfl (gh ?_);refine GX.aM (hc:=fun _ hs=>FQ (r:=0) hs) (h:=fun w hE hH=>gh ?_);refine GX.aM (hc:=fun _ hs=>aex hs) (h:=fun w hE hH=>gh ?_);exact⟨rfl,hH.to⟩
def qn (R:gY)(id:Nat):List Nat:=((R.live id).map (·.2)).getD []
def Xn (R:gY)(id:Nat):Int:=if(R.live id).isSome then 0 else 9
def O3 (l:List Nat)(e:Int)(q:Option Nat×Nat):Value := .tuple #[.slice (aA q.1) l.length q.2,iV e]
theorem Fz {κ ν:Type}[DecidableEq κ]{M:List (κ×ν)}{k:κ}{v:ν}(h:ay M k=some v):(k,v)∈M:=by
 induction M with
 |nil=>simp[ay] at h
 |cons x M ih=>
  obtain⟨a,u⟩:=x;simp only[ay] at h;split at h
  ·rename_i e;cases h;subst e;simp
  ·exact fP _ (ih h)
theorem ajm {o:Og}{w:World}{b:Nat}{R:gY}(id:Nat)(hs:Start o w [fz (oE b R)]) :
  aj prog 94 [ak b,uV id].toArray w (aX o (O3 (qn R id) (Xn R id)) (fun _=>True) (fun q=>[aq 3 1 q.1 (qn R id).length q.2 (aG (qn R id))])):=by
 have hH:=hs.sh;obtain⟨⟨X,hX⟩,hH⟩:=SH.dV hH;replace hH:=SH.ed hH;dsimp only at hH;refine aj.enter func94 rfl ntmps94 rfl (gh ?_);refine GX.aM (hc:=fun _ hs=>Xq id hs) (h:=fun w hE hH=>gh ?_);unfold qn Xn J5;rw[hX.live id];cases hm:ay X.M id with
 |none=>
  dsimp only;replace hH:=hH.nh;refine gh ?_;refine GX.cA (h:=fun c w hH=>gh ?_);refine GX.bt (h:=fun w hH=>gh ?_);refine GX.ef (hc:=fun _ hs=>vJ (a:=none) (n:=0) (cs:=[]) ah rfl (fun _=>rfl) (fun _ h=>by cases h) hs) (h:=?_);rintro⟨q,d⟩ w _ hE hH;replace hH:=SH.ap hH;refine gh ?_;exact⟨(q,d),rfl,trivial,hH.to⟩
 |some e=>
  dsimp only;obtain⟨h1,h2,h3⟩:=hX.eb _ (Fz hm);dsimp only at h1 h2 h3;replace hH:=SH.ed (SH.GP (m:=bS jU X.M) (jU (id,e)) _ hH (pq hm));dsimp only at hH;refine gh ?_;refine GX.cA (h:=fun c w hH=>gh ?_);refine GX.bt (h:=fun w hH=>gh ?_);refine GX.ef (hc:=fun _ hs=>vJ (cs:=aG e.n) ah (by simp) h3 (u4 _) hs) (h:=?_);rintro⟨q,d⟩ w _ hE hH;replace hH:=SH.ap hH;refine gh ?_;exact⟨(q,d),rfl,trivial,hH.to⟩
end
section
attribute [local irreducible] GO GX aB fz aF aS aq star
theorem ajr {o:Og}{w:World}(m sd:Nat)(hm:1≤m∧m≤65536)(eH:sd<18446744073709551616)(hs:Start o w []) :
  aj prog 61 [iV m,uV sd].toArray w (aX o (fun b:Nat => .tuple #[ak b,iV 0]) (fun _=>True) (fun b=>[oE b ⟨m,[],0,fun _=>none,0⟩])):=by
 have hH:=hs.sh;refine aj.enter func61 rfl ntmps61 rfl (gh ?_);refine GX.bZ (hc:=fun _ hs=>aeH m sd hm eH hs) (h:=?_);rintro i w _ hH;replace hH:=SH.ap hH;refine gh ?_;refine GX.yD (fun n:Nat=>uV n) jI (h:=fun lm w hH=>gh ?_);refine GX.yD (iV:Int→Value) jH (h:=fun sm w hH=>gh ?_);refine GX.cI (h:=fun b w hH=>gh ?_);have hX:xH ⟨i,lm,sm,[],[],0,0⟩ ⟨m,[],0,fun _=>none,0⟩:=⟨fun _=>rfl,lP,(fun _ h=>by cases h),lP,bh _,bh _,(fun _ h=>by cases h),(fun _ h=>by cases h)⟩
 have aQ:SH o w (bJ (bS jU [])::bJ (bS jG [])::_):=hH.pR.pR;exact⟨b,rfl,trivial,(AK hX aQ).to⟩
def px (y:List Nat×dQ)(n:Nat):List Nat×dQ:=(if(ov y.2 n).1=true then y.1++[n] else y.1,(ov y.2 n).2.2)
def gj (s:dQ)(l:List Nat):List Nat×dQ:=l.foldl px ([],s)
theorem Xp {s:dQ}{l:List Nat}{i n:Nat}(h:l[i]?=some n):gj s (l.take (i+1))=px (gj s (l.take i)) n:=by
 obtain⟨h1,h2⟩:=aV.1 h;unfold gj;rw[lh h1,vC,h2];rfl
theorem aez (s:dQ)(z:Int):(ov s z).2.2.aD=s.aD:=by
 unfold ov;split
 ·rfl
 ·split<;>rfl
theorem aeA {K:Nat}{s:dQ}(h:∀y∈s.N,y.2≤K)(z:Int):∀y∈(ov s z).2.2.N,y.2≤K:=by
 unfold ov;split
 ·exact h
 ·rename_i n hn
  split
  ·intro y hy
   rcases mn hy with hy|rfl
   ·exact h y hy
   ·have hl:n<s.N.length:=by
     unfold sY at hn;split at hn
     ·rename_i hh;cases hn;omega
     ·cases hn
    have:=h (s.N.getD n ([],0)) (by rw[dP,bO hl];exact pI hl);show(s.N.getD n ([],0)).2 - 1≤K;omega
  ·intro y hy
   rcases mn hy with hy|rfl
   ·exact h y hy
   ·exact bh _
theorem O4 {K:Nat}{s:dQ}(h:∀y∈s.N,y.2≤K)(l:List Nat):(gj s l).2.aD=s.aD∧(∀y∈(gj s l).2.N,y.2≤K)∧(gj s l).1.length≤l.length:=by
 have key:∀(l:List Nat) (y:List Nat×dQ),y.2.aD=s.aD→(∀x∈y.2.N,x.2≤K)→(l.foldl px y).2.aD=s.aD∧(∀x∈(l.foldl px y).2.N,x.2≤K)∧(l.foldl px y).1.length≤y.1.length+l.length:=by
  intro l
  induction l with
  |nil=>intro y h1 h2;exact⟨h1,h2,aY _⟩
  |cons n l ih=>
   intro y h1 h2;obtain⟨k1,k2,k3⟩:=ih (px y n) ((aez _ _).trans h1) (aeA h2 _);refine⟨k1,k2,dF k3 ?_⟩;unfold px;split<;>simp<;>omega
 obtain⟨k1,k2,k3⟩:=key l ([],s) rfl h;exact⟨k1,k2,by rw[←dz l.length];exact k3⟩
def iW (R:gY)(id:Nat):List Nat×Int×gY:=match R.live id with
 |none=>([],9,R)
 |some e=>((gj ⟨R.aD,R.N⟩ e.2).1,0,⟨R.aD,(gj ⟨R.aD,R.N⟩ e.2).2.N,R.last,fun j=>if j=id then none else R.live j,R.K+1⟩)
theorem ajl {o:Og}{w:World}{b:Nat}{R:gY}(id:Nat)(hK:R.K<2^40)(hs:Start o w [oE b R]) :
  aj prog 135 [ak b,uV id].toArray w (aX o (O3 (iW R id).1 (iW R id).2.1) (fun _=>True) (fun q=>[oE b (iW R id).2.2,aq 3 1 q.1 (iW R id).1.length q.2 (aG (iW R id).1)])):=by
 have hH:=hs.sh;obtain⟨⟨X,hX⟩,hH⟩:=SH.un hH;replace hH:=SH.ap hH;dsimp only at hH;refine aj.enter func135 rfl ntmps135 rfl (gh ?_);refine GX.aM (hc:=fun _ hs=>Xq id hs) (h:=fun w hE hH=>gh ?_);unfold iW J5;rw[hX.live id];cases hm:ay X.M id with
 |none=>
  dsimp only;refine gh ?_;refine GX.cA (h:=fun c w hH=>gh ?_);refine GX.bt (h:=fun w hH=>gh ?_);have aQ:=SH.cF (el:=3) (sz:=1) (q:=none) (n:=0) (c:=0) (cs:=[]) hH (Mod.refl w) (fun _ h=>by cases h) (aH.nil _ _ _);exact⟨(none,0),rfl,trivial,(AK hX aQ).to⟩
 |some e=>
  dsimp only;obtain⟨h1,h2,h3⟩:=hX.eb _ (Fz hm);dsimp only at h1 h2 h3;obtain⟨k1,k2,k3⟩:=O4 (s:=⟨R.aD,R.N⟩) hX.refs e.n;have HW:=hX.dW;replace hH:=SH.ap (SH.rK (m:=bS jU X.M) (jU (id,e)) _ hH (pq hm));obtain⟨ts,nn,ta,tc,na,nc⟩:=e;dsimp only at hH h1 h2 h3 k1 k2 k3 ⊢;unfold jI;refine gh ?_;refine GX.cA (h:=fun c w hH=>gh ?_);refine GX.bt (h:=fun w hH=>gh ?_);replace hH:=SH.cF (el:=3) (sz:=1) (q:=none) (n:=0) (c:=0) (cs:=[]) hH (Mod.refl w) (fun _ h=>by cases h) (aH.nil _ _ _);refine GC.bR [0,1,23,24] (fun y:Nat×Nat×Option Nat×Nat=>[(25,iV y.1),(8, .slice (aA y.2.2.1) y.2.1 y.2.2.2)]) (fun y w'=>y.1≤nn.length∧(gj ⟨R.aD,R.N⟩ (nn.take y.1)).1.length=y.2.1∧SH o w' [aq 3 1 y.2.2.1 y.2.1 y.2.2.2 (aG (gj ⟨R.aD,R.N⟩ (nn.take y.1)).1),aF na (aG nn),aB b [ak X.i,uV R.last, .map (some X.lm), .map (some X.sm),iV X.many,iV (X.dW+y.1:Nat)],jS X.i (gj ⟨R.aD,R.N⟩ (nn.take y.1)).2,aS X.lm (fun n:Nat=>uV n) jI X.M,aS X.sm iV jH X.S,bJ (bS jU (bB X.M id)),bJ (bS jG X.S)]) (fun y=>nn.length - y.1) (0,0,none,0) rfl rfl ⟨bh _,by rw[List.take_zero];rfl,by dsimp only;rw[List.take_zero];exact hH.to⟩ ?_;rintro⟨j,k,q,d⟩ w ⟨hj,hk,hH⟩;dsimp only at hj hk hH ⊢;refine gh ?_;refine ifs (fun h4=>?_) (fun h4=>?_)<;>refine gh ?_
  ·have hx:nn[j]?=some nn[j]:=by simp[show j<nn.length by omega]
   generalize nn[j]=n at hx;have dp:=Xp (s:=⟨R.aD,R.N⟩) hx;have hA:=hH.bL (x:=aF na (aG nn)) (a:=na) (cs:=aG nn) bP;obtain⟨bk,ok,rfl,gN⟩:=uZ hA hx;have k4:=(O4 (s:=⟨R.aD,R.N⟩) hX.refs (nn.take j)).2.2;rw[dI] at k4;generalize gj ⟨R.aD,R.N⟩ (nn.take j)=Y at dp hH hk k4;obtain⟨F,s⟩:=Y;dsimp only at hH hk k4 ⊢;subst hk;refine gh ?_;refine GX.next rfl (GO.l6 rfl rfl rfl (gN _ ah) (gh ?_));refine GX.bF (hc:=fun _ hs=>Ub (n:Int) hs) (h:=fun w hH=>gh ?_);unfold px at dp;cases hr:(ov s n).1 with
   |true=>
    rw[if_pos hr] at dp;refine gh ?_;refine GX.nR (h1:=by simp[Value.oneCell']) (h:=fun q c w _ hH=>gh ?_);refine GX.dC (h:=fun w hH=>gh ?_);refine GQ.bj (j+1,F.length+1,q,c) rfl ⟨by simp only;omega,by dsimp only;rw[dp];simp,?_⟩ (by simp only;omega);dsimp only;rw[dp,show aG (F++[n])=aG F++[iV n] by simp[aG]];exact hH.to
   |false=>
    rw[if_neg (by rw[hr];decide)] at dp;refine gh ?_;refine GX.dC (h:=fun w hH=>gh ?_);refine GQ.bj (j+1,F.length,q,d) rfl ⟨by simp only;omega,by dsimp only;rw[dp],?_⟩ (by simp only;omega);dsimp only;rw[dp];exact hH.to
  ·obtain rfl:j=nn.length:=by omega
   rw[kD] at hH hk;subst hk;refine gh ?_;refine GX.Jt (h:=fun w hH=>gh ?_);simp only[jV];generalize gj ⟨R.aD,R.N⟩ nn=Y at hH k1 k2 ⊢;obtain⟨F,mo,N'⟩:=Y;dsimp only at hH k1 k2;subst k1;have o6:xH ⟨X.i,X.lm,X.sm,bB X.M id,X.S,X.many,X.dW+nn.length⟩ ⟨R.aD,N',R.last,fun j=>if j=id then none else R.live j,R.K+1⟩:=⟨fun j=>by
    dsimp only;rw[iS hX.nd];split
    ·rfl
    ·exact hX.live j,hX.nd.sublist ((xm X.M id).map _),fun x hx=>⟨(hX.eb x ((xm X.M id).subset hx)).len,(hX.eb x ((xm X.M id).subset hx)).aD,(hX.eb x ((xm X.M id).subset hx)).nz⟩,hX.Cq,by have:=hX.many;show X.many≤64*(R.K+1);omega,by show X.dW+nn.length≤64*(R.K+1);omega,fun x hx=>by have:=hX.Kb x hx;show _≤64*(R.K+1);omega,fun y hy=>by have:=k2 y hy;show y.2≤64*(R.K+1);omega⟩
   exact⟨(q,d),rfl,trivial,(AK o6 hH).to⟩
end
end Go.Proofs.YtoloaehmppcjoaaGreat.V.M
