/-
  Parts of the proof. No condition.
-/
import Derived.Test.YtoloaehmppcjoaaGreatW2ca
set_option linter.unusedVariables false
set_option linter.unusedSimpArgs false
set_option maxRecDepth 8000
set_option maxHeartbeats 8000000
open Go.Proofs.Tryz
namespace Go.Proofs.YtoloaehmppcjoaaGreat.V.M
attribute [local irreducible] GO GX aB eX fz aF aS aq star
theorem Qy:A4 Dr:=⟨by decide,by decide,by decide,by decide,by decide,by decide⟩
theorem J8 {k:Bs}(hk:k.length≤20)(i b:Nat):ug (eh k (nF i)) ⟨(none,0),(none,0),(aA (some b),1)⟩:=by
 refine⟨?_,?_,?_,?_,?_,fun _=>rfl⟩<;>(unfold eh;simp;try omega)
theorem adQ {o:Og}{w:World}(ka la oa:Option Addr)(kc lc oc:Nat)(K:List Bs)(L:List (Int×Bs))(O:List UInt8)(hs:Start o w [aF ka (aK K),aF la (aL kr L),aF oa (Lib.byteCells O)]) :
  aj prog 3 [.slice ka K.length kc, .slice la L.length lc, .slice oa O.length oc].toArray w (Po o (.bool true) []):=by
 have hH:=hs.sh;refine aj.enter func3 rfl ntmps3 rfl (gh ?_);cases h1:decide ((10:Int)<(K.length:Int))
 case true=>refine gh ?_;refine GX.aM (hc:=fun _ hs=>Cj hs) (h:=fun w hE hH=>gh ?_);exact⟨rfl,hH.to⟩
 refine gh ?_;cases h2:decide ((20:Int)<(L.length:Int))
 case true=>refine gh ?_;refine GX.aM (hc:=fun _ hs=>Cj hs) (h:=fun w hE hH=>gh ?_);exact⟨rfl,hH.to⟩
 refine gh ?_;cases h3:decide ((60:Int)<(O.length:Int))
 case true=>refine gh ?_;refine GX.aM (hc:=fun _ hs=>Cj hs) (h:=fun w hE hH=>gh ?_);exact⟨rfl,hH.to⟩
 refine gh ?_;have hK:=xy h1;have hL:=xy h2;have hO:=xy h3;clear h1 h2 h3;refine GX.cI (h:=fun h w hH=>gh ?_);have aQ:=SH.cF (el:=31) (sz:=2) (q:=none) (n:=0) (c:=0) (cs:=[]) hH (Mod.refl w) (fun _ h=>by cases h) (aH.nil _ _ _);replace hH:=yl (h:=h) (L:=[]) (none,0) aQ;clear aQ;refine gh ?_;refine GC.bR [0,1,2,7] (fun i:Nat=>[(8,iV i)]) (fun i w'=>i≤L.length∧SH o w' [mK h (jg (L.take i)),aF ka (aK K),aF la (aL kr L),aF oa (Lib.byteCells O)]) (fun i=>L.length - i) 0 rfl rfl ⟨bh _,hH.to⟩ ?_;rintro i w ⟨hi,hH⟩;refine gh ?_;refine ifs (fun hb=>?_) (fun hb=>?_)<;>refine gh ?_
 ·obtain⟨p,hp⟩:∃p,L[i]?=some p:=⟨_,bO ah⟩
  have ib:=hH.bL (x:=aF la (aL kr L)) (a:=la) (cs:=aL kr L) bP;obtain⟨qb,qo,rfl⟩:=Bq ib (by rw[gT AH];omega);refine gh ?_;refine GX.next rfl (GO.Cn (hA:=ib) (j:=i*2+1) (hv:=mS AH hp (j:=1) rfl) (h:=gh ?_))
  by_cases Ry:(300:Int)<(p.2.length:Int)
  ·rw[show decide ((300:Int)<(p.2.length:Int))=true from b8 Ry];refine gh ?_;refine GX.aM (hc:=fun _ hs=>Cj hs) (h:=fun w hE hH=>gh ?_);exact⟨rfl,hH.to⟩
  rw[show decide ((300:Int)<(p.2.length:Int))=false from bQ Ry];refine gh ?_;refine GX.next rfl (GO.agm (j:=i*2) (hA:=ib) (hv:=ku AH hp) (h:=gh ?_));have hlen:=TN (L.take i);rw[dI] at hlen;have hl9:(jg (L.take i)).length<9000:=by omega
  refine GX.bF (hc:=fun _ hs=>Tw (h:=h) hl9 p.1 p.2 hs) (h:=fun w hH=>gh ?_);rw[←aec hp] at hH;refine GQ.bj (i+1) rfl ⟨by omega,hH.to⟩ ah
 obtain rfl:i=L.length:=by omega
 rw[fw (aY _)] at hH;refine gh ?_;refine GX.bZ (hc:=fun _ hs=>WV Dr Qy (by decide) hs) (h:=?_);rintro r w _ hH;replace hH:=SH.ap hH;refine gh ?_;have HV:nP (qx K 0) 0 [] (2*0):=⟨de.new Dr Qy,⟨List.Pairwise.nil,fun _ h=>by cases h⟩,aY _,fun _ h=>by cases h⟩
 refine GC.bR [0,2,7,9] (fun i:Nat=>[(11,iV i)]) (fun i w'=>i≤K.length∧(∀x∈K.take i,x.length≤20)∧nP (qx K i) 0 [] (2*i)∧SH o w' [oC r (qx K i) 0 [],mK h (jg L),aF ka (aK K),aF oa (Lib.byteCells O)]) (fun i=>K.length - i) 0 rfl rfl ⟨bh _,fun _ h=>(by cases h),HV,hH.to⟩ ?_;rintro i w ⟨hi,DL,hW,hH⟩;refine gh ?_;refine ifs (fun hb=>?_) (fun hb=>?_)<;>refine gh ?_
 ·obtain⟨k,hk⟩:∃k,K[i]?=some k:=⟨_,bO ah⟩
  have ib:=hH.bL (x:=aF ka (aK K)) (a:=ka) (cs:=aK K) bP;obtain⟨qb,qo,rfl⟩:=Bq ib (by rw[aK,fH];omega);have hv:(aK K)[i]?=some (str k):=by simp[aK,hk]
  refine gh ?_;refine GX.next rfl (GO.Cn (hA:=ib) (hv:=hv) (h:=gh ?_))
  by_cases Ex:(20:Int)<(k.length:Int)
  ·rw[show decide ((20:Int)<(k.length:Int))=true from b8 Ex];refine gh ?_;refine GX.aM (hc:=fun _ hs=>Cj hs) (h:=fun w hE hH=>gh ?_);exact⟨rfl,hH.to⟩
  rw[show decide ((20:Int)<(k.length:Int))=false from bQ Ex];refine gh ?_;have wi:i % 2<2:=e7 _ (by decide);have Ey:k.length≤20:=by omega
  have I5:([str [116],str [117]]:List Value)[i % 2]?=some (str (nF i)):=by unfold nF;rcases Nat.mod_two_eq_zero_or_one i with h|h<;>simp[h]
  have hgd:K.getD i []=k:=by rw[dP,hk];rfl
  have dp:qx K (i+1)=((qx K i).cU 0 (eh k (nF i))).1:=by
   show((qx K i).cU 0 (eh (K.getD i []) (nF i))).1=_;rw[hgd]
  have HC:∀x∈K.take (i+1),x.length≤20:=fun x hx=>by
   rw[gv,hk] at hx
   rcases cx.1 hx with hx|hx
   ·exact DL x hx
   ·simp at hx;rw[hx];exact Ey
  refine GC.br (pl:=(.pure 0 (.pure 1 (.pure 2 (.pure 3 (.pure 6 (.pure 7 (.alt (.aw 4 (.aw 5 (.pure 8 (.aw 9 (.aw 10 (.pure 11 (.aw 12 .done))))))) (.aw 5 (.pure 8 (.alt (.aw 4 (.aw 9 (.aw 10 (.pure 11 (.aw 12 .done))))) (.aw 9 (.alt (.aw 4 (.aw 10 (.pure 11 (.aw 12 .done)))) (.aw 10 (.aw 4 (.pure 11 (.aw 12 .done))))))))))))))))) (T:=dt []) (hm:=mixed) (h:=fun w hE hH=>gh ?_);refine gh ?_;refine GX.pure rfl (GO.rem rfl rfl rfl rfl rfl ah (c:=((i % 2:Nat):Int)) (Int.ofNat_tmod i 2).symm (gh ?_));refine GX.alt (gh ?_) (gh ?_)
  ·have zM:=hH.bL (x:=aF (some ⟨qb,qo,none⟩) (aK K)) (a:=some ⟨qb,qo,none⟩) (cs:=aK K) bP;have nV:=At.one zM hv;rw[show qo+i=qo+((i:Nat):Int).toNat*1 by omega] at nV;refine GX.aw rfl (GO.l6 rfl rfl rfl nV (gh ?_));refine GX.aw rfl (GO.buildSlice (out:=[str [116],str [117]]) ai ⟨by decide,by unfold maxLen;decide⟩ rfl rfl rfl rfl rfl fun b4 w4 Mj vY i'=>⟨fun _ hS=>hS.trans (i'.weaken fun _ _ h=>h.elim),?_⟩);have gN:=At.one vY.bL I5;rw[show 0+i % 2=0+((i % 2:Nat):Int).toNat*1 by omega] at gN;have RZ:Ext _ w4:=hE.trans i';replace hH:=hH.cF i' (fun k hk=>by cases hk;omega) vY;refine gh ?_;refine GX.aw rfl (GO.l6 rfl rfl rfl gN (gh ?_));refine GX.mg (h:=fun b5 w5 L8 hH=>gh ?_);replace hH:=hH.freeze az.here;replace hH:=hH.nh.nh;refine GX.kL (hc:=fun _ hs=>CK (b:=r) (E:=qx K i) hW.w ah 0 (by decide) (eh k (nF i)) ⟨(none,0),(none,0),(aA (some b5),1)⟩ (J8 Ey i b5) hs) (h:=?_);rintro x1 w6 lX L9 hH;replace hH:=SH.ap hH;refine gh ?_;rw[←dp] at hH;exact GQ.bj (i+1) rfl ⟨by omega,HC,⟨by rw[dp];exact lX.2,hW.r,bh _,fun _ h=>(by cases h)⟩,hH.to⟩ ah
  ·refine GX.aw rfl (GO.buildSlice (out:=[str [116],str [117]]) ai ⟨by decide,by unfold maxLen;decide⟩ rfl rfl rfl rfl rfl fun b4 w4 Mj vY i'=>⟨fun _ hS=>hS.trans (i'.weaken fun _ _ h=>h.elim),?_⟩);have gN:=At.one vY.bL I5;rw[show 0+i % 2=0+((i % 2:Nat):Int).toNat*1 by omega] at gN;have RZ:Ext _ w4:=hE.trans i';replace hH:=hH.cF i' (fun k hk=>by cases hk;omega) vY;refine gh ?_;refine GX.alt (gh ?_) (gh ?_)
   ·have zM:=hH.bL (x:=aF (some ⟨qb,qo,none⟩) (aK K)) (a:=some ⟨qb,qo,none⟩) (cs:=aK K) bP;have nV:=At.one zM hv;rw[show qo+i=qo+((i:Nat):Int).toNat*1 by omega] at nV;refine GX.aw rfl (GO.l6 rfl rfl rfl nV (gh ?_));refine GX.aw rfl (GO.l6 rfl rfl rfl gN (gh ?_));refine GX.mg (h:=fun b5 w5 L8 hH=>gh ?_);replace hH:=hH.freeze az.here;replace hH:=hH.nh.nh;refine GX.kL (hc:=fun _ hs=>CK (b:=r) (E:=qx K i) hW.w ah 0 (by decide) (eh k (nF i)) ⟨(none,0),(none,0),(aA (some b5),1)⟩ (J8 Ey i b5) hs) (h:=?_);rintro x1 w6 lX L9 hH;replace hH:=SH.ap hH;refine gh ?_;rw[←dp] at hH;exact GQ.bj (i+1) rfl ⟨by omega,HC,⟨by rw[dp];exact lX.2,hW.r,bh _,fun _ h=>(by cases h)⟩,hH.to⟩ ah
   ·refine GX.aw rfl (GO.l6 rfl rfl rfl gN (gh ?_));refine GX.alt (gh ?_) (gh ?_)
    ·have zM:=hH.bL (x:=aF (some ⟨qb,qo,none⟩) (aK K)) (a:=some ⟨qb,qo,none⟩) (cs:=aK K) bP;have nV:=At.one zM hv;rw[show qo+i=qo+((i:Nat):Int).toNat*1 by omega] at nV;refine GX.aw rfl (GO.l6 rfl rfl rfl nV (gh ?_));refine GX.mg (h:=fun b5 w5 L8 hH=>gh ?_);replace hH:=hH.freeze az.here;replace hH:=hH.nh.nh;refine GX.kL (hc:=fun _ hs=>CK (b:=r) (E:=qx K i) hW.w ah 0 (by decide) (eh k (nF i)) ⟨(none,0),(none,0),(aA (some b5),1)⟩ (J8 Ey i b5) hs) (h:=?_);rintro x1 w6 lX L9 hH;replace hH:=SH.ap hH;refine gh ?_;rw[←dp] at hH;exact GQ.bj (i+1) rfl ⟨by omega,HC,⟨by rw[dp];exact lX.2,hW.r,bh _,fun _ h=>(by cases h)⟩,hH.to⟩ ah
    ·refine GX.mg (h:=fun b5 w5 L8 hH=>gh ?_);replace hH:=hH.freeze az.here;replace hH:=hH.nh.nh;have zM:=hH.bL (x:=aF (some ⟨qb,qo,none⟩) (aK K)) (a:=some ⟨qb,qo,none⟩) (cs:=aK K) bP;have nV:=At.one zM hv;rw[show qo+i=qo+((i:Nat):Int).toNat*1 by omega] at nV;refine GX.aw rfl (GO.l6 rfl rfl rfl nV (gh ?_));refine GX.kL (hc:=fun _ hs=>CK (b:=r) (E:=qx K i) hW.w ah 0 (by decide) (eh k (nF i)) ⟨(none,0),(none,0),(aA (some b5),1)⟩ (J8 Ey i b5) hs) (h:=?_);rintro x1 w6 lX L9 hH;replace hH:=SH.ap hH;refine gh ?_;rw[←dp] at hH;exact GQ.bj (i+1) rfl ⟨by omega,HC,⟨by rw[dp];exact lX.2,hW.r,bh _,fun _ h=>(by cases h)⟩,hH.to⟩ ah
 obtain rfl:i=K.length:=by omega
 rw[fw (aY _)] at DL;have RQ:(jg L).length≤20:=dF (TN L) ah;have DS:HI (jg L) (TF K K.length) (qx K K.length) 0 []:=HI.new (amb ah (aY _) (by rw[fw (aY _)];exact DL)) _;generalize qx K K.length=E0 at hW DS hH;have aU:∀{n:Nat}{p:Int×Bs},(jg L)[n]?=some p→mP p.1 p.2=true:=fun h=>aeb h
 refine gh ?_;refine GC.bR [0,2,7,9] (fun y:Nat×PH=>[(12,iV y.2.up),(13,iV y.1)]) (fun y w'=>y.1≤O.length+(jg L).length∧nP y.2.E y.2.up y.2.R (2*K.length+2*y.1)∧HI (jg L) (TF K K.length) y.2.E y.2.up y.2.R∧(∀n,1≤n→n≤(jg L).length→n+O.length≤y.1→n∈lI y.2.up y.2.R)∧SH o w' [oC r y.2.E y.2.up y.2.R,mK h (jg L),aF ka (aK K),aF oa (Lib.byteCells O)]) (fun y=>O.length+(jg L).length - y.1) (0,⟨E0,0,[]⟩) rfl rfl ⟨bh _,hW,DS,fun n h1 _ h2=>ah,hH.to⟩ ?_;rintro⟨i,⟨E,up,R⟩⟩ w ⟨hi,hW,hI,gA,hH⟩;dsimp only at hi hW hI gA hH ⊢;refine gh ?_;refine GX.bF (hc:=fun _ hs=>MO (h:=h) (L:=jg L) hs) (h:=fun w hH=>gh ?_);refine gh ?_;refine ifs (fun hb=>?_) (fun hb=>?_)<;>refine gh ?_
 ·have aN:i<O.length+(jg L).length:=by omega
  generalize hM:jg L=M at hH hW hI gA aN RQ aU ⊢;refine gh ?_
  by_cases hio:i<O.length
  case' pos=>
   rw[show decide ((i:Int)<(O.length:Int))=true from b8 ah];refine gh ?_;refine GX.bF (hc:=fun _ hs=>MO (h:=h) (L:=M) hs) (h:=fun w hH=>gh ?_)
   by_cases hm:M.length=0
   ·rw[show decide ((0:Int)<(M.length:Int))=false from bQ ah];refine gh ?_;rw[show decide ((i:Int) - (O.length:Int)+1<1)=true from b8 ah];refine gh ?_;exact GQ.bj (i+1,⟨E,up,R⟩) rfl ⟨by dsimp only;omega,hW.vo (by dsimp only;omega),hI,fun n h1 h2 h3=>by omega,hH.to⟩ (by dsimp only;omega)
   rw[show decide ((0:Int)<(M.length:Int))=true from b8 ah];have ib:=hH.bL (x:=aF oa (Lib.byteCells O)) (a:=oa) (cs:=Lib.byteCells O) bP;obtain⟨qb,qo,rfl⟩:=Bq ib (by simp[Lib.byteCells];omega);have hv:(Lib.byteCells O)[i]?=some (.int .u8 (O[i].toNat:Int)):=by simp[Lib.byteCells,bO hio]
   have Ec:=UInt8.toNat_lt O[i];generalize O[i].toNat=x at hv Ec;refine gh ?_;refine GC.br (pl:=(bg [0,3,6,15,10,12,20,21,24,27])) (T:=fun _=>False) (hm:=mixed) (h:=fun w hE hH=>gh ?_);refine gh ?_;have nV:=At.one ib hv;rw[show qo+i=qo+((i:Nat):Int).toNat*1 by omega] at nV;refine GX.read rfl (GO.pe nV id hE rfl rfl rfl (gh ?_));refine GX.xN (hc:=fun _ hs=>S5 (h:=h) (L:=M) hs) (h:=fun w hS hH=>gh ?_);obtain⟨y,hy⟩:∃y:Nat,y=x % M.length:=⟨_,rfl⟩
   have lX:y<M.length:=hy▸e7 x ah;refine GX.pure rfl (GO.rem rfl rfl rfl rfl rfl ah (c:=(y:Int)) (by rw[hy];exact(Int.ofNat_tmod _ _).symm) (gh ?_));obtain⟨n,j9⟩:∃n:Nat,n=y+1:=⟨_,rfl⟩
   rw[show((y:Int)+1)=(n:Int) by omega];have ic:1≤n∧n≤M.length:=by omega
   have EG:O.length≤i→n+O.length=i+1:=fun h=>by omega
  case' neg=>
   rw[show decide ((i:Int)<(O.length:Int))=false from bQ ah];refine gh ?_;obtain⟨n,j9⟩:∃n:Nat,n=i - O.length+1:=⟨_,rfl⟩
   rw[show((i:Int) - (O.length:Int)+1)=(n:Int) by omega];have ic:1≤n∧n≤M.length:=by omega
   have EG:O.length≤i→n+O.length=i+1:=fun h=>by omega
  all_goals
   rw[show decide ((n:Int)<1)=false from bQ ah];refine gh ?_;obtain⟨p,hp⟩:∃p,M[n - 1]?=some p:=⟨_,bO ah⟩
   refine GX.bF (hc:=fun _ hs=>SI (h:=h) (n:=n) ic.1 ah hp hs) (h:=fun w hH=>gh ?_);refine gh ?_;refine GX.cA (h:=fun pb w hH=>gh ?_);refine GX.bt (h:=fun w hH=>gh ?_);refine gh ?_;refine GX.bZ (hc:=fun _ hs=>WW hW ah 1 (by decide) n p.1 p.2 ah hs) (h:=?_);rintro⟨⟩ w R8 hH;replace hH:=SH.ap hH;obtain⟨g1,g2,g3,g4⟩:=hI.rcv hW.r ic.1 ah hp (aU hp);generalize eC E up R 1 n p.1 p.2=z at R8 hH g1 g2 g3 g4 ⊢;rw[g1];refine gh ?_;refine GX.bF (hc:=fun _ hs=>FL (b:=r) (E:=z.1.E) (up:=z.1.up) (R:=z.1.R) hs) (h:=fun w hH=>gh ?_);rw[show decide ((z.1.up:Int)<(up:Int))=false from bQ ah];refine gh ?_;refine GX.bF (hc:=fun _ hs=>FL (b:=r) (E:=z.1.E) (up:=z.1.up) (R:=z.1.R) hs) (h:=fun w hH=>gh ?_);refine gh ?_;refine GQ.bj (i+1,z.1) rfl ⟨by dsimp only;omega,R8.vo (by dsimp only;omega),g2,fun m h1 h2 h3=>?_,hH.to⟩ (by dsimp only;omega);dsimp only at h3
   by_cases he:m+O.length=i+1
   ·exact g4 m (.inl (by have:=EG ah;omega))
   ·exact g4 m (.inr (gA m h1 h2 ah))
 ·have wi:i=O.length+(jg L).length:=by omega
  obtain⟨rfl,rfl⟩:=hI.fin hW.r (fun n h1 h2=>gA n h1 h2 ah);clear gA DS HV;generalize hM:jg L=M at hH hW hI RQ aU wi ⊢;refine gh ?_;refine GX.bF (hc:=fun _ hs=>FL (b:=r) (E:=E) (up:=M.length) (R:=[]) hs) (h:=fun w hH=>gh ?_);refine GX.aM (hc:=fun _ hs=>S5 (h:=h) (L:=M) hs) (h:=fun w hE hH=>gh ?_);rw[show decide ((M.length:Int)≠(M.length:Int))=false from bQ (by simp)];refine gh ?_;refine GX.bZ (hc:=fun _ hs=>OV hW ah hs) (h:=?_);rintro⟨q,c⟩ w _ hH;replace hH:=SH.ap hH;dsimp only[nU] at hH ⊢;refine gh ?_;refine GX.bZ (hc:=fun _ hs=>ad6 (h:=h) (L:=M) ah hs) (h:=?_);rintro⟨qa,ca⟩ w _ hH;replace hH:=SH.ap hH;refine gh ?_;refine GX.bZ (hc:=fun _ hs=>ais hW.w ah hs) (h:=?_);rintro e w _ hH;replace hH:=SH.ap hH;refine gh ?_;refine GC.bR [0,19,20] (fun i:Nat=>[(21,iV i)]) (fun i w'=>i≤K.length∧SH o w' [cB e E,aq 31 2 qa M.length ca (aL kr M),aF ka (aK K)]) (fun i=>K.length - i) 0 rfl rfl ⟨bh _,hH.to⟩ ?_;clear hH;rintro i w ⟨hi,hH⟩;refine gh ?_;refine ifs (fun hb=>?_) (fun hb=>?_)<;>refine gh ?_
  ·obtain⟨k,hk⟩:∃k,K[i]?=some k:=⟨_,bO ah⟩
   have ib:=hH.bL (x:=aF ka (aK K)) (a:=ka) (cs:=aK K) bP;obtain⟨qb,qo,rfl⟩:=Bq ib (by rw[aK,fH];omega);have hv:(aK K)[i]?=some (str k):=by simp[aK,hk]
   refine gh ?_;refine GC.bR [0,19,20,21] (fun j:Nat=>[(22,str (sM K k j)),(23,iV j)]) (fun j w'=>j≤K.length∧SH o w' [cB e E,aq 31 2 qa M.length ca (aL kr M),aF (some ⟨qb,qo,none⟩) (aK K)]) (fun j=>K.length - j) 0 rfl rfl ⟨bh _,hH.to⟩ ?_;clear hH ib;rintro j w ⟨hj,hH⟩;refine gh ?_;refine ifs (fun iM=>?_) (fun iM=>?_)<;>refine gh ?_
   ·obtain⟨k2,je⟩:∃k2,K[j]?=some k2:=⟨_,bO ah⟩
    have ib:=hH.bL (x:=aF (some ⟨qb,qo,none⟩) (aK K)) (a:=some ⟨qb,qo,none⟩) (cs:=aK K) bP;have hv2:(aK K)[j]?=some (str k2):=by simp[aK,je]
    refine gh ?_;refine GC.br (pl:=(bg [0,3,6,12,15,18,10,22,24])) (T:=fun _=>False) (hm:=mixed) (h:=fun w hE hH=>gh ?_);refine gh ?_;have HF:=At.one ib hv2;rw[show qo+j=qo+((j:Nat):Int).toNat*1 by omega] at HF;have gy:=At.one ib hv;rw[show qo+i=qo+((i:Nat):Int).toNat*1 by omega] at gy;refine GX.read rfl (GO.pe HF id hE rfl rfl rfl (gh ?_));refine GX.read rfl (GO.pe gy id hE rfl rfl rfl (gh ?_))
    by_cases he:k2=k
    ·have ot:sM K k (j+1)=nF j:=by unfold sM;rw[if_pos (he▸je)]
     have I5:([str [116],str [117]]:List Value)[j % 2]?=some (str (nF j)):=by unfold nF;rcases Nat.mod_two_eq_zero_or_one j with h|h<;>simp[h]
     have BJ:j % 2<2:=e7 _ (by decide);rw[show decide (k2=k)=true from b8 he];refine gh ?_;refine GX.XJ (h:=fun b4 w hH=>gh ?_);refine GX.next rfl (GO.rem rfl rfl rfl rfl rfl ah (c:=((j % 2:Nat):Int)) (Int.ofNat_tmod j 2).symm (gh ?_));refine GX.next rfl (GO.cT (hv:=I5) (h:=gh ?_));exact GQ.bj (j+1) (by rw[ot];rfl) ⟨by omega,hH.to⟩ ah
    ·have ot:sM K k (j+1)=sM K k j:=by rw[sM,if_neg (fun h=>he (Option.some.inj (je.symm.trans h)))]
     rw[show decide (k2=k)=false from bQ he];refine gh ?_;exact GQ.bj (j+1) (by rw[ot];rfl) ⟨by omega,hH.to⟩ ah
   ·obtain rfl:j=K.length:=by omega
    generalize hT:sM K k K.length=T at hH ⊢;refine gh ?_;refine GC.bR [0,19,20,21,22] (fun j:Nat=>[(24, .bool ((M.take j).any fun p=>pZ p.1 p.2 k T)),(25, .bool ((M.take j).any fun p=>ry p.1 p.2 T)),(26,iV j)]) (fun j w'=>j≤M.length∧SH o w' [cB e E,aq 31 2 qa M.length ca (aL kr M),aF (some ⟨qb,qo,none⟩) (aK K)]) (fun j=>M.length - j) 0 rfl rfl ⟨bh _,hH.to⟩ ?_;clear hH;rintro j w ⟨hj,hH⟩;refine gh ?_;refine ifs (fun xT=>?_) (fun xT=>?_)<;>refine gh ?_
    ·obtain⟨p,hp⟩:∃p,M[j]?=some p:=⟨_,bO ah⟩
     obtain⟨qc,rfl⟩:=hH.pos (el:=31) (sz:=2) (q:=qa) (n:=M.length);refine gh ?_;refine GX.next rfl (GO.kg (j:=j*2) (hv:=ku AH hp) (h:=gh ?_));have tu:((M.take (j+1)).any fun p=>pZ p.1 p.2 k T)=(((M.take j).any fun p=>pZ p.1 p.2 k T)||pZ p.1 p.2 k T):=by rw[gv,hp];simp
     have vZ:((M.take (j+1)).any fun p=>ry p.1 p.2 T)=(((M.take j).any fun p=>ry p.1 p.2 T)||ry p.1 p.2 T):=by rw[gv,hp];simp
     generalize ((M.take j).any fun p=>pZ p.1 p.2 k T)=H0 at tu ⊢;generalize ((M.take j).any fun p=>ry p.1 p.2 T)=S0 at vZ ⊢;obtain⟨kd,nm⟩:=p;dsimp only at tu vZ ⊢;refine GX.cA (h:=fun pb w hH=>gh ?_);refine GX.bt (h:=fun w hH=>gh ?_);have ib:=hH.bL (x:=aF (some ⟨qb,qo,none⟩) (aK K)) (a:=some ⟨qb,qo,none⟩) (cs:=aK K) bP;refine gh ?_;obtain⟨PF,D4⟩:∃PF,PF=(decide (kd=3)&&decide (nm <+: k)):=⟨_,rfl⟩
     refine GC.cut (X:=Unit) (fun _=>[(0, .slice (some ⟨qb,qo,none⟩) K.length kc),(19, .slice (some ⟨qc,0,none⟩) M.length ca),(20,ak e),(21,iV i),(22,str T),(24, .bool H0),(25, .bool S0),(26,iV j),(27,ak pb),(28, .bool PF)]) (fun _ w'=>SH o w' [aB pb [iV kd,str nm],cB e E,aq 31 2 (some qc) M.length ca (aL kr M),aF (some ⟨qb,qo,none⟩) (aK K)]) ?_ ?_
     ·refine GC.br (pl:=(bg [0,4,6,9,12,21,24,27,16,18,31,33,36,39,42,45,48,51,57,69,55,61,63,66,73,75,78,81])) (T:=fun _=>False) (hm:=mixed) (h:=fun w hE hH=>gh ?_);refine gh ?_;have gy:=At.one ib hv;rw[show qo+i=qo+((i:Nat):Int).toNat*1 by omega] at gy
      by_cases h3:kd=3
      ·rw[show decide (kd=3)=true from b8 h3];refine gh ?_;refine GX.read rfl (GO.pe gy id hE rfl rfl rfl (gh ?_))
       by_cases hle:nm.length≤k.length
       ·rw[show decide ((nm.length:Int)≤(k.length:Int))=true from b8 ah];refine gh ?_;refine GX.read rfl (GO.pe gy id hE rfl rfl rfl (gh ?_));refine GX.pure rfl (Pe k rfl rfl rfl rfl rfl ah (by show((nm.length:Nat):Int)≤(k.length:Int);omega) (gh ?_));have hx:PF=decide (k.take ((nm.length:Nat):Int).toNat=nm):=by
         rw[D4,b8 h3,Bool.true_and,qB];exact vw.2 ⟨fun h=>(List.prefix_iff_eq_take.1 h).symm,fun h=>List.prefix_iff_eq_take.2 h.symm⟩
        exact GQ.dm () (cR (l:=[0,19,20,21,22,24,25,26,27,28]) (by rw[hx];rfl)) hH.to
       ·rw[show decide ((nm.length:Int)≤(k.length:Int))=false from bQ ah];refine gh ?_;have hx:PF=false:=by
         rw[D4,b8 h3,Bool.true_and];exact bQ fun h=>hle h.length_le
        exact GQ.dm () (cR (l:=[0,19,20,21,22,24,25,26,27,28]) (by rw[hx];rfl)) hH.to
      ·rw[show decide (kd=3)=false from bQ h3];refine gh ?_;have hx:PF=false:=by rw[D4,bQ h3,Bool.false_and]
       exact GQ.dm () (cR (l:=[0,19,20,21,22,24,25,26,27,28]) (by rw[hx];rfl)) hH.to
     clear hH ib;rintro⟨⟩ w hH;refine GQ.Br ?_
     try refine GC.seq ?_
     have SM:pZ kd nm k T=(decide (kd=4)||PF||(decide (kd=1)&&decide (nm=T))):=by rw[D4];rfl
     clear D4;refine GC.cut (X:=Unit) (fun _=>[(0, .slice (some ⟨qb,qo,none⟩) K.length kc),(19, .slice (some ⟨qc,0,none⟩) M.length ca),(20,ak e),(21,iV i),(22,str T),(24, .bool (H0||pZ kd nm k T)),(25, .bool S0),(26,iV j),(27,ak pb)]) (fun _ w'=>SH o w' [aB pb [iV kd,str nm],cB e E,aq 31 2 (some qc) M.length ca (aL kr M),aF (some ⟨qb,qo,none⟩) (aK K)]) ?_ ?_
     ·rw[SM];cases H0 with
      |true=>
       refine gh ?_;exact GQ.dm () (cR (l:=[0,19,20,21,22,24,25,26,27]) rfl) hH.to
      |false=>
       refine gh ?_;cases decide (kd=4) with
       |true=>
        refine gh ?_;exact GQ.dm () (cR (l:=[0,19,20,21,22,24,25,26,27]) rfl) hH.to
       |false=>
        cases PF with
        |true=>
         refine gh ?_;exact GQ.dm () (cR (l:=[0,19,20,21,22,24,25,26,27]) rfl) hH.to
        |false=>
         refine gh ?_;cases decide (kd=1) with
         |true=>
          refine gh ?_;exact GQ.dm () (cR (l:=[0,19,20,21,22,24,25,26,27]) rfl) hH.to
         |false=>
          refine gh ?_;exact GQ.dm () (cR (l:=[0,19,20,21,22,24,25,26,27]) rfl) hH.to
     clear hH SM;rintro⟨⟩ w hH;refine gh ?_;have fW:ry kd nm T=(decide (kd=2)&&decide (nm=T)):=rfl;cases S0 with
     |true=>
      refine gh ?_;exact GQ.bj (j+1) (by rw[tu,vZ];rfl) ⟨by omega,hH.to⟩ ah
     |false=>
      refine gh ?_;rw[fW] at vZ;cases h2:decide (kd=2) with
      |true=>
       rw[h2] at vZ;refine gh ?_;exact GQ.bj (j+1) (by rw[tu,vZ];rfl) ⟨by omega,hH.to⟩ ah
      |false=>
       rw[h2] at vZ;refine gh ?_;exact GQ.bj (j+1) (by rw[tu,vZ];rfl) ⟨by omega,hH.to⟩ ah
    ·obtain rfl:j=M.length:=by omega
     rw[fw (aY _)];have ib:=hH.bL (x:=aF (some ⟨qb,qo,none⟩) (aK K)) (a:=some ⟨qb,qo,none⟩) (cs:=aK K) bP;refine gh ?_;refine GX.next rfl (GO.Cn (hA:=ib) (hv:=hv) (h:=gh ?_));refine GX.bZ (hc:=fun _ hs=>abc hW.w.ok k hs) (h:=?_);rintro qp w _ hH;replace hH:=SH.ap hH;refine gh ?_;refine GX.cA (h:=fun pb w hH=>gh ?_);refine GX.bt (h:=fun w hH=>gh ?_);have ib:=hH.bL (x:=aF (some ⟨qb,qo,none⟩) (aK K)) (a:=some ⟨qb,qo,none⟩) (cs:=aK K) bP;refine gh ?_;refine GX.next rfl (GO.Cn (hA:=ib) (hv:=hv) (h:=gh ?_))
     by_cases oh:bf k=true
     ·have iN:k≠[]:=fun h=>by subst h;cases oh
      have se:(E.rn k).2=0:=by unfold ao.rn;rw[if_pos oh]
      have hm:=marks (L:=L) (K:=K) (E:=E) (by rw[hM];exact hI) hk oh;rw[hM,hT] at hm;rw[show decide (k=[])=false from bQ iN,se];generalize (E.rn k).1.m=m at hm hH;generalize (M.any fun p=>pZ p.1 p.2 k T)=Hd at hm ⊢;generalize (M.any fun p=>ry p.1 p.2 T)=Sf at hm ⊢;refine gh ?_;cases Hd with
      |true=>
       rw[if_pos rfl] at hm;subst hm;refine gh ?_;exact GQ.bj (i+1) rfl ⟨by omega,hH.to⟩ ah
      |false=>
       rw[if_neg (by simp)] at hm;cases Sf with
       |true=>
        rw[if_pos rfl] at hm;subst hm;refine gh ?_;exact GQ.bj (i+1) rfl ⟨by omega,hH.to⟩ ah
       |false=>
        rw[if_neg (by simp)] at hm;subst hm;refine gh ?_;exact GQ.bj (i+1) rfl ⟨by omega,hH.to⟩ ah
     ·have se:(E.rn k).2=2:=by unfold ao.rn;rw[if_neg oh]
      rw[se]
      by_cases iN:k=[]
      ·rw[show decide (k=[])=true from b8 iN];refine gh ?_;exact GQ.bj (i+1) rfl ⟨by omega,hH.to⟩ ah
      ·rw[show decide (k=[])=false from bQ iN];refine gh ?_;exact GQ.bj (i+1) rfl ⟨by omega,hH.to⟩ ah
  ·refine gh ?_;refine GX.aM (hc:=fun _ hs=>Cj hs) (h:=fun w hE hH=>gh ?_);exact⟨rfl,hH.to⟩
end Go.Proofs.YtoloaehmppcjoaaGreat.V.M
