/-
  Parts of the proof. No condition.
-/
import Derived.Test.YtmlpbmgfmnmmmaaGreatW2by
set_option linter.unusedVariables false
set_option linter.unusedSimpArgs false
set_option maxRecDepth 8000
set_option maxHeartbeats 8000000
open Go.Proofs.Tryz
namespace Go.Proofs.YtmlpbmgfmnmmmaaGreat.V.M
attribute [local irreducible] GO GX aA eo fz aF aQ ao star
variable {o:Og}{w:World}
structure ov where
 oe:Int
 n:Int
 T:Nat
 k:Int
 nm:Bs
 c:dh
 y:iR
abbrev qd (a:ov):List Value:=[iV a.oe,iV a.n,uV a.T,iV a.k,str a.nm,iV a.c.op,str a.c.k, .slice a.y.k.1 a.c.ks.length a.y.k.2, .slice a.y.v.1 a.c.v.length a.y.v.2, .slice a.y.t.1 a.c.t.length a.y.t.2,uV a.c.d,uV a.c.n,str a.c.tag,str a.c.pre,str a.c.ch]
def yQ (l:List Bs):Bool:=l.all fun x=>!decide ((300:Int)<(x.length:Int))
def Fj (a:ov):Bool:=
 !(decide ((20:Int)<(a.c.ks.length:Int))||(decide ((20:Int)<(a.c.t.length:Int))||(decide ((300:Int)<(a.c.k.length:Int))||(decide ((300:Int)<(a.c.ch.length:Int))||(decide ((300:Int)<(a.c.pre.length:Int))||(decide ((300:Int)<(a.c.tag.length:Int))||(decide ((300:Int)<(a.c.v.length:Int))||decide ((300:Int)<(a.nm.length:Int)))))))))&&(yQ a.c.ks&&yQ a.c.t)
theorem XE {L:List Bs}{i:Nat}{x:Bs}(h:L[i]?=some x):yQ (L.take (i+1))=(yQ (L.take i)&&!decide ((300:Int)<(x.length:Int))):=by
 unfold yQ;rw[ic,h,List.all_append];simp
theorem XD {L:List Bs}{i:Nat}{x:Bs}(h:L[i]?=some x)(hx:(300:Int)<(x.length:Int)):yQ L=false:=by
 refine Bool.eq_false_iff.2 fun hh=>?_
 have:=rj.1 hh x (bF h);rw[bQ hx] at this;cases this
theorem agx (a:ov)(hs:Start o w [aF a.y.k.1 (aM a.c.ks),aF a.y.t.1 (aM a.c.t)]) :
  aj prog 18 [.agg (qd a).toArray].toArray w (Po o (.bool (Fj a)) []):=by
 have hH:=hs.sh;obtain⟨oe,n,T,k,nm,⟨op,ck,pB,cv,ct,cd,cn,Hd,Hc,GZ⟩,⟨⟨ka,kc⟩,⟨va,vc⟩,⟨ta,tc⟩⟩⟩:=a;dsimp only at hs hH;unfold Fj;dsimp only;refine aj.enter func18 rfl ntmps18 rfl (gh ?_);refine GX.cw (h:=fun z w hH=>gh ?_);refine GX.cm (h:=fun c w hH=>gh ?_);refine GX.bc (h:=fun w hH=>gh ?_);cases h1:decide ((20:Int)<(pB.length:Int))
 case true=>refine gh ?_;exact⟨rfl,hH.to⟩
 have hk:pB.length≤20:=by have:=y6 h1;omega
 refine gh ?_;cases h2:decide ((20:Int)<(ct.length:Int))
 case true=>refine gh ?_;exact⟨rfl,hH.to⟩
 have ht:ct.length≤20:=by have:=y6 h2;omega
 refine gh ?_;cases h3:decide ((300:Int)<(ck.length:Int))
 case true=>refine gh ?_;exact⟨rfl,hH.to⟩
 refine gh ?_;cases h4:decide ((300:Int)<(GZ.length:Int))
 case true=>refine gh ?_;exact⟨rfl,hH.to⟩
 refine gh ?_;cases h5:decide ((300:Int)<(Hc.length:Int))
 case true=>refine gh ?_;exact⟨rfl,hH.to⟩
 refine gh ?_;cases h6:decide ((300:Int)<(Hd.length:Int))
 case true=>refine gh ?_;exact⟨rfl,hH.to⟩
 refine gh ?_;cases h7:decide ((300:Int)<(cv.length:Int))
 case true=>refine gh ?_;exact⟨rfl,hH.to⟩
 refine gh ?_;cases h8:decide ((300:Int)<(nm.length:Int))
 case true=>refine gh ?_;exact⟨rfl,hH.to⟩
 refine gh ?_;refine GC.bP [3] (fun i:Nat=>[(4,iV i)]) (fun i w'=>i≤pB.length∧yQ (pB.take i)=true∧SH o w' [aA c [iV op,str ck, .slice ka pB.length kc, .slice va cv.length vc, .slice ta ct.length tc,uV cd,uV cn,str Hd,str Hc,str GZ],aF ka (aM pB),aF ta (aM ct)]) (fun i=>pB.length - i) 0 rfl rfl ⟨bh _,rfl,hH.to⟩ ?_;rintro i w ⟨hi,MY,hH⟩;refine gh ?_;refine ifs (fun jQ=>?_) (fun jQ=>?_)<;>refine gh ?_
 ·obtain⟨x,hx⟩:∃x,pB[i]?=some x:=⟨_,bO ah⟩
  have nQ:=hH.bR (x:=aF ka (aM pB)) (a:=ka) (cs:=aM pB) bL;obtain⟨qb,qo,rfl⟩:=DF nQ (by rw[aM,fk];omega);refine gh ?_;refine GX.next rfl (GO.Jd (hA:=nQ) (hv:=show(aM pB)[i]?=some (str x) by simp[aM,hx]) (h:=gh ?_))
  by_cases h9:(300:Int)<(x.length:Int)
  ·rw[bQ h9];refine gh ?_;rw[XD hx h9];exact⟨rfl,hH.to⟩
  ·rw[bt h9];refine gh ?_;refine GQ.br (i+1) rfl ⟨by omega,?_,hH.to⟩ ah;rw[XE hx,MY,bt h9];rfl
 obtain rfl:i=pB.length:=by omega
 rw[eO (bj _)] at MY;rw[MY];refine gh ?_;refine GC.bP [3] (fun i:Nat=>[(5,iV i)]) (fun i w'=>i≤ct.length∧yQ (ct.take i)=true∧SH o w' [aA c [iV op,str ck, .slice ka pB.length kc, .slice va cv.length vc, .slice ta ct.length tc,uV cd,uV cn,str Hd,str Hc,str GZ],aF ta (aM ct)]) (fun i=>ct.length - i) 0 rfl rfl ⟨bh _,rfl,hH.to⟩ ?_;rintro i w ⟨hi,MZ,hH⟩;refine gh ?_;refine ifs (fun jQ=>?_) (fun jQ=>?_)<;>refine gh ?_
 ·obtain⟨x,hx⟩:∃x,ct[i]?=some x:=⟨_,bO ah⟩
  have nQ:=hH.bR (x:=aF ta (aM ct)) (a:=ta) (cs:=aM ct) bL;obtain⟨qb,qo,rfl⟩:=DF nQ (by rw[aM,fk];omega);refine gh ?_;refine GX.next rfl (GO.Jd (hA:=nQ) (hv:=show(aM ct)[i]?=some (str x) by simp[aM,hx]) (h:=gh ?_))
  by_cases h9:(300:Int)<(x.length:Int)
  ·rw[bQ h9];refine gh ?_;rw[XD hx h9];exact⟨rfl,hH.to⟩
  ·rw[bt h9];refine gh ?_;refine GQ.br (i+1) rfl ⟨by omega,?_,hH.to⟩ ah;rw[XE hx,MZ,bt h9];rfl
 obtain rfl:i=ct.length:=by omega
 rw[eO (bj _)] at MZ;rw[MZ];refine gh ?_;exact⟨rfl,hH.to⟩
def AH (x:Int×Bs):List Value:=[iV x.1,str x.2]
theorem aim (x:Int×Bs):(AH x).length=2:=rfl
theorem OM (x:Int×Bs):∀u∈AH x,u.oneCell'=true:=by
 intro u hu;simp only[AH,bY,tI,or_false] at hu
 rcases hu with rfl|rfl<;>rfl
abbrev Ng (h:Nat)(L:List (Int×Bs))(X:Option Nat×Nat):List It:=[aA h [.slice (ay X.1) L.length X.2],ao 31 2 X.1 L.length X.2 (aK AH L)]
def rL (h:Nat)(L:List (Int×Bs)):It:=star fun X:Option Nat×Nat=>Ng h L X
theorem Cb {l t:List It}{h:Nat}{L:List (Int×Bs)}(X:Option Nat×Nat)(hH:SH o w l)(hp:Pk l (Ng h L X) t:=by repeat(first|exact Pk.nil|(apply Pk.cons;repeat(first|exact aB.here|apply aB.there)))):SH o w (rL h L::t):=
 SH.fold (f:=fun X:Option Nat×Nat=>Ng h L X) X hH hp
def sj (L:List (Int×Bs))(k:Int)(nm:Bs):List (Int×Bs):=if rW k nm=true then L++[(k,nm)] else L
def AG (L:List (Int×Bs))(k:Int)(nm:Bs):Int:=if rW k nm=true then((L.length+1:Nat):Int) else 0
def CM (k:Int)(nm:Bs):Int:=if rW k nm=true then 0 else 2
theorem adR {h:Nat}{L:List (Int×Bs)}(hl:L.length<9000)(k:Int)(nm:Bs)(hs:Start o w [rL h L]) :
  aj prog 6 [ak h, .agg #[iV k,str nm]].toArray w (Po o (.tuple #[iV (AG L k nm),iV (CM k nm)]) [rL h (sj L k nm)]):=by
 have hH:=hs.sh;obtain⟨X,hH⟩:=SH.un hH;replace hH:=SH.ap hH;obtain⟨q,c⟩:=X;dsimp only at hH;unfold sj AG CM;refine aj.enter func6 rfl ntmps6 rfl (gh ?_);refine GX.cw (h:=fun z w hH=>gh ?_);refine GX.aL (hc:=fun _ hs=>Qc k nm hs) (h:=fun w hE hH=>gh ?_);refine GX.cm (h:=fun cc w hH=>gh ?_);refine GX.bc (h:=fun w hH=>gh ?_);cases aX:rW k nm with
 |false=>
  refine gh ?_;exact⟨rfl,(Cb (q,c) hH).to⟩
 |true=>
  refine gh ?_;rw[show decide ((10000:Int)≤(L.length:Int))=false from bt ah];refine gh ?_;have nS:∀{w:World}{q':Option Nat}{c':Nat}{rest:List It},SH o w (aA h [.slice (ay q') (L.length+1) c']::ao 31 2 q' (L.length+1) c' (aK AH L++AH (k,nm))::rest)→SH o w (rL h (L++[(k,nm)])::rest):=by
   intro w q' c' rest hH;rw[←kK] at hH;rw[show L.length+1=(L++[(k,nm)]).length by simp] at hH;exact Cb (q',c') hH
  refine GC.bq (pl:=(.pure 0 (.pure 1 (.pure 2 (.pure 3 (.alt (.ax 4 (.ax 5 (.ax 6 (.ax 7 (.pure 8 (.pure 9 (.ax 10 .done))))))) (.ax 5 (.alt (.ax 4 (.ax 6 (.ax 7 (.pure 8 (.pure 9 (.ax 10 .done)))))) (.ax 6 (.ax 4 (.ax 7 (.pure 8 (.pure 9 (.ax 10 .done)))))))))))))) (T:=cS []) (hm:=mixed) (h:=fun w hE hH=>gh ?_);refine GX.alt (gh ?_) (gh ?_)
  ·refine GX.o8 (h:=fun b2 w hS hH=>gh ?_);refine GX.oD (hT:=fun _ _ h=>by cases h) (h1:=OM (k,nm)) (h:=fun q' c' w hS hH=>gh ?_);refine GX.fH (h:=fun w hH=>gh ?_);exact⟨rfl,(nS (rest:=[]) hH.to).to⟩
  ·refine GX.alt (gh ?_) (gh ?_)
   ·refine GX.o8 (h:=fun b2 w hS hH=>gh ?_);refine GX.oD (hT:=fun _ _ h=>by cases h) (h1:=OM (k,nm)) (h:=fun q' c' w hS hH=>gh ?_);refine GX.fH (h:=fun w hH=>gh ?_);exact⟨rfl,(nS (rest:=[]) hH.to).to⟩
   ·refine GX.o8 (h:=fun b2 w hS hH=>gh ?_);refine GX.oD (hT:=fun _ _ h=>by cases h) (h1:=OM (k,nm)) (h:=fun q' c' w hS hH=>gh ?_);refine GX.fH (h:=fun w hH=>gh ?_);exact⟨rfl,(nS (rest:=[]) hH.to).to⟩
theorem adl {h:Nat}{L:List (Int×Bs)}(hs:Start o w [rL h L]):aj prog 9 [ak h].toArray w (Po o (iV L.length) [rL h L]):=by
 have hH:=hs.sh;obtain⟨X,hH⟩:=SH.un hH;replace hH:=SH.ap hH;refine aj.enter func9 rfl ntmps9 rfl (gh ?_);exact⟨rfl,(Cb X hH).to⟩
theorem ada {h n:Nat}{L:List (Int×Bs)}(h1:1≤n)(hl:L.length<9000){x:Int×Bs}(hx:L[n - 1]?=some x)(hs:Start o w [rL h L]):aj prog 10 [ak h,iV n].toArray w (Po o (.tuple #[.agg (AH x).toArray,iV 0]) [rL h L]):=by
 have hH:=hs.sh;obtain⟨X,hH⟩:=SH.un hH;replace hH:=SH.ap hH;obtain⟨q,c⟩:=X;dsimp only at hH;have aP:=(aV.1 hx).1;refine aj.enter func10 rfl ntmps10 rfl (gh ?_);refine GX.cm (h:=fun z w hH=>gh ?_);rw[show decide ((n:Int)<1)=false from bt ah];refine gh ?_;rw[show decide ((L.length:Int)<(n:Int))=false from bt ah];obtain⟨qb,rfl⟩:=hH.pos (el:=31) (sz:=2) (q:=q) (n:=L.length);refine gh ?_
 skip
 refine GX.next rfl (GO.jz (j:=(n - 1)*2) (hv:=jj aim hx) (h:=gh ?_));refine GX.bc (h:=fun w hH=>gh ?_);exact⟨rfl,(Cb (some qb,c) hH).to⟩
theorem ac9 {h n:Nat}{L:List (Int×Bs)}(h1:L.length<n)(hs:Start o w [rL h L]):aj prog 10 [ak h,iV n].toArray w (Po o (.tuple #[.agg #[iV 0,str []],iV 3]) [rL h L]):=by
 have hH:=hs.sh;obtain⟨X,hH⟩:=SH.un hH;replace hH:=SH.ap hH;obtain⟨q,c⟩:=X;dsimp only at hH;refine aj.enter func10 rfl ntmps10 rfl (gh ?_);refine GX.cm (h:=fun z w hH=>gh ?_);rw[show decide ((n:Int)<1)=false from bt ah];refine gh ?_;rw[show decide ((L.length:Int)<(n:Int))=true from bQ ah];refine gh ?_;refine GX.bc (h:=fun w hH=>gh ?_);exact⟨rfl,(Cb (q,c) hH).to⟩
theorem Gc (nm:Bs)(hs:Start o w []):aj prog 22 [str nm].toArray w (Po o (.agg #[iV 1,str nm]) []):=by
 have hH:=hs.sh;refine aj.enter func22 rfl ntmps22 rfl (gh ?_);refine GX.cm (h:=fun z w hH=>gh ?_);refine GX.bc (h:=fun w hH=>gh ?_);exact⟨rfl,hH.to⟩
def nL:oy:=⟨10000,10,10,10,10,5,0⟩
theorem ajQ (hs:Start o w []):aj prog 23 ([]:List Value).toArray w (Po o (.agg (vC nL).toArray) []):=by
 have hH:=hs.sh;refine aj.enter func23 rfl ntmps23 rfl (gh ?_);refine GX.cm (h:=fun z w hH=>gh ?_);refine GX.bc (h:=fun w hH=>gh ?_);exact⟨rfl,hH.to⟩
theorem OK {h:Nat}{L:List (Int×Bs)}(hl:L.length<9000)(k:Int)(nm:Bs)(n no:Int)(hs:Start o w [rL h L]) :
  aj prog 21 [ak h, .agg #[iV k,str nm],iV n,iV no].toArray w (Po o (.bool (decide (AG L k nm=n)&&decide (CM k nm=no))) [rL h (sj L k nm)]):=by
 have hH:=hs.sh;refine aj.enter func21 rfl ntmps21 rfl (gh ?_);refine GX.cw (h:=fun z w hH=>gh ?_);refine GX.bz (hc:=fun _ hs=>adR hl k nm hs) (h:=fun w hH=>gh ?_);cases hd:decide (AG L k nm=n) with
 |true=>refine gh ?_;exact⟨rfl,hH.to⟩
 |false=>refine gh ?_;exact⟨rfl,hH.to⟩
theorem CP {b up m:Nat}{E:aq}{R:List Nat}(hW:kS E up R m)(hm:m<6000)(t:Nat)(ht:t≤never)(n k:Int)(nm:Bs)(hn:n<9223372036854775808)(want:Bool)(no:Int)(hs:Start o w [gk b E up R]) :
  aj prog 24 [ak b,uV t,iV n, .agg #[iV k,str nm], .bool want,iV no].toArray w (aU o (fun _:Unit => .bool (((dP E up R t n k nm).2.1 == want)&&decide ((dP E up R t n k nm).2.2=no))) (fun _=>kS (dP E up R t n k nm).1.E (dP E up R t n k nm).1.up (dP E up R t n k nm).1.R (m+2)) (fun _=>[gk b (dP E up R t n k nm).1.E (dP E up R t n k nm).1.up (dP E up R t n k nm).1.R])):=by
 have hH:=hs.sh;refine aj.enter func24 rfl ntmps24 rfl (gh ?_);refine GX.cw (h:=fun z w hH=>gh ?_);refine GX.bS (hc:=fun _ hs=>OQ hW hm t ht n k nm hn hs) (h:=?_);rintro⟨⟩ w hR hH;replace hH:=SH.ap hH;generalize dP E up R t n k nm=r at hH hR ⊢;refine gh ?_;cases hd:(r.2.1 == want) with
 |true=>refine gh ?_;exact⟨(),rfl,hR,hH.to⟩
 |false=>refine gh ?_;exact⟨(),rfl,hR,hH.to⟩
theorem Le (l:List (Nat×Nat))(hl:l.length<2^40){q1 q2:Option Nat}{c1 c2:Nat}(hs:Start o w [ao 88 2 q1 l.length c1 (aK sM l),ao 88 2 q2 l.length c2 (aK sM l)]) :
  aj prog 25 [.slice (ay q1) l.length c1, .slice (ay q2) l.length c2].toArray w (Po o (.bool true) []):=by
 have hH:=hs.sh;refine aj.enter func25 rfl ntmps25 rfl (gh ?_);rw[show decide ((l.length:Int)≠(l.length:Int))=false from bt ah];refine gh ?_;refine GC.bP [0,1] (fun k:Nat=>[(5,iV k)]) (fun k w'=>k≤l.length∧SH o w' [ao 88 2 q1 l.length c1 (aK sM l),ao 88 2 q2 l.length c2 (aK sM l)]) (fun k=>l.length - k) 0 rfl rfl ⟨bh _,hH.to⟩ ?_;rintro k w ⟨hk,hH⟩;refine gh ?_;refine ifs (fun h1=>?_) (fun h1=>?_)<;>refine gh ?_
 ·obtain⟨x,hx⟩:∃x,l[k]?=some x:=⟨_,bO ah⟩
  obtain⟨b1,rfl⟩:=hH.pos (el:=88) (sz:=2) (q:=q1) (n:=l.length);obtain⟨b2,rfl⟩:=hH.pos (el:=88) (sz:=2) (q:=q2) (n:=l.length);refine gh ?_;refine GC.bq (pl:=(aZ [0,3,6,12,15,18,10,22,24])) (T:=fun _=>False) (hm:=mixed) (h:=fun w hE hH=>gh ?_);refine GX.read rfl (GO.yz (hv:=jj Rw hx) (h:=gh ?_));refine GX.read rfl (GO.yz (hv:=jj Rw hx) (h:=gh ?_));rw[show(!(decide ((x.1:Int)=(x.1:Int))&&(decide ((x.2:Int)=(x.2:Int))&&true)))=false by simp];refine gh ?_;exact GQ.br (k+1) rfl ⟨by omega,hH.to⟩ ah
 ·refine gh ?_;exact⟨rfl,hH.to⟩
theorem aij (n:Nat)(L:List Nat):o4 n L≤L.length:=by unfold o4;exact(List.takeWhile_sublist _).length_le
theorem aii {n:Nat}{L:List Nat}{i x:Nat}(h:i<o4 n L)(hx:L[i]?=some x):x<n:=by
 induction L generalizing i with
 |nil=>cases hx
 |cons y L ih=>
  unfold o4 at h
  by_cases hy:y<n
  ·rw[List.takeWhile_cons_of_pos (by simpa using hy),dR] at h;cases i with
   |zero=>simp at hx;omega
   |succ i=>exact ih (i:=i) (by unfold o4;omega) (by simpa using hx)
  ·rw[List.takeWhile_cons_of_neg (by simpa using hy)] at h;cases h
theorem aih {n:Nat}{L:List Nat}{x:Nat}(hx:L[o4 n L]?=some x):¬x<n:=by
 induction L with
 |nil=>cases hx
 |cons y L ih=>
  unfold o4 at hx ih
  by_cases hy:y<n
  ·rw[List.takeWhile_cons_of_pos (by simpa using hy),dR] at hx;exact ih (by simpa using hx)
  ·rw[List.takeWhile_cons_of_neg (by simpa using hy)] at hx;simp at hx;omega
theorem acG {up:Nat}{R:List Nat}{n:Int}(h:¬n<1):vT up R n=true↔n≤up∨mr R n=true:=by
 unfold vT;rw[bQ (by omega:1≤n),Bool.true_and,Bool.or_eq_true,mE]
theorem ag6 {b up m:Nat}{E:aq}{R:List Nat}(hW:kS E up R m)(hm:m<6000)(t:Nat)(ht:t≤never)(n k:Int)(nm:Bs)(hn:n<9223372036854775808)(hs:Start o w [lp b E (dg up R)]) :
  aj prog 43 [ak b,uV t,iV n, .agg #[iV k,str nm]].toArray w (aU o (fun _:Unit => .tuple #[.bool (dP E up R t n k nm).2.1,iV (dP E up R t n k nm).2.2]) (fun _=>kS (dP E up R t n k nm).1.E (dP E up R t n k nm).1.up (dP E up R t n k nm).1.R (m+2)) (fun _=>[lp b (dP E up R t n k nm).1.E (dg (dP E up R t n k nm).1.up (dP E up R t n k nm).1.R)])):=by
 have hH:=hs.sh;have hl:=hW.l;have hlen:=O3 up R;have hF:=fun hE=>WU hW t n k nm hE
 generalize hr:dP E up R t n k nm=r at hF ⊢;unfold dP at hr;refine aj.enter func43 rfl ntmps43 rfl (gh ?_);refine GX.cw (h:=fun z w hH=>gh ?_);refine GX.aL (hc:=fun _ hs=>afg k nm hs) (h:=fun w hE hH=>gh ?_);refine GX.cm (h:=fun c w hH=>gh ?_);refine GX.bc (h:=fun w hH=>gh ?_);cases aX:rW k nm with
 |false=>
  rw[if_pos (.inl aX)] at hr;subst hr;refine gh ?_;exact⟨(),rfl,hW.ra ah,hH.to⟩
 |true=>
 refine gh ?_
 by_cases h1:n<1
 ·rw[if_pos (.inr h1)] at hr;subst hr;rw[show decide (n<1)=true from bQ h1];refine gh ?_;exact⟨(),rfl,hW.ra ah,hH.to⟩
 rw[if_neg (by rw[aX];simpa using h1)] at hr;rw[show decide (n<1)=false from bt h1];refine gh ?_;refine GX.bz (hc:=fun _ hs=>N8 hW.r ah hs) (h:=fun w hH=>gh ?_)
 by_cases h3:1000<n - up
 ·rw[if_pos h3] at hr;subst hr;rw[show decide (1000<n - (up:Int))=true from bQ h3];refine gh ?_;exact⟨(),rfl,hW.ra ah,hH.to⟩
 rw[if_neg h3] at hr;rw[show decide (1000<n - (up:Int))=false from bt h3];refine gh ?_;refine GX.bz (hc:=fun _ hs=>V3 (L:=dg up R) ah n hs) (h:=fun w hH=>gh ?_);rw[Sf hW.r];have Mu:=acG (up:=up) (R:=R) h1;cases hh:vT up R n with
 |true=>
  rw[if_pos (Mu.1 hh)] at hr;subst hr;refine gh ?_;exact⟨(),rfl,hW.ra ah,hH.to⟩
 |false=>
 have bG:¬(n≤(up:Int)∨mr R n=true):=fun h=>by rw[Mu.2 h] at hh;cases hh
 rw[if_neg bG] at hr;refine gh ?_;replace hH:=hH.KT k nm;obtain⟨N,rfl⟩:∃N:Nat,n=N:=⟨n.toNat,by omega⟩
 simp only[tG] at hr;have EB:N∉R:=NC fun h=>bG (.inr h)
 have fE:=(WV hW.r (show up<N by omega) EB).2.1;obtain⟨X,hH⟩:=SH.un hH;replace hH:=SH.ap hH;obtain⟨Xe,Xq,Xc⟩:=X;dsimp only at hH;refine GC.bq (pl:=(aZ [0,3,6,12,10,16,20])) (T:=cS [b,c]) (hm:=mixed) (h:=fun w hE hH=>gh ?_);refine GX.gT (hc:=fun _ hs=>Bo hW.w hm t ht (fZ k nm) tW (OL k) hs) (h:=?_);rintro x w ⟨_,hE⟩ hS hH;replace hF:=hF hE;generalize (E.cI t (fZ k nm)).1=E2 at hH hr hF;generalize (E.cI t (fZ k nm)).2=rs at hH ⊢;replace hH:=SH.ap hH;subst hr;dsimp only at hF ⊢;rw[←fE];have gZ:=aij N (dg up R);have MS:=fun i x=>@aii N (dg up R) i x
 have x7:=fun x=>@aih N (dg up R) x
 rw[ND];generalize o4 N (dg up R)=p at gZ MS x7 ⊢;clear fE hh Mu hs;generalize dg up R=L at hH hlen gZ MS x7 ⊢;refine gh ?_;refine GC.bP [0,2] (fun i:Nat=>[(12,iV i)]) (fun i w'=>i≤p∧SH o w' [aA b [ak Xe, .slice (ay Xq) L.length Xc],bU Xe E2,ao 3 1 Xq L.length Xc (aD L)]) (fun i=>p - i) 0 rfl rfl ⟨bh _,hH.to⟩ ?_;rintro i w ⟨hi,hH⟩;have hXc:=hH.cap (el:=3) (sz:=1) (q:=Xq) (n:=L.length);refine gh ?_
 by_cases hip:i<p
 ·obtain⟨x,hx⟩:∃x,L[i]?=some x:=⟨_,bO ah⟩
  have Cd:=MS i x hip hx;obtain⟨qb,rfl⟩:=hH.pos (el:=3) (sz:=1) (q:=Xq) (n:=L.length);rw[show decide ((i:Int)<(L.length:Int))=true from bQ ah];refine gh ?_;refine GX.next rfl (GO.cG (hv:=show(aD L)[i]?=some (iV x) by simp[aD,hx]) (h:=gh ?_));rw[show decide ((x:Int)<(N:Int))=true from bQ ah];refine gh ?_;exact GQ.br (i+1) rfl ⟨by omega,hH.to⟩ ah
 obtain rfl:i=p:=by omega
 by_cases zQ:i<L.length
 case' pos=>
  obtain⟨x,hx⟩:∃x,L[i]?=some x:=⟨_,bO ah⟩
  have Cd:=x7 x hx;obtain⟨qb,rfl⟩:=hH.pos (el:=3) (sz:=1) (q:=Xq) (n:=L.length);rw[show decide ((i:Int)<(L.length:Int))=true from bQ ah];refine gh ?_;refine GX.next rfl (GO.cG (hv:=show(aD L)[i]?=some (iV x) by simp[aD,hx]) (h:=gh ?_));rw[show decide ((x:Int)<(N:Int))=false from bt ah];refine gh ?_;generalize (some qb)=Xq at hH ⊢
 case' neg=>
  rw[show decide ((i:Int)<(L.length:Int))=false from bt ah];refine gh ?_
 all_goals
  refine GX.nk (h:=fun b1 w hH=>gh ?_);have hA:=hH.bR (x:=ao 3 1 Xq L.length Xc (aD L)) (a:=ay Xq) (cs:=aD L) bL;have iw:=hA.sliced i Xc 1 (L.length - i) (fun h=>by omega);rw[show((aD L).drop (i*1)).take ((L.length - i)*1)=aD (L.drop i) by rw[kO,kO,eO (by simp[aD])];simp[aD]] at iw;refine GX.next rfl (GO.kL (j:=i) rfl (hh:=gh ?_));refine GX.nI (q:=some b1) (m2:=L.length - i) (c2:=Xc - i) (news:=aD (L.drop i)) (hN:=iw) (hnl:=by simp[aD]) (h1:=qM _) (h:=fun q1 c1 w hH=>gh ?_);have hA:=hH.bR (x:=ao 3 1 Xq L.length Xc (aD L)) (a:=ay Xq) (cs:=aD L) bL;have rz:=hA.sliced 0 Xc 1 i (fun h=>by omega);rw[show((aD L).drop (0*1)).take (i*1)=aD (L.take i) by simp[aD],vd] at rz;have aO:=SH.cE (el:=3) (sz:=1) (q:=none) (n:=0) (c:=0) (cs:=[]) hH (Mod.refl w) (fun _ h=>by cases h) (aG.nil _ _ _);replace hH:=aO;clear aO;refine GX.next rfl (GO.yR (j:=i) rfl (hh:=?_));rw[vd];refine gh ?_;refine GX.nI (q:=none) (len:=0) (cap:=0) (cs:=[]) (m2:=i) (c2:=Xc) (news:=aD (L.take i)) (hN:=rz) (hnl:=by simp[aD];omega) (h1:=qM _) (h:=fun q2 c2 w hH=>gh ?_);refine GX.nI (q:=q2) (m2:=1+(L.length - i)) (c2:=c1) (news:=[iV N]++aD (L.drop i)) (hN:=hH.bR (x:=ao 3 1 q1 (1+(L.length - i)) c1 ([iV N]++aD (L.drop i))) (a:=ay q1) bL) (hnl:=by simp[aD];omega) (h1:=qM (N::L.drop i)) (h:=fun q3 c3 w hH=>gh ?_);refine GX.dw (h:=fun w hH=>gh ?_);have e1:(L.take i++N::L.drop i).length=0+i+(1+(L.length - i)):=by simp;omega
  have e2:aD (L.take i++N::L.drop i)=[]++aD (L.take i)++([iV N]++aD (L.drop i)):=by simp[aD]
  have cF:SH o w [aA b [ak Xe, .slice (ay q3) (L.take i++N::L.drop i).length c3],bU Xe E2,ao 3 1 q3 (L.take i++N::L.drop i).length c3 (aD (L.take i++N::L.drop i))]:=by
   rw[e1,e2];exact hH.to
  exact⟨(),rfl,hF,(qR (b:=b) (E:=E2) (L:=L.take i++N::L.drop i) (X:=⟨Xe,q3,c3⟩) cF).to⟩
structure PI where
 r:Nat
 E:aq
 up:Nat
 R:List Nat
structure PA (a:ov):Prop where
 c:tL a.c a.y
 T:a.T≤never
 n:a.n<9223372036854775808
theorem step_ret {r md up m:Nat}{E:aq}{R:List Nat}(hW:kS E up R m)(hm:m<5000)(a:ov)(ha:PA a)(hs:Start o w (gk r E up R::lp md E (dg up R)::vE a.c a.y)) :
  aj prog 19 [ak r,ak md, .agg (qd a).toArray].toArray w (aU o (fun x:PI => .tuple #[ak x.r, .bool true]) (fun x=>kS x.E x.up x.R (m+2)) (fun x=>[gk x.r x.E x.up x.R,lp md x.E (dg x.up x.R)])):=by
 have hH:=hs.sh;have hl:=hW.l;obtain⟨hc,hT,hn⟩:=ha;obtain⟨oe,n,T,k,nm,c,y⟩:=a;dsimp only at hc hT hn hs hH;replace hH:=SH.xH (a:=y.k.1) (cs:=aM c.ks) hH bL;replace hH:=SH.xH (a:=y.v.1) (cs:=Lib.byteCells c.v) hH bL;replace hH:=SH.xH (a:=y.t.1) (cs:=aM c.t) hH bL;refine aj.enter func19 rfl ntmps19 rfl (gh ?_);refine GX.cw (h:=fun z w hH=>gh ?_)
 by_cases h0:oe=0
 ·rw[show decide (oe=0)=true from bQ h0];refine gh ?_;refine GX.bS (hc:=fun _ hs=>ag6 hW ah T hT n k nm hn hs) (h:=?_);rintro⟨⟩ w hR hH;replace hH:=SH.ap hH;refine gh ?_;refine GX.bS (hc:=fun _ hs=>CP hW ah T hT n k nm hn (dP E up R T n k nm).2.1 (dP E up R T n k nm).2.2 hs) (h:=?_);rintro⟨⟩ w hR2 hH;replace hH:=SH.ap hH;refine gh ?_;refine⟨⟨r,_,_,_⟩,?_,hR,hH.to⟩;simp
 rw[show decide (oe=0)=false from bt h0];refine gh ?_
 by_cases h1:oe=1
 ·rw[show decide (oe=1)=true from bQ h1];refine gh ?_;refine GX.bS (hc:=fun _ hs=>OP hW.w ah T hT c y hc hs) (h:=?_);rintro x w ⟨hx,hE⟩ hH;replace hH:=SH.ap hH;have pP:=aaQ hW.w ah hT c hc.keys;refine gh ?_;refine GX.cm (h:=fun p1 w hH=>gh ?_);refine GX.bc (h:=fun w hH=>gh ?_);refine GC.cut (X:=tP×Nat) (fun v=>[(0,ak r),(10,ak p1),(11,iV (E.cI T c).2.2),(12,ak v.2),(13,iV (E.cI T c).2.2)]) (fun v w'=>v.1.L.map (·.i)=(E.cI T c).2.1.L∧SH o w' ([gk r (E.cI T c).1 up R,lp md (E.cI T c).1 (dg up R),aA p1 (yN (E.cI T c).2.1 x),aA v.2 (yN (E.cI T c).2.1 v.1)]++(yM (E.cI T c).2.1 x++yM (E.cI T c).2.1 v.1))) ?_ ?_
  ·obtain⟨X,hH⟩:=SH.un (f:=fun X:vy=>X.dm md E (dg up R)) hH bL;replace hH:=SH.ap hH;refine GC.bq (pl:=(.pure 0 (.pure 1 (.pure 2 (.pure 4 (.pure 6 (.read 3 (.read 5 (.read 7 (.alt (.ax 8 (.pure 9 (.pure 10 (.pure 11 (.ax 12 (.ax 13 (.pure 14 .done))))))) (.ax 12 (.ax 8 (.pure 9 (.pure 10 (.pure 11 (.ax 13 (.pure 14 .done))))))))))))))))) (T:=cS [md,z]) (hm:=mixed) (h:=fun w hE hH=>gh ?_);refine GX.alt (gh ?_) (gh ?_)
   ·refine GX.gT (hc:=fun _ hs=>Bo hW.w ah T hT c y hc hs) (h:=?_);rintro x2 w ⟨ey,di⟩ hS hH;replace hH:=SH.ap hH;refine gh ?_;refine GX.Gu (h:=fun p2 w hS hH=>gh ?_);refine GX.CX (h:=fun w hH=>gh ?_);exact GQ.dx (x2,p2) (cZ (l:=[0,10,11,12,13]) rfl) ⟨ey,(qR (b:=md) (E:=(E.cI T c).1) (L:=dg up R) (X:=X) hH).to⟩
   ·refine GX.Gu (h:=fun p2 w hS hH=>gh ?_);refine GX.gT (hc:=fun _ hs=>Bo hW.w ah T hT c y hc hs) (h:=?_);rintro x2 w ⟨ey,di⟩ hS hH;replace hH:=SH.ap hH;refine gh ?_;refine GX.CX (h:=fun w hH=>gh ?_);exact GQ.dx (x2,p2) (cZ (l:=[0,10,11,12,13]) rfl) ⟨ey,(qR (b:=md) (E:=(E.cI T c).1) (L:=dg up R) (X:=X) hH).to⟩
  rintro⟨x2,p2⟩ w ⟨ey,hH⟩;dsimp only at ey hH;replace hH:=SH.ap hH;refine gh ?_;refine GX.bz (hc:=fun _ hs=>ai0 (E.cI T c).2.1 x x2 hx ey pP hs) (h:=fun w hH=>gh ?_);rw[show decide ((E.cI T c).2.2=(E.cI T c).2.2)=true from bQ rfl];refine gh ?_;exact⟨⟨r,(E.cI T c).1,up,R⟩,rfl,⟨hE,hW.r,eh hl (Nat.le_add_right _ _),fun z hz=>eh (hW.b z hz) ah⟩,hH.to⟩
 rw[show decide (oe=1)=false from bt h1];refine gh ?_;refine GX.bS (hc:=fun _ hs=>aiv hW.w ah hs) (h:=?_);rintro r2 w _ hH;replace hH:=SH.ap hH;refine gh ?_;refine GC.bq (pl:=(aZ [0,3,9,18,7,14,15,23])) (T:=cS [z]) (hm:=mixed) (h:=fun w hE hH=>gh ?_);refine GX.gz (hc:=fun _ hs=>CO (b:=r) hs) (h:=fun w hS hH=>gh ?_);refine GX.gT (hc:=fun _ hs=>OQ (b:=r) hW ah T hT ((up:Int)+1) 4 [] ah hs) (h:=?_);rintro⟨⟩ w hR hS hH;replace hH:=SH.ap hH;refine gh ?_;have iA:=hR.l;refine GC.bq (pl:=(aZ [0,3,9,7,14,15,20,23])) (T:=cS [z]) (hm:=mixed) (h:=fun w hE hH=>gh ?_);refine GX.gz (hc:=fun _ hs=>CO (b:=r) hs) (h:=fun w hS hH=>gh ?_);refine GX.xF (hc:=fun _ hs=>Gc [116] hs) (h:=fun w hS hH=>gh ?_);refine GX.gT (hc:=fun _ hs=>OQ (b:=r) hR ah T hT (((dP E up R T ((up:Int)+1) 4 []).1.up:Int)+2) 1 [116] ah hs) (h:=?_);rintro⟨⟩ w hR2 hS hH;replace hH:=SH.ap hH;refine gh ?_;exact⟨⟨r2,E,up,R⟩,rfl,hW.ra ah,hH.to⟩
end Go.Proofs.YtmlpbmgfmnmmmaaGreat.V.M
