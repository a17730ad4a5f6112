/-
  Parts of the proof. No condition.
-/
import Derived.Test.YtoloaehmppcjoaaGreatW2bw
set_option linter.unusedVariables false
set_option linter.unusedSimpArgs false
set_option maxRecDepth 8000
set_option maxHeartbeats 8000000
open Go.Proofs.Tryz
namespace Go.Proofs.YtoloaehmppcjoaaGreat.V.M
section
attribute [local irreducible] GO GX aB eX fz aF aS aq star
variable {o:Og}{w:World}
def vP (x:Nat×Nat):List Value:=[iV x.1,iV x.2]
theorem Rr (x:Nat×Nat):(vP x).length=2:=rfl
theorem ab0 (x:Nat×Nat):∀u∈vP x,u.oneCell'=true:=by
 intro u hu;simp only[vP,bU,uc,or_false] at hu
 rcases hu with rfl|rfl<;>rfl
theorem ae4 {m:Nat}{A:List (Int×Bool)}(hs:Start o w [aS m iV bV A]) :
  aj prog 41 [.map (some m)].toArray w (aX o (fun bx:Nat => .func (.func 85) #[] #[ak bx]) (fun _=>True) (fun bx=>[aB bx [.map (some m)],aS m iV bV A])):=by
 have hH:=hs.sh;refine aj.enter func41 rfl ntmps41 rfl (gh ?_);refine GX.cI (h:=fun bx w hH=>gh ?_);exact⟨bx,rfl,trivial,hH.to⟩
theorem ab2 (f:Nat)(R:List Nat):(nU f R).length≤R.length:=by
 induction R generalizing f with
 |nil=>exact aY _
 |cons x r ih=>
  unfold nU;rw[bH,ek];have:=ih (x+1);split<;>simp<;>omega
def qH (f:Nat)(R:List Nat)(i:Nat):Nat:=if i=0 then f else R.getD (i - 1) 0+1
theorem ab3 {R:List Nat}{f i x:Nat}(h:R[i]?=some x):nU f (R.take (i+1))=nU f (R.take i)++(if qH f R i<x then[(qH f R i,x)] else[]):=by
 obtain⟨g,h1,h2,h3⟩:=ab4 (f:=f) h;have hg:g=qH f R i:=by
  unfold qH;split
  ·exact h2 (by assumption)
  ·rename_i hi
   have aN:i - 1<R.length:=by have:=(aV.1 h).1;omega
   have:=h3 R[i - 1] ah (bO aN);rw[this,dP,bO aN];rfl
 rw[←hg];exact h1 f rfl
theorem abX {R:List Nat}{f i x:Nat}(h:R[i]?=some x):qH f R (i+1)=x+1:=by
 unfold qH;rw[if_neg ah,Nat.add_sub_cancel,dP,h];rfl
theorem OV {b up m:Nat}{E:ao}{R:List Nat}(hW:nP E up R m)(hm:m<6000)(hs:Start o w [oC b E up R]) :
  aj prog 15 [ak b].toArray w (aX o (fun q:Option Nat×Nat => .slice (aA q.1) (nU (up+1) R).length q.2) (fun _=>True) (fun q=>[oC b E up R,aq 99 2 q.1 (nU (up+1) R).length q.2 (aL vP (nU (up+1) R))])):=by
 have hH:=hs.sh;have hl:=hW.l;have hb:=hW.b;obtain⟨⟨X,hX⟩,hH⟩:=SH.un hH;replace hH:=SH.ap hH;dsimp only at hH;refine aj.enter func15 rfl ntmps15 rfl (gh ?_);refine GX.aM (hc:=fun _ hs=>FK hs) (h:=fun w hE hH=>gh ?_);refine gh ?_;refine GX.bZ (hc:=fun _ hs=>ae4 hs) (h:=?_);rintro bx w _ hH;replace hH:=SH.ap hH;refine gh ?_;refine GX.ef (hc:=fun _ hs=>akW hX hW.r.so ah (fun x hx=>by have:=hb x hx;omega) hs) (h:=?_);rintro⟨q,c⟩ w _ hE hH;replace hH:=SH.ap hH;have aQ:=SH.cF (el:=99) (sz:=2) (q:=none) (n:=0) (c:=0) (cs:=[]) hH (Mod.refl w) (fun _ h=>by cases h) (aH.nil _ _ _);replace hH:=aQ;clear aQ;obtain⟨Xe,Xm,A⟩:=X;dsimp only at hH hX ⊢;refine gh ?_;refine GC.bR [19,20] (fun y:Nat×Option Nat×Nat=>[(3, .slice (aA y.2.1) (nU (up+1) (R.take y.1)).length y.2.2),(4,iV (qH (up+1) R y.1)),(21,iV y.1)]) (fun y w'=>y.1≤R.length∧SH o w' [aq 99 2 y.2.1 (nU (up+1) (R.take y.1)).length y.2.2 (aL vP (nU (up+1) (R.take y.1))),aq 3 1 q R.length c (aG R),aB b [ak Xe,iV up, .map (some Xm)],cB Xe E,aS Xm iV bV A]) (fun y=>R.length - y.1) (0,none,0) rfl rfl ⟨bh _,hH.to⟩ ?_;rintro⟨i,q3,c3⟩ w ⟨hi,hH⟩;dsimp only at hi hH ⊢;have p6:qH (up+1) R i≤100000:=by
  unfold qH;split
  ·omega
  ·rw[dP,bO ah];have:=hb _ (pI (l:=R) (n:=i - 1) ah);simp only[oN];omega
 have oe:=ab2 (up+1) (R.take i);rw[dI] at oe;refine gh ?_;refine ifs (fun h1=>?_) (fun h1=>?_)<;>refine gh ?_
 ·obtain⟨x,hx⟩:∃x,R[i]?=some x:=⟨_,bO ah⟩
  have gi:=hb x (bD hx);have dp:=ab3 (f:=up+1) hx;have Ij:=abX (f:=up+1) hx;obtain⟨qb,rfl⟩:=hH.pos (el:=3) (sz:=1) (q:=q) (n:=R.length);refine gh ?_;refine GX.next rfl (GO.cT (hv:=show(aG R)[i]?=some (iV x) by simp[aG,hx]) (h:=gh ?_))
  by_cases aN:qH (up+1) R i<x
  ·rw[if_pos aN] at dp;rw[show decide ((qH (up+1) R i:Int)<(x:Int))=true from b8 ah];refine gh ?_;refine GX.nR (h1:=by exact ab0 (qH (up+1) R i,x)) (h:=fun q c w _ hH=>gh ?_);refine GQ.bj (i+1,q,c) (by rw[dp,Ij,bH];rfl) ⟨by dsimp only;omega,?_⟩ (by dsimp only;omega);rw[dp,bH,lH];exact hH.to
  ·rw[if_neg aN,fB] at dp;rw[show decide ((qH (up+1) R i:Int)<(x:Int))=false from bQ ah];refine gh ?_;refine GQ.bj (i+1,q3,c3) (by rw[dp,Ij];rfl) ⟨by dsimp only;omega,?_⟩ (by dsimp only;omega);rw[dp];exact hH.to
 ·obtain rfl:i=R.length:=by omega
  rw[fw (aY _)] at hH ⊢;refine gh ?_;exact⟨(q3,c3),rfl,trivial,(sJ (X:=⟨Xe,Xm,A⟩) hX hH).to⟩
def kr (x:Int×Bs):List Value:=[iV x.1,str x.2]
theorem AH (x:Int×Bs):(kr x).length=2:=rfl
theorem JT (x:Int×Bs):∀u∈kr x,u.oneCell'=true:=by
 intro u hu;simp only[kr,bU,uc,or_false] at hu
 rcases hu with rfl|rfl<;>rfl
abbrev Np (h:Nat)(L:List (Int×Bs))(X:Option Nat×Nat):List It:=[aB h [.slice (aA X.1) L.length X.2],aq 31 2 X.1 L.length X.2 (aL kr L)]
def mK (h:Nat)(L:List (Int×Bs)):It:=star fun X:Option Nat×Nat=>Np h L X
theorem yl {l t:List It}{h:Nat}{L:List (Int×Bs)}(X:Option Nat×Nat)(hH:SH o w l)(hp:Pk l (Np h L X) t:=by repeat(first|exact Pk.nil|(apply Pk.cons;repeat(first|exact az.here|apply az.there)))):SH o w (mK h L::t):=
 SH.fold (f:=fun X:Option Nat×Nat=>Np h L X) X hH hp
def qj (L:List (Int×Bs))(k:Int)(nm:Bs):List (Int×Bs):=if mP k nm=true then L++[(k,nm)] else L
def AG (L:List (Int×Bs))(k:Int)(nm:Bs):Int:=if mP k nm=true then((L.length+1:Nat):Int) else 0
def CI (k:Int)(nm:Bs):Int:=if mP k nm=true then 0 else 2
theorem Tw {h:Nat}{L:List (Int×Bs)}(hl:L.length<9000)(k:Int)(nm:Bs)(hs:Start o w [mK h L]) :
  aj prog 8 [ak h, .agg #[iV k,str nm]].toArray w (Po o (.tuple #[iV (AG L k nm),iV (CI k nm)]) [mK h (qj L k nm)]):=by
 have hH:=hs.sh;obtain⟨X,hH⟩:=SH.un hH;replace hH:=SH.ap hH;obtain⟨q,c⟩:=X;dsimp only at hH;unfold qj AG CI;refine aj.enter func8 rfl ntmps8 rfl (gh ?_);refine GX.cI (h:=fun z w hH=>gh ?_);refine GX.aM (hc:=fun _ hs=>Qf k nm hs) (h:=fun w hE hH=>gh ?_);refine GX.cA (h:=fun cc w hH=>gh ?_);refine GX.bt (h:=fun w hH=>gh ?_);cases aU:mP k nm with
 |false=>
  refine gh ?_;exact⟨rfl,(yl (q,c) hH).to⟩
 |true=>
  refine gh ?_;rw[show decide ((10000:Int)≤(L.length:Int))=false from bQ ah];refine gh ?_;have nZ:∀{w:World}{q':Option Nat}{c':Nat}{rest:List It},SH o w (aB h [.slice (aA q') (L.length+1) c']::aq 31 2 q' (L.length+1) c' (aL kr L++kr (k,nm))::rest)→SH o w (mK h (L++[(k,nm)])::rest):=by
   intro w q' c' rest hH;rw[←lH] at hH;rw[show L.length+1=(L++[(k,nm)]).length by simp] at hH;exact yl (q',c') hH
  refine GC.br (pl:=(.pure 0 (.pure 1 (.pure 2 (.pure 3 (.alt (.aw 4 (.aw 5 (.aw 6 (.aw 7 (.pure 8 (.pure 9 (.aw 10 .done))))))) (.aw 5 (.alt (.aw 4 (.aw 6 (.aw 7 (.pure 8 (.pure 9 (.aw 10 .done)))))) (.aw 6 (.aw 4 (.aw 7 (.pure 8 (.pure 9 (.aw 10 .done)))))))))))))) (T:=dt []) (hm:=mixed) (h:=fun w hE hH=>gh ?_);refine GX.alt (gh ?_) (gh ?_)
  ·refine GX.mg (h:=fun b2 w hS hH=>gh ?_);refine GX.oU (hT:=fun _ _ h=>by cases h) (h1:=JT (k,nm)) (h:=fun q' c' w hS hH=>gh ?_);refine GX.fO (h:=fun w hH=>gh ?_);exact⟨rfl,(nZ (rest:=[]) hH.to).to⟩
  ·refine GX.alt (gh ?_) (gh ?_)
   ·refine GX.mg (h:=fun b2 w hS hH=>gh ?_);refine GX.oU (hT:=fun _ _ h=>by cases h) (h1:=JT (k,nm)) (h:=fun q' c' w hS hH=>gh ?_);refine GX.fO (h:=fun w hH=>gh ?_);exact⟨rfl,(nZ (rest:=[]) hH.to).to⟩
   ·refine GX.mg (h:=fun b2 w hS hH=>gh ?_);refine GX.oU (hT:=fun _ _ h=>by cases h) (h1:=JT (k,nm)) (h:=fun q' c' w hS hH=>gh ?_);refine GX.fO (h:=fun w hH=>gh ?_);exact⟨rfl,(nZ (rest:=[]) hH.to).to⟩
theorem MO {h:Nat}{L:List (Int×Bs)}(hs:Start o w [mK h L]):aj prog 11 [ak h].toArray w (Po o (iV L.length) [mK h L]):=by
 have hH:=hs.sh;obtain⟨X,hH⟩:=SH.un hH;replace hH:=SH.ap hH;refine aj.enter func11 rfl ntmps11 rfl (gh ?_);exact⟨rfl,(yl X hH).to⟩
theorem SI {h n:Nat}{L:List (Int×Bs)}(h1:1≤n)(hl:L.length<9000){x:Int×Bs}(hx:L[n - 1]?=some x)(hs:Start o w [mK h L]):aj prog 12 [ak h,iV n].toArray w (Po o (.tuple #[.agg (kr x).toArray,iV 0]) [mK h L]):=by
 have hH:=hs.sh;obtain⟨X,hH⟩:=SH.un hH;replace hH:=SH.ap hH;obtain⟨q,c⟩:=X;dsimp only at hH;have aN:=(aV.1 hx).1;refine aj.enter func12 rfl ntmps12 rfl (gh ?_);refine GX.cA (h:=fun z w hH=>gh ?_);rw[show decide ((n:Int)<1)=false from bQ ah];refine gh ?_;rw[show decide ((L.length:Int)<(n:Int))=false from bQ ah];obtain⟨qb,rfl⟩:=hH.pos (el:=31) (sz:=2) (q:=q) (n:=L.length);refine gh ?_
 skip
 refine GX.next rfl (GO.kg (j:=(n - 1)*2) (hv:=ku AH hx) (h:=gh ?_));refine GX.bt (h:=fun w hH=>gh ?_);exact⟨rfl,(yl (some qb,c) hH).to⟩
theorem adl {h n:Nat}{L:List (Int×Bs)}(h1:L.length<n)(hs:Start o w [mK h L]):aj prog 12 [ak h,iV n].toArray w (Po o (.tuple #[.agg #[iV 0,str []],iV 3]) [mK h L]):=by
 have hH:=hs.sh;obtain⟨X,hH⟩:=SH.un hH;replace hH:=SH.ap hH;obtain⟨q,c⟩:=X;dsimp only at hH;refine aj.enter func12 rfl ntmps12 rfl (gh ?_);refine GX.cA (h:=fun z w hH=>gh ?_);rw[show decide ((n:Int)<1)=false from bQ ah];refine gh ?_;rw[show decide ((L.length:Int)<(n:Int))=true from b8 ah];refine gh ?_;refine GX.bt (h:=fun w hH=>gh ?_);exact⟨rfl,(yl (q,c) hH).to⟩
theorem Kr (nm:Bs)(hs:Start o w []):aj prog 33 [str nm].toArray w (Po o (.agg #[iV 1,str nm]) []):=by
 have hH:=hs.sh;refine aj.enter func33 rfl ntmps33 rfl (gh ?_);refine GX.cA (h:=fun z w hH=>gh ?_);refine GX.bt (h:=fun w hH=>gh ?_);exact⟨rfl,hH.to⟩
def nS:rF:=⟨10000,10,10,10,10,5,0⟩
theorem ajH (hs:Start o w []):aj prog 34 ([]:List Value).toArray w (Po o (.agg (G9 nS).toArray) []):=by
 have hH:=hs.sh;refine aj.enter func34 rfl ntmps34 rfl (gh ?_);refine GX.cA (h:=fun z w hH=>gh ?_);refine GX.bt (h:=fun w hH=>gh ?_);exact⟨rfl,hH.to⟩
theorem OS {h:Nat}{L:List (Int×Bs)}(hl:L.length<9000)(k:Int)(nm:Bs)(n no:Int)(hs:Start o w [mK h L]) :
  aj prog 32 [ak h, .agg #[iV k,str nm],iV n,iV no].toArray w (Po o (.bool (decide (AG L k nm=n)&&decide (CI k nm=no))) [mK h (qj L k nm)]):=by
 have hH:=hs.sh;refine aj.enter func32 rfl ntmps32 rfl (gh ?_);refine GX.cI (h:=fun z w hH=>gh ?_);refine GX.bF (hc:=fun _ hs=>Tw hl k nm hs) (h:=fun w hH=>gh ?_);cases hd:decide (AG L k nm=n) with
 |true=>refine gh ?_;exact⟨rfl,hH.to⟩
 |false=>refine gh ?_;exact⟨rfl,hH.to⟩
theorem FM {b up m:Nat}{E:ao}{R:List Nat}(hW:nP E up R m)(hm:m<6000)(t:Nat)(ht:t≤never)(n k:Int)(nm:Bs)(hn:n<9223372036854775808)(want:Bool)(no:Int)(hs:Start o w [oC b E up R]) :
  aj prog 35 [ak b,uV t,iV n, .agg #[iV k,str nm], .bool want,iV no].toArray w (aX o (fun _:Unit => .bool (((eC E up R t n k nm).2.1 == want)&&decide ((eC E up R t n k nm).2.2=no))) (fun _=>nP (eC E up R t n k nm).1.E (eC E up R t n k nm).1.up (eC E up R t n k nm).1.R (m+2)) (fun _=>[oC b (eC E up R t n k nm).1.E (eC E up R t n k nm).1.up (eC E up R t n k nm).1.R])):=by
 have hH:=hs.sh;refine aj.enter func35 rfl ntmps35 rfl (gh ?_);refine GX.cI (h:=fun z w hH=>gh ?_);refine GX.bZ (hc:=fun _ hs=>WW hW hm t ht n k nm hn hs) (h:=?_);rintro⟨⟩ w hR hH;replace hH:=SH.ap hH;generalize eC E up R t n k nm=r at hH hR ⊢;refine gh ?_;cases hd:(r.2.1 == want) with
 |true=>refine gh ?_;exact⟨(),rfl,hR,hH.to⟩
 |false=>refine gh ?_;exact⟨(),rfl,hR,hH.to⟩
theorem ab1 (l:List (Nat×Nat))(hl:l.length<2^40){q1 q2:Option Nat}{c1 c2:Nat}(hs:Start o w [aq 99 2 q1 l.length c1 (aL vP l),aq 99 2 q2 l.length c2 (aL vP l)]) :
  aj prog 36 [.slice (aA q1) l.length c1, .slice (aA q2) l.length c2].toArray w (Po o (.bool true) []):=by
 have hH:=hs.sh;refine aj.enter func36 rfl ntmps36 rfl (gh ?_);rw[show decide ((l.length:Int)≠(l.length:Int))=false from bQ ah];refine gh ?_;refine GC.bR [0,1] (fun k:Nat=>[(5,iV k)]) (fun k w'=>k≤l.length∧SH o w' [aq 99 2 q1 l.length c1 (aL vP l),aq 99 2 q2 l.length c2 (aL vP l)]) (fun k=>l.length - k) 0 rfl rfl ⟨bh _,hH.to⟩ ?_;rintro k w ⟨hk,hH⟩;refine gh ?_;refine ifs (fun h1=>?_) (fun h1=>?_)<;>refine gh ?_
 ·obtain⟨x,hx⟩:∃x,l[k]?=some x:=⟨_,bO ah⟩
  obtain⟨b1,rfl⟩:=hH.pos (el:=99) (sz:=2) (q:=q1) (n:=l.length);obtain⟨b2,rfl⟩:=hH.pos (el:=99) (sz:=2) (q:=q2) (n:=l.length);refine gh ?_;refine GC.br (pl:=(bg [0,3,6,12,15,18,10,22,24])) (T:=fun _=>False) (hm:=mixed) (h:=fun w hE hH=>gh ?_);refine GX.read rfl (GO.yB (hv:=ku Rr hx) (h:=gh ?_));refine GX.read rfl (GO.yB (hv:=ku Rr hx) (h:=gh ?_));rw[show(!(decide ((x.1:Int)=(x.1:Int))&&(decide ((x.2:Int)=(x.2:Int))&&true)))=false by simp];refine gh ?_;exact GQ.bj (k+1) rfl ⟨by omega,hH.to⟩ ah
 ·refine gh ?_;exact⟨rfl,hH.to⟩
end
section
theorem aho (l:List gI):∀E:ao,∃c,E.notes l={ E with cP:=c}:=by
 unfold ao.notes
 induction l with
 |nil=>exact fun E=>⟨E.cP,rfl⟩
 |cons x l ih=>
  intro E;obtain⟨c,hc⟩:=ih (E.raise (yE x.i.m) 1);exact⟨c,hc⟩
theorem Wp (E:ao)(op:Int)(L:List mX)(n:Nat):∃c,E.jD op L n={ E with cP:=c}:=by
 unfold ao.jD ao.note;obtain⟨c,hc⟩:=aho (L.map fun i=>(⟨i,none,0⟩:gI)) ((E.raise 0 1).raise 2 (L.map fun i=>(⟨i,none,0⟩:gI)).length);rw[hc];unfold ao.Ax
 (repeat' split)<;>exact⟨_,rfl⟩
theorem XW {E:ao}(h:∀x∈E.s.E,x.d=never)(t:Nat):∃K,E.start t={ E with now:=max E.now t,a:=E.a.at (max E.now t),s:={ E.s with K:=K}}:=by
 have h1:E.s.E.filter (fun e=>due e.d (max E.now t))=[]:=List.filter_eq_nil_iff.2 fun x hx=>by simp[due,h x hx]
 have h2:E.s.E.filter (fun e=>!due e.d (max E.now t))=E.s.E:=oM.2 fun x hx=>by simp[due,h x hx]
 have hg:E.s.gone (max E.now t)=[]:=by
  unfold bw.gone;rw[h1];exact gu (CQ _).length_eq
 refine⟨(E.s.left (max E.now t)).K,?_⟩;unfold ao.start;rw[hg];show E.lK t=_;unfold ao.lK bw.left;rw[h2]
theorem Ox {u:Pu}{now:Nat}(h:∀y∈u.soft,y.2=1)(hn:now≤1):u.norm 9 now=u:=by
 obtain⟨hd,sf⟩:=u;cases sf with
 |nil=>rfl
 |cons y r=>
  have hy:y.2=1:=h y (oK);have ho:yI 9 now y=false:=by
   unfold yI due lL never;rw[hy,if_neg ah];exact bQ ah
  show pk 9 now (y::r) hd=_;rw[pk,if_neg (by rw[ho];simp)]
theorem Cu {N:eF}{s:Bs}{m:Nat}(h:jB N s=some m):∃x,N[m]?=some x∧0<x.2∧x.1=s:=by
 unfold jB at h;obtain⟨hm,h1,_⟩:=y6.1 h;have:=dM h1;exact⟨N[m],bO hm,this⟩
theorem VW {P Q:Bs→Nat}{s:Bs}:∀n,(∀i,P (s.take i)=Q (s.take i))→lE P s n=lE Q s n
 |0,_=>rfl
 |n+1,h=>by unfold lE;rw[VW n h,h n]
theorem VV {P:Bs→Nat}{s:Bs}{i:Nat}:∀{n},i<n→P (s.take i)≤lE P s n
 |n+1,h=>by
  unfold lE
  by_cases hi:i=n
  ·subst hi;exact Nat.le_max_right _ _
  ·exact dF (VV ah) (Nat.le_max_left _ _)
theorem ahv {E:iq}{p k:Bs}{n:Nat}(h:p <+: k):n≤(E.oA p n).of k:=by
 have hl:=h.length_le;have ht:k.take p.length=p:=(List.prefix_iff_eq_take.1 h).symm;have:=VV (P:=(E.oA p n).T.P) (s:=k) (i:=p.length) (n:=k.length+1) ah;rw[ht] at this;have e:(E.oA p n).T.P p=n:=by simp[iq.oA]
 rw[e] at this;exact dF this (Nat.le_max_right _ _)
theorem ahw {E:iq}{p k:Bs}{n:Nat}(h:¬p <+: k):(E.oA p n).of k=E.of k:=by
 have e:sy (E.oA p n).T.P k=sy E.T.P k:=by
  refine VW _ fun i=>?_
  show(if k.take i=p then n else if p <+: k.take i then 0 else E.T.P (k.take i))=_;rw[if_neg fun(e:k.take i=p)=>h (e▸List.take_prefix i k),if_neg fun e=>h (e.trans (List.take_prefix i k))]
 unfold iq.of;rw[e];rfl
def pZ (kd:Int)(nm k t:Bs):Bool:=decide (kd=4)||(decide (kd=3)&&decide (nm <+: k))||(decide (kd=1)&&decide (nm=t))
def ry (kd:Int)(nm t:Bs):Bool:=decide (kd=2)&&decide (nm=t)
structure PI (E:ao)(k:Bs)(x:bM)(m:Nat)(t:Bs)(H S:Bool):Prop where
 due:∀y∈E.s.E,y.d=never
 vO:jq E.s.E k=some x
 num:qn E.r x.n=[m]
 idx:jB E.r.N t=some m
 tag:eV t=true
 st:x.st=0
 now:E.now≤1
 rJ:E.a.now≤1
 gr:E.a.dK=9
 hi:H=true→0<E.p.of k∨0<(E.a.A m).jv
 lo:H=false→E.p.of k=0∧(E.a.A m).jv=0
 so:S=true→H=false→(E.a.A m).soft≠[]∧1≤E.a.now
 ns:S=false→(E.a.A m).soft=[]
 sf:∀y∈(E.a.A m).soft,0<y.1∧y.2=1
theorem PI.cP {E:ao}{k:Bs}{x:bM}{m:Nat}{t:Bs}{H S:Bool}(h:PI E k x m t H S)(c:List Nat):PI { E with cP:=c} k x m t H S:=
 ⟨h.due,h.vO,h.num,h.idx,h.tag,h.st,h.now,h.rJ,h.gr,h.hi,h.lo,h.so,h.ns,h.sf⟩
theorem PI.start {E:ao}{k:Bs}{x:bM}{m:Nat}{t:Bs}{H S:Bool}(h:PI E k x m t H S):PI (E.start 1) k x m t H S∧(E.start 1).now=1∧(E.start 1).a.now=1:=by
 obtain⟨K,hK⟩:=XW h.due 1;have uL:=h.now;have acO:=h.rJ;have hm:max E.now 1=1:=by omega
 have gf:max E.a.now 1=1:=by omega
 have hA:(E.a.at 1).A m=E.a.A m:=by
  show(E.a.A m).norm E.a.dK (max E.a.now 1)=_;rw[h.gr,gf];exact Ox (fun y hy=>(h.sf y hy).2) (aY _)
 rw[hK,hm];refine⟨⟨h.due,h.vO,h.num,h.idx,h.tag,h.st,aY _,?_,h.gr,?_,?_,?_,?_,?_⟩,rfl,gf⟩
 ·show max E.a.now 1≤1;omega
 ·intro hH;rw[hA];exact h.hi hH
 ·intro hH;rw[hA];exact h.lo hH
 ·intro hS hH;rw[hA];exact⟨(h.so hS hH).1,Nat.le_of_eq gf.symm⟩
 ·intro hS;rw[hA];exact h.ns hS
 ·rw[hA];exact h.sf
theorem Om {S:bW}{m:Nat}(h1:S.dK=9)(h2:S.now=1)(h:∀y∈(S.A m).soft,0<y.1∧y.2=1):(S.next 1).A m=S.A m:=by
 show(S.A m).norm S.dK (max S.now 1)=_;rw[h1,h2];exact Ox (fun y hy=>(h y hy).2) (by decide)
theorem ajK {l:List (Nat×Nat)}{n:Nat}(h:∀y∈l,0<y.1∧y.2=1):(∀y∈rv l (n+1,1),0<y.1∧y.2=1)∧rv l (n+1,1)≠[]:=by
 unfold rv;split
 ·refine⟨fun y hy=>?_,by simp⟩
  rcases cx.1 hy with hy|hy
  ·exact h y (List.dropLast_subset l hy)
  ·rw[jn.1 hy];exact⟨by simp,rfl⟩
 ·refine⟨fun y hy=>?_,by simp⟩
  rcases cx.1 hy with hy|hy
  ·exact h y hy
  ·rw[jn.1 hy];exact⟨by simp,rfl⟩
theorem PI.alx {E:ao}{k:Bs}{x:bM}{m:Nat}{t:Bs}{H S:Bool}(h:PI E k x m t H S)(h1:E.now=1)(h2:E.a.now=1)(nm:Bs)(hn:eV nm=true):PI (E.kW 8 nm) k x m t (H||decide (nm=t)) S:=by
 have hA:=Om h.gr h2 h.sf;have h3:(E.a.next E.now).now=1:=by show max E.a.now E.now=1;omega
 have hg:(E.a.next E.now).dK=9:=h.gr;obtain⟨y,wF,uW,Nz⟩:=Cu h.idx
 by_cases q7:nm=t
 ·have hf:gD E.r.N nm=(((m:Nat):Int),0):=by unfold gD;rw[if_pos hn,q7,h.idx]
  have e:((E.kW 8 nm).a.A m)=⟨E.a.last+1,[]⟩:=by
   show(E.ij 8 nm).A m=_;unfold ao.ij;rw[hf,if_neg (by simp),if_neg (by decide)];show(if m=m then _ else _)=_;rw[if_pos rfl];rfl
  have e2:(E.kW 8 nm).a.now=1∧(E.kW 8 nm).a.dK=9:=by
   show(E.ij 8 nm).now=1∧(E.ij 8 nm).dK=9;unfold ao.ij;rw[hf,if_neg (by simp),if_neg (by decide)];exact⟨h3,hg⟩
  refine⟨h.due,h.vO,h.num,h.idx,h.tag,h.st,h.now,Nat.le_of_eq e2.1,e2.2,?_,?_,?_,?_,?_⟩
  ·intro _;rw[e];exact .inr (Nat.succ_pos _)
  ·intro hH;rw[b8 q7] at hH;simp at hH
  ·intro _ hH;rw[b8 q7] at hH;simp at hH
  ·intro _;rw[e]
  ·rw[e];intro y hy;cases hy
 ·have e:((E.kW 8 nm).a.A m)=E.a.A m:=by
   show(E.ij 8 nm).A m=_;unfold ao.ij;rw[h1];split
   ·exact hA
   ·rename_i hf
    obtain⟨z,hz⟩:∃z,jB E.r.N nm=some z:=by
     unfold gD at hf;rw[if_pos hn] at hf;cases hz:jB E.r.N nm with
     |some z=>exact⟨z,rfl⟩
     |none=>rw[hz] at hf;simp at hf
    obtain⟨u,uR,Ah,Nn⟩:=Cu hz;have NF:m≠z:=fun e=>by
     rw[←e,wF] at uR;cases uR;exact q7 (Nn.symm.trans Nz)
    rw[if_neg (by decide)];have rS:gD E.r.N nm=(((z:Nat):Int),0):=by unfold gD;rw[if_pos hn,hz]
    rw[rS];show(if m=z then _ else _)=_;rw[if_neg NF];exact hA
  have e2:(E.kW 8 nm).a.now=1∧(E.kW 8 nm).a.dK=9:=by
   show(E.ij 8 nm).now=1∧(E.ij 8 nm).dK=9;unfold ao.ij
   (repeat' split)<;>exact⟨h3,hg⟩
  rw[bQ q7,Bool.or_false];refine⟨h.due,h.vO,h.num,h.idx,h.tag,h.st,h.now,Nat.le_of_eq e2.1,e2.2,?_,?_,?_,?_,?_⟩
  ·rw[e];exact h.hi
  ·rw[e];exact h.lo
  ·rw[e];exact fun hS hH=>⟨(h.so hS hH).1,Nat.le_of_eq e2.1.symm⟩
  ·rw[e];exact h.ns
  ·rw[e];exact h.sf
theorem PI.aly {E:ao}{k:Bs}{x:bM}{m:Nat}{t:Bs}{H S:Bool}(h:PI E k x m t H S)(h1:E.now=1)(h2:E.a.now=1)(nm:Bs)(hn:eV nm=true):PI (E.kW 9 nm) k x m t H (S||decide (nm=t)):=by
 have hA:=Om h.gr h2 h.sf;have h3:(E.a.next E.now).now=1:=by show max E.a.now E.now=1;omega
 have hg:(E.a.next E.now).dK=9:=h.gr;obtain⟨y,wF,uW,Nz⟩:=Cu h.idx
 by_cases q7:nm=t
 ·have hf:gD E.r.N nm=(((m:Nat):Int),0):=by unfold gD;rw[if_pos hn,q7,h.idx]
  obtain⟨mJ,oq⟩:=ajK (n:=E.a.last) h.sf;have e:((E.kW 9 nm).a.A m)=⟨(E.a.A m).jv,rv (E.a.A m).soft (E.a.last+1,1)⟩:=by
   show(E.ij 9 nm).A m=_;unfold ao.ij;rw[hf,if_neg (by simp),if_pos rfl];show(if m=m then Pu.norm (E.a.next E.now).dK (E.a.next E.now).now ⟨((E.a.next E.now).A m).jv,rv ((E.a.next E.now).A m).soft (E.a.last+1,(E.a.next E.now).now)⟩ else _)=_;rw[if_pos rfl,h3,hg,h1,hA];exact Ox (fun y hy=>(mJ y hy).2) (aY _)
  have e2:(E.kW 9 nm).a.now=1∧(E.kW 9 nm).a.dK=9:=by
   show(E.ij 9 nm).now=1∧(E.ij 9 nm).dK=9;unfold ao.ij;rw[hf,if_neg (by simp),if_pos rfl];exact⟨h3,hg⟩
  rw[b8 q7,Bool.or_true];refine⟨h.due,h.vO,h.num,h.idx,h.tag,h.st,h.now,Nat.le_of_eq e2.1,e2.2,?_,?_,?_,?_,?_⟩
  ·rw[e];exact h.hi
  ·rw[e];exact h.lo
  ·rw[e];exact fun _ _=>⟨oq,Nat.le_of_eq e2.1.symm⟩
  ·intro hS;cases hS
  ·rw[e];exact mJ
 ·have e:((E.kW 9 nm).a.A m)=E.a.A m:=by
   show(E.ij 9 nm).A m=_;unfold ao.ij;rw[h1];split
   ·exact hA
   ·rename_i hf
    obtain⟨z,hz⟩:∃z,jB E.r.N nm=some z:=by
     unfold gD at hf;rw[if_pos hn] at hf;cases hz:jB E.r.N nm with
     |some z=>exact⟨z,rfl⟩
     |none=>rw[hz] at hf;simp at hf
    obtain⟨u,uR,Ah,Nn⟩:=Cu hz;have NF:m≠z:=fun e=>by
     rw[←e,wF] at uR;cases uR;exact q7 (Nn.symm.trans Nz)
    rw[if_pos rfl];have rS:gD E.r.N nm=(((z:Nat):Int),0):=by unfold gD;rw[if_pos hn,hz]
    rw[rS];show(if m=z then _ else _)=_;rw[if_neg NF];exact hA
  have e2:(E.kW 9 nm).a.now=1∧(E.kW 9 nm).a.dK=9:=by
   show(E.ij 9 nm).now=1∧(E.ij 9 nm).dK=9;unfold ao.ij
   (repeat' split)<;>exact⟨h3,hg⟩
  rw[bQ q7,Bool.or_false];refine⟨h.due,h.vO,h.num,h.idx,h.tag,h.st,h.now,Nat.le_of_eq e2.1,e2.2,?_,?_,?_,?_,?_⟩
  ·rw[e];exact h.hi
  ·rw[e];exact h.lo
  ·rw[e];exact fun hS hH=>⟨(h.so hS hH).1,Nat.le_of_eq e2.1.symm⟩
  ·rw[e];exact h.ns
  ·rw[e];exact h.sf
theorem PI.all {E:ao}{k:Bs}{x:bM}{m:Nat}{t:Bs}{H S:Bool}(h:PI E k x m t H S)(h1:E.now=1)(h2:E.a.now=1)(op:Int)(nm:Bs):PI (E.oB op nm) k x m t (H||(decide (op=14)||decide (nm <+: k))) S:=by
 have hA:=Om h.gr h2 h.sf;have e:((E.oB op nm).a.A m)=E.a.A m:=by
  show(E.a.next E.now).A m=_;rw[h1];exact hA
 have e2:(E.oB op nm).a.now=1:=by show max E.a.now E.now=1;omega
 have r9:(decide (op=14)||decide (nm <+: k))=true→0<(E.oB op nm).p.of k:=by
  intro hd;unfold ao.oB;dsimp only
  by_cases DK:op=14
  ·rw[if_pos DK];exact jL (Nat.succ_pos E.a.last) (Nat.le_max_left _ _)
  ·rw[if_neg DK];rw[bQ DK,Bool.false_or] at hd;exact jL (Nat.succ_pos E.a.last) (ahv (dM hd))
 have se:(decide (op=14)||decide (nm <+: k))=false→(E.oB op nm).p.of k=E.p.of k:=by
  intro hd;simp only[Bool.or_eq_false_iff,decide_eq_false_iff_not] at hd;unfold ao.oB;dsimp only;rw[if_neg hd.1];exact ahw hd.2
 generalize (decide (op=14)||decide (nm <+: k))=B at r9 se ⊢;refine⟨h.due,h.vO,h.num,h.idx,h.tag,h.st,h.now,Nat.le_of_eq e2,h.gr,?_,?_,?_,?_,?_⟩
 ·rw[e];cases B with
  |true=>exact fun _ => .inl (r9 rfl)
  |false=>rw[se rfl,Bool.or_false];exact h.hi
 ·rw[e];cases B with
  |true=>intro hH;simp at hH
  |false=>rw[se rfl,Bool.or_false];exact h.lo
 ·rw[e];cases B with
  |true=>intro _ hH;simp at hH
  |false=>rw[Bool.or_false];exact fun hS hH=>⟨(h.so hS hH).1,Nat.le_of_eq e2.symm⟩
 ·rw[e];exact h.ns
 ·rw[e];exact h.sf
theorem aij (E:ao)(t:Nat){kd:Int}{nm:Bs}(h:mP kd nm=true):E.dW t (iA (eK kd nm).op) (eK kd nm)=0:=by
 unfold mP at h;unfold eK
 by_cases h1:kd=1
 ·subst h1;rw[if_pos (.inl rfl)] at h;rw[if_pos rfl];have hp:iB E.cb 144 { gx with op:=8,tag:=nm}=0:=by
   unfold iB;rw[show hasB 144 1=false from rfl,show hasB 144 2=false from rfl,show hasB 144 4=false from rfl,show hasB 144 16=true from rfl,show hasB 144 32=false from rfl,show hasB 144 64=false from rfl,show hasB 144 8=false from rfl];simp[h]
  unfold ao.dW;rw[show iA ({ gx with op:=8,tag:=nm}:dd).op=144 from rfl,if_neg (by rw[hp];simp),if_neg (by decide),if_neg (by simp[gx])]
 by_cases h2:kd=2
 ·subst h2;rw[if_pos (.inr rfl)] at h;rw[if_neg (by decide),if_pos rfl];have hp:iB E.cb 144 { gx with op:=9,tag:=nm}=0:=by
   unfold iB;rw[show hasB 144 1=false from rfl,show hasB 144 2=false from rfl,show hasB 144 4=false from rfl,show hasB 144 16=true from rfl,show hasB 144 32=false from rfl,show hasB 144 64=false from rfl,show hasB 144 8=false from rfl];simp[h]
  unfold ao.dW;rw[show iA ({ gx with op:=9,tag:=nm}:dd).op=144 from rfl,if_neg (by rw[hp];simp),if_neg (by decide),if_neg (by simp[gx])]
 rw[if_neg ah] at h
 by_cases h3:kd=3
 ·subst h3;rw[if_pos rfl] at h;rw[if_neg (by decide),if_neg (by decide),if_pos rfl];have hp:iB E.cb 160 { gx with op:=10,pre:=nm}=0:=by
   unfold iB;rw[show hasB 160 1=false from rfl,show hasB 160 2=false from rfl,show hasB 160 4=false from rfl,show hasB 160 16=false from rfl,show hasB 160 32=true from rfl,show hasB 160 64=false from rfl,show hasB 160 8=false from rfl];simp only[Bool.false_and,Bool.true_and,h,Bool.not_true];simp
  unfold ao.dW;rw[show iA ({ gx with op:=10,pre:=nm}:dd).op=160 from rfl,if_neg (by rw[hp];simp),if_neg (by decide),if_neg (by simp[gx])]
 rw[if_neg h1,if_neg h2,if_neg h3];have hp:iB E.cb 128 { gx with op:=14}=0:=by
  unfold iB;rw[show hasB 128 1=false from rfl,show hasB 128 2=false from rfl,show hasB 128 4=false from rfl,show hasB 128 16=false from rfl,show hasB 128 32=false from rfl,show hasB 128 64=false from rfl,show hasB 128 8=false from rfl];simp
 unfold ao.dW;rw[show iA ({ gx with op:=14}:dd).op=128 from rfl,if_neg (by rw[hp];simp),if_neg (by decide),if_neg (by simp[gx])]
theorem PI.cU {E:ao}{k:Bs}{x:bM}{m:Nat}{t:Bs}{H S:Bool}(h:PI E k x m t H S){kd:Int}{nm:Bs}(aU:mP kd nm=true):PI (E.cU 1 (eK kd nm)).1 k x m t (H||pZ kd nm k t) (S||ry kd nm t):=by
 obtain⟨hs,s1,s2⟩:=h.start;have hw:=aij E 1 aU;have key:PI ((E.start 1).act (eK kd nm)).1 k x m t (H||pZ kd nm k t) (S||ry kd nm t):=by
  unfold mP at aU;unfold pZ ry
  by_cases h1:kd=1
  ·subst h1;rw[if_pos (.inl rfl)] at aU;have e:eK 1 nm={ gx with op:=8,tag:=nm}:=rfl;rw[e,Gw (.inl rfl)];have:=hs.alx s1 s2 nm aU;simpa using this
  by_cases h2:kd=2
  ·subst h2;rw[if_pos (.inr rfl)] at aU;have e:eK 2 nm={ gx with op:=9,tag:=nm}:=rfl;rw[e,Gw (.inr rfl)];have:=hs.aly s1 s2 nm aU;simpa using this
  rw[if_neg ah] at aU
  by_cases h3:kd=3
  ·subst h3;have e:eK 3 nm={ gx with op:=10,pre:=nm}:=rfl;rw[e,Df (.inl rfl)];have:=hs.all s1 s2 10 nm;simpa using this
  rw[if_neg h3] at aU;obtain⟨rfl,rfl⟩:=dM aU;have e:eK 4 []={ gx with op:=14}:=rfl;rw[e,Df (.inr rfl)];have:=hs.all s1 s2 14 gx.pre;simpa using this
 have dA:1≤(eK kd nm).op∧(eK kd nm).op<16:=by
  unfold eK
  (repeat' split)<;>(dsimp only;omega)
 unfold ao.cU;rw[if_pos dA,if_pos hw];dsimp only;obtain⟨c,hc⟩:=Wp ((E.start 1).act (eK kd nm)).1 (eK kd nm).op ((E.start 1).act (eK kd nm)).2.L ((E.start 1).act (eK kd nm)).2.n;rw[hc];exact key.cP c
theorem PI.mark {E:ao}{k:Bs}{x:bM}{m:Nat}{t:Bs}{H S:Bool}(h:PI E k x m t H S)(hk:bf k=true):(E.rn k).1.m=if H=true then 0 else if S=true then 2 else 1:=by
 have hd:x.d=never:=h.due x (List.mem_of_find?_eq_some h.vO);have xW:E.eR k=some x:=by unfold ao.eR;rw[if_pos hk,h.vO]
 have si:iC [m]=[m]:=List.perm_singleton.1 (CS [m]);have uL:=h.now;have acO:=h.rJ;unfold ao.rn;rw[if_pos hk];dsimp only;unfold ao.item;rw[xW];dsimp only;rw[h.num,si,h.st,hd];have hL:wI E.a 0 [m] E.now never=if 0<(E.a.A m).jv then 0 else u6 (max E.a.now E.now) never (oy E.a 0 [m]) 9:=by
  unfold wI;rw[h.gr]
  by_cases hh:0<(E.a.A m).jv
  ·rw[if_pos hh,if_pos (by simp[uy,hh])]
  ·rw[if_neg hh,if_neg (by simp[uy];omega)]
 cases H with
 |true=>
  rw[if_pos rfl]
  rcases h.hi rfl with hp|hp
  ·rw[if_neg ah];rfl
  ·rw[hL,if_pos hp];split
   ·rw[if_pos (by rfl)];rfl
   ·rfl
 |false=>
  obtain⟨hp,hh⟩:=h.lo rfl;rw[hp,if_pos (aY _),hL,if_neg (c:=0<(E.a.A m).jv) ah,if_neg (c:=false=true) (by decide)];cases S with
  |true=>
   obtain⟨aP,h1⟩:=h.so rfl rfl;have hf:oy E.a 0 [m]=1:=by
    unfold oy qG;cases IZ:(E.a.A m).soft with
    |nil=>exact absurd IZ aP
    |cons y r=>
     obtain⟨q1,q2⟩:=h.sf y (by rw[IZ];exact oK);simp[IZ,q1,q2,never]
   have hm:u6 (max E.a.now E.now) never (oy E.a 0 [m]) 9=2:=by
    have hx:max E.a.now E.now=1:=by omega
    rw[hf,hx];rfl
   rw[hm];rfl
  |false=>
   have hf:oy E.a 0 [m]=never:=by
    unfold oy qG;rw[pL,h.ns rfl];rfl
   have hm:u6 (max E.a.now E.now) never (oy E.a 0 [m]) 9=1:=by
    rw[hf];unfold u6 M.due;simp
   rw[hm];rfl
end
end Go.Proofs.YtoloaehmppcjoaaGreat.V.M
