/-
  Parts of the proof. No condition.
-/
import Derived.Test.YtoloaehmppcjoaaGreatW2ay
import Derived.Test.YtoloaehmppcjoaaGreatW2bb
set_option linter.unusedVariables false
set_option linter.unusedSimpArgs false
set_option maxRecDepth 8000
set_option maxHeartbeats 8000000
open Go.Proofs.Tryz
namespace Go.Proofs.YtoloaehmppcjoaaGreat.V.M
attribute [local irreducible] GO GX aB fz aF aS aq star
variable {o:Og}{w:World}
theorem Kg {b a:Nat}{v1 v2 v3 v4 v5 v6:Value}(hs:Start o w [fz (aB b [ak a,v1,v2,v3,v4,v5,v6])]):aj prog 127 [ak b].toArray w (Po o (.bool false) []):=by
 have hH:=hs.sh;refine aj.enter func127 rfl ntmps127 rfl (gh ?_);exact⟨rfl,hH.to⟩
theorem ale {b a t r h u:Nat}{v5 v6:Value}{bb ee ub ue c:Nat}(hb:1≤bb)(h1:ub<2^60)(h2:c<2^60)(h3:ue<2^60)(hs:Start o w [fz (aB b [ak a,ak t,ak r,ak h,ak u,v5,v6]),fz (iH u bb ee ub ue)]) :
  aj prog 251 [ak b,iV c].toArray w (Po o (.bool (decide (bb<ub+c∨ee<ue+1))) []):=by
 have hH:=hs.sh;refine aj.enter func251 rfl ntmps251 rfl (gh ?_);refine GX.aM (hc:=fun _ hs=>Qs hb hs) (h:=fun w hE hH=>gh ?_);refine GX.aM (hc:=fun _ hs=>aaK hb hs) (h:=fun w hE hH=>gh ?_);refine ifs (fun h4=>?_) (fun h4=>?_)<;>refine gh ?_
 ·exact⟨by rw[b8 ah],hH.to⟩
 ·refine⟨?_,hH.to⟩;congr 1;exact vw.2 ah
def Fi (S:List cG)(L:List Nat)(k:Bs):Option Nat:=L.find? fun n=>decide ((aO S n).e.k=k)
def jq (E:List bM)(k:Bs):Option bM:=E.find? fun e=>decide (e.k=k)
theorem V3 (S:List cG)(L:List Nat)(k:Bs):ay (fY S L) k=Fi S L k:=by
 induction L with
 |nil=>rfl
 |cons n L ih=>
  show ay (((aO S n).e.k,n)::fY S L) k=_;simp only[ay,Fi,List.find?_cons]
  by_cases h:(aO S n).e.k=k
  ·simp[h]
  ·rw[if_neg (Ne.symm h)];simp only[h,decide_false];exact ih
theorem Rg (S:List cG)(L:List Nat)(k:Bs):jq (j4 S L) k=(Fi S L k).map fun n=>(aO S n).e:=by
 induction L with
 |nil=>rfl
 |cons n L ih=>
  show jq ((aO S n).e::j4 S L) k=_;simp only[jq,Fi,List.find?_cons]
  by_cases h:(aO S n).e.k=k
  ·simp[h]
  ·simp only[h,decide_false];exact ih
theorem aeq {S:List cG}{L:List Nat}{k:Bs}{n:Nat}(h:Fi S L k=some n):n∈L∧(aO S n).e.k=k:=⟨List.mem_of_find?_eq_some h,by simpa using List.find?_some h⟩
def yS (S:List cG)(L:List Nat)(k:Bs):Int×Int:=rz (fY S L) k
theorem F0 {b a t:Nat}{v2 v3 v4 v5 v6:Value}{T:Tb}{S:List cG}{L:List Nat}(hT:jo T (fY S L))(k:Bs)(hs:Start o w [fz (aB b [ak a,ak t,v2,v3,v4,v5,v6]),fz (gV t T)]) :
  aj prog 156 [ak b,str k].toArray w (Po o (.tuple #[iV (yS S L k).1,iV (yS S L k).2]) []):=by
 have hH:=hs.sh;refine aj.enter func156 rfl ntmps156 rfl (gh ?_);refine GX.aM (hc:=fun _ hs=>Kg hs) (h:=fun w hE hH=>gh ?_);refine GX.da (sr k _) rfl rfl rfl rfl rfl rfl (gh ?_);unfold yS rz;cases hk:bf k with
 |false=>
  refine gh ?_;exact⟨by simp,hH.to⟩
 |true=>
 refine gh ?_;refine GX.aM (hc:=fun _ hs=>alI hT.s hT.eM hT.ne k hs) (h:=fun w hE hH=>gh ?_);unfold rz;rw[if_pos hk];cases hm:ay (fY S L) k with
 |none=>
  refine gh ?_;exact⟨by simp,hH.to⟩
 |some n=>
  refine gh ?_;exact⟨by simp,hH.to⟩
theorem Hi {S:List cG}{L:List Nat}{n:Nat}(hn:n∈L):(dH S L).Perm (if(aO S n).e.d≠never then(n,(aO S n).e.d)::dH S (L.erase n) else dH S (L.erase n)):=by
 have h:=(((AY hn).filter fun n=>decide ((aO S n).e.d≠never)).map fun n=>(n,(aO S n).e.d))
 unfold dH;rw[lO] at h;split at h
 ·rename_i hd
  rw[if_pos (dM hd)];exact h
 ·rename_i hd
  rw[if_neg (fun h'=>hd (b8 h'))];exact h
theorem Dw {S:List cG}{L:List Nat}{n:Nat}(h:n∉L∨(aO S n).e.d=never):∀x∈dH S L,x.1≠n:=by
 intro x hx e;obtain⟨m,hm,rfl⟩:=bG.1 hx;obtain⟨h1,h2⟩:=fR.1 hm;simp only at e;subst e
 rcases h with h|h
 ·exact h h1
 ·exact dM h2 h
theorem z8 {h:Nat}{D D':List Tm}{l r:List It}(hH:SH o w l)(hp:D.Perm D')(hs:az (fV h D) l r:=by repeat(first|exact az.here|apply az.there)):SH o w (fV h D'::r):=by
 obtain⟨⟨L,hP,hq⟩,hH⟩:=SH.un hH hs;exact SH.mk (f:=fun L:{ L:List Tm // L.Perm D'∧Hp L∧kF L}=>[kR h L.1]) ⟨L,hP.trans hp,hq⟩ hH
theorem adT {h:Nat}{S:List cG}{L:List Nat}{n:Nat}(hn:n∈L)(hl:n<1048576)(hs:Start o w [fV h (dH S L)]) :
  aj prog 198 [ak h,iV n].toArray w (aX o (fun x:Nat×Int => .tuple #[uV x.1,iV x.2]) (fun _=>True) (fun _=>[fV h (dH S (L.erase n))])):=by
 have hp:=Hi (S:=S) hn;split at hp
 ·exact(M8 n _ hl hp hs).mono fun _ _ ⟨h1,h2⟩=>⟨(_,_),h1,trivial,h2⟩
 ·rename_i hd
  exact(MZ n hl (Dw (.inr (by simpa using hd))) hs).mono fun _ _ ⟨h1,h2⟩=>⟨(_,_),h1,trivial,(z8 h2 hp).to⟩
theorem SH.s0 {l:List It}(h:SH o w l):SH o w (fG s0++l):=
 SH.cF (q:=none) (SH.cF (q:=none) h (Mod.refl w) (fun _ h=>by cases h) (aH.nil _ _ _)) (Mod.refl w) (fun _ h=>by cases h) (aH.nil _ _ _)
abbrev dG.Fo (X:dG)(b:Nat)(s:bw)(D:List Tm):List It:=
 [aB b [ak X.a,ak X.t,ak X.r,ak X.h,ak X.u, .slice (aA X.q1.1) X.S.length X.q1.2, .slice (aA X.q2.1) X.G.length X.q2.2],
  aq 159 6 X.q1.1 X.S.length X.q1.2 (aL eL X.S),aq 252 2 X.q2.1 X.G.length X.q2.2 (aL qm X.G),
  mY X.a X.A,gV X.t X.T,nE X.r X.L,fV X.h D,iH X.u s.bytes s.many (ej s.E) s.E.length,bJ (cZ X.S)]
theorem X7 {b:Nat}{s:bw}{X:dG}(hX:dh X s){n:Nat}(hn:n∈X.L)(hK:s.K<2^60){D D':List Tm}(wA:∀{o:Og}{w:World},Start o w [fV X.h D]→aj prog 198 [ak X.h,iV n].toArray w (aX o (fun x:Nat×Int => .tuple #[uV x.1,iV x.2]) (fun _=>True) (fun _=>[fV X.h D'])))(hs:Start o w (X.Fo b s D)) :
  aj prog 129 [ak b,iV n].toArray w (aX o (fun _:Tb => .agg (eL (aO X.S n)).toArray) (fun T=>dh (X.qw n T) (s.drop (aO X.S n).e.k)) (fun T=>(X.qw n T).Fo b (s.drop (aO X.S n).e.k) D'++fG (aO X.S n))):=by
 have hH:=hs.sh;have TM:=fun T hT=>hX.qw hn (T:=T) hT
 obtain⟨a,t,r,h,u,A,T,L,S,G,⟨q1,c1⟩,⟨q2,c2⟩⟩:=X;dsimp only[dG.qw] at hH hn TM wA ⊢;have aN:n<S.length:=hX.lt n hn;have ep:S.length≤1048576:=hX.sl;have oe:G.length=S.length:=hX.refs;have hg:=yP aN;have qJ:mr (aO S n).e:=hX.ok hn;have hc:=K8 qJ;have IT:s.E.Perm ((aO S n).e::dj s.E (aO S n).e.k):=hX.CE hn;have hlen:=IT.length_eq;have uQ:=Gd IT;rw[Ko] at uQ;rw[ek] at hlen;have mE:=alp (l:=dj s.E (aO S n).e.k) fun e he=>hX.xP e (fR.1 he).1
 have iM:=hX.bytes;have xT:=hX.many;have Mj:=hX.cost;have hb5:=hX.len;have x5:rj A n:=hX.gen hn;have amw:A.aW.getD n 0≠0∧-(s.K:Int) - 1≤A.aW.getD n 0∧A.aW.getD n 0≤s.K+1:=hX.ar.gen _ (Hy 0 (show n<A.aW.length by rw[show A.aW.length=S.length from hX.gl];exact aN));have ly:A.free.length≤A.aW.length:=hX.ar.Bp;have adm:A.aW.length=S.length:=hX.gl;have ad9:jo T (((aO S n).e.k,n)::fY S (L.erase n)):=hX.eM.perm ((AY hn).map _);have ad1:G[n]?=some ((n:Int),A.aW.getD n 0):=hX.ref n hn;have rY:0<A.aD:=hX.ar.aD.1;generalize hx:aO S n=x at *;have hd:=ku pA hg;have fE:=ku JX ad1;replace hH:=hH.rK (fG x) (cZ (S.eraseIdx n)) (yJ hg);simp only[fG,jK,kC] at hH;obtain⟨q,rfl⟩:=hH.pos (el:=159) (sz:=6);obtain⟨q2,rfl⟩:=hH.pos (el:=252) (sz:=2);refine aj.enter func129 rfl ntmps129 rfl (gh ?_);refine GX.cA (h:=fun z w hH=>gh ?_);refine GX.next rfl (GO.kg (hv:=hd) (h:=gh ?_));refine GX.cA (h:=fun y w hH=>gh ?_);refine GX.bt (h:=fun w hH=>gh ?_);refine GC.br (pl:=(bg [0,3,6,12,10,16,20])) (T:=dt [b,y]) (hm:=mixed) (h:=fun w hE hH=>gh ?_);refine GX.kL (hc:=fun _ hs=>alH ad9 hs) (h:=?_);rintro T' w nX hS hH;replace hH:=SH.ap hH;refine gh ?_;refine GX.bF (hc:=fun _ hs=>WR n ah hn hs) (h:=fun w hH=>gh ?_);refine GX.bZ (hc:=fun _ hs=>wA hs) (h:=?_);rintro⟨_,_⟩ w _ hH;replace hH:=SH.ap hH;refine gh ?_;refine GC.br (pl:=(bg [0,3,6,10,13,17,20])) (T:=dt [b,y]) (hm:=mixed) (h:=fun w hE hH=>gh ?_);refine GX.xN (hc:=fun _ hs=>Xt x.e qJ rfl rfl hs) (h:=fun w hS hH=>gh ?_);refine GX.mZ (hc:=fun _ hs=>aaG (b:=s.bytes) (e:=s.many) (ub:=ej s.E) (ue:=s.E.length) ah (eN x.e) hc ah ah ah ah ah hs) (h:=fun w hS hH=>gh ?_);refine GC.br (pl:=(bg [0,3,6,12,15,18,24,10,22,27,31,35])) (T:=dt [b,q2]) (hm:=mixed) (h:=fun w hE hH=>gh ?_);refine GX.read rfl (GO.yB (hT:=tL) (hv:=fE) (h:=gh ?_));refine GX.mZ (hc:=fun _ hs=>Zb rY n _ x5 rfl ah ah hs) (h:=fun w hS hH=>gh ?_);refine GX.vm (hb:=by rw[gT pA,pA];simp;omega) (hc:=show(aL eL S).take (0+n*6)++eL s0++(aL eL S).drop (0+n*6+6)=aL eL (S.set n s0) by rw[dz];exact AM pA aN s0) (h:=fun w hH=>gh ?_);refine GX.bt (h:=fun w hH=>gh ?_);refine⟨T',rfl,TM T' nX,?_⟩;have e1:ej s.E - eN x.e=ej (dj s.E x.e.k):=by omega
 have e2:s.E.length - 1=(dj s.E x.e.k).length:=by omega
 rw[e1,e2] at hH;have aQ:=hH.s0;replace aQ:=SH.ap aQ;have cH:=aQ.iI (m:=cZ (S.set n s0)) (fG s0) (cZ (S.eraseIdx n)) (by repeat(first|exact Pk.nil|(apply Pk.cons;repeat(first|exact az.here|apply az.there)))) (OI s0 aN);rw[show S.length=(S.set n s0).length by simp] at cH;exact cH.to
theorem Pf {b:Nat}{s:bw}{X:dG}(hX:dh X s){n:Nat}(hn:n∈X.L)(hK:s.K<2^60)(hs:Start o w (X.dS b s)) :
  aj prog 129 [ak b,iV n].toArray w (aX o (fun _:Tb => .agg (eL (aO X.S n)).toArray) (fun T=>dh (X.qw n T) (s.drop (aO X.S n).e.k)) (fun T=>(X.qw n T).dS b (s.drop (aO X.S n).e.k)++fG (aO X.S n))):=by
 have wg:dH (X.S.set n s0) (X.L.erase n)=dH X.S (X.L.erase n):=Hh fun m hm=>yQ _ fun e=>Av hX.nd (e▸hm)
 have h:=X7 hX hn hK (D:=dH X.S X.L) (D':=dH X.S (X.L.erase n)) (fun hs=>adT hn (jL (hX.lt n hn) hX.sl) hs) hs;rw[←wg] at h;exact h
theorem N9 {L:List Nat}{n m:Nat}(hn:n∈L)(hd:L.Nodup):m∈L.erase n++[n]↔m∈L:=by
 rw[cx,hd.mem_erase_iff,jn];constructor
 ·rintro(⟨_,h⟩|rfl)
  ·exact h
  ·exact hn
 ·intro h
  by_cases e:m=n
  ·exact .inr e
  ·exact .inl ⟨e,h⟩
theorem CF {L:List Nat}{n:Nat}(hn:n∈L):L.Perm (L.erase n++[n]):=(AY hn).trans (sQ (l₁:=[n]))
def dG.used (X:dG)(n:Nat):dG:={ X with L:=X.L.erase n++[n]}
def bw.use (s:bw)(e:bM):bw:={ s with E:=dj s.E e.k++[e]}
theorem QZ {S:List cG}{L L':List Nat}(h:L.Perm L'):(dH S L).Perm (dH S L'):=(h.filter _).map _
theorem dh.used {X:dG}{s:bw}(h:dh X s){n:Nat}(hn:n∈X.L):dh (X.used n) (s.use (aO X.S n).e):=by
 have hE:j4 X.S (X.L.erase n++[n])=dj s.E (aO X.S n).e.k++[(aO X.S n).e]:=by
  rw[←h.erase hn];unfold j4;rw[eA];rfl
 have hp:s.E.Perm (dj s.E (aO X.S n).e.k++[(aO X.S n).e]):=(h.CE hn).trans (sQ (l₁:=[_]));have hm:∀m,m∈X.L.erase n++[n]↔m∈X.L:=fun m=>N9 hn h.nd
 refine⟨hE.symm,(CF hn).nodup_iff.1 h.nd,fun m jw=>h.lt m ((hm m).1 jw),h.eM.perm ((CF hn).map _),h.ar,h.aD,h.gl,fun m jw=>(hm m).trans (h.live m jw),h.refs,fun m jw=>h.ref m ((hm m).1 jw),h.sb,fun e he=>h.xP e (hp.mem_iff.2 he),((hp.map (·.k)).nodup_iff).1 h.kn,?_,?_,h.bytes,h.many⟩
 ·show ej (dj s.E _++[_])≤s.bytes;rw[←Gd hp];exact h.cost
 ·show(dj s.E _++[_]).length≤s.many;rw[←hp.length_eq];exact h.len
def mf (k:Bs)(t:Nat)(e:bM):bM:=if e.k=k then { e with d:=t} else e
def rp (x:cG)(t:Nat):cG:={ x with e:={ x.e with d:=t}}
def dG.wY (X:dG)(n t:Nat):dG:={ X with S:=X.S.set n (rp (aO X.S n) t)}
def bw.wY (s:bw)(k:Bs)(t:Nat):bw:={ s with E:=s.E.map (mf k t)}
theorem aiA (k:Bs)(t:Nat)(e:bM):(mf k t e).k=e.k:=by unfold mf;split<;>rfl
theorem aiz (k:Bs)(t:Nat)(e:bM):eN (mf k t e)=eN e:=by unfold mf;split<;>rfl
theorem aiB {k:Bs}{t:Nat}(ht:t≤never){e:bM}(h:mr e):mr (mf k t e):=by
 unfold mf;split
 ·exact⟨h.k,h.v,h.t,ht,h.n,h.st⟩
 ·exact h
theorem dh.aiC {X:dG}{s:bw}(h:dh X s){n:Nat}(hn:n∈X.L)(t:Nat):j4 (X.S.set n (rp (aO X.S n) t)) X.L=s.E.map (mf (aO X.S n).e.k t):=by
 rw[h.pT,j4,j4,nK];refine rC fun m hm=>?_
 show _=mf _ t (aO X.S m).e
 by_cases e:m=n
 ·subst e;rw[CN _ (h.lt m hm)];simp[mf,rp]
 ·rw[yQ _ e];unfold mf;rw[if_neg fun h'=>e (h.inj hm hn h')]
theorem dh.wY {X:dG}{s:bw}(h:dh X s){n:Nat}(hn:n∈X.L){t:Nat}(ht:t≤never):dh (X.wY n t) (s.wY (aO X.S n).e.k t):=by
 have hnl:=h.lt n hn;have hk:fY (X.S.set n (rp (aO X.S n) t)) X.L=fY X.S X.L:=rC fun m hm=>by
  by_cases e:m=n
  ·subst e;rw[CN _ hnl];rfl
  ·rw[yQ _ e]
 refine⟨(h.aiC hn t).symm,h.nd,fun m hm=>?_,?_,h.ar,h.aD,?_,fun m hm=>h.live m (by simpa[dG.wY] using hm),?_,h.ref,fun x hx=>?_,fun e he=>?_,?_,?_,?_,h.bytes,h.many⟩
 ·show m<(X.S.set n _).length;rw[fQ];exact h.lt m hm
 ·show jo X.T (fY (X.S.set n _) X.L);rw[hk];exact h.eM
 ·show X.A.aW.length=(X.S.set n _).length;rw[fQ];exact h.gl
 ·show X.G.length=(X.S.set n _).length;rw[fQ];exact h.refs
 ·rcases mn hx with hm|rfl
  ·exact h.sb x hm
  ·exact h.sb (aO X.S n) (bD (yP hnl))
 ·obtain⟨e',zK,rfl⟩:=bG.1 he;exact aiB ht (h.xP e' zK)
 ·show((s.E.map (mf _ t)).map (·.k)).Nodup;rw[nK,show((fun e:bM=>e.k) ∘ mf (aO X.S n).e.k t)=fun e=>e.k from funext fun e=>aiA _ _ e];exact h.kn
 ·show ej (s.E.map (mf _ t))≤s.bytes;unfold ej;rw[nK,show(eN ∘ mf (aO X.S n).e.k t)=eN from funext fun e=>aiz _ _ e];exact h.cost
 ·show(s.E.map (mf _ t)).length≤s.many;rw[fH];exact h.len
theorem GY (l:Bs):∀u∈Lib.byteCells l,u.oneCell'=true:=by
 intro u hu;simp only[Lib.byteCells,bG] at hu;obtain⟨x,_,rfl⟩:=hu;rfl
def YD (E:List bM)(k:Bs)(y:cG×Int):Prop:=(bf k=false∧y=(s0,2))∨(bf k=true∧((jq E k=none∧y=(s0,9))∨(jq E k=some y.1.e∧y.2=0)))
def abK (y:cG×Int):Value := .tuple #[.agg (eL y.1).toArray,iV y.2]
theorem dh.found {X:dG}{s:bw}(h:dh X s){k:Bs}{n:Nat}(hm:ay (fY X.S X.L) k=some n):n∈X.L∧(aO X.S n).e.k=k∧jq s.E k=some (aO X.S n).e:=by
 rw[V3] at hm;obtain⟨h1,h2⟩:=aeq hm;exact⟨h1,h2,by rw[h.pT,Rg,hm];rfl⟩
theorem dh.lost {X:dG}{s:bw}(h:dh X s){k:Bs}(hm:ay (fY X.S X.L) k=none):jq s.E k=none:=by
 rw[V3] at hm;rw[h.pT,Rg,hm];rfl
theorem ak4 {b:Nat}{s:bw}(k:Bs)(hs:Start o w [fz (kz b s)]) :
  aj prog 92 [ak b,str k].toArray w (aX o abK (YD s.E k) (fun y=>fG y.1)):=by
 have hH:=hs.sh;obtain⟨⟨X,hX⟩,hH⟩:=SH.dV hH;replace hH:=SH.ed hH;dsimp only at hH;have qW:=fun hm=>hX.lost (k:=k) hm
 have qT:=fun n hm=>hX.found (k:=k) (n:=n) hm
 obtain⟨a,t,r,h,u,A,T,L,S,G,⟨q1,c1⟩,⟨q2,c2⟩⟩:=X;dsimp only at hH qW qT;have aN:∀n∈L,n<S.length:=hX.lt;have ep:S.length≤1048576:=hX.sl;have yh:∀x∈S,zc x:=hX.sb;refine aj.enter func92 rfl ntmps92 rfl (gh ?_);refine GX.cA (h:=fun z w hH=>gh ?_);refine GX.aM (hc:=fun _ hs=>F0 hX.eM k hs) (h:=fun w hE hH=>gh ?_);unfold yS rz;cases hk:bf k with
 |false=>
  refine gh ?_;refine GX.bt (h:=fun w hH=>gh ?_);exact⟨(s0,2),rfl, .inl ⟨hk,rfl⟩,hH.s0.to⟩
 |true=>
 rw[if_pos rfl];cases hm:ay (fY S L) k with
 |none=>
  refine gh ?_;refine GX.bt (h:=fun w hH=>gh ?_);exact⟨(s0,9),rfl, .inr ⟨hk, .inl ⟨qW hm,rfl⟩⟩,hH.s0.to⟩
 |some n=>
 obtain⟨hn,iN,nY⟩:=qT n hm;have hnl:=aN n hn;have hg:=yP hnl;obtain⟨mE,iM,xT⟩:=yh _ (bD hg);have hd:=ku pA hg;replace hH:=hH.GP (fG (aO S n)) (cZ (S.eraseIdx n)) (yJ hg);simp only[fG,cJ,tW,jK,kC] at hH;obtain⟨q,rfl⟩:=hH.l8 (el:=159) (sz:=6);have l1:=hH.VB (el:=5) (sz:=1);have l2:=hH.VB (el:=9) (sz:=1);have n1:=hH.tK (el:=5) (sz:=1);have n2:=hH.tK (el:=9) (sz:=1);dsimp only;refine gh ?_;refine GX.next rfl (GO.kg (hv:=hd) (h:=gh ?_));refine GX.ef (hc:=fun _ hs=>yK (vs:=Lib.byteCells (aO S n).e.v) (ts:=aK (aO S n).e.t) ah ah n1 (GY _) ah ah n2 (yU _) hs) (h:=?_);rintro⟨y1,y2⟩ w _ hE hH;replace hH:=SH.ap hH;refine gh ?_;refine GX.bt (h:=fun w hH=>gh ?_);exact⟨(⟨(aO S n).e,y1,y2⟩,0),rfl, .inr ⟨hk, .inr ⟨nY,rfl⟩⟩,hH.to⟩
theorem mT {l t:List It}{b:Nat}{X:dG}{s:bw}(hX:dh X s)(hH:SH o w l)(hp:Pk l (X.dS b s) t:=by repeat(first|exact Pk.nil|(apply Pk.cons;repeat(first|exact az.here|apply az.there)))):SH o w (kz b s::t):=
 SH.fold (f:=fun X:{ X:dG // dh X s}=>X.1.dS b s) ⟨X,hX⟩ hH hp
def YJ (s:bw)(k:Bs)(y:cG×Int×bw):Prop:=(bf k=false∧y=(s0,2,s))∨(bf k=true∧((jq s.E k=none∧y=(s0,9,s))∨(jq s.E k=some y.1.e∧y.2.1=0∧y.2.2=s.drop k)))
theorem ak6 {b:Nat}{s:bw}(k:Bs)(hK:s.K<2^60)(hs:Start o w [kz b s]) :
  aj prog 247 [ak b,str k].toArray w (aX o (fun y:cG×Int×bw => .tuple #[.agg (eL y.1).toArray,iV y.2.1]) (YJ s k) (fun y=>kz b y.2.2::fG y.1)):=by
 have hH:=hs.sh;obtain⟨⟨X,hX⟩,hH⟩:=SH.un hH;replace hH:=SH.ap hH;dsimp only at hH;have qW:=fun hm=>hX.lost (k:=k) hm
 have qT:=fun n hm=>hX.found (k:=k) (n:=n) hm
 obtain⟨a,t,r,h,u,A,T,L,S,G,⟨q1,c1⟩,⟨q2,c2⟩⟩:=X;dsimp only at hH qW qT;refine aj.enter func247 rfl ntmps247 rfl (gh ?_);refine GX.cA (h:=fun z w hH=>gh ?_);refine GX.aM (hc:=fun _ hs=>F0 hX.eM k hs) (h:=fun w hE hH=>gh ?_);unfold yS rz;cases hk:bf k with
 |false=>
  refine gh ?_;refine GX.bt (h:=fun w hH=>gh ?_);exact⟨(s0,2,s),rfl, .inl ⟨hk,rfl⟩,(mT hX hH.s0).to⟩
 |true=>
 rw[if_pos rfl];cases hm:ay (fY S L) k with
 |none=>
  refine gh ?_;refine GX.bt (h:=fun w hH=>gh ?_);exact⟨(s0,9,s),rfl, .inr ⟨hk, .inl ⟨qW hm,rfl⟩⟩,(mT hX hH.s0).to⟩
 |some n=>
 obtain⟨hn,iN,nY⟩:=qT n hm;dsimp only;refine gh ?_;refine GX.bZ (hc:=fun _ hs=>Pf hX hn hK hs) (h:=?_);dsimp only;rintro T' w wa hH;replace hH:=SH.ap hH;refine gh ?_;refine GX.bt (h:=fun w hH=>gh ?_);rw[iN] at wa hH;exact⟨(aO S n,0,s.drop k),rfl, .inr ⟨hk, .inr ⟨nY,rfl,rfl⟩⟩,(mT wa hH).to⟩
theorem adS {h:Nat}{S:List cG}{L:List Nat}{D:List Tm}{n:Nat}(hn:n∈L)(hL:L.Nodup)(hl:n<1048576)(hD:D.Perm (dH S L)∨D.Perm (dH S (L.erase n)))(hs:Start o w [fV h D]) :
  aj prog 198 [ak h,iV n].toArray w (aX o (fun x:Nat×Int => .tuple #[uV x.1,iV x.2]) (fun _=>True) (fun _=>[fV h (dH S (L.erase n))])):=by
 have key:(∀x∈D,x.1≠n)→D.Perm (dH S (L.erase n))→aj prog 198 [ak h,iV n].toArray w (aX o (fun x:Nat×Int => .tuple #[uV x.1,iV x.2]) (fun _=>True) (fun _=>[fV h (dH S (L.erase n))])):=fun h1 h2=>
  (MZ n hl h1 hs).mono fun _ _ ⟨h3,h4⟩=>⟨(_,_),h3,trivial,(z8 h4 h2).to⟩
 rcases hD with hD|hD
 ·have hp:=Hi (S:=S) hn;split at hp
  ·exact(M8 n _ hl (hD.trans hp) hs).mono fun _ _ ⟨h1,h2⟩=>⟨(_,_),h1,trivial,h2⟩
  ·rename_i hd
   exact key (fun x hx=>Dw (.inr (by simpa using hd)) x (hD.mem_iff.1 hx)) (hD.trans hp)
 ·exact key (fun x hx=>Dw (.inl (Av hL)) x (hD.mem_iff.1 hx)) hD
theorem aaN {S:List cG}{L:List Nat}{n t:Nat}(hn:n∈L)(hL:L.Nodup)(hnl:n<S.length)(x:cG)(hx:x.e.d=t):(dH (S.set n x) L).Perm (if t≠never then dH S (L.erase n)++[(n,t)] else dH S (L.erase n)):=by
 have h:=Hi (S:=S.set n x) hn;rw[CN _ hnl,hx,Hh (S':=S) (L:=L.erase n) fun m hm=>yQ _ fun e=>Av hL (e▸hm)] at h;refine h.trans ?_;split
 ·exact sQ (l₁:=[(n,t)])
 ·exact pD _
theorem XX {b a tt r h u n t c1:Nat}{q1:Option Nat}{v6:Value}{S:List cG}{L:List Nat}{D:List Tm}(hn:n∈L)(hL:L.Nodup)(hnl:n<S.length)(ep:S.length≤1048576)(lA:L.length≤1048576)(ht:t≤never)(hD:D.Perm (dH S L)∨D.Perm (dH S (L.erase n)))
  (hs:Start o w [aB b [ak a,ak tt,ak r,ak h,ak u, .slice (aA q1) S.length c1,v6],aq 159 6 q1 S.length c1 (aL eL S),fV h D]) :
  aj prog 256 [ak b,iV n,uV t].toArray w (Po o (.tuple #[]) [aB b [ak a,ak tt,ak r,ak h,ak u, .slice (aA q1) S.length c1,v6],aq 159 6 q1 S.length c1 (aL eL (S.set n (rp (aO S n) t))),fV h (dH (S.set n (rp (aO S n) t)) L)]):=by
 have hH:=hs.sh;have hg:=yP hnl;have wz:=aaN (S:=S) (t:=t) hn hL hnl (rp (aO S n) t) rfl;have mG:(dH S (L.erase n)).length<1048576:=by
  have h1:(dH S (L.erase n)).length≤(L.erase n).length:=by
   unfold dH;rw[fH];exact pF _ _
  have h2:=List.length_erase_of_mem hn;have h3:=tX hn;omega
 refine aj.enter func256 rfl ntmps256 rfl (gh ?_);refine GX.bZ (hc:=fun _ hs=>adS hn hL ah hD hs) (h:=?_);rintro⟨_,_⟩ w _ hH;replace hH:=SH.ap hH;obtain⟨q,rfl⟩:=hH.pos (el:=159) (sz:=6);refine gh ?_;refine GX.vm (hb:=?_) (hc:=show(aL eL S).take (0+n*6+3)++[uV t]++(aL eL S).drop (0+n*6+3+1)=aL eL (S.set n (rp (aO S n) t)) from ?_) (h:=fun w hH=>gh ?_)
 ·rw[gT pA];simp;omega
 ·rw[dz,←CM (y:=rp (aO S n) t) (v:=uV t) (j:=3) pA hg (by decide) rfl,AZ,if_pos (by rw[gT pA];omega)];simp
 refine ifs (fun h1=>?_) (fun h1=>?_)<;>refine gh ?_
 ·refine GX.bF (hc:=fun _ hs=>ad0 n t ah (by simp only[never] at ht;omega) (Dw (.inl (Av hL))) mG hs) (h:=fun w hH=>gh ?_);rw[if_pos (by simp only[never];omega)] at wz;exact⟨rfl,(z8 hH wz.symm).to⟩
 ·rw[if_neg (by simp only[never];omega)] at wz;exact⟨rfl,(z8 hH wz.symm).to⟩
def KI (s:bw)(k:Bs)(y:cG×Int×bw):Prop:=(bf k=false∧y=(s0,2,s))∨(bf k=true∧((jq s.E k=none∧y=(s0,9,s))∨(jq s.E k=some y.1.e∧y.2.1=0∧y.2.2=s.use y.1.e)))
theorem ak8 {b:Nat}{s:bw}(k:Bs)(hs:Start o w [kz b s]) :
  aj prog 177 [ak b,str k].toArray w (aX o (fun y:cG×Int×bw => .tuple #[.agg (eL y.1).toArray,iV y.2.1]) (KI s k) (fun y=>kz b y.2.2::fG y.1)):=by
 have hH:=hs.sh;obtain⟨⟨X,hX⟩,hH⟩:=SH.un hH;replace hH:=SH.ap hH;dsimp only at hH;have qW:=fun hm=>hX.lost (k:=k) hm
 have qT:=fun n hm=>hX.found (k:=k) (n:=n) hm
 have I7:=fun n hn=>hX.used (n:=n) hn
 obtain⟨a,t,r,h,u,A,T,L,S,G,⟨q1,c1⟩,⟨q2,c2⟩⟩:=X;dsimp only[dG.used] at hH qW qT I7;have aN:∀n∈L,n<S.length:=hX.lt;have ep:S.length≤1048576:=hX.sl;have yh:∀x∈S,zc x:=hX.sb;have bT:L.Nodup:=hX.nd;refine aj.enter func177 rfl ntmps177 rfl (gh ?_);refine GX.cA (h:=fun z w hH=>gh ?_);refine GX.aM (hc:=fun _ hs=>F0 hX.eM k hs) (h:=fun w hE hH=>gh ?_);unfold yS rz;cases hk:bf k with
 |false=>
  refine gh ?_;refine GX.bt (h:=fun w hH=>gh ?_);exact⟨(s0,2,s),rfl, .inl ⟨hk,rfl⟩,(mT hX hH.s0).to⟩
 |true=>
 rw[if_pos rfl];cases hm:ay (fY S L) k with
 |none=>
  refine gh ?_;refine GX.bt (h:=fun w hH=>gh ?_);exact⟨(s0,9,s),rfl, .inr ⟨hk, .inl ⟨qW hm,rfl⟩⟩,(mT hX hH.s0).to⟩
 |some n=>
 obtain⟨hn,iN,nY⟩:=qT n hm;have hnl:=aN n hn;have hg:=yP hnl;obtain⟨mE,iM,xT⟩:=yh _ (bD hg);have hd:=ku pA hg;dsimp only;refine gh ?_;refine GX.bF (hc:=fun _ hs=>WS bT n ah hn hs) (h:=fun w hH=>gh ?_);replace hH:=hH.rK (fG (aO S n)) (cZ (S.eraseIdx n)) (yJ hg);simp only[fG,jK,kC] at hH;obtain⟨q,rfl⟩:=hH.pos (el:=159) (sz:=6);have l1:(Lib.byteCells (aO S n).e.v).length=(aO S n).e.v.length:=by simp[Lib.byteCells]
 have l2:=VE (aO S n).e.t;have n1:aA (aO S n).qv.1=none→(aO S n).e.v.length=0:=fun e=>by
  cases hq:(aO S n).qv.1 with
  |some b=>rw[hq] at e;cases e
  |none=>
   rw[hq] at hH
   by_cases h0:0<(aO S n).e.v.length
   ·obtain⟨_,h1⟩:=hH.pos (el:=5) (sz:=1) (q:=none) (n:=(aO S n).e.v.length) (hn:=h0);cases h1
   ·omega
 have n2:aA (aO S n).qt.1=none→(aO S n).e.t.length=0:=fun e=>by
  cases hq:(aO S n).qt.1 with
  |some b=>rw[hq] at e;cases e
  |none=>
   rw[hq] at hH
   by_cases h0:0<(aO S n).e.t.length
   ·obtain⟨_,h1⟩:=hH.pos (el:=9) (sz:=1) (q:=none) (n:=(aO S n).e.t.length) (hn:=h0);cases h1
   ·omega
 refine gh ?_;refine GX.next rfl (GO.kg (hv:=hd) (h:=gh ?_));refine GX.ef (hc:=fun _ hs=>yK (vs:=Lib.byteCells (aO S n).e.v) (ts:=aK (aO S n).e.t) ah ah n1 (GY _) ah ah n2 (yU _) hs) (h:=?_);rintro⟨y1,y2⟩ w _ hE hH;replace hH:=SH.ap hH;refine gh ?_;refine GX.bt (h:=fun w hH=>gh ?_);have aQ:=hH.iI (m:=cZ S) (fG (aO S n)) (cZ (S.eraseIdx n)) (by repeat(first|exact Pk.nil|(apply Pk.cons;repeat(first|exact az.here|apply az.there)))) (yJ hg);replace aQ:=z8 aQ (QZ (CF hn));have hU:=I7 n hn;have hp:=(hX.CE hn).trans (sQ (l₁:=[_]));have e1:ej s.E=ej (s.use (aO S n).e).E:=Gd hp;have e2:s.E.length=(s.use (aO S n).e).E.length:=hp.length_eq;rw[e1,e2] at aQ;exact⟨(⟨(aO S n).e,y1,y2⟩,0,s.use (aO S n).e),rfl, .inr ⟨hk, .inr ⟨nY,rfl,rfl⟩⟩,(mT hU aQ).to⟩
theorem aiS {E:List bM}{k:Bs}{t:Nat}(e:bM)(he:e.k=k):(dj E k++[e]).map (mf k t)=dj E k++[{ e with d:=t}]:=by
 rw[eA];congr 1
 ·refine(rC (g:=id) fun x hx=>?_).trans (List.map_id _);have:=dM (fR.1 hx).2;unfold mf;rw[if_neg this];rfl
 ·simp[mf,he]
def KH (s:bw)(k:Bs)(t:Nat)(y:Int×bw):Prop:=(bf k=false∧y=(2,s))∨(bf k=true∧((jq s.E k=none∧y=(9,s))∨∃e,jq s.E k=some e∧y=(0,{ s with E:=dj s.E k++[{ e with d:=t}]})))
theorem ak7 {b:Nat}{s:bw}(k:Bs)(dl:Nat)(mG:dl≤never)(hs:Start o w [kz b s]) :
  aj prog 178 [ak b,str k,uV dl].toArray w (aX o (fun y:Int×bw=>iV y.1) (KH s k dl) (fun y=>[kz b y.2])):=by
 have hH:=hs.sh;obtain⟨⟨X,hX⟩,hH⟩:=SH.un hH;replace hH:=SH.ap hH;dsimp only at hH;have qW:=fun hm=>hX.lost (k:=k) hm
 have qT:=fun n hm=>hX.found (k:=k) (n:=n) hm
 have I7:=fun n hn=>hX.used (n:=n) hn
 have Sg:∀n,n∈X.L→aO (X.used n).S n=aO X.S n:=fun _ _=>rfl
 have Tz:=fun n hn=>(hX.used (n:=n) hn).wY (n:=n) (t:=dl) ((N9 hn hX.nd).2 hn) mG
 obtain⟨a,t,r,h,u,A,T,L,S,G,⟨q1,c1⟩,⟨q2,c2⟩⟩:=X;dsimp only[dG.used,dG.wY] at hH qW qT I7 Tz;have aN:∀n∈L,n<S.length:=hX.lt;have ep:S.length≤1048576:=hX.sl;have bT:L.Nodup:=hX.nd;have lA:L.length=s.E.length:=hX.ll;have rX:=hX.many;have gf:=hX.len;refine aj.enter func178 rfl ntmps178 rfl (gh ?_);refine GX.aM (hc:=fun _ hs=>F0 hX.eM k hs) (h:=fun w hE hH=>gh ?_);unfold yS rz;cases hk:bf k with
 |false=>
  refine gh ?_;exact⟨(2,s),rfl, .inl ⟨hk,rfl⟩,(mT hX hH).to⟩
 |true=>
 rw[if_pos rfl];cases hm:ay (fY S L) k with
 |none=>
  refine gh ?_;exact⟨(9,s),rfl, .inr ⟨hk, .inl ⟨qW hm,rfl⟩⟩,(mT hX hH).to⟩
 |some n=>
 obtain⟨hn,iN,nY⟩:=qT n hm;have hnl:=aN n hn;have hg:=yP hnl;dsimp only;refine gh ?_;refine GX.bF (hc:=fun _ hs=>WS bT n ah hn hs) (h:=fun w hH=>gh ?_);replace hH:=z8 hH (QZ (CF hn));refine GX.bF (hc:=fun _ hs=>XX (L:=L.erase n++[n]) (D:=dH S (L.erase n++[n])) ((N9 hn bT).2 hn) ((CF hn).nodup_iff.1 bT) hnl ep (by rw[←(CF hn).length_eq];omega) mG (.inl (pD _)) hs) (h:=fun w hH=>gh ?_);have hR:=Tz n hn;have e3:(s.use (aO S n).e).wY (aO S n).e.k dl={ s with E:=dj s.E k++[{ (aO S n).e with d:=dl}]}:=by
  unfold bw.wY bw.use;simp only;rw[aiS _ rfl,iN]
 rw[e3] at hR;have hp:=(hX.CE hn).trans (sQ (l₁:=[_]));have e1:ej s.E=ej (dj s.E k++[{ (aO S n).e with d:=dl}]):=by
  rw[Gd hp,Kn,Kn];show ej (dj s.E (aO S n).e.k)+_=_;rw[iN];rfl
 have e2:s.E.length=(dj s.E k++[{ (aO S n).e with d:=dl}]).length:=by
  rw[hp.length_eq,bH,bH];show(dj s.E (aO S n).e.k).length+_=_;rw[iN];rfl
 rw[e1,e2,show S.length=(S.set n (rp (aO S n) dl)).length by simp] at hH;have aQ:SH _ _ _:=hH.KU (m':=cZ (S.set n (rp (aO S n) dl))) ((yJ hg).trans (OI (rp (aO S n) dl) hnl).symm);exact⟨(0,_),rfl, .inr ⟨hk, .inr ⟨_,nY,rfl⟩⟩,(mT hR aQ).to⟩
def iu (bytes many c:Nat):List bM→List bM×List bM
 | []=>([],[])
 |x::r=>if bytes<ej (x::r)+c∨many<(x::r).length+1 then(x::(iu bytes many c r).1,(iu bytes many c r).2) else([],x::r)
theorem abz {bytes many c:Nat}{x:bM}{r:List bM}(h:bytes<ej (x::r)+c∨many<(x::r).length+1):iu bytes many c (x::r)=(x::(iu bytes many c r).1,(iu bytes many c r).2):=by rw[iu,if_pos h]
theorem Rb {bytes many c:Nat}{l:List bM}(h:¬(bytes<ej l+c∨many<l.length+1)):iu bytes many c l=([],l):=by
 cases l with
 |nil=>rfl
 |cons x r=>rw[iu,if_neg h]
theorem aiR {E:List bM}{k:Bs}(h:jq E k=none):dj E k=E:=by
 unfold dj;refine oM.2 fun e he=>?_
 have:=List.find?_eq_none.1 h e he;simpa using this
theorem nM.qw {K:Nat}{A:Ar}(h:nM K A){n:Nat}{F:List Nat}(hF:A.free=F++[n]):n<A.aW.length∧A.aW.getD n 0<0∧oV A=({ A with aW:=A.aW.set n (-(A.aW.getD n 0)),free:=F},(n:Int),-(A.aW.getD n 0),0)∧nM K { A with aW:=A.aW.set n (-(A.aW.getD n 0)),free:=F}:=by
 have hn:n∈A.free:=by rw[hF];simp
 obtain⟨h1,h2⟩:=(h.free n).1 hn;refine⟨h1,h2,by rw[oV,hF];simp,h.aD,by simpa using h.len,fun g hg=>?_,fun m=>?_,?_,?_⟩
 ·rcases mn hg with hm|rfl
  ·exact h.gen g hm
  ·have:=h.gen _ (Hy 0 h1);exact⟨by omega,by omega,by omega⟩
 ·have bT:=h.nodup;rw[hF,ga] at bT;have hm:=h.free m;rw[hF,cx,jn] at hm;show m∈F↔m<(A.aW.set n _).length∧(A.aW.set n _).getD m 0<0;rw[fQ,rM]
  by_cases e:m=n
  ·subst e;rw[if_pos ⟨rfl,h1⟩];constructor
   ·intro hf;exact absurd rfl (bT.2.2 m hf m (by simp))
   ·intro hf;omega
  ·rw[if_neg (fun h'=>e h'.1),←hm];simp[e]
 ·have:=h.nodup;rw[hF] at this;exact(ga.1 this).1
 ·have:=h.Bp;rw[hF] at this;simp at this ⊢;omega
theorem nM.acg {K:Nat}{A:Ar}(h:nM K A)(hF:A.free=[])(hl:A.aW.length<A.aD):oV A=({ A with aW:=A.aW++[1]},(A.aW.length:Int),1,0)∧nM K { A with aW:=A.aW++[1]}:=by
 refine⟨by rw[oV,hF];simp;omega,h.aD,by show(A.aW++[1]).length≤A.aD;simp;omega,fun g hg=>?_,fun m=>?_,h.nodup,?_⟩
 ·rcases cx.1 hg with hg|hg
  ·exact h.gen g hg
  ·simp at hg;subst hg;exact⟨by decide,by omega,by omega⟩
 ·have bz:∀m,¬(m<A.aW.length∧A.aW.getD m 0<0):=fun m hm=>by have:=(h.free m).2 hm;rw[hF] at this;cases this
  show m∈A.free↔m<(A.aW++[1]).length∧(A.aW++[1]).getD m 0<0;rw[hF];constructor
  ·intro h';cases h'
  ·rintro⟨a,b⟩;rw[dP,List.getElem?_append] at b;split at b
   ·rename_i c
    exact absurd ⟨c,by rw[dP];exact b⟩ (bz m)
   ·rw[List.getElem?_singleton] at b;split at b
    ·simp at b
    ·simp at b
 ·show A.free.length≤(A.aW++[1]).length;rw[hF];simp
theorem dh.put {X:dG}{s:bw}(h:dh X s){n:Nat}{A:Ar}{T:Tb}{S:List cG}{G:List (Int×Int)}{y:cG}{q1 q2:Option Nat×Nat}(hy:mr y.e)(hA:nM s.K A)(rY:A.aD=X.A.aD)(ny:n∉X.L)(x9:n<S.length)
  (hS:S=X.S∨S=X.S++[s0]) (hG:G.length=S.length) (hGg:∀m∈X.L,G[m]?=X.G[m]?) (oe:A.aW.length=S.length) (Im:0≤A.aW.getD n 0) (SJ:∀m,m≠n→m<X.S.length→A.aW.getD m 0=X.A.aW.getD m 0) (om:X.S.length<S.length→n=X.S.length)
  (hT:jo T (fY X.S X.L++[(y.e.k,n)])) (hk:y.e.k∉s.E.map (·.k)) (hc:ej s.E+eN y.e≤s.bytes) (hm:s.E.length+1≤s.many) :
  dh { X with A:=A,T:=T,L:=X.L++[n],S:=S.set n y,G:=G.set n ((n:Int),A.aW.getD n 0),q1:=q1,q2:=q2} { s with E:=s.E++[y.e]}:=by
 have hSL:∀m,m<X.S.length→aO S m=aO X.S m:=fun m hm=>by
  rcases hS with rfl|rfl
  ·rfl
  ·unfold aO;rw[dP,dP,gp hm]
 have HQ:∀m∈X.L,aO (S.set n y) m=aO X.S m:=fun m hm=>by
  rw[yQ _ (fun e=>ny (by rw[←e];exact hm)),hSL m (h.lt m hm)]
 have hlS:X.S.length≤S.length:=by rcases hS with rfl|rfl<;>simp
 have amC:S.length≤X.S.length+1:=by rcases hS with rfl|rfl<;>simp
 refine⟨?_,?_,fun m hm=>?_,?_,hA,rY.trans h.aD,?_,fun m hm=>?_,?_,fun m hm=>?_,fun x hx=>?_,fun e he=>?_,?_,?_,?_,h.bytes,h.many⟩
 ·show s.E++[y.e]=j4 (S.set n y) (X.L++[n]);unfold j4;rw[eA,h.pT];congr 1
  ·exact(Q7 HQ).symm
  ·simp[CN y x9]
 ·exact ga.2 ⟨h.nd,by simp,fun a ha b hb e=>by simp at hb;subst hb e;exact ny ha⟩
 ·show m<(S.set n y).length;rw[fQ]
  rcases cx.1 hm with hm|hm
  ·exact jL (h.lt m hm) hlS
  ·simp at hm;subst hm;exact x9
 ·show jo T (fY (S.set n y) (X.L++[n]));have:fY (S.set n y) (X.L++[n])=fY X.S X.L++[(y.e.k,n)]:=by
   unfold fY;rw[eA];congr 1
   ·exact Ut HQ
   ·simp[CN y x9]
  rw[this];exact hT
 ·show A.aW.length=(S.set n y).length;rw[fQ];exact oe
 ·have jw:m<S.length:=by simpa using hm
  show m∈X.L++[n]↔0≤A.aW.getD m 0;rw[cx,jn]
  by_cases e:m=n
  ·subst e;exact⟨fun _=>Im,fun _ => .inr rfl⟩
  ·have gf:m<X.S.length:=by
    by_cases hl:X.S.length<S.length
    ·have:=om hl;omega
    ·omega
   rw[SJ m e gf];simp only[e,or_false];exact h.live m gf
 ·show(G.set n _).length=(S.set n y).length;rw[fQ,fQ];exact hG
 ·show(G.set n _)[m]?=some ((m:Int),A.aW.getD m 0)
  by_cases e:m=n
  ·subst e;rw[dE (by rw[hG];exact x9)]
  ·rcases cx.1 hm with hm|hm
   ·rw[dv (Ne.symm e),hGg m hm,h.ref m hm,SJ m e (h.lt m hm)]
   ·simp at hm;exact absurd hm e
 ·rcases mn hx with hx|rfl
  ·rcases hS with rfl|rfl
   ·exact h.sb x hx
   ·rcases cx.1 hx with hx|hx
    ·exact h.sb x hx
    ·simp at hx;subst hx;exact Xr
  ·exact mr.b hy
 ·rcases cx.1 he with he|he
  ·exact h.xP e he
  ·simp at he;subst he;exact hy
 ·show((s.E++[y.e]).map (·.k)).Nodup;rw[eA];exact ga.2 ⟨h.kn,by simp,fun a ha b hb e=>by simp at hb;subst hb e;exact hk ha⟩
 ·show ej (s.E++[y.e])≤s.bytes;rw[Kn,Ko];simpa[ej] using hc
 ·show(s.E++[y.e]).length≤s.many;simpa using hm
theorem dh.alE {X:dG}{s:bw}(h:dh X s)(hm:s.E.length+1≤s.many):∃(n:Nat) (A:Ar),oV X.A=(A,(n:Int),A.aW.getD n 0,0)∧nM s.K A∧A.aD=X.A.aD∧0≤A.aW.getD n 0∧(∀m,m≠n→m<X.S.length→A.aW.getD m 0=X.A.aW.getD m 0)∧n∉X.L∧((n<X.S.length∧A.aW.length=X.S.length)∨(n=X.S.length∧A.aW.length=X.S.length+1)):=by
 rcases List.eq_nil_or_concat X.A.free with hF|⟨F,n,hF⟩
 ·have hlen:X.A.aW.length<X.A.aD:=by
   have h1:X.S.length≤X.L.length:=by
    have eO:∀m∈List.range X.S.length,m∈X.L:=fun m jw=>by
     have gf:=tY.1 jw;refine(h.live m gf).2 ?_
     by_cases MX:X.A.aW.getD m 0<0
     ·have:=(h.ar.free m).2 ⟨by rw[h.gl];exact gf,MX⟩;rw[hF] at this;cases this
     ·omega
    have:=xz (List.nodup_range) eO;simpa using this
   have h2:=h.ll;have h3:=h.aD;rw[h.gl];omega
  obtain⟨h1,h2⟩:=h.ar.acg hF hlen;have hg:(X.A.aW++[1]).getD X.A.aW.length 0=1:=by simp
  refine⟨X.A.aW.length,_,by rw[h1,hg],h2,rfl,by show 0≤(X.A.aW++[1]).getD X.A.aW.length 0;rw[hg];decide,fun m h3 h4=>?_,fun hn=>?_, .inr ⟨h.gl,by show(X.A.aW++[1]).length=_;simp[h.gl]⟩⟩
  ·show(X.A.aW++[1]).getD m 0=_;rw[dP,dP,gp (by rw[h.gl];exact h4)]
  ·have:=h.lt _ hn;rw[h.gl] at this;omega
 ·have hF:X.A.free=F++[n]:=by simpa using hF
  obtain⟨h1,h2,h3,h4⟩:=h.ar.qw hF;have hg:(X.A.aW.set n (-(X.A.aW.getD n 0))).getD n 0 = -(X.A.aW.getD n 0):=by rw[rM,if_pos ⟨rfl,h1⟩]
  refine⟨n,_,by rw[h3,hg],h4,rfl,by show 0≤(X.A.aW.set n _).getD n 0;rw[hg];omega,fun m h5 h6=>?_,fun hn=>?_, .inl ⟨by rw[←h.gl];exact h1,by show(X.A.aW.set n _).length=_;rw[fQ,h.gl]⟩⟩
  ·show(X.A.aW.set n _).getD m 0=_;rw[rM,if_neg (fun h'=>h5 h'.1)]
  ·have:=(h.live n (h.lt n hn)).1 hn;omega
theorem aiQ {x:bM}{r:List bM}(h:((x::r).map (·.k)).Nodup):dj (x::r) x.k=r:=by
 unfold dj;rw[lO,if_neg (by simp)];refine oM.2 fun e he=>b8 fun hk=>?_
 rw[cJ,eQ] at h;exact h.1 (bG.2 ⟨e,he,hk⟩)
end Go.Proofs.YtoloaehmppcjoaaGreat.V.M
