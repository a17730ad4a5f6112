/-
  Parts of the proof. No condition.
-/
import Derived.Test.YtmlpbmgfmnmmmaaGreatW2ba
import Derived.Test.YtmlpbmgfmnmmmaaGreatW2bd
set_option linter.unusedVariables false
set_option linter.unusedSimpArgs false
set_option maxRecDepth 8000
set_option maxHeartbeats 8000000
open Go.Proofs.Tryz
namespace Go.Proofs.YtmlpbmgfmnmmmaaGreat.V.M
attribute [local irreducible] GO GX aA fz aF aQ ao star
variable {o:Og}{w:World}
theorem FX {b a:Nat}{v1 v2 v3 v4 v5 v6:Value}(hs:Start o w [fz (aA b [ak a,v1,v2,v3,v4,v5,v6])]):aj prog 103 [ak b].toArray w (Po o (.bool false) []):=by
 have hH:=hs.sh;refine aj.enter func103 rfl ntmps103 rfl (gh ?_);exact⟨rfl,hH.to⟩
theorem aln {b a t r h u:Nat}{v5 v6:Value}{bb ee ub ue c:Nat}(hb:1≤bb)(h1:ub<2^60)(h2:c<2^60)(h3:ue<2^60)(hs:Start o w [fz (aA b [ak a,ak t,ak r,ak h,ak u,v5,v6]),fz (iq u bb ee ub ue)]) :
  aj prog 223 [ak b,iV c].toArray w (Po o (.bool (decide (bb<ub+c∨ee<ue+1))) []):=by
 have hH:=hs.sh;refine aj.enter func223 rfl ntmps223 rfl (gh ?_);refine GX.aL (hc:=fun _ hs=>Qp hb hs) (h:=fun w hE hH=>gh ?_);refine GX.aL (hc:=fun _ hs=>QT hb hs) (h:=fun w hE hH=>gh ?_);refine ifs (fun h4=>?_) (fun h4=>?_)<;>refine gh ?_
 ·exact⟨by rw[bQ ah],hH.to⟩
 ·refine⟨?_,hH.to⟩;congr 1;exact tA.2 ah
def E' (S:List cH)(L:List Nat)(k:Bs):Option Nat:=L.find? fun n=>decide ((aN S n).e.k=k)
def kT (E:List cC)(k:Bs):Option cC:=E.find? fun e=>decide (e.k=k)
theorem V0 (S:List cH)(L:List Nat)(k:Bs):az (fO S L) k=E' S L k:=by
 induction L with
 |nil=>rfl
 |cons n L ih=>
  show az (((aN S n).e.k,n)::fO S L) k=_;simp only[az,E',List.find?_cons]
  by_cases h:(aN S n).e.k=k
  ·simp[h]
  ·rw[if_neg (Ne.symm h)];simp only[h,decide_false];exact ih
theorem Rj (S:List cH)(L:List Nat)(k:Bs):kT (jK S L) k=(E' S L k).map fun n=>(aN S n).e:=by
 induction L with
 |nil=>rfl
 |cons n L ih=>
  show kT ((aN S n).e::jK S L) k=_;simp only[kT,E',List.find?_cons]
  by_cases h:(aN S n).e.k=k
  ·simp[h]
  ·simp only[h,decide_false];exact ih
theorem aeh {S:List cH}{L:List Nat}{k:Bs}{n:Nat}(h:E' S L k=some n):n∈L∧(aN S n).e.k=k:=⟨List.mem_of_find?_eq_some h,by simpa using List.find?_some h⟩
def yU (S:List cH)(L:List Nat)(k:Bs):Int×Int:=q7 (fO S L) k
theorem FW {b a t:Nat}{v2 v3 v4 v5 v6:Value}{T:Tb}{S:List cH}{L:List Nat}(hT:iS T (fO S L))(k:Bs)(hs:Start o w [fz (aA b [ak a,ak t,v2,v3,v4,v5,v6]),fz (gI t T)]) :
  aj prog 132 [ak b,str k].toArray w (Po o (.tuple #[iV (yU S L k).1,iV (yU S L k).2]) []):=by
 have hH:=hs.sh;refine aj.enter func132 rfl ntmps132 rfl (gh ?_);refine GX.aL (hc:=fun _ hs=>FX hs) (h:=fun w hE hH=>gh ?_);refine GX.da (rO k _) rfl rfl rfl rfl rfl rfl (gh ?_);unfold yU q7;cases hk:bI k with
 |false=>
  refine gh ?_;exact⟨by simp,hH.to⟩
 |true=>
 refine gh ?_;refine GX.aL (hc:=fun _ hs=>alO hT.s hT.eC hT.ne k hs) (h:=fun w hE hH=>gh ?_);unfold q7;rw[if_pos hk];cases hm:az (fO S L) k with
 |none=>
  refine gh ?_;exact⟨by simp,hH.to⟩
 |some n=>
  refine gh ?_;exact⟨by simp,hH.to⟩
theorem Hh {S:List cH}{L:List Nat}{n:Nat}(hn:n∈L):(dD S L).Perm (if(aN S n).e.d≠never then(n,(aN S n).e.d)::dD S (L.erase n) else dD S (L.erase n)):=by
 have h:=(((AZ hn).filter fun n=>decide ((aN S n).e.d≠never)).map fun n=>(n,(aN S n).e.d))
 unfold dD;rw[oo] at h;split at h
 ·rename_i hd
  rw[if_pos (eN hd)];exact h
 ·rename_i hd
  rw[if_neg (fun h'=>hd (bQ h'))];exact h
theorem Dt {S:List cH}{L:List Nat}{n:Nat}(h:n∉L∨(aN S n).e.d=never):∀x∈dD S L,x.1≠n:=by
 intro x hx e;obtain⟨m,hm,rfl⟩:=bK.1 hx;obtain⟨h1,h2⟩:=ib.1 hm;simp only at e;subst e
 rcases h with h|h
 ·exact h h1
 ·exact eN h2 h
theorem Aa {h:Nat}{D D':List Tm}{l r:List It}(hH:SH o w l)(hp:D.Perm D')(hs:aB (fL h D) l r:=by repeat(first|exact aB.here|apply aB.there)):SH o w (fL h D'::r):=by
 obtain⟨⟨L,hP,hq⟩,hH⟩:=SH.un hH hs;exact SH.mk (f:=fun L:{ L:List Tm // L.Perm D'∧Hp L∧j7 L}=>[kE h L.1]) ⟨L,hP.trans hp,hq⟩ hH
theorem adK {h:Nat}{S:List cH}{L:List Nat}{n:Nat}(hn:n∈L)(hl:n<1048576)(hs:Start o w [fL h (dD S L)]) :
  aj prog 173 [ak h,iV n].toArray w (aU o (fun x:Nat×Int => .tuple #[uV x.1,iV x.2]) (fun _=>True) (fun _=>[fL h (dD S (L.erase n))])):=by
 have hp:=Hh (S:=S) hn;split at hp
 ·exact(MW n _ hl hp hs).mono fun _ _ ⟨h1,h2⟩=>⟨(_,_),h1,trivial,h2⟩
 ·rename_i hd
  exact(MP n hl (Dt (.inr (by simpa using hd))) hs).mono fun _ _ ⟨h1,h2⟩=>⟨(_,_),h1,trivial,(Aa h2 hp).to⟩
theorem SH.s0 {l:List It}(h:SH o w l):SH o w (fx s0++l):=
 SH.cE (q:=none) (SH.cE (q:=none) h (Mod.refl w) (fun _ h=>by cases h) (aG.nil _ _ _)) (Mod.refl w) (fun _ h=>by cases h) (aG.nil _ _ _)
abbrev dB.Fe (X:dB)(b:Nat)(s:bw)(D:List Tm):List It:=
 [aA b [ak X.a,ak X.t,ak X.r,ak X.h,ak X.u, .slice (ay X.q1.1) X.S.length X.q1.2, .slice (ay X.q2.1) X.G.length X.q2.2],
  ao 138 6 X.q1.1 X.S.length X.q1.2 (aK eB X.S),ao 230 2 X.q2.1 X.G.length X.q2.2 (aK pX X.G),
  mL X.a X.A,gI X.t X.T,ni X.r X.L,fL X.h D,iq X.u s.bytes s.many (dL s.E) s.E.length,bB (cY X.S)]
theorem X6 {b:Nat}{s:bw}{X:dB}(hX:de X s){n:Nat}(hn:n∈X.L)(hK:s.K<2^60){D D':List Tm}(B6:∀{o:Og}{w:World},Start o w [fL X.h D]→aj prog 173 [ak X.h,iV n].toArray w (aU o (fun x:Nat×Int => .tuple #[uV x.1,iV x.2]) (fun _=>True) (fun _=>[fL X.h D'])))(hs:Start o w (X.Fe b s D)) :
  aj prog 105 [ak b,iV n].toArray w (aU o (fun _:Tb => .agg (eB (aN X.S n)).toArray) (fun T=>de (X.p5 n T) (s.drop (aN X.S n).e.k)) (fun T=>(X.p5 n T).Fe b (s.drop (aN X.S n).e.k) D'++fx (aN X.S n))):=by
 have hH:=hs.sh;have TJ:=fun T hT=>hX.p5 hn (T:=T) hT
 obtain⟨a,t,r,h,u,A,T,L,S,G,⟨q1,c1⟩,⟨q2,c2⟩⟩:=X;dsimp only[dB.p5] at hH hn TJ B6 ⊢;have aP:n<S.length:=hX.lt n hn;have dY:S.length≤1048576:=hX.sl;have lK:G.length=S.length:=hX.refs;have hg:=yO aP;have qj:l7 (aN S n).e:=hX.ok hn;have hc:=KW qj;have II:s.E.Perm ((aN S n).e::dv s.E (aN S n).e.k):=hX.CI hn;have hlen:=II.length_eq;have wm:=Ga II;rw[J'] at wm;rw[dR] at hlen;have jQ:=alz (l:=dv s.E (aN S n).e.k) fun e he=>hX.xI e (ib.1 he).1
 have iY:=hX.bytes;have BC:=hX.many;have Sk:=hX.cost;have hb5:=hX.len;have xW:qO A n:=hX.gen hn;have amy:A.aW.getD n 0≠0∧-(s.K:Int) - 1≤A.aW.getD n 0∧A.aW.getD n 0≤s.K+1:=hX.ar.gen _ (Hv 0 (show n<A.aW.length by rw[show A.aW.length=S.length from hX.gl];exact aP));have kX:A.free.length≤A.aW.length:=hX.ar.Br;have adb:A.aW.length=S.length:=hX.gl;have ad2:iS T (((aN S n).e.k,n)::fO S (L.erase n)):=hX.eC.perm ((AZ hn).map _);have adT:G[n]?=some ((n:Int),A.aW.getD n 0):=hX.ref n hn;have rJ:0<A.aI:=hX.ar.aI.1;generalize hx:aN S n=x at *;have hd:=jj o9 hg;have ft:=jj JN adT;replace hH:=hH.oF (fx x) (cY (S.eraseIdx n)) (yF hg);simp only[fx,iQ,jF] at hH;obtain⟨q,rfl⟩:=hH.pos (el:=138) (sz:=6);obtain⟨q2,rfl⟩:=hH.pos (el:=230) (sz:=2);refine aj.enter func105 rfl ntmps105 rfl (gh ?_);refine GX.cm (h:=fun z w hH=>gh ?_);refine GX.next rfl (GO.jz (hv:=hd) (h:=gh ?_));refine GX.cm (h:=fun y w hH=>gh ?_);refine GX.bc (h:=fun w hH=>gh ?_);refine GC.bq (pl:=(aZ [0,3,6,12,10,16,20])) (T:=cS [b,y]) (hm:=mixed) (h:=fun w hE hH=>gh ?_);refine GX.gT (hc:=fun _ hs=>alN ad2 hs) (h:=?_);rintro T' w nP hS hH;replace hH:=SH.ap hH;refine gh ?_;refine GX.bz (hc:=fun _ hs=>WO n ah hn hs) (h:=fun w hH=>gh ?_);refine GX.bS (hc:=fun _ hs=>B6 hs) (h:=?_);rintro⟨_,_⟩ w _ hH;replace hH:=SH.ap hH;refine gh ?_;refine GC.bq (pl:=(aZ [0,3,6,10,13,17,20])) (T:=cS [b,y]) (hm:=mixed) (h:=fun w hE hH=>gh ?_);refine GX.xF (hc:=fun _ hs=>Xs x.e qj rfl rfl hs) (h:=fun w hS hH=>gh ?_);refine GX.gz (hc:=fun _ hs=>aaG (b:=s.bytes) (e:=s.many) (ub:=dL s.E) (ue:=s.E.length) ah (fb x.e) hc ah ah ah ah ah hs) (h:=fun w hS hH=>gh ?_);refine GC.bq (pl:=(aZ [0,3,6,12,15,18,24,10,22,27,31,35])) (T:=cS [b,q2]) (hm:=mixed) (h:=fun w hE hH=>gh ?_);refine GX.read rfl (GO.yz (hT:=tj) (hv:=ft) (h:=gh ?_));refine GX.gz (hc:=fun _ hs=>Za rJ n _ xW rfl ah ah hs) (h:=fun w hS hH=>gh ?_);refine GX.vf (hb:=by rw[gQ o9,o9];simp;omega) (hc:=show(aK eB S).take (0+n*6)++eB s0++(aK eB S).drop (0+n*6+6)=aK eB (S.set n s0) by rw[dA];exact AN o9 aP s0) (h:=fun w hH=>gh ?_);refine GX.bc (h:=fun w hH=>gh ?_);refine⟨T',rfl,TJ T' nP,?_⟩;have e1:dL s.E - fb x.e=dL (dv s.E x.e.k):=by omega
 have e2:s.E.length - 1=(dv s.E x.e.k).length:=by omega
 rw[e1,e2] at hH;have aO:=hH.s0;replace aO:=SH.ap aO;have cF:=aO.iu (m:=cY (S.set n s0)) (fx s0) (cY (S.eraseIdx n)) (by repeat(first|exact Pk.nil|(apply Pk.cons;repeat(first|exact aB.here|apply aB.there)))) (OA s0 aP);rw[show S.length=(S.set n s0).length by simp] at cF;exact cF.to
theorem Pd {b:Nat}{s:bw}{X:dB}(hX:de X s){n:Nat}(hn:n∈X.L)(hK:s.K<2^60)(hs:Start o w (X.dm b s)) :
  aj prog 105 [ak b,iV n].toArray w (aU o (fun _:Tb => .agg (eB (aN X.S n)).toArray) (fun T=>de (X.p5 n T) (s.drop (aN X.S n).e.k)) (fun T=>(X.p5 n T).dm b (s.drop (aN X.S n).e.k)++fx (aN X.S n))):=by
 have vV:dD (X.S.set n s0) (X.L.erase n)=dD X.S (X.L.erase n):=Hg fun m hm=>yP _ fun e=>Ay hX.nd (e▸hm)
 have h:=X6 hX hn hK (D:=dD X.S X.L) (D':=dD X.S (X.L.erase n)) (fun hs=>adK hn (j4 (hX.lt n hn) hX.sl) hs) hs;rw[←vV] at h;exact h
theorem N0 {L:List Nat}{n m:Nat}(hn:n∈L)(hd:L.Nodup):m∈L.erase n++[n]↔m∈L:=by
 rw[cJ,hd.mem_erase_iff,lC];constructor
 ·rintro(⟨_,h⟩|rfl)
  ·exact h
  ·exact hn
 ·intro h
  by_cases e:m=n
  ·exact .inr e
  ·exact .inl ⟨e,h⟩
theorem CJ {L:List Nat}{n:Nat}(hn:n∈L):L.Perm (L.erase n++[n]):=(AZ hn).trans (sx (l₁:=[n]))
def dB.used (X:dB)(n:Nat):dB:={ X with L:=X.L.erase n++[n]}
def bw.use (s:bw)(e:cC):bw:={ s with E:=dv s.E e.k++[e]}
theorem QX {S:List cH}{L L':List Nat}(h:L.Perm L'):(dD S L).Perm (dD S L'):=(h.filter _).map _
theorem de.used {X:dB}{s:bw}(h:de X s){n:Nat}(hn:n∈X.L):de (X.used n) (s.use (aN X.S n).e):=by
 have hE:jK X.S (X.L.erase n++[n])=dv s.E (aN X.S n).e.k++[(aN X.S n).e]:=by
  rw[←h.erase hn];unfold jK;rw[eD];rfl
 have hp:s.E.Perm (dv s.E (aN X.S n).e.k++[(aN X.S n).e]):=(h.CI hn).trans (sx (l₁:=[_]));have hm:∀m,m∈X.L.erase n++[n]↔m∈X.L:=fun m=>N0 hn h.nd
 refine⟨hE.symm,(CJ hn).nodup_iff.1 h.nd,fun m i'=>h.lt m ((hm m).1 i'),h.eC.perm ((CJ hn).map _),h.ar,h.aI,h.gl,fun m i'=>(hm m).trans (h.live m i'),h.refs,fun m i'=>h.ref m ((hm m).1 i'),h.sb,fun e he=>h.xI e (hp.mem_iff.2 he),((hp.map (·.k)).nodup_iff).1 h.kn,?_,?_,h.bytes,h.many⟩
 ·show dL (dv s.E _++[_])≤s.bytes;rw[←Ga hp];exact h.cost
 ·show(dv s.E _++[_]).length≤s.many;rw[←hp.length_eq];exact h.len
def lT (k:Bs)(t:Nat)(e:cC):cC:=if e.k=k then { e with d:=t} else e
def qX (x:cH)(t:Nat):cH:={ x with e:={ x.e with d:=t}}
def dB.wR (X:dB)(n t:Nat):dB:={ X with S:=X.S.set n (qX (aN X.S n) t)}
def bw.wR (s:bw)(k:Bs)(t:Nat):bw:={ s with E:=s.E.map (lT k t)}
theorem aiF (k:Bs)(t:Nat)(e:cC):(lT k t e).k=e.k:=by unfold lT;split<;>rfl
theorem aiE (k:Bs)(t:Nat)(e:cC):fb (lT k t e)=fb e:=by unfold lT;split<;>rfl
theorem aiG {k:Bs}{t:Nat}(ht:t≤never){e:cC}(h:l7 e):l7 (lT k t e):=by
 unfold lT;split
 ·exact⟨h.k,h.v,h.t,ht,h.n,h.st⟩
 ·exact h
theorem de.aiI {X:dB}{s:bw}(h:de X s){n:Nat}(hn:n∈X.L)(t:Nat):jK (X.S.set n (qX (aN X.S n) t)) X.L=s.E.map (lT (aN X.S n).e.k t):=by
 rw[h.pC,jK,jK,nB];refine ri fun m hm=>?_
 show _=lT _ t (aN X.S m).e
 by_cases e:m=n
 ·subst e;rw[CS _ (h.lt m hm)];simp[lT,qX]
 ·rw[yP _ e];unfold lT;rw[if_neg fun h'=>e (h.inj hm hn h')]
theorem de.wR {X:dB}{s:bw}(h:de X s){n:Nat}(hn:n∈X.L){t:Nat}(ht:t≤never):de (X.wR n t) (s.wR (aN X.S n).e.k t):=by
 have hnl:=h.lt n hn;have hk:fO (X.S.set n (qX (aN X.S n) t)) X.L=fO X.S X.L:=ri fun m hm=>by
  by_cases e:m=n
  ·subst e;rw[CS _ hnl];rfl
  ·rw[yP _ e]
 refine⟨(h.aiI hn t).symm,h.nd,fun m hm=>?_,?_,h.ar,h.aI,?_,fun m hm=>h.live m (by simpa[dB.wR] using hm),?_,h.ref,fun x hx=>?_,fun e he=>?_,?_,?_,?_,h.bytes,h.many⟩
 ·show m<(X.S.set n _).length;rw[fS];exact h.lt m hm
 ·show iS X.T (fO (X.S.set n _) X.L);rw[hk];exact h.eC
 ·show X.A.aW.length=(X.S.set n _).length;rw[fS];exact h.gl
 ·show X.G.length=(X.S.set n _).length;rw[fS];exact h.refs
 ·rcases l4 hx with hm|rfl
  ·exact h.sb x hm
  ·exact h.sb (aN X.S n) (bF (yO hnl))
 ·obtain⟨e',zM,rfl⟩:=bK.1 he;exact aiG ht (h.xI e' zM)
 ·show((s.E.map (lT _ t)).map (·.k)).Nodup;rw[nB,show((fun e:cC=>e.k) ∘ lT (aN X.S n).e.k t)=fun e=>e.k from funext fun e=>aiF _ _ e];exact h.kn
 ·show dL (s.E.map (lT _ t))≤s.bytes;unfold dL;rw[nB,show(fb ∘ lT (aN X.S n).e.k t)=fb from funext fun e=>aiE _ _ e];exact h.cost
 ·show(s.E.map (lT _ t)).length≤s.many;rw[fk];exact h.len
theorem GV (l:Bs):∀u∈Lib.byteCells l,u.oneCell'=true:=by
 intro u hu;simp only[Lib.byteCells,bK] at hu;obtain⟨x,_,rfl⟩:=hu;rfl
def YB (E:List cC)(k:Bs)(y:cH×Int):Prop:=(bI k=false∧y=(s0,2))∨(bI k=true∧((kT E k=none∧y=(s0,9))∨(kT E k=some y.1.e∧y.2=0)))
def abG (y:cH×Int):Value := .tuple #[.agg (eB y.1).toArray,iV y.2]
theorem de.found {X:dB}{s:bw}(h:de X s){k:Bs}{n:Nat}(hm:az (fO X.S X.L) k=some n):n∈X.L∧(aN X.S n).e.k=k∧kT s.E k=some (aN X.S n).e:=by
 rw[V0] at hm;obtain⟨h1,h2⟩:=aeh hm;exact⟨h1,h2,by rw[h.pC,Rj,hm];rfl⟩
theorem de.lost {X:dB}{s:bw}(h:de X s){k:Bs}(hm:az (fO X.S X.L) k=none):kT s.E k=none:=by
 rw[V0] at hm;rw[h.pC,Rj,hm];rfl
theorem alc {b:Nat}{s:bw}(k:Bs)(hs:Start o w [fz (jD b s)]) :
  aj prog 70 [ak b,str k].toArray w (aU o abG (YB s.E k) (fun y=>fx y.1)):=by
 have hH:=hs.sh;obtain⟨⟨X,hX⟩,hH⟩:=SH.dQ hH;replace hH:=SH.dW hH;dsimp only at hH;have qE:=fun hm=>hX.lost (k:=k) hm
 have qB:=fun n hm=>hX.found (k:=k) (n:=n) hm
 obtain⟨a,t,r,h,u,A,T,L,S,G,⟨q1,c1⟩,⟨q2,c2⟩⟩:=X;dsimp only at hH qE qB;have aP:∀n∈L,n<S.length:=hX.lt;have dY:S.length≤1048576:=hX.sl;have sX:∀x∈S,zg x:=hX.sb;refine aj.enter func70 rfl ntmps70 rfl (gh ?_);refine GX.cm (h:=fun z w hH=>gh ?_);refine GX.aL (hc:=fun _ hs=>FW hX.eC k hs) (h:=fun w hE hH=>gh ?_);unfold yU q7;cases hk:bI k with
 |false=>
  refine gh ?_;refine GX.bc (h:=fun w hH=>gh ?_);exact⟨(s0,2),rfl, .inl ⟨hk,rfl⟩,hH.s0.to⟩
 |true=>
 rw[if_pos rfl];cases hm:az (fO S L) k with
 |none=>
  refine gh ?_;refine GX.bc (h:=fun w hH=>gh ?_);exact⟨(s0,9),rfl, .inr ⟨hk, .inl ⟨qE hm,rfl⟩⟩,hH.s0.to⟩
 |some n=>
 obtain⟨hn,kD,nR⟩:=qB n hm;have hnl:=aP n hn;have hg:=yO hnl;obtain⟨jQ,iY,BC⟩:=sX _ (bF hg);have hd:=jj o9 hg;replace hH:=hH.GL (fx (aN S n)) (cY (S.eraseIdx n)) (yF hg);simp only[fx,cK,tD,iQ,jF] at hH;obtain⟨q,rfl⟩:=hH.lR (el:=138) (sz:=6);have l1:=hH.VB (el:=5) (sz:=1);have l2:=hH.VB (el:=9) (sz:=1);have n1:=hH.ti (el:=5) (sz:=1);have n2:=hH.ti (el:=9) (sz:=1);dsimp only;refine gh ?_;refine GX.next rfl (GO.jz (hv:=hd) (h:=gh ?_));refine GX.dX (hc:=fun _ hs=>yG (vs:=Lib.byteCells (aN S n).e.v) (ts:=aM (aN S n).e.t) ah ah n1 (GV _) ah ah n2 (yW _) hs) (h:=?_);rintro⟨y1,y2⟩ w _ hE hH;replace hH:=SH.ap hH;refine gh ?_;refine GX.bc (h:=fun w hH=>gh ?_);exact⟨(⟨(aN S n).e,y1,y2⟩,0),rfl, .inr ⟨hk, .inr ⟨nR,rfl⟩⟩,hH.to⟩
theorem mA {l t:List It}{b:Nat}{X:dB}{s:bw}(hX:de X s)(hH:SH o w l)(hp:Pk l (X.dm b s) t:=by repeat(first|exact Pk.nil|(apply Pk.cons;repeat(first|exact aB.here|apply aB.there)))):SH o w (jD b s::t):=
 SH.fold (f:=fun X:{ X:dB // de X s}=>X.1.dm b s) ⟨X,hX⟩ hH hp
def YI (s:bw)(k:Bs)(y:cH×Int×bw):Prop:=(bI k=false∧y=(s0,2,s))∨(bI k=true∧((kT s.E k=none∧y=(s0,9,s))∨(kT s.E k=some y.1.e∧y.2.1=0∧y.2.2=s.drop k)))
theorem ale {b:Nat}{s:bw}(k:Bs)(hK:s.K<2^60)(hs:Start o w [jD b s]) :
  aj prog 219 [ak b,str k].toArray w (aU o (fun y:cH×Int×bw => .tuple #[.agg (eB y.1).toArray,iV y.2.1]) (YI s k) (fun y=>jD b y.2.2::fx y.1)):=by
 have hH:=hs.sh;obtain⟨⟨X,hX⟩,hH⟩:=SH.un hH;replace hH:=SH.ap hH;dsimp only at hH;have qE:=fun hm=>hX.lost (k:=k) hm
 have qB:=fun n hm=>hX.found (k:=k) (n:=n) hm
 obtain⟨a,t,r,h,u,A,T,L,S,G,⟨q1,c1⟩,⟨q2,c2⟩⟩:=X;dsimp only at hH qE qB;refine aj.enter func219 rfl ntmps219 rfl (gh ?_);refine GX.cm (h:=fun z w hH=>gh ?_);refine GX.aL (hc:=fun _ hs=>FW hX.eC k hs) (h:=fun w hE hH=>gh ?_);unfold yU q7;cases hk:bI k with
 |false=>
  refine gh ?_;refine GX.bc (h:=fun w hH=>gh ?_);exact⟨(s0,2,s),rfl, .inl ⟨hk,rfl⟩,(mA hX hH.s0).to⟩
 |true=>
 rw[if_pos rfl];cases hm:az (fO S L) k with
 |none=>
  refine gh ?_;refine GX.bc (h:=fun w hH=>gh ?_);exact⟨(s0,9,s),rfl, .inr ⟨hk, .inl ⟨qE hm,rfl⟩⟩,(mA hX hH.s0).to⟩
 |some n=>
 obtain⟨hn,kD,nR⟩:=qB n hm;dsimp only;refine gh ?_;refine GX.bS (hc:=fun _ hs=>Pd hX hn hK hs) (h:=?_);dsimp only;rintro T' w vR hH;replace hH:=SH.ap hH;refine gh ?_;refine GX.bc (h:=fun w hH=>gh ?_);rw[kD] at vR hH;exact⟨(aN S n,0,s.drop k),rfl, .inr ⟨hk, .inr ⟨nR,rfl,rfl⟩⟩,(mA vR hH).to⟩
theorem adJ {h:Nat}{S:List cH}{L:List Nat}{D:List Tm}{n:Nat}(hn:n∈L)(hL:L.Nodup)(hl:n<1048576)(hD:D.Perm (dD S L)∨D.Perm (dD S (L.erase n)))(hs:Start o w [fL h D]) :
  aj prog 173 [ak h,iV n].toArray w (aU o (fun x:Nat×Int => .tuple #[uV x.1,iV x.2]) (fun _=>True) (fun _=>[fL h (dD S (L.erase n))])):=by
 have key:(∀x∈D,x.1≠n)→D.Perm (dD S (L.erase n))→aj prog 173 [ak h,iV n].toArray w (aU o (fun x:Nat×Int => .tuple #[uV x.1,iV x.2]) (fun _=>True) (fun _=>[fL h (dD S (L.erase n))])):=fun h1 h2=>
  (MP n hl h1 hs).mono fun _ _ ⟨h3,h4⟩=>⟨(_,_),h3,trivial,(Aa h4 h2).to⟩
 rcases hD with hD|hD
 ·have hp:=Hh (S:=S) hn;split at hp
  ·exact(MW n _ hl (hD.trans hp) hs).mono fun _ _ ⟨h1,h2⟩=>⟨(_,_),h1,trivial,h2⟩
  ·rename_i hd
   exact key (fun x hx=>Dt (.inr (by simpa using hd)) x (hD.mem_iff.1 hx)) (hD.trans hp)
 ·exact key (fun x hx=>Dt (.inl (Ay hL)) x (hD.mem_iff.1 hx)) hD
theorem aaM {S:List cH}{L:List Nat}{n t:Nat}(hn:n∈L)(hL:L.Nodup)(hnl:n<S.length)(x:cH)(hx:x.e.d=t):(dD (S.set n x) L).Perm (if t≠never then dD S (L.erase n)++[(n,t)] else dD S (L.erase n)):=by
 have h:=Hh (S:=S.set n x) hn;rw[CS _ hnl,hx,Hg (S':=S) (L:=L.erase n) fun m hm=>yP _ fun e=>Ay hL (e▸hm)] at h;refine h.trans ?_;split
 ·exact sx (l₁:=[(n,t)])
 ·exact mC _
theorem XV {b a tt r h u n t c1:Nat}{q1:Option Nat}{v6:Value}{S:List cH}{L:List Nat}{D:List Tm}(hn:n∈L)(hL:L.Nodup)(hnl:n<S.length)(dY:S.length≤1048576)(kZ:L.length≤1048576)(ht:t≤never)(hD:D.Perm (dD S L)∨D.Perm (dD S (L.erase n)))
  (hs:Start o w [aA b [ak a,ak tt,ak r,ak h,ak u, .slice (ay q1) S.length c1,v6],ao 138 6 q1 S.length c1 (aK eB S),fL h D]) :
  aj prog 228 [ak b,iV n,uV t].toArray w (Po o (.tuple #[]) [aA b [ak a,ak tt,ak r,ak h,ak u, .slice (ay q1) S.length c1,v6],ao 138 6 q1 S.length c1 (aK eB (S.set n (qX (aN S n) t))),fL h (dD (S.set n (qX (aN S n) t)) L)]):=by
 have hH:=hs.sh;have hg:=yO hnl;have wj:=aaM (S:=S) (t:=t) hn hL hnl (qX (aN S n) t) rfl;have ml:(dD S (L.erase n)).length<1048576:=by
  have h1:(dD S (L.erase n)).length≤(L.erase n).length:=by
   unfold dD;rw[fk];exact rh _ _
  have h2:=List.length_erase_of_mem hn;have h3:=vl hn;omega
 refine aj.enter func228 rfl ntmps228 rfl (gh ?_);refine GX.bS (hc:=fun _ hs=>adJ hn hL ah hD hs) (h:=?_);rintro⟨_,_⟩ w _ hH;replace hH:=SH.ap hH;obtain⟨q,rfl⟩:=hH.pos (el:=138) (sz:=6);refine gh ?_;refine GX.vf (hb:=?_) (hc:=show(aK eB S).take (0+n*6+3)++[uV t]++(aK eB S).drop (0+n*6+3+1)=aK eB (S.set n (qX (aN S n) t)) from ?_) (h:=fun w hH=>gh ?_)
 ·rw[gQ o9];simp;omega
 ·rw[dA,←CR (y:=qX (aN S n) t) (v:=uV t) (j:=3) o9 hg (by decide) rfl,A0,if_pos (by rw[gQ o9];omega)];simp
 refine ifs (fun h1=>?_) (fun h1=>?_)<;>refine gh ?_
 ·refine GX.bz (hc:=fun _ hs=>adS n t ah (by simp only[never] at ht;omega) (Dt (.inl (Ay hL))) ml hs) (h:=fun w hH=>gh ?_);rw[if_pos (by simp only[never];omega)] at wj;exact⟨rfl,(Aa hH wj.symm).to⟩
 ·rw[if_neg (by simp only[never];omega)] at wj;exact⟨rfl,(Aa hH wj.symm).to⟩
def Ku (s:bw)(k:Bs)(y:cH×Int×bw):Prop:=(bI k=false∧y=(s0,2,s))∨(bI k=true∧((kT s.E k=none∧y=(s0,9,s))∨(kT s.E k=some y.1.e∧y.2.1=0∧y.2.2=s.use y.1.e)))
theorem alg {b:Nat}{s:bw}(k:Bs)(hs:Start o w [jD b s]) :
  aj prog 152 [ak b,str k].toArray w (aU o (fun y:cH×Int×bw => .tuple #[.agg (eB y.1).toArray,iV y.2.1]) (Ku s k) (fun y=>jD b y.2.2::fx y.1)):=by
 have hH:=hs.sh;obtain⟨⟨X,hX⟩,hH⟩:=SH.un hH;replace hH:=SH.ap hH;dsimp only at hH;have qE:=fun hm=>hX.lost (k:=k) hm
 have qB:=fun n hm=>hX.found (k:=k) (n:=n) hm
 have IW:=fun n hn=>hX.used (n:=n) hn
 obtain⟨a,t,r,h,u,A,T,L,S,G,⟨q1,c1⟩,⟨q2,c2⟩⟩:=X;dsimp only[dB.used] at hH qE qB IW;have aP:∀n∈L,n<S.length:=hX.lt;have dY:S.length≤1048576:=hX.sl;have sX:∀x∈S,zg x:=hX.sb;have bX:L.Nodup:=hX.nd;refine aj.enter func152 rfl ntmps152 rfl (gh ?_);refine GX.cm (h:=fun z w hH=>gh ?_);refine GX.aL (hc:=fun _ hs=>FW hX.eC k hs) (h:=fun w hE hH=>gh ?_);unfold yU q7;cases hk:bI k with
 |false=>
  refine gh ?_;refine GX.bc (h:=fun w hH=>gh ?_);exact⟨(s0,2,s),rfl, .inl ⟨hk,rfl⟩,(mA hX hH.s0).to⟩
 |true=>
 rw[if_pos rfl];cases hm:az (fO S L) k with
 |none=>
  refine gh ?_;refine GX.bc (h:=fun w hH=>gh ?_);exact⟨(s0,9,s),rfl, .inr ⟨hk, .inl ⟨qE hm,rfl⟩⟩,(mA hX hH.s0).to⟩
 |some n=>
 obtain⟨hn,kD,nR⟩:=qB n hm;have hnl:=aP n hn;have hg:=yO hnl;obtain⟨jQ,iY,BC⟩:=sX _ (bF hg);have hd:=jj o9 hg;dsimp only;refine gh ?_;refine GX.bz (hc:=fun _ hs=>WQ bX n ah hn hs) (h:=fun w hH=>gh ?_);replace hH:=hH.oF (fx (aN S n)) (cY (S.eraseIdx n)) (yF hg);simp only[fx,iQ,jF] at hH;obtain⟨q,rfl⟩:=hH.pos (el:=138) (sz:=6);have l1:(Lib.byteCells (aN S n).e.v).length=(aN S n).e.v.length:=by simp[Lib.byteCells]
 have l2:=VE (aN S n).e.t;have n1:ay (aN S n).qv.1=none→(aN S n).e.v.length=0:=fun e=>by
  cases hq:(aN S n).qv.1 with
  |some b=>rw[hq] at e;cases e
  |none=>
   rw[hq] at hH
   by_cases h0:0<(aN S n).e.v.length
   ·obtain⟨_,h1⟩:=hH.pos (el:=5) (sz:=1) (q:=none) (n:=(aN S n).e.v.length) (hn:=h0);cases h1
   ·omega
 have n2:ay (aN S n).qt.1=none→(aN S n).e.t.length=0:=fun e=>by
  cases hq:(aN S n).qt.1 with
  |some b=>rw[hq] at e;cases e
  |none=>
   rw[hq] at hH
   by_cases h0:0<(aN S n).e.t.length
   ·obtain⟨_,h1⟩:=hH.pos (el:=9) (sz:=1) (q:=none) (n:=(aN S n).e.t.length) (hn:=h0);cases h1
   ·omega
 refine gh ?_;refine GX.next rfl (GO.jz (hv:=hd) (h:=gh ?_));refine GX.dX (hc:=fun _ hs=>yG (vs:=Lib.byteCells (aN S n).e.v) (ts:=aM (aN S n).e.t) ah ah n1 (GV _) ah ah n2 (yW _) hs) (h:=?_);rintro⟨y1,y2⟩ w _ hE hH;replace hH:=SH.ap hH;refine gh ?_;refine GX.bc (h:=fun w hH=>gh ?_);have aO:=hH.iu (m:=cY S) (fx (aN S n)) (cY (S.eraseIdx n)) (by repeat(first|exact Pk.nil|(apply Pk.cons;repeat(first|exact aB.here|apply aB.there)))) (yF hg);replace aO:=Aa aO (QX (CJ hn));have hU:=IW n hn;have hp:=(hX.CI hn).trans (sx (l₁:=[_]));have e1:dL s.E=dL (s.use (aN S n).e).E:=Ga hp;have e2:s.E.length=(s.use (aN S n).e).E.length:=hp.length_eq;rw[e1,e2] at aO;exact⟨(⟨(aN S n).e,y1,y2⟩,0,s.use (aN S n).e),rfl, .inr ⟨hk, .inr ⟨nR,rfl,rfl⟩⟩,(mA hU aO).to⟩
theorem aiW {E:List cC}{k:Bs}{t:Nat}(e:cC)(he:e.k=k):(dv E k++[e]).map (lT k t)=dv E k++[{ e with d:=t}]:=by
 rw[eD];congr 1
 ·refine(ri (g:=id) fun x hx=>?_).trans (List.map_id _);have:=eN (ib.1 hx).2;unfold lT;rw[if_neg this];rfl
 ·simp[lT,he]
def Kt (s:bw)(k:Bs)(t:Nat)(y:Int×bw):Prop:=(bI k=false∧y=(2,s))∨(bI k=true∧((kT s.E k=none∧y=(9,s))∨∃e,kT s.E k=some e∧y=(0,{ s with E:=dv s.E k++[{ e with d:=t}]})))
theorem alf {b:Nat}{s:bw}(k:Bs)(dl:Nat)(ml:dl≤never)(hs:Start o w [jD b s]) :
  aj prog 153 [ak b,str k,uV dl].toArray w (aU o (fun y:Int×bw=>iV y.1) (Kt s k dl) (fun y=>[jD b y.2])):=by
 have hH:=hs.sh;obtain⟨⟨X,hX⟩,hH⟩:=SH.un hH;replace hH:=SH.ap hH;dsimp only at hH;have qE:=fun hm=>hX.lost (k:=k) hm
 have qB:=fun n hm=>hX.found (k:=k) (n:=n) hm
 have IW:=fun n hn=>hX.used (n:=n) hn
 have Si:∀n,n∈X.L→aN (X.used n).S n=aN X.S n:=fun _ _=>rfl
 have Ty:=fun n hn=>(hX.used (n:=n) hn).wR (n:=n) (t:=dl) ((N0 hn hX.nd).2 hn) ml
 obtain⟨a,t,r,h,u,A,T,L,S,G,⟨q1,c1⟩,⟨q2,c2⟩⟩:=X;dsimp only[dB.used,dB.wR] at hH qE qB IW Ty;have aP:∀n∈L,n<S.length:=hX.lt;have dY:S.length≤1048576:=hX.sl;have bX:L.Nodup:=hX.nd;have kZ:L.length=s.E.length:=hX.ll;have rI:=hX.many;have gX:=hX.len;refine aj.enter func153 rfl ntmps153 rfl (gh ?_);refine GX.aL (hc:=fun _ hs=>FW hX.eC k hs) (h:=fun w hE hH=>gh ?_);unfold yU q7;cases hk:bI k with
 |false=>
  refine gh ?_;exact⟨(2,s),rfl, .inl ⟨hk,rfl⟩,(mA hX hH).to⟩
 |true=>
 rw[if_pos rfl];cases hm:az (fO S L) k with
 |none=>
  refine gh ?_;exact⟨(9,s),rfl, .inr ⟨hk, .inl ⟨qE hm,rfl⟩⟩,(mA hX hH).to⟩
 |some n=>
 obtain⟨hn,kD,nR⟩:=qB n hm;have hnl:=aP n hn;have hg:=yO hnl;dsimp only;refine gh ?_;refine GX.bz (hc:=fun _ hs=>WQ bX n ah hn hs) (h:=fun w hH=>gh ?_);replace hH:=Aa hH (QX (CJ hn));refine GX.bz (hc:=fun _ hs=>XV (L:=L.erase n++[n]) (D:=dD S (L.erase n++[n])) ((N0 hn bX).2 hn) ((CJ hn).nodup_iff.1 bX) hnl dY (by rw[←(CJ hn).length_eq];omega) ml (.inl (mC _)) hs) (h:=fun w hH=>gh ?_);have hR:=Ty n hn;have e3:(s.use (aN S n).e).wR (aN S n).e.k dl={ s with E:=dv s.E k++[{ (aN S n).e with d:=dl}]}:=by
  unfold bw.wR bw.use;simp only;rw[aiW _ rfl,kD]
 rw[e3] at hR;have hp:=(hX.CI hn).trans (sx (l₁:=[_]));have e1:dL s.E=dL (dv s.E k++[{ (aN S n).e with d:=dl}]):=by
  rw[Ga hp,J9,J9];show dL (dv s.E (aN S n).e.k)+_=_;rw[kD];rfl
 have e2:s.E.length=(dv s.E k++[{ (aN S n).e with d:=dl}]).length:=by
  rw[hp.length_eq,bJ,bJ];show(dv s.E (aN S n).e.k).length+_=_;rw[kD];rfl
 rw[e1,e2,show S.length=(S.set n (qX (aN S n) dl)).length by simp] at hH;have aO:SH _ _ _:=hH.KH (m':=cY (S.set n (qX (aN S n) dl))) ((yF hg).trans (OA (qX (aN S n) dl) hnl).symm);exact⟨(0,_),rfl, .inr ⟨hk, .inr ⟨_,nR,rfl⟩⟩,(mA hR aO).to⟩
def iv (bytes many c:Nat):List cC→List cC×List cC
 | []=>([],[])
 |x::r=>if bytes<dL (x::r)+c∨many<(x::r).length+1 then(x::(iv bytes many c r).1,(iv bytes many c r).2) else([],x::r)
theorem abw {bytes many c:Nat}{x:cC}{r:List cC}(h:bytes<dL (x::r)+c∨many<(x::r).length+1):iv bytes many c (x::r)=(x::(iv bytes many c r).1,(iv bytes many c r).2):=by rw[iv,if_pos h]
theorem abu {bytes many c:Nat}{l:List cC}(h:¬(bytes<dL l+c∨many<l.length+1)):iv bytes many c l=([],l):=by
 cases l with
 |nil=>rfl
 |cons x r=>rw[iv,if_neg h]
theorem aiV {E:List cC}{k:Bs}(h:kT E k=none):dv E k=E:=by
 unfold dv;refine p8.2 fun e he=>?_
 have:=List.find?_eq_none.1 h e he;simpa using this
theorem nE.p5 {K:Nat}{A:Ar}(h:nE K A){n:Nat}{F:List Nat}(hF:A.free=F++[n]):n<A.aW.length∧A.aW.getD n 0<0∧oE A=({ A with aW:=A.aW.set n (-(A.aW.getD n 0)),free:=F},(n:Int),-(A.aW.getD n 0),0)∧nE K { A with aW:=A.aW.set n (-(A.aW.getD n 0)),free:=F}:=by
 have hn:n∈A.free:=by rw[hF];simp
 obtain⟨h1,h2⟩:=(h.free n).1 hn;refine⟨h1,h2,by rw[oE,hF];simp,h.aI,by simpa using h.len,fun g hg=>?_,fun m=>?_,?_,?_⟩
 ·rcases l4 hg with hm|rfl
  ·exact h.gen g hm
  ·have:=h.gen _ (Hv 0 h1);exact⟨by omega,by omega,by omega⟩
 ·have bX:=h.nodup;rw[hF,gu] at bX;have hm:=h.free m;rw[hF,cJ,lC] at hm;show m∈F↔m<(A.aW.set n _).length∧(A.aW.set n _).getD m 0<0;rw[fS,rv]
  by_cases e:m=n
  ·subst e;rw[if_pos ⟨rfl,h1⟩];constructor
   ·intro hf;exact absurd rfl (bX.2.2 m hf m (by simp))
   ·intro hf;omega
  ·rw[if_neg (fun h'=>e h'.1),←hm];simp[e]
 ·have:=h.nodup;rw[hF] at this;exact(gu.1 this).1
 ·have:=h.Br;rw[hF] at this;simp at this ⊢;omega
theorem nE.ab6 {K:Nat}{A:Ar}(h:nE K A)(hF:A.free=[])(hl:A.aW.length<A.aI):oE A=({ A with aW:=A.aW++[1]},(A.aW.length:Int),1,0)∧nE K { A with aW:=A.aW++[1]}:=by
 refine⟨by rw[oE,hF];simp;omega,h.aI,by show(A.aW++[1]).length≤A.aI;simp;omega,fun g hg=>?_,fun m=>?_,h.nodup,?_⟩
 ·rcases cJ.1 hg with hg|hg
  ·exact h.gen g hg
  ·simp at hg;subst hg;exact⟨by decide,by omega,by omega⟩
 ·have bG:∀m,¬(m<A.aW.length∧A.aW.getD m 0<0):=fun m hm=>by have:=(h.free m).2 hm;rw[hF] at this;cases this
  show m∈A.free↔m<(A.aW++[1]).length∧(A.aW++[1]).getD m 0<0;rw[hF];constructor
  ·intro h';cases h'
  ·rintro⟨a,b⟩;rw[fT,List.getElem?_append] at b;split at b
   ·rename_i c
    exact absurd ⟨c,by rw[fT];exact b⟩ (bG m)
   ·rw[List.getElem?_singleton] at b;split at b
    ·simp at b
    ·simp at b
 ·show A.free.length≤(A.aW++[1]).length;rw[hF];simp
theorem de.put {X:dB}{s:bw}(h:de X s){n:Nat}{A:Ar}{T:Tb}{S:List cH}{G:List (Int×Int)}{y:cH}{q1 q2:Option Nat×Nat}(hy:l7 y.e)(hA:nE s.K A)(rJ:A.aI=X.A.aI)(mY:n∉X.L)(x5:n<S.length)
  (hS:S=X.S∨S=X.S++[s0]) (hG:G.length=S.length) (hGg:∀m∈X.L,G[m]?=X.G[m]?) (lK:A.aW.length=S.length) (Ib:0≤A.aW.getD n 0) (SK:∀m,m≠n→m<X.S.length→A.aW.getD m 0=X.A.aW.getD m 0) (nT:X.S.length<S.length→n=X.S.length)
  (hT:iS T (fO X.S X.L++[(y.e.k,n)])) (hk:y.e.k∉s.E.map (·.k)) (hc:dL s.E+fb y.e≤s.bytes) (hm:s.E.length+1≤s.many) :
  de { X with A:=A,T:=T,L:=X.L++[n],S:=S.set n y,G:=G.set n ((n:Int),A.aW.getD n 0),q1:=q1,q2:=q2} { s with E:=s.E++[y.e]}:=by
 have hSL:∀m,m<X.S.length→aN S m=aN X.S m:=fun m hm=>by
  rcases hS with rfl|rfl
  ·rfl
  ·unfold aN;rw[fT,fT,gr hm]
 have HJ:∀m∈X.L,aN (S.set n y) m=aN X.S m:=fun m hm=>by
  rw[yP _ (fun e=>mY (by rw[←e];exact hm)),hSL m (h.lt m hm)]
 have hlS:X.S.length≤S.length:=by rcases hS with rfl|rfl<;>simp
 have amG:S.length≤X.S.length+1:=by rcases hS with rfl|rfl<;>simp
 refine⟨?_,?_,fun m hm=>?_,?_,hA,rJ.trans h.aI,?_,fun m hm=>?_,?_,fun m hm=>?_,fun x hx=>?_,fun e he=>?_,?_,?_,?_,h.bytes,h.many⟩
 ·show s.E++[y.e]=jK (S.set n y) (X.L++[n]);unfold jK;rw[eD,h.pC];congr 1
  ·exact(Q9 HJ).symm
  ·simp[CS y x5]
 ·exact gu.2 ⟨h.nd,by simp,fun a ha b hb e=>by simp at hb;subst hb e;exact mY ha⟩
 ·show m<(S.set n y).length;rw[fS]
  rcases cJ.1 hm with hm|hm
  ·exact j4 (h.lt m hm) hlS
  ·simp at hm;subst hm;exact x5
 ·show iS T (fO (S.set n y) (X.L++[n]));have:fO (S.set n y) (X.L++[n])=fO X.S X.L++[(y.e.k,n)]:=by
   unfold fO;rw[eD];congr 1
   ·exact Uo HJ
   ·simp[CS y x5]
  rw[this];exact hT
 ·show A.aW.length=(S.set n y).length;rw[fS];exact lK
 ·have i':m<S.length:=by simpa using hm
  show m∈X.L++[n]↔0≤A.aW.getD m 0;rw[cJ,lC]
  by_cases e:m=n
  ·subst e;exact⟨fun _=>Ib,fun _ => .inr rfl⟩
  ·have gX:m<X.S.length:=by
    by_cases hl:X.S.length<S.length
    ·have:=nT hl;omega
    ·omega
   rw[SK m e gX];simp only[e,or_false];exact h.live m gX
 ·show(G.set n _).length=(S.set n y).length;rw[fS,fS];exact hG
 ·show(G.set n _)[m]?=some ((m:Int),A.aW.getD m 0)
  by_cases e:m=n
  ·subst e;rw[dJ (by rw[hG];exact x5)]
  ·rcases cJ.1 hm with hm|hm
   ·rw[dH (Ne.symm e),hGg m hm,h.ref m hm,SK m e (h.lt m hm)]
   ·simp at hm;exact absurd hm e
 ·rcases l4 hx with hx|rfl
  ·rcases hS with rfl|rfl
   ·exact h.sb x hx
   ·rcases cJ.1 hx with hx|hx
    ·exact h.sb x hx
    ·simp at hx;subst hx;exact Xp
  ·exact l7.b hy
 ·rcases cJ.1 he with he|he
  ·exact h.xI e he
  ·simp at he;subst he;exact hy
 ·show((s.E++[y.e]).map (·.k)).Nodup;rw[eD];exact gu.2 ⟨h.kn,by simp,fun a ha b hb e=>by simp at hb;subst hb e;exact hk ha⟩
 ·show dL (s.E++[y.e])≤s.bytes;rw[J9,J'];simpa[dL] using hc
 ·show(s.E++[y.e]).length≤s.many;simpa using hm
theorem de.alK {X:dB}{s:bw}(h:de X s)(hm:s.E.length+1≤s.many):∃(n:Nat) (A:Ar),oE X.A=(A,(n:Int),A.aW.getD n 0,0)∧nE s.K A∧A.aI=X.A.aI∧0≤A.aW.getD n 0∧(∀m,m≠n→m<X.S.length→A.aW.getD m 0=X.A.aW.getD m 0)∧n∉X.L∧((n<X.S.length∧A.aW.length=X.S.length)∨(n=X.S.length∧A.aW.length=X.S.length+1)):=by
 rcases List.eq_nil_or_concat X.A.free with hF|⟨F,n,hF⟩
 ·have hlen:X.A.aW.length<X.A.aI:=by
   have h1:X.S.length≤X.L.length:=by
    have fY:∀m∈List.range X.S.length,m∈X.L:=fun m i'=>by
     have gX:=tE.1 i';refine(h.live m gX).2 ?_
     by_cases MN:X.A.aW.getD m 0<0
     ·have:=(h.ar.free m).2 ⟨by rw[h.gl];exact gX,MN⟩;rw[hF] at this;cases this
     ·omega
    have:=xo (List.nodup_range) fY;simpa using this
   have h2:=h.ll;have h3:=h.aI;rw[h.gl];omega
  obtain⟨h1,h2⟩:=h.ar.ab6 hF hlen;have hg:(X.A.aW++[1]).getD X.A.aW.length 0=1:=by simp
  refine⟨X.A.aW.length,_,by rw[h1,hg],h2,rfl,by show 0≤(X.A.aW++[1]).getD X.A.aW.length 0;rw[hg];decide,fun m h3 h4=>?_,fun hn=>?_, .inr ⟨h.gl,by show(X.A.aW++[1]).length=_;simp[h.gl]⟩⟩
  ·show(X.A.aW++[1]).getD m 0=_;rw[fT,fT,gr (by rw[h.gl];exact h4)]
  ·have:=h.lt _ hn;rw[h.gl] at this;omega
 ·have hF:X.A.free=F++[n]:=by simpa using hF
  obtain⟨h1,h2,h3,h4⟩:=h.ar.p5 hF;have hg:(X.A.aW.set n (-(X.A.aW.getD n 0))).getD n 0 = -(X.A.aW.getD n 0):=by rw[rv,if_pos ⟨rfl,h1⟩]
  refine⟨n,_,by rw[h3,hg],h4,rfl,by show 0≤(X.A.aW.set n _).getD n 0;rw[hg];omega,fun m h5 h6=>?_,fun hn=>?_, .inl ⟨by rw[←h.gl];exact h1,by show(X.A.aW.set n _).length=_;rw[fS,h.gl]⟩⟩
  ·show(X.A.aW.set n _).getD m 0=_;rw[rv,if_neg (fun h'=>h5 h'.1)]
  ·have:=(h.live n (h.lt n hn)).1 hn;omega
theorem aiU {x:cC}{r:List cC}(h:((x::r).map (·.k)).Nodup):dv (x::r) x.k=r:=by
 unfold dv;rw[oo,if_neg (by simp)];refine p8.2 fun e he=>bQ fun hk=>?_
 rw[cK,eI] at h;exact h.1 (bK.2 ⟨e,he,hk⟩)
end Go.Proofs.YtmlpbmgfmnmmmaaGreat.V.M
