/-
  Parts of the proof. No condition.
-/
import Derived.Test.YtmlpbmgfmnmmmaaGreatW2br
import Derived.Test.YtmlpbmgfmnmmmaaGreatW2bg
import Derived.Test.YtmlpbmgfmnmmmaaGreatW2bs
import Derived.Test.YtmlpbmgfmnmmmaaGreatW2bh
set_option linter.unusedVariables false
set_option linter.unusedSimpArgs false
set_option maxRecDepth 8000
set_option maxHeartbeats 8000000
open Go.Proofs.Tryz
namespace Go.Proofs.YtmlpbmgfmnmmmaaGreat.V.M
section
theorem Y7 (N:fU)(x:Bs):∃r,(e7 N x).1[(e7 N x).2]?=some (x,r)∧0<r:=by
 unfold e7;split
 ·rename_i n hn
  have hl:=(C9.1 hn).1;exact⟨_,dJ hl,Nat.succ_pos _⟩
 ·split
  ·rename_i n F hF
   obtain⟨y,hy,_⟩:=oV.1 (show n∈cx N by rw[hF];simp);exact⟨1,dJ (aV.1 hy).1,Nat.one_pos⟩
  ·exact⟨1,by simp,Nat.one_pos⟩
theorem Y8 {N:fU}{m:Nat}{y:Bs}{r:Nat}(h:N[m]?=some (y,r))(hr:0<r)(x:Bs):∃r',(e7 N x).1[m]?=some (y,r')∧0<r':=by
 have hl:=(aV.1 h).1;unfold e7;split
 ·rename_i n hn
  by_cases e:n=m
  ·subst e;obtain⟨h1,h2,_⟩:=C9.1 hn;have h3:N[n]=(y,r):=(aV.1 h).2;rw[h3] at h2;have h4:=(eN h2).2;dsimp only at h4;subst h4;exact⟨_,dJ hl,Nat.succ_pos _⟩
  ·exact⟨r,by rw[dH e];exact h,hr⟩
 ·split
  ·rename_i n F hF
   obtain⟨z,hz,oR⟩:=oV.1 (show n∈cx N by rw[hF];simp);have e:n≠m:=by
    rintro rfl;rw[h] at hz;cases hz;simp at oR;omega
   exact⟨r,by rw[dH e];exact h,hr⟩
  ·exact⟨r,by rw[gr hl];exact h,hr⟩
def zf (N:fU)(t:List Bs)(ns:List Nat):Prop:=ns.length=t.length∧∀(i m:Nat) (x:Bs),ns[i]?=some m→t[i]?=some x→∃r,N[m]?=some (x,r)∧0<r
theorem Xj:∀(l:List Bs) (s:dM) (pre:List Bs) (acc:List Nat),zf s.N pre acc→(jB l s acc).2.1=0→zf (jB l s acc).2.2.N (pre++l) (jB l s acc).1
 | [],s,pre,acc,h,_=>by simpa[jB] using h
 |x::l,s,pre,acc,h,he=>by
  unfold jB at he ⊢;split at he
  ·rename_i h0
   rw[if_pos h0];have Na:zf (fw s x).2.2.N (pre++[x]) (acc++[(fw s x).1.toNat]):=by
    have hF:fw s x=((((e7 s.N x).2:Nat):Int),0,{ s with N:=(e7 s.N x).1}):=by
     unfold fw at h0 ⊢;split at h0
     ·cases h0
     ·rename_i h1;rw[if_neg h1]
    rw[hF];refine⟨by simp[h.1],fun i m y hm hy=>?_⟩;dsimp only
    rcases tB i acc.length with hi|hi
    ·rw[gr hi] at hm;rw[gr (by rw[←h.1];exact hi)] at hy;obtain⟨r,h1,h2⟩:=h.2 i m y hm hy;exact Y8 h1 h2 x
    ·rw[ia hi] at hm;rw[ia (by rw[←h.1];exact hi)] at hy;rw[←h.1] at hy;have Ie:i - acc.length=0:=by
      have:=(aV.1 hm).1;simp at this;omega
     rw[Ie] at hm hy;simp at hm hy;subst hm hy;exact Y7 s.N x
   have:=Xj l _ (pre++[x]) _ Na he;simpa using this
  ·rename_i h0
   exact absurd he h0
theorem zf.nodup {N:fU}{t:List Bs}{ns:List Nat}(h:zf N t ns)(ht:t.Nodup):ns.Nodup:=by
 rw[pj,sv];intro i j hi hj mm e;have h1:ns[i]?=some ns[i]:=bO hi;have h2:ns[j]?=some ns[i]:=by rw[e];exact bO hj
 have h3:t[i]?=some (t[i]'(by rw[←h.1];exact hi)):=bO _;have h4:t[j]?=some (t[j]'(by rw[←h.1];exact hj)):=bO _;obtain⟨_,k1,_⟩:=h.2 i _ _ h1 h3;obtain⟨_,k2,_⟩:=h.2 j _ _ h2 h4;rw[k1] at k2;have e2:=(Prod.mk.inj (Option.some.inj k2)).1;rw[←e2] at h4;have:=On ht h3 h4;omega
theorem zf.lt {N:fU}{t:List Bs}{ns:List Nat}(h:zf N t ns):∀m∈ns,m<N.length:=fun m hm=>by
 obtain⟨i,hi⟩:=ej hm;have eL:=(aV.1 hi).1;have h3:t[i]?=some (t[i]'(by rw[←h.1];exact eL)):=bO _;obtain⟨_,k1,_⟩:=h.2 i _ _ hi h3;exact(aV.1 k1).1
def sC (R:gL):Prop:=∀id t n,R.live id=some (t,n)→n.Nodup∧(∀x∈n,x<65536)∧n.length≤16
theorem sC.drop {R:gL}(h:sC R)(id:Nat):sC (jm R id).2.2:=by
 unfold jm;split
 ·exact h
 ·intro j t n hj;dsimp only at hj;split at hj
  ·cases hj
  ·exact h j t n hj
theorem sC.add {R:gL}(h:sC R)(id:Nat){t:List Bs}(ht:t.Nodup)(pF:t.length≤16)(hN:(jX R id t).2.2.N.length≤65536):sC (jX R id t).2.2:=by
 unfold jX at hN ⊢;split
 ·rename_i h0
  rw[if_pos h0] at hN;have hn:=Xj t ⟨R.aI,R.N⟩ [] [] ⟨rfl,fun i m x hm _=>by simp at hm⟩ h0;rw[jF] at hn;intro j u n hj;dsimp only at hj;split at hj
  ·cases hj;exact⟨hn.nodup ht,fun x hx=>j4 (hn.lt x hx) hN,by rw[hn.1];exact pF⟩
  ·exact h j u n hj
 ·exact fun j u n hj=>h j u n hj
end
section
attribute [local irreducible] GO GX
structure aq where
 cb:Nat
 ce:Nat
 ct:Nat
 cn:Nat
 cd:Nat
 cg:Nat
 cs:Nat
 now:Nat
 bf:Nat
 s:bw
 r:gL
 sw:Nat×Nat×Nat
 a:b5
 p:jG
 g:dS
 dC:List Nat
structure tM where
 s:Nat
 r:Nat
 w:Nat
 a:Nat
 p:Nat
 g:Nat
def eK (X:tM)(E:aq):List Value:=iV E.cb::iV E.ce::iV E.ct::iV E.cn::iV E.cd::uV E.cg::uV E.cs::uV E.now::uV E.bf::ak X.s::ak X.r::ak X.w::ak X.a::ak X.p::ak X.g::E.dC.map fun n:Nat=>uV n
abbrev tM.dm (X:tM)(b:Nat)(E:aq):List It:=[aA b (eK X E),jD X.s E.s,nX X.r E.r,wY X.w E.sw.1 E.sw.2.1 E.sw.2.2,dy X.a E.a,mQ X.p E.p,gA X.g E.g]
def bU (b:Nat)(E:aq):It:=star fun X:tM=>X.dm b E
theorem cV {o:Og}{w:World}{l t:List It}{b:Nat}{X:tM}{E:aq}(hH:SH o w l)(hp:Pk l (X.dm b E) t:=by repeat(first|exact Pk.nil|(apply Pk.cons;repeat(first|exact aB.here|apply aB.there)))):SH o w (bU b E::t):=
 SH.fold (f:=fun X:tM=>X.dm b E) X hH hp
attribute [local irreducible] aA ao aQ aF fz star eo
theorem SH.We {o:Og}{w:World}{l r:List It}{el:TypeId}{sz n c:Nat}{q:Option Nat}{cs:List Value}(h:SH o w l)(hs:aB (ao el sz q n c cs) l r:=by repeat(first|exact aB.here|apply aB.there)):ay q=none→n=0:=by
 intro hq;obtain⟨_,⟨_,_,_,h0⟩|⟨_,h1,_,_,h2⟩⟩:=h.own hs
 ·exact h0 hq
 ·rw[h1] at hq;cases hq
instance {x:cH}:fV (fx x):=by unfold fx;infer_instance
structure b8 (E:aq):Prop where
 o7:sC E.r
 qY:E.r.last≤E.bf
 se:E.p.last≤E.a.last
 nH:E.a.last<2^30
 dC:E.dC.length=16∧∀x∈E.dC,x<ed
 now:E.now≤never
 bf:E.bf<2^30
theorem Bp {o:Og}{w:World}{b s:Nat}{v0 v1 v2 v3 v4 v5 v6 v7 v8:Value}{r:List Value}(hs:Start o w [fz (aA b (v0::v1::v2::v3::v4::v5::v6::v7::v8::ak s::r))]):aj prog 33 [ak b].toArray w (Po o (.bool false) []):=by
 have hH:=hs.sh;refine aj.enter func33 rfl ntmps33 rfl (gh ?_);exact⟨rfl,hH.to⟩
def aq.mP (E:aq)(k:Bs):Option cC:=if bI k=true then kT E.s.E k else none
structure l8 where
 m:Int
 v:Bs
 n:Nat
 d:Nat
def yu:l8:=⟨0,[],0,0⟩
def aq.item (E:aq)(k:Bs)(now:Nat):l8:=match E.mP k with
 |none=>yu
 |some x=>if E.p.of k≤x.st then(if As E.a x.st (iH (tx E.r x.n)) now x.d=0 then yu else⟨As E.a x.st (iH (tx E.r x.n)) now x.d,x.v,x.n,x.d⟩) else yu
def yv (i:l8)(q:Option Nat×Nat):List Value:=[iV i.m, .slice (ay q.1) i.v.length q.2,uV i.n,uV i.d]
def Fc (i:l8)(q:Option Nat×Nat):List It:=[ao 5 1 q.1 i.v.length q.2 (Lib.byteCells i.v)]
theorem Ci {o:Og}{w:World}{b:Nat}{E:aq}(hG:b8 E)(k:Bs)(now:Nat)(hs:Start o w [bU b E]) :
  aj prog 35 [ak b,str k,uV now].toArray w (aU o (fun q:Option Nat×Nat => .agg (yv (E.item k now) q).toArray) (fun _=>True) (fun q=>bU b E::Fc (E.item k now) q)):=by
 have hH:=hs.sh;obtain⟨X,hH⟩:=SH.un hH;replace hH:=SH.ap hH;dsimp only[eK] at hH;refine aj.enter func35 rfl ntmps35 rfl (gh ?_);refine GX.cm (h:=fun z w hH=>gh ?_);refine GX.dX (hc:=fun _ hs=>alc k hs) (h:=?_);rintro⟨x,e⟩ w hF cW hH;replace hH:=SH.ap hH;refine gh ?_;refine GX.cm (h:=fun y w hH=>gh ?_);refine GX.bc (h:=fun w hH=>gh ?_);dsimp only at hF hH ⊢;have hzero:E.mP k=none→E.item k now=yu:=fun h=>by unfold aq.item;rw[h]
 rcases hF with⟨hk,he⟩|⟨hk,⟨bG,he⟩|⟨nR,he⟩⟩
 ·obtain⟨rfl,rfl⟩:=Prod.mk.inj he;refine GC.bq (pl:=(aZ [0,3,6,9,12,15,21,24,19,28,32,33,36])) (T:=fun _=>False) (hm:=mixed) (h:=fun w hE hH=>gh ?_);refine GX.bc (h:=fun w hH=>gh ?_);rw[hzero (by unfold aq.mP;rw[hk];rfl)];exact⟨(none,0),rfl,trivial,(cV (X:=X) (E:=E) hH).to⟩
 ·obtain⟨rfl,rfl⟩:=Prod.mk.inj he;refine GC.bq (pl:=(aZ [0,3,6,9,12,15,21,24,19,28,32,33,36])) (T:=fun _=>False) (hm:=mixed) (h:=fun w hE hH=>gh ?_);refine GX.bc (h:=fun w hH=>gh ?_);rw[hzero (by unfold aq.mP;rw[hk,bG];rfl)];exact⟨(none,0),rfl,trivial,(cV (X:=X) (E:=E) hH).to⟩
 ·dsimp only at nR he;subst he;have cQ:=(eN hk).2;refine GC.bq (pl:=(aZ [0,3,6,9,12,15,21,24,19,28,32,33,36])) (T:=fun _=>False) (hm:=mixed) (h:=fun w hE hH=>gh ?_);refine GX.xF (hc:=fun _ hs=>abl k x.e.st cQ hs) (h:=fun w hS hH=>gh ?_);have H7:E.mP k=some x.e:=by unfold aq.mP;rw[if_pos hk,nR]
  by_cases hh:E.p.of k≤x.e.st
  ·rw[bQ hh];refine gh ?_;have qI:(tx E.r x.e.n).Nodup∧(∀y∈tx E.r x.e.n,y<65536)∧(tx E.r x.e.n).length≤16:=by
    unfold tx;cases hl:E.r.live x.e.n with
    |none=>simp
    |some tn=>exact hG.o7 _ tn.1 tn.2 hl
   generalize ur:tx E.r x.e.n=ln at qI;obtain⟨lf,jS,Th⟩:=qI;refine GC.bq (pl:=(aZ [0,3,6,12,10,16,20,21,24,27,30,33])) (T:=fun _=>False) (hm:=mixed) (h:=fun w hE hH=>gh ?_);refine GX.ew (hc:=fun _ hs=>by have:=ajr (b:=X.r) (R:=E.r) x.e.n hs;rw[ur] at this;exact this) (h:=?_);rintro⟨q1,c1⟩ w _ hS hH;replace hH:=SH.ap hH;refine gh ?_;have h0:=hH.We (el:=3) (sz:=1) (q:=q1);refine GX.dX (hc:=fun _ hs=>agG (l:=ln) rfl lf jS Th h0 hs) (h:=?_);rintro⟨q2,c2⟩ w _ di hH;replace hH:=SH.ap hH;dsimp only at hH;have hL:=XQ lf jS Th;have dY:(iH ln).length=ln.length:=(FT ln).length_eq;rw[←dY] at hH ⊢;replace hH:=SH.freeze (el:=3) (sz:=1) (q:=q2) (n:=(iH ln).length) (c:=c2) (cs:=aD (iH ln)) hH bL;refine gh ?_;refine GX.cm (h:=fun f w hH=>gh ?_);refine GX.bc (h:=fun w hH=>gh ?_);have b6:=hG.nH;refine GC.bq (pl:=(aZ [3,6,9,15,18,1,13,22,26,27,30,33,36,39])) (T:=cS [f,b,y]) (hm:=mixed) (h:=fun w hE hH=>gh ?_);refine GX.gz (hc:=fun _ hs=>agF (S:=E.a) (now:=now) (d:=x.e.d) hL ah hs) (h:=fun w hS hH=>gh ?_);have e1:E.item k now=if As E.a x.e.st (iH ln) now x.e.d=0 then yu else⟨As E.a x.e.st (iH ln) now x.e.d,x.e.v,x.e.n,x.e.d⟩:=by
    unfold aq.item;rw[H7];dsimp only;rw[if_pos hh,ur]
   generalize As E.a x.e.st (iH ln) now x.e.d=mk at e1 hH ⊢
   by_cases h2:mk=0
   ·subst h2;refine gh ?_;refine GX.bc (h:=fun w hH=>gh ?_);have h1:=SH.cE (el:=5) (sz:=1) (q:=none) (n:=0) (c:=0) (cs:=[]) hH (Mod.refl w) (fun _ h=>by cases h) (aG.nil _ _ _);rw[if_pos rfl] at e1;rw[e1];exact⟨(none,0),rfl,trivial,(cV (X:=X) (E:=E) h1).to⟩
   ·rw[if_neg h2] at e1;rw[show decide ((mk:Int)=0)=false by simp[h2]];refine gh ?_;refine GX.bc (h:=fun w hH=>gh ?_);rw[e1];exact⟨x.qv,rfl,trivial,(cV (X:=X) (E:=E) hH).to⟩
  ·rw[bt hh];refine gh ?_;refine GX.bc (h:=fun w hH=>gh ?_);have h1:=SH.cE (el:=5) (sz:=1) (q:=none) (n:=0) (c:=0) (cs:=[]) hH (Mod.refl w) (fun _ h=>by cases h) (aG.nil _ _ _);have e1:E.item k now=yu:=by unfold aq.item;rw[H7];exact if_neg hh
   rw[e1];exact⟨(none,0),rfl,trivial,(cV (X:=X) (E:=E) h1).to⟩
end
section
attribute [local irreducible] GO GX aA eo fz aF aQ ao star
variable {o:Og}{w:World}
instance {i:l8}{q:Option Nat×Nat}:fV (Fc i q):=by unfold Fc;infer_instance
def aq.live (E:aq)(k:Bs):Bool:=decide ((E.item k E.now).m≠0)
theorem aa7 {b:Nat}{E:aq}(hG:b8 E)(k:Bs)(hs:Start o w [bU b E]) :
  aj prog 231 [ak b,str k].toArray w (Po o (.bool (E.live k)) [bU b E]):=by
 have hH:=hs.sh;obtain⟨X,hH⟩:=SH.un hH;replace hH:=SH.ap hH;dsimp only[eK] at hH;refine aj.enter func231 rfl ntmps231 rfl (gh ?_);replace hH:=cV (X:=X) (E:=E) hH;refine GX.bS (hc:=fun _ hs=>Ci hG k E.now hs) (h:=?_);rintro q w _ hH;replace hH:=SH.ap hH;refine gh ?_;refine⟨?_,hH.to⟩;rfl
def aq.tick (E:aq):aq:={ E with g:=E.g.tick}
theorem K1 {b:Nat}{E:aq}(k:Bs)(hK:E.g.K<2^40)(hs:Start o w [bU b E]) :
  aj prog 145 [ak b,str k].toArray w (aU o (fun y:Option Nat×Nat => .slice (ay y.1) (cR E.g.E k).length y.2) (fun _=>(cR E.g.E k).length≤65537) (fun y=>[bU b E.tick,ao 9 1 y.1 (cR E.g.E k).length y.2 (aM (cR E.g.E k))])):=by
 have hH:=hs.sh;obtain⟨X,hH⟩:=SH.un hH;replace hH:=SH.ap hH;dsimp only[eK] at hH;refine aj.enter func145 rfl ntmps145 rfl (gh ?_);refine GX.bS (hc:=fun _ hs=>Zo k hK hs) (h:=?_);rintro⟨q,c⟩ w hl hH;replace hH:=SH.ap hH;refine gh ?_;exact⟨(q,c),rfl,hl,(cV (X:=X) (E:=E.tick) hH).to⟩
def b5.forget (S:b5)(l:List Nat):b5:=l.foldl (fun S n=>S.set n ⟨0,[]⟩) S
def aq.qP (E:aq)(n:Nat):aq:={ E with r:=(jm E.r n).2.2,a:=E.a.forget (jm E.r n).1}
theorem ajt (s:dM)(l:List Nat):∀x∈(jn s l).1,x∈l:=by
 suffices h:∀(l:List Nat) (y:List Nat×dM),∀x∈(l.foldl o6 y).1,x∈y.1∨x∈l by
  intro x hx
  rcases h l ([],s) x hx with h|h
  ·cases h
  ·exact h
 intro l
 induction l with
 |nil=>intro y x hx;exact .inl hx
 |cons n l ih=>
  intro y x hx
  rcases ih _ x hx with h|h
  ·unfold o6 at h;dsimp only at h;split at h
   ·rcases cJ.1 h with h|h
    ·exact .inl h
    ·simp at h;subst h;exact .inr (by simp)
   ·exact .inl h
  ·exact .inr (by simp[h])
theorem ajs (s:dM)(l:List Nat):(jn s l).1.length≤l.length:=by
 suffices h:∀(l:List Nat) (y:List Nat×dM),(l.foldl o6 y).1.length≤y.1.length+l.length by
  have:=h l ([],s);simpa[jn] using this
 intro l
 induction l with
 |nil=>intro y;exact bj _
 |cons n l ih=>
  intro y;refine eh (ih _) ?_;unfold o6;dsimp only;split<;>simp<;>omega
theorem sC.abQ {R:gL}(h:sC R)(id:Nat):(jm R id).1.length≤16:=by
 unfold jm;split
 ·simp
 ·rename_i e he
  exact eh (ajs _ _) (h id e.1 e.2 he).2.2
theorem b5.abJ (S:b5){l:List Nat}{i n:Nat}(h:l[i]?=some n):S.forget (l.take (i+1))=(S.forget (l.take i)).set n ⟨0,[]⟩:=by
 unfold b5.forget;rw[ic,h,vt];rfl
theorem sC.La {R:gL}(h:sC R)(id:Nat):∀x∈(jm R id).1,x<65536:=by
 unfold jm;split
 ·intro x hx;cases hx
 ·rename_i e he
  intro x hx;exact(h id e.1 e.2 he).2.1 x (ajt _ _ x hx)
theorem b5.DE (S:b5)(l:List Nat):(S.forget l).last=S.last:=by
 unfold b5.forget
 induction l generalizing S with
 |nil=>rfl
 |cons n l ih=>rw[ph,ih];rfl
theorem FJ (R:gL)(id:Nat):(jm R id).2.2.last=R.last∧(jm R id).2.2.K≤R.K+1:=by
 unfold jm;split
 ·exact⟨rfl,rk _⟩
 ·exact⟨rfl,bj _⟩
theorem b8.qP {E:aq}(h:b8 E)(n:Nat):b8 (E.qP n):=
 ⟨h.o7.drop n,by show(jm E.r n).2.2.last≤_;rw[(FJ E.r n).1];exact h.qY,by show E.p.last≤(E.a.forget _).last;rw[b5.DE];exact h.se,by show(E.a.forget _).last<_;rw[b5.DE];exact h.nH,h.dC,h.now,h.bf⟩
theorem K3 {b:Nat}{E:aq}(hG:b8 E)(k:Bs)(v t:Value)(d n st:Nat)(hK:E.r.K<2^40)(hs:Start o w [bU b E]) :
  aj prog 59 [ak b, .agg #[str k,v,t,uV d,uV n,uV st]].toArray w (Po o (.tuple #[]) [bU b (E.qP n)]):=by
 have hH:=hs.sh;obtain⟨X,hH⟩:=SH.un hH;replace hH:=SH.ap hH;dsimp only[eK] at hH;refine aj.enter func59 rfl ntmps59 rfl (gh ?_);refine GX.cw (h:=fun z w hH=>gh ?_);refine GC.bq (pl:=(aZ [0,3,6,12,10,16,20,21,24,27,30,33])) (T:=cS [b,z]) (hm:=mixed) (h:=fun w hE hH=>gh ?_);refine GX.gT (hc:=fun _ hs=>ajq n hK hs) (h:=?_);rintro⟨q,c⟩ w _ hS hH;replace hH:=SH.ap hH;have oO:=hG.o7.La n;have kX:=hG.o7.abQ n;generalize hF:(jm E.r n).1=F at hH oO kX;refine gh ?_;refine GC.bP [0,18,19] (fun i:Nat=>[(20,iV i)]) (fun i w'=>i≤F.length∧SH o w' [dy X.a (E.a.forget (F.take i)),ao 3 1 q F.length c (aD F),aA b (eK X E),nX X.r (jm E.r n).2.2,jD X.s E.s,wY X.w E.sw.1 E.sw.2.1 E.sw.2.2,mQ X.p E.p,gA X.g E.g]) (fun i=>F.length - i) 0 rfl rfl ⟨bh _,hH.to⟩ ?_;rintro i w ⟨hi,hH⟩;dsimp only[eK] at hH;refine gh ?_;refine ifs (fun h1=>?_) (fun h1=>?_)<;>refine gh ?_
 ·obtain⟨m,hm⟩:∃m,F[i]?=some m:=⟨_,bO ah⟩
  have gX:=oO m (bF hm);obtain⟨qb,rfl⟩:=hH.pos (el:=3) (sz:=1) (q:=q) (n:=F.length);refine gh ?_;refine GX.next rfl (GO.cG (hv:=show(aD F)[i]?=some (iV m) by simp[aD,hm]) (h:=gh ?_));refine GX.bS (hc:=fun _ hs=>ajI m gX hs) (h:=?_);rintro _ w _ hH;replace hH:=SH.ap hH;rw[←b5.abJ _ hm] at hH;refine gh ?_;exact GQ.br (i+1) rfl ⟨by omega,hH.to⟩ ah
 ·obtain rfl:i=F.length:=by omega
  rw[eO (bj _)] at hH;refine gh ?_;rw[←hF] at hH;exact⟨rfl,(cV (X:=X) (E:=E.qP n) hH).to⟩
def aq.gj (E:aq)(k:Bs):aq:=match E.mP k with
 |some x=>aq.qP { E with s:=E.s.drop k} x.n
 |none=>E
def aq.out (E:aq)(l:List Bs):aq:=l.foldl aq.gj E
theorem aq.ahM (E:aq){l:List Bs}{i:Nat}{k:Bs}(h:l[i]?=some k):E.out (l.take (i+1))=(E.out (l.take i)).gj k:=by
 unfold aq.out;rw[ic,h,vt];rfl
theorem b8.drop {E:aq}(h:b8 E)(s:bw):b8 { E with s:=s}:=⟨h.o7,h.qY,h.se,h.nH,h.dC,h.now,h.bf⟩
theorem b8.gj {E:aq}(h:b8 E)(k:Bs):b8 (E.gj k)∧(E.gj k).s.K≤E.s.K+1∧(E.gj k).r.K≤E.r.K+1:=by
 unfold aq.gj;split
 ·exact⟨(h.drop _).qP _,bj _,(FJ E.r _).2⟩
 ·exact⟨h,rk _,rk _⟩
theorem b8.out {E:aq}(h:b8 E)(l:List Bs):b8 (E.out l)∧(E.out l).s.K≤E.s.K+l.length∧(E.out l).r.K≤E.r.K+l.length:=by
 unfold aq.out
 induction l generalizing E with
 |nil=>exact⟨h,bj _,bj _⟩
 |cons k l ih=>
  obtain⟨h1,h2,h3⟩:=h.gj k;obtain⟨k1,k2,k3⟩:=ih h1;rw[ph,dR];exact⟨k1,by omega,by omega⟩
theorem abT {w:World}{q:Option Nat}{cs:List Value}(h:bM w (ay q) cs)(hl:0<cs.length):∃b,q=some b:=by
 obtain⟨b,o,e,_⟩:=h.rV hl;cases q with
 |none=>cases e
 |some b=>exact⟨b,rfl⟩
theorem zw {b:Nat}{E:aq}(hG:b8 E){q:Option Nat}{n c:Nat}(l:List Bs)(hn:l.length=n)(hl:n<2^30)(uB:E.s.K<2^58)(hK:E.r.K<2^39)(hs:Start o w [bU b E,aF (ay q) (aM l)]) :
  aj prog 146 [ak b, .slice (ay q) n c].toArray w (Po o (.tuple #[]) [bU b (E.out l),aF (ay q) (aM l)]):=by
 have hH:=hs.sh;subst hn;refine aj.enter func146 rfl ntmps146 rfl (gh ?_);refine GC.bP [0,8,9] (fun i:Nat=>[(10,iV i)]) (fun i w'=>i≤l.length∧SH o w' [bU b (E.out (l.take i)),aF (ay q) (aM l)]) (fun i=>l.length - i) 0 rfl rfl ⟨bh _,hH.to⟩ ?_;rintro i w ⟨hi,hH⟩;have aX:=hG.out (l.take i);have aP:(l.take i).length≤l.length:=by rw[dE];omega
 generalize cW:E.out (l.take i)=E1 at hH aX;obtain⟨fC,pL,kC⟩:=aX;refine gh ?_;refine ifs (fun h1=>?_) (fun h1=>?_)<;>refine gh ?_
 ·obtain⟨k,hk⟩:∃k,l[i]?=some k:=⟨_,bO ah⟩
  have sY:=E.ahM hk;rw[cW] at sY;obtain⟨qb,rfl⟩:=abT (hH.bR (x:=aF (ay q) (aM l)) (a:=ay q) (cs:=aM l) bL) (by rw[aM,fk];omega);refine gh ?_;refine GX.next rfl (GO.cG (hv:=show(aM l)[i]?=some (str k) by simp[aM,hk]) (h:=gh ?_));obtain⟨X,hH⟩:=SH.un hH;replace hH:=SH.ap hH;dsimp only[eK] at hH;refine gh ?_;refine GX.bS (hc:=fun _ hs=>ale (s:=E1.s) k ah hs) (h:=?_);rintro⟨x,e,s'⟩ w hR hH;replace hH:=SH.ap hH;dsimp only at hR hH ⊢;refine gh ?_;refine GX.cm (h:=fun z w hH=>gh ?_);refine GX.bc (h:=fun w hH=>gh ?_);have bG:E1.mP k=none→E1.gj k=E1:=fun h=>by unfold aq.gj;rw[h]
  rcases hR with⟨sU,he⟩|⟨sU,⟨hf,he⟩|⟨hf,he,Eg⟩⟩
  ·obtain⟨rfl,h2⟩:=Prod.mk.inj he;obtain⟨rfl,rfl⟩:=Prod.mk.inj h2;rw[bG (by unfold aq.mP;rw[sU];rfl)] at sY;refine gh ?_;refine GQ.br (i+1) rfl ⟨by omega,?_⟩ ah;rw[sY];exact(cV (X:=X) (E:=E1) hH).to
  ·obtain⟨rfl,h2⟩:=Prod.mk.inj he;obtain⟨rfl,rfl⟩:=Prod.mk.inj h2;rw[bG (by unfold aq.mP;rw[sU,hf];rfl)] at sY;refine gh ?_;refine GQ.br (i+1) rfl ⟨by omega,?_⟩ ah;rw[sY];exact(cV (X:=X) (E:=E1) hH).to
  ·dsimp only at hf he Eg;subst he Eg;have h2:E1.gj k=aq.qP { E1 with s:=E1.s.drop k} x.e.n:=by
    unfold aq.gj aq.mP;rw[if_pos sU,hf]
   rw[h2] at sY;refine gh ?_;replace hH:=cV (X:=X) (E:={ E1 with s:=E1.s.drop k}) hH;refine GX.bz (hc:=fun _ hs=>K3 (fC.drop (E1.s.drop k)) x.e.k _ _ x.e.d x.e.n x.e.st (by show E1.r.K<_;omega) hs) (h:=fun w hH=>gh ?_);refine gh ?_;refine GQ.br (i+1) rfl ⟨by omega,?_⟩ ah;rw[sY];exact hH.to
 ·obtain rfl:i=l.length:=by omega
  rw[eO (bj _)] at cW;subst cW;refine gh ?_;exact⟨rfl,hH.to⟩
def aq.meet (E:aq)(k:Bs):aq:=if E.live k=true then E else E.out [k]
theorem b8.meet {E:aq}(h:b8 E)(k:Bs):b8 (E.meet k)∧(E.meet k).s.K≤E.s.K+1∧(E.meet k).r.K≤E.r.K+1:=by
 unfold aq.meet;split
 ·exact⟨h,rk _,rk _⟩
 ·exact h.out [k]
theorem K4 {b:Nat}{E:aq}(hG:b8 E)(k:Bs)(uB:E.s.K<2^58)(hK:E.r.K<2^39)(hs:Start o w [bU b E]) :
  aj prog 151 [ak b,str k].toArray w (Po o (.bool (E.live k)) [bU b (E.meet k)]):=by
 have hH:=hs.sh;refine aj.enter func151 rfl ntmps151 rfl (gh ?_);refine GX.bz (hc:=fun _ hs=>aa7 hG k hs) (h:=fun w hH=>gh ?_);unfold aq.meet;cases hl:E.live k with
 |true=>
  refine gh ?_;rw[if_pos rfl];exact⟨rfl,hH.to⟩
 |false=>
  refine gh ?_;refine GX.nk (h:=fun b1 w hH=>gh ?_);replace hH:=hH.freeze aB.here;refine GX.bz (hc:=fun _ hs=>zw (q:=some b1) hG [k] rfl (show 1<2^30 by decide) uB hK hs) (h:=fun w hH=>gh ?_);refine gh ?_;rw[if_neg (by simp)];exact⟨rfl,hH.to⟩
end
section
attribute [local irreducible] GX
section
variable {P:Program}{ops:Array Oper}{Q:Exit→Act→World→Prop}{S:World→Prop}{n:Nat}
variable {i:Nat}{p:bZ}{e:Env}{w:World}{dst:Option Tmp}{ty:TypeId}{pos:String}{an:Array Edge}{g:Option (Nat×Bool)}
theorem GO.Jd [Fr]{t:TypeId}{x:Operand}{b o q j:Nat}{v:Value}{cs:List Value}(hA:bM w (some ⟨b,q,none⟩) cs)(hw:aH ops e ⟨dst, .load t x,ty,pos,an,g⟩=some true:=by rfl)(hf:aC P t false 1:=by infer_instance)(hx:ev e x=some (.pointer (some ⟨b,o,none⟩)):=by rfl)(hd:fits n dst=true:=by rfl)
  (hv:cs[j]?=some v) (hj:o=q+j:=by first|rfl|omega) (h:GX P ops Q S n p (e.put dst v) w):GO P ops Q S n .ax i ⟨dst, .load t x,ty,pos,an,g⟩ p e w:=by
 subst hj;exact GO.rP hw hx hd (At.one hA hv) h
end
attribute [local irreducible] GO
attribute [local irreducible] aA ao aQ aF fz star eo
theorem DF {w:World}{a:Option Addr}{cs:List Value}(h:bM w a cs)(hl:0<cs.length):∃b o,a=some ⟨b,o,none⟩:=by
 obtain⟨b,o,e,_⟩:=h.rV hl;exact⟨b,o,e⟩
structure dh where
 op:Int
 k:Bs
 ks:List Bs
 v:Bs
 t:List Bs
 d:Nat
 n:Nat
 tag:Bs
 pre:Bs
 ch:Bs
structure iR where
 k:Option Addr×Nat
 v:Option Addr×Nat
 t:Option Addr×Nat
abbrev jH (c:dh)(y:iR):List Value:=[iV c.op,str c.k, .slice (y.k.1) c.ks.length y.k.2, .slice (y.v.1) c.v.length y.v.2, .slice (y.t.1) c.t.length y.t.2,uV c.d,uV c.n,str c.tag,str c.pre,str c.ch]
abbrev vE (c:dh)(y:iR):List It:=[aF (y.k.1) (aM c.ks),aF (y.v.1) (Lib.byteCells c.v),aF (y.t.1) (aM c.t)]
noncomputable def aq.del (E:aq)(k:Bs):aq:=if E.live k=true then(((E.meet k).out [k]).tick).out (cR E.g.E k) else E.meet k
theorem Ox (E:aq)(l:List Bs):(E.out l).g=E.g:=by
 unfold aq.out
 induction l generalizing E with
 |nil=>rfl
 |cons k l ih=>
  rw[ph,ih];unfold aq.gj;split<;>rfl
theorem agV (E:aq)(k:Bs):(E.meet k).g=E.g:=by
 unfold aq.meet;split
 ·rfl
 ·exact Ox _ _
theorem b8.tick {E:aq}(h:b8 E):b8 E.tick:=⟨h.o7,h.qY,h.se,h.nH,h.dC,h.now,h.bf⟩
theorem aa1 {o:Og}{w:World}{b rb:Nat}{E:aq}(hG:b8 E)(c:dh)(y:iR){r0 r1 r2 r3 r4 r5:Value}(uB:E.s.K<2^57)(hK:E.r.K<2^38)(BH:E.g.K<2^39)(hs:Start o w [bU b E,aA rb [r0,r1,r2,r3,r4,r5]]) :
  aj prog 92 [ak b, .agg (jH c y).toArray,ak rb].toArray w (aU o (fun _:Unit => .tuple #[]) (fun _=>E.live c.k=true→(cR E.g.E c.k).length≤65537) (fun _=>[bU b (E.del c.k),aA rb [r0,r1,r2,r3,if E.live c.k=true then iV 1 else r4,r5]])):=by
 have hH:=hs.sh;refine aj.enter func92 rfl ntmps92 rfl (gh ?_);refine GX.cw (h:=fun z w hH=>gh ?_);obtain⟨h1,h2,h3⟩:=hG.meet c.k;refine GX.bz (hc:=fun _ hs=>K4 hG c.k ah ah hs) (h:=fun w hH=>gh ?_);have H9:=agV E c.k;unfold aq.del;cases hl:E.live c.k with
 |false=>
  refine gh ?_;rw[if_neg (by simp),if_neg (by simp)];exact⟨(),rfl,fun h=>(by cases h),hH.to⟩
 |true=>
  rw[if_pos rfl,if_pos rfl];generalize cW:E.meet c.k=E1 at hH h1 h2 h3 H9 ⊢;refine gh ?_;refine GX.nk (h:=fun b1 w hH=>gh ?_);replace hH:=hH.freeze aB.here;obtain⟨k1,k2,k3⟩:=h1.out [c.k];refine GX.bz (hc:=fun _ hs=>zw (q:=some b1) h1 [c.k] rfl (show 1<2^30 by decide) ah ah hs) (h:=fun w hH=>gh ?_);have Mq:(E1.out [c.k]).g=E.g:=(Ox _ _).trans H9;generalize di:E1.out [c.k]=E2 at hH k1 k2 k3 Mq ⊢;refine gh ?_;refine GX.bS (hc:=fun _ hs=>K1 (E:=E2) c.k (by rw[Mq];omega) hs) (h:=?_);rintro⟨q,cc⟩ w hlen hH;replace hH:=SH.ap hH;dsimp only at hH;rw[Mq] at hlen hH ⊢;replace hH:=SH.freeze (el:=9) (sz:=1) (q:=q) (n:=(cR E.g.E c.k).length) (c:=cc) (cs:=aM (cR E.g.E c.k)) hH bL;simp only[ie] at k2 k3;refine gh ?_;refine GX.bz (hc:=fun _ hs=>zw (q:=q) k1.tick (cR E.g.E c.k) rfl ah (by show E2.s.K<_;omega) (by show E2.r.K<_;omega) hs) (h:=fun w hH=>gh ?_);refine gh ?_;refine GX.dw (h:=fun w hH=>gh ?_);exact⟨(),rfl,fun _=>hlen,hH.to⟩
noncomputable def aq.yt (E:aq)(k:Bs):aq:=(E.tick.out [k]).out (cR E.g.E k)
theorem aa6 {o:Og}{w:World}{b rb:Nat}{E:aq}(hG:b8 E)(c:dh)(y:iR){r0 r1 r2 r3 r4 r5:Value}(uB:E.s.K<2^57)(hK:E.r.K<2^38)(BH:E.g.K<2^39)(hs:Start o w [bU b E,aA rb [r0,r1,r2,r3,r4,r5]]) :
  aj prog 93 [ak b, .agg (jH c y).toArray,ak rb].toArray w (aU o (fun _:Unit => .tuple #[]) (fun _=>(cR E.g.E c.k).length≤65537) (fun _=>[bU b (E.yt c.k),aA rb [r0,r1,r2,r3,iV (cR E.g.E c.k).length,r5]])):=by
 have hH:=hs.sh;refine aj.enter func93 rfl ntmps93 rfl (gh ?_);refine GX.cw (h:=fun z w hH=>gh ?_);refine GX.bS (hc:=fun _ hs=>K1 (E:=E) c.k ah hs) (h:=?_);rintro⟨q,cc⟩ w hlen hH;replace hH:=SH.ap hH;dsimp only at hH;replace hH:=SH.freeze (el:=9) (sz:=1) (q:=q) (n:=(cR E.g.E c.k).length) (c:=cc) (cs:=aM (cR E.g.E c.k)) hH bL;refine gh ?_;refine GX.nk (h:=fun b1 w hH=>gh ?_);replace hH:=hH.freeze aB.here;obtain⟨k1,k2,k3⟩:=hG.tick.out [c.k];refine GX.bz (hc:=fun _ hs=>zw (q:=some b1) hG.tick [c.k] rfl (show 1<2^30 by decide) (by show E.s.K<_;omega) (by show E.r.K<_;omega) hs) (h:=fun w hH=>gh ?_);unfold aq.yt;have e1:E.tick.s.K=E.s.K:=rfl;have e2:E.tick.r.K=E.r.K:=rfl;simp only[ie] at k2 k3;generalize di:E.tick.out [c.k]=E2 at hH k1 k2 k3 ⊢;refine gh ?_;refine GX.bz (hc:=fun _ hs=>zw (q:=q) k1 (cR E.g.E c.k) rfl ah ah ah hs) (h:=fun w hH=>gh ?_);refine gh ?_;refine GX.dw (h:=fun w hH=>gh ?_);exact⟨(),rfl,hlen,hH.to⟩
def bw.oa (s:bw)(k:Bs)(t:Nat):bw:=if bI k=true then(match kT s.E k with
 |some e=>{ s with E:=dv s.E k++[{ e with d:=t}]}
 |none=>s) else s
theorem Kt.eq {s:bw}{k:Bs}{t:Nat}{y:Int×bw}(h:Kt s k t y):y.2=s.oa k t:=by
 unfold bw.oa
 rcases h with⟨h1,rfl⟩|⟨h1,⟨h2,rfl⟩|⟨e,h2,rfl⟩⟩
 ·rw[h1];rfl
 ·rw[if_pos h1,h2]
 ·rw[if_pos h1,h2]
def aq.oa (E:aq)(k:Bs)(d:Nat):aq:=if E.live k=true then { E.meet k with s:=(E.meet k).s.oa k (nZ E.now d)} else E.meet k
theorem Ww (E:aq)(l:List Bs):(E.out l).now=E.now:=by
 unfold aq.out
 induction l generalizing E with
 |nil=>rfl
 |cons k l ih=>
  rw[ph,ih];unfold aq.gj;split<;>rfl
theorem agW (E:aq)(k:Bs):(E.meet k).now=E.now:=by
 unfold aq.meet;split
 ·rfl
 ·exact Ww _ _
theorem abf {o:Og}{w:World}{b rb:Nat}{E:aq}(hG:b8 E)(c:dh)(y:iR){r0 r1 r2 r3 r4 r5:Value}(hd:c.d≤never)(uB:E.s.K<2^57)(hK:E.r.K<2^38)(hs:Start o w [bU b E,aA rb [r0,r1,r2,r3,r4,r5]]) :
  aj prog 91 [ak b, .agg (jH c y).toArray,ak rb].toArray w (Po o (.tuple #[]) [bU b (E.oa c.k c.d),aA rb [r0,r1,r2,r3,if E.live c.k=true then iV 1 else r4,r5]]):=by
 have hH:=hs.sh;refine aj.enter func91 rfl ntmps91 rfl (gh ?_);refine GX.cw (h:=fun z w hH=>gh ?_);obtain⟨h1,h2,h3⟩:=hG.meet c.k;refine GX.bz (hc:=fun _ hs=>K4 hG c.k ah ah hs) (h:=fun w hH=>gh ?_);have lf:=agW E c.k;have x6:=hG.now;unfold aq.oa;cases hl:E.live c.k with
 |false=>
  refine gh ?_;rw[if_neg (by simp),if_neg (by simp)];exact⟨rfl,hH.to⟩
 |true=>
  rw[if_pos rfl,if_pos rfl];generalize cW:E.meet c.k=E1 at hH h1 h2 h3 lf ⊢;refine gh ?_;obtain⟨X,hH⟩:=SH.un hH;replace hH:=SH.ap hH;dsimp only[eK] at hH;refine GC.bq (pl:=(aZ [0,3,6,12,18,21,24,30,10,16,28,34,38,41])) (T:=cS [b,z]) (hm:=mixed) (h:=fun w hE hH=>gh ?_);refine GX.pA (hc:=G8 E1.now c.d ah hd _) (h:=gh ?_);rw[lf];refine GX.gT (hc:=fun _ hs=>alf (s:=E1.s) c.k (nZ E.now c.d) Yd hs) (h:=?_);rintro⟨e,s'⟩ w hT hS hH;replace hH:=SH.ap hH;have EP:=hT.eq;dsimp only at EP hH;subst EP;refine gh ?_;refine GX.dw (h:=fun w hH=>gh ?_);exact⟨rfl,(cV (X:=X) (E:={ E1 with s:=E1.s.oa c.k (nZ E.now c.d)}) hH).to⟩
end
section
attribute [local irreducible] GO GX aA eo fz aF aQ ao star
variable {o:Og}{w:World}
noncomputable def aq.tX (E:aq)(op:Int)(p c:Bs):aq:={ E with g:=if op=11 then E.g.add p c else E.g.del p c}
noncomputable def aq.Du (E:aq)(op:Int)(p c:Bs):Bool:=if op=11 then E.g.oB p c else E.g.zt p c
theorem aa2 {b rb:Nat}{E:aq}(c:dh)(y:iR){r0 r1 r2 r3 r4 r5:Value}(BH:E.g.K<2^39)(hs:Start o w [bU b E,aA rb [r0,r1,r2,r3,r4,r5]]) :
  aj prog 96 [ak b, .agg (jH c y).toArray,ak rb].toArray w (Po o (.tuple #[]) [bU b (E.tX c.op c.k c.ch),aA rb [r0,r1,r2,r3,if E.Du c.op c.k c.ch=true then iV 1 else r4,r5]]):=by
 have hH:=hs.sh;obtain⟨X,hH⟩:=SH.un hH;replace hH:=SH.ap hH;dsimp only[eK] at hH;refine aj.enter func96 rfl ntmps96 rfl (gh ?_);refine GX.cw (h:=fun z w hH=>gh ?_);unfold aq.tX aq.Du
 by_cases dG:c.op=11
 ·rw[show decide ((c.op:Int)=11)=true by simp[dG],if_pos dG,if_pos dG];refine gh ?_;refine GX.bz (hc:=fun _ hs=>Lk (A:=E.g) c.k c.ch ah hs) (h:=fun w hH=>gh ?_);cases hz:E.g.oB c.k c.ch with
  |true=>
   refine gh ?_;refine GX.dw (h:=fun w hH=>gh ?_);exact⟨rfl,(cV (X:=X) (E:={ E with g:=E.g.add c.k c.ch}) hH).to⟩
  |false=>
   refine gh ?_;exact⟨rfl,(cV (X:=X) (E:={ E with g:=E.g.add c.k c.ch}) hH).to⟩
 ·rw[show decide ((c.op:Int)=11)=false by simp;omega,if_neg dG,if_neg dG];refine gh ?_;refine GX.bz (hc:=fun _ hs=>acd (A:=E.g) c.k c.ch hs) (h:=fun w hH=>gh ?_);cases hz:E.g.zt c.k c.ch with
  |true=>
   refine gh ?_;refine GX.dw (h:=fun w hH=>gh ?_);exact⟨rfl,(cV (X:=X) (E:={ E with g:=E.g.del c.k c.ch}) hH).to⟩
  |false=>
   refine gh ?_;exact⟨rfl,(cV (X:=X) (E:={ E with g:=E.g.del c.k c.ch}) hH).to⟩
theorem W1 {l r:List It}{b:Nat}{R:gL}(hH:SH o w l)(hs:aB (nX b R) l r:=by repeat(first|exact aB.here|apply aB.there)):R.N.length≤65536:=by
 obtain⟨⟨X,hX⟩,hH⟩:=SH.un hH hs;have aO:SH o w (X.dm b R++r):=hH;obtain⟨⟨Y,hY⟩,_⟩:=SH.un (f:=fun Y:{ Y:vx // rp Y ⟨R.aI,R.N⟩}=>Y.1.dm X.i ⟨R.aI,R.N⟩) aO (aB.there aB.here);have h1:=hY.N;have h2:=hY.ok.list;dsimp only at h1;rw[h1];simpa[dO] using h2
theorem K2 {l t:List It}{b:Nat}{X:tM}{E:aq}{S:b5}(hH:SH o w l)(hp:Pk l [aA b (eK X E),jD X.s E.s,nX X.r E.r,wY X.w E.sw.1 E.sw.2.1 E.sw.2.2,dy X.a S,mQ X.p E.p,gA X.g E.g] t:=by repeat(first|exact Pk.nil|(apply Pk.cons;repeat(first|exact aB.here|apply aB.there)))):SH o w (bU b { E with a:=S}::t):=
 SH.fold (f:=fun X:tM=>X.dm b { E with a:=S}) X hH hp
def aq.yJ (E:aq)(op:Int)(tag:Bs):b5:=if(lh E.r.N tag).2≠0 then E.a.next E.now else
 if op=9 then(E.a.next E.now).set (lh E.r.N tag).1.toNat ⟨((E.a.next E.now).A (lh E.r.N tag).1.toNat).mS,yT ((E.a.next E.now).A (lh E.r.N tag).1.toNat).soft (E.a.last+1,(E.a.next E.now).now)⟩
 else(E.a.next E.now).set (lh E.r.N tag).1.toNat ⟨E.a.last+1,[]⟩
def aq.AI (E:aq)(op:Int)(tag:Bs):aq:={ E with a:=E.yJ op tag}
theorem aem {N:fU}{x:Bs}(h:(lh N x).2=0):∃n:Nat,(lh N x).1=n∧n<N.length:=by
 unfold lh at h ⊢;split at h
 ·rename_i h1
  rw[if_pos h1];split at h
  ·rename_i n hn
   exact⟨n,rfl,(C9.1 hn).1⟩
  ·cases h
 ·cases h
theorem abb {b rb:Nat}{op:Int}{E:aq}(hG:b8 E)(c:dh)(y:iR){r1 r2 r3 r4 r5:Value}(hs:Start o w [bU b E,aA rb [iV op,r1,r2,r3,r4,r5]]) :
  aj prog 94 [ak b, .agg (jH c y).toArray,ak rb].toArray w (Po o (.tuple #[]) [bU b (E.AI op c.tag),aA rb [iV op,r1,r2,r3,r4,r5]]):=by
 have hH:=hs.sh;obtain⟨X,hH⟩:=SH.un hH;replace hH:=SH.ap hH;dsimp only[eK] at hH;have mZ:=W1 hH;have x6:=hG.now;have b6:=hG.nH;refine aj.enter func94 rfl ntmps94 rfl (gh ?_);refine GX.cw (h:=fun z w hH=>gh ?_);refine GC.bq (pl:=(aZ [0,3,6,12,10,16,20,21,24,27,30,33])) (T:=fun _=>False) (hm:=mixed) (h:=fun w hE hH=>gh ?_);refine GX.xF (hc:=fun _ hs=>Xl (R:=E.r) c.tag hs) (h:=fun w hS hH=>gh ?_);have aP:=@aem E.r.N c.tag;have Mh:E.AI op c.tag={ E with a:=E.yJ op c.tag}:=rfl;rw[Mh];unfold aq.yJ;generalize lh E.r.N c.tag=f at aP ⊢;obtain⟨fn,fe⟩:=f;dsimp only at aP ⊢
 by_cases he:fe=0
 ·subst he;obtain⟨n,rfl,hn⟩:=aP rfl;rw[if_neg (by simp)];refine gh ?_
  by_cases dG:op=9
  ·rw[show decide ((op:Int)=9)=true by simp[dG],if_pos dG];refine gh ?_;refine GC.bq (pl:=(aZ [0,3,6,12,15,18,21,10,25,29])) (T:=cS [b]) (hm:=mixed) (h:=fun w hE hH=>gh ?_);refine GX.gz (hc:=fun _ hs=>ala (S:=E.a) n ah E.now x6 ah hs) (h:=fun w hS hH=>gh ?_);refine⟨rfl,(K2 (X:=X) (E:=E) hH).to⟩
  ·rw[show decide ((op:Int)=9)=false by simp;omega,if_neg dG];refine gh ?_;refine GC.bq (pl:=(aZ [0,3,6,12,15,18,21,10,25,29])) (T:=cS [b]) (hm:=mixed) (h:=fun w hE hH=>gh ?_);refine GX.gz (hc:=fun _ hs=>ajK (S:=E.a) n ah E.now x6 ah hs) (h:=fun w hS hH=>gh ?_);refine⟨rfl,(K2 (X:=X) (E:=E) hH).to⟩
 ·rw[if_pos he,show decide (fe≠0)=true by simp[he]];refine gh ?_;refine GC.bq (pl:=(aZ [0,3,6,12,15,18,10,22,26])) (T:=cS [b]) (hm:=mixed) (h:=fun w hE hH=>gh ?_);refine GX.gz (hc:=fun _ hs=>XT (S:=E.a) E.now x6 ah hs) (h:=fun w hS hH=>gh ?_);refine⟨rfl,(K2 (X:=X) (E:=E) hH).to⟩
def aq.wQ (E:aq)(op:Int)(pre:Bs):aq:={ E with a:=E.a.next E.now,p:=if op=14 then E.p.flush (E.a.last+1) else E.p.uX pre (E.a.last+1)}
theorem aba {b rb:Nat}{op:Int}{E:aq}(hG:b8 E)(c:dh)(y:iR){r1 r2 r3 r4 r5:Value}(hl:op≠14→c.pre.length≤250)(B1:E.p.T.K<2^40)(hs:Start o w [bU b E,aA rb [iV op,r1,r2,r3,r4,r5]]) :
  aj prog 95 [ak b, .agg (jH c y).toArray,ak rb].toArray w (Po o (.tuple #[]) [bU b (E.wQ op c.pre),aA rb [iV op,r1,r2,r3,r4,r5]]):=by
 have hH:=hs.sh;obtain⟨X,hH⟩:=SH.un hH;replace hH:=SH.ap hH;dsimp only[eK] at hH;have x6:=hG.now;have b6:=hG.nH;have gZ:=hG.se;have hnv:(never:Nat)=18446744073709551615:=rfl;refine aj.enter func95 rfl ntmps95 rfl (gh ?_);refine GX.cw (h:=fun z w hH=>gh ?_);refine GC.bq (pl:=(aZ [0,3,6,12,15,18,10,22,26,27,30,33,36,39])) (T:=cS [b]) (hm:=mixed) (h:=fun w hE hH=>gh ?_);refine GX.gz (hc:=fun _ hs=>XT (S:=E.a) E.now x6 ah hs) (h:=fun w hS hH=>gh ?_);have Mh:E.wQ op c.pre={ E with a:=E.a.next E.now,p:=if op=14 then E.p.flush (E.a.last+1) else E.p.uX c.pre (E.a.last+1)}:=rfl;rw[Mh]
 by_cases dG:op=14
 ·rw[show decide ((op:Int)=14)=true by simp[dG],if_pos dG];refine gh ?_;refine GX.bz (hc:=fun _ hs=>abk (E:=E.p) (E.a.last+1) ah B1 hs) (h:=fun w hH=>gh ?_);refine gh ?_;exact⟨rfl,(cV (X:=X) (E:={ E with a:=E.a.next E.now,p:=E.p.flush (E.a.last+1)}) hH).to⟩
 ·rw[show decide ((op:Int)=14)=false by simp;omega,if_neg dG];refine gh ?_;refine GC.bq (pl:=(aZ [0,3,6,12,18,10,16,23])) (T:=cS [b,z]) (hm:=mixed) (h:=fun w hE hH=>gh ?_);refine GX.gz (hc:=fun _ hs=>abo (E:=E.p) c.pre (E.a.last+1) (hl dG) ah ah B1 hs) (h:=fun w hS hH=>gh ?_);exact⟨rfl,(cV (X:=X) (E:={ E with a:=E.a.next E.now,p:=E.p.uX c.pre (E.a.last+1)}) hH).to⟩
end
end Go.Proofs.YtmlpbmgfmnmmmaaGreat.V.M
