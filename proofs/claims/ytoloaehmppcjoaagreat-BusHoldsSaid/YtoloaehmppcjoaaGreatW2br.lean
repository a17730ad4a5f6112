/-
  Parts of the proof. No condition.
-/
import Derived.Test.YtoloaehmppcjoaaGreatW2bp
import Derived.Test.YtoloaehmppcjoaaGreatW2be
import Derived.Test.YtoloaehmppcjoaaGreatW2bq
import Derived.Test.YtoloaehmppcjoaaGreatW2bf
set_option linter.unusedVariables false
set_option linter.unusedSimpArgs false
set_option maxRecDepth 8000
set_option maxHeartbeats 8000000
open Go.Proofs.Tryz
namespace Go.Proofs.YtoloaehmppcjoaaGreat.V.M
section
theorem KM (N:eF)(x:Bs):∃r,(cL N x).1[(cL N x).2]?=some (x,r)∧0<r:=by
 unfold cL;split
 ·rename_i n hn
  have hl:=(y6.1 hn).1;exact⟨_,dE hl,Nat.succ_pos _⟩
 ·split
  ·rename_i n F hF
   obtain⟨y,hy,_⟩:=oz.1 (show n∈cw N by rw[hF];simp);exact⟨1,dE (aV.1 hy).1,Nat.one_pos⟩
  ·exact⟨1,by simp,Nat.one_pos⟩
theorem PU {N:eF}{m:Nat}{y:Bs}{r:Nat}(h:N[m]?=some (y,r))(hr:0<r)(x:Bs):∃r',(cL N x).1[m]?=some (y,r')∧0<r':=by
 have hl:=(aV.1 h).1;unfold cL;split
 ·rename_i n hn
  by_cases e:n=m
  ·subst e;obtain⟨h1,h2,_⟩:=y6.1 hn;have h3:N[n]=(y,r):=(aV.1 h).2;rw[h3] at h2;have h4:=(dM h2).2;dsimp only at h4;subst h4;exact⟨_,dE hl,Nat.succ_pos _⟩
  ·exact⟨r,by rw[dv e];exact h,hr⟩
 ·split
  ·rename_i n F hF
   obtain⟨z,hz,pc⟩:=oz.1 (show n∈cw N by rw[hF];simp);have e:n≠m:=by
    rintro rfl;rw[h] at hz;cases hz;simp at pc;omega
   exact⟨r,by rw[dv e];exact h,hr⟩
  ·exact⟨r,by rw[gp hl];exact h,hr⟩
def y9 (N:eF)(t:List Bs)(ns:List Nat):Prop:=ns.length=t.length∧∀(i m:Nat) (x:Bs),ns[i]?=some m→t[i]?=some x→∃r,N[m]?=some (x,r)∧0<r
theorem Xl:∀(l:List Bs) (s:dQ) (pre:List Bs) (acc:List Nat),y9 s.N pre acc→(iU l s acc).2.1=0→y9 (iU l s acc).2.2.N (pre++l) (iU l s acc).1
 | [],s,pre,acc,h,_=>by simpa[iU] using h
 |x::l,s,pre,acc,h,he=>by
  unfold iU at he ⊢;split at he
  ·rename_i h0
   rw[if_pos h0];have Nj:y9 (fp s x).2.2.N (pre++[x]) (acc++[(fp s x).1.toNat]):=by
    have hF:fp s x=((((cL s.N x).2:Nat):Int),0,{ s with N:=(cL s.N x).1}):=by
     unfold fp at h0 ⊢;split at h0
     ·cases h0
     ·rename_i h1;rw[if_neg h1]
    rw[hF];refine⟨by simp[h.1],fun i m y hm hy=>?_⟩;dsimp only
    rcases qz i acc.length with hi|hi
    ·rw[gp hi] at hm;rw[gp (by rw[←h.1];exact hi)] at hy;obtain⟨r,h1,h2⟩:=h.2 i m y hm hy;exact PU h1 h2 x
    ·rw[iD hi] at hm;rw[iD (by rw[←h.1];exact hi)] at hy;rw[←h.1] at hy;have Ip:i - acc.length=0:=by
      have:=(aV.1 hm).1;simp at this;omega
     rw[Ip] at hm hy;simp at hm hy;subst hm hy;exact KM s.N x
   have:=Xl l _ (pre++[x]) _ Nj he;simpa using this
  ·rename_i h0
   exact absurd he h0
theorem y9.nodup {N:eF}{t:List Bs}{ns:List Nat}(h:y9 N t ns)(ht:t.Nodup):ns.Nodup:=by
 rw[pM,sP];intro i j hi hj mH e;have h1:ns[i]?=some ns[i]:=bO hi;have h2:ns[j]?=some ns[i]:=by rw[e];exact bO hj
 have h3:t[i]?=some (t[i]'(by rw[←h.1];exact hi)):=bO _;have h4:t[j]?=some (t[j]'(by rw[←h.1];exact hj)):=bO _;obtain⟨_,k1,_⟩:=h.2 i _ _ h1 h3;obtain⟨_,k2,_⟩:=h.2 j _ _ h2 h4;rw[k1] at k2;have e2:=(Prod.mk.inj (Option.some.inj k2)).1;rw[←e2] at h4;have:=Ow ht h3 h4;omega
theorem y9.lt {N:eF}{t:List Bs}{ns:List Nat}(h:y9 N t ns):∀m∈ns,m<N.length:=fun m hm=>by
 obtain⟨i,hi⟩:=ey hm;have eY:=(aV.1 hi).1;have h3:t[i]?=some (t[i]'(by rw[←h.1];exact eY)):=bO _;obtain⟨_,k1,_⟩:=h.2 i _ _ hi h3;exact(aV.1 k1).1
def sV (R:gY):Prop:=∀id t n,R.live id=some (t,n)→n.Nodup∧(∀x∈n,x<65536)∧n.length≤16
theorem sV.drop {R:gY}(h:sV R)(id:Nat):sV (iW R id).2.2:=by
 unfold iW;split
 ·exact h
 ·intro j t n hj;dsimp only at hj;split at hj
  ·cases hj
  ·exact h j t n hj
theorem sV.add {R:gY}(h:sV R)(id:Nat){t:List Bs}(ht:t.Nodup)(pV:t.length≤16)(hN:(ji R id t).2.2.N.length≤65536):sV (ji R id t).2.2:=by
 unfold ji at hN ⊢;split
 ·rename_i h0
  rw[if_pos h0] at hN;have hn:=Xl t ⟨R.aD,R.N⟩ [] [] ⟨rfl,fun i m x hm _=>by simp at hm⟩ h0;rw[kC] at hn;intro j u n hj;dsimp only at hj;split at hj
  ·cases hj;exact⟨hn.nodup ht,fun x hx=>jL (hn.lt x hx) hN,by rw[hn.1];exact pV⟩
  ·exact h j u n hj
 ·exact fun j u n hj=>h j u n hj
end
section
attribute [local irreducible] GO GX
structure ao where
 cb:Nat
 ce:Nat
 ct:Nat
 cn:Nat
 cd:Nat
 cg:Nat
 cs:Nat
 now:Nat
 aR:Nat
 s:bw
 r:gY
 sw:Nat×Nat×Nat
 a:bW
 p:iq
 g:dX
 cP:List Nat
structure uh where
 s:Nat
 r:Nat
 w:Nat
 a:Nat
 p:Nat
 g:Nat
def fo (X:uh)(E:ao):List Value:=iV E.cb::iV E.ce::iV E.ct::iV E.cn::iV E.cd::uV E.cg::uV E.cs::uV E.now::uV E.aR::ak X.s::ak X.r::ak X.w::ak X.a::ak X.p::ak X.g::E.cP.map fun n:Nat=>uV n
abbrev uh.dS (X:uh)(b:Nat)(E:ao):List It:=[aB b (fo X E),kz X.s E.s,oE X.r E.r,xo X.w E.sw.1 E.sw.2.1 E.sw.2.2,dB X.a E.a,ng X.p E.p,gL X.g E.g]
def cB (b:Nat)(E:ao):It:=star fun X:uh=>X.dS b E
theorem df {o:Og}{w:World}{l t:List It}{b:Nat}{X:uh}{E:ao}(hH:SH o w l)(hp:Pk l (X.dS b E) t:=by repeat(first|exact Pk.nil|(apply Pk.cons;repeat(first|exact az.here|apply az.there)))):SH o w (cB b E::t):=
 SH.fold (f:=fun X:uh=>X.dS b E) X hH hp
attribute [local irreducible] aB aq aS aF fz star eX
theorem SH.Oo {o:Og}{w:World}{l r:List It}{el:TypeId}{sz n c:Nat}{q:Option Nat}{cs:List Value}(h:SH o w l)(hs:az (aq el sz q n c cs) l r:=by repeat(first|exact az.here|apply az.there)):aA q=none→n=0:=by
 intro hq;obtain⟨_,⟨_,_,_,h0⟩|⟨_,h1,_,_,h2⟩⟩:=h.own hs
 ·exact h0 hq
 ·rw[h1] at hq;cases hq
instance {x:cG}:gb (fG x):=by unfold fG;infer_instance
structure cm (E:ao):Prop where
 pz:sV E.r
 rr:E.r.last≤E.aR
 sG:E.p.last≤E.a.last
 nQ:E.a.last<2^30
 cP:E.cP.length=16∧∀x∈E.cP,x<eu
 now:E.now≤never
 aR:E.aR<2^30
theorem Hq {o:Og}{w:World}{b s:Nat}{v0 v1 v2 v3 v4 v5 v6 v7 v8:Value}{r:List Value}(hs:Start o w [fz (aB b (v0::v1::v2::v3::v4::v5::v6::v7::v8::ak s::r))]):aj prog 44 [ak b].toArray w (Po o (.bool false) []):=by
 have hH:=hs.sh;refine aj.enter func44 rfl ntmps44 rfl (gh ?_);exact⟨rfl,hH.to⟩
def ao.eR (E:ao)(k:Bs):Option bM:=if bf k=true then jq E.s.E k else none
structure mX where
 m:Int
 v:Bs
 n:Nat
 d:Nat
def yx:mX:=⟨0,[],0,0⟩
def ao.item (E:ao)(k:Bs)(now:Nat):mX:=match E.eR k with
 |none=>yx
 |some x=>if E.p.of k≤x.st then(if wI E.a x.st (iC (qn E.r x.n)) now x.d=0 then yx else⟨wI E.a x.st (iC (qn E.r x.n)) now x.d,x.v,x.n,x.d⟩) else yx
def Fm (i:mX)(q:Option Nat×Nat):List Value:=[iV i.m, .slice (aA q.1) i.v.length q.2,uV i.n,uV i.d]
def Fl (i:mX)(q:Option Nat×Nat):List It:=[aq 5 1 q.1 i.v.length q.2 (Lib.byteCells i.v)]
theorem Cf {o:Og}{w:World}{b:Nat}{E:ao}(hG:cm E)(k:Bs)(now:Nat)(hs:Start o w [cB b E]) :
  aj prog 46 [ak b,str k,uV now].toArray w (aX o (fun q:Option Nat×Nat => .agg (Fm (E.item k now) q).toArray) (fun _=>True) (fun q=>cB b E::Fl (E.item k now) q)):=by
 have hH:=hs.sh;obtain⟨X,hH⟩:=SH.un hH;replace hH:=SH.ap hH;dsimp only[fo] at hH;refine aj.enter func46 rfl ntmps46 rfl (gh ?_);refine GX.cA (h:=fun z w hH=>gh ?_);refine GX.ef (hc:=fun _ hs=>ak4 k hs) (h:=?_);rintro⟨x,e⟩ w hF cX hH;replace hH:=SH.ap hH;refine gh ?_;refine GX.cA (h:=fun y w hH=>gh ?_);refine GX.bt (h:=fun w hH=>gh ?_);dsimp only at hF hH ⊢;have hzero:E.eR k=none→E.item k now=yx:=fun h=>by unfold ao.item;rw[h]
 rcases hF with⟨hk,he⟩|⟨hk,⟨bz,he⟩|⟨nY,he⟩⟩
 ·obtain⟨rfl,rfl⟩:=Prod.mk.inj he;refine GC.br (pl:=(bg [0,3,6,9,12,15,21,24,19,28,32,33,36])) (T:=fun _=>False) (hm:=mixed) (h:=fun w hE hH=>gh ?_);refine GX.bt (h:=fun w hH=>gh ?_);rw[hzero (by unfold ao.eR;rw[hk];rfl)];exact⟨(none,0),rfl,trivial,(df (X:=X) (E:=E) hH).to⟩
 ·obtain⟨rfl,rfl⟩:=Prod.mk.inj he;refine GC.br (pl:=(bg [0,3,6,9,12,15,21,24,19,28,32,33,36])) (T:=fun _=>False) (hm:=mixed) (h:=fun w hE hH=>gh ?_);refine GX.bt (h:=fun w hH=>gh ?_);rw[hzero (by unfold ao.eR;rw[hk,bz];rfl)];exact⟨(none,0),rfl,trivial,(df (X:=X) (E:=E) hH).to⟩
 ·dsimp only at nY he;subst he;have cV:=(dM hk).2;refine GC.br (pl:=(bg [0,3,6,9,12,15,21,24,19,28,32,33,36])) (T:=fun _=>False) (hm:=mixed) (h:=fun w hE hH=>gh ?_);refine GX.xN (hc:=fun _ hs=>abp k x.e.st cV hs) (h:=fun w hS hH=>gh ?_);have xW:E.eR k=some x.e:=by unfold ao.eR;rw[if_pos hk,nY]
  by_cases hh:E.p.of k≤x.e.st
  ·rw[b8 hh];refine gh ?_;have o9:(qn E.r x.e.n).Nodup∧(∀y∈qn E.r x.e.n,y<65536)∧(qn E.r x.e.n).length≤16:=by
    unfold qn;cases hl:E.r.live x.e.n with
    |none=>simp
    |some tn=>exact hG.pz _ tn.1 tn.2 hl
   generalize uH:qn E.r x.e.n=ln at o9;obtain⟨j9,ic,EG⟩:=o9;refine GC.br (pl:=(bg [0,3,6,12,10,16,20,21,24,27,30,33])) (T:=fun _=>False) (hm:=mixed) (h:=fun w hE hH=>gh ?_);refine GX.eG (hc:=fun _ hs=>by have:=ajm (b:=X.r) (R:=E.r) x.e.n hs;rw[uH] at this;exact this) (h:=?_);rintro⟨q1,c1⟩ w _ hS hH;replace hH:=SH.ap hH;refine gh ?_;have h0:=hH.Oo (el:=3) (sz:=1) (q:=q1);refine GX.ef (hc:=fun _ hs=>agE (l:=ln) rfl j9 ic EG h0 hs) (h:=?_);rintro⟨q2,c2⟩ w _ dx hH;replace hH:=SH.ap hH;dsimp only at hH;have hL:=XR j9 ic EG;have ep:(iC ln).length=ln.length:=(CS ln).length_eq;rw[←ep] at hH ⊢;replace hH:=SH.freeze (el:=3) (sz:=1) (q:=q2) (n:=(iC ln).length) (c:=c2) (cs:=aG (iC ln)) hH bP;refine gh ?_;refine GX.cA (h:=fun f w hH=>gh ?_);refine GX.bt (h:=fun w hH=>gh ?_);have cj:=hG.nQ;refine GC.br (pl:=(bg [3,6,9,15,18,1,13,22,26,27,30,33,36,39])) (T:=dt [f,b,y]) (hm:=mixed) (h:=fun w hE hH=>gh ?_);refine GX.mZ (hc:=fun _ hs=>agD (S:=E.a) (now:=now) (d:=x.e.d) hL ah hs) (h:=fun w hS hH=>gh ?_);have e1:E.item k now=if wI E.a x.e.st (iC ln) now x.e.d=0 then yx else⟨wI E.a x.e.st (iC ln) now x.e.d,x.e.v,x.e.n,x.e.d⟩:=by
    unfold ao.item;rw[xW];dsimp only;rw[if_pos hh,uH]
   generalize wI E.a x.e.st (iC ln) now x.e.d=mk at e1 hH ⊢
   by_cases h2:mk=0
   ·subst h2;refine gh ?_;refine GX.bt (h:=fun w hH=>gh ?_);have h1:=SH.cF (el:=5) (sz:=1) (q:=none) (n:=0) (c:=0) (cs:=[]) hH (Mod.refl w) (fun _ h=>by cases h) (aH.nil _ _ _);rw[if_pos rfl] at e1;rw[e1];exact⟨(none,0),rfl,trivial,(df (X:=X) (E:=E) h1).to⟩
   ·rw[if_neg h2] at e1;rw[show decide ((mk:Int)=0)=false by simp[h2]];refine gh ?_;refine GX.bt (h:=fun w hH=>gh ?_);rw[e1];exact⟨x.qv,rfl,trivial,(df (X:=X) (E:=E) hH).to⟩
  ·rw[bQ hh];refine gh ?_;refine GX.bt (h:=fun w hH=>gh ?_);have h1:=SH.cF (el:=5) (sz:=1) (q:=none) (n:=0) (c:=0) (cs:=[]) hH (Mod.refl w) (fun _ h=>by cases h) (aH.nil _ _ _);have e1:E.item k now=yx:=by unfold ao.item;rw[xW];exact if_neg hh
   rw[e1];exact⟨(none,0),rfl,trivial,(df (X:=X) (E:=E) h1).to⟩
end
section
attribute [local irreducible] GO GX aB eX fz aF aS aq star
variable {o:Og}{w:World}
instance {i:mX}{q:Option Nat×Nat}:gb (Fl i q):=by unfold Fl;infer_instance
def ao.live (E:ao)(k:Bs):Bool:=decide ((E.item k E.now).m≠0)
theorem aa9 {b:Nat}{E:ao}(hG:cm E)(k:Bs)(hs:Start o w [cB b E]) :
  aj prog 259 [ak b,str k].toArray w (Po o (.bool (E.live k)) [cB b E]):=by
 have hH:=hs.sh;obtain⟨X,hH⟩:=SH.un hH;replace hH:=SH.ap hH;dsimp only[fo] at hH;refine aj.enter func259 rfl ntmps259 rfl (gh ?_);replace hH:=df (X:=X) (E:=E) hH;refine GX.bZ (hc:=fun _ hs=>Cf hG k E.now hs) (h:=?_);rintro q w _ hH;replace hH:=SH.ap hH;refine gh ?_;refine⟨?_,hH.to⟩;rfl
def ao.tick (E:ao):ao:={ E with g:=E.g.tick}
theorem Le {b:Nat}{E:ao}(k:Bs)(hK:E.g.K<2^40)(hs:Start o w [cB b E]) :
  aj prog 170 [ak b,str k].toArray w (aX o (fun y:Option Nat×Nat => .slice (aA y.1) (cO E.g.E k).length y.2) (fun _=>(cO E.g.E k).length≤65537) (fun y=>[cB b E.tick,aq 9 1 y.1 (cO E.g.E k).length y.2 (aK (cO E.g.E k))])):=by
 have hH:=hs.sh;obtain⟨X,hH⟩:=SH.un hH;replace hH:=SH.ap hH;dsimp only[fo] at hH;refine aj.enter func170 rfl ntmps170 rfl (gh ?_);refine GX.bZ (hc:=fun _ hs=>Zp k hK hs) (h:=?_);rintro⟨q,c⟩ w hl hH;replace hH:=SH.ap hH;refine gh ?_;exact⟨(q,c),rfl,hl,(df (X:=X) (E:=E.tick) hH).to⟩
def bW.forget (S:bW)(l:List Nat):bW:=l.foldl (fun S n=>S.set n ⟨0,[]⟩) S
def ao.qe (E:ao)(n:Nat):ao:={ E with r:=(iW E.r n).2.2,a:=E.a.forget (iW E.r n).1}
theorem ajo (s:dQ)(l:List Nat):∀x∈(gj s l).1,x∈l:=by
 suffices h:∀(l:List Nat) (y:List Nat×dQ),∀x∈(l.foldl px y).1,x∈y.1∨x∈l by
  intro x hx
  rcases h l ([],s) x hx with h|h
  ·cases h
  ·exact h
 intro l
 induction l with
 |nil=>intro y x hx;exact .inl hx
 |cons n l ih=>
  intro y x hx
  rcases ih _ x hx with h|h
  ·unfold px at h;dsimp only at h;split at h
   ·rcases cx.1 h with h|h
    ·exact .inl h
    ·simp at h;subst h;exact .inr (by simp)
   ·exact .inl h
  ·exact .inr (by simp[h])
theorem ajn (s:dQ)(l:List Nat):(gj s l).1.length≤l.length:=by
 suffices h:∀(l:List Nat) (y:List Nat×dQ),(l.foldl px y).1.length≤y.1.length+l.length by
  have:=h l ([],s);simpa[gj] using this
 intro l
 induction l with
 |nil=>intro y;exact aY _
 |cons n l ih=>
  intro y;refine dF (ih _) ?_;unfold px;dsimp only;split<;>simp<;>omega
theorem sV.abV {R:gY}(h:sV R)(id:Nat):(iW R id).1.length≤16:=by
 unfold iW;split
 ·simp
 ·rename_i e he
  exact dF (ajn _ _) (h id e.1 e.2 he).2.2
theorem bW.abO (S:bW){l:List Nat}{i n:Nat}(h:l[i]?=some n):S.forget (l.take (i+1))=(S.forget (l.take i)).set n ⟨0,[]⟩:=by
 unfold bW.forget;rw[gv,h,vC];rfl
theorem sV.Ln {R:gY}(h:sV R)(id:Nat):∀x∈(iW R id).1,x<65536:=by
 unfold iW;split
 ·intro x hx;cases hx
 ·rename_i e he
  intro x hx;exact(h id e.1 e.2 he).2.1 x (ajo _ _ x hx)
theorem bW.DH (S:bW)(l:List Nat):(S.forget l).last=S.last:=by
 unfold bW.forget
 induction l generalizing S with
 |nil=>rfl
 |cons n l ih=>rw[pL,ih];rfl
theorem FP (R:gY)(id:Nat):(iW R id).2.2.last=R.last∧(iW R id).2.2.K≤R.K+1:=by
 unfold iW;split
 ·exact⟨rfl,pJ _⟩
 ·exact⟨rfl,aY _⟩
theorem cm.qe {E:ao}(h:cm E)(n:Nat):cm (E.qe n):=
 ⟨h.pz.drop n,by show(iW E.r n).2.2.last≤_;rw[(FP E.r n).1];exact h.rr,by show E.p.last≤(E.a.forget _).last;rw[bW.DH];exact h.sG,by show(E.a.forget _).last<_;rw[bW.DH];exact h.nQ,h.cP,h.now,h.aR⟩
theorem Lg {b:Nat}{E:ao}(hG:cm E)(k:Bs)(v t:Value)(d n st:Nat)(hK:E.r.K<2^40)(hs:Start o w [cB b E]) :
  aj prog 81 [ak b, .agg #[str k,v,t,uV d,uV n,uV st]].toArray w (Po o (.tuple #[]) [cB b (E.qe n)]):=by
 have hH:=hs.sh;obtain⟨X,hH⟩:=SH.un hH;replace hH:=SH.ap hH;dsimp only[fo] at hH;refine aj.enter func81 rfl ntmps81 rfl (gh ?_);refine GX.cI (h:=fun z w hH=>gh ?_);refine GC.br (pl:=(bg [0,3,6,12,10,16,20,21,24,27,30,33])) (T:=dt [b,z]) (hm:=mixed) (h:=fun w hE hH=>gh ?_);refine GX.kL (hc:=fun _ hs=>ajl n hK hs) (h:=?_);rintro⟨q,c⟩ w _ hS hH;replace hH:=SH.ap hH;have p6:=hG.pz.Ln n;have ly:=hG.pz.abV n;generalize hF:(iW E.r n).1=F at hH p6 ly;refine gh ?_;refine GC.bR [0,18,19] (fun i:Nat=>[(20,iV i)]) (fun i w'=>i≤F.length∧SH o w' [dB X.a (E.a.forget (F.take i)),aq 3 1 q F.length c (aG F),aB b (fo X E),oE X.r (iW E.r n).2.2,kz X.s E.s,xo X.w E.sw.1 E.sw.2.1 E.sw.2.2,ng X.p E.p,gL X.g E.g]) (fun i=>F.length - i) 0 rfl rfl ⟨bh _,hH.to⟩ ?_;rintro i w ⟨hi,hH⟩;dsimp only[fo] at hH;refine gh ?_;refine ifs (fun h1=>?_) (fun h1=>?_)<;>refine gh ?_
 ·obtain⟨m,hm⟩:∃m,F[i]?=some m:=⟨_,bO ah⟩
  have gf:=p6 m (bD hm);obtain⟨qb,rfl⟩:=hH.pos (el:=3) (sz:=1) (q:=q) (n:=F.length);refine gh ?_;refine GX.next rfl (GO.cT (hv:=show(aG F)[i]?=some (iV m) by simp[aG,hm]) (h:=gh ?_));refine GX.bZ (hc:=fun _ hs=>ajA m gf hs) (h:=?_);rintro _ w _ hH;replace hH:=SH.ap hH;rw[←bW.abO _ hm] at hH;refine gh ?_;exact GQ.bj (i+1) rfl ⟨by omega,hH.to⟩ ah
 ·obtain rfl:i=F.length:=by omega
  rw[fw (aY _)] at hH;refine gh ?_;rw[←hF] at hH;exact⟨rfl,(df (X:=X) (E:=E.qe n) hH).to⟩
def ao.eJ (E:ao)(k:Bs):ao:=match E.eR k with
 |some x=>ao.qe { E with s:=E.s.drop k} x.n
 |none=>E
def ao.out (E:ao)(l:List Bs):ao:=l.foldl ao.eJ E
theorem ao.ahL (E:ao){l:List Bs}{i:Nat}{k:Bs}(h:l[i]?=some k):E.out (l.take (i+1))=(E.out (l.take i)).eJ k:=by
 unfold ao.out;rw[gv,h,vC];rfl
theorem cm.drop {E:ao}(h:cm E)(s:bw):cm { E with s:=s}:=⟨h.pz,h.rr,h.sG,h.nQ,h.cP,h.now,h.aR⟩
theorem cm.eJ {E:ao}(h:cm E)(k:Bs):cm (E.eJ k)∧(E.eJ k).s.K≤E.s.K+1∧(E.eJ k).r.K≤E.r.K+1:=by
 unfold ao.eJ;split
 ·exact⟨(h.drop _).qe _,aY _,(FP E.r _).2⟩
 ·exact⟨h,pJ _,pJ _⟩
theorem cm.out {E:ao}(h:cm E)(l:List Bs):cm (E.out l)∧(E.out l).s.K≤E.s.K+l.length∧(E.out l).r.K≤E.r.K+l.length:=by
 unfold ao.out
 induction l generalizing E with
 |nil=>exact⟨h,aY _,aY _⟩
 |cons k l ih=>
  obtain⟨h1,h2,h3⟩:=h.eJ k;obtain⟨k1,k2,k3⟩:=ih h1;rw[pL,ek];exact⟨k1,by omega,by omega⟩
theorem abZ {w:World}{q:Option Nat}{cs:List Value}(h:bN w (aA q) cs)(hl:0<cs.length):∃b,q=some b:=by
 obtain⟨b,o,e,_⟩:=h.sC hl;cases q with
 |none=>cases e
 |some b=>exact⟨b,rfl⟩
theorem zu {b:Nat}{E:ao}(hG:cm E){q:Option Nat}{n c:Nat}(l:List Bs)(hn:l.length=n)(hl:n<2^30)(uP:E.s.K<2^58)(hK:E.r.K<2^39)(hs:Start o w [cB b E,aF (aA q) (aK l)]) :
  aj prog 171 [ak b, .slice (aA q) n c].toArray w (Po o (.tuple #[]) [cB b (E.out l),aF (aA q) (aK l)]):=by
 have hH:=hs.sh;subst hn;refine aj.enter func171 rfl ntmps171 rfl (gh ?_);refine GC.bR [0,8,9] (fun i:Nat=>[(10,iV i)]) (fun i w'=>i≤l.length∧SH o w' [cB b (E.out (l.take i)),aF (aA q) (aK l)]) (fun i=>l.length - i) 0 rfl rfl ⟨bh _,hH.to⟩ ?_;rintro i w ⟨hi,hH⟩;have aU:=hG.out (l.take i);have aN:(l.take i).length≤l.length:=by rw[dI];omega
 generalize cX:E.out (l.take i)=E1 at hH aU;obtain⟨fL,rT,je⟩:=aU;refine gh ?_;refine ifs (fun h1=>?_) (fun h1=>?_)<;>refine gh ?_
 ·obtain⟨k,hk⟩:∃k,l[i]?=some k:=⟨_,bO ah⟩
  have tD:=E.ahL hk;rw[cX] at tD;obtain⟨qb,rfl⟩:=abZ (hH.bL (x:=aF (aA q) (aK l)) (a:=aA q) (cs:=aK l) bP) (by rw[aK,fH];omega);refine gh ?_;refine GX.next rfl (GO.cT (hv:=show(aK l)[i]?=some (str k) by simp[aK,hk]) (h:=gh ?_));obtain⟨X,hH⟩:=SH.un hH;replace hH:=SH.ap hH;dsimp only[fo] at hH;refine gh ?_;refine GX.bZ (hc:=fun _ hs=>ak6 (s:=E1.s) k ah hs) (h:=?_);rintro⟨x,e,s'⟩ w hR hH;replace hH:=SH.ap hH;dsimp only at hR hH ⊢;refine gh ?_;refine GX.cA (h:=fun z w hH=>gh ?_);refine GX.bt (h:=fun w hH=>gh ?_);have bz:E1.eR k=none→E1.eJ k=E1:=fun h=>by unfold ao.eJ;rw[h]
  rcases hR with⟨oh,he⟩|⟨oh,⟨hf,he⟩|⟨hf,he,En⟩⟩
  ·obtain⟨rfl,h2⟩:=Prod.mk.inj he;obtain⟨rfl,rfl⟩:=Prod.mk.inj h2;rw[bz (by unfold ao.eR;rw[oh];rfl)] at tD;refine gh ?_;refine GQ.bj (i+1) rfl ⟨by omega,?_⟩ ah;rw[tD];exact(df (X:=X) (E:=E1) hH).to
  ·obtain⟨rfl,h2⟩:=Prod.mk.inj he;obtain⟨rfl,rfl⟩:=Prod.mk.inj h2;rw[bz (by unfold ao.eR;rw[oh,hf];rfl)] at tD;refine gh ?_;refine GQ.bj (i+1) rfl ⟨by omega,?_⟩ ah;rw[tD];exact(df (X:=X) (E:=E1) hH).to
  ·dsimp only at hf he En;subst he En;have h2:E1.eJ k=ao.qe { E1 with s:=E1.s.drop k} x.e.n:=by
    unfold ao.eJ ao.eR;rw[if_pos oh,hf]
   rw[h2] at tD;refine gh ?_;replace hH:=df (X:=X) (E:={ E1 with s:=E1.s.drop k}) hH;refine GX.bF (hc:=fun _ hs=>Lg (fL.drop (E1.s.drop k)) x.e.k _ _ x.e.d x.e.n x.e.st (by show E1.r.K<_;omega) hs) (h:=fun w hH=>gh ?_);refine gh ?_;refine GQ.bj (i+1) rfl ⟨by omega,?_⟩ ah;rw[tD];exact hH.to
 ·obtain rfl:i=l.length:=by omega
  rw[fw (aY _)] at cX;subst cX;refine gh ?_;exact⟨rfl,hH.to⟩
def ao.meet (E:ao)(k:Bs):ao:=if E.live k=true then E else E.out [k]
theorem cm.meet {E:ao}(h:cm E)(k:Bs):cm (E.meet k)∧(E.meet k).s.K≤E.s.K+1∧(E.meet k).r.K≤E.r.K+1:=by
 unfold ao.meet;split
 ·exact⟨h,pJ _,pJ _⟩
 ·exact h.out [k]
theorem Lh {b:Nat}{E:ao}(hG:cm E)(k:Bs)(uP:E.s.K<2^58)(hK:E.r.K<2^39)(hs:Start o w [cB b E]) :
  aj prog 176 [ak b,str k].toArray w (Po o (.bool (E.live k)) [cB b (E.meet k)]):=by
 have hH:=hs.sh;refine aj.enter func176 rfl ntmps176 rfl (gh ?_);refine GX.bF (hc:=fun _ hs=>aa9 hG k hs) (h:=fun w hH=>gh ?_);unfold ao.meet;cases hl:E.live k with
 |true=>
  refine gh ?_;rw[if_pos rfl];exact⟨rfl,hH.to⟩
 |false=>
  refine gh ?_;refine GX.oF (h:=fun b1 w hH=>gh ?_);replace hH:=hH.freeze az.here;refine GX.bF (hc:=fun _ hs=>zu (q:=some b1) hG [k] rfl (show 1<2^30 by decide) uP hK hs) (h:=fun w hH=>gh ?_);refine gh ?_;rw[if_neg (by simp)];exact⟨rfl,hH.to⟩
end
section
attribute [local irreducible] GX
section
variable {P:Program}{ops:Array Oper}{Q:Exit→Act→World→Prop}{S:World→Prop}{n:Nat}
variable {i:Nat}{p:b6}{e:Env}{w:World}{dst:Option Tmp}{ty:TypeId}{pos:String}{an:Array Edge}{g:Option (Nat×Bool)}
theorem GO.Cn [Fr]{t:TypeId}{x:Operand}{b o q j:Nat}{v:Value}{cs:List Value}(hA:bN w (some ⟨b,q,none⟩) cs)(hw:aI ops e ⟨dst, .load t x,ty,pos,an,g⟩=some true:=by rfl)(hf:aC P t false 1:=by infer_instance)(hx:ev e x=some (.pointer (some ⟨b,o,none⟩)):=by rfl)(hd:fits n dst=true:=by rfl)
  (hv:cs[j]?=some v) (hj:o=q+j:=by first|rfl|omega) (h:GX P ops Q S n p (e.put dst v) w):GO P ops Q S n .aw i ⟨dst, .load t x,ty,pos,an,g⟩ p e w:=by
 subst hj;exact GO.l6 hw hx hd (At.one hA hv) h
end
attribute [local irreducible] GO
attribute [local irreducible] aB aq aS aF fz star eX
theorem Bq {w:World}{a:Option Addr}{cs:List Value}(h:bN w a cs)(hl:0<cs.length):∃b o,a=some ⟨b,o,none⟩:=by
 obtain⟨b,o,e,_⟩:=h.sC hl;exact⟨b,o,e⟩
structure dd where
 op:Int
 k:Bs
 ks:List Bs
 v:Bs
 t:List Bs
 d:Nat
 n:Nat
 tag:Bs
 pre:Bs
 ch:Bs
structure jX where
 k:Option Addr×Nat
 v:Option Addr×Nat
 t:Option Addr×Nat
abbrev lp (c:dd)(y:jX):List Value:=[iV c.op,str c.k, .slice (y.k.1) c.ks.length y.k.2, .slice (y.v.1) c.v.length y.v.2, .slice (y.t.1) c.t.length y.t.2,uV c.d,uV c.n,str c.tag,str c.pre,str c.ch]
abbrev Ds (c:dd)(y:jX):List It:=[aF (y.k.1) (aK c.ks),aF (y.v.1) (Lib.byteCells c.v),aF (y.t.1) (aK c.t)]
noncomputable def ao.del (E:ao)(k:Bs):ao:=if E.live k=true then(((E.meet k).out [k]).tick).out (cO E.g.E k) else E.meet k
theorem OF (E:ao)(l:List Bs):(E.out l).g=E.g:=by
 unfold ao.out
 induction l generalizing E with
 |nil=>rfl
 |cons k l ih=>
  rw[pL,ih];unfold ao.eJ;split<;>rfl
theorem agT (E:ao)(k:Bs):(E.meet k).g=E.g:=by
 unfold ao.meet;split
 ·rfl
 ·exact OF _ _
theorem cm.tick {E:ao}(h:cm E):cm E.tick:=⟨h.pz,h.rr,h.sG,h.nQ,h.cP,h.now,h.aR⟩
theorem aa3 {o:Og}{w:World}{b rb:Nat}{E:ao}(hG:cm E)(c:dd)(y:jX){r0 r1 r2 r3 r4 r5:Value}(uP:E.s.K<2^57)(hK:E.r.K<2^38)(BF:E.g.K<2^39)(hs:Start o w [cB b E,aB rb [r0,r1,r2,r3,r4,r5]]) :
  aj prog 116 [ak b, .agg (lp c y).toArray,ak rb].toArray w (aX o (fun _:Unit => .tuple #[]) (fun _=>E.live c.k=true→(cO E.g.E c.k).length≤65537) (fun _=>[cB b (E.del c.k),aB rb [r0,r1,r2,r3,if E.live c.k=true then iV 1 else r4,r5]])):=by
 have hH:=hs.sh;refine aj.enter func116 rfl ntmps116 rfl (gh ?_);refine GX.cI (h:=fun z w hH=>gh ?_);obtain⟨h1,h2,h3⟩:=hG.meet c.k;refine GX.bF (hc:=fun _ hs=>Lh hG c.k ah ah hs) (h:=fun w hH=>gh ?_);have Ik:=agT E c.k;unfold ao.del;cases hl:E.live c.k with
 |false=>
  refine gh ?_;rw[if_neg (by simp),if_neg (by simp)];exact⟨(),rfl,fun h=>(by cases h),hH.to⟩
 |true=>
  rw[if_pos rfl,if_pos rfl];generalize cX:E.meet c.k=E1 at hH h1 h2 h3 Ik ⊢;refine gh ?_;refine GX.oF (h:=fun b1 w hH=>gh ?_);replace hH:=hH.freeze az.here;obtain⟨k1,k2,k3⟩:=h1.out [c.k];refine GX.bF (hc:=fun _ hs=>zu (q:=some b1) h1 [c.k] rfl (show 1<2^30 by decide) ah ah hs) (h:=fun w hH=>gh ?_);have MA:(E1.out [c.k]).g=E.g:=(OF _ _).trans Ik;generalize dx:E1.out [c.k]=E2 at hH k1 k2 k3 MA ⊢;refine gh ?_;refine GX.bZ (hc:=fun _ hs=>Le (E:=E2) c.k (by rw[MA];omega) hs) (h:=?_);rintro⟨q,cc⟩ w hlen hH;replace hH:=SH.ap hH;dsimp only at hH;rw[MA] at hlen hH ⊢;replace hH:=SH.freeze (el:=9) (sz:=1) (q:=q) (n:=(cO E.g.E c.k).length) (c:=cc) (cs:=aK (cO E.g.E c.k)) hH bP;simp only[gW] at k2 k3;refine gh ?_;refine GX.bF (hc:=fun _ hs=>zu (q:=q) k1.tick (cO E.g.E c.k) rfl ah (by show E2.s.K<_;omega) (by show E2.r.K<_;omega) hs) (h:=fun w hH=>gh ?_);refine gh ?_;refine GX.dC (h:=fun w hH=>gh ?_);exact⟨(),rfl,fun _=>hlen,hH.to⟩
noncomputable def ao.yw (E:ao)(k:Bs):ao:=(E.tick.out [k]).out (cO E.g.E k)
theorem aa8 {o:Og}{w:World}{b rb:Nat}{E:ao}(hG:cm E)(c:dd)(y:jX){r0 r1 r2 r3 r4 r5:Value}(uP:E.s.K<2^57)(hK:E.r.K<2^38)(BF:E.g.K<2^39)(hs:Start o w [cB b E,aB rb [r0,r1,r2,r3,r4,r5]]) :
  aj prog 117 [ak b, .agg (lp c y).toArray,ak rb].toArray w (aX o (fun _:Unit => .tuple #[]) (fun _=>(cO E.g.E c.k).length≤65537) (fun _=>[cB b (E.yw c.k),aB rb [r0,r1,r2,r3,iV (cO E.g.E c.k).length,r5]])):=by
 have hH:=hs.sh;refine aj.enter func117 rfl ntmps117 rfl (gh ?_);refine GX.cI (h:=fun z w hH=>gh ?_);refine GX.bZ (hc:=fun _ hs=>Le (E:=E) c.k ah hs) (h:=?_);rintro⟨q,cc⟩ w hlen hH;replace hH:=SH.ap hH;dsimp only at hH;replace hH:=SH.freeze (el:=9) (sz:=1) (q:=q) (n:=(cO E.g.E c.k).length) (c:=cc) (cs:=aK (cO E.g.E c.k)) hH bP;refine gh ?_;refine GX.oF (h:=fun b1 w hH=>gh ?_);replace hH:=hH.freeze az.here;obtain⟨k1,k2,k3⟩:=hG.tick.out [c.k];refine GX.bF (hc:=fun _ hs=>zu (q:=some b1) hG.tick [c.k] rfl (show 1<2^30 by decide) (by show E.s.K<_;omega) (by show E.r.K<_;omega) hs) (h:=fun w hH=>gh ?_);unfold ao.yw;have e1:E.tick.s.K=E.s.K:=rfl;have e2:E.tick.r.K=E.r.K:=rfl;simp only[gW] at k2 k3;generalize dx:E.tick.out [c.k]=E2 at hH k1 k2 k3 ⊢;refine gh ?_;refine GX.bF (hc:=fun _ hs=>zu (q:=q) k1 (cO E.g.E c.k) rfl ah ah ah hs) (h:=fun w hH=>gh ?_);refine gh ?_;refine GX.dC (h:=fun w hH=>gh ?_);exact⟨(),rfl,hlen,hH.to⟩
def bw.oH (s:bw)(k:Bs)(t:Nat):bw:=if bf k=true then(match jq s.E k with
 |some e=>{ s with E:=dj s.E k++[{ e with d:=t}]}
 |none=>s) else s
theorem KH.eq {s:bw}{k:Bs}{t:Nat}{y:Int×bw}(h:KH s k t y):y.2=s.oH k t:=by
 unfold bw.oH
 rcases h with⟨h1,rfl⟩|⟨h1,⟨h2,rfl⟩|⟨e,h2,rfl⟩⟩
 ·rw[h1];rfl
 ·rw[if_pos h1,h2]
 ·rw[if_pos h1,h2]
def ao.oH (E:ao)(k:Bs)(d:Nat):ao:=if E.live k=true then { E.meet k with s:=(E.meet k).s.oH k (lL E.now d)} else E.meet k
theorem Wx (E:ao)(l:List Bs):(E.out l).now=E.now:=by
 unfold ao.out
 induction l generalizing E with
 |nil=>rfl
 |cons k l ih=>
  rw[pL,ih];unfold ao.eJ;split<;>rfl
theorem agU (E:ao)(k:Bs):(E.meet k).now=E.now:=by
 unfold ao.meet;split
 ·rfl
 ·exact Wx _ _
theorem abj {o:Og}{w:World}{b rb:Nat}{E:ao}(hG:cm E)(c:dd)(y:jX){r0 r1 r2 r3 r4 r5:Value}(hd:c.d≤never)(uP:E.s.K<2^57)(hK:E.r.K<2^38)(hs:Start o w [cB b E,aB rb [r0,r1,r2,r3,r4,r5]]) :
  aj prog 115 [ak b, .agg (lp c y).toArray,ak rb].toArray w (Po o (.tuple #[]) [cB b (E.oH c.k c.d),aB rb [r0,r1,r2,r3,if E.live c.k=true then iV 1 else r4,r5]]):=by
 have hH:=hs.sh;refine aj.enter func115 rfl ntmps115 rfl (gh ?_);refine GX.cI (h:=fun z w hH=>gh ?_);obtain⟨h1,h2,h3⟩:=hG.meet c.k;refine GX.bF (hc:=fun _ hs=>Lh hG c.k ah ah hs) (h:=fun w hH=>gh ?_);have j9:=agU E c.k;have uL:=hG.now;unfold ao.oH;cases hl:E.live c.k with
 |false=>
  refine gh ?_;rw[if_neg (by simp),if_neg (by simp)];exact⟨rfl,hH.to⟩
 |true=>
  rw[if_pos rfl,if_pos rfl];generalize cX:E.meet c.k=E1 at hH h1 h2 h3 j9 ⊢;refine gh ?_;obtain⟨X,hH⟩:=SH.un hH;replace hH:=SH.ap hH;dsimp only[fo] at hH;refine GC.br (pl:=(bg [0,3,6,12,18,21,24,30,10,16,28,34,38,41])) (T:=dt [b,z]) (hm:=mixed) (h:=fun w hE hH=>gh ?_);refine GX.pS (hc:=Ha E1.now c.d ah hd _) (h:=gh ?_);rw[j9];refine GX.kL (hc:=fun _ hs=>ak7 (s:=E1.s) c.k (lL E.now c.d) Ye hs) (h:=?_);rintro⟨e,s'⟩ w hT hS hH;replace hH:=SH.ap hH;have EY:=hT.eq;dsimp only at EY hH;subst EY;refine gh ?_;refine GX.dC (h:=fun w hH=>gh ?_);exact⟨rfl,(df (X:=X) (E:={ E1 with s:=E1.s.oH c.k (lL E.now c.d)}) hH).to⟩
end
section
attribute [local irreducible] GO GX aB eX fz aF aS aq star
variable {o:Og}{w:World}
noncomputable def ao.uq (E:ao)(op:Int)(p c:Bs):ao:={ E with g:=if op=11 then E.g.add p c else E.g.del p c}
noncomputable def ao.Dx (E:ao)(op:Int)(p c:Bs):Bool:=if op=11 then E.g.oS p c else E.g.zr p c
theorem aa4 {b rb:Nat}{E:ao}(c:dd)(y:jX){r0 r1 r2 r3 r4 r5:Value}(BF:E.g.K<2^39)(hs:Start o w [cB b E,aB rb [r0,r1,r2,r3,r4,r5]]) :
  aj prog 120 [ak b, .agg (lp c y).toArray,ak rb].toArray w (Po o (.tuple #[]) [cB b (E.uq c.op c.k c.ch),aB rb [r0,r1,r2,r3,if E.Dx c.op c.k c.ch=true then iV 1 else r4,r5]]):=by
 have hH:=hs.sh;obtain⟨X,hH⟩:=SH.un hH;replace hH:=SH.ap hH;dsimp only[fo] at hH;refine aj.enter func120 rfl ntmps120 rfl (gh ?_);refine GX.cI (h:=fun z w hH=>gh ?_);unfold ao.uq ao.Dx
 by_cases dA:c.op=11
 ·rw[show decide ((c.op:Int)=11)=true by simp[dA],if_pos dA,if_pos dA];refine gh ?_;refine GX.bF (hc:=fun _ hs=>Lu (A:=E.g) c.k c.ch ah hs) (h:=fun w hH=>gh ?_);cases hz:E.g.oS c.k c.ch with
  |true=>
   refine gh ?_;refine GX.dC (h:=fun w hH=>gh ?_);exact⟨rfl,(df (X:=X) (E:={ E with g:=E.g.add c.k c.ch}) hH).to⟩
  |false=>
   refine gh ?_;exact⟨rfl,(df (X:=X) (E:={ E with g:=E.g.add c.k c.ch}) hH).to⟩
 ·rw[show decide ((c.op:Int)=11)=false by simp;omega,if_neg dA,if_neg dA];refine gh ?_;refine GX.bF (hc:=fun _ hs=>acn (A:=E.g) c.k c.ch hs) (h:=fun w hH=>gh ?_);cases hz:E.g.zr c.k c.ch with
  |true=>
   refine gh ?_;refine GX.dC (h:=fun w hH=>gh ?_);exact⟨rfl,(df (X:=X) (E:={ E with g:=E.g.del c.k c.ch}) hH).to⟩
  |false=>
   refine gh ?_;exact⟨rfl,(df (X:=X) (E:={ E with g:=E.g.del c.k c.ch}) hH).to⟩
theorem W3 {l r:List It}{b:Nat}{R:gY}(hH:SH o w l)(hs:az (oE b R) l r:=by repeat(first|exact az.here|apply az.there)):R.N.length≤65536:=by
 obtain⟨⟨X,hX⟩,hH⟩:=SH.un hH hs;have aQ:SH o w (X.dS b R++r):=hH;obtain⟨⟨Y,hY⟩,_⟩:=SH.un (f:=fun Y:{ Y:vG // rH Y ⟨R.aD,R.N⟩}=>Y.1.dS X.i ⟨R.aD,R.N⟩) aQ (az.there az.here);have h1:=hY.N;have h2:=hY.ok.list;dsimp only at h1;rw[h1];simpa[dU] using h2
theorem Lf {l t:List It}{b:Nat}{X:uh}{E:ao}{S:bW}(hH:SH o w l)(hp:Pk l [aB b (fo X E),kz X.s E.s,oE X.r E.r,xo X.w E.sw.1 E.sw.2.1 E.sw.2.2,dB X.a S,ng X.p E.p,gL X.g E.g] t:=by repeat(first|exact Pk.nil|(apply Pk.cons;repeat(first|exact az.here|apply az.there)))):SH o w (cB b { E with a:=S}::t):=
 SH.fold (f:=fun X:uh=>X.dS b { E with a:=S}) X hH hp
def ao.ij (E:ao)(op:Int)(tag:Bs):bW:=if(gD E.r.N tag).2≠0 then E.a.next E.now else
 if op=9 then(E.a.next E.now).set (gD E.r.N tag).1.toNat ⟨((E.a.next E.now).A (gD E.r.N tag).1.toNat).jv,rv ((E.a.next E.now).A (gD E.r.N tag).1.toNat).soft (E.a.last+1,(E.a.next E.now).now)⟩
 else(E.a.next E.now).set (gD E.r.N tag).1.toNat ⟨E.a.last+1,[]⟩
def ao.kW (E:ao)(op:Int)(tag:Bs):ao:={ E with a:=E.ij op tag}
theorem aev {N:eF}{x:Bs}(h:(gD N x).2=0):∃n:Nat,(gD N x).1=n∧n<N.length:=by
 unfold gD at h ⊢;split at h
 ·rename_i h1
  rw[if_pos h1];split at h
  ·rename_i n hn
   exact⟨n,rfl,(y6.1 hn).1⟩
  ·cases h
 ·cases h
theorem abf {b rb:Nat}{op:Int}{E:ao}(hG:cm E)(c:dd)(y:jX){r1 r2 r3 r4 r5:Value}(hs:Start o w [cB b E,aB rb [iV op,r1,r2,r3,r4,r5]]) :
  aj prog 118 [ak b, .agg (lp c y).toArray,ak rb].toArray w (Po o (.tuple #[]) [cB b (E.kW op c.tag),aB rb [iV op,r1,r2,r3,r4,r5]]):=by
 have hH:=hs.sh;obtain⟨X,hH⟩:=SH.un hH;replace hH:=SH.ap hH;dsimp only[fo] at hH;have nA:=W3 hH;have uL:=hG.now;have cj:=hG.nQ;refine aj.enter func118 rfl ntmps118 rfl (gh ?_);refine GX.cI (h:=fun z w hH=>gh ?_);refine GC.br (pl:=(bg [0,3,6,12,10,16,20,21,24,27,30,33])) (T:=fun _=>False) (hm:=mixed) (h:=fun w hE hH=>gh ?_);refine GX.xN (hc:=fun _ hs=>Xo (R:=E.r) c.tag hs) (h:=fun w hS hH=>gh ?_);have aN:=@aev E.r.N c.tag;have Mq:E.kW op c.tag={ E with a:=E.ij op c.tag}:=rfl;rw[Mq];unfold ao.ij;generalize gD E.r.N c.tag=f at aN ⊢;obtain⟨fn,fe⟩:=f;dsimp only at aN ⊢
 by_cases he:fe=0
 ·subst he;obtain⟨n,rfl,hn⟩:=aN rfl;rw[if_neg (by simp)];refine gh ?_
  by_cases dA:op=9
  ·rw[show decide ((op:Int)=9)=true by simp[dA],if_pos dA];refine gh ?_;refine GC.br (pl:=(bg [0,3,6,12,15,18,21,10,25,29])) (T:=dt [b]) (hm:=mixed) (h:=fun w hE hH=>gh ?_);refine GX.mZ (hc:=fun _ hs=>ak2 (S:=E.a) n ah E.now uL ah hs) (h:=fun w hS hH=>gh ?_);refine⟨rfl,(Lf (X:=X) (E:=E) hH).to⟩
  ·rw[show decide ((op:Int)=9)=false by simp;omega,if_neg dA];refine gh ?_;refine GC.br (pl:=(bg [0,3,6,12,15,18,21,10,25,29])) (T:=dt [b]) (hm:=mixed) (h:=fun w hE hH=>gh ?_);refine GX.mZ (hc:=fun _ hs=>ajC (S:=E.a) n ah E.now uL ah hs) (h:=fun w hS hH=>gh ?_);refine⟨rfl,(Lf (X:=X) (E:=E) hH).to⟩
 ·rw[if_pos he,show decide (fe≠0)=true by simp[he]];refine gh ?_;refine GC.br (pl:=(bg [0,3,6,12,15,18,10,22,26])) (T:=dt [b]) (hm:=mixed) (h:=fun w hE hH=>gh ?_);refine GX.mZ (hc:=fun _ hs=>XU (S:=E.a) E.now uL ah hs) (h:=fun w hS hH=>gh ?_);refine⟨rfl,(Lf (X:=X) (E:=E) hH).to⟩
def ao.oB (E:ao)(op:Int)(pre:Bs):ao:={ E with a:=E.a.next E.now,p:=if op=14 then E.p.flush (E.a.last+1) else E.p.oA pre (E.a.last+1)}
theorem abe {b rb:Nat}{op:Int}{E:ao}(hG:cm E)(c:dd)(y:jX){r1 r2 r3 r4 r5:Value}(hl:op≠14→c.pre.length≤250)(B0:E.p.T.K<2^40)(hs:Start o w [cB b E,aB rb [iV op,r1,r2,r3,r4,r5]]) :
  aj prog 119 [ak b, .agg (lp c y).toArray,ak rb].toArray w (Po o (.tuple #[]) [cB b (E.oB op c.pre),aB rb [iV op,r1,r2,r3,r4,r5]]):=by
 have hH:=hs.sh;obtain⟨X,hH⟩:=SH.un hH;replace hH:=SH.ap hH;dsimp only[fo] at hH;have uL:=hG.now;have cj:=hG.nQ;have jy:=hG.sG;have hnv:(never:Nat)=18446744073709551615:=rfl;refine aj.enter func119 rfl ntmps119 rfl (gh ?_);refine GX.cI (h:=fun z w hH=>gh ?_);refine GC.br (pl:=(bg [0,3,6,12,15,18,10,22,26,27,30,33,36,39])) (T:=dt [b]) (hm:=mixed) (h:=fun w hE hH=>gh ?_);refine GX.mZ (hc:=fun _ hs=>XU (S:=E.a) E.now uL ah hs) (h:=fun w hS hH=>gh ?_);have Mq:E.oB op c.pre={ E with a:=E.a.next E.now,p:=if op=14 then E.p.flush (E.a.last+1) else E.p.oA c.pre (E.a.last+1)}:=rfl;rw[Mq]
 by_cases dA:op=14
 ·rw[show decide ((op:Int)=14)=true by simp[dA],if_pos dA];refine gh ?_;refine GX.bF (hc:=fun _ hs=>abo (E:=E.p) (E.a.last+1) ah B0 hs) (h:=fun w hH=>gh ?_);refine gh ?_;exact⟨rfl,(df (X:=X) (E:={ E with a:=E.a.next E.now,p:=E.p.flush (E.a.last+1)}) hH).to⟩
 ·rw[show decide ((op:Int)=14)=false by simp;omega,if_neg dA];refine gh ?_;refine GC.br (pl:=(bg [0,3,6,12,18,10,16,23])) (T:=dt [b,z]) (hm:=mixed) (h:=fun w hE hH=>gh ?_);refine GX.mZ (hc:=fun _ hs=>abt (E:=E.p) c.pre (E.a.last+1) (hl dA) ah ah B0 hs) (h:=fun w hS hH=>gh ?_);exact⟨rfl,(df (X:=X) (E:={ E with a:=E.a.next E.now,p:=E.p.oA c.pre (E.a.last+1)}) hH).to⟩
end
end Go.Proofs.YtoloaehmppcjoaaGreat.V.M
