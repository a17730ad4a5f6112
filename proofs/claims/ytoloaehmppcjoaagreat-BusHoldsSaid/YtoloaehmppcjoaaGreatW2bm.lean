/-
  Parts of the proof. No condition.
-/
import Derived.Test.YtoloaehmppcjoaaGreatW2bl
import Derived.Test.YtoloaehmppcjoaaGreatW2ax
set_option linter.unusedVariables false
set_option linter.unusedSimpArgs false
set_option maxRecDepth 8000
set_option maxHeartbeats 8000000
open Go.Proofs.Tryz
namespace Go.Proofs.YtoloaehmppcjoaaGreat.V.M
section
attribute [local irreducible] GO GX aB fz aF aS aq star
variable {o:Og}{w:World}
structure iq where
 T:sX
 fl:Nat
 last:Nat
def ng (p:Nat)(E:iq):It:=star fun t:Nat=>[aB p [ak t,uV E.fl,uV E.last],nH t E.T]
theorem Hr {l r:List It}{p t:Nat}{E:iq}(hH:SH o w l)(hp:Pk l [aB p [ak t,uV E.fl,uV E.last],nH t E.T] r:=by repeat(first|exact Pk.nil|(apply Pk.cons;repeat(first|exact az.here|apply az.there)))):SH o w (ng p E::r):=
 SH.fold (f:=fun t:Nat=>[aB p [ak t,uV E.fl,uV E.last],nH t E.T]) t hH hp
instance {p:Nat}{E:iq}:Zf (ng p E):=Zf.star fun _=>inferInstance
def FB:iq:=⟨Cr,0,0⟩
def iq.of (E:iq)(s:Bs):Nat:=max E.fl (sy E.T.P s)
def iq.oA (E:iq)(p:Bs)(n:Nat):iq:=⟨⟨fun s=>if s=p then n else if p <+: s then 0 else E.T.P s,E.T.K+1⟩,E.fl,n⟩
def iq.flush (E:iq)(n:Nat):iq:=⟨⟨fun _=>0,E.T.K⟩,n,n⟩
theorem DD {p t:Nat}{v1 v2:Value}(hs:Start o w [fz (aB p [ak t,v1,v2])]):aj prog 152 [ak p].toArray w (Po o (.bool false) []):=by
 have hH:=hs.sh;refine aj.enter func152 rfl ntmps152 rfl (gh ?_);exact⟨rfl,hH.to⟩
theorem abq (hs:Start o w []):aj prog 59 [].toArray w (aX o (fun t:Nat=>ak t) (fun _=>True) (fun p=>[ng p FB])):=by
 have hH:=hs.sh;refine aj.enter func59 rfl ntmps59 rfl (gh ?_);refine GX.bZ (hc:=fun _ hs=>Yj hs) (h:=?_);rintro t w _ hH;replace hH:=SH.ap hH;refine gh ?_;refine GX.cI (h:=fun p w hH=>gh ?_);exact⟨p,rfl,trivial,(Hr (E:=FB) hH).to⟩
theorem abt {p:Nat}{E:iq}(s:Bs)(n:Nat)(hl:s.length≤250)(hn:E.last<n)(ic:n≤never)(hK:E.T.K<2^40)(hs:Start o w [ng p E]) :
  aj prog 184 [ak p,str s,uV n].toArray w (Po o (iV 0) [ng p (E.oA s n)]):=by
 have hH:=hs.sh;obtain⟨t,hH⟩:=SH.un hH;replace hH:=SH.ap hH;refine aj.enter func184 rfl ntmps184 rfl (gh ?_);refine GX.aM (hc:=fun _ hs=>DD hs) (h:=fun w hE hH=>gh ?_);refine GX.da (Fq s _) rfl rfl rfl rfl rfl rfl (gh ?_);rw[b8 hl];refine gh ?_;rw[show decide ((n:Int)≤(E.last:Int))=false by simp;omega];refine gh ?_;refine GX.bZ (hc:=fun _ hs=>Yh s hl hK hs) (h:=?_);rintro m w _ hH;replace hH:=SH.ap hH;refine gh ?_;refine GX.bF (hc:=fun _ hs=>Yl (A:=⟨fun x=>if s <+: x then 0 else E.T.P x,E.T.K⟩) s n hl ah ic hK hs) (h:=fun w hH=>gh ?_);refine GX.dC (h:=fun w hH=>gh ?_);refine⟨rfl,(Hr (E:=E.oA s n) hH).to⟩
theorem abo {p:Nat}{E:iq}(n:Nat)(hn:E.last<n)(hK:E.T.K<2^40)(hs:Start o w [ng p E]) :
  aj prog 183 [ak p,uV n].toArray w (Po o (iV 0) [ng p (E.flush n)]):=by
 have hH:=hs.sh;obtain⟨t,hH⟩:=SH.un hH;replace hH:=SH.ap hH;refine aj.enter func183 rfl ntmps183 rfl (gh ?_);refine GX.aM (hc:=fun _ hs=>DD hs) (h:=fun w hE hH=>gh ?_);rw[show decide ((n:Int)≤(E.last:Int))=false by simp;omega];refine gh ?_;refine GX.bZ (hc:=fun _ hs=>Yh [] (bh _) hK hs) (h:=?_);rintro m w _ hH;replace hH:=SH.ap hH;refine gh ?_;refine GX.dC (h:=fun w hH=>gh ?_);refine GX.dC (h:=fun w hH=>gh ?_);rw[show(fun s:Bs=>if[] <+: s then 0 else E.T.P s)=fun _=>0 by funext s;rw[if_pos List.nil_prefix]] at hH;refine⟨rfl,(Hr (E:=E.flush n) hH).to⟩
theorem abr {p:Nat}{E:iq}(s:Bs)(hl:s.length≤250)(hs:Start o w [fz (ng p E)]) :
  aj prog 157 [ak p,str s].toArray w (Po o (uV (E.of s)) []):=by
 have hH:=hs.sh;obtain⟨t,hH⟩:=SH.dV hH;replace hH:=SH.ed hH;refine aj.enter func157 rfl ntmps157 rfl (gh ?_);refine GX.aM (hc:=fun _ hs=>DD hs) (h:=fun w hE hH=>gh ?_);refine GX.da (Fq s _) rfl rfl rfl rfl rfl rfl (gh ?_);rw[b8 hl];refine gh ?_;refine GC.br (pl:=(bg [0,3,6,12,15,18,24,10,22,29,30,33])) (T:=fun _=>False) (hm:=mixed) (h:=fun w hE hH=>gh ?_);refine GX.xN (hc:=fun _ hs=>alS s hl hs) (h:=fun w hS hH=>gh ?_);have e9:uV (E.of s) = .int .u64 (if((sy E.T.P s:Nat):Int) > ((E.fl:Nat):Int) then((sy E.T.P s:Nat):Int) else((E.fl:Nat):Int)):=by
  unfold uV iq.of;congr 1;split<;>omega
 rw[e9];exact⟨rfl,hH.to⟩
theorem abp {p:Nat}{E:iq}(s:Bs)(n:Nat)(hl:s.length≤250)(hs:Start o w [fz (ng p E)]) :
  aj prog 93 [ak p,str s,uV n].toArray w (Po o (.bool (decide (E.of s≤n))) []):=by
 have hH:=hs.sh;have tB:=fun {o:Og}{w:World}(hs:Start o w [fz (ng p E)])=>abr s hl hs
 have ia:=hH.Ld (x:=ng p E);obtain⟨t,ia⟩:=SH.dV ia;replace ia:=SH.ed ia;replace hH:=ia;refine aj.enter func93 rfl ntmps93 rfl (gh ?_);refine GX.aM (hc:=fun _ hs=>DD hs) (h:=fun w hE hH=>gh ?_);refine GX.aM (hc:=fun _ hs=>tB hs) (h:=fun w hE hH=>gh ?_);refine⟨?_,hH.to⟩;congr 1;exact vw.2 ah
theorem abn {p:Nat}{E:iq}(hK:E.T.K<2^40)(hs:Start o w [fz (ng p E)]) :
  aj prog 90 [ak p].toArray w (aX o ak (fun _=>True) (fun c=>[ng c E])):=by
 have hH:=hs.sh;obtain⟨t,hH⟩:=SH.dV hH;replace hH:=SH.ed hH;refine aj.enter func90 rfl ntmps90 rfl (gh ?_);refine GX.aM (hc:=fun _ hs=>DD hs) (h:=fun w hE hH=>gh ?_);refine GC.br (pl:=(bg [0,3,6,15,18,21,27,30,33,10,25,37,14,39,44,45])) (T:=fun _=>False) (hm:=mixed) (h:=fun w hE hH=>gh ?_);refine GX.eG (hc:=fun _ hs=>alP hK hs) (h:=?_);rintro tc w _ hS hH;replace hH:=SH.ap hH;refine gh ?_;refine GX.oW (h:=fun c w hS hH=>gh ?_);exact⟨c,rfl,trivial,(Hr (E:=E) hH).to⟩
def xo (s n i r:Nat):It:=aB s [iV n,iV i,uV r]
instance {s n i r:Nat}:Zf (xo s n i r):=by unfold xo;infer_instance
theorem alw (hs:Start o w []):aj prog 58 [].toArray w (aX o (fun t:Nat=>ak t) (fun _=>True) (fun p=>[xo p 0 0 0])):=by
 have hH:=hs.sh;refine aj.enter func58 rfl ntmps58 rfl (gh ?_);refine GX.cI (h:=fun p w hH=>gh ?_);exact⟨p,rfl,trivial,hH.to⟩
theorem alv {s n i r:Nat}(hs:Start o w [fz (xo s n i r)]):aj prog 88 [ak s].toArray w (aX o (fun t:Nat=>ak t) (fun _=>True) (fun p=>[xo p n i r])):=by
 have hH:=hs.sh;unfold xo at hH;refine aj.enter func88 rfl ntmps88 rfl (gh ?_);refine GX.cA (h:=fun c w hH=>gh ?_);refine GX.bt (h:=fun w hH=>gh ?_);exact⟨c,rfl,trivial,hH.to⟩
end
section
attribute [local irreducible] GO GX
open Classical in
theorem Xv {L:Type}{w:World}{Z:Nat→Prop}:∀{l:List (L×It)}{F:Nat→Prop},Sep w Z (l.map (·.2)) F→∃ow:Nat→Option L,(∀b,ow b≠none↔F b)∧∀p x,(p,x)∈l→∃F1,x.ok w Z F1∧∀b,F1 b→ow b=some p
 | [],F,h=>⟨fun _=>none,fun b=>by rw[show F=fun _=>False from h];simp,fun _ _ h=>by cases h⟩
 |(p,x)::l,_,⟨F1,F2,e,hd,h1,h2⟩=>by
  obtain⟨ow,k1,k2⟩:=Xv h2;subst e;refine⟨fun b=>if F1 b then some p else ow b,fun b=>?_,fun p' x' hm=>?_⟩
  ·by_cases h:F1 b
   ·simp[h]
   ·simp only[h,if_false,false_or];exact k1 b
  ·rcases bU.1 hm with hm|hm
   ·cases hm;exact⟨F1,h1,fun b hb=>if_pos hb⟩
   ·obtain⟨F3,q1,q2⟩:=k2 p' x' hm;refine⟨F3,q1,fun b hb=>?_⟩;have vS:F2 b:=(k1 b).1 (by rw[q2 b hb];simp);show(if F1 b then some p else ow b)=_;rw[if_neg (fun h=>hd b h vS)];exact q2 b hb
theorem Uw {L:Type}{w:World}{Z:Nat→Prop}{ow:Nat→Option L}:∀{l:List (L×It)},(l.map (·.1)).Nodup→(∀p x,(p,x)∈l→∃F1,x.ok w Z F1∧∀b,F1 b→ow b=some p)→∃F,Sep w Z (l.map (·.2)) F∧∀b,F b→∃p∈l.map (·.1),ow b=some p
 | [],_,_=>⟨fun _=>False,rfl,fun _ h=>h.elim⟩
 |(p,x)::l,hn,h=>by
  rw[cJ,eQ] at hn;obtain⟨F2,k1,k2⟩:=Uw hn.2 fun p' x' hm=>h p' x' (fP _ hm)
  obtain⟨F1,q1,q2⟩:=h p x (by simp);refine⟨fun b=>F1 b∨F2 b,⟨F1,F2,rfl,fun b h1 h2=>?_,q1,k1⟩,fun b hb=>?_⟩
  ·obtain⟨p',z7,e⟩:=k2 b h2;rw[q2 b h1] at e;cases e;exact hn.1 z7
  ·rcases hb with hb|hb
   ·exact⟨p,by simp,q2 b hb⟩
   ·obtain⟨p',z7,e⟩:=k2 b hb;exact⟨p',by rw[cJ];exact fP _ z7,e⟩
structure Nx where
 b:Nat
 q1:Option Nat×Nat
 q2:Option Nat×Nat
def u9 (m:Nx)(x:Nd):List Value:=[str x.key, .slice (aA m.q1.1) x.down.length m.q1.2, .slice (aA m.q2.1) x.up.length m.q2.2,iV x.mark]
def nB (m:Nx)(x:Nd):It:=aB m.b (u9 m x)
def nf (m:Nx)(x:Nd):It:=aq 3 1 m.q1.1 x.down.length m.q1.2 (aG x.down)
def nI (m:Nx)(x:Nd):It:=aq 3 1 m.q2.1 x.up.length m.q2.2 (aG x.up)
def yG (m:Nx)(x:Nd):List It:=[nB m x,nf m x,nI m x]
def sA (M:List Nx)(L:List Nd):List It:=(List.zipWith yG M L).flatten
def jC:Nat→List Nx→List Nd→List (Lb×It)
 |i,m::M,x::L=>(.nd i,nB m x)::(.dn i,nf m x)::(.up i,nI m x)::jC (i+1) M L
 |_,_,_=>[]
theorem Ov:∀(i:Nat) (M:List Nx) (L:List Nd),(jC i M L).map (·.2)=sA M L
 |i,m::M,x::L=>by simp only[jC,cJ,Ov (i+1) M L];rfl
 |_,[],_=>by simp[jC,sA]
 |_,_::_,[]=>by simp[jC,sA]
def Aq:Lb→Nat
 |.nd i=>i+1
 |.dn i=>i+1
 |.up i=>i+1
 |_=>0
theorem Ou:∀(i:Nat) (M:List Nx) (L:List Nd) p,p∈(jC i M L).map (·.1)→i+1≤Aq p
 |i,m::M,x::L,p,h=>by
  simp only[jC,cJ,bU] at h
  rcases h with rfl|rfl|rfl|h
  ·exact aY _
  ·exact aY _
  ·exact aY _
  ·have:=Ou (i+1) M L p h;omega
 |_,[],_,p,h=>by simp[jC] at h
 |_,_::_,[],p,h=>by simp[jC] at h
theorem Wk:∀(i:Nat) (M:List Nx) (L:List Nd),((jC i M L).map (·.1)).Nodup
 |i,m::M,x::L=>by
  have h:=Ou (i+1) M L;simp only[jC,cJ,eQ,bU];refine⟨fun k=>?_,fun k=>?_,fun k=>?_,Wk (i+1) M L⟩
  ·rcases k with k|k|k
   ·cases k
   ·cases k
   ·have:=h _ k;simp[Aq] at this;omega
  ·rcases k with k|k
   ·cases k
   ·have:=h _ k;simp[Aq] at this;omega
  ·have:=h _ k;simp[Aq] at this;omega
 |_,[],_=>by simp[jC]
 |_,_::_,[]=>by simp[jC]
theorem Wi:∀(i:Nat) {M:List Nx}{L:List Nd}{j:Nat}{m:Nx}{x:Nd},M[j]?=some m→L[j]?=some x→(Lb.nd (i+j),nB m x)∈jC i M L∧(Lb.dn (i+j),nf m x)∈jC i M L∧(Lb.up (i+j),nI m x)∈jC i M L
 |i,m0::M,x0::L,0,m,x,h1,h2=>by
  simp at h1 h2;subst h1 h2;simp[jC]
 |i,m0::M,x0::L,j+1,m,x,h1,h2=>by
  obtain⟨k1,k2,k3⟩:=Wi (i+1) (M:=M) (L:=L) (j:=j) (by simpa using h1) (by simpa using h2);rw[show i+1+j=i+(j+1) by omega] at k1 k2 k3;simp only[jC,bU];exact⟨.inr (.inr (.inr k1)), .inr (.inr (.inr k2)), .inr (.inr (.inr k3))⟩
 |_,[],_,_,_,_,h,_=>by simp at h
 |_,_::_,[],_,_,_,_,h=>by simp at h
theorem Wj:∀(i:Nat) {M:List Nx}{L:List Nd}{p:Lb}{x:It},(p,x)∈jC i M L→∃j m y,M[j]?=some m∧L[j]?=some y∧((p = .nd (i+j)∧x=nB m y)∨(p = .dn (i+j)∧x=nf m y)∨(p = .up (i+j)∧x=nI m y))
 |i,m0::M,x0::L,p,x,h=>by
  simp only[jC,bU,oI] at h
  rcases h with h|h|h|h
  ·exact⟨0,m0,x0,rfl,rfl, .inl h⟩
  ·exact⟨0,m0,x0,rfl,rfl, .inr (.inl h)⟩
  ·exact⟨0,m0,x0,rfl,rfl, .inr (.inr h)⟩
  ·obtain⟨j,m,y,h1,h2,h3⟩:=Wj (i+1) h;rw[show i+1+j=i+(j+1) by omega] at h3;exact⟨j+1,m,y,by simpa using h1,by simpa using h2,h3⟩
 |_,[],_,_,_,h=>by simp[jC] at h
 |_,_::_,[],_,_,h=>by simp[jC] at h
structure vF where
 q:Option Nat×Nat
 cb:Nat
 cc:Nat
 M:List Nx
def Bv (G:Gr)(X:vF):List Value:=[iV G.cM,iV G.dg,uV G.aJ, .slice (aA X.q.1) G.list.length X.q.2, .slice (some ⟨X.cb,0,none⟩) G.cells.length X.cc,iV G.cp,iV G.cW]
abbrev Bt (G:Gr)(X:vF):It:=aq 266 1 X.q.1 G.list.length X.q.2 (bq (X.M.map (·.b)))
abbrev Bu (G:Gr)(X:vF):It:=aq 3 1 (some X.cb) G.cells.length X.cc (aG G.cells)
abbrev DI (g:Nat)(G:Gr)(X:vF):List It:=[aB g (Bv G X),Bt G X,Bu G X,bJ (sA X.M G.list)]
def jr (g:Nat)(G:Gr):It:=star fun X:{ X:vF // X.M.length=G.list.length}=>DI g G X.1
theorem grL (g:Nat)(G:Gr)(X:vF){w:World}{Z F:Nat→Prop}(h:Sep w Z (DI g G X) F):Sep w Z (((Lb.top,aB g (Bv G X))::(Lb.arr,Bt G X)::(Lb.jO,Bu G X)::jC 0 X.M G.list).map (·.2)) F:=by
 obtain⟨F1,F2,rfl,d1,h1,F3,F4,rfl,d2,h2,F5,F6,rfl,d3,h3,F7,F8,e,d4,⟨_,h4⟩,h5⟩:=h;have e8:F8=fun _=>False:=h5
 subst e8;have e6:F6=F7:=by rw[e];funext b;simp
 subst e6;simp only[cJ,Ov];exact⟨F1,_,rfl,d1,h1,F3,_,rfl,d2,h2,F5,_,rfl,d3,h3,h4⟩
theorem Lt {g:Nat}{G:Gr}{w:World}{Z F:Nat→Prop}(h:(jr g G).ok w Z F):∃ow ol al cl cb cc bs,GM w g G ow ol al cl cb cc bs∧∀b,ow b≠none↔F b:=by
 obtain⟨⟨X,hX⟩,h⟩:=h;have h':=grL g G X h;obtain⟨ow,k1,k2⟩:=Xv h';obtain⟨T1,⟨t1,rfl⟩,t2⟩:=k2 .top (aB g (Bv G X)) (by simp);obtain⟨A1,⟨a1,rfl⟩,a2⟩:=k2 .arr (Bt G X) (by simp);obtain⟨C1,⟨c1,rfl⟩,c2⟩:=k2 .jO (Bu G X) (by simp);refine⟨ow,X.q.1,aA X.q.1,X.q.2,X.cb,X.cc,X.M.map (·.b),⟨t1,t2 g rfl,a1,fun b hb=>a2 b hb,fun e=>by rw[e];rfl,c1,c2 _ rfl,by simpa using hX,fun i b x hb hx=>?_,fun b hb=>?_⟩,k1⟩
 ·rw[gG] at hb;cases hm:X.M[i]? with
  |none=>rw[hm] at hb;cases hb
  |some m=>
   rw[hm] at hb;cases hb;obtain⟨m1,m2,m3⟩:=Wi 0 hm hx;rw[dz] at m1 m2 m3;obtain⟨N1,⟨n1,rfl⟩,n2⟩:=k2 (.nd i) (nB m x) (by simp[m1]);obtain⟨D1,⟨d1,rfl⟩,d2⟩:=k2 (.dn i) (nf m x) (by simp[m2]);obtain⟨U1,⟨u1,rfl⟩,u2⟩:=k2 (.up i) (nI m x) (by simp[m3]);exact⟨_,_,n1,n2 _ rfl,⟨_,_,_,rfl,d1,fun b hb=>d2 b hb,fun e=>by rw[e];rfl⟩,⟨_,_,_,rfl,u1,fun b hb=>u2 b hb,fun e=>by rw[e];rfl⟩⟩
 ·exact Sep.lt h ((k1 b).1 hb)
theorem Yg {g:Nat}{G:Gr}{w:World}{ow:Nat→Option Lb}{ol:Option Nat}{al:Option Addr}{cl cb cc:Nat}{bs:List Nat}(h:GM w g G ow ol al cl cb cc bs)(Z:Nat→Prop):∃F,(jr g G).ok w Z F∧∀b,F b→ow b≠none:=by
 have cj:=wW h.arr h.mO;subst cj;have Tl:∀i,i<G.list.length→∃m:Nx,∃x,G.list[i]?=some x∧bs[i]?=some m.b∧cE w m.b (u9 m x)∧ow m.b=some (.nd i)∧aH w 3 1 m.q1.1 (aA m.q1.1) x.down.length m.q1.2 (aG x.down)∧(∀b,m.q1.1=some b→ow b=some (.dn i))∧aH w 3 1 m.q2.1 (aA m.q2.1) x.up.length m.q2.2 (aG x.up)∧(∀b,m.q2.1=some b→ow b=some (.up i)):=fun i hi=>by
  have hx:G.list[i]?=some G.list[i]:=by simp[hi]
  have hb:bs[i]?=some (bs[i]'(by have:=h.len;omega)):=by simp
  obtain⟨v1,v2,n1,n2,⟨o1,a1,c1,rfl,s1,s2,s3⟩,⟨o2,a2,c2,rfl,u1,u2,u3⟩⟩:=h.node i _ _ hb hx;have e1:=wW s1 s3;have e2:=wW u1 u3;subst e1 e2;exact⟨⟨_,(o1,c1),(o2,c2)⟩,_,hx,hb,n1,n2,s1,s2,u1,u2⟩
 obtain⟨M,vW,mC⟩:∃M:List Nx,M.length=G.list.length∧∀i m,M[i]?=some m→∃x,G.list[i]?=some x∧bs[i]?=some m.b∧cE w m.b (u9 m x)∧ow m.b=some (.nd i)∧aH w 3 1 m.q1.1 (aA m.q1.1) x.down.length m.q1.2 (aG x.down)∧(∀b,m.q1.1=some b→ow b=some (.dn i))∧aH w 3 1 m.q2.1 (aA m.q2.1) x.up.length m.q2.2 (aG x.up)∧(∀b,m.q2.1=some b→ow b=some (.up i)):=by
  refine⟨(List.range G.list.length).attach.map fun i=>Classical.choose (Tl i.1 (tY.1 i.2)),by simp,fun i m hm=>?_⟩;rw[gG] at hm;obtain⟨⟨j,hj⟩,BJ,rfl⟩:=y5.1 hm;have gB:j=i:=by
   have h1:((List.range G.list.length).attach.map (·.1))[i]?=some j:=by rw[gG,BJ];rfl
   rw[List.attach_map_subtype_val] at h1;obtain⟨h2,h3⟩:=aV.1 h1;simpa using h3.symm
  subst gB;exact Classical.choose_spec (Tl j (tY.1 hj))
 have hbs:M.map (·.b)=bs:=by
  apply pB;intro i;rw[gG];cases hm:M[i]? with
  |none=>
   have h1:=List.getElem?_eq_none_iff.1 hm;rw[pH (by have:=h.len;omega)];rfl
  |some m=>
   obtain⟨x,_,h2,_⟩:=mC i m hm;rw[h2];rfl
 obtain⟨F,k1,k2⟩:=Uw (w:=w) (Z:=Z) (ow:=ow) (l:=(Lb.top,aB g (Bv G ⟨(ol,cl),cb,cc,M⟩))::(Lb.arr,Bt G ⟨(ol,cl),cb,cc,M⟩)::(Lb.jO,Bu G ⟨(ol,cl),cb,cc,M⟩)::jC 0 M G.list) (by
   have h0:=Ou 0 M G.list;simp only[cJ,eQ,bU];refine⟨fun k=>?_,fun k=>?_,fun k=>?_,Wk 0 M G.list⟩
   ·rcases k with k|k|k
    ·cases k
    ·cases k
    ·have:=h0 _ k;simp[Aq] at this
   ·rcases k with k|k
    ·cases k
    ·have:=h0 _ k;simp[Aq] at this
   ·have:=h0 _ k;simp[Aq] at this) fun p x hm=>by
  simp only[bU,oI] at hm
  rcases hm with⟨rfl,rfl⟩|⟨rfl,rfl⟩|⟨rfl,rfl⟩|hm
  ·exact⟨_,⟨h.top,rfl⟩,fun b hb=>by cases hb;exact h.fN⟩
  ·exact⟨_,⟨by rw[hbs];exact h.arr,rfl⟩,fun b hb=>h.iT b hb⟩
  ·exact⟨_,⟨h.jO,rfl⟩,fun b hb=>by cases hb;exact h.nD⟩
  ·obtain⟨j,m,y,q1,q2,q3⟩:=Wj 0 hm;rw[dz] at q3;obtain⟨x',r1,_,r3,r4,r5,r6,r7,r8⟩:=mC j m q1;rw[q2] at r1;cases r1
   rcases q3 with⟨rfl,rfl⟩|⟨rfl,rfl⟩|⟨rfl,rfl⟩
   ·exact⟨_,⟨r3,rfl⟩,fun b hb=>by cases hb;exact r4⟩
   ·exact⟨_,⟨r5,rfl⟩,fun b hb=>r6 b hb⟩
   ·exact⟨_,⟨r7,rfl⟩,fun b hb=>r8 b hb⟩
 simp only[cJ,Ov] at k1;obtain⟨F1,F2,e1,d1,h1,F3,F4,e2,d2,h2,F5,F6,e3,d3,h3,h4⟩:=k1;refine⟨F,⟨⟨⟨(ol,cl),cb,cc,M⟩,vW⟩,F1,F2,e1,d1,h1,F3,F4,e2,d2,h2,F5,F6,e3,d3,h3,F6,fun _=>False,by simp,fun _ _ h=>h,⟨(),h4⟩,rfl⟩,fun b hb=>?_⟩;obtain⟨p,_,e⟩:=k2 b hb;rw[e];simp
end
end Go.Proofs.YtoloaehmppcjoaaGreat.V.M
