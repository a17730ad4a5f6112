/-
  Parts of the proof. No condition.
-/
import Derived.Test.YtmlpbmgfmnmmmaaGreatW2bn
import Derived.Test.YtmlpbmgfmnmmmaaGreatW2ay
set_option linter.unusedVariables false
set_option linter.unusedSimpArgs false
set_option maxRecDepth 8000
set_option maxHeartbeats 8000000
open Go.Proofs.Tryz
namespace Go.Proofs.YtmlpbmgfmnmmmaaGreat.V.M
section
attribute [local irreducible] GO GX aA fz aF aQ ao star
variable {o:Og}{w:World}
structure jG where
 T:sE
 fl:Nat
 last:Nat
def mQ (p:Nat)(E:jG):It:=star fun t:Nat=>[aA p [ak t,uV E.fl,uV E.last],nu t E.T]
theorem Ho {l r:List It}{p t:Nat}{E:jG}(hH:SH o w l)(hp:Pk l [aA p [ak t,uV E.fl,uV E.last],nu t E.T] r:=by repeat(first|exact Pk.nil|(apply Pk.cons;repeat(first|exact aB.here|apply aB.there)))):SH o w (mQ p E::r):=
 SH.fold (f:=fun t:Nat=>[aA p [ak t,uV E.fl,uV E.last],nu t E.T]) t hH hp
instance {p:Nat}{E:jG}:Zf (mQ p E):=Zf.star fun _=>inferInstance
def Oc:jG:=⟨Cv,0,0⟩
def jG.of (E:jG)(s:Bs):Nat:=max E.fl (wB E.T.P s)
def jG.uX (E:jG)(p:Bs)(n:Nat):jG:=⟨⟨fun s=>if s=p then n else if p <+: s then 0 else E.T.P s,E.T.K+1⟩,E.fl,n⟩
def jG.flush (E:jG)(n:Nat):jG:=⟨⟨fun _=>0,E.T.K⟩,n,n⟩
theorem DA {p t:Nat}{v1 v2:Value}(hs:Start o w [fz (aA p [ak t,v1,v2])]):aj prog 128 [ak p].toArray w (Po o (.bool false) []):=by
 have hH:=hs.sh;refine aj.enter func128 rfl ntmps128 rfl (gh ?_);exact⟨rfl,hH.to⟩
theorem abm (hs:Start o w []):aj prog 38 [].toArray w (aU o (fun t:Nat=>ak t) (fun _=>True) (fun p=>[mQ p Oc])):=by
 have hH:=hs.sh;refine aj.enter func38 rfl ntmps38 rfl (gh ?_);refine GX.bS (hc:=fun _ hs=>Yi hs) (h:=?_);rintro t w _ hH;replace hH:=SH.ap hH;refine gh ?_;refine GX.cw (h:=fun p w hH=>gh ?_);exact⟨p,rfl,trivial,(Ho (E:=Oc) hH).to⟩
theorem abo {p:Nat}{E:jG}(s:Bs)(n:Nat)(hl:s.length≤250)(hn:E.last<n)(jS:n≤never)(hK:E.T.K<2^40)(hs:Start o w [mQ p E]) :
  aj prog 159 [ak p,str s,uV n].toArray w (Po o (iV 0) [mQ p (E.uX s n)]):=by
 have hH:=hs.sh;obtain⟨t,hH⟩:=SH.un hH;replace hH:=SH.ap hH;refine aj.enter func159 rfl ntmps159 rfl (gh ?_);refine GX.aL (hc:=fun _ hs=>DA hs) (h:=fun w hE hH=>gh ?_);refine GX.da (Fg s _) rfl rfl rfl rfl rfl rfl (gh ?_);rw[bQ hl];refine gh ?_;rw[show decide ((n:Int)≤(E.last:Int))=false by simp;omega];refine gh ?_;refine GX.bS (hc:=fun _ hs=>Yg s hl hK hs) (h:=?_);rintro m w _ hH;replace hH:=SH.ap hH;refine gh ?_;refine GX.bz (hc:=fun _ hs=>Yj (A:=⟨fun x=>if s <+: x then 0 else E.T.P x,E.T.K⟩) s n hl ah jS hK hs) (h:=fun w hH=>gh ?_);refine GX.dw (h:=fun w hH=>gh ?_);refine⟨rfl,(Ho (E:=E.uX s n) hH).to⟩
theorem abk {p:Nat}{E:jG}(n:Nat)(hn:E.last<n)(hK:E.T.K<2^40)(hs:Start o w [mQ p E]) :
  aj prog 158 [ak p,uV n].toArray w (Po o (iV 0) [mQ p (E.flush n)]):=by
 have hH:=hs.sh;obtain⟨t,hH⟩:=SH.un hH;replace hH:=SH.ap hH;refine aj.enter func158 rfl ntmps158 rfl (gh ?_);refine GX.aL (hc:=fun _ hs=>DA hs) (h:=fun w hE hH=>gh ?_);rw[show decide ((n:Int)≤(E.last:Int))=false by simp;omega];refine gh ?_;refine GX.bS (hc:=fun _ hs=>Yg [] (bh _) hK hs) (h:=?_);rintro m w _ hH;replace hH:=SH.ap hH;refine gh ?_;refine GX.dw (h:=fun w hH=>gh ?_);refine GX.dw (h:=fun w hH=>gh ?_);rw[show(fun s:Bs=>if[] <+: s then 0 else E.T.P s)=fun _=>0 by funext s;rw[if_pos List.nil_prefix]] at hH;refine⟨rfl,(Ho (E:=E.flush n) hH).to⟩
theorem abn {p:Nat}{E:jG}(s:Bs)(hl:s.length≤250)(hs:Start o w [fz (mQ p E)]) :
  aj prog 133 [ak p,str s].toArray w (Po o (uV (E.of s)) []):=by
 have hH:=hs.sh;obtain⟨t,hH⟩:=SH.dQ hH;replace hH:=SH.dW hH;refine aj.enter func133 rfl ntmps133 rfl (gh ?_);refine GX.aL (hc:=fun _ hs=>DA hs) (h:=fun w hE hH=>gh ?_);refine GX.da (Fg s _) rfl rfl rfl rfl rfl rfl (gh ?_);rw[bQ hl];refine gh ?_;refine GC.bq (pl:=(aZ [0,3,6,12,15,18,24,10,22,29,30,33])) (T:=fun _=>False) (hm:=mixed) (h:=fun w hE hH=>gh ?_);refine GX.xF (hc:=fun _ hs=>alY s hl hs) (h:=fun w hS hH=>gh ?_);have e9:uV (E.of s) = .int .u64 (if((wB E.T.P s:Nat):Int) > ((E.fl:Nat):Int) then((wB E.T.P s:Nat):Int) else((E.fl:Nat):Int)):=by
  unfold uV jG.of;congr 1;split<;>omega
 rw[e9];exact⟨rfl,hH.to⟩
theorem abl {p:Nat}{E:jG}(s:Bs)(n:Nat)(hl:s.length≤250)(hs:Start o w [fz (mQ p E)]) :
  aj prog 71 [ak p,str s,uV n].toArray w (Po o (.bool (decide (E.of s≤n))) []):=by
 have hH:=hs.sh;have sV:=fun {o:Og}{w:World}(hs:Start o w [fz (mQ p E)])=>abn s hl hs
 have gO:=hH.K0 (x:=mQ p E);obtain⟨t,gO⟩:=SH.dQ gO;replace gO:=SH.dW gO;replace hH:=gO;refine aj.enter func71 rfl ntmps71 rfl (gh ?_);refine GX.aL (hc:=fun _ hs=>DA hs) (h:=fun w hE hH=>gh ?_);refine GX.aL (hc:=fun _ hs=>sV hs) (h:=fun w hE hH=>gh ?_);refine⟨?_,hH.to⟩;congr 1;exact tA.2 ah
theorem abj {p:Nat}{E:jG}(hK:E.T.K<2^40)(hs:Start o w [fz (mQ p E)]) :
  aj prog 68 [ak p].toArray w (aU o ak (fun _=>True) (fun c=>[mQ c E])):=by
 have hH:=hs.sh;obtain⟨t,hH⟩:=SH.dQ hH;replace hH:=SH.dW hH;refine aj.enter func68 rfl ntmps68 rfl (gh ?_);refine GX.aL (hc:=fun _ hs=>DA hs) (h:=fun w hE hH=>gh ?_);refine GC.bq (pl:=(aZ [0,3,6,15,18,21,27,30,33,10,25,37,14,39,44,45])) (T:=fun _=>False) (hm:=mixed) (h:=fun w hE hH=>gh ?_);refine GX.ew (hc:=fun _ hs=>alV hK hs) (h:=?_);rintro tc w _ hS hH;replace hH:=SH.ap hH;refine gh ?_;refine GX.nJ (h:=fun c w hS hH=>gh ?_);exact⟨c,rfl,trivial,(Ho (E:=E) hH).to⟩
def wY (s n i r:Nat):It:=aA s [iV n,iV i,uV r]
instance {s n i r:Nat}:Zf (wY s n i r):=by unfold wY;infer_instance
theorem alE (hs:Start o w []):aj prog 37 [].toArray w (aU o (fun t:Nat=>ak t) (fun _=>True) (fun p=>[wY p 0 0 0])):=by
 have hH:=hs.sh;refine aj.enter func37 rfl ntmps37 rfl (gh ?_);refine GX.cw (h:=fun p w hH=>gh ?_);exact⟨p,rfl,trivial,hH.to⟩
theorem alD {s n i r:Nat}(hs:Start o w [fz (wY s n i r)]):aj prog 66 [ak s].toArray w (aU o (fun t:Nat=>ak t) (fun _=>True) (fun p=>[wY p n i r])):=by
 have hH:=hs.sh;unfold wY at hH;refine aj.enter func66 rfl ntmps66 rfl (gh ?_);refine GX.cm (h:=fun c w hH=>gh ?_);refine GX.bc (h:=fun w hH=>gh ?_);exact⟨c,rfl,trivial,hH.to⟩
end
section
attribute [local irreducible] GO GX
open Classical in
theorem Xt {L:Type}{w:World}{Z:Nat→Prop}:∀{l:List (L×It)}{F:Nat→Prop},Sep w Z (l.map (·.2)) F→∃ow:Nat→Option L,(∀b,ow b≠none↔F b)∧∀p x,(p,x)∈l→∃F1,x.ok w Z F1∧∀b,F1 b→ow b=some p
 | [],F,h=>⟨fun _=>none,fun b=>by rw[show F=fun _=>False from h];simp,fun _ _ h=>by cases h⟩
 |(p,x)::l,_,⟨F1,F2,e,hd,h1,h2⟩=>by
  obtain⟨ow,k1,k2⟩:=Xt h2;subst e;refine⟨fun b=>if F1 b then some p else ow b,fun b=>?_,fun p' x' hm=>?_⟩
  ·by_cases h:F1 b
   ·simp[h]
   ·simp only[h,if_false,false_or];exact k1 b
  ·rcases bY.1 hm with hm|hm
   ·cases hm;exact⟨F1,h1,fun b hb=>if_pos hb⟩
   ·obtain⟨F3,q1,q2⟩:=k2 p' x' hm;refine⟨F3,q1,fun b hb=>?_⟩;have vL:F2 b:=(k1 b).1 (by rw[q2 b hb];simp);show(if F1 b then some p else ow b)=_;rw[if_neg (fun h=>hd b h vL)];exact q2 b hb
theorem Us {L:Type}{w:World}{Z:Nat→Prop}{ow:Nat→Option L}:∀{l:List (L×It)},(l.map (·.1)).Nodup→(∀p x,(p,x)∈l→∃F1,x.ok w Z F1∧∀b,F1 b→ow b=some p)→∃F,Sep w Z (l.map (·.2)) F∧∀b,F b→∃p∈l.map (·.1),ow b=some p
 | [],_,_=>⟨fun _=>False,rfl,fun _ h=>h.elim⟩
 |(p,x)::l,hn,h=>by
  rw[cK,eI] at hn;obtain⟨F2,k1,k2⟩:=Us hn.2 fun p' x' hm=>h p' x' (fR _ hm)
  obtain⟨F1,q1,q2⟩:=h p x (by simp);refine⟨fun b=>F1 b∨F2 b,⟨F1,F2,rfl,fun b h1 h2=>?_,q1,k1⟩,fun b hb=>?_⟩
  ·obtain⟨p',z8,e⟩:=k2 b h2;rw[q2 b h1] at e;cases e;exact hn.1 z8
  ·rcases hb with hb|hb
   ·exact⟨p,by simp,q2 b hb⟩
   ·obtain⟨p',z8,e⟩:=k2 b hb;exact⟨p',by rw[cK];exact fR _ z8,e⟩
structure Nx where
 b:Nat
 q1:Option Nat×Nat
 q2:Option Nat×Nat
def uN (m:Nx)(x:Nd):List Value:=[str x.key, .slice (ay m.q1.1) x.down.length m.q1.2, .slice (ay m.q2.1) x.up.length m.q2.2,iV x.mark]
def nf (m:Nx)(x:Nd):It:=aA m.b (uN m x)
def mO (m:Nx)(x:Nd):It:=ao 3 1 m.q1.1 x.down.length m.q1.2 (aD x.down)
def ny (m:Nx)(x:Nd):It:=ao 3 1 m.q2.1 x.up.length m.q2.2 (aD x.up)
def yD (m:Nx)(x:Nd):List It:=[nf m x,mO m x,ny m x]
def rT (M:List Nx)(L:List Nd):List It:=(List.zipWith yD M L).flatten
def je:Nat→List Nx→List Nd→List (Lb×It)
 |i,m::M,x::L=>(.nd i,nf m x)::(.dn i,mO m x)::(.up i,ny m x)::je (i+1) M L
 |_,_,_=>[]
theorem Om:∀(i:Nat) (M:List Nx) (L:List Nd),(je i M L).map (·.2)=rT M L
 |i,m::M,x::L=>by simp only[je,cK,Om (i+1) M L];rfl
 |_,[],_=>by simp[je,rT]
 |_,_::_,[]=>by simp[je,rT]
def Au:Lb→Nat
 |.nd i=>i+1
 |.dn i=>i+1
 |.up i=>i+1
 |_=>0
theorem Ol:∀(i:Nat) (M:List Nx) (L:List Nd) p,p∈(je i M L).map (·.1)→i+1≤Au p
 |i,m::M,x::L,p,h=>by
  simp only[je,cK,bY] at h
  rcases h with rfl|rfl|rfl|h
  ·exact bj _
  ·exact bj _
  ·exact bj _
  ·have:=Ol (i+1) M L p h;omega
 |_,[],_,p,h=>by simp[je] at h
 |_,_::_,[],p,h=>by simp[je] at h
theorem Wj:∀(i:Nat) (M:List Nx) (L:List Nd),((je i M L).map (·.1)).Nodup
 |i,m::M,x::L=>by
  have h:=Ol (i+1) M L;simp only[je,cK,eI,bY];refine⟨fun k=>?_,fun k=>?_,fun k=>?_,Wj (i+1) M L⟩
  ·rcases k with k|k|k
   ·cases k
   ·cases k
   ·have:=h _ k;simp[Au] at this;omega
  ·rcases k with k|k
   ·cases k
   ·have:=h _ k;simp[Au] at this;omega
  ·have:=h _ k;simp[Au] at this;omega
 |_,[],_=>by simp[je]
 |_,_::_,[]=>by simp[je]
theorem Wh:∀(i:Nat) {M:List Nx}{L:List Nd}{j:Nat}{m:Nx}{x:Nd},M[j]?=some m→L[j]?=some x→(Lb.nd (i+j),nf m x)∈je i M L∧(Lb.dn (i+j),mO m x)∈je i M L∧(Lb.up (i+j),ny m x)∈je i M L
 |i,m0::M,x0::L,0,m,x,h1,h2=>by
  simp at h1 h2;subst h1 h2;simp[je]
 |i,m0::M,x0::L,j+1,m,x,h1,h2=>by
  obtain⟨k1,k2,k3⟩:=Wh (i+1) (M:=M) (L:=L) (j:=j) (by simpa using h1) (by simpa using h2);rw[show i+1+j=i+(j+1) by omega] at k1 k2 k3;simp only[je,bY];exact⟨.inr (.inr (.inr k1)), .inr (.inr (.inr k2)), .inr (.inr (.inr k3))⟩
 |_,[],_,_,_,_,h,_=>by simp at h
 |_,_::_,[],_,_,_,_,h=>by simp at h
theorem Wi:∀(i:Nat) {M:List Nx}{L:List Nd}{p:Lb}{x:It},(p,x)∈je i M L→∃j m y,M[j]?=some m∧L[j]?=some y∧((p = .nd (i+j)∧x=nf m y)∨(p = .dn (i+j)∧x=mO m y)∨(p = .up (i+j)∧x=ny m y))
 |i,m0::M,x0::L,p,x,h=>by
  simp only[je,bY,mB] at h
  rcases h with h|h|h|h
  ·exact⟨0,m0,x0,rfl,rfl, .inl h⟩
  ·exact⟨0,m0,x0,rfl,rfl, .inr (.inl h)⟩
  ·exact⟨0,m0,x0,rfl,rfl, .inr (.inr h)⟩
  ·obtain⟨j,m,y,h1,h2,h3⟩:=Wi (i+1) h;rw[show i+1+j=i+(j+1) by omega] at h3;exact⟨j+1,m,y,by simpa using h1,by simpa using h2,h3⟩
 |_,[],_,_,_,h=>by simp[je] at h
 |_,_::_,[],_,_,h=>by simp[je] at h
structure vw where
 q:Option Nat×Nat
 cb:Nat
 cc:Nat
 M:List Nx
def Bv (G:Gr)(X:vw):List Value:=[iV G.cL,iV G.dd,uV G.aJ, .slice (ay X.q.1) G.list.length X.q.2, .slice (some ⟨X.cb,0,none⟩) G.cells.length X.cc,iV G.cp,iV G.cT]
abbrev Bt (G:Gr)(X:vw):It:=ao 244 1 X.q.1 G.list.length X.q.2 (bg (X.M.map (·.b)))
abbrev Bu (G:Gr)(X:vw):It:=ao 3 1 (some X.cb) G.cells.length X.cc (aD G.cells)
abbrev DH (g:Nat)(G:Gr)(X:vw):List It:=[aA g (Bv G X),Bt G X,Bu G X,bB (rT X.M G.list)]
def iT (g:Nat)(G:Gr):It:=star fun X:{ X:vw // X.M.length=G.list.length}=>DH g G X.1
theorem grL (g:Nat)(G:Gr)(X:vw){w:World}{Z F:Nat→Prop}(h:Sep w Z (DH g G X) F):Sep w Z (((Lb.top,aA g (Bv G X))::(Lb.arr,Bt G X)::(Lb.ju,Bu G X)::je 0 X.M G.list).map (·.2)) F:=by
 obtain⟨F1,F2,rfl,d1,h1,F3,F4,rfl,d2,h2,F5,F6,rfl,d3,h3,F7,F8,e,d4,⟨_,h4⟩,h5⟩:=h;have e8:F8=fun _=>False:=h5
 subst e8;have e6:F6=F7:=by rw[e];funext b;simp
 subst e6;simp only[cK,Om];exact⟨F1,_,rfl,d1,h1,F3,_,rfl,d2,h2,F5,_,rfl,d3,h3,h4⟩
theorem Lj {g:Nat}{G:Gr}{w:World}{Z F:Nat→Prop}(h:(iT g G).ok w Z F):∃ow ol al cl cb cc bs,GM w g G ow ol al cl cb cc bs∧∀b,ow b≠none↔F b:=by
 obtain⟨⟨X,hX⟩,h⟩:=h;have h':=grL g G X h;obtain⟨ow,k1,k2⟩:=Xt h';obtain⟨T1,⟨t1,rfl⟩,t2⟩:=k2 .top (aA g (Bv G X)) (by simp);obtain⟨A1,⟨a1,rfl⟩,a2⟩:=k2 .arr (Bt G X) (by simp);obtain⟨C1,⟨c1,rfl⟩,c2⟩:=k2 .ju (Bu G X) (by simp);refine⟨ow,X.q.1,ay X.q.1,X.q.2,X.cb,X.cc,X.M.map (·.b),⟨t1,t2 g rfl,a1,fun b hb=>a2 b hb,fun e=>by rw[e];rfl,c1,c2 _ rfl,by simpa using hX,fun i b x hb hx=>?_,fun b hb=>?_⟩,k1⟩
 ·rw[gb] at hb;cases hm:X.M[i]? with
  |none=>rw[hm] at hb;cases hb
  |some m=>
   rw[hm] at hb;cases hb;obtain⟨m1,m2,m3⟩:=Wh 0 hm hx;rw[dA] at m1 m2 m3;obtain⟨N1,⟨n1,rfl⟩,n2⟩:=k2 (.nd i) (nf m x) (by simp[m1]);obtain⟨D1,⟨d1,rfl⟩,d2⟩:=k2 (.dn i) (mO m x) (by simp[m2]);obtain⟨U1,⟨u1,rfl⟩,u2⟩:=k2 (.up i) (ny m x) (by simp[m3]);exact⟨_,_,n1,n2 _ rfl,⟨_,_,_,rfl,d1,fun b hb=>d2 b hb,fun e=>by rw[e];rfl⟩,⟨_,_,_,rfl,u1,fun b hb=>u2 b hb,fun e=>by rw[e];rfl⟩⟩
 ·exact Sep.lt h ((k1 b).1 hb)
theorem Yf {g:Nat}{G:Gr}{w:World}{ow:Nat→Option Lb}{ol:Option Nat}{al:Option Addr}{cl cb cc:Nat}{bs:List Nat}(h:GM w g G ow ol al cl cb cc bs)(Z:Nat→Prop):∃F,(iT g G).ok w Z F∧∀b,F b→ow b≠none:=by
 have b6:=wO h.arr h.mv;subst b6;have Tl:∀i,i<G.list.length→∃m:Nx,∃x,G.list[i]?=some x∧bs[i]?=some m.b∧cD w m.b (uN m x)∧ow m.b=some (.nd i)∧aG w 3 1 m.q1.1 (ay m.q1.1) x.down.length m.q1.2 (aD x.down)∧(∀b,m.q1.1=some b→ow b=some (.dn i))∧aG w 3 1 m.q2.1 (ay m.q2.1) x.up.length m.q2.2 (aD x.up)∧(∀b,m.q2.1=some b→ow b=some (.up i)):=fun i hi=>by
  have hx:G.list[i]?=some G.list[i]:=by simp[hi]
  have hb:bs[i]?=some (bs[i]'(by have:=h.len;omega)):=by simp
  obtain⟨v1,v2,n1,n2,⟨o1,a1,c1,rfl,s1,s2,s3⟩,⟨o2,a2,c2,rfl,u1,u2,u3⟩⟩:=h.node i _ _ hb hx;have e1:=wO s1 s3;have e2:=wO u1 u3;subst e1 e2;exact⟨⟨_,(o1,c1),(o2,c2)⟩,_,hx,hb,n1,n2,s1,s2,u1,u2⟩
 obtain⟨M,vP,mh⟩:∃M:List Nx,M.length=G.list.length∧∀i m,M[i]?=some m→∃x,G.list[i]?=some x∧bs[i]?=some m.b∧cD w m.b (uN m x)∧ow m.b=some (.nd i)∧aG w 3 1 m.q1.1 (ay m.q1.1) x.down.length m.q1.2 (aD x.down)∧(∀b,m.q1.1=some b→ow b=some (.dn i))∧aG w 3 1 m.q2.1 (ay m.q2.1) x.up.length m.q2.2 (aD x.up)∧(∀b,m.q2.1=some b→ow b=some (.up i)):=by
  refine⟨(List.range G.list.length).attach.map fun i=>Classical.choose (Tl i.1 (tE.1 i.2)),by simp,fun i m hm=>?_⟩;rw[gb] at hm;obtain⟨⟨j,hj⟩,Em,rfl⟩:=vp.1 hm;have gf:j=i:=by
   have h1:((List.range G.list.length).attach.map (·.1))[i]?=some j:=by rw[gb,Em];rfl
   rw[List.attach_map_subtype_val] at h1;obtain⟨h2,h3⟩:=aV.1 h1;simpa using h3.symm
  subst gf;exact Classical.choose_spec (Tl j (tE.1 hj))
 have hbs:M.map (·.b)=bs:=by
  apply pb;intro i;rw[gb];cases hm:M[i]? with
  |none=>
   have h1:=List.getElem?_eq_none_iff.1 hm;rw[sy (by have:=h.len;omega)];rfl
  |some m=>
   obtain⟨x,_,h2,_⟩:=mh i m hm;rw[h2];rfl
 obtain⟨F,k1,k2⟩:=Us (w:=w) (Z:=Z) (ow:=ow) (l:=(Lb.top,aA g (Bv G ⟨(ol,cl),cb,cc,M⟩))::(Lb.arr,Bt G ⟨(ol,cl),cb,cc,M⟩)::(Lb.ju,Bu G ⟨(ol,cl),cb,cc,M⟩)::je 0 M G.list) (by
   have h0:=Ol 0 M G.list;simp only[cK,eI,bY];refine⟨fun k=>?_,fun k=>?_,fun k=>?_,Wj 0 M G.list⟩
   ·rcases k with k|k|k
    ·cases k
    ·cases k
    ·have:=h0 _ k;simp[Au] at this
   ·rcases k with k|k
    ·cases k
    ·have:=h0 _ k;simp[Au] at this
   ·have:=h0 _ k;simp[Au] at this) fun p x hm=>by
  simp only[bY,mB] at hm
  rcases hm with⟨rfl,rfl⟩|⟨rfl,rfl⟩|⟨rfl,rfl⟩|hm
  ·exact⟨_,⟨h.top,rfl⟩,fun b hb=>by cases hb;exact h.fG⟩
  ·exact⟨_,⟨by rw[hbs];exact h.arr,rfl⟩,fun b hb=>h.iG b hb⟩
  ·exact⟨_,⟨h.ju,rfl⟩,fun b hb=>by cases hb;exact h.ng⟩
  ·obtain⟨j,m,y,q1,q2,q3⟩:=Wi 0 hm;rw[dA] at q3;obtain⟨x',r1,_,r3,r4,r5,r6,r7,r8⟩:=mh j m q1;rw[q2] at r1;cases r1
   rcases q3 with⟨rfl,rfl⟩|⟨rfl,rfl⟩|⟨rfl,rfl⟩
   ·exact⟨_,⟨r3,rfl⟩,fun b hb=>by cases hb;exact r4⟩
   ·exact⟨_,⟨r5,rfl⟩,fun b hb=>r6 b hb⟩
   ·exact⟨_,⟨r7,rfl⟩,fun b hb=>r8 b hb⟩
 simp only[cK,Om] at k1;obtain⟨F1,F2,e1,d1,h1,F3,F4,e2,d2,h2,F5,F6,e3,d3,h3,h4⟩:=k1;refine⟨F,⟨⟨⟨(ol,cl),cb,cc,M⟩,vP⟩,F1,F2,e1,d1,h1,F3,F4,e2,d2,h2,F5,F6,e3,d3,h3,F6,fun _=>False,by simp,fun _ _ h=>h,⟨(),h4⟩,rfl⟩,fun b hb=>?_⟩;obtain⟨p,_,e⟩:=k2 b hb;rw[e];simp
end
end Go.Proofs.YtmlpbmgfmnmmmaaGreat.V.M
