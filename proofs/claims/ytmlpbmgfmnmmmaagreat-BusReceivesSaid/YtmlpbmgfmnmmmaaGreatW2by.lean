/-
  Parts of the proof. No condition.
-/
import Derived.Test.YtmlpbmgfmnmmmaaGreatW2bx
import Derived.Test.YtmlpbmgfmnmmmaaGreatW2ad
import Derived.Test.YtmlpbmgfmnmmmaaGreatW2bh
import Derived.Shelf.SlIterI.Sorted
import Derived.Maps.Keyed
set_option linter.unusedVariables false
set_option linter.unusedSimpArgs false
set_option maxRecDepth 8000
set_option maxHeartbeats 8000000
open Go.Proofs.Tryz
namespace Go.Proofs.YtmlpbmgfmnmmmaaGreat.V.M
section
attribute [local irreducible] GO GX aA eo fz aF aQ ao star
variable {o:Og}{w:World}
abbrev bV (z:Bool):Value := .bool z
structure ox (R:List Nat)(A:List (Int×Bool)):Prop where
 nd:(A.map (·.1)).Nodup
 yes:∀k∈R,az A (k:Int)=some true
 no:∀n:Int,(∀k∈R,(k:Int)≠n)→az A n=none
def mr (R:List Nat)(n:Int):Bool:=R.any fun k=>decide ((k:Int)=n)
theorem ox.look {R:List Nat}{A:List (Int×Bool)}(h:ox R A)(n:Int):jc bV (.bool false) false (az A n) = .bool (mr R n):=by
 cases hb:mr R n with
 |true=>
  obtain⟨k,hk,he⟩:=xp.1 hb;have he:=eN he;subst he;rw[h.yes k hk];rfl
 |false=>
  have:∀k∈R,(k:Int)≠n:=fun k hk he=>by
   have:mr R n=true:=xp.2 ⟨k,hk,bQ he⟩;rw[hb] at this;cases this
  rw[h.no n this];rfl
structure Da where
 e:Nat
 m:Nat
 A:List (Int×Bool)
abbrev Da.dm (X:Da)(b:Nat)(E:aq)(up:Nat):List It:=[aA b [ak X.e,iV up, .map (some X.m)],bU X.e E,aQ X.m iV bV X.A]
def gk (b:Nat)(E:aq)(up:Nat)(R:List Nat):It:=star fun X:{ X:Da // ox R X.A}=>X.1.dm b E up
theorem nh {l t:List It}{b:Nat}{X:Da}{E:aq}{up:Nat}{R:List Nat}(hA:ox R X.A)(hH:SH o w l)(hp:Pk l (X.dm b E up) t:=by repeat(first|exact Pk.nil|(apply Pk.cons;repeat(first|exact aB.here|apply aB.there)))):SH o w (gk b E up R::t):=
 SH.fold (f:=fun X:{ X:Da // ox R X.A}=>X.1.dm b E up) ⟨X,hA⟩ hH hp
theorem aaj {M:List (Int×Bool)}{o:Og}{w:World}{b:Nat}(hs:Start o w [fz (aQ b iV bV M)]):aj prog 87 [.map (some b)].toArray w (aU o (fun c:Nat => .map (some c)) (fun _=>True) (fun c=>[aQ c iV bV M])):=
 NX agh hs
theorem AL {b e:Nat}{v1 v2:Value}(hs:Start o w [fz (aA b [ak e,v1,v2])]):aj prog 27 [ak b].toArray w (Po o (.bool false) []):=by
 have hH:=hs.sh;refine aj.enter func27 rfl ntmps27 rfl (gh ?_);exact⟨rfl,hH.to⟩
theorem CO {b up:Nat}{E:aq}{R:List Nat}(hs:Start o w [gk b E up R]):aj prog 12 [ak b].toArray w (Po o (iV up) [gk b E up R]):=by
 have hH:=hs.sh;obtain⟨⟨X,hX⟩,hH⟩:=SH.un hH;replace hH:=SH.ap hH;dsimp only at hH;refine aj.enter func12 rfl ntmps12 rfl (gh ?_);refine GX.aL (hc:=fun _ hs=>AL hs) (h:=fun w hE hH=>gh ?_);refine gh ?_;exact⟨rfl,(nh (X:=X) hX hH).to⟩
def vT (up:Nat)(R:List Nat)(n:Int):Bool:=decide (1≤n)&&(decide (n≤(up:Int))||mr R n)
theorem aix {b up:Nat}{E:aq}{R:List Nat}(n:Int)(hs:Start o w [gk b E up R]):aj prog 49 [ak b,iV n].toArray w (Po o (.bool (vT up R n)) [gk b E up R]):=by
 have hH:=hs.sh;unfold vT;obtain⟨⟨X,hX⟩,hH⟩:=SH.un hH;replace hH:=SH.ap hH;dsimp only at hH;refine aj.enter func49 rfl ntmps49 rfl (gh ?_);refine GX.aL (hc:=fun _ hs=>AL hs) (h:=fun w hE hH=>gh ?_);cases h1:decide (1≤n) with
 |false=>
  refine gh ?_;exact⟨rfl,(nh (X:=X) hX hH).to⟩
 |true=>
  refine gh ?_;cases h2:decide (n≤(up:Int)) with
  |true=>
   refine gh ?_;exact⟨rfl,(nh (X:=X) hX hH).to⟩
  |false=>
   refine gh ?_;refine GX.lP (hV:=hX.look n) (h:=gh ?_);exact⟨rfl,(nh (X:=X) hX hH).to⟩
theorem aiw {b up n:Nat}{E:aq}{R:List Nat}(hW:cU E n)(hn:n<6000)(hs:Start o w [gk b E up R]):aj prog 15 [ak b].toArray w (aU o ak (fun _=>True) (fun c=>[gk b E up R,bU c E])):=by
 have hH:=hs.sh;have h1:=hW.lx;have h2:=hW.bf;have h3:=hW.pK;obtain⟨⟨X,hX⟩,hH⟩:=SH.un hH;replace hH:=SH.ap hH;dsimp only at hH;refine aj.enter func15 rfl ntmps15 rfl (gh ?_);refine GX.aL (hc:=fun _ hs=>AL hs) (h:=fun w hE hH=>gh ?_);refine gh ?_;refine GX.bS (hc:=fun _ hs=>Q2 (E:=E) hW.ok ah ah hs) (h:=?_);rintro c w _ hH;replace hH:=SH.ap hH;refine gh ?_;exact⟨c,rfl,trivial,(nh (X:=X) hX hH).to⟩
theorem aiv {b up n:Nat}{E:aq}{R:List Nat}(hW:cU E n)(hn:n<6000)(hs:Start o w [gk b E up R]):aj prog 45 [ak b].toArray w (aU o ak (fun _=>True) (fun c=>[gk b E up R,gk c E up R])):=by
 have hH:=hs.sh;have h1:=hW.lx;have h2:=hW.bf;have h3:=hW.pK;obtain⟨⟨X,hX⟩,hH⟩:=SH.un hH;replace hH:=SH.ap hH;dsimp only at hH;refine aj.enter func45 rfl ntmps45 rfl (gh ?_);refine GX.aL (hc:=fun _ hs=>AL hs) (h:=fun w hE hH=>gh ?_);refine gh ?_;refine GC.bq (pl:=(aZ [0,3,6,15,18,21,27,30,33,10,25,37,14,41,42,47,48])) (T:=cS [b]) (hm:=mixed) (h:=fun w hE hH=>gh ?_);refine GX.gT (hc:=fun _ hs=>Q2 (E:=E) hW.ok ah ah hs) (h:=?_);rintro c w _ hS hH;replace hH:=SH.ap hH;refine gh ?_;refine GX.ew (hc:=fun _ hs=>aaj (M:=X.A) hs) (h:=?_);rintro m w _ hS hH;replace hH:=SH.ap hH;refine gh ?_;refine GX.nJ (h:=fun r w hS hH=>gh ?_);exact⟨r,rfl,trivial,(nh (X:=X) hX (nh (X:=⟨c,m,X.A⟩) hX hH)).to⟩
theorem OP {b up n:Nat}{E:aq}{R:List Nat}(hW:cU E n)(hn:n<6000)(t:Nat)(ht:t≤never)(c:dh)(y:iR)(hc:tL c y)(hs:Start o w (gk b E up R::vE c y)) :
  aj prog 8 [ak b,uV t, .agg (jH c y).toArray].toArray w (aU o (fun x:tP => .tuple #[.agg (yN (E.cI t c).2.1 x).toArray,iV (E.cI t c).2.2]) (fun x=>x.L.map (·.i)=(E.cI t c).2.1.L∧cU (E.cI t c).1 (n+2)) (fun x=>gk b (E.cI t c).1 up R::yM (E.cI t c).2.1 x)):=by
 have hH:=hs.sh;obtain⟨⟨X,hX⟩,hH⟩:=SH.un hH;replace hH:=SH.ap hH;dsimp only at hH;refine aj.enter func8 rfl ntmps8 rfl (gh ?_);refine GX.cw (h:=fun z w hH=>gh ?_);refine GX.cm (h:=fun r6 w hH=>gh ?_);refine GX.aL (hc:=fun _ hs=>AL hs) (h:=fun w hE hH=>gh ?_);refine gh ?_;refine GC.bq (pl:=(aZ [0,3,6,12,10,16,20,21,24,29,30])) (T:=cS [b,z]) (hm:=mixed) (h:=fun w hE hH=>gh ?_);refine GX.gT (hc:=fun _ hs=>Bo hW hn t ht c y hc hs) (h:=?_);rintro x w hx hS hH;replace hH:=SH.ap hH;refine gh ?_;refine GX.CX (h:=fun w hH=>gh ?_);exact⟨x,rfl,hx,(nh (X:=X) hX hH).to⟩
theorem aiy (c:oy)(hc:¬xv c)(hs:Start o w []):aj prog 7 [.agg (vC c).toArray].toArray w (Po o (.tuple #[.pointer none,iV 2]) []):=by
 have hH:=hs.sh;refine aj.enter func7 rfl ntmps7 rfl (gh ?_);refine GX.cw (h:=fun z w hH=>gh ?_);refine GX.aL (hc:=fun _ hs=>Q4 c hc hs) (h:=fun w hE hH=>gh ?_);refine gh ?_;exact⟨rfl,hH.to⟩
theorem WT (c:oy)(hc:xv c)(dN:c.s<18446744073709551616)(hs:Start o w []):aj prog 7 [.agg (vC c).toArray].toArray w (aU o (fun b:Nat => .tuple #[ak b,iV 0]) (fun _=>True) (fun b=>[gk b (jd c) 0 []])):=by
 have hH:=hs.sh;refine aj.enter func7 rfl ntmps7 rfl (gh ?_);refine GX.cw (h:=fun z w hH=>gh ?_);refine GX.bS (hc:=fun _ hs=>Q5 c hc dN hs) (h:=?_);rintro e w _ hH;replace hH:=SH.ap hH;refine gh ?_;refine GX.yB iV bV (h:=fun m w hH=>gh ?_);refine GX.cw (h:=fun b w hH=>gh ?_);exact⟨b,rfl,trivial,(nh (R:=[]) (X:=⟨e,m,[]⟩) ⟨mF,fun _ h=>(by cases h),fun _ _=>rfl⟩ hH).to⟩
end
section
theorem SH.ag9 {o:Og}{w:World}{l t:List It}{κ ν:Type}{kv:κ→Value}{vv:ν→Value}{M:List (κ×ν)}{b m:Nat}{ca:List Value}(h:SH o w l)(hp:Pk l [aA b ca,aQ m kv vv M] t:=by repeat(first|exact Pk.nil|(apply Pk.cons;repeat(first|exact aB.here|apply aB.there)))):b≠m:=by
 obtain⟨_,_,_,⟨_,rfl⟩,⟨_,rfl⟩,hd,_⟩:=SH.nodup (h.perm hp.perm);exact fun e=>hd b rfl e
attribute [local irreducible] GX
section
variable {P:Program}{ops:Array Oper}{Q:Exit→Act→World→Prop}{n:Nat}
variable {i:Nat}{e:Env}{w:World}{dst:Option Tmp}{ty:TypeId}{pos:String}{an:Array Edge}{g:Option (Nat×Bool)}
variable {og:Og}{l l':List It}{b:Nat}
theorem GX.agO [Fr]{κ ν:Type}[DecidableEq κ]{T:Nat→Prop}{w0:World}{p:bZ}{kv:κ→Value}{vv:ν→Value}{M:List (κ×ν)}{t kt el:TypeId}{x y:Operand}{t2:TypeId}{a:κ}(hH:SH og w l:=by assumption)(hT:T b)
  (ho:ops[i]?=some ⟨dst, .call ⟨.builtin .delete,#[x,y],#[t,t2]⟩,ty,pos,an,g⟩:=by rfl) (hu:bH P t (.map kt el):=by infer_instance) (hw:aH ops e ⟨dst, .call ⟨.builtin .delete,#[x,y],#[t,t2]⟩,ty,pos,an,g⟩=some true:=by rfl) (hx:ev e x=some (.map (some b)):=by rfl) (hr:bA (aQ b kv vv M) (aQ b kv vv (bD M a)) l l':=by repeat(first|exact bA.here|apply bA.there)) (hk:j6 P kv kt:=by infer_instance) (hy:ev e y=some (kv a):=by rfl) (hd:fits n dst=true:=by rfl)
  (h:∀w',SH og w' l'→GX P ops Q (Mod T w0) n p (e.put dst (.tuple #[])) w'):GX P ops Q (Mod T w0) n (.ax i p) e w:=by
 obtain⟨_,hs,_⟩:=hr.perm;have hM:dU w b kv vv M:=let⟨_,_,h,_⟩:=(hH.perm hs).head;h;obtain⟨w1,h1,h2,h3⟩:=W8 hM hu.out hk (ts:=#[t,t2]) rfl ty a;refine GX.ax ho (GO.run (R:=fun u w'=>u = .tuple #[]∧w'=w1) hw hd (fun ac ha=>⟨_,_,w1,by simp[execOp,resolve,invoke,builtin,bC ha hx,bC ha hy,h1], .inl rfl,rfl,rfl⟩) ?_);rintro _ _ ⟨rfl,rfl⟩;exact⟨fun _ hS=>hS.trans (h3.weaken fun k _ hk=>by subst hk;exact hT),h _ (hH.uY hr h2 h3)⟩
end
attribute [local irreducible] GO
attribute [local irreducible] aA ao aQ aF fz star eo
structure kS (E:aq)(up:Nat)(R:List Nat)(n:Nat):Prop where
 w:cU E n
 r:y9 up R
 l:up+R.length≤n
 b:∀x∈R,x≤n+1000
theorem kS.ra {E:aq}{up:Nat}{R:List Nat}{n m:Nat}(h:kS E up R n)(hm:n≤m):kS E up R m:=
 ⟨h.w.up hm,h.r,eh h.l hm,fun x hx=>eh (h.b x hx) ah⟩
structure YH where
 E:aq
 up:Nat
 R:List Nat
noncomputable def dP (E:aq)(up:Nat)(R:List Nat)(t:Nat)(n k:Int)(nm:Bs):YH×Bool×Int:=
 if rW k nm=false∨n<1 then(⟨E,up,R⟩,false,2) else if 1000<n - up then(⟨E,up,R⟩,false,3) else if n≤up∨mr R n=true then(⟨E,up,R⟩,false,0)
 else(⟨(E.cI t (fZ k nm)).1,(pW up R n.toNat).1,(pW up R n.toNat).2⟩,true,0)
theorem NC {n:Nat}{R:List Nat}(h:mr R (n:Int)≠true):n∉R:=fun hn=>h (xp.2 ⟨n,hn,bQ rfl⟩)
theorem aho {up x:Nat}{R:List Nat}(h:x∈(oY up R).2):x∈R:=by
 induction R generalizing up with
 |nil=>exact h
 |cons y r ih=>
  unfold oY at h;split at h
  ·exact fR _ (ih h)
  ·exact h
theorem WU {E:aq}{up:Nat}{R:List Nat}{m:Nat}(h:kS E up R m)(t:Nat)(n k:Int)(nm:Bs)(hE:cU (E.cI t (fZ k nm)).1 (m+2)):kS (dP E up R t n k nm).1.E (dP E up R t n k nm).1.up (dP E up R t n k nm).1.R (m+2):=by
 unfold dP;split
 ·exact h.ra ah
 split
 ·exact h.ra ah
 split
 ·exact h.ra ah
 rename_i h1 h2 h3
 obtain⟨N,rfl⟩:∃N:Nat,n=N:=⟨n.toNat,by omega⟩
 have hN:up<N:=by omega
 have EB:N∉R:=NC fun h=>h3 (.inr h)
 obtain⟨k1,_,k3⟩:=WV h.r hN EB;have hl:=h.l;refine⟨hE,k1,?_,fun x hx=>?_⟩
 ·show(pW up R N).1+(pW up R N).2.length≤m+2;omega
 ·have ey:=aho hx
  rcases An.1 ey with rfl|ey
  ·omega
  ·have:=h.b x ey;omega
theorem ox.put {R:List Nat}{A:List (Int×Bool)}(h:ox R A)(n:Nat):ox (ja n R) (bE A (n:Int) true):=by
 refine⟨rU h.nd _ _,fun k hk=>?_,fun z hz=>?_⟩
 ·rw[kI];split
  ·rfl
  ·rename_i aR
   rcases An.1 hk with rfl|hk
   ·exact absurd rfl aR
   ·exact h.yes k hk
 ·rw[kI,if_neg (fun e=>hz n (An.2 (.inl rfl)) e.symm)];exact h.no z fun k hk=>hz k (An.2 (.inr hk))
theorem ox.del {R:List Nat}{A:List (Int×Bool)}{n:Nat}(h:ox (n::R) A)(hn:n∉R):ox R (bD A (n:Int)):=by
 refine⟨h.nd.sublist ((wX A _).map _),fun k hk=>?_,fun z hz=>?_⟩
 ·rw[iF h.nd,if_neg (fun e=>by have:=Int.ofNat.inj e;exact hn (this▸hk))];exact h.yes k (fR _ hk)
 ·rw[iF h.nd];split
  ·rfl
  ·rename_i aR
   exact h.no z fun k hk=>by
    rcases bY.1 hk with rfl|hk
    ·exact fun e=>aR e.symm
    ·exact hz k hk
theorem aep {x up:Nat}{r:List Nat}(hs:(x::r).Pairwise (· < ·))(hg:∀y∈x::r,up<y):mr (x::r) ((up:Int)+1)=decide (x=up+1):=by
 by_cases hx:x=up+1
 ·rw[bQ hx];exact xp.2 ⟨x,by simp,bQ ah⟩
 ·rw[bt hx];refine Bool.eq_false_iff.2 fun h=>?_
  obtain⟨k,hk,he⟩:=xp.1 h;have he:=eN he;have h1:=hg x (by simp)
  rcases bY.1 hk with rfl|hk
  ·omega
  ·have:=(lB.1 hs).1 k hk;omega
theorem OL (k:Int){nm:Bs}(y:iR:=tW):tL (fZ k nm) tW:=by
 unfold fZ
 (repeat' split)<;>exact⟨by simp[qf],by simp[qf],by simp[qf],by simp[qf],by simp[qf],fun _=>rfl⟩
theorem SH.KT {o:Og}{w:World}{l:List It}(hH:SH o w l)(k:Int)(nm:Bs):SH o w (vE (fZ k nm) tW++l):=by
 unfold fZ
 (repeat' split)<;>exact hH.vJ.vJ.vJ
theorem OQ {o:Og}{w:World}{b up m:Nat}{E:aq}{R:List Nat}(hW:kS E up R m)(hm:m<6000)(t:Nat)(ht:t≤never)(n k:Int)(nm:Bs)(hn:n<9223372036854775808)(hs:Start o w [gk b E up R]) :
  aj prog 11 [ak b,uV t,iV n, .agg #[iV k,str nm]].toArray w (aU o (fun _:Unit => .tuple #[.bool (dP E up R t n k nm).2.1,iV (dP E up R t n k nm).2.2]) (fun _=>kS (dP E up R t n k nm).1.E (dP E up R t n k nm).1.up (dP E up R t n k nm).1.R (m+2)) (fun _=>[gk b (dP E up R t n k nm).1.E (dP E up R t n k nm).1.up (dP E up R t n k nm).1.R])):=by
 have hH:=hs.sh;have hl:=hW.l;have hF:=fun hE=>WU hW t n k nm hE
 generalize hr:dP E up R t n k nm=r at hF ⊢;unfold dP at hr;obtain⟨⟨X,hX⟩,hH⟩:=SH.un hH;replace hH:=SH.ap hH;dsimp only at hH;refine aj.enter func11 rfl ntmps11 rfl (gh ?_);refine GX.cw (h:=fun z w hH=>gh ?_);refine GX.aL (hc:=fun _ hs=>AL hs) (h:=fun w hE hH=>gh ?_);refine gh ?_;refine GX.aL (hc:=fun _ hs=>Qc k nm hs) (h:=fun w hE hH=>gh ?_);refine GX.cm (h:=fun c w hH=>gh ?_);refine GX.bc (h:=fun w hH=>gh ?_);cases aX:rW k nm with
 |false=>
  rw[if_pos (.inl aX)] at hr;subst hr;refine gh ?_;exact⟨(),rfl,hW.ra ah,(nh (X:=X) hX hH).to⟩
 |true=>
 refine gh ?_
 by_cases h1:n<1
 ·rw[if_pos (.inr h1)] at hr;subst hr;rw[show decide (n<1)=true from bQ h1];refine gh ?_;exact⟨(),rfl,hW.ra ah,(nh (X:=X) hX hH).to⟩
 rw[if_neg (by rw[aX];simpa using h1)] at hr;rw[show decide (n<1)=false from bt h1];refine gh ?_
 by_cases h2:(up:Int)<n
 case neg=>
  rw[if_neg ah,if_pos (.inl ah)] at hr;subst hr;rw[show decide ((up:Int)<n)=false from bt h2];refine gh ?_;rw[show decide (n≤(up:Int))=true from bQ ah];refine gh ?_;exact⟨(),rfl,hW.ra ah,(nh (X:=X) hX hH).to⟩
 rw[show decide ((up:Int)<n)=true from bQ h2];refine gh ?_
 by_cases h3:1000<n - up
 ·rw[if_pos h3] at hr;subst hr;rw[show decide (1000<n - (up:Int))=true from bQ h3];refine gh ?_;exact⟨(),rfl,hW.ra ah,(nh (X:=X) hX hH).to⟩
 rw[if_neg h3] at hr;rw[show decide (1000<n - (up:Int))=false from bt h3];refine gh ?_;rw[show decide (n≤(up:Int))=false from bt ah];refine gh ?_;refine GX.lP (hV:=hX.look n) (h:=gh ?_);cases mn:mr R n with
 |true=>
  rw[if_pos (.inr mn)] at hr;subst hr;refine gh ?_;exact⟨(),rfl,hW.ra ah,(nh (X:=X) hX hH).to⟩
 |false=>
 rw[if_neg (by rw[mn];simp;omega)] at hr;refine gh ?_;have Mb:KO k nm=fZ k nm:=if_pos aX;rw[Mb] at hH;replace hH:=hH.KT k nm;obtain⟨N,rfl⟩:∃N:Nat,n=N:=⟨n.toNat,by omega⟩
 simp only[tG] at hr;have EB:N∉R:=NC (by rw[mn];simp);refine GC.bq (pl:=(aZ [0,3,6,12,10,16,20])) (T:=cS [b,c]) (hm:=mixed) (h:=fun w hE hH=>gh ?_);refine GX.gT (hc:=fun _ hs=>Bo hW.w hm t ht (fZ k nm) tW (OL k) hs) (h:=?_);rintro x w ⟨_,hE⟩ hS hH;replace hF:=hF hE;generalize (E.cI t (fZ k nm)).1=E2 at hH hr hF;generalize (E.cI t (fZ k nm)).2=rs at hH ⊢;replace hH:=SH.ap hH;refine gh ?_;refine GX.Fq (v:=true) (h:=fun w hH=>gh ?_);have iw:=hX.put N;have oK:(ja N R).Pairwise (· < ·)∧∀x∈ja N R,up<x:=⟨Uc hW.r.so EB,fun x hx=>by
  rcases An.1 hx with rfl|hx
  ·omega
  ·have:=hW.r.gt x hx;omega⟩
 have oL:(ja N R).length=R.length+1:=by
  rw[ND,bJ,dR,dE,lZ];have:o4 N R≤R.length:=by unfold o4;exact(List.takeWhile_sublist _).length_le
  omega
 obtain⟨Xe,Xm,A⟩:=X;dsimp only at iw hH hX;refine GC.bP [0] (fun _:Nat×List Nat×List (Int×Bool)=>[]) (fun y w'=>oY y.1 y.2.1=pW up R N∧y.2.1.Pairwise (· < ·)∧(∀x∈y.2.1,y.1<x)∧y.1+y.2.1.length≤up+R.length+1∧ox y.2.1 y.2.2∧SH o w' [aA b [ak Xe,iV y.1, .map (some Xm)],bU Xe E2,aQ Xm iV bV y.2.2]) (fun y=>y.2.1.length) (up,ja N R,bE A (N:Int) true) rfl rfl ⟨rfl,oK.1,oK.2,by dsimp only;omega,iw,hH.to⟩ ?_;rintro⟨u,T,A3⟩ w ⟨bG,uC,SL,uD,rz,hH⟩;dsimp only at bG uC SL uD rz hH ⊢;refine gh ?_;refine GC.bq (pl:=(aZ [0,3,6,12,15,18,10,22,24,28])) (T:=fun _=>False) (hm:=mixed) (h:=fun w hE hH=>gh ?_);refine GX.read rfl (GO.NS (hV:=rz.look _) (h:=gh ?_));cases T with
 |nil=>
  have EE:pW up R N=(u,[]):=bG.symm;rw[EE] at hr;subst hr;refine gh ?_;exact⟨(),rfl,hF,(nh (R:=[]) (X:=⟨Xe,Xm,A3⟩) rz hH).to⟩
 |cons x T=>
  rw[aep uC SL]
  by_cases hx:x=u+1
  ·subst hx;have EE:oY (u+1) T=pW up R N:=by rw[←bG];exact(if_pos rfl).symm
   rw[dR] at uD;rw[bQ rfl];refine gh ?_;refine GX.dw (h:=fun w hH=>gh ?_);rw[show(Value.int IntKind.i64 ((u:Int)+1))=iV ((u+1:Nat):Int) from rfl] at hH;have mT:=hH.ag9 (b:=b) (m:=Xm);refine GC.bq (pl:=(aZ [0,3,6,12,15,18,10,22,26])) (T:=cS [b]) (hm:=mixed) (h:=fun w hE hH=>gh ?_);refine GX.agO (a:=((u+1:Nat):Int)) (hT:=show¬Xm∈[b] by simpa using fun e=>mT e.symm) (h:=fun w hH=>gh ?_);refine GQ.br (u+1,T,bD A3 ((u+1:Nat):Int)) rfl ⟨EE,(lB.1 uC).2,fun y hy=>(lB.1 uC).1 y hy,by dsimp only;omega,rz.del (fun h=>by have:=(lB.1 uC).1 _ h;omega),hH.to⟩ (by simp)
  ·have EE:pW up R N=(u,x::T):=by rw[←bG];exact if_neg hx
   rw[EE] at hr;subst hr;rw[bt hx];refine gh ?_;exact⟨(),rfl,hF,(nh (R:=x::T) (X:=⟨Xe,Xm,A3⟩) rz hH).to⟩
end
end Go.Proofs.YtmlpbmgfmnmmmaaGreat.V.M
namespace Go.Proofs.YtmlpbmgfmnmmmaaGreat.V
open Go.RowKit Go.Shelf Go.Sort
def Ao:Ren:=⟨fun|6=>29|8=>61|9=>62|10=>63|11=>114|_=>0,fun|0=>0|3=>4|4=>4|23=>91|24=>72|26=>3|28=>96|33=>124|_=>0,fun _=>0⟩
theorem ae0:Bears prog 29 (SlBodyZ.n6 Ao):=⟨"slices.Sorted[int]",by decide,by kernel_rfl⟩
theorem ae1:Bears prog 61 (SlBodyZ.n8 Ao):=⟨"slices.Collect[int]",by decide,by kernel_rfl⟩
theorem aeZ:Bears prog 114 (SlBodyZ.n11 Ao):=⟨"slices.AppendSeq[[]int,int]",by decide,by kernel_rfl⟩
theorem Vl:cy prog 96=some (false,1):=ai
theorem af5:((prog).info? 96).bind (·.zero)=some ((Value.nilFunc)):=ai
theorem ae2:SlLaysZI.n6 prog Ao:={ mixed:=by kernel_rfl,f6:=ae0,f8:=ae1,f11:=aeZ,t0:=by kernel_rfl,a0:=fun w=>(aC.mk Cn).isAgg w,z0:=fun w=>(aC.mk Cn).sizeOf w,v0:=ig NK,t24:=by kernel_rfl,a24:=fun w=>(aC.mk Co).isAgg w,z24:=fun w=>(aC.mk Co).sizeOf w,v24:=ig NL,t26:=by kernel_rfl,a26:=fun w=>(aC.mk yy).isAgg w,z26:=fun w=>(aC.mk yy).sizeOf w,v26:=ig Jb,t28:=by kernel_rfl,a28:=fun w=>(aC.mk Vl).isAgg w,z28:=fun w=>(aC.mk Vl).sizeOf w,v28:=ig af5,i26:=by kernel_rfl}
theorem ae3:Bears prog 63 (SlBodyZ.n10 Ao):=⟨"maps.Keys[map[int]bool,int,bool]$1",by decide,by kernel_rfl⟩
theorem Vm:cy prog 91=some (false,1):=ai
theorem af6:((prog).info? 91).bind (·.zero)=some ((Value.map none)):=ai
theorem Vn:cy prog 124=some (false,1):=ai
theorem af7:((prog).info? 124).bind (·.zero)=some ((Value.nilFunc)):=ai
theorem ae4:SlLaysZI.n10 prog Ao:={ mixed:=by kernel_rfl,f10:=ae3,t0:=by kernel_rfl,a0:=fun w=>(aC.mk Cn).isAgg w,z0:=fun w=>(aC.mk Cn).sizeOf w,v0:=ig NK,t4:=by kernel_rfl,a4:=fun w=>(aC.mk Ja).isAgg w,z4:=fun w=>(aC.mk Ja).sizeOf w,v4:=ig Vv,t23:=by kernel_rfl,a23:=fun w=>(aC.mk Vm).isAgg w,z23:=fun w=>(aC.mk Vm).sizeOf w,v23:=ig af6,t26:=by kernel_rfl,a26:=fun w=>(aC.mk yy).isAgg w,z26:=fun w=>(aC.mk yy).sizeOf w,v26:=ig Jb,t33:=by kernel_rfl,a33:=fun w=>(aC.mk Vn).isAgg w,z33:=fun w=>(aC.mk Vn).sizeOf w,v33:=ig af7}
theorem ak7 (m:Nat):AnyZI.SortsIn prog Ao Fence.wide m:=
 ⟨fun kg off cap ss W hH hblk jw=>callsIn_wide.2 (AnyM.slices_Sort_int (ρ:=iO) FU kg off cap ss W hH hblk jw),
  fun p cap W=>callsIn_wide.2 (AnyM.slices_Sort_int_none (ρ:=iO) FU p cap W)⟩
theorem abe (args:Array Value)(w:World):(callFunc 62 args).run prog w = .ok (.enter 62 args) w:=(FU).f5.enters rfl args w
end Go.Proofs.YtmlpbmgfmnmmmaaGreat.V
namespace Go.Proofs.YtmlpbmgfmnmmmaaGreat.V.M
section
open Go.RowKit Go.Maps Go.Shelf Go.Sort Go.WideShapes
attribute [local irreducible] GX GO
attribute [local irreducible] aA ao aQ aF fz star eo
def uQ:Value→Option (DataW Unit×List MemPlace):=fun _=>some (.nil,[])
section
variable {P:Program}{ρ:Ren}
theorem ak6 (L6:SlLaysZI.n6 P ρ)(PH:SlLaysZI.n10 P ρ)(M3:∀m,AnyZI.SortsIn P ρ Fence.wide m)(e9:∀args w,(callFunc (ρ.f 9) args).run P w = .ok (.enter (ρ.f 9) args) w)
  (Bm b nn:Nat) (D0:DataW Unit) (w:World) (hBm:Bm<w.heap.size) (hm:w.cell? ⟨Bm,0,none⟩=some (.map (some b))) (gY:w.ownsMap P (ρ.t 26) uQ b nn D0)
  (MJ:Maps.size D0≤maxLen) (acL:Maps.size D0*8≤140737488355328) :
  aj P (ρ.f 6) #[.func (.func (ρ.f 10)) #[] #[.pointer (some ⟨Bm,0,none⟩)]] w fun v w'=>∃ss:List Int,ss.Perm (intKeys D0)∧w'.ownsRow w.heap.size (ρ.t 26) 1 v ss.length ((ss.mergeSort (fun x y=>decide (x≤y))).map encZ)∧(v = .slice none 0 0↔ss=[])∧Ext w w':=by
 have adX:SeqGives Fence.wide 1 P (ρ.f 10) #[.pointer (some ⟨Bm,0,none⟩)] encZ (fun ss=>ss.Perm (intKeys D0)) (Maps.size D0) w:=
  AnyZI.keys_gives PH Fence.wide 1 trivial rfl (bj _) Bm b nn D0 w hBm hm gY
 have hc:=AnyZI.sorted_in L6 Fence.wide 4 trivial trivial trivial trivial rfl ah (M3 _) e9 (ρ.f 10) #[.pointer (some ⟨Bm,0,none⟩)] trivial (PH.f10.enters rfl) _ (Maps.size D0) MJ acL w adX;unfold aj;refine Calls.mono (callsIn_wide.1 hc) ?_;rintro e w' ⟨v,ss,rfl,hS,IM,Tk,hb⟩;exact⟨v,rfl,ss,hS,IM,Tk,⟨hb.os,hb.tape,hb.output,hb.size,fun k hk _=>hb.block k hk⟩⟩
theorem EM.Un {ν:Type}{vv:ν→Value}:∀{E:List MapEntry}{A:List (Int×ν)},EM iV vv E A→E.map (·.key)=A.map fun y=>iV y.1
 | [],[],_=>rfl
 |x::E,y::A,⟨h1,_,h3⟩=>by simp only[cK,h1,EM.Un h3]
 | [],_::_,h=>h.elim
 |_::_,[],h=>h.elim
theorem aeU {ν:Type}{vv:ν→Value}{w:World}{m:Nat}{A:List (Int×ν)}(hM:dU w m iV vv A)(bX:(A.map (·.1)).Nodup)(hb:∀x∈A,-9223372036854775808≤x.1∧x.1<9223372036854775808)(hl:A.length≤100000){k:TypeId}(hk:P.underlying k=some (.int .i64)) :
  ∃D:DataW Unit,w.ownsMap P k uQ m A.length D∧Maps.size D=A.length∧(intKeys D).Perm (A.map (·.1)):=by
 obtain⟨E,clock,hB,hE,jQ,iY⟩:=hM;have rG:=hE.Un;have Lu:E.length=A.length:=hE.length;have zY:(E.map (·.key)).Nodup:=by
  rw[rG];unfold List.Nodup at bX ⊢;rw[rl] at bX ⊢;exact bX.imp fun h e=>h (by simpa using e)
 have Tx:∀x∈E,∃n,x.key = .int .i64 n∧Go.keyOf P k x.key=some (.int .i64 n):=fun x hx=>by
  have:x.key∈E.map (·.key):=bK.2 ⟨x,hx,rfl⟩;rw[rG] at this;obtain⟨y,hy,he⟩:=bK.1 this;have Nl:(Lit.int .i64 y.1).wf=true:=by
   have:=hb y hy;simp[Lit.wf,IntKind.min,IntKind.max,IntKind.signed,IntKind.bits];omega
  exact⟨y.1,he.symm,by rw[←he];exact keyOf_int_mk hk Nl⟩
 have uA:=sorted_perm (E.map (WideElems.rg P k uQ));refine⟨.map ((E.map (WideElems.rg P k uQ)).foldr DataW.insert []),⟨E.toArray,clock,hB,⟨by simp[Lu,maxLen];omega,⟨fun x hx=>iY x (by simpa using hx),by simpa using jQ,by simpa using zY⟩,fun x hx=>?_⟩,by simp[Lu],by simp⟩,?_,?_⟩
 ·obtain⟨n,_,hl⟩:=Tx x (by simpa using hx);exact⟨_,by simp[WideElems.rd,hl,uQ];rfl⟩
 ·simp only[Maps.size];rw[uA.length_eq];simp[Lu]
 ·have h1:(intKeys (.map ((E.map (WideElems.rg P k uQ)).foldr DataW.insert []))).Perm ((E.map (WideElems.rg P k uQ)).map fun p=>Go.intOf p.1):=uA.map _;refine h1.trans ?_;have h2:((E.map (WideElems.rg P k uQ)).map fun p=>Go.intOf p.1)=A.map (·.1):=by
   have:((E.map (WideElems.rg P k uQ)).map fun p=>Go.intOf p.1)=(E.map (·.key)).map fun v=>Go.intOf ((Go.keyOf P k v).getD (.bool false)):=by
    simp only[nB];refine ri fun x hx=>?_
    obtain⟨n,_,hl⟩:=Tx x hx;simp[WideElems.rg,WideElems.rd,hl,uQ]
   rw[this,rG,nB];refine ri fun y hy=>?_
   have Nl:(Lit.int .i64 y.1).wf=true:=by
    have:=hb y hy;simp[Lit.wf,IntKind.min,IntKind.max,IntKind.signed,IntKind.bits];omega
   simp[keyOf_int_mk hk Nl,Go.intOf]
  rw[h2]
end
theorem ox.perm {R:List Nat}{A:List (Int×Bool)}(h:ox R A)(hn:R.Nodup):(A.map (·.1)).Perm (R.map fun n:Nat=>(n:Int)):=by
 refine(List.perm_ext_iff_of_nodup h.nd ?_).2 fun z=>?_
 ·unfold List.Nodup at hn ⊢;rw[rl];exact hn.imp fun h e=>h ah
 ·constructor
  ·intro hz
   by_cases hh:∃k∈R,(k:Int)=z
   ·obtain⟨k,hk,rfl⟩:=hh;exact bK.2 ⟨k,hk,rfl⟩
   ·exact absurd hz (wE.1 (h.no z fun k hk e=>hh ⟨k,hk,e⟩))
  ·intro hz;obtain⟨k,hk,rfl⟩:=bK.1 hz;exact bK.2 ⟨_,VX (h.yes k hk),rfl⟩
theorem ak4 {o:Og}{w:World}{m bx:Nat}{A:List (Int×Bool)}{R:List Nat}(hA:ox R A)(uC:R.Pairwise (· < ·))(hl:R.length≤100000)(hb:∀x∈R,x<2^62)(hs:Start o w [fz (aA bx [.map (some m)]),fz (aQ m iV bV A)]) :
  aj prog 29 [.func (.func 63) #[] #[ak bx]].toArray w (aU o (fun q:Option Nat×Nat => .slice (ay q.1) R.length q.2) (fun _=>True) (fun q=>[ao 3 1 q.1 R.length q.2 (aD R)])):=by
 have hH:=hs.sh;have hM:dU w m iV bV A:=hH.ms (.there .fz);have hB:cD w bx [.map (some m)]:=hH.tT bL;have hn:R.Nodup:=uC.imp fun h e=>by omega
 have hp:=hA.perm hn;have lH:A.length=R.length:=by simpa using hp.length_eq
 obtain⟨D,gY,jw,B3⟩:=aeU (P:=prog) (k:=3) hM hA.nd (fun x hx=>by
  have:x.1∈A.map (·.1):=bK.2 ⟨x,hx,rfl⟩;obtain⟨y,hy,e⟩:=bK.1 (hp.mem_iff.1 this);have:=hb y hy;omega) ah ai
 refine(ak6 ae2 ae4 ak7 abe bx m _ D w hB.lt (hB.at 0 _ rfl) gY (by rw[jw];simp[maxLen];omega) (by rw[jw];omega)).mono ?_;rintro v w' ⟨ss,B9,IM,Tk,hE⟩;have z8:ss.Perm (R.map fun n:Nat=>(n:Int)):=(B9.trans B3).trans hp;have dY:ss.length=R.length:=by simpa using z8.length_eq
 have adN:(R.map fun n:Nat=>(n:Int)).Pairwise (· < ·):=by
  rw[rl];exact uC.imp fun h=>by omega
 have qF:ss.mergeSort (fun x y=>decide (x≤y))=R.map fun n:Nat=>(n:Int):=by
  have tr:∀a b c:Int,decide (a≤b)=true→decide (b≤c)=true→decide (a≤c)=true:=fun a b c h1 h2=>by simp only[mE] at *;omega
  have to:∀a b:Int,(decide (a≤b)||decide (b≤a))=true:=fun a b=>by simp only[Bool.or_eq_true,mE];omega
  refine List.Perm.eq_of_pairwise (le:=fun a b=>decide (a≤b)=true) (fun a b _ _ h1 h2=>?_) (List.pairwise_mergeSort tr to _) (adN.imp fun h=>?_) ((List.mergeSort_perm _ _).trans z8)
  ·simp only[mE] at h1 h2;omega
  ·simp only[mE];omega
 rw[qF,dY,nB] at IM;have hN:∃a c,v = .slice a R.length c∧ij w w' 3 1 a R.length c (aD R):=by
  obtain⟨rH,⟨rfl,h0⟩|⟨g,cap,cur,rfl,h1,h2,h3,h4,h5,h6⟩⟩:=IM
  ·have hR:R=[]:=ga h0;subst hR;exact⟨none,0,rfl,ij.nil _ _ _ _⟩
  ·exact⟨_,cap,rfl,some g,⟨by simp[aD], .inr ⟨g,rfl,rfl,by simp[aD], .inr ⟨g,cap,cur,rfl,bh _,h2,h3,h4,h5,h6⟩⟩⟩,fun x hx=>by cases hx;exact h1,fun x hx=>by cases hx;rfl⟩
 obtain⟨a,c,rfl,hN⟩:=hN;obtain⟨q,rfl,aO⟩:=hN.sl hH hE;exact⟨(q,c),rfl,trivial,aO.to⟩
end
section
attribute [local irreducible] GO GX aA eo fz aF aQ ao star
variable {o:Og}{w:World}
def sM (x:Nat×Nat):List Value:=[iV x.1,iV x.2]
theorem Rw (x:Nat×Nat):(sM x).length=2:=rfl
theorem Rx (x:Nat×Nat):∀u∈sM x,u.oneCell'=true:=by
 intro u hu;simp only[sM,bY,tI,or_false] at hu
 rcases hu with rfl|rfl<;>rfl
theorem aeX {m:Nat}{A:List (Int×Bool)}(hs:Start o w [aQ m iV bV A]) :
  aj prog 30 [.map (some m)].toArray w (aU o (fun bx:Nat => .func (.func 63) #[] #[ak bx]) (fun _=>True) (fun bx=>[aA bx [.map (some m)],aQ m iV bV A])):=by
 have hH:=hs.sh;refine aj.enter func30 rfl ntmps30 rfl (gh ?_);refine GX.cw (h:=fun bx w hH=>gh ?_);exact⟨bx,rfl,trivial,hH.to⟩
theorem Lf (f:Nat)(R:List Nat):(gM f R).length≤R.length:=by
 induction R generalizing f with
 |nil=>exact bj _
 |cons x r ih=>
  unfold gM;rw[bJ,dR];have:=ih (x+1);split<;>simp<;>omega
def kU (f:Nat)(R:List Nat)(i:Nat):Nat:=if i=0 then f else R.getD (i - 1) 0+1
theorem Rz {R:List Nat}{f i x:Nat}(h:R[i]?=some x):gM f (R.take (i+1))=gM f (R.take i)++(if kU f R i<x then[(kU f R i,x)] else[]):=by
 obtain⟨g,h1,h2,h3⟩:=abV (f:=f) h;have hg:g=kU f R i:=by
  unfold kU;split
  ·exact h2 (by assumption)
  ·rename_i hi
   have aP:i - 1<R.length:=by have:=(aV.1 h).1;omega
   have:=h3 R[i - 1] ah (bO aP);rw[this,fT,bO aP];rfl
 rw[←hg];exact h1 f rfl
theorem Rv {R:List Nat}{f i x:Nat}(h:R[i]?=some x):kU f R (i+1)=x+1:=by
 unfold kU;rw[if_neg ah,Nat.add_sub_cancel,fT,h];rfl
theorem JL {b up m:Nat}{E:aq}{R:List Nat}(hW:kS E up R m)(hm:m<6000)(hs:Start o w [gk b E up R]) :
  aj prog 13 [ak b].toArray w (aU o (fun q:Option Nat×Nat => .slice (ay q.1) (gM (up+1) R).length q.2) (fun _=>True) (fun q=>[gk b E up R,ao 88 2 q.1 (gM (up+1) R).length q.2 (aK sM (gM (up+1) R))])):=by
 have hH:=hs.sh;have hl:=hW.l;have hb:=hW.b;obtain⟨⟨X,hX⟩,hH⟩:=SH.un hH;replace hH:=SH.ap hH;dsimp only at hH;refine aj.enter func13 rfl ntmps13 rfl (gh ?_);refine GX.aL (hc:=fun _ hs=>AL hs) (h:=fun w hE hH=>gh ?_);refine gh ?_;refine GX.bS (hc:=fun _ hs=>aeX hs) (h:=?_);rintro bx w _ hH;replace hH:=SH.ap hH;refine gh ?_;refine GX.dX (hc:=fun _ hs=>ak4 hX hW.r.so ah (fun x hx=>by have:=hb x hx;omega) hs) (h:=?_);rintro⟨q,c⟩ w _ hE hH;replace hH:=SH.ap hH;have aO:=SH.cE (el:=88) (sz:=2) (q:=none) (n:=0) (c:=0) (cs:=[]) hH (Mod.refl w) (fun _ h=>by cases h) (aG.nil _ _ _);replace hH:=aO;clear aO;obtain⟨Xe,Xm,A⟩:=X;dsimp only at hH hX ⊢;refine gh ?_;refine GC.bP [19,20] (fun y:Nat×Option Nat×Nat=>[(3, .slice (ay y.2.1) (gM (up+1) (R.take y.1)).length y.2.2),(4,iV (kU (up+1) R y.1)),(21,iV y.1)]) (fun y w'=>y.1≤R.length∧SH o w' [ao 88 2 y.2.1 (gM (up+1) (R.take y.1)).length y.2.2 (aK sM (gM (up+1) (R.take y.1))),ao 3 1 q R.length c (aD R),aA b [ak Xe,iV up, .map (some Xm)],bU Xe E,aQ Xm iV bV A]) (fun y=>R.length - y.1) (0,none,0) rfl rfl ⟨bh _,hH.to⟩ ?_;rintro⟨i,q3,c3⟩ w ⟨hi,hH⟩;dsimp only at hi hH ⊢;have oO:kU (up+1) R i≤100000:=by
  unfold kU;split
  ·omega
  ·rw[fT,bO ah];have:=hb _ (ot (l:=R) (n:=i - 1) ah);simp only[nC];omega
 have lK:=Lf (up+1) (R.take i);rw[dE] at lK;refine gh ?_;refine ifs (fun h1=>?_) (fun h1=>?_)<;>refine gh ?_
 ·obtain⟨x,hx⟩:∃x,R[i]?=some x:=⟨_,bO ah⟩
  have fM:=hb x (bF hx);have dt:=Rz (f:=up+1) hx;have zP:=Rv (f:=up+1) hx;obtain⟨qb,rfl⟩:=hH.pos (el:=3) (sz:=1) (q:=q) (n:=R.length);refine gh ?_;refine GX.next rfl (GO.cG (hv:=show(aD R)[i]?=some (iV x) by simp[aD,hx]) (h:=gh ?_))
  by_cases aP:kU (up+1) R i<x
  ·rw[if_pos aP] at dt;rw[show decide ((kU (up+1) R i:Int)<(x:Int))=true from bQ ah];refine gh ?_;refine GX.mK (h1:=by exact Rx (kU (up+1) R i,x)) (h:=fun q c w _ hH=>gh ?_);refine GQ.br (i+1,q,c) (by rw[dt,zP,bJ];rfl) ⟨by dsimp only;omega,?_⟩ (by dsimp only;omega);rw[dt,bJ,kK];exact hH.to
  ·rw[if_neg aP,eY] at dt;rw[show decide ((kU (up+1) R i:Int)<(x:Int))=false from bt ah];refine gh ?_;refine GQ.br (i+1,q3,c3) (by rw[dt,zP];rfl) ⟨by dsimp only;omega,?_⟩ (by dsimp only;omega);rw[dt];exact hH.to
 ·obtain rfl:i=R.length:=by omega
  rw[eO (bj _)] at hH ⊢;refine gh ?_;exact⟨(q3,c3),rfl,trivial,(nh (X:=⟨Xe,Xm,A⟩) hX hH).to⟩
structure vy where
 e:Nat
 q:Option Nat
 c:Nat
abbrev vy.dm (X:vy)(b:Nat)(E:aq)(L:List Nat):List It:=[aA b [ak X.e, .slice (ay X.q) L.length X.c],bU X.e E,ao 3 1 X.q L.length X.c (aD L)]
def lp (b:Nat)(E:aq)(L:List Nat):It:=star fun X:vy=>X.dm b E L
theorem qR {l t:List It}{b:Nat}{X:vy}{E:aq}{L:List Nat}(hH:SH o w l)(hp:Pk l (X.dm b E L) t:=by repeat(first|exact Pk.nil|(apply Pk.cons;repeat(first|exact aB.here|apply aB.there)))):SH o w (lp b E L::t):=
 SH.fold (f:=fun X:vy=>X.dm b E L) X hH hp
theorem ajD {up:Nat}{R:List Nat}(h:y9 up R):(dg up R)[up]?≠some (up+1):=by
 rw[ajC (bj _),Nat.sub_self];intro e;cases R with
 |nil=>cases e
 |cons x r=>
  have:=h.gt x (by simp);simp at e;omega
theorem N8 {b up:Nat}{E:aq}{R:List Nat}(hR:y9 up R)(hl:up+R.length<2^30)(hs:Start o w [lp b E (dg up R)]):aj prog 47 [ak b].toArray w (Po o (iV up) [lp b E (dg up R)]):=by
 have hH:=hs.sh;have hlen:=O3 up R;have ux:=ajD hR;have iZ:=fun i=>@ajB up i R
 generalize dg up R=L at hH hlen ux iZ ⊢;obtain⟨X,hH⟩:=SH.un hH;replace hH:=SH.ap hH;obtain⟨Xe,Xq,Xc⟩:=X;dsimp only at hH;refine aj.enter func47 rfl ntmps47 rfl (gh ?_);refine GC.bP [0] (fun i:Nat=>[(3,iV i)]) (fun i w'=>i≤up∧SH o w' [aA b [ak Xe, .slice (ay Xq) L.length Xc],bU Xe E,ao 3 1 Xq L.length Xc (aD L)]) (fun i=>up - i) 0 rfl rfl ⟨bh _,hH.to⟩ ?_;rintro i w ⟨hi,hH⟩;refine gh ?_
 by_cases h1:i<L.length
 case neg=>
  rw[show decide ((i:Int)<(L.length:Int))=false from bt ah];refine gh ?_;obtain rfl:i=up:=by omega
  exact⟨rfl,(qR (X:=⟨Xe,Xq,Xc⟩) hH).to⟩
 rw[show decide ((i:Int)<(L.length:Int))=true from bQ ah];obtain⟨x,hx⟩:∃x,L[i]?=some x:=⟨_,bO h1⟩
 obtain⟨qb,rfl⟩:=hH.pos (el:=3) (sz:=1) (q:=Xq) (n:=L.length);refine gh ?_;refine GX.next rfl (GO.cG (hv:=show(aD L)[i]?=some (iV x) by simp[aD,hx]) (h:=gh ?_))
 by_cases h2:i<up
 ·have:=iZ i h2;rw[hx] at this;obtain rfl:=Option.some.inj this;rw[show decide (((i+1:Nat):Int)=(i:Int)+1)=true from bQ ah];refine gh ?_;exact GQ.br (i+1) rfl ⟨by omega,hH.to⟩ ah
 ·obtain rfl:i=up:=by omega
  have aR:x≠i+1:=fun e=>ux (by rw[hx,e])
  rw[show decide ((x:Int)=(i:Int)+1)=false from bt ah];refine gh ?_;exact⟨rfl,(qR (X:=⟨Xe,some qb,Xc⟩) hH).to⟩
theorem Sf {up:Nat}{R:List Nat}(h:y9 up R)(n:Int):mr (dg up R) n=vT up R n:=by
 apply Bool.eq_iff_iff.2;unfold vT;simp only[mr,xp,oq,Bool.or_eq_true,mE];constructor
 ·rintro⟨k,hk,rfl⟩
  rcases JW.1 hk with hk|hk
  ·exact⟨by omega, .inl ah⟩
  ·have:=h.gt k hk;exact⟨by omega, .inr ⟨k,hk,rfl⟩⟩
 ·rintro⟨h1,h2|⟨k,hk,rfl⟩⟩
  ·exact⟨n.toNat,JW.2 (.inl ah),by omega⟩
  ·exact⟨k,JW.2 (.inr hk),rfl⟩
theorem aeq {L:List Nat}{i x:Nat}{n:Int}(h:L[i]?=some x):mr (L.take (i+1)) n=(mr (L.take i) n||decide ((x:Int)=n)):=by
 unfold mr;rw[ic,h,List.any_append];simp
theorem V3 {b:Nat}{E:aq}{L:List Nat}(hl:L.length<2^30)(n:Int)(hs:Start o w [lp b E L]):aj prog 50 [ak b,iV n].toArray w (Po o (.bool (mr L n)) [lp b E L]):=by
 have hH:=hs.sh;obtain⟨X,hH⟩:=SH.un hH;replace hH:=SH.ap hH;obtain⟨Xe,Xq,Xc⟩:=X;dsimp only at hH;refine aj.enter func50 rfl ntmps50 rfl (gh ?_);refine GC.bP [0,1] (fun i:Nat=>[(5,iV i)]) (fun i w'=>i≤L.length∧mr (L.take i) n=false∧SH o w' [aA b [ak Xe, .slice (ay Xq) L.length Xc],bU Xe E,ao 3 1 Xq L.length Xc (aD L)]) (fun i=>L.length - i) 0 rfl rfl ⟨bh _,rfl,hH.to⟩ ?_;rintro i w ⟨hi,bG,hH⟩;refine gh ?_;refine ifs (fun h1=>?_) (fun h1=>?_)<;>refine gh ?_
 ·obtain⟨x,hx⟩:∃x,L[i]?=some x:=⟨_,bO ah⟩
  obtain⟨qb,rfl⟩:=hH.pos (el:=3) (sz:=1) (q:=Xq) (n:=L.length);refine gh ?_;refine GX.next rfl (GO.cG (hv:=show(aD L)[i]?=some (iV x) by simp[aD,hx]) (h:=gh ?_))
  by_cases h2:(x:Int)=n
  ·rw[show decide ((x:Int)=n)=true from bQ h2];refine gh ?_;refine⟨?_,(qR (X:=⟨Xe,some qb,Xc⟩) hH).to⟩;rw[show mr L n=true from xp.2 ⟨x,bF hx,bQ h2⟩]
  ·rw[show decide ((x:Int)=n)=false from bt h2];refine gh ?_;refine GQ.br (i+1) rfl ⟨by omega,?_,hH.to⟩ ah;rw[aeq hx,bG,bt h2];rfl
 ·obtain rfl:i=L.length:=by omega
  rw[eO (bj _)] at bG;refine gh ?_;rw[bG];exact⟨rfl,(qR (X:=⟨Xe,Xq,Xc⟩) hH).to⟩
theorem VZ {b:Nat}{E:aq}{L:List Nat}(hl:L.length<2^20)(hb:∀x∈L,x≤90000)(hs:Start o w [lp b E L]) :
  aj prog 48 [ak b].toArray w (aU o (fun q:Option Nat×Nat => .slice (ay q.1) (gM 1 L).length q.2) (fun _=>True) (fun q=>[lp b E L,ao 88 2 q.1 (gM 1 L).length q.2 (aK sM (gM 1 L))])):=by
 have hH:=hs.sh;obtain⟨X,hH⟩:=SH.un hH;replace hH:=SH.ap hH;obtain⟨Xe,Xq,Xc⟩:=X;dsimp only at hH;refine aj.enter func48 rfl ntmps48 rfl (gh ?_);have aO:=SH.cE (el:=88) (sz:=2) (q:=none) (n:=0) (c:=0) (cs:=[]) hH (Mod.refl w) (fun _ h=>by cases h) (aG.nil _ _ _);replace hH:=aO;clear aO;refine GC.bP [0] (fun y:Nat×Option Nat×Nat=>[(3, .slice (ay y.2.1) (gM 1 (L.take y.1)).length y.2.2),(4,iV (kU 1 L y.1)),(5,iV y.1)]) (fun y w'=>y.1≤L.length∧SH o w' [ao 88 2 y.2.1 (gM 1 (L.take y.1)).length y.2.2 (aK sM (gM 1 (L.take y.1))),aA b [ak Xe, .slice (ay Xq) L.length Xc],bU Xe E,ao 3 1 Xq L.length Xc (aD L)]) (fun y=>L.length - y.1) (0,none,0) rfl rfl ⟨bh _,hH.to⟩ ?_;rintro⟨i,q3,c3⟩ w ⟨hi,hH⟩;dsimp only at hi hH ⊢;have oO:kU 1 L i≤100000:=by
  unfold kU;split
  ·omega
  ·rw[fT,bO ah];have:=hb _ (ot (l:=L) (n:=i - 1) ah);simp only[nC];omega
 have lK:=Lf 1 (L.take i);rw[dE] at lK;refine gh ?_;refine ifs (fun h1=>?_) (fun h1=>?_)<;>refine gh ?_
 ·obtain⟨x,hx⟩:∃x,L[i]?=some x:=⟨_,bO ah⟩
  have fM:=hb x (bF hx);have dt:=Rz (f:=1) hx;have zP:=Rv (f:=1) hx;obtain⟨qb,rfl⟩:=hH.pos (el:=3) (sz:=1) (q:=Xq) (n:=L.length);have hv:(aD L)[i]?=some (iV x):=by simp[aD,hx]
  refine gh ?_;refine GX.next rfl (GO.cG (hv:=hv) (h:=gh ?_))
  by_cases aP:kU 1 L i<x
  ·rw[if_pos aP] at dt;rw[show decide ((kU 1 L i:Int)<(x:Int))=true from bQ ah];refine gh ?_;refine GX.next rfl (GO.cG (hv:=hv) (h:=gh ?_));refine GX.mK (h1:=by exact Rx (kU 1 L i,x)) (h:=fun q c w _ hH=>gh ?_);refine GX.next rfl (GO.cG (hv:=hv) (h:=gh ?_));refine GQ.br (i+1,q,c) (by rw[dt,zP,bJ];rfl) ⟨by dsimp only;omega,?_⟩ (by dsimp only;omega);rw[dt,bJ,kK];exact hH.to
  ·rw[if_neg aP,eY] at dt;rw[show decide ((kU 1 L i:Int)<(x:Int))=false from bt ah];refine gh ?_;refine GX.next rfl (GO.cG (hv:=hv) (h:=gh ?_));refine GQ.br (i+1,q3,c3) (by rw[dt,zP];rfl) ⟨by dsimp only;omega,?_⟩ (by dsimp only;omega);rw[dt];exact hH.to
 ·obtain rfl:i=L.length:=by omega
  rw[eO (bj _)] at hH ⊢;refine gh ?_;exact⟨(q3,c3),rfl,trivial,(qR (X:=⟨Xe,Xq,Xc⟩) hH).to⟩
end
end Go.Proofs.YtmlpbmgfmnmmmaaGreat.V.M
