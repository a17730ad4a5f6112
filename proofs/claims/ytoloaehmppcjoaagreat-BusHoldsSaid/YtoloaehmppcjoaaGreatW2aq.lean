/-
  Parts of the proof. No condition.
-/
import Derived.Test.YtoloaehmppcjoaaGreatW2ap
import Derived.Test.YtoloaehmppcjoaaGreatW2am
set_option linter.unusedVariables false
set_option linter.unusedSimpArgs false
set_option maxRecDepth 8000
set_option maxHeartbeats 8000000
open Go.Proofs.Tryz
namespace Go.Proofs.YtoloaehmppcjoaaGreat.V.M
section
attribute [local irreducible] GO GX aB fz aF aS aq star
variable {o:Og}{w:World}
theorem lQ.get {M:List (Int×Int)}{L:List Tm}(h:lQ M L){x:Tm}(hx:x∈L):∃i:Nat,L[i]?=some x∧ay M (x.1:Int)=some (i:Int):=by
 obtain⟨i,hi⟩:=List.mem_iff_getElem?.1 hx;exact⟨i,hi,h.1 i x hi⟩
theorem lQ.none {M:List (Int×Int)}{L:List Tm}(h:lQ M L){n:Nat}(hn:∀x∈L,x.1≠n):ay M (n:Int)=none:=by
 cases hm:ay M (n:Int) with
 |none=>rfl
 |some v=>
  obtain⟨x,hx,e⟩:=h.2.1 _ _ hm;exact absurd (Int.ofNat.inj e).symm (hn x hx)
theorem Mo {h:Nat}{L:List Tm}(n:Nat)(hn:n<1048576)(b:Bool)(hs:Start o w [fz (kR h L)]) :
  aj prog 275 [ak h,iV n, .bool b].toArray w (Po o (iV (if∃x∈L,x.1=n then(if b then 0 else 11) else(if b then 9 else 0))) []):=by
 have hH:=hs.sh;refine aj.enter func275 rfl ntmps275 rfl (gh ?_);refine GX.aM (hc:=fun _ hs=>ND hs) (h:=fun w hE hH=>gh ?_);obtain⟨⟨⟨q,c,e,M⟩,hM⟩,hH⟩:=SH.dV hH;replace hH:=SH.ed hH;dsimp only at hH;refine gh ?_
 by_cases hx:∃x∈L,x.1=n
 ·obtain⟨x,ke,rfl⟩:=hx;obtain⟨i,_,hm⟩:=hM.get ke;refine GX.mN (hV:=show jA iV _ true _ = .tuple #[iV i, .bool true] from by rw[hm];rfl) (h:=gh ?_);refine ifs (fun h1=>?_) (fun h1=>?_)<;>refine gh ?_
  ·omega
  rw[if_pos ⟨x,ke,rfl⟩];cases b
  ·refine gh ?_;exact⟨rfl,hH.to⟩
  ·refine gh ?_;exact⟨rfl,hH.to⟩
 ·have hm:=hM.none (n:=n) fun x ke e=>hx ⟨x,ke,e⟩
  refine GX.mN (hV:=show jA iV _ true _ = .tuple #[iV 0, .bool false] from by rw[hm];rfl) (h:=gh ?_);refine ifs (fun h1=>?_) (fun h1=>?_)<;>refine gh ?_
  ·omega
  rw[if_neg hx];cases b
  ·refine gh ?_;exact⟨rfl,hH.to⟩
  ·refine gh ?_;exact⟨rfl,hH.to⟩
def fV (h:Nat)(D:List Tm):It:=star fun L:{ L:List Tm // L.Perm D∧Hp L∧kF L}=>[kR h L.1]
instance {h:Nat}{D:List Tm}:Zf (fV h D):=Zf.star fun _=>inferInstance
theorem BZ {l t:List It}{h:Nat}{L D:List Tm}(hH:SH o w l)(hP:L.Perm D)(hp:Hp L)(hL:kF L)(hp:Pk l [kR h L] t:=by repeat(first|exact Pk.nil|(apply Pk.cons;repeat(first|exact az.here|apply az.there)))):SH o w (fV h D::t):=
 SH.fold (f:=fun L:{ L:List Tm // L.Perm D∧Hp L∧kF L}=>[kR h L.1]) ⟨L,hP,by assumption,hL⟩ hH hp
theorem adI (hs:Start o w []):aj prog 107 ([]:List Value).toArray w (aX o ak (fun _=>True) (fun h=>[fV h []])):=by
 have hH:=hs.sh;refine aj.enter func107 rfl ntmps107 rfl (gh ?_);refine GX.yD (iV:Int→Value) (iV:Int→Value) (h:=fun m w hH=>gh ?_);refine GX.cI (h:=fun h w hH=>gh ?_);have aQ:=SH.cF (el:=234) (sz:=2) (q:=none) (n:=0) (c:=0) (cs:=[]) hH (Mod.refl w) (fun _ h=>by cases h) (aH.nil _ _ _);have hA:lQ [] []:=⟨fun i x hx=>by simp at hx,fun k v hv=>(by simp[ay] at hv),lP⟩
 exact⟨h,rfl,trivial,(BZ (B1 (q:=none) (L:=[]) (M:=[]) aQ hA) (L:=[]) (D:=[]) (.refl _) (fun j _ hj=>(by simp at hj)) ⟨fun x hx=>(by cases hx),by simp⟩).to⟩
theorem lQ.put {M:List (Int×Int)}{L:List Tm}(h:lQ M L){x:Tm}(hn:∀y∈L,y.1≠x.1):lQ (bC M (x.1:Int) (L.length:Int)) (L++[x]):=by
 refine⟨fun i y hy=>?_,fun k v hv=>?_,sB h.2.2 _ _⟩
 ·rw[kU]
  rcases qz i L.length with hi|hi
  ·rw[gp hi] at hy;rw[if_neg (fun e:((y.1:Nat):Int)=(x.1:Int)=>hn y (bD hy) ah)];exact h.1 i y hy
  ·have wi:=(aV.1 hy).1;simp only[bH,gW] at wi;obtain rfl:i=L.length:=by omega
   simp at hy;rw[←hy,if_pos rfl]
 ·rw[kU] at hv;split at hv
  ·exact⟨x,by simp,by assumption⟩
  ·obtain⟨y,hy,e⟩:=h.2.1 k v hv;exact⟨y,tZ _ hy,e⟩
theorem Un {L:List Tm}{x:Tm}{j:Nat}(h:j<L.length):cY (L++[x]) j=cY L j:=by rw[cY,cY,gp h]
theorem Hp.app {L:List Tm}(h:Hp L)(x:Tm):C9 (L++[x]) L.length:=by
 refine⟨fun j j0 jl jk jp=>?_,fun _ c c0 cl ck=>?_⟩
 ·simp only[bH,gW] at jl;rw[Un ah,Un ah];exact h j j0 ah
 ·simp only[bH,gW] at cl;omega
theorem ad0 {h:Nat}{D:List Tm}(n t:Nat)(hn:n<1048576)(ht:t<18446744073709551616)(hN:∀x∈D,x.1≠n)(hl:D.length<1048576)(hs:Start o w [fV h D]):aj prog 325 [ak h,iV n,uV t].toArray w (Po o (iV 0) [fV h (D++[(n,t)])]):=by
 have hH:=hs.sh;obtain⟨⟨L,hP,hp,hL⟩,hH⟩:=SH.un hH;replace hH:=SH.ap hH;dsimp only at hH;have hlen:=hP.length_eq;refine aj.enter func325 rfl ntmps325 rfl (gh ?_);refine GX.aM (hc:=fun _ hs=>Mo n hn false hs) (h:=fun w hE hH=>gh ?_);have bz:¬∃x∈L,x.1=n:=fun⟨x,hx,e⟩=>hN x (hP.mem_iff.1 hx) e
 rw[if_neg bz];refine gh ?_;obtain⟨⟨⟨q,c,e,M⟩,hM⟩,hH⟩:=SH.un hH;replace hH:=SH.ap hH;dsimp only at hH;refine gh ?_;refine GC.br (pl:=(bg [0,3,6,12,15,18,21,10,25,27,32])) (T:=fun _=>False) (hm:=mixed) (h:=fun w hE hH=>gh ?_);refine GX.As (v:=(L.length:Int)) (h:=fun w hH=>gh ?_);refine GX.nR (h1:=by simp[Value.oneCell']) (h:=fun q c w _ hH=>gh ?_);refine GX.dC (h:=fun w hH=>gh ?_);have IN:∀y∈L,y.1≠n:=fun y hy=>hN y (hP.mem_iff.1 hy)
 replace hH:=B1 (L:=L++[(n,t)]) hH (hM.put (x:=(n,t)) IN) (e1:=by simp) (e2:=(lH L (n,t)).symm);have zG:kF (L++[(n,t)]):=⟨fun x hx=>by
  rcases cx.1 hx with hx|hx
  ·exact hL.1 x hx
  ·simp at hx;subst hx;exact⟨hn,ht⟩,by simp;omega⟩
 rw[show((L.length+1:Nat):Int) - 1=(L.length:Int) by omega];refine GX.bZ (hc:=fun _ hs=>XC zG L.length (by simp) (hp.app (n,t)) hs) (h:=?_);rintro N w ⟨fM,DX,zD⟩ hH;replace hH:=SH.ap hH;refine gh ?_;exact⟨rfl,(BZ hH (fM.trans (hP.append_right _)) zD DX).to⟩
theorem aeV {L:List Tm}{k j:Nat}(h:j<k):cY (L.take k) j=cY L j:=by rw[cY,cY,C5 h]
theorem lQ.cut {M:List (Int×Int)}{L:List Tm}(h:lQ M L){k:Nat}{x:Tm}(hk:L[k]?=some x)(hl:k+1=L.length):lQ (bB M (x.1:Int)) (L.take k):=by
 refine⟨fun i y hy=>?_,fun q v hv=>?_,h.2.2.sublist ((xm M _).map _)⟩
 ·have hi:i<k:=by have:=(aV.1 hy).1;simp at this;omega
  rw[C5 hi] at hy;rw[iS h.2.2,if_neg (fun e:((y.1:Nat):Int)=(x.1:Int)=>by have:=h.uniq hy hk ah;omega)];exact h.1 i y hy
 ·rw[iS h.2.2] at hv;split at hv
  ·cases hv
  ·rename_i aP
   obtain⟨y,hy,e⟩:=h.2.1 q v hv;obtain⟨i,hi⟩:=List.mem_iff_getElem?.1 hy;have eY:=(aV.1 hi).1
   rcases Nat.decEq i k with Ev|Ev
   ·refine⟨y,bD (i:=i) ?_,e⟩;rw[C5 ah];exact hi
   ·subst Ev;rw[hk] at hi;cases hi;exact absurd e aP
theorem Hp.cut {L:List Tm}(h:Hp L){i:Nat}(hi:i<L.length):(i<L.length - 1→C9 ((gk L i (L.length - 1)).take (L.length - 1)) i)∧(i=L.length - 1→Hp ((gk L i (L.length - 1)).take (L.length - 1))):=by
 have zN:L.length - 1<L.length:=by omega
 have e:∀j,j<L.length - 1→cY ((gk L i (L.length - 1)).take (L.length - 1)) j=if j=i then cY L (L.length - 1) else cY L j:=fun j hj=>by rw[aeV hj,Pj hi zN,if_neg ah]
 have hl:((gk L i (L.length - 1)).take (L.length - 1)).length=L.length - 1:=by simp[qu]
 refine⟨fun eY=>⟨fun j j0 jl jk jp=>?_,fun i0 c c0 cl ck=>?_⟩,fun eY j j0 jl=>?_⟩
 ·rw[hl] at jl;rw[e _ ah,e _ jl,if_neg jk,if_neg jp];exact h j j0 ah
 ·rw[hl] at cl;rw[e _ ah,e _ cl,if_neg ah,if_neg ah];have h1:=h i i0 ah;have h2:=h c c0 ah;rw[ck] at h2;omega
 ·rw[hl] at jl;rw[e _ ah,e _ jl,if_neg ah,if_neg ah];exact h j j0 ah
theorem alC {α:Type}{L:List α}{k:Nat}{x:α}(h:L[k]?=some x)(hl:k+1=L.length):L=L.take k++[x]:=by
 have:=gv (l:=L) (i:=k);rw[h,fw ah] at this;exact this
theorem M8 {h:Nat}{D D':List Tm}(n t:Nat)(hn:n<1048576)(hD:D.Perm ((n,t)::D'))(hs:Start o w [fV h D]):aj prog 198 [ak h,iV n].toArray w (Po o (.tuple #[uV t,iV 0]) [fV h D']):=by
 have hH:=hs.sh;obtain⟨⟨L,hP,hp,hL⟩,hH⟩:=SH.un hH;replace hH:=SH.ap hH;dsimp only at hH;have IB:=hL.2;have dN:(n,t)∈L:=hP.mem_iff.2 (hD.mem_iff.2 (by simp));refine aj.enter func198 rfl ntmps198 rfl (gh ?_);refine GX.aM (hc:=fun _ hs=>Mo n hn true hs) (h:=fun w hE hH=>gh ?_);rw[if_pos ⟨_,dN,rfl⟩];refine gh ?_;obtain⟨⟨⟨q,c,e,M⟩,hM⟩,hH⟩:=SH.un hH;replace hH:=SH.ap hH;dsimp only at hH;obtain⟨i,hi,hm⟩:=hM.get dN;have eY:=(aV.1 hi).1;obtain⟨a,rfl⟩:=hH.pos (cs:=aL lM L);refine gh ?_;refine GC.br (pl:=(bg [0,3,6,12,18,21,24,10,16,36,28,30,33,39])) (T:=fun _=>False) (hm:=mixed) (h:=fun w hE hH=>gh ?_);refine GX.read rfl (GO.NZ (hV:=show jA iV _ false _=iV i from by rw[hm];rfl) (h:=gh ?_));refine GX.next rfl (GO.cT (hv:=mS nG hi (j:=1) rfl) (h:=gh ?_));replace hH:=B1 (L:=L) hH hM;rw[show((L.length:Nat):Int) - 1=((L.length - 1:Nat):Int) by omega];refine GX.bF (hc:=fun _ hs=>Pm hL.2 i (L.length - 1) eY ah hs) (h:=fun w hH=>gh ?_);obtain⟨⟨⟨q,c,e,M'⟩,uw⟩,hH⟩:=SH.un hH;replace hH:=SH.ap hH;dsimp only at hH;refine gh ?_;have ep:=qu L i (L.length - 1);refine GX.K9 (c:=L.length - 1) (h:=fun hH=>gh ?_);refine GX.dC (h:=fun w hH=>gh ?_);refine GX.Jt (h:=fun w hH=>gh ?_);have hx:(gk L i (L.length - 1))[L.length - 1]?=some (n,t):=by rw[yV eY ah,if_pos rfl,hi]
 replace hH:=B1 (L:=(gk L i (L.length - 1)).take (L.length - 1)) hH (uw.cut hx ah) (e1:=by simp[ep]) (e2:=aiV nG _);have RW:((gk L i (L.length - 1)).take (L.length - 1)).Perm D':=by
  have e1:=alC hx ah;have e2:((gk L i (L.length - 1)).take (L.length - 1)++[(n,t)]).Perm ((n,t)::D'):=by
   rw[←e1];exact(CV eY ah).trans (hP.trans hD)
  exact((List.perm_append_singleton _ _).symm.trans e2).cons_inv
 have rQ:kF ((gk L i (L.length - 1)).take (L.length - 1)):=⟨fun x hx=>hL.1 x ((CV eY ah).mem_iff.1 (List.mem_of_mem_take hx)),by simp;omega⟩
 obtain⟨Ef,uA⟩:=hp.cut eY;refine gh ?_;refine ifs (fun h1=>?_) (fun h1=>?_)<;>refine gh ?_
 ·refine GX.bZ (hc:=fun _ hs=>XC rQ i (by simp[ep];omega) (Ef ah) hs) (h:=?_);rintro N w ⟨fM,DX,zD⟩ hH;replace hH:=SH.ap hH;refine gh ?_;exact⟨rfl,(BZ hH (fM.trans RW) zD DX).to⟩
 ·refine gh ?_;exact⟨rfl,(BZ hH RW (uA ah) rQ).to⟩
theorem MZ {h:Nat}{D:List Tm}(n:Nat)(hn:n<1048576)(hD:∀x∈D,x.1≠n)(hs:Start o w [fV h D]):aj prog 198 [ak h,iV n].toArray w (Po o (.tuple #[uV 0,iV 9]) [fV h D]):=by
 have hH:=hs.sh;obtain⟨⟨L,hP,hp,hL⟩,hH⟩:=SH.un hH;replace hH:=SH.ap hH;dsimp only at hH;refine aj.enter func198 rfl ntmps198 rfl (gh ?_);refine GX.aM (hc:=fun _ hs=>Mo n hn true hs) (h:=fun w hE hH=>gh ?_);rw[if_neg (fun⟨x,hx,e⟩=>hD x (hP.mem_iff.1 hx) e)];refine gh ?_;exact⟨rfl,(BZ hH hP hp hL).to⟩
def PD (D:List Tm)(x:Tm×Int):Prop:=(D=[]∧x=((0,0),9))∨(x.2=0∧x.1∈D∧∀y∈D,xp x.1≤xp y)
theorem SD {h:Nat}{D:List Tm}(hs:Start o w [fz (fV h D)]):aj prog 196 [ak h].toArray w (aX o (fun x:Tm×Int => .tuple #[.agg (lM x.1).toArray,iV x.2]) (PD D) (fun _=>[])):=by
 have hH:=hs.sh;obtain⟨⟨L,hP,hp,hL⟩,hH⟩:=SH.dV hH;replace hH:=SH.ed hH;dsimp only at hH;have IB:=hL.2;refine aj.enter func196 rfl ntmps196 rfl (gh ?_);refine GX.cA (h:=fun z w hH=>gh ?_);refine GX.aM (hc:=fun _ hs=>ND hs) (h:=fun w hE hH=>gh ?_);obtain⟨⟨⟨q,c,e,M⟩,hM⟩,hH⟩:=SH.dV hH;replace hH:=SH.ed hH;dsimp only at hH;refine gh ?_;refine ifs (fun h1=>?_) (fun h1=>?_)<;>refine gh ?_
 ·refine GX.bt (h:=fun w hH=>gh ?_);have hD:D=[]:=by
   have:L=[]:=gu ah;subst this;exact hP.symm.eq_nil
  exact⟨((0,0),9),rfl, .inl ⟨hD,rfl⟩,hH.to⟩
 ·have h0:0<L.length:=by omega
  obtain⟨a,rfl⟩:=hH.l8 (cs:=aL lM L);refine gh ?_;refine GX.next rfl (GO.kg (hv:=ku nG (bO h0)) (h:=gh ?_));refine GX.bt (h:=fun w hH=>gh ?_);refine⟨(L[0],0),rfl, .inr ⟨rfl,hP.mem_iff.1 (pI h0),fun y hy=>?_⟩,hH.to⟩;obtain⟨j,hj⟩:=List.mem_iff_getElem?.1 (hP.mem_iff.2 hy);have:=hp.first j j (aY _) (aV.1 hj).1;rw[Uo hj,NP h0] at this;exact this
structure PB where
 out:List Tm
 rest:List Tm
 q:Option Nat
 c:Nat
 x:Tm×Int
theorem aaV {a b now:Nat}(h:due b now=true)(fg:a≤b)(hb:b≤never):due a now=true:=by
 unfold due at h ⊢;simp at h ⊢;omega
theorem adV {h:Nat}{D:List Tm}{l r:List It}(hH:SH o w l)(hs:az (fV h D) l r:=by repeat(first|exact az.here|apply az.there)):kF D:=by
 obtain⟨⟨L,hP,hp,hL⟩,_⟩:=SH.un hH hs;exact⟨fun x hx=>hL.1 x (hP.mem_iff.2 hx),by rw[←hP.length_eq];exact hL.2⟩
theorem adg {h:Nat}{D:List Tm}(now:Nat)(hs:Start o w [fV h D]) :
  aj prog 128 [ak h,uV now].toArray w (aX o (fun y:PB => .tuple #[.slice (aA y.q) y.out.length y.c,iV 0]) (fun y=>D.Perm (y.out++y.rest)∧(∀x∈y.out,due x.2 now=true)∧∀x∈y.rest,due x.2 now=false) (fun y=>[fV h y.rest,aq 234 2 y.q y.out.length y.c (aL lM y.out)])):=by
 have hH:=hs.sh;have hD:=adV hH;have hlen:=hD.2;refine aj.enter func128 rfl ntmps128 rfl (gh ?_);refine GX.ef (hc:=fun _ hs=>SD hs) (h:=?_);rintro x w hF hE hH;replace hH:=SH.ap hH;refine gh ?_;refine GX.cA (h:=fun z w hH=>gh ?_);refine GX.bt (h:=fun w hH=>gh ?_);have aQ:=SH.cF (el:=234) (sz:=2) (q:=none) (n:=0) (c:=0) (cs:=[]) hH (Mod.refl w) (fun _ h=>by cases h) (aH.nil _ _ _);replace hH:=aQ;clear aQ;refine GC.bR [0,1,7] (fun y:PB=>[(6, .slice (aA y.q) y.out.length y.c),(8,iV y.x.2)]) (fun y w'=>PD y.rest y.x∧D.Perm (y.out++y.rest)∧(∀x∈y.out,due x.2 now=true)∧SH o w' [fV h y.rest,aB z (lM y.x.1),aq 234 2 y.q y.out.length y.c (aL lM y.out)]) (fun y=>y.rest.length) ⟨[],D,none,0,x⟩ rfl rfl ⟨hF, .refl _,fun _ h=>(by cases h),hH.to⟩ ?_;rintro⟨out,rest,q,c,⟨y,m⟩⟩ w ⟨hF,hP,hO,hH⟩;simp only at hF hP hO hH;have hl:=hP.length_eq;simp only[bH] at hl;dsimp only
 rcases hF with⟨rfl,e⟩|⟨rfl,hm,Te⟩
 ·obtain⟨rfl,rfl⟩:=Prod.mk.inj e;refine gh ?_;exact⟨⟨out,[],q,c,((0,0),9)⟩,rfl,⟨hP,hO,fun _ h=>(by cases h)⟩,hH.to⟩
 simp only at hm Te;have aU:=hD.1 y (hP.mem_iff.2 (List.mem_append_right _ hm));refine gh ?_;refine GX.da (Dz y.2 now _) rfl rfl rfl rfl rfl rfl (gh ?_);cases BE:due y.2 now with
 |false=>
  refine gh ?_;refine⟨⟨out,rest,q,c,(y,0)⟩,rfl,⟨hP,hO,fun x hx=>?_⟩,hH.to⟩;have Ny:=hD.1 x (hP.mem_iff.2 (List.mem_append_right _ hx));have hk:=Te x hx;unfold xp at hk;cases Mv:due x.2 now with
  |false=>rfl
  |true=>
   obtain⟨h1,h2⟩:=Ny;rw[aaV Mv ah (by simp only[never];omega)] at BE;cases BE
 |true=>
  refine gh ?_;refine GX.nR (h1:=by exact Yf _) (h:=fun q c w _ hH=>gh ?_);refine GX.bF (hc:=fun _ hs=>M8 y.1 y.2 aU.1 (AY hm) hs) (h:=fun w hH=>gh ?_);refine GX.ef (hc:=fun _ hs=>SD hs) (h:=?_);rintro x2 w vS hE hH;replace hH:=SH.ap hH;refine gh ?_;refine GX.bt (h:=fun w hH=>gh ?_);rw[show out.length+1=(out++[y]).length by simp] at hH ⊢;have jf:=List.length_erase_of_mem hm;have kS:=tX hm;exact GQ.bj ⟨out++[y],rest.erase y,_,_,x2⟩ rfl ⟨vS,hP.trans (by rw[cS];exact List.Perm.append_left _ (AY hm)),fun x hx=>by
   rcases cx.1 hx with hx|hx
   ·exact hO x hx
   ·simp at hx;subst hx;exact BE,by rw[lH];exact hH.to⟩ (by simp only;omega)
theorem aaj {M:List (Int×Int)}{o:Og}{w:World}{b:Nat}(hs:Start o w [fz (aS b iV iV M)]):aj prog 227 [.map (some b)].toArray w (aX o (fun c:Nat => .map (some c)) (fun _=>True) (fun c=>[aS c iV iV M])):=
 VR agj hs
theorem ac7 {h:Nat}{D:List Tm}(hs:Start o w [fz (fV h D)]):aj prog 144 [ak h].toArray w (aX o ak (fun _=>True) (fun b=>[fV b D])):=by
 have hH:=hs.sh;obtain⟨⟨L,hP,hp,hL⟩,hH⟩:=SH.dV hH;replace hH:=SH.ed hH;dsimp only at hH;have hlen:=hL.2;refine aj.enter func144 rfl ntmps144 rfl (gh ?_);refine GX.aM (hc:=fun _ hs=>ND hs) (h:=fun w hE hH=>gh ?_);obtain⟨⟨⟨q,c,e,M⟩,hM⟩,hH⟩:=SH.dV hH;replace hH:=SH.ed hH;dsimp only at hH;have e1:=hH.tK (cs:=aL lM L);refine GC.br (pl:=(bg [0,3,6,15,18,21,10,25,14,29,30,35,36])) (T:=fun _=>False) (hm:=mixed) (h:=fun w hE hH=>gh ?_);refine GX.eG (hc:=fun _ hs=>aap (cs:=aL lM L) ah (gT nG _) e1 (FO Yf _) hs) (h:=?_);rintro⟨q3,c3⟩ w _ HP hH;replace hH:=SH.ap hH;refine gh ?_;refine GX.eG (hc:=fun _ hs=>aaj (M:=M) hs) (h:=?_);rintro m w _ L7 hH;replace hH:=SH.ap hH;refine gh ?_;refine GX.oW (h:=fun b w hS hH=>gh ?_);exact⟨b,rfl,trivial,(BZ (B1 (L:=L) hH hM) hP hp hL).to⟩
end
section
def bJ (l:List It):It:=star fun _:Unit=>l
theorem gb.map {α:Type}{f:α→List It}{l:List α}(h:∀x,gb (f x)):gb (l.map f).flatten:=by
 induction l with
 |nil=>exact⟨fun _ _ _ _ h=>h⟩
 |cons x l ih=>rw[cJ,oL];exact gb.append (h x) ih
theorem Zf.Bj {l:List It}(h:gb l):Zf (bJ l):=Zf.star fun _=>h
theorem SH.pR {o:Og}{w:World}{l:List It}(h:SH o w l):SH o w (bJ []::l):=SH.mk (f:=fun _:Unit=>([]:List It)) () h
theorem SH.KU {o:Og}{w:World}{l r m m':List It}(h:SH o w l)(hp:m.Perm m')(hs:az (bJ m) l r:=by repeat(first|exact az.here|apply az.there)):SH o w (bJ m'::r):=by
 obtain⟨_,h⟩:=SH.un (f:=fun _:Unit=>m) h hs;exact SH.mk (f:=fun _:Unit=>m') () (h.perm (hp.append_right _))
theorem SH.rK {o:Og}{w:World}{l r m:List It}(x m':List It)(h:SH o w l)(hp:m.Perm (x++m'))(hs:az (bJ m) l r:=by repeat(first|exact az.here|apply az.there)):SH o w (x++(bJ m'::r)):=by
 obtain⟨_,h⟩:=SH.un (f:=fun _:Unit=>m) h hs;have h2:SH o w (m'++(x++r)):=h.perm ((hp.append_right r).trans (by rw[cS,←cS,←cS];exact List.perm_append_comm.append_right _));exact(SH.mk (f:=fun _:Unit=>m') () h2).perm (List.perm_middle.symm)
theorem SH.iI {o:Og}{w:World}{l r m:List It}(x m':List It)(h:SH o w l)(hp:Pk l (bJ m'::x) r)(hm:m.Perm (x++m')):SH o w (bJ m::r):=by
 have h1:=h.perm hp.perm;obtain⟨_,h⟩:=SH.un (f:=fun _:Unit=>m') h1 az.here;have h2:SH o w (m'++(x++r)):=h;exact SH.mk (f:=fun _:Unit=>m) () (h2.perm ((by rw[←cS];exact(List.perm_append_comm.trans hm.symm).append_right _)))
theorem SH.abY {o:Og}{w:World}{l r:List It}{x y:It}(h:SH o w l)(hm:∀w Z F,x.ok w Z F→y.ok w Z F)(hs:az (fz x) l r:=by repeat(first|exact az.here|apply az.there)):SH o w (fz y::r):=by
 obtain⟨Z,F,hu,⟨F1,F2,e,hd,⟨⟨F',Z',q1,q2,q3⟩,e2⟩,h2⟩,h3⟩:=h.perm hs.perm;exact⟨Z,F,hu,⟨F1,F2,e,hd,⟨⟨F',Z',q1,q2,hm w Z' F' q3⟩,e2⟩,h2⟩,h3⟩
theorem SH.GP {o:Og}{w:World}{l r m:List It}(x m':List It)(h:SH o w l)(hp:m.Perm (x++m'))(hs:az (fz (bJ m)) l r:=by repeat(first|exact az.here|apply az.there)):SH o w (x.map fz++(fz (bJ m')::r)):=by
 have h1:=h.abY (x:=bJ m) (y:=star fun _:Unit=>x++[bJ m']) (fun w Z F ⟨_,hk⟩=>by
  obtain⟨F1,F2,rfl,hd,k1,k2⟩:=(Sep.perm hp hk).split;exact⟨(),Sep.join (l:=x) (r:=[bJ m']) ⟨F2,fun _=>False,by simp,fun _ _ h=>h,⟨(),k2⟩,rfl⟩ k1 hd⟩) hs
 obtain⟨_,h2⟩:=SH.dV (f:=fun _:Unit=>x++[bJ m']) h1 az.here;rw[eA,cS] at h2;exact h2
section
variable {κ ν:Type}[DecidableEq κ]
def bS (f:κ×ν→List It)(M:List (κ×ν)):List It:=(M.map f).flatten
theorem pq {f:κ×ν→List It}{M:List (κ×ν)}{k:κ}{v:ν}(h:ay M k=some v):(bS f M).Perm (f (k,v)++bS f (bB M k)):=by
 induction M with
 |nil=>simp[ay] at h
 |cons x M ih=>
  obtain⟨a,u⟩:=x;simp only[ay] at h;simp only[bB];split at h
  ·rename_i e;cases h;subst e;rw[if_pos rfl];exact pD _
  ·rename_i e
   rw[if_neg e];show(f (a,u)++bS f M).Perm (f (k,v)++(f (a,u)++bS f (bB M k)));refine((ih h).append_left _).trans ?_;rw[←cS,←cS];exact List.perm_append_comm.append_right _
theorem FG {f:κ×ν→List It}{M:List (κ×ν)}{k:κ}{v:ν}:(bS f (bC M k v)).Perm (f (k,v)++bS f (bB M k)):=by
 induction M with
 |nil=>simp[bS,bC,bB]
 |cons x M ih=>
  obtain⟨a,u⟩:=x;simp only[bC,bB];split
  ·exact pD _
  ·show(f (a,u)++bS f (bC M k v)).Perm (f (k,v)++(f (a,u)++bS f (bB M k)));refine(ih.append_left _).trans ?_;rw[←cS,←cS];exact List.perm_append_comm.append_right _
theorem agR {M:List (κ×ν)}{k:κ}(h:ay M k=none):bB M k=M:=by
 induction M with
 |nil=>rfl
 |cons x M ih=>
  obtain⟨a,u⟩:=x;simp only[ay] at h;simp only[bB];split at h
  ·cases h
  ·rename_i e;rw[if_neg e,ih h]
omit [DecidableEq κ] in
theorem WB {f:κ×ν→List It}{M:List (κ×ν)}(h:∀x,gb (f x)):gb (bS f M):=gb.map h
end
end
section
attribute [local irreducible] GO GX
section
variable {P:Program}{ops:Array Oper}{Q:Exit→Act→World→Prop}{S:World→Prop}{n:Nat}
variable {i m:Nat}{p:b6}{e:Env}{w:World}{k:Kd}{dst:Option Tmp}{ty:TypeId}{pos:String}{an:Array Edge}{g:Option (Nat×Bool)}
variable {og:Og}{l r l':List It}{b:Nat}
theorem W9 {t el:TypeId}{sz aT:Nat}(hf:cr P t el sz aT){b k:Nat}{a2:Option Addr}{len cap m c2:Nat}{cs news:List Value}(hO:aH w el sz (some b) (some ⟨b,0,none⟩) (k+len) (k+cap) cs)(hN:bN w a2 news)(hnl:news.length=m*sz)(h1:∀u∈news,u.oneCell'=true)
  (hb:(len+m)*aT≤140737488355328) (hm:len+m≤140737488355328) (hz:0<sz) (Mz:len+m≤cap∨cap=len) (p8:0<m) :
  (∃w',(Builtin.append_ #[t,t] ty #[.slice (some ⟨b,k*sz,none⟩) len cap, .slice a2 m c2]).run P w = .ok (.slice (some ⟨b,k*sz,none⟩) (len+m) cap) w'∧aH w' el sz (some b) (some ⟨b,0,none⟩) (k+len+m) (k+cap) (cs++news)∧Mod (fun x=>x=b) w w') ∨
  (∃b' c' w',(Builtin.append_ #[t,t] ty #[.slice (some ⟨b,k*sz,none⟩) len cap, .slice a2 m c2]).run P w = .ok (.slice (some ⟨b',0,none⟩) (len+m) c') w'∧aH w' el sz (some b') (some ⟨b',0,none⟩) (len+m) c' (cs.drop (k*sz)++news)∧Ext w w'∧w.heap.size≤b'):=by
 obtain⟨hu,ii,z,hi,kf,hs,mF,iR⟩:=hf.facts;have zX:0<news.length:=by rw[hnl];exact Nat.mul_pos p8 hz
 obtain⟨b2,o2,rfl,vX⟩:=hN.sC zX;have oo:∀j u,news[j]?=some u→w.cell? ((⟨b2,o2,none⟩:Addr).add j)=some u:=fun j u hu=>by rw[iY];exact vX j u hu
 subst hs;subst mF
 by_cases yc:len+m≤cap
 ·left;obtain⟨cur,hg,q1,q2,q3,q4⟩:=rm hO;have hmul:(k+len+m)*ii.size≤(k+cap)*ii.size:=y4 _ ah;have jR:(k+len)*ii.size+news.length≤cur.size:=by rw[hnl,q3,←jm];exact hmul
  have dp:=run_storeCells_cells (P:=P) b ((k+len)*ii.size) news 0 w (fun j hj=>by
   rw[qy,cell_of_row w _ _ cur el _ hg];simp;omega) (fun j hj=>by simp[World.frozen?,hg]) h1
  have xX:=run_firstCells_some (P:=P) w ii.size m ⟨b2,o2,none⟩ m c2 news hnl oo;have hp:=CJ b news ((k+len)*ii.size) w cur el (0,0) hg jR;have gA:aH w el ii.size (some b) (some ⟨b,0,none⟩) (k+cap) (k+cap) cur.toList:=⟨by simpa using q3, .inr ⟨b,rfl,rfl,by simpa using q3, .inr ⟨b,k+cap,cur,rfl,bh _,hg,aY _,q2,q3,by rw[fw];simp;omega⟩⟩⟩
  have h2:=OJ (k:=k+len+m) (q:=some b) (AD gA hp (by simpa using jR)) ah;have e1:(cur.toList.take ((k+len)*ii.size)++news++cur.toList.drop ((k+len)*ii.size+news.length)).take ((k+len+m)*ii.size)=cs++news:=by
   rw[q4,show(k+len+m)*ii.size=(cs++news).length by rw[bH,hO.1,hnl,←jm],vx]
  rw[e1] at h2;refine⟨_,?_,h2,hp.mod⟩;have hle:len+m≤cap:=yc;simp only[qy] at dp;simp[Builtin.append_,run_underlying hu,Go.sizeOf,typeInfo,hi,Builtin.lenOf,hle,xX,iY,←jm,dp]
 ·right;have gO:cap=len:=Mz.resolve_left yc;subst gO;have hl:=hO.1;have jf:(cs.drop (k*ii.size)).length=cap*ii.size:=by rw[ml,hl,jm];omega
  have hr:=run_append_grow (P:=P) w t ty el ii z hu hi kf ⟨b,k*ii.size,none⟩ cap cap (cs.drop (k*ii.size)) jf (fun j u hu=>by
   rw[iY];have:=hO.bL (k*ii.size+j) u (by rw[List.getElem?_drop] at hu;exact hu);simpa using this) ⟨b2,o2,none⟩ m c2 news hnl oo ah ah (growslice_fits ah hb)
  refine⟨w.heap.size,_,_,hr,aH.new ⟨by rw[bH,jf,hnl,jm], .inr ⟨w.heap.size,_,_,rfl,bh _,heap_alloc_new w.drew _,grownCap_ge w (cap+m) cap el,grownCap_le_maxLen w (cap+m) cap el (by unfold maxLen;omega),?_,?_⟩⟩,(Ext.drew w).trans (Ext.alloc w.drew _),aY _⟩
  ·have kQ:=grownCap_ge w (cap+m) cap el;simp only[Array.size_append,xu,size_zeroCells,iR,jf,hnl,←jm];congr 1;omega
  ·have hlen:(cs.drop (k*ii.size)++news).length=(cap+m)*ii.size:=by rw[bH,jf,hnl,jm]
   simp only[Array.toList_append,cS];rw[←cS,←hlen];exact vx
inductive kH (sz:Nat):Option Addr→Nat→Nat→List Value→Type
 |nil:kH sz none 0 0 []
 |dead (b off N C:Nat) (cs:List Value):kH sz (some ⟨b,off,none⟩) 0 0 []
 |on (b k n c:Nat) (pre live:List Value) (h:pre.length=k*sz):kH sz (some ⟨b,k*sz,none⟩) n c live
def kH.dS {sz:Nat}(el:TypeId):∀{a:Option Addr}{n c:Nat}{live:List Value},kH sz a n c live→List It
 |_,_,_,_, .nil=>[]
 |_,_,_,_, .dead b _ N C cs=>[aq el sz (some b) N C cs]
 |_,_,_,_, .on b k n c pre live _=>[aq el sz (some b) (k+n) (k+c) (pre++live)]
def fZ (el:TypeId)(sz:Nat)(a:Option Addr)(n c:Nat)(live:List Value):It:=star fun x:kH sz a n c live=>x.dS el
instance {el:TypeId}{sz:Nat}{a:Option Addr}{n c:Nat}{live:List Value}:Zf (fZ el sz a n c live):=Zf.star fun x=>by cases x<;>(unfold kH.dS;infer_instance)
theorem SH.JH {el:TypeId}{sz:Nat}(hH:SH og w l):SH og w (fZ el sz none 0 0 []::l):=SH.mk (f:=fun x:kH sz none 0 0 []=>x.dS el) .nil hH
theorem SH.wT {el:TypeId}{sz n c:Nat}{q:Option Nat}{cs:List Value}(hH:SH og w l)(hs:az (aq el sz q n c cs) l r:=by repeat(first|exact az.here|apply az.there)):SH og w (fZ el sz (aA q) n c cs::r):=by
 have h1:=hH.perm hs.perm;cases q with
 |some b=>
  have h2:SH og w (aq el sz (some b) (0+n) (0+c) ([]++cs)::r):=by rw[dz,dz];exact h1
  have h3:=SH.mk (f:=fun x:kH sz (some ⟨b,0*sz,none⟩) n c cs=>x.dS el) (.on b 0 n c [] cs (by simp)) h2;rw[vB] at h3;exact h3
 |none=>
  obtain⟨Z,F,hu,⟨F1,F2,e,hd,⟨h2,e2⟩,h3⟩,h4⟩:=h1;obtain⟨h5,⟨_,rfl,_,h0⟩|⟨b,h6,_⟩⟩:=h2
  ·obtain rfl:=h0 rfl;obtain rfl:cs=[]:=gu (by simpa using h5);have e3:F=F2:=by
    rw[e,e2];funext b;simp
   exact SH.JH ⟨Z,F,hu,by rw[e3];exact h3,h4⟩
  ·cases h6
instance {el:TypeId}{sz:Nat}{a:Option Addr}{n c:Nat}{live:List Value}:Rd (fZ el sz a n c live) a live:=⟨fun w Z F ⟨x,hx⟩=>by
 cases x with
 |nil=>exact⟨rfl,fun _ _ h=>by cases h⟩
 |dead b off N C cs=>
  obtain⟨F1,F2,rfl,_,⟨h,rfl⟩,rfl⟩:=hx;exact⟨bN.empty _ _,fun _ y hy=>by cases hy;exact .inl (.inl rfl)⟩
 |on b k n c pre live hk=>
  obtain⟨F1,F2,rfl,_,⟨h,rfl⟩,rfl⟩:=hx;refine⟨fun j v hv=>?_,fun _ y hy=>by cases hy;exact .inl (.inl rfl)⟩;have:=h.bL (k*sz+j) v (by rw[iD ah,hk,C4];exact hv);simpa using this⟩
instance {el:TypeId}{sz:Nat}{a:Option Addr}{n c:Nat}{live:List Value}:Rd (fz (fZ el sz a n c live)) a live:=⟨fun w Z F ⟨⟨F',Z',h1,h2,h⟩,_⟩=>by
 obtain⟨k1,k2⟩:=(inferInstance:Rd (fZ el sz a n c live) a live).out w Z' F' h;exact⟨k1,fun hc y hy => .inr ((k2 hc y hy).elim (h1 _) (h2 _))⟩⟩
theorem SH.Wu {el:TypeId}{sz n c:Nat}{a:Option Addr}{live:List Value}(hH:SH og w l)(hn:0<n)(hs:az (fZ el sz a n c live) l r:=by repeat(first|exact az.here|apply az.there)):SH og w (fZ el sz (fi a 1 c sz) (n - 1) (c - 1) (live.drop sz)::r):=by
 obtain⟨x,hx⟩:=SH.un (f:=fun x:kH sz a n c live=>x.dS el) hH hs;cases x with
 |nil=>omega
 |dead=>omega
 |on b k n c pre live hk=>
  have hx:SH og w (aq el sz (some b) (k+n) (k+c) (pre++live)::r):=hx;have hO:aH w el sz (some b) (aA (some b)) (k+n) (k+c) (pre++live):=let⟨_,_,h,_⟩:=hx.head;h;have hlen:live.length=n*sz:=by have:=hO.1;rw[bH,hk,jm] at this;omega
  obtain⟨_,_,q1,_⟩:=rm hO;unfold fi;split
  ·rename_i hc
   obtain rfl:c=1:=by omega
   obtain rfl:n=1:=by omega
   have e:live.drop sz=[]:=List.drop_eq_nil_of_le ah;rw[e];exact SH.mk (f:=fun x:kH sz (some ⟨b,k*sz,none⟩) 0 0 []=>x.dS el) (.dead b (k*sz) (k+1) (k+1) (pre++live)) hx
  ·have h2:SH og w (aq el sz (some b) (k+1+(n - 1)) (k+1+(c - 1)) ((pre++live.take sz)++live.drop sz)::r):=by
    rw[cS,jW,show k+1+(n - 1)=k+n by omega,show k+1+(c - 1)=k+c by omega];exact hx
   have hle:sz≤live.length:=by rw[hlen];exact Nat.le_mul_of_pos_left _ hn
   have h3:=SH.mk (f:=fun x:kH sz (some ⟨b,(k+1)*sz,none⟩) (n - 1) (c - 1) (live.drop sz)=>x.dS el) (.on b (k+1) (n - 1) (c - 1) (pre++live.take sz) (live.drop sz) (by rw[bH,hk,dI,Nat.succ_mul];omega)) h2;rw[jV,iY,Nat.one_mul,←Nat.succ_mul];exact h3
theorem J4 {t el:TypeId}{sz aT:Nat}(hf:cr P t el sz aT){a a2:Option Addr}{m c2:Nat}{news:List Value}(ha:a=none∨∃b o,a=some ⟨b,o,none⟩)(hN:bN w a2 news)(hnl:news.length=m*sz)
  (hb:m*aT≤140737488355328) (hm:m≤140737488355328) (hz:0<sz) (p8:0<m) :
  ∃b' c' w',(Builtin.append_ #[t,t] ty #[.slice a 0 0, .slice a2 m c2]).run P w = .ok (.slice (some ⟨b',0,none⟩) (0+m) c') w'∧aH w' el sz (some b') (some ⟨b',0,none⟩) (0+m) c' news∧Ext w w'∧w.heap.size≤b':=by
 obtain⟨hu,ii,z,hi,kf,hs,mF,iR⟩:=hf.facts;have zX:0<news.length:=by rw[hnl];exact Nat.mul_pos p8 hz
 obtain⟨b2,o2,rfl,vX⟩:=hN.sC zX;have oo:∀j u,news[j]?=some u→w.cell? ((⟨b2,o2,none⟩:Addr).add j)=some u:=fun j u hu=>by rw[iY];exact vX j u hu
 subst hs;subst mF;have nZ:∀(r:List Value),r=[]→aH (w.drew.alloc (.cells (r.toArray++news.toArray++Builtin.zeroCells z.cells (grownCap w (0+m) 0 el - (0+m))) el)) el ii.size (some w.heap.size) (some ⟨w.heap.size,0,none⟩) (0+m) (grownCap w (0+m) 0 el) news:=by
  rintro _ rfl;have kQ:=grownCap_ge w (0+m) 0 el;have hlen:news.length=(0+m)*ii.size:=by rw[hnl,dz]
  refine aH.new ⟨hlen, .inr ⟨w.heap.size,_,_,rfl,bh _,heap_alloc_new w.drew _,kQ,grownCap_le_maxLen w (0+m) 0 el (by unfold maxLen;omega),?_,?_⟩⟩
  ·simp only[Array.size_append,xu,size_zeroCells,iR,vz,hlen,dz,←jm] at kQ ⊢;congr 1;omega
  ·simp only[Array.toList_append,cS,kC];rw[←hlen];exact vx
 rcases ha with rfl|⟨b,o,rfl⟩
 ·have hr:=run_append_nil (P:=P) w t ty el ii z hu hi kf ⟨b2,o2,none⟩ m c2 news hnl oo p8 ah ah;have h2:=nZ [] rfl;simp only[dz,kC,Array.empty_append] at h2 ⊢;exact⟨w.heap.size,_,_,hr,h2,(Ext.drew w).trans (Ext.alloc w.drew _),aY _⟩
 ·have hr:=run_append_grow (P:=P) w t ty el ii z hu hi kf ⟨b,o,none⟩ 0 0 [] (by simp) (fun j u hu=>by simp at hu) ⟨b2,o2,none⟩ m c2 news hnl oo ah ah (growslice_fits ah (by simpa using hb));exact⟨w.heap.size,_,_,hr,nZ [] rfl,(Ext.drew w).trans (Ext.alloc w.drew _),aY _⟩
theorem GX.amg [Fr]{d:Tmp}{x y:Operand}{t el:TypeId}{sz aT:Nat}{a:Option Addr}{len cap:Nat}{cs vs:List Value}{v:Value}{AV:TypeId}{AE:String}{zh:Array Edge}(hH:SH og w l:=by assumption)
  (ho:ops[i]?=some ⟨some d, .buildSlice t 1 #[(0,y)],AV,AE,zh,none⟩:=by rfl) (z6:ops[i+1]?=some ⟨dst, .call ⟨.builtin .append,#[x, .tmp d],#[t,t]⟩,ty,pos,an,none⟩:=by rfl) (hf:cr P t el sz aT:=by infer_instance) (hy:ev e y=some v:=by rfl)
  (hx:∀b:Nat,ev ((d, .slice (some ⟨b,0,none⟩) 1 1)::e) x=some (.slice a len cap):=by intro _;rfl) (hv:Cl v vs:=by first|exact Cl.agg|exact Cl.one rfl) (hl:vs.length=sz:=by rfl) (h0:Nat.blt 0 sz=true:=by rfl) (hz:Nat.ble sz 16777216=true:=by rfl) (j8:Nat.ble aT 140737488355328=true:=by rfl) (hd:fits n dst=true:=by rfl) (fE:fits n (some d)=true:=by rfl)
  (h1:∀u∈vs,u.oneCell'=true) (hs:az (fZ el sz a len cap cs) l r:=by repeat(first|exact az.here|apply az.there)) (hb:(len+1)*aT≤140737488355328:=by omega) (hm:len+1≤140737488355328:=by omega)
  (h:∀a' c' w' b,SH og w' (fZ el sz a' (len+1) c' (cs++vs)::r)→GX P ops Q (fun _=>True) n (bc (i+1+1) m) (Env.put ((d, .slice (some ⟨b,0,none⟩) 1 1)::e) dst (.slice a' (len+1) c')) w'):GX P ops Q (fun _=>True) n (bc i (m+1+1)) e w:=by
 have lZ:0<sz:=by have:=h0;simp[Nat.blt] at this;omega
 refine GX.yR ho (by simp[aI]) hy hv.eq hl h0 hz j8 fE fun bn w1 uz o0 hE=>?_
 have hN:=o0.bL;have ke:=hx bn;have mL:ev ((d,Value.slice (some ⟨bn,0,none⟩) 1 1)::e) (.tmp d)=some (.slice (some ⟨bn,0,none⟩) 1 1):=by simp[ev,look]
 have fin:∀(a':Option Addr) (c':Nat) (w2:World),(Builtin.append_ #[t,t] ty #[.slice a len cap, .slice (some ⟨bn,0,none⟩) 1 1]).run P w1 = .ok (.slice a' (len+1) c') w2→SH og w2 (fZ el sz a' (len+1) c' (cs++vs)::r)→GX P ops Q (fun _=>True) n (bc (i+1) (m+1)) (Env.put e (some d) (.slice (some ⟨bn,0,none⟩) 1 1)) w1:=fun a' c' w2 hr hS=>by
  refine GX.aw z6 (GO.run (R:=fun u w3=>u = .slice a' (len+1) c'∧w3=w2) (by simp[aI]) hd (fun ac ha=>⟨_,_,w2,?_, .inl rfl,rfl,rfl⟩) ?_)
  ·simp[execOp,resolve,invoke,builtin,bE ha ke,bE ha mL,hr]
  ·rintro _ _ ⟨rfl,rfl⟩;exact⟨fun _ _=>trivial,h a' c' _ bn hS⟩
 obtain⟨X,hX⟩:=SH.un (f:=fun x:kH sz a len cap cs=>x.dS el) (hH.ext hE) hs;cases X with
 |nil=>
  obtain⟨b',c',w',hr,hO,dx,iM⟩:=J4 (P:=P) (ty:=ty) (m:=1) (c2:=1) hf (.inl rfl) hN ah ah ah lZ ah;exact fin _ _ _ hr (SH.wT (SH.cF (q:=some b') hX dx (fun k hk=>by cases hk;exact iM) hO) az.here)
 |dead b off N C cs'=>
  obtain⟨b',c',w',hr,hO,dx,iM⟩:=J4 (P:=P) (ty:=ty) (m:=1) (c2:=1) hf (.inr ⟨b,off,rfl⟩) hN ah ah ah lZ ah;exact fin _ _ _ hr (SH.wT (SH.cF (q:=some b') (SH.drop hX) dx (fun k hk=>by cases hk;exact iM) hO) az.here)
 |on b k _ _ pre _ hk=>
  have hX:SH og w1 (aq el sz (some b) (k+len) (k+cap) (pre++cs)::r):=hX;have hO:aH w1 el sz (some b) (aA (some b)) (k+len) (k+cap) (pre++cs):=let⟨_,_,h,_⟩:=hX.head;h;obtain⟨_,_,q1,_⟩:=rm hO
  rcases W9 (P:=P) (ty:=ty) (m:=1) (c2:=1) hf hO hN ah h1 ah ah lZ ah ah with⟨w',hr,jt,hM⟩|⟨b',c',w',hr,jt,dx,iM⟩
  ·refine fin _ _ _ hr ?_;have h3:SH og w' (aq el sz (some b) (k+(len+1)) (k+cap) (pre++(cs++vs))::r):=SH.lG hX bA.here (fun _=>by rw[←Nat.add_assoc,←cS];exact jt) (hM.weaken fun x _ hx=>by simpa using hx) fun x hx => .inl hx
   exact SH.mk (f:=fun x:kH sz (some ⟨b,k*sz,none⟩) (len+1) cap (cs++vs)=>x.dS el) (.on b k (len+1) cap pre (cs++vs) hk) h3
  ·rw[←hk,List.drop_left] at jt;exact fin _ _ _ hr (SH.wT (SH.cF (q:=some b') (SH.drop hX) dx (fun k hk=>by cases hk;exact iM) jt) az.here)
theorem GX.P5 [Fr]{T:Nat→Prop}{w0:World}{j:Nat}{d:Tmp}{x y:Operand}{t el:TypeId}{sz aT:Nat}{a:Option Addr}{len cap:Nat}{cs vs:List Value}{v:Value}{AV:TypeId}{AE:String}{zh:Array Edge}(hH:SH og w l:=by assumption)
  (ho:ops[i]?=some ⟨some d, .buildSlice t 1 #[(0,y)],AV,AE,zh,none⟩:=by rfl) (z6:ops[j]?=some ⟨dst, .call ⟨.builtin .append,#[x, .tmp d],#[t,t]⟩,ty,pos,an,none⟩:=by rfl) (hf:cr P t el sz aT:=by infer_instance) (hy:ev e y=some v:=by rfl)
  (hx:∀b:Nat,ev ((d, .slice (some ⟨b,0,none⟩) 1 1)::e) x=some (.slice a len cap):=by intro _;rfl) (hv:Cl v vs:=by first|exact Cl.agg|exact Cl.one rfl) (hl:vs.length=sz:=by rfl) (h0:Nat.blt 0 sz=true:=by rfl) (hz:Nat.ble sz 16777216=true:=by rfl) (j8:Nat.ble aT 140737488355328=true:=by rfl) (hd:fits n dst=true:=by rfl) (fE:fits n (some d)=true:=by rfl)
  (h1:∀u∈vs,u.oneCell'=true) (hT:∀x,a=some x→T x.block) (hs:az (fZ el sz a len cap cs) l r:=by repeat(first|exact az.here|apply az.there)) (hb:(len+1)*aT≤140737488355328:=by omega) (hm:len+1≤140737488355328:=by omega)
  (h:∀a' c' w' b,SH og w' (fZ el sz a' (len+1) c' (cs++vs)::r)→GX P ops Q (Mod T w0) n p (Env.put ((d, .slice (some ⟨b,0,none⟩) 1 1)::e) dst (.slice a' (len+1) c')) w'):GX P ops Q (Mod T w0) n (.aw i (.aw j p)) e w:=by
 have lZ:0<sz:=by have:=h0;simp[Nat.blt] at this;omega
 refine GX.CP ho (by simp[aI]) hy hv.eq hl h0 hz j8 fE fun bn w1 uz o0 hE=>?_
 have hN:=o0.bL;have ke:=hx bn;have mL:ev ((d,Value.slice (some ⟨bn,0,none⟩) 1 1)::e) (.tmp d)=some (.slice (some ⟨bn,0,none⟩) 1 1):=by simp[ev,look]
 have fin:∀(a':Option Addr) (c':Nat) (w2:World),(Builtin.append_ #[t,t] ty #[.slice a len cap, .slice (some ⟨bn,0,none⟩) 1 1]).run P w1 = .ok (.slice a' (len+1) c') w2→SH og w2 (fZ el sz a' (len+1) c' (cs++vs)::r)→Mod T w1 w2→GX P ops Q (Mod T w0) n (.aw j p) (Env.put e (some d) (.slice (some ⟨bn,0,none⟩) 1 1)) w1:=fun a' c' w2 hr hS hMT=>by
  refine GX.aw z6 (GO.run (R:=fun u w3=>u = .slice a' (len+1) c'∧w3=w2) (by simp[aI]) hd (fun ac ha=>⟨_,_,w2,?_, .inl rfl,rfl,rfl⟩) ?_)
  ·simp[execOp,resolve,invoke,builtin,bE ha ke,bE ha mL,hr]
  ·rintro _ _ ⟨rfl,rfl⟩;exact⟨fun _ D6=>D6.trans hMT,h a' c' _ bn hS⟩
 obtain⟨X,hX⟩:=SH.un (f:=fun x:kH sz a len cap cs=>x.dS el) (hH.ext hE) hs;cases X with
 |nil=>
  obtain⟨b',c',w',hr,hO,dx,iM⟩:=J4 (P:=P) (ty:=ty) (m:=1) (c2:=1) hf (.inl rfl) hN ah ah ah lZ ah;exact fin _ _ _ hr (SH.wT (SH.cF (q:=some b') hX dx (fun k hk=>by cases hk;exact iM) hO) az.here) dx.mod
 |dead b off N C cs'=>
  obtain⟨b',c',w',hr,hO,dx,iM⟩:=J4 (P:=P) (ty:=ty) (m:=1) (c2:=1) hf (.inr ⟨b,off,rfl⟩) hN ah ah ah lZ ah;exact fin _ _ _ hr (SH.wT (SH.cF (q:=some b') (SH.drop hX) dx (fun k hk=>by cases hk;exact iM) hO) az.here) dx.mod
 |on b k _ _ pre _ hk=>
  have hX:SH og w1 (aq el sz (some b) (k+len) (k+cap) (pre++cs)::r):=hX;have hO:aH w1 el sz (some b) (aA (some b)) (k+len) (k+cap) (pre++cs):=let⟨_,_,h,_⟩:=hX.head;h;obtain⟨_,_,q1,_⟩:=rm hO
  rcases W9 (P:=P) (ty:=ty) (m:=1) (c2:=1) hf hO hN ah h1 ah ah lZ ah ah with⟨w',hr,jt,hM⟩|⟨b',c',w',hr,jt,dx,iM⟩
  ·refine fin _ _ _ hr ?_ (hM.weaken fun x _ hx=>by subst hx;exact hT _ rfl);have h3:SH og w' (aq el sz (some b) (k+(len+1)) (k+cap) (pre++(cs++vs))::r):=SH.lG hX bA.here (fun _=>by rw[←Nat.add_assoc,←cS];exact jt) (hM.weaken fun x _ hx=>by simpa using hx) fun x hx => .inl hx
   exact SH.mk (f:=fun x:kH sz (some ⟨b,k*sz,none⟩) (len+1) cap (cs++vs)=>x.dS el) (.on b k (len+1) cap pre (cs++vs) hk) h3
  ·rw[←hk,List.drop_left] at jt;exact fin _ _ _ hr (SH.wT (SH.cF (q:=some b') (SH.drop hX) dx (fun k hk=>by cases hk;exact iM) jt) az.here) dx.mod
theorem Zt {len cap:Nat}{kl:IntKind}(h:0<len)(w:World):(Instr.sliceBounds true len cap (some (.int kl 1)) none none).run P w = .ok (1,len,cap) w:=by
 simp[Instr.sliceBounds,run_sliceBound,(by omega:(1:Int)≤len)]
theorem GX.aaL [Fr]{t:TypeId}{x y:Operand}{el:TypeId}{sz aT len cap:Nat}{a:Option Addr}{cs:List Value}{ki:IntKind}(hH:SH og w l:=by assumption)
  (ho:ops[i]?=some ⟨dst, .slice t x (some y) none none,ty,pos,an,g⟩:=by rfl) (hf:cr P t el sz aT:=by infer_instance) (hw:aI ops e ⟨dst, .slice t x (some y) none none,ty,pos,an,g⟩=some true:=by rfl) (hx:ev e x=some (.slice a len cap):=by rfl) (hy:ev e y=some (.int ki 1):=by rfl) (hd:fits n dst=true:=by rfl)
  (hs:az (fZ el sz a len cap cs) l r:=by repeat(first|exact az.here|apply az.there)) (hn:0<len:=by omega)
  (h:SH og w (fZ el sz (fi a 1 cap sz) (len - 1) (cap - 1) (cs.drop sz)::r)→GX P ops Q S n (bc (i+1) m) (e.put dst (.slice (fi a 1 cap sz) (len - 1) (cap - 1))) w):GX P ops Q S n (bc i (m+1)) e w:=
 GX.aw ho (GO.xj (l:=1) (h:=len) (m:=cap) rfl hw hx hd (by intro w;simp only[Option.map_none,jV,hy,oN];exact Zt hn w) ⟨by rintro _ ⟨⟩;rw[hy];rfl,by simp,by simp⟩ (h (hH.Wu hn hs)))
theorem SH.OC {el:TypeId}{sz n c:Nat}{a:Option Addr}{live:List Value}(hH:SH og w l)(hs:az (fZ el sz a n c live) l r:=by repeat(first|exact az.here|apply az.there))(ha:a=none):n=0:=by
 obtain⟨x,hx⟩:=SH.un (f:=fun x:kH sz a n c live=>x.dS el) hH hs;cases x with
 |nil=>rfl
 |dead=>rfl
 |on b k n c pre live hk=>cases ha
theorem SH.JI {el:TypeId}{sz n c:Nat}{a:Option Addr}{live:List Value}(hH:SH og w l)(hn:0<n:=by omega)(hs:az (fZ el sz a n c live) l r:=by repeat(first|exact az.here|apply az.there)):∃b k pre,a=some ⟨b,k*sz,none⟩∧pre.length=k*sz∧SH og w (aq el sz (some b) (k+n) (k+c) (pre++live)::r):=by
 obtain⟨x,hx⟩:=SH.un (f:=fun x:kH sz a n c live=>x.dS el) hH hs;cases x with
 |nil=>omega
 |dead=>omega
 |on b k n c pre live hk=>exact⟨b,k,pre,rfl,hk,hx⟩
theorem SH.Cz {el:TypeId}{sz n c k N C:Nat}{pre live cs:List Value}(hH:SH og w l)(hk:pre.length=k*sz)(hs:az (aq el sz (some b) N C cs) l r:=by repeat(first|exact az.here|apply az.there))(e1:N=k+n:=by rfl)(e2:C=k+c:=by rfl)(e3:cs=pre++live:=by rfl):SH og w (fZ el sz (some ⟨b,k*sz,none⟩) n c live::r):=by
 subst e1 e2 e3;exact SH.mk (f:=fun x:kH sz (some ⟨b,k*sz,none⟩) n c live=>x.dS el) (.on b k n c pre live hk) (hH.perm hs.perm)
end
section
variable {og:Og}{w:World}{l l':List It}{b:Nat}{κ ν:Type}[DecidableEq κ]{kv:κ→Value}{vv:ν→Value}{M:List (κ×ν)}
theorem EM.same {k:κ}{v v':ν}(hv:vv v=vv v'):∀{E:List MapEntry}{M:List (κ×ν)},EM kv vv E M→ay M k=some v→EM kv vv E (bC M k v')
 | [],[],_,hn=>nomatch hn
 |x::E,(a,u)::M,h,hn=>by
  simp only[ay] at hn;simp only[bC];split at hn
  ·rename_i e
   cases hn;subst e;rw[if_pos rfl];exact⟨h.1,by rw[h.2.1,hv],h.2.2⟩
  ·rename_i e
   rw[if_neg e];exact⟨h.1,h.2.1,EM.same hv h.2.2 hn⟩
theorem SH.agO {k:κ}{v v':ν}(hH:SH og w l)(hm:ay M k=some v)(hv:vv v=vv v')(hr:bA (aS b kv vv M) (aS b kv vv (bC M k v')) l l':=by repeat(first|exact bA.here|apply bA.there)):SH og w l':=by
 obtain⟨_,hs,_⟩:=hr.perm;have hM:dY w b kv vv M:=let⟨_,_,h,_⟩:=(hH.perm hs).head;h;obtain⟨E,c,h1,h2,h3⟩:=hM;exact hH.vi hr ⟨E,c,h1,h2.same hv hm,h3⟩ (Mod.refl w)
end
end
end Go.Proofs.YtoloaehmppcjoaaGreat.V.M
