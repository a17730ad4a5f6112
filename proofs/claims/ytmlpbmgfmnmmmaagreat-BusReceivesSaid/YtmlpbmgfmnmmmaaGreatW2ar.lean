/-
  Parts of the proof. No condition.
-/
import Derived.Test.YtmlpbmgfmnmmmaaGreatW2aq
import Derived.Test.YtmlpbmgfmnmmmaaGreatW2am
set_option linter.unusedVariables false
set_option linter.unusedSimpArgs false
set_option maxRecDepth 8000
set_option maxHeartbeats 8000000
open Go.Proofs.Tryz
namespace Go.Proofs.YtmlpbmgfmnmmmaaGreat.V.M
section
attribute [local irreducible] GO GX aA fz aF aQ ao star
variable {o:Og}{w:World}
theorem lD.get {M:List (Int×Int)}{L:List Tm}(h:lD M L){x:Tm}(hx:x∈L):∃i:Nat,L[i]?=some x∧az M (x.1:Int)=some (i:Int):=by
 obtain⟨i,hi⟩:=List.mem_iff_getElem?.1 hx;exact⟨i,hi,h.1 i x hi⟩
theorem lD.none {M:List (Int×Int)}{L:List Tm}(h:lD M L){n:Nat}(hn:∀x∈L,x.1≠n):az M (n:Int)=none:=by
 cases hm:az M (n:Int) with
 |none=>rfl
 |some v=>
  obtain⟨x,hx,e⟩:=h.2.1 _ _ hm;exact absurd (Int.ofNat.inj e).symm (hn x hx)
theorem Mf {h:Nat}{L:List Tm}(n:Nat)(hn:n<1048576)(b:Bool)(hs:Start o w [fz (kE h L)]) :
  aj prog 247 [ak h,iV n, .bool b].toArray w (Po o (iV (if∃x∈L,x.1=n then(if b then 0 else 11) else(if b then 9 else 0))) []):=by
 have hH:=hs.sh;refine aj.enter func247 rfl ntmps247 rfl (gh ?_);refine GX.aL (hc:=fun _ hs=>Nv hs) (h:=fun w hE hH=>gh ?_);obtain⟨⟨⟨q,c,e,M⟩,hM⟩,hH⟩:=SH.dQ hH;replace hH:=SH.dW hH;dsimp only at hH;refine gh ?_
 by_cases hx:∃x∈L,x.1=n
 ·obtain⟨x,lL,rfl⟩:=hx;obtain⟨i,_,hm⟩:=hM.get lL;refine GX.lP (hV:=show jc iV _ true _ = .tuple #[iV i, .bool true] from by rw[hm];rfl) (h:=gh ?_);refine ifs (fun h1=>?_) (fun h1=>?_)<;>refine gh ?_
  ·omega
  rw[if_pos ⟨x,lL,rfl⟩];cases b
  ·refine gh ?_;exact⟨rfl,hH.to⟩
  ·refine gh ?_;exact⟨rfl,hH.to⟩
 ·have hm:=hM.none (n:=n) fun x lL e=>hx ⟨x,lL,e⟩
  refine GX.lP (hV:=show jc iV _ true _ = .tuple #[iV 0, .bool false] from by rw[hm];rfl) (h:=gh ?_);refine ifs (fun h1=>?_) (fun h1=>?_)<;>refine gh ?_
  ·omega
  rw[if_neg hx];cases b
  ·refine gh ?_;exact⟨rfl,hH.to⟩
  ·refine gh ?_;exact⟨rfl,hH.to⟩
def fL (h:Nat)(D:List Tm):It:=star fun L:{ L:List Tm // L.Perm D∧Hp L∧j7 L}=>[kE h L.1]
instance {h:Nat}{D:List Tm}:Zf (fL h D):=Zf.star fun _=>inferInstance
theorem B0 {l t:List It}{h:Nat}{L D:List Tm}(hH:SH o w l)(hP:L.Perm D)(hp:Hp L)(hL:j7 L)(hp:Pk l [kE h L] t:=by repeat(first|exact Pk.nil|(apply Pk.cons;repeat(first|exact aB.here|apply aB.there)))):SH o w (fL h D::t):=
 SH.fold (f:=fun L:{ L:List Tm // L.Perm D∧Hp L∧j7 L}=>[kE h L.1]) ⟨L,hP,by assumption,hL⟩ hH hp
theorem adA (hs:Start o w []):aj prog 81 ([]:List Value).toArray w (aU o ak (fun _=>True) (fun h=>[fL h []])):=by
 have hH:=hs.sh;refine aj.enter func81 rfl ntmps81 rfl (gh ?_);refine GX.yB (iV:Int→Value) (iV:Int→Value) (h:=fun m w hH=>gh ?_);refine GX.cw (h:=fun h w hH=>gh ?_);have aO:=SH.cE (el:=211) (sz:=2) (q:=none) (n:=0) (c:=0) (cs:=[]) hH (Mod.refl w) (fun _ h=>by cases h) (aG.nil _ _ _);have hA:lD [] []:=⟨fun i x hx=>by simp at hx,fun k v hv=>(by simp[az] at hv),mF⟩
 exact⟨h,rfl,trivial,(B0 (B2 (q:=none) (L:=[]) (M:=[]) aO hA) (L:=[]) (D:=[]) (.refl _) (fun j _ hj=>(by simp at hj)) ⟨fun x hx=>(by cases hx),by simp⟩).to⟩
theorem lD.put {M:List (Int×Int)}{L:List Tm}(h:lD M L){x:Tm}(hn:∀y∈L,y.1≠x.1):lD (bE M (x.1:Int) (L.length:Int)) (L++[x]):=by
 refine⟨fun i y hy=>?_,fun k v hv=>?_,rU h.2.2 _ _⟩
 ·rw[kI]
  rcases tB i L.length with hi|hi
  ·rw[gr hi] at hy;rw[if_neg (fun e:((y.1:Nat):Int)=(x.1:Int)=>hn y (bF hy) ah)];exact h.1 i y hy
  ·have zQ:=(aV.1 hy).1;simp only[bJ,ie] at zQ;obtain rfl:i=L.length:=by omega
   simp at hy;rw[←hy,if_pos rfl]
 ·rw[kI] at hv;split at hv
  ·exact⟨x,by simp,by assumption⟩
  ·obtain⟨y,hy,e⟩:=h.2.1 k v hv;exact⟨y,tH _ hy,e⟩
theorem Uj {L:List Tm}{x:Tm}{j:Nat}(h:j<L.length):cX (L++[x]) j=cX L j:=by rw[cX,cX,gr h]
theorem Hp.app {L:List Tm}(h:Hp L)(x:Tm):Dc (L++[x]) L.length:=by
 refine⟨fun j j0 jl jk jp=>?_,fun _ c c0 cl ck=>?_⟩
 ·simp only[bJ,ie] at jl;rw[Uj ah,Uj ah];exact h j j0 ah
 ·simp only[bJ,ie] at cl;omega
theorem adS {h:Nat}{D:List Tm}(n t:Nat)(hn:n<1048576)(ht:t<18446744073709551616)(hN:∀x∈D,x.1≠n)(hl:D.length<1048576)(hs:Start o w [fL h D]):aj prog 293 [ak h,iV n,uV t].toArray w (Po o (iV 0) [fL h (D++[(n,t)])]):=by
 have hH:=hs.sh;obtain⟨⟨L,hP,hp,hL⟩,hH⟩:=SH.un hH;replace hH:=SH.ap hH;dsimp only at hH;have hlen:=hP.length_eq;refine aj.enter func293 rfl ntmps293 rfl (gh ?_);refine GX.aL (hc:=fun _ hs=>Mf n hn false hs) (h:=fun w hE hH=>gh ?_);have bG:¬∃x∈L,x.1=n:=fun⟨x,hx,e⟩=>hN x (hP.mem_iff.1 hx) e
 rw[if_neg bG];refine gh ?_;obtain⟨⟨⟨q,c,e,M⟩,hM⟩,hH⟩:=SH.un hH;replace hH:=SH.ap hH;dsimp only at hH;refine gh ?_;refine GC.bq (pl:=(aZ [0,3,6,12,15,18,21,10,25,27,32])) (T:=fun _=>False) (hm:=mixed) (h:=fun w hE hH=>gh ?_);refine GX.Av (v:=(L.length:Int)) (h:=fun w hH=>gh ?_);refine GX.mK (h1:=by simp[Value.oneCell']) (h:=fun q c w _ hH=>gh ?_);refine GX.dw (h:=fun w hH=>gh ?_);have ID:∀y∈L,y.1≠n:=fun y hy=>hN y (hP.mem_iff.1 hy)
 replace hH:=B2 (L:=L++[(n,t)]) hH (hM.put (x:=(n,t)) ID) (e1:=by simp) (e2:=(kK L (n,t)).symm);have zG:j7 (L++[(n,t)]):=⟨fun x hx=>by
  rcases cJ.1 hx with hx|hx
  ·exact hL.1 x hx
  ·simp at hx;subst hx;exact⟨hn,ht⟩,by simp;omega⟩
 rw[show((L.length+1:Nat):Int) - 1=(L.length:Int) by omega];refine GX.bS (hc:=fun _ hs=>XA zG L.length (by simp) (hp.app (n,t)) hs) (h:=?_);rintro N w ⟨fD,DU,zD⟩ hH;replace hH:=SH.ap hH;refine gh ?_;exact⟨rfl,(B0 hH (fD.trans (hP.append_right _)) zD DU).to⟩
theorem aeO {L:List Tm}{k j:Nat}(h:j<k):cX (L.take k) j=cX L j:=by rw[cX,cX,C' h]
theorem lD.cut {M:List (Int×Int)}{L:List Tm}(h:lD M L){k:Nat}{x:Tm}(hk:L[k]?=some x)(hl:k+1=L.length):lD (bD M (x.1:Int)) (L.take k):=by
 refine⟨fun i y hy=>?_,fun q v hv=>?_,h.2.2.sublist ((wX M _).map _)⟩
 ·have hi:i<k:=by have:=(aV.1 hy).1;simp at this;omega
  rw[C' hi] at hy;rw[iF h.2.2,if_neg (fun e:((y.1:Nat):Int)=(x.1:Int)=>by have:=h.uniq hy hk ah;omega)];exact h.1 i y hy
 ·rw[iF h.2.2] at hv;split at hv
  ·cases hv
  ·rename_i aR
   obtain⟨y,hy,e⟩:=h.2.1 q v hv;obtain⟨i,hi⟩:=List.mem_iff_getElem?.1 hy;have eL:=(aV.1 hi).1
   rcases Nat.decEq i k with SO|SO
   ·refine⟨y,bF (i:=i) ?_,e⟩;rw[C' ah];exact hi
   ·subst SO;rw[hk] at hi;cases hi;exact absurd e aR
theorem Hp.cut {L:List Tm}(h:Hp L){i:Nat}(hi:i<L.length):(i<L.length - 1→Dc ((f' L i (L.length - 1)).take (L.length - 1)) i)∧(i=L.length - 1→Hp ((f' L i (L.length - 1)).take (L.length - 1))):=by
 have zR:L.length - 1<L.length:=by omega
 have e:∀j,j<L.length - 1→cX ((f' L i (L.length - 1)).take (L.length - 1)) j=if j=i then cX L (L.length - 1) else cX L j:=fun j hj=>by rw[aeO hj,Pg hi zR,if_neg ah]
 have hl:((f' L i (L.length - 1)).take (L.length - 1)).length=L.length - 1:=by simp[pZ]
 refine⟨fun eL=>⟨fun j j0 jl jk jp=>?_,fun i0 c c0 cl ck=>?_⟩,fun eL j j0 jl=>?_⟩
 ·rw[hl] at jl;rw[e _ ah,e _ jl,if_neg jk,if_neg jp];exact h j j0 ah
 ·rw[hl] at cl;rw[e _ ah,e _ cl,if_neg ah,if_neg ah];have h1:=h i i0 ah;have h2:=h c c0 ah;rw[ck] at h2;omega
 ·rw[hl] at jl;rw[e _ ah,e _ jl,if_neg ah,if_neg ah];exact h j j0 ah
theorem alI {α:Type}{L:List α}{k:Nat}{x:α}(h:L[k]?=some x)(hl:k+1=L.length):L=L.take k++[x]:=by
 have:=ic (l:=L) (i:=k);rw[h,eO ah] at this;exact this
theorem MW {h:Nat}{D D':List Tm}(n t:Nat)(hn:n<1048576)(hD:D.Perm ((n,t)::D'))(hs:Start o w [fL h D]):aj prog 173 [ak h,iV n].toArray w (Po o (.tuple #[uV t,iV 0]) [fL h D']):=by
 have hH:=hs.sh;obtain⟨⟨L,hP,hp,hL⟩,hH⟩:=SH.un hH;replace hH:=SH.ap hH;dsimp only at hH;have Iq:=hL.2;have ea:(n,t)∈L:=hP.mem_iff.2 (hD.mem_iff.2 (by simp));refine aj.enter func173 rfl ntmps173 rfl (gh ?_);refine GX.aL (hc:=fun _ hs=>Mf n hn true hs) (h:=fun w hE hH=>gh ?_);rw[if_pos ⟨_,ea,rfl⟩];refine gh ?_;obtain⟨⟨⟨q,c,e,M⟩,hM⟩,hH⟩:=SH.un hH;replace hH:=SH.ap hH;dsimp only at hH;obtain⟨i,hi,hm⟩:=hM.get ea;have eL:=(aV.1 hi).1;obtain⟨a,rfl⟩:=hH.pos (cs:=aK lA L);refine gh ?_;refine GC.bq (pl:=(aZ [0,3,6,12,18,21,24,10,16,36,28,30,33,39])) (T:=fun _=>False) (hm:=mixed) (h:=fun w hE hH=>gh ?_);refine GX.read rfl (GO.NS (hV:=show jc iV _ false _=iV i from by rw[hm];rfl) (h:=gh ?_));refine GX.next rfl (GO.cG (hv:=nj nr hi (j:=1) rfl) (h:=gh ?_));replace hH:=B2 (L:=L) hH hM;rw[show((L.length:Nat):Int) - 1=((L.length - 1:Nat):Int) by omega];refine GX.bz (hc:=fun _ hs=>Ph hL.2 i (L.length - 1) eL ah hs) (h:=fun w hH=>gh ?_);obtain⟨⟨⟨q,c,e,M'⟩,ud⟩,hH⟩:=SH.un hH;replace hH:=SH.ap hH;dsimp only at hH;refine gh ?_;have dY:=pZ L i (L.length - 1);refine GX.KY (c:=L.length - 1) (h:=fun hH=>gh ?_);refine GX.dw (h:=fun w hH=>gh ?_);refine GX.Jj (h:=fun w hH=>gh ?_);have hx:(f' L i (L.length - 1))[L.length - 1]?=some (n,t):=by rw[yX eL ah,if_pos rfl,hi]
 replace hH:=B2 (L:=(f' L i (L.length - 1)).take (L.length - 1)) hH (ud.cut hx ah) (e1:=by simp[dY]) (e2:=aiY nr _);have RZ:((f' L i (L.length - 1)).take (L.length - 1)).Perm D':=by
  have e1:=alI hx ah;have e2:((f' L i (L.length - 1)).take (L.length - 1)++[(n,t)]).Perm ((n,t)::D'):=by
   rw[←e1];exact(CY eL ah).trans (hP.trans hD)
  exact((List.perm_append_singleton _ _).symm.trans e2).cons_inv
 have rC:j7 ((f' L i (L.length - 1)).take (L.length - 1)):=⟨fun x hx=>hL.1 x ((CY eL ah).mem_iff.1 (List.mem_of_mem_take hx)),by simp;omega⟩
 obtain⟨Ea,uh⟩:=hp.cut eL;refine gh ?_;refine ifs (fun h1=>?_) (fun h1=>?_)<;>refine gh ?_
 ·refine GX.bS (hc:=fun _ hs=>XA rC i (by simp[dY];omega) (Ea ah) hs) (h:=?_);rintro N w ⟨fD,DU,zD⟩ hH;replace hH:=SH.ap hH;refine gh ?_;exact⟨rfl,(B0 hH (fD.trans RZ) zD DU).to⟩
 ·refine gh ?_;exact⟨rfl,(B0 hH RZ (uh ah) rC).to⟩
theorem MP {h:Nat}{D:List Tm}(n:Nat)(hn:n<1048576)(hD:∀x∈D,x.1≠n)(hs:Start o w [fL h D]):aj prog 173 [ak h,iV n].toArray w (Po o (.tuple #[uV 0,iV 9]) [fL h D]):=by
 have hH:=hs.sh;obtain⟨⟨L,hP,hp,hL⟩,hH⟩:=SH.un hH;replace hH:=SH.ap hH;dsimp only at hH;refine aj.enter func173 rfl ntmps173 rfl (gh ?_);refine GX.aL (hc:=fun _ hs=>Mf n hn true hs) (h:=fun w hE hH=>gh ?_);rw[if_neg (fun⟨x,hx,e⟩=>hD x (hP.mem_iff.1 hx) e)];refine gh ?_;exact⟨rfl,(B0 hH hP hp hL).to⟩
def PF (D:List Tm)(x:Tm×Int):Prop:=(D=[]∧x=((0,0),9))∨(x.2=0∧x.1∈D∧∀y∈D,wZ x.1≤wZ y)
theorem SG {h:Nat}{D:List Tm}(hs:Start o w [fz (fL h D)]):aj prog 171 [ak h].toArray w (aU o (fun x:Tm×Int => .tuple #[.agg (lA x.1).toArray,iV x.2]) (PF D) (fun _=>[])):=by
 have hH:=hs.sh;obtain⟨⟨L,hP,hp,hL⟩,hH⟩:=SH.dQ hH;replace hH:=SH.dW hH;dsimp only at hH;have Iq:=hL.2;refine aj.enter func171 rfl ntmps171 rfl (gh ?_);refine GX.cm (h:=fun z w hH=>gh ?_);refine GX.aL (hc:=fun _ hs=>Nv hs) (h:=fun w hE hH=>gh ?_);obtain⟨⟨⟨q,c,e,M⟩,hM⟩,hH⟩:=SH.dQ hH;replace hH:=SH.dW hH;dsimp only at hH;refine gh ?_;refine ifs (fun h1=>?_) (fun h1=>?_)<;>refine gh ?_
 ·refine GX.bc (h:=fun w hH=>gh ?_);have hD:D=[]:=by
   have:L=[]:=ga ah;subst this;exact hP.symm.eq_nil
  exact⟨((0,0),9),rfl, .inl ⟨hD,rfl⟩,hH.to⟩
 ·have h0:0<L.length:=by omega
  obtain⟨a,rfl⟩:=hH.lR (cs:=aK lA L);refine gh ?_;refine GX.next rfl (GO.jz (hv:=jj nr (bO h0)) (h:=gh ?_));refine GX.bc (h:=fun w hH=>gh ?_);refine⟨(L[0],0),rfl, .inr ⟨rfl,hP.mem_iff.1 (ot h0),fun y hy=>?_⟩,hH.to⟩;obtain⟨j,hj⟩:=List.mem_iff_getElem?.1 (hP.mem_iff.2 hy);have:=hp.first j j (bj _) (aV.1 hj).1;rw[Uk hj,NI h0] at this;exact this
structure PD where
 out:List Tm
 rest:List Tm
 q:Option Nat
 c:Nat
 x:Tm×Int
theorem aaV {a b now:Nat}(h:due b now=true)(eR:a≤b)(hb:b≤never):due a now=true:=by
 unfold due at h ⊢;simp at h ⊢;omega
theorem adM {h:Nat}{D:List Tm}{l r:List It}(hH:SH o w l)(hs:aB (fL h D) l r:=by repeat(first|exact aB.here|apply aB.there)):j7 D:=by
 obtain⟨⟨L,hP,hp,hL⟩,_⟩:=SH.un hH hs;exact⟨fun x hx=>hL.1 x (hP.mem_iff.2 hx),by rw[←hP.length_eq];exact hL.2⟩
theorem ac4 {h:Nat}{D:List Tm}(now:Nat)(hs:Start o w [fL h D]) :
  aj prog 104 [ak h,uV now].toArray w (aU o (fun y:PD => .tuple #[.slice (ay y.q) y.out.length y.c,iV 0]) (fun y=>D.Perm (y.out++y.rest)∧(∀x∈y.out,due x.2 now=true)∧∀x∈y.rest,due x.2 now=false) (fun y=>[fL h y.rest,ao 211 2 y.q y.out.length y.c (aK lA y.out)])):=by
 have hH:=hs.sh;have hD:=adM hH;have hlen:=hD.2;refine aj.enter func104 rfl ntmps104 rfl (gh ?_);refine GX.dX (hc:=fun _ hs=>SG hs) (h:=?_);rintro x w hF hE hH;replace hH:=SH.ap hH;refine gh ?_;refine GX.cm (h:=fun z w hH=>gh ?_);refine GX.bc (h:=fun w hH=>gh ?_);have aO:=SH.cE (el:=211) (sz:=2) (q:=none) (n:=0) (c:=0) (cs:=[]) hH (Mod.refl w) (fun _ h=>by cases h) (aG.nil _ _ _);replace hH:=aO;clear aO;refine GC.bP [0,1,7] (fun y:PD=>[(6, .slice (ay y.q) y.out.length y.c),(8,iV y.x.2)]) (fun y w'=>PF y.rest y.x∧D.Perm (y.out++y.rest)∧(∀x∈y.out,due x.2 now=true)∧SH o w' [fL h y.rest,aA z (lA y.x.1),ao 211 2 y.q y.out.length y.c (aK lA y.out)]) (fun y=>y.rest.length) ⟨[],D,none,0,x⟩ rfl rfl ⟨hF, .refl _,fun _ h=>(by cases h),hH.to⟩ ?_;rintro⟨out,rest,q,c,⟨y,m⟩⟩ w ⟨hF,hP,hO,hH⟩;simp only at hF hP hO hH;have hl:=hP.length_eq;simp only[bJ] at hl;dsimp only
 rcases hF with⟨rfl,e⟩|⟨rfl,hm,Td⟩
 ·obtain⟨rfl,rfl⟩:=Prod.mk.inj e;refine gh ?_;exact⟨⟨out,[],q,c,((0,0),9)⟩,rfl,⟨hP,hO,fun _ h=>(by cases h)⟩,hH.to⟩
 simp only at hm Td;have aX:=hD.1 y (hP.mem_iff.2 (List.mem_append_right _ hm));refine gh ?_;refine GX.da (Dw y.2 now _) rfl rfl rfl rfl rfl rfl (gh ?_);cases BG:due y.2 now with
 |false=>
  refine gh ?_;refine⟨⟨out,rest,q,c,(y,0)⟩,rfl,⟨hP,hO,fun x hx=>?_⟩,hH.to⟩;have Nq:=hD.1 x (hP.mem_iff.2 (List.mem_append_right _ hx));have hk:=Td x hx;unfold wZ at hk;cases zL:due x.2 now with
  |false=>rfl
  |true=>
   obtain⟨h1,h2⟩:=Nq;rw[aaV zL ah (by simp only[never];omega)] at BG;cases BG
 |true=>
  refine gh ?_;refine GX.mK (h1:=by exact Ye _) (h:=fun q c w _ hH=>gh ?_);refine GX.bz (hc:=fun _ hs=>MW y.1 y.2 aX.1 (AZ hm) hs) (h:=fun w hH=>gh ?_);refine GX.dX (hc:=fun _ hs=>SG hs) (h:=?_);rintro x2 w vL hE hH;replace hH:=SH.ap hH;refine gh ?_;refine GX.bc (h:=fun w hH=>gh ?_);rw[show out.length+1=(out++[y]).length by simp] at hH ⊢;have iA:=List.length_erase_of_mem hm;have kF:=vl hm;exact GQ.br ⟨out++[y],rest.erase y,_,_,x2⟩ rfl ⟨vL,hP.trans (by rw[cP];exact List.Perm.append_left _ (AZ hm)),fun x hx=>by
   rcases cJ.1 hx with hx|hx
   ·exact hO x hx
   ·simp at hx;subst hx;exact BG,by rw[kK];exact hH.to⟩ (by simp only;omega)
theorem aak {M:List (Int×Int)}{o:Og}{w:World}{b:Nat}(hs:Start o w [fz (aQ b iV iV M)]):aj prog 202 [.map (some b)].toArray w (aU o (fun c:Nat => .map (some c)) (fun _=>True) (fun c=>[aQ c iV iV M])):=
 NX agf hs
theorem acW {h:Nat}{D:List Tm}(hs:Start o w [fz (fL h D)]):aj prog 120 [ak h].toArray w (aU o ak (fun _=>True) (fun b=>[fL b D])):=by
 have hH:=hs.sh;obtain⟨⟨L,hP,hp,hL⟩,hH⟩:=SH.dQ hH;replace hH:=SH.dW hH;dsimp only at hH;have hlen:=hL.2;refine aj.enter func120 rfl ntmps120 rfl (gh ?_);refine GX.aL (hc:=fun _ hs=>Nv hs) (h:=fun w hE hH=>gh ?_);obtain⟨⟨⟨q,c,e,M⟩,hM⟩,hH⟩:=SH.dQ hH;replace hH:=SH.dW hH;dsimp only at hH;have e1:=hH.ti (cs:=aK lA L);refine GC.bq (pl:=(aZ [0,3,6,15,18,21,10,25,14,29,30,35,36])) (T:=fun _=>False) (hm:=mixed) (h:=fun w hE hH=>gh ?_);refine GX.ew (hc:=fun _ hs=>aap (cs:=aK lA L) ah (gQ nr _) e1 (FI Ye _) hs) (h:=?_);rintro⟨q3,c3⟩ w _ HI hH;replace hH:=SH.ap hH;refine gh ?_;refine GX.ew (hc:=fun _ hs=>aak (M:=M) hs) (h:=?_);rintro m w _ LS hH;replace hH:=SH.ap hH;refine gh ?_;refine GX.nJ (h:=fun b w hS hH=>gh ?_);exact⟨b,rfl,trivial,(B0 (B2 (L:=L) hH hM) hP hp hL).to⟩
end
section
def bB (l:List It):It:=star fun _:Unit=>l
theorem fV.map {α:Type}{f:α→List It}{l:List α}(h:∀x,fV (f x)):fV (l.map f).flatten:=by
 induction l with
 |nil=>exact⟨fun _ _ _ _ h=>h⟩
 |cons x l ih=>rw[cK,om];exact fV.append (h x) ih
theorem Zf.Bj {l:List It}(h:fV l):Zf (bB l):=Zf.star fun _=>h
theorem SH.pz {o:Og}{w:World}{l:List It}(h:SH o w l):SH o w (bB []::l):=SH.mk (f:=fun _:Unit=>([]:List It)) () h
theorem SH.KH {o:Og}{w:World}{l r m m':List It}(h:SH o w l)(hp:m.Perm m')(hs:aB (bB m) l r:=by repeat(first|exact aB.here|apply aB.there)):SH o w (bB m'::r):=by
 obtain⟨_,h⟩:=SH.un (f:=fun _:Unit=>m) h hs;exact SH.mk (f:=fun _:Unit=>m') () (h.perm (hp.append_right _))
theorem SH.oF {o:Og}{w:World}{l r m:List It}(x m':List It)(h:SH o w l)(hp:m.Perm (x++m'))(hs:aB (bB m) l r:=by repeat(first|exact aB.here|apply aB.there)):SH o w (x++(bB m'::r)):=by
 obtain⟨_,h⟩:=SH.un (f:=fun _:Unit=>m) h hs;have h2:SH o w (m'++(x++r)):=h.perm ((hp.append_right r).trans (by rw[cP,←cP,←cP];exact List.perm_append_comm.append_right _));exact(SH.mk (f:=fun _:Unit=>m') () h2).perm (List.perm_middle.symm)
theorem SH.iu {o:Og}{w:World}{l r m:List It}(x m':List It)(h:SH o w l)(hp:Pk l (bB m'::x) r)(hm:m.Perm (x++m')):SH o w (bB m::r):=by
 have h1:=h.perm hp.perm;obtain⟨_,h⟩:=SH.un (f:=fun _:Unit=>m') h1 aB.here;have h2:SH o w (m'++(x++r)):=h;exact SH.mk (f:=fun _:Unit=>m) () (h2.perm ((by rw[←cP];exact(List.perm_append_comm.trans hm.symm).append_right _)))
theorem SH.abS {o:Og}{w:World}{l r:List It}{x y:It}(h:SH o w l)(hm:∀w Z F,x.ok w Z F→y.ok w Z F)(hs:aB (fz x) l r:=by repeat(first|exact aB.here|apply aB.there)):SH o w (fz y::r):=by
 obtain⟨Z,F,hu,⟨F1,F2,e,hd,⟨⟨F',Z',q1,q2,q3⟩,e2⟩,h2⟩,h3⟩:=h.perm hs.perm;exact⟨Z,F,hu,⟨F1,F2,e,hd,⟨⟨F',Z',q1,q2,hm w Z' F' q3⟩,e2⟩,h2⟩,h3⟩
theorem SH.GL {o:Og}{w:World}{l r m:List It}(x m':List It)(h:SH o w l)(hp:m.Perm (x++m'))(hs:aB (fz (bB m)) l r:=by repeat(first|exact aB.here|apply aB.there)):SH o w (x.map fz++(fz (bB m')::r)):=by
 have h1:=h.abS (x:=bB m) (y:=star fun _:Unit=>x++[bB m']) (fun w Z F ⟨_,hk⟩=>by
  obtain⟨F1,F2,rfl,hd,k1,k2⟩:=(Sep.perm hp hk).split;exact⟨(),Sep.join (l:=x) (r:=[bB m']) ⟨F2,fun _=>False,by simp,fun _ _ h=>h,⟨(),k2⟩,rfl⟩ k1 hd⟩) hs
 obtain⟨_,h2⟩:=SH.dQ (f:=fun _:Unit=>x++[bB m']) h1 aB.here;rw[eD,cP] at h2;exact h2
section
variable {κ ν:Type}[DecidableEq κ]
def bT (f:κ×ν→List It)(M:List (κ×ν)):List It:=(M.map f).flatten
theorem o0 {f:κ×ν→List It}{M:List (κ×ν)}{k:κ}{v:ν}(h:az M k=some v):(bT f M).Perm (f (k,v)++bT f (bD M k)):=by
 induction M with
 |nil=>simp[az] at h
 |cons x M ih=>
  obtain⟨a,u⟩:=x;simp only[az] at h;simp only[bD];split at h
  ·rename_i e;cases h;subst e;rw[if_pos rfl];exact mC _
  ·rename_i e
   rw[if_neg e];show(f (a,u)++bT f M).Perm (f (k,v)++(f (a,u)++bT f (bD M k)));refine((ih h).append_left _).trans ?_;rw[←cP,←cP];exact List.perm_append_comm.append_right _
theorem FA {f:κ×ν→List It}{M:List (κ×ν)}{k:κ}{v:ν}:(bT f (bE M k v)).Perm (f (k,v)++bT f (bD M k)):=by
 induction M with
 |nil=>simp[bT,bE,bD]
 |cons x M ih=>
  obtain⟨a,u⟩:=x;simp only[bE,bD];split
  ·exact mC _
  ·show(f (a,u)++bT f (bE M k v)).Perm (f (k,v)++(f (a,u)++bT f (bD M k)));refine(ih.append_left _).trans ?_;rw[←cP,←cP];exact List.perm_append_comm.append_right _
theorem agT {M:List (κ×ν)}{k:κ}(h:az M k=none):bD M k=M:=by
 induction M with
 |nil=>rfl
 |cons x M ih=>
  obtain⟨a,u⟩:=x;simp only[az] at h;simp only[bD];split at h
  ·cases h
  ·rename_i e;rw[if_neg e,ih h]
omit [DecidableEq κ] in
theorem WA {f:κ×ν→List It}{M:List (κ×ν)}(h:∀x,fV (f x)):fV (bT f M):=fV.map h
end
end
section
attribute [local irreducible] GO GX
section
variable {P:Program}{ops:Array Oper}{Q:Exit→Act→World→Prop}{S:World→Prop}{n:Nat}
variable {i m:Nat}{p:bZ}{e:Env}{w:World}{k:Kd}{dst:Option Tmp}{ty:TypeId}{pos:String}{an:Array Edge}{g:Option (Nat×Bool)}
variable {og:Og}{l r l':List It}{b:Nat}
theorem W6 {t el:TypeId}{sz aS:Nat}(hf:cj P t el sz aS){b k:Nat}{a2:Option Addr}{len cap m c2:Nat}{cs news:List Value}(hO:aG w el sz (some b) (some ⟨b,0,none⟩) (k+len) (k+cap) cs)(hN:bM w a2 news)(hnl:news.length=m*sz)(h1:∀u∈news,u.oneCell'=true)
  (hb:(len+m)*aS≤140737488355328) (hm:len+m≤140737488355328) (hz:0<sz) (Mp:len+m≤cap∨cap=len) (pM:0<m) :
  (∃w',(Builtin.append_ #[t,t] ty #[.slice (some ⟨b,k*sz,none⟩) len cap, .slice a2 m c2]).run P w = .ok (.slice (some ⟨b,k*sz,none⟩) (len+m) cap) w'∧aG w' el sz (some b) (some ⟨b,0,none⟩) (k+len+m) (k+cap) (cs++news)∧Mod (fun x=>x=b) w w') ∨
  (∃b' c' w',(Builtin.append_ #[t,t] ty #[.slice (some ⟨b,k*sz,none⟩) len cap, .slice a2 m c2]).run P w = .ok (.slice (some ⟨b',0,none⟩) (len+m) c') w'∧aG w' el sz (some b') (some ⟨b',0,none⟩) (len+m) c' (cs.drop (k*sz)++news)∧Ext w w'∧w.heap.size≤b'):=by
 obtain⟨hu,ii,z,hi,jT,hs,mj,iE⟩:=hf.facts;have zZ:0<news.length:=by rw[hnl];exact Nat.mul_pos pM hz
 obtain⟨b2,o2,rfl,vQ⟩:=hN.rV zZ;have nU:∀j u,news[j]?=some u→w.cell? ((⟨b2,o2,none⟩:Addr).add j)=some u:=fun j u hu=>by rw[ir];exact vQ j u hu
 subst hs;subst mj
 by_cases x9:len+m≤cap
 ·left;obtain⟨cur,hg,q1,q2,q3,q4⟩:=qV hO;have hmul:(k+len+m)*ii.size≤(k+cap)*ii.size:=y7 _ ah;have jw:(k+len)*ii.size+news.length≤cur.size:=by rw[hnl,q3,←iP];exact hmul
  have dt:=run_storeCells_cells (P:=P) b ((k+len)*ii.size) news 0 w (fun j hj=>by
   rw[p6,cell_of_row w _ _ cur el _ hg];simp;omega) (fun j hj=>by simp[World.frozen?,hg]) h1
  have xT:=run_firstCells_some (P:=P) w ii.size m ⟨b2,o2,none⟩ m c2 news hnl nU;have hp:=CN b news ((k+len)*ii.size) w cur el (0,0) hg jw;have jP:aG w el ii.size (some b) (some ⟨b,0,none⟩) (k+cap) (k+cap) cur.toList:=⟨by simpa using q3, .inr ⟨b,rfl,rfl,by simpa using q3, .inr ⟨b,k+cap,cur,rfl,bh _,hg,bj _,q2,q3,by rw[eO];simp;omega⟩⟩⟩
  have h2:=OB (k:=k+len+m) (q:=some b) (AE jP hp (by simpa using jw)) ah;have e1:(cur.toList.take ((k+len)*ii.size)++news++cur.toList.drop ((k+len)*ii.size+news.length)).take ((k+len+m)*ii.size)=cs++news:=by
   rw[q4,show(k+len+m)*ii.size=(cs++news).length by rw[bJ,hO.1,hnl,←iP],vk]
  rw[e1] at h2;refine⟨_,?_,h2,hp.mod⟩;have hle:len+m≤cap:=x9;simp only[p6] at dt;simp[Builtin.append_,run_underlying hu,Go.sizeOf,typeInfo,hi,Builtin.lenOf,hle,xT,ir,←iP,dt]
 ·right;have gC:cap=len:=Mp.resolve_left x9;subst gC;have hl:=hO.1;have iA:(cs.drop (k*ii.size)).length=cap*ii.size:=by rw[lZ,hl,iP];omega
  have hr:=run_append_grow (P:=P) w t ty el ii z hu hi jT ⟨b,k*ii.size,none⟩ cap cap (cs.drop (k*ii.size)) iA (fun j u hu=>by
   rw[ir];have:=hO.bR (k*ii.size+j) u (by rw[List.getElem?_drop] at hu;exact hu);simpa using this) ⟨b2,o2,none⟩ m c2 news hnl nU ah ah (growslice_fits ah hb)
  refine⟨w.heap.size,_,_,hr,aG.new ⟨by rw[bJ,iA,hnl,iP], .inr ⟨w.heap.size,_,_,rfl,bh _,heap_alloc_new w.drew _,grownCap_ge w (cap+m) cap el,grownCap_le_maxLen w (cap+m) cap el (by unfold maxLen;omega),?_,?_⟩⟩,(Ext.drew w).trans (Ext.alloc w.drew _),bj _⟩
  ·have kB:=grownCap_ge w (cap+m) cap el;simp only[Array.size_append,xh,size_zeroCells,iE,iA,hnl,←iP];congr 1;omega
  ·have hlen:(cs.drop (k*ii.size)++news).length=(cap+m)*ii.size:=by rw[bJ,iA,hnl,iP]
   simp only[Array.toList_append,cP];rw[←cP,←hlen];exact vk
inductive j9 (sz:Nat):Option Addr→Nat→Nat→List Value→Type
 |nil:j9 sz none 0 0 []
 |dead (b off N C:Nat) (cs:List Value):j9 sz (some ⟨b,off,none⟩) 0 0 []
 |on (b k n c:Nat) (pre live:List Value) (h:pre.length=k*sz):j9 sz (some ⟨b,k*sz,none⟩) n c live
def j9.dm {sz:Nat}(el:TypeId):∀{a:Option Addr}{n c:Nat}{live:List Value},j9 sz a n c live→List It
 |_,_,_,_, .nil=>[]
 |_,_,_,_, .dead b _ N C cs=>[ao el sz (some b) N C cs]
 |_,_,_,_, .on b k n c pre live _=>[ao el sz (some b) (k+n) (k+c) (pre++live)]
def fP (el:TypeId)(sz:Nat)(a:Option Addr)(n c:Nat)(live:List Value):It:=star fun x:j9 sz a n c live=>x.dm el
instance {el:TypeId}{sz:Nat}{a:Option Addr}{n c:Nat}{live:List Value}:Zf (fP el sz a n c live):=Zf.star fun x=>by cases x<;>(unfold j9.dm;infer_instance)
theorem SH.Jx {el:TypeId}{sz:Nat}(hH:SH og w l):SH og w (fP el sz none 0 0 []::l):=SH.mk (f:=fun x:j9 sz none 0 0 []=>x.dm el) .nil hH
theorem SH.wK {el:TypeId}{sz n c:Nat}{q:Option Nat}{cs:List Value}(hH:SH og w l)(hs:aB (ao el sz q n c cs) l r:=by repeat(first|exact aB.here|apply aB.there)):SH og w (fP el sz (ay q) n c cs::r):=by
 have h1:=hH.perm hs.perm;cases q with
 |some b=>
  have h2:SH og w (ao el sz (some b) (0+n) (0+c) ([]++cs)::r):=by rw[dA,dA];exact h1
  have h3:=SH.mk (f:=fun x:j9 sz (some ⟨b,0*sz,none⟩) n c cs=>x.dm el) (.on b 0 n c [] cs (by simp)) h2;rw[vo] at h3;exact h3
 |none=>
  obtain⟨Z,F,hu,⟨F1,F2,e,hd,⟨h2,e2⟩,h3⟩,h4⟩:=h1;obtain⟨h5,⟨_,rfl,_,h0⟩|⟨b,h6,_⟩⟩:=h2
  ·obtain rfl:=h0 rfl;obtain rfl:cs=[]:=ga (by simpa using h5);have e3:F=F2:=by
    rw[e,e2];funext b;simp
   exact SH.Jx ⟨Z,F,hu,by rw[e3];exact h3,h4⟩
  ·cases h6
instance {el:TypeId}{sz:Nat}{a:Option Addr}{n c:Nat}{live:List Value}:Rd (fP el sz a n c live) a live:=⟨fun w Z F ⟨x,hx⟩=>by
 cases x with
 |nil=>exact⟨rfl,fun _ _ h=>by cases h⟩
 |dead b off N C cs=>
  obtain⟨F1,F2,rfl,_,⟨h,rfl⟩,rfl⟩:=hx;exact⟨bM.empty _ _,fun _ y hy=>by cases hy;exact .inl (.inl rfl)⟩
 |on b k n c pre live hk=>
  obtain⟨F1,F2,rfl,_,⟨h,rfl⟩,rfl⟩:=hx;refine⟨fun j v hv=>?_,fun _ y hy=>by cases hy;exact .inl (.inl rfl)⟩;have:=h.bR (k*sz+j) v (by rw[ia ah,hk,C8];exact hv);simpa using this⟩
instance {el:TypeId}{sz:Nat}{a:Option Addr}{n c:Nat}{live:List Value}:Rd (fz (fP el sz a n c live)) a live:=⟨fun w Z F ⟨⟨F',Z',h1,h2,h⟩,_⟩=>by
 obtain⟨k1,k2⟩:=(inferInstance:Rd (fP el sz a n c live) a live).out w Z' F' h;exact⟨k1,fun hc y hy => .inr ((k2 hc y hy).elim (h1 _) (h2 _))⟩⟩
theorem SH.Ws {el:TypeId}{sz n c:Nat}{a:Option Addr}{live:List Value}(hH:SH og w l)(hn:0<n)(hs:aB (fP el sz a n c live) l r:=by repeat(first|exact aB.here|apply aB.there)):SH og w (fP el sz (eS a 1 c sz) (n - 1) (c - 1) (live.drop sz)::r):=by
 obtain⟨x,hx⟩:=SH.un (f:=fun x:j9 sz a n c live=>x.dm el) hH hs;cases x with
 |nil=>omega
 |dead=>omega
 |on b k n c pre live hk=>
  have hx:SH og w (ao el sz (some b) (k+n) (k+c) (pre++live)::r):=hx;have hO:aG w el sz (some b) (ay (some b)) (k+n) (k+c) (pre++live):=let⟨_,_,h,_⟩:=hx.head;h;have hlen:live.length=n*sz:=by have:=hO.1;rw[bJ,hk,iP] at this;omega
  obtain⟨_,_,q1,_⟩:=qV hO;unfold eS;split
  ·rename_i hc
   obtain rfl:c=1:=by omega
   obtain rfl:n=1:=by omega
   have e:live.drop sz=[]:=List.drop_eq_nil_of_le ah;rw[e];exact SH.mk (f:=fun x:j9 sz (some ⟨b,k*sz,none⟩) 0 0 []=>x.dm el) (.dead b (k*sz) (k+1) (k+1) (pre++live)) hx
  ·have h2:SH og w (ao el sz (some b) (k+1+(n - 1)) (k+1+(c - 1)) ((pre++live.take sz)++live.drop sz)::r):=by
    rw[cP,jE,show k+1+(n - 1)=k+n by omega,show k+1+(c - 1)=k+c by omega];exact hx
   have hle:sz≤live.length:=by rw[hlen];exact Nat.le_mul_of_pos_left _ hn
   have h3:=SH.mk (f:=fun x:j9 sz (some ⟨b,(k+1)*sz,none⟩) (n - 1) (c - 1) (live.drop sz)=>x.dm el) (.on b (k+1) (n - 1) (c - 1) (pre++live.take sz) (live.drop sz) (by rw[bJ,hk,dE,Nat.succ_mul];omega)) h2;rw[jr,ir,Nat.one_mul,←Nat.succ_mul];exact h3
theorem JS {t el:TypeId}{sz aS:Nat}(hf:cj P t el sz aS){a a2:Option Addr}{m c2:Nat}{news:List Value}(ha:a=none∨∃b o,a=some ⟨b,o,none⟩)(hN:bM w a2 news)(hnl:news.length=m*sz)
  (hb:m*aS≤140737488355328) (hm:m≤140737488355328) (hz:0<sz) (pM:0<m) :
  ∃b' c' w',(Builtin.append_ #[t,t] ty #[.slice a 0 0, .slice a2 m c2]).run P w = .ok (.slice (some ⟨b',0,none⟩) (0+m) c') w'∧aG w' el sz (some b') (some ⟨b',0,none⟩) (0+m) c' news∧Ext w w'∧w.heap.size≤b':=by
 obtain⟨hu,ii,z,hi,jT,hs,mj,iE⟩:=hf.facts;have zZ:0<news.length:=by rw[hnl];exact Nat.mul_pos pM hz
 obtain⟨b2,o2,rfl,vQ⟩:=hN.rV zZ;have nU:∀j u,news[j]?=some u→w.cell? ((⟨b2,o2,none⟩:Addr).add j)=some u:=fun j u hu=>by rw[ir];exact vQ j u hu
 subst hs;subst mj;have nS:∀(r:List Value),r=[]→aG (w.drew.alloc (.cells (r.toArray++news.toArray++Builtin.zeroCells z.cells (grownCap w (0+m) 0 el - (0+m))) el)) el ii.size (some w.heap.size) (some ⟨w.heap.size,0,none⟩) (0+m) (grownCap w (0+m) 0 el) news:=by
  rintro _ rfl;have kB:=grownCap_ge w (0+m) 0 el;have hlen:news.length=(0+m)*ii.size:=by rw[hnl,dA]
  refine aG.new ⟨hlen, .inr ⟨w.heap.size,_,_,rfl,bh _,heap_alloc_new w.drew _,kB,grownCap_le_maxLen w (0+m) 0 el (by unfold maxLen;omega),?_,?_⟩⟩
  ·simp only[Array.size_append,xh,size_zeroCells,iE,tF,hlen,dA,←iP] at kB ⊢;congr 1;omega
  ·simp only[Array.toList_append,cP,jF];rw[←hlen];exact vk
 rcases ha with rfl|⟨b,o,rfl⟩
 ·have hr:=run_append_nil (P:=P) w t ty el ii z hu hi jT ⟨b2,o2,none⟩ m c2 news hnl nU pM ah ah;have h2:=nS [] rfl;simp only[dA,jF,Array.empty_append] at h2 ⊢;exact⟨w.heap.size,_,_,hr,h2,(Ext.drew w).trans (Ext.alloc w.drew _),bj _⟩
 ·have hr:=run_append_grow (P:=P) w t ty el ii z hu hi jT ⟨b,o,none⟩ 0 0 [] (by simp) (fun j u hu=>by simp at hu) ⟨b2,o2,none⟩ m c2 news hnl nU ah ah (growslice_fits ah (by simpa using hb));exact⟨w.heap.size,_,_,hr,nS [] rfl,(Ext.drew w).trans (Ext.alloc w.drew _),bj _⟩
theorem GX.amj [Fr]{d:Tmp}{x y:Operand}{t el:TypeId}{sz aS:Nat}{a:Option Addr}{len cap:Nat}{cs vs:List Value}{v:Value}{AV:TypeId}{AF:String}{zk:Array Edge}(hH:SH og w l:=by assumption)
  (ho:ops[i]?=some ⟨some d, .buildSlice t 1 #[(0,y)],AV,AF,zk,none⟩:=by rfl) (z7:ops[i+1]?=some ⟨dst, .call ⟨.builtin .append,#[x, .tmp d],#[t,t]⟩,ty,pos,an,none⟩:=by rfl) (hf:cj P t el sz aS:=by infer_instance) (hy:ev e y=some v:=by rfl)
  (hx:∀b:Nat,ev ((d, .slice (some ⟨b,0,none⟩) 1 1)::e) x=some (.slice a len cap):=by intro _;rfl) (hv:Cl v vs:=by first|exact Cl.agg|exact Cl.one rfl) (hl:vs.length=sz:=by rfl) (h0:Nat.blt 0 sz=true:=by rfl) (hz:Nat.ble sz 16777216=true:=by rfl) (jR:Nat.ble aS 140737488355328=true:=by rfl) (hd:fits n dst=true:=by rfl) (ft:fits n (some d)=true:=by rfl)
  (h1:∀u∈vs,u.oneCell'=true) (hs:aB (fP el sz a len cap cs) l r:=by repeat(first|exact aB.here|apply aB.there)) (hb:(len+1)*aS≤140737488355328:=by omega) (hm:len+1≤140737488355328:=by omega)
  (h:∀a' c' w' b,SH og w' (fP el sz a' (len+1) c' (cs++vs)::r)→GX P ops Q (fun _=>True) n (aY (i+1+1) m) (Env.put ((d, .slice (some ⟨b,0,none⟩) 1 1)::e) dst (.slice a' (len+1) c')) w'):GX P ops Q (fun _=>True) n (aY i (m+1+1)) e w:=by
 have lN:0<sz:=by have:=h0;simp[Nat.blt] at this;omega
 refine GX.yS ho (by simp[aH]) hy hv.eq hl h0 hz jR ft fun bn w1 ug oJ hE=>?_
 have hN:=oJ.bR;have lL:=hx bn;have pQ:ev ((d,Value.slice (some ⟨bn,0,none⟩) 1 1)::e) (.tmp d)=some (.slice (some ⟨bn,0,none⟩) 1 1):=by simp[ev,look]
 have fin:∀(a':Option Addr) (c':Nat) (w2:World),(Builtin.append_ #[t,t] ty #[.slice a len cap, .slice (some ⟨bn,0,none⟩) 1 1]).run P w1 = .ok (.slice a' (len+1) c') w2→SH og w2 (fP el sz a' (len+1) c' (cs++vs)::r)→GX P ops Q (fun _=>True) n (aY (i+1) (m+1)) (Env.put e (some d) (.slice (some ⟨bn,0,none⟩) 1 1)) w1:=fun a' c' w2 hr hS=>by
  refine GX.ax z7 (GO.run (R:=fun u w3=>u = .slice a' (len+1) c'∧w3=w2) (by simp[aH]) hd (fun ac ha=>⟨_,_,w2,?_, .inl rfl,rfl,rfl⟩) ?_)
  ·simp[execOp,resolve,invoke,builtin,bC ha lL,bC ha pQ,hr]
  ·rintro _ _ ⟨rfl,rfl⟩;exact⟨fun _ _=>trivial,h a' c' _ bn hS⟩
 obtain⟨X,hX⟩:=SH.un (f:=fun x:j9 sz a len cap cs=>x.dm el) (hH.ext hE) hs;cases X with
 |nil=>
  obtain⟨b',c',w',hr,hO,di,iY⟩:=JS (P:=P) (ty:=ty) (m:=1) (c2:=1) hf (.inl rfl) hN ah ah ah lN ah;exact fin _ _ _ hr (SH.wK (SH.cE (q:=some b') hX di (fun k hk=>by cases hk;exact iY) hO) aB.here)
 |dead b off N C cs'=>
  obtain⟨b',c',w',hr,hO,di,iY⟩:=JS (P:=P) (ty:=ty) (m:=1) (c2:=1) hf (.inr ⟨b,off,rfl⟩) hN ah ah ah lN ah;exact fin _ _ _ hr (SH.wK (SH.cE (q:=some b') (SH.drop hX) di (fun k hk=>by cases hk;exact iY) hO) aB.here)
 |on b k _ _ pre _ hk=>
  have hX:SH og w1 (ao el sz (some b) (k+len) (k+cap) (pre++cs)::r):=hX;have hO:aG w1 el sz (some b) (ay (some b)) (k+len) (k+cap) (pre++cs):=let⟨_,_,h,_⟩:=hX.head;h;obtain⟨_,_,q1,_⟩:=qV hO
  rcases W6 (P:=P) (ty:=ty) (m:=1) (c2:=1) hf hO hN ah h1 ah ah lN ah ah with⟨w',hr,iW,hM⟩|⟨b',c',w',hr,iW,di,iY⟩
  ·refine fin _ _ _ hr ?_;have h3:SH og w' (ao el sz (some b) (k+(len+1)) (k+cap) (pre++(cs++vs))::r):=SH.ly hX bA.here (fun _=>by rw[←Nat.add_assoc,←cP];exact iW) (hM.weaken fun x _ hx=>by simpa using hx) fun x hx => .inl hx
   exact SH.mk (f:=fun x:j9 sz (some ⟨b,k*sz,none⟩) (len+1) cap (cs++vs)=>x.dm el) (.on b k (len+1) cap pre (cs++vs) hk) h3
  ·rw[←hk,List.drop_left] at iW;exact fin _ _ _ hr (SH.wK (SH.cE (q:=some b') (SH.drop hX) di (fun k hk=>by cases hk;exact iY) iW) aB.here)
theorem GX.P2 [Fr]{T:Nat→Prop}{w0:World}{j:Nat}{d:Tmp}{x y:Operand}{t el:TypeId}{sz aS:Nat}{a:Option Addr}{len cap:Nat}{cs vs:List Value}{v:Value}{AV:TypeId}{AF:String}{zk:Array Edge}(hH:SH og w l:=by assumption)
  (ho:ops[i]?=some ⟨some d, .buildSlice t 1 #[(0,y)],AV,AF,zk,none⟩:=by rfl) (z7:ops[j]?=some ⟨dst, .call ⟨.builtin .append,#[x, .tmp d],#[t,t]⟩,ty,pos,an,none⟩:=by rfl) (hf:cj P t el sz aS:=by infer_instance) (hy:ev e y=some v:=by rfl)
  (hx:∀b:Nat,ev ((d, .slice (some ⟨b,0,none⟩) 1 1)::e) x=some (.slice a len cap):=by intro _;rfl) (hv:Cl v vs:=by first|exact Cl.agg|exact Cl.one rfl) (hl:vs.length=sz:=by rfl) (h0:Nat.blt 0 sz=true:=by rfl) (hz:Nat.ble sz 16777216=true:=by rfl) (jR:Nat.ble aS 140737488355328=true:=by rfl) (hd:fits n dst=true:=by rfl) (ft:fits n (some d)=true:=by rfl)
  (h1:∀u∈vs,u.oneCell'=true) (hT:∀x,a=some x→T x.block) (hs:aB (fP el sz a len cap cs) l r:=by repeat(first|exact aB.here|apply aB.there)) (hb:(len+1)*aS≤140737488355328:=by omega) (hm:len+1≤140737488355328:=by omega)
  (h:∀a' c' w' b,SH og w' (fP el sz a' (len+1) c' (cs++vs)::r)→GX P ops Q (Mod T w0) n p (Env.put ((d, .slice (some ⟨b,0,none⟩) 1 1)::e) dst (.slice a' (len+1) c')) w'):GX P ops Q (Mod T w0) n (.ax i (.ax j p)) e w:=by
 have lN:0<sz:=by have:=h0;simp[Nat.blt] at this;omega
 refine GX.CT ho (by simp[aH]) hy hv.eq hl h0 hz jR ft fun bn w1 ug oJ hE=>?_
 have hN:=oJ.bR;have lL:=hx bn;have pQ:ev ((d,Value.slice (some ⟨bn,0,none⟩) 1 1)::e) (.tmp d)=some (.slice (some ⟨bn,0,none⟩) 1 1):=by simp[ev,look]
 have fin:∀(a':Option Addr) (c':Nat) (w2:World),(Builtin.append_ #[t,t] ty #[.slice a len cap, .slice (some ⟨bn,0,none⟩) 1 1]).run P w1 = .ok (.slice a' (len+1) c') w2→SH og w2 (fP el sz a' (len+1) c' (cs++vs)::r)→Mod T w1 w2→GX P ops Q (Mod T w0) n (.ax j p) (Env.put e (some d) (.slice (some ⟨bn,0,none⟩) 1 1)) w1:=fun a' c' w2 hr hS hMT=>by
  refine GX.ax z7 (GO.run (R:=fun u w3=>u = .slice a' (len+1) c'∧w3=w2) (by simp[aH]) hd (fun ac ha=>⟨_,_,w2,?_, .inl rfl,rfl,rfl⟩) ?_)
  ·simp[execOp,resolve,invoke,builtin,bC ha lL,bC ha pQ,hr]
  ·rintro _ _ ⟨rfl,rfl⟩;exact⟨fun _ DZ=>DZ.trans hMT,h a' c' _ bn hS⟩
 obtain⟨X,hX⟩:=SH.un (f:=fun x:j9 sz a len cap cs=>x.dm el) (hH.ext hE) hs;cases X with
 |nil=>
  obtain⟨b',c',w',hr,hO,di,iY⟩:=JS (P:=P) (ty:=ty) (m:=1) (c2:=1) hf (.inl rfl) hN ah ah ah lN ah;exact fin _ _ _ hr (SH.wK (SH.cE (q:=some b') hX di (fun k hk=>by cases hk;exact iY) hO) aB.here) di.mod
 |dead b off N C cs'=>
  obtain⟨b',c',w',hr,hO,di,iY⟩:=JS (P:=P) (ty:=ty) (m:=1) (c2:=1) hf (.inr ⟨b,off,rfl⟩) hN ah ah ah lN ah;exact fin _ _ _ hr (SH.wK (SH.cE (q:=some b') (SH.drop hX) di (fun k hk=>by cases hk;exact iY) hO) aB.here) di.mod
 |on b k _ _ pre _ hk=>
  have hX:SH og w1 (ao el sz (some b) (k+len) (k+cap) (pre++cs)::r):=hX;have hO:aG w1 el sz (some b) (ay (some b)) (k+len) (k+cap) (pre++cs):=let⟨_,_,h,_⟩:=hX.head;h;obtain⟨_,_,q1,_⟩:=qV hO
  rcases W6 (P:=P) (ty:=ty) (m:=1) (c2:=1) hf hO hN ah h1 ah ah lN ah ah with⟨w',hr,iW,hM⟩|⟨b',c',w',hr,iW,di,iY⟩
  ·refine fin _ _ _ hr ?_ (hM.weaken fun x _ hx=>by subst hx;exact hT _ rfl);have h3:SH og w' (ao el sz (some b) (k+(len+1)) (k+cap) (pre++(cs++vs))::r):=SH.ly hX bA.here (fun _=>by rw[←Nat.add_assoc,←cP];exact iW) (hM.weaken fun x _ hx=>by simpa using hx) fun x hx => .inl hx
   exact SH.mk (f:=fun x:j9 sz (some ⟨b,k*sz,none⟩) (len+1) cap (cs++vs)=>x.dm el) (.on b k (len+1) cap pre (cs++vs) hk) h3
  ·rw[←hk,List.drop_left] at iW;exact fin _ _ _ hr (SH.wK (SH.cE (q:=some b') (SH.drop hX) di (fun k hk=>by cases hk;exact iY) iW) aB.here) di.mod
theorem Zs {len cap:Nat}{kl:IntKind}(h:0<len)(w:World):(Instr.sliceBounds true len cap (some (.int kl 1)) none none).run P w = .ok (1,len,cap) w:=by
 simp[Instr.sliceBounds,run_sliceBound,(by omega:(1:Int)≤len)]
theorem GX.aaK [Fr]{t:TypeId}{x y:Operand}{el:TypeId}{sz aS len cap:Nat}{a:Option Addr}{cs:List Value}{ki:IntKind}(hH:SH og w l:=by assumption)
  (ho:ops[i]?=some ⟨dst, .slice t x (some y) none none,ty,pos,an,g⟩:=by rfl) (hf:cj P t el sz aS:=by infer_instance) (hw:aH ops e ⟨dst, .slice t x (some y) none none,ty,pos,an,g⟩=some true:=by rfl) (hx:ev e x=some (.slice a len cap):=by rfl) (hy:ev e y=some (.int ki 1):=by rfl) (hd:fits n dst=true:=by rfl)
  (hs:aB (fP el sz a len cap cs) l r:=by repeat(first|exact aB.here|apply aB.there)) (hn:0<len:=by omega)
  (h:SH og w (fP el sz (eS a 1 cap sz) (len - 1) (cap - 1) (cs.drop sz)::r)→GX P ops Q S n (aY (i+1) m) (e.put dst (.slice (eS a 1 cap sz) (len - 1) (cap - 1))) w):GX P ops Q S n (aY i (m+1)) e w:=
 GX.ax ho (GO.wW (l:=1) (h:=len) (m:=cap) rfl hw hx hd (by intro w;simp only[Option.map_none,jr,hy,nC];exact Zs hn w) ⟨by rintro _ ⟨⟩;rw[hy];rfl,by simp,by simp⟩ (h (hH.Ws hn hs)))
theorem SH.Ou {el:TypeId}{sz n c:Nat}{a:Option Addr}{live:List Value}(hH:SH og w l)(hs:aB (fP el sz a n c live) l r:=by repeat(first|exact aB.here|apply aB.there))(ha:a=none):n=0:=by
 obtain⟨x,hx⟩:=SH.un (f:=fun x:j9 sz a n c live=>x.dm el) hH hs;cases x with
 |nil=>rfl
 |dead=>rfl
 |on b k n c pre live hk=>cases ha
theorem SH.Jy {el:TypeId}{sz n c:Nat}{a:Option Addr}{live:List Value}(hH:SH og w l)(hn:0<n:=by omega)(hs:aB (fP el sz a n c live) l r:=by repeat(first|exact aB.here|apply aB.there)):∃b k pre,a=some ⟨b,k*sz,none⟩∧pre.length=k*sz∧SH og w (ao el sz (some b) (k+n) (k+c) (pre++live)::r):=by
 obtain⟨x,hx⟩:=SH.un (f:=fun x:j9 sz a n c live=>x.dm el) hH hs;cases x with
 |nil=>omega
 |dead=>omega
 |on b k n c pre live hk=>exact⟨b,k,pre,rfl,hk,hx⟩
theorem SH.CC {el:TypeId}{sz n c k N C:Nat}{pre live cs:List Value}(hH:SH og w l)(hk:pre.length=k*sz)(hs:aB (ao el sz (some b) N C cs) l r:=by repeat(first|exact aB.here|apply aB.there))(e1:N=k+n:=by rfl)(e2:C=k+c:=by rfl)(e3:cs=pre++live:=by rfl):SH og w (fP el sz (some ⟨b,k*sz,none⟩) n c live::r):=by
 subst e1 e2 e3;exact SH.mk (f:=fun x:j9 sz (some ⟨b,k*sz,none⟩) n c live=>x.dm el) (.on b k n c pre live hk) (hH.perm hs.perm)
end
section
variable {og:Og}{w:World}{l l':List It}{b:Nat}{κ ν:Type}[DecidableEq κ]{kv:κ→Value}{vv:ν→Value}{M:List (κ×ν)}
theorem EM.same {k:κ}{v v':ν}(hv:vv v=vv v'):∀{E:List MapEntry}{M:List (κ×ν)},EM kv vv E M→az M k=some v→EM kv vv E (bE M k v')
 | [],[],_,hn=>nomatch hn
 |x::E,(a,u)::M,h,hn=>by
  simp only[az] at hn;simp only[bE];split at hn
  ·rename_i e
   cases hn;subst e;rw[if_pos rfl];exact⟨h.1,by rw[h.2.1,hv],h.2.2⟩
  ·rename_i e
   rw[if_neg e];exact⟨h.1,h.2.1,EM.same hv h.2.2 hn⟩
theorem SH.agQ {k:κ}{v v':ν}(hH:SH og w l)(hm:az M k=some v)(hv:vv v=vv v')(hr:bA (aQ b kv vv M) (aQ b kv vv (bE M k v')) l l':=by repeat(first|exact bA.here|apply bA.there)):SH og w l':=by
 obtain⟨_,hs,_⟩:=hr.perm;have hM:dU w b kv vv M:=let⟨_,_,h,_⟩:=(hH.perm hs).head;h;obtain⟨E,c,h1,h2,h3⟩:=hM;exact hH.uY hr ⟨E,c,h1,h2.same hv hm,h3⟩ (Mod.refl w)
end
end
end Go.Proofs.YtmlpbmgfmnmmmaaGreat.V.M
