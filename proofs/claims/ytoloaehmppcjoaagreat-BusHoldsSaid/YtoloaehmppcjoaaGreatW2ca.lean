/-
  Parts of the proof. No condition.
-/
import Derived.Test.YtoloaehmppcjoaaGreatW2by
import Derived.Test.YtoloaehmppcjoaaGreatW2bw
import Derived.Test.YtoloaehmppcjoaaGreatW2bx
set_option linter.unusedVariables false
set_option linter.unusedSimpArgs false
set_option maxRecDepth 8000
set_option maxHeartbeats 8000000
open Go.Proofs.Tryz
namespace Go.Proofs.YtoloaehmppcjoaaGreat.V.M
section
def Dg (f:Int×Bs→Bool)(M:List (Int×Bs))(S:List Nat):Bool:=S.any fun n=>match M[n - 1]? with
 |some p=>f p
 |none=>false
theorem P3 {g:Nat→Bool}{n:Nat}{L:List Nat}:(iz n L).any g=(L.any g||g n):=by
 induction L with
 |nil=>simp[iz]
 |cons x L ih=>
  unfold iz;split
  ·rw[List.any_cons,ih,List.any_cons,Bool.or_assoc]
  ·rw[List.any_cons];cases g n<;>simp
theorem ahn (up:Nat)(R:List Nat):up≤(nC up R).1:=by
 induction R generalizing up with
 |nil=>exact aY _
 |cons x r ih=>
  unfold nC;split
  ·exact dF (pJ up) (ih (up+1))
  ·exact aY _
structure HI (M:List (Int×Bs))(T:Bs→Option Bs)(E:ao)(up:Nat)(R:List Nat):Prop where
 le:∀x∈lI up R,x≤M.length
 pi:∀k t,bf k=true→T k=some t→∃x m,PI E k x m t (Dg (fun p=>pZ p.1 p.2 k t) M (lI up R)) (Dg (fun p=>ry p.1 p.2 t) M (lI up R))
theorem HI.new {E:ao}{c:Nat}{T:Bs→Option Bs}(h:WI E c T)(M:List (Int×Bs)):HI M T E 0 []:=
 ⟨fun _ h=>(by cases h),fun _ _ hk hT=>h.pi hk hT⟩
theorem HI.rcv {M:List (Int×Bs)}{T:Bs→Option Bs}{E:ao}{up:Nat}{R:List Nat}(h:HI M T E up R)(hA:A2 up R){n:Nat}(h1:1≤n)(hM:M.length≤1000){p:Int×Bs}(hp:M[n - 1]?=some p)(aU:mP p.1 p.2=true) :
  (eC E up R 1 n p.1 p.2).2.2=0∧HI M T (eC E up R 1 n p.1 p.2).1.E (eC E up R 1 n p.1 p.2).1.up (eC E up R 1 n p.1 p.2).1.R∧up≤(eC E up R 1 n p.1 p.2).1.up∧∀x,x=n∨x∈lI up R→x∈lI (eC E up R 1 n p.1 p.2).1.up (eC E up R 1 n p.1 p.2).1.R:=by
 have hn:n≤M.length:=by have:=(aV.1 hp).1;omega
 unfold eC;rw[if_neg (by rw[aU];simp;omega),if_neg ah]
 by_cases jd:(n:Int)≤up∨yu R n=true
 ·rw[if_pos jd];refine⟨rfl,h,aY _,fun x hx=>?_⟩
  rcases hx with rfl|hx
  ·rcases jd with hi|hi
   ·exact CO.2 (.inl ⟨h1,by dsimp only;omega⟩)
   ·obtain⟨y,hy,e⟩:=vD.1 hi;have e2:=dM e;have e3:y=x:=by omega
    exact CO.2 (.inr (e3▸hy))
  ·exact hx
 ·rw[if_neg jd];have sj:up<n:=by omega
  have hR:n∉R:=NL fun hh=>jd (.inr hh)
  obtain⟨_,s2,_⟩:=WX hA sj hR;have zW:(n:Int).toNat=n:=qB n;dsimp only;rw[zW];have dN:∀x,x∈lI (oD up R n).1 (oD up R n).2↔x=n∨x∈lI up R:=fun x=>by rw[←s2];exact yv
  refine⟨rfl,⟨fun x hx=>?_,fun k t hk hT=>?_⟩,ahn _ _,fun x hx=>(dN x).2 hx⟩
  ·rcases(dN x).1 hx with rfl|hx
   ·exact hn
   ·exact h.le x hx
  ·obtain⟨x,m,hP⟩:=h.pi k t hk hT;have:=hP.cU (kd:=p.1) (nm:=p.2) aU;refine⟨x,m,?_⟩;rw[←s2];unfold Dg at this ⊢;rw[P3,P3,hp];exact this
theorem HI.fin {M:List (Int×Bs)}{T:Bs→Option Bs}{E:ao}{up:Nat}{R:List Nat}(h:HI M T E up R)(hA:A2 up R)(gA:∀n,1≤n→n≤M.length→n∈lI up R):up=M.length∧R=[]:=by
 have h1:up≤M.length:=by
  rcases Nat.eq_zero_or_pos up with h0|h0
  ·omega
  ·exact h.le up (CO.2 (.inl ⟨h0,aY _⟩))
 have h2:M.length≤up:=by
  rcases qz up M.length with h0|h0
  ·rcases CO.1 (gA (up+1) ah h0) with hh|hh
   ·omega
   ·have:=hA.gt _ hh;omega
  ·exact h0
 refine⟨Nat.le_antisymm h1 h2,?_⟩;cases R with
 |nil=>rfl
 |cons x r=>
  have h3:=hA.gt x (oK);have h4:=h.le x (CO.2 (.inr (oK)));omega
theorem P2 (f:Int×Bs→Bool)(M:List (Int×Bs)):Dg f M (lI M.length [])=M.any f:=by
 rw[Bool.eq_iff_iff];unfold Dg;rw[vD,vD];constructor
 ·rintro⟨n,hn,h⟩;cases hp:M[n - 1]? with
  |none=>rw[hp] at h;cases h
  |some p=>rw[hp] at h;exact⟨p,bD hp,h⟩
 ·rintro⟨p,hp,h⟩;obtain⟨i,hi⟩:=List.mem_iff_getElem?.1 hp;have hl:=(aV.1 hi).1;refine⟨i+1,CO.2 (.inl ⟨by omega,by omega⟩),?_⟩;rw[Nat.add_sub_cancel,hi];exact h
theorem HI.mark {M:List (Int×Bs)}{T:Bs→Option Bs}{E:ao}(h:HI M T E M.length []){k t:Bs}(hk:bf k=true)(hT:T k=some t) :
  (E.rn k).1.m=if(M.any fun p=>pZ p.1 p.2 k t)=true then 0 else if(M.any fun p=>ry p.1 p.2 t)=true then 2 else 1:=by
 obtain⟨x,m,hP⟩:=h.pi k t hk hT;rw[P2,P2] at hP;exact hP.mark hk
end
section
attribute [local irreducible] GO GX aB eX fz aF aS aq star
variable {o:Og}{w:World}
theorem aam {a:Option Addr}{n c:Nat}{cs:List Value}(hn:n<2^40)(hl:cs.length=n*2)(h0:a=none→n=0)(h1:∀u∈cs,u.oneCell'=true)(hs:Start o w [aF a cs]) :
  aj prog 42 [.slice a n c].toArray w (aX o (my n) (fun _=>True) (mw 31 2 n cs)):=by
 have hH:=hs.sh;refine aj.enter func42 rfl ntmps42 rfl (gh ?_);cases a with
 |none=>
  obtain rfl:=h0 rfl;obtain rfl:cs=[]:=gu ah;refine gh ?_;exact⟨(none,0),rfl,trivial,(SH.cF hH (Mod.refl w) (fun _ h=>by cases h) (aH.nil _ _ _)).to⟩
 |some x=>
  refine gh ?_;refine GX.sZ (h:=fun q w hH=>gh ?_);refine GX.pQ (hN:=SH.bL hH (x:=aF (some x) cs) bP) (hnl:=hl) (h1:=h1) (hb:=by omega) (hm:=by omega) (h:=fun q c w hH=>gh ?_);rw[dz] at hH ⊢;exact⟨(q,c),rfl,trivial,hH.to⟩
theorem S5 {h:Nat}{L:List (Int×Bs)}(hs:Start o w [fz (mK h L)]):aj prog 11 [ak h].toArray w (Po o (iV L.length) []):=by
 have hH:=hs.sh;obtain⟨X,hH⟩:=SH.dV hH;replace hH:=SH.ed hH;refine aj.enter func11 rfl ntmps11 rfl (gh ?_);exact⟨rfl,hH.to⟩
theorem aiU (L:List (Int×Bs)):∀u∈aL kr L,u.oneCell'=true:=by
 intro u hu;obtain⟨l,hl,hu⟩:=List.mem_flatten.1 hu;obtain⟨x,_,rfl⟩:=bG.1 hl;exact JT x u hu
theorem ad6 {h:Nat}{L:List (Int×Bs)}(hl:L.length<9000)(hs:Start o w [mK h L]) :
  aj prog 16 [ak h,iV 0].toArray w (aX o (fun q:Option Nat×Nat => .tuple #[.slice (aA q.1) L.length q.2,iV 0]) (fun _=>True) (fun q=>[mK h L,aq 31 2 q.1 L.length q.2 (aL kr L)])):=by
 have hH:=hs.sh;obtain⟨X,hH⟩:=SH.un hH;replace hH:=SH.ap hH;obtain⟨q,c⟩:=X;dsimp only at hH;refine aj.enter func16 rfl ntmps16 rfl (gh ?_);have e1:=hH.Oo (el:=31) (sz:=2) (q:=q);refine GC.br (pl:=(bg [0,3,6,12,15,18,21,10,25,27,30,33,38,39,42])) (T:=fun _=>False) (hm:=mixed) (h:=fun w hE hH=>gh ?_);refine gh ?_;rw[show(if(L.length:Int)<0 then(L.length:Int) else 0)=((0:Nat):Int) from if_neg ah];refine GX.pure rfl (GO.kX (j:=0) rfl (hh:=?_));rw[xl,Nat.sub_zero,Nat.sub_zero];refine gh ?_;refine GX.eG (hc:=fun _ hs=>aam (cs:=aL kr L) ah (gT AH L) e1 (aiU L) hs) (h:=?_);rintro⟨q2,c2⟩ w _ hS hH;replace hH:=SH.ap hH;refine gh ?_;exact⟨(q2,c2),rfl,trivial,(yl (q,c) hH).to⟩
end
section
def jg (L:List (Int×Bs)):List (Int×Bs):=L.filter fun p=>mP p.1 p.2
theorem aec {L:List (Int×Bs)}{i:Nat}{p:Int×Bs}(h:L[i]?=some p):jg (L.take (i+1))=qj (jg (L.take i)) p.1 p.2:=by
 unfold jg qj;rw[gv,h,vu];cases hp:mP p.1 p.2 with
 |true=>rw[if_pos rfl];simp[lO,hp]
 |false=>rw[if_neg (by simp)];simp[lO,hp]
theorem TN (L:List (Int×Bs)):(jg L).length≤L.length:=pF _ _
theorem aeb {L:List (Int×Bs)}{n:Nat}{p:Int×Bs}(h:(jg L)[n]?=some p):mP p.1 p.2=true:=
 (fR.1 (bD h)).2
def nF (i:Nat):Bs:=if i % 2=0 then[116] else[117]
theorem alz (i:Nat):eV (nF i)=true:=by
 unfold nF;split<;>rfl
def sM (K:List Bs)(k:Bs):Nat→Bs
 |0=>[]
 |j+1=>if K[j]?=some k then nF j else sM K k j
def TF (K:List Bs):Nat→Bs→Option Bs
 |0=>fun _=>none
 |j+1=>fun k=>if bf (K.getD j [])=true∧k=K.getD j [] then some (nF j) else TF K j k
theorem YO {K:List Bs}{k:Bs}(hk:bf k=true){j:Nat}(hj:j≤K.length)(h:∃i,i<j∧K[i]?=some k):TF K j k=some (sM K k j):=by
 induction j with
 |zero=>obtain⟨i,hi,_⟩:=h;omega
 |succ j ih=>
  have hd:K[j]?=some (K.getD j []):=by
   rw[dP,bO ah];rfl
  unfold TF sM
  by_cases e:K[j]?=some k
  ·have e2:K.getD j []=k:=by rw[hd] at e;exact Option.some.inj e
   rw[if_pos e,e2,if_pos ⟨hk,rfl⟩]
  ·have e2:k≠K.getD j []:=fun e2=>e (by rw[e2];exact hd)
   rw[if_neg e,if_neg fun h=>e2 h.2];obtain⟨i,hi,Ev⟩:=h;refine ih ah ⟨i,?_,Ev⟩
   rcases qz i j with h1|h1
   ·exact h1
   ·obtain rfl:i=j:=by omega
    exact absurd Ev e
noncomputable def qx (K:List Bs):Nat→ao
 |0=>jT Dr
 |j+1=>((qx K j).cU 0 (eh (K.getD j []) (nF j))).1
theorem amb {K:List Bs}(hK:K.length≤10){j:Nat}(hj:j≤K.length)(hl:∀x∈K.take j,x.length≤20):WI (qx K j) j (TF K j):=by
 induction j with
 |zero=>exact WI.new
 |succ j ih=>
  have hd:K[j]?=some (K.getD j []):=by
   rw[dP,bO ah];rfl
  have h1:=ih ah fun x hx=>hl x (by rw[gv];exact cx.2 (.inl hx))
  have h2:(K.getD j []).length≤20:=hl _ (by rw[gv,hd];exact cx.2 (.inr (by simp)));exact h1.cU ah h2 (alz j)
theorem marks {K:List Bs}{L:List (Int×Bs)}{E:ao}(h:HI (jg L) (TF K K.length) E (jg L).length []){i:Nat}{k:Bs}(hi:K[i]?=some k)(hk:bf k=true) :
  (E.rn k).1.m=if((jg L).any fun p=>pZ p.1 p.2 k (sM K k K.length))=true then 0 else if((jg L).any fun p=>ry p.1 p.2 (sM K k K.length))=true then 2 else 1:=
 h.mark hk (YO hk (aY _) ⟨i,(aV.1 hi).1,hi⟩)
end
section
attribute [local irreducible] GO GX aB eX fz aF aS aq star
theorem Qz:A4 nS:=⟨by decide,by decide,by decide,by decide,by decide,by decide⟩
theorem ait (E:ao):eC E 0 [] 2 2 3 [97,47]=(⟨(E.cU 2 (eK 3 [97,47])).1,0,[2]⟩,true,0):=by
 unfold eC;rw[if_neg (by decide),if_neg (by decide),if_neg (by decide)];rfl
theorem aiu (E:ao):eC E 0 [2] 3 2 3 [97,47]=(⟨E,0,[2]⟩,false,0):=by
 unfold eC;rw[if_neg (by decide),if_neg (by decide),if_pos (by decide)]
theorem aiv (E:ao):eC E 0 [2] 3 1 1 [116]=(⟨(E.cU 3 (eK 1 [116])).1,2,[]⟩,true,0):=by
 unfold eC;rw[if_neg (by decide),if_neg (by decide),if_neg (by decide)];rfl
theorem aiw (E:ao):eC E 2 [] 3 1003 1 [116]=(⟨E,2,[]⟩,false,3):=by
 unfold eC;rw[if_neg (by decide),if_pos (by decide)]
theorem aix (E:ao):eC E 2 [] 3 0 1 [116]=(⟨E,2,[]⟩,false,2):=by
 unfold eC;rw[if_pos (by decide)]
theorem aeW (b:Nat):ug gQ ⟨(none,0),(none,0),(aA (some b),1)⟩:=⟨by decide,by decide,by decide,by decide,by decide,fun _=>rfl⟩
theorem aeX:ug rh zo:=⟨by decide,by decide,by decide,by decide,by decide,fun _=>rfl⟩
theorem Cj {o:Og}{w:World}(hs:Start o w []):aj prog 7 ([]:List Value).toArray w (Po o (.bool true) []):=by
 have hH:=hs.sh;refine aj.enter func7 rfl ntmps7 rfl (gh ?_);refine GX.cI (h:=fun h w hH=>gh ?_);have aQ:=SH.cF (el:=31) (sz:=2) (q:=none) (n:=0) (c:=0) (cs:=[]) hH (Mod.refl w) (fun _ h=>by cases h) (aH.nil _ _ _);replace hH:=yl (h:=h) (L:=[]) (none,0) aQ;clear aQ;refine gh ?_;refine GX.cA (h:=fun a w hH=>gh ?_);refine GX.bt (h:=fun w hH=>gh ?_);refine GX.aM (hc:=fun _ hs=>Kr [116] hs) (h:=fun w hE hH=>gh ?_);refine GX.bF (hc:=fun _ hs=>OS (h:=h) (L:=[]) (by decide) 1 [116] 1 0 hs) (h:=fun w hH=>gh ?_);rw[show(decide (AG [] 1 [116]=1)&&decide (CI 1 [116]=0))=true from by decide];refine gh ?_;refine GX.bF (hc:=fun _ hs=>OS (h:=h) (L:=qj [] 1 [116]) (by decide) 3 [97,47] 2 0 hs) (h:=fun w hH=>gh ?_);rw[show(decide (AG (qj [] 1 [116]) 3 [97,47]=2)&&decide (CI 3 [97,47]=0))=true from by decide];refine gh ?_;refine GX.bF (hc:=fun _ hs=>OS (h:=h) (L:=qj (qj [] 1 [116]) 3 [97,47]) (by decide) 4 [120] 0 2 hs) (h:=fun w hH=>gh ?_);rw[show(decide (AG (qj (qj [] 1 [116]) 3 [97,47]) 4 [120]=0)&&decide (CI 4 [120]=2))=true from by decide];refine gh ?_;rw[show qj (qj (qj [] 1 [116]) 3 [97,47]) 4 [120]=[(1,[116]),(3,[97,47])] from rfl] at hH;refine GX.bF (hc:=fun _ hs=>MO (h:=h) (L:=[(1,[116]),(3,[97,47])]) hs) (h:=fun w hH=>gh ?_);refine gh ?_;refine GX.bF (hc:=fun _ hs=>SI (h:=h) (n:=2) (L:=[(1,[116]),(3,[97,47])]) (by decide) (by decide) (x:=(3,[97,47])) rfl hs) (h:=fun w hH=>gh ?_);refine GX.cA (h:=fun p w hH=>gh ?_);refine GX.bt (h:=fun w hH=>gh ?_);refine GX.bF (hc:=fun _ hs=>adl (h:=h) (n:=3) (L:=[(1,[116]),(3,[97,47])]) (by decide) hs) (h:=fun w hH=>gh ?_);refine GX.cA (h:=fun p2 w hH=>gh ?_);refine GX.bt (h:=fun w hH=>gh ?_);refine GX.aM (hc:=fun _ hs=>ajH hs) (h:=fun w hE hH=>gh ?_);refine GX.bZ (hc:=fun _ hs=>WV nS Qz (by decide) hs) (h:=?_);rintro r w _ hH;replace hH:=SH.ap hH;refine gh ?_;have HV:nP (jT nS) 0 [] 0:=⟨de.new nS Qz,⟨List.Pairwise.nil,fun _ h=>by cases h⟩,aY _,fun _ h=>by cases h⟩
 refine GX.oF (h:=fun b1 w hH=>gh ?_);replace hH:=hH.freeze az.here;replace hH:=hH.nh.nh;refine GX.bZ (hc:=fun _ hs=>CK (b:=r) HV.w (by decide) 1 (by decide) gQ ⟨(none,0),(none,0),(aA (some b1),1)⟩ (aeW b1) hs) (h:=?_);rintro x1 w ⟨lX,cX⟩ hH;replace hH:=SH.ap hH;have rT:=afi;have Ni:=lS.aaQ (jT nS) (lS.new nS);generalize (jT nS).cU 1 gQ=D1 at rT Ni lX cX hH ⊢;obtain⟨E1,⟨op1,er1,L1,ve1,n1,nu1⟩,e1⟩:=D1;obtain⟨q1,q2,q3⟩:=rT;dsimp only at q1 q2 q3 Ni lX cX hH;subst q1 q2 q3;refine gh ?_;refine GX.cA (h:=fun x w hH=>gh ?_);refine GX.bt (h:=fun w hH=>gh ?_);have hW1:nP E1 0 [] 2:=⟨cX,⟨List.Pairwise.nil,fun _ h=>by cases h⟩,by decide,fun _ h=>by cases h⟩
 refine GX.bZ (hc:=fun _ hs=>FM (b:=r) hW1 (by decide) 2 (by decide) 2 3 [97,47] (by decide) true 0 hs) (h:=?_);rintro⟨⟩ w hR hH;replace hH:=SH.ap hH;rw[ait] at hR hH ⊢;dsimp only at hR hH ⊢;refine gh ?_;refine GX.bF (hc:=fun _ hs=>FL (b:=r) hs) (h:=fun w hH=>gh ?_);refine GX.bZ (hc:=fun _ hs=>OV (b:=r) hR (by decide) hs) (h:=?_);rintro⟨g1,gc1⟩ w _ hH;replace hH:=SH.ap hH;refine gh ?_;refine GX.oF (h:=fun b2 w hH=>gh ?_);refine GX.bF (hc:=fun _ hs=>ab1 (q1:=g1) (c1:=gc1) (q2:=some b2) (c2:=1) [(1,2)] (by decide) hs) (h:=fun w hH=>gh ?_);have je:=afj Ni;dsimp only at je;generalize (E1.cU 2 (eK 3 [97,47])).1=E2 at je hR hH;replace hH:=hH.nh.nh.nh;refine GX.bZ (hc:=fun _ hs=>CK (b:=r) hR.w (by decide) 2 (by decide) rh zo aeX hs) (h:=?_);rintro x3 w ⟨Fc,iK⟩ hH;replace hH:=SH.ap hH;generalize E2.cU 2 rh=D3 at je Fc iK hH ⊢;obtain⟨E3,⟨op3,er3,L3,ve3,n3,nu3⟩,e3⟩:=D3;obtain⟨q1,⟨i3,q2,q5⟩,q4⟩:=je;dsimp only at q1 q2 q4 Fc iK hH;subst q1 q2 q4;obtain⟨xL,⟨xqa,xqc⟩,xn⟩:=x3;dsimp only at Fc hH;obtain⟨rq,rfl⟩:∃rq,xL=[⟨i3,rq⟩]:=by
  match xL,Fc with
  | [⟨i,q⟩],h=>simp at h;exact⟨q,by rw[h]⟩
 refine gh ?_;refine GX.bt (h:=fun w hH=>gh ?_);obtain⟨bi,rfl⟩:=hH.pos (el:=64) (sz:=4) (q:=xqa) (n:=1);have rW:({ L:=[{ i:=i3,q:=rq}],q:=(some bi,xqc),nq:=xn}:xI).L.length=1:=rfl;refine gh ?_;refine GX.next rfl (GO.cT (hv:=show(aL py [(⟨i3,rq⟩:gI)])[0]?=some (iV i3.m) from rfl) (h:=gh ?_));rw[show decide (i3.m≠0)=false from bQ (by simp[q5])];refine gh ?_;have hW3:nP E3 0 [2] 6:=⟨iK,⟨by simp,fun x hx=>by simp at hx;omega⟩,by decide,fun x hx=>by simp at hx;omega⟩
 refine GX.bZ (hc:=fun _ hs=>FM (b:=r) hW3 (by decide) 3 (by decide) 2 3 [97,47] (by decide) false 0 hs) (h:=?_);rintro⟨⟩ w L4 hH;replace hH:=SH.ap hH;rw[aiu] at L4 hH ⊢;dsimp only at L4 hH ⊢;refine gh ?_;refine GX.aM (hc:=fun _ hs=>Kr [116] hs) (h:=fun w hE hH=>gh ?_);refine GX.bZ (hc:=fun _ hs=>FM (b:=r) L4 (by decide) 3 (by decide) 1 1 [116] (by decide) true 0 hs) (h:=?_);rintro⟨⟩ w D5 hH;replace hH:=SH.ap hH;rw[aiv] at D5 hH ⊢;dsimp only at D5 hH ⊢;refine gh ?_;refine GX.bF (hc:=fun _ hs=>FL (b:=r) hs) (h:=fun w hH=>gh ?_);refine GX.bZ (hc:=fun _ hs=>OV (b:=r) D5 (by decide) hs) (h:=?_);rintro⟨g2,gc2⟩ w _ hH;replace hH:=SH.ap hH;refine gh ?_;refine GX.aM (hc:=fun _ hs=>Kr [116] hs) (h:=fun w hE hH=>gh ?_);generalize (E3.cU 3 (eK 1 [116])).1=E4 at D5 hH;refine GX.bZ (hc:=fun _ hs=>FM (b:=r) D5 (by decide) 3 (by decide) 1003 1 [116] (by decide) false 3 hs) (h:=?_);rintro⟨⟩ w L5 hH;replace hH:=SH.ap hH;rw[aiw] at L5 hH ⊢;dsimp only at L5 hH ⊢;refine gh ?_;refine GX.aM (hc:=fun _ hs=>Kr [116] hs) (h:=fun w hE hH=>gh ?_);refine GX.bZ (hc:=fun _ hs=>FM (b:=r) L5 (by decide) 3 (by decide) 0 1 [116] (by decide) false 2 hs) (h:=?_);rintro⟨⟩ w RY hH;replace hH:=SH.ap hH;rw[aix] at RY hH ⊢;dsimp only at RY hH ⊢;refine gh ?_;exact⟨rfl,hH.to⟩
end
section
attribute [local irreducible] GX
section
variable {P:Program}{ops:Array Oper}{Q:Exit→Act→World→Prop}{S:World→Prop}{n:Nat}
variable {i:Nat}{p:b6}{e:Env}{w:World}{dst:Option Tmp}{ty:TypeId}{pos:String}{an:Array Edge}{g:Option (Nat×Bool)}
theorem GO.agm [Fr]{t:TypeId}{sz:Nat}{x:Operand}{b o q j:Nat}{vs cs:List Value}(hA:bN w (some ⟨b,q,none⟩) cs)(hw:aI ops e ⟨dst, .load t x,ty,pos,an,g⟩=some true:=by rfl)(hf:aC P t true sz:=by infer_instance)(hx:ev e x=some (.pointer (some ⟨b,o,none⟩)):=by rfl)(hd:fits n dst=true:=by rfl)
  (hv:(cs.drop j).take sz=vs) (hl:vs.length=sz:=by rfl) (hj:o=q+j:=by first|rfl|omega) (h:GX P ops Q S n p (e.put dst (.agg vs.toArray)) w):GO P ops Q S n .aw i ⟨dst, .load t x,ty,pos,an,g⟩ p e w:=by
 subst hj;have gy:At w b (q+j) vs:=by
  intro i v hi;rw[←hv] at hi;have aN:i<sz:=by
   have:=(aV.1 hi).1;rw[dI] at this;omega
  rw[C5 aN,List.getElem?_drop] at hi;have:=hA (j+i) v hi;rwa [show q+j+i=q+(j+i) by omega]
 exact GO.NY gy hl hw hx hd h
end
end
end Go.Proofs.YtoloaehmppcjoaaGreat.V.M
