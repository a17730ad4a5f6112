/-
  Parts of the proof. No condition.
-/
import Derived.Test.YtmlpbmgfmnmmmaaGreatW2bm
set_option linter.unusedVariables false
set_option linter.unusedSimpArgs false
set_option maxRecDepth 8000
set_option maxHeartbeats 8000000
open Go.Proofs.Tryz
namespace Go.Proofs.YtmlpbmgfmnmmmaaGreat.V.M
attribute [local irreducible] GO GX aA fz aF aQ ao star
variable {o:Og}{w:World}
theorem alW {t:Nat}{T:cz}{v:Value}(hT:TT T)(p:Bs)(hp:p.length≤250)(h0:0<bW (az T) p)(hs:Start o w [fz (aA t [ak (iN T),v]),fz (eH T)]) :
  aj prog 335 [ak t,str p].toArray w (Po o (.tuple #[uV (bW (az T) p),iV 0]) []):=by
 have h:=alX hT p hp hs;unfold Li at h;rwa [if_neg ah] at h
theorem alZ {t:Nat}{A:sE}(p:Bs)(hp:p.length≤250)(h0:0<A.P p)(hK:A.K<2^40)(hs:Start o w [nu t A]) :
  aj prog 298 [ak t,str p].toArray w (aU o (fun n:Nat => .tuple #[uV n,iV 0]) (fun _=>True) (fun _=>[nu t ⟨fun s=>if s=p then 0 else A.P s,A.K⟩])):=by
 have hH:=hs.sh;obtain⟨⟨T,hA⟩,hH⟩:=SH.un hH;replace hH:=SH.ap hH;dsimp only at hH;have hT:=hA.tt;have xP:=hA.dC;have DI:0<bW (az T) p:=by rw[←hA.num];exact h0
 refine aj.enter func298 rfl ntmps298 rfl (gh ?_);refine GX.aL (hc:=fun _ hs=>alW hT p hp DI hs) (h:=fun w hE hH=>gh ?_);refine GX.dX (hc:=fun _ hs=>WC hT p hp hs) (h:=?_);rintro⟨R,⟨q1,c1⟩,⟨q2,c2⟩⟩ w hC hE hH;have mZ:=hC.len hT hp;dsimp only at mZ;replace hH:=SH.ap hH
 rcases hC with⟨_,bG⟩|⟨hC,j,b,R',rfl⟩
 ·unfold bW at DI;rw[bG] at DI;exact absurd DI (Nat.lt_irrefl 0)
 dsimp only at hC;obtain⟨x,hx,rfl⟩:=hC.head;obtain⟨k1,k2,k3⟩:=Xv hT hx (bh never);have zC:=hC.O6 hx 0;have hg:bW (az T) p=x.n:=by unfold bW;rw[hx]
 have Ea:fo T=fo (bE T p { x with n:=0})+1:=by
  refine QJ k1.nd hT.nd (s:=p) ?_ DI fun t ht=>?_
  ·rw[k2,if_pos rfl]
  ·rw[k2,if_neg ht]
 dsimp only[OF] at hH ⊢;have kZ:((p,j,x.b)::R').length=R'.length+1:=rfl;rw[kZ] at hH mZ ⊢;replace hH:=hH.uR hx;obtain⟨a1,rfl⟩:=hH.pos (el:=256) (sz:=1) (q:=q1) (n:=R'.length+1);have zR:(bg (((p,j,x.b)::R').reverse.map (·.2.2)))[R'.length]?=some (ak x.b):=by simp[bg,ia]
 refine gh ?_;refine GX.next rfl (GO.cG (hv:=zR) (h:=gh ?_));refine GX.dw (h:=fun w hH=>gh ?_);replace hH:=hH.Oj p { x with n:=0};refine GX.dw (h:=fun w hH=>gh ?_);refine GX.bS (hc:=fun _ hs=>alP k1 zC kZ mZ hs) (h:=?_);rintro T2 w ⟨m1,m2,m3⟩ hH;replace hH:=SH.ap hH;refine gh ?_;have uh:fo T2=fo (bE T p { x with n:=0}):=QK k1.nd m1.nd m2;rw[←k3,←m3,show(fo T:Int) - 1=((fo T2:Nat):Int) by omega] at hH;exact⟨_,rfl,trivial,(C2 (A:=⟨fun s=>if s=p then 0 else A.P s,A.K⟩) ⟨m1,fun s=>by show(if s=p then 0 else A.P s)=_;rw[m2,k2,hA.num],by show _≤A.K;omega⟩ hH).to⟩
theorem SH.aha {l t:List It}{b sz n c:Nat}{ca cs:List Value}{el:TypeId}{q:Option Nat}(h:SH o w l)(hp:Pk l [fz (aA b ca),ao el sz q n c cs] t:=by repeat(first|exact Pk.nil|(apply Pk.cons;repeat(first|exact aB.here|apply aB.there)))):some b≠q:=by
 have h1:=SH.nodup (h.perm hp.perm);unfold fz aA ao at h1;obtain⟨Z,F1,F2,⟨⟨F',Z',k1,_,⟨_,k2⟩⟩,_⟩,⟨_,rfl⟩,_,hd⟩:=h1;intro e;exact hd b (.inr e.symm) (k1 b (by rw[k2]))
def yH (x:Bs×Nat):List Value:=[str x.1,uV x.2]
theorem WE (x:Bs×Nat):(yH x).length=2:=rfl
theorem aib (x:Bs×Nat):∀u∈yH x,u.oneCell'=true:=by intro u hu;simp[yH] at hu;rcases hu with rfl|rfl<;>rfl
structure sA (T:cz)(s:Bs)(l:List (Bs×Nat)):Prop where
 ord:l.Pairwise fun a b=>a.1<b.1
 mem:∀a∈l,0<bW (az T) a.1
 lt:∀a∈l,a.1<s
theorem VO {a b t:Bs}(h:a<b)(hp:b <+: t):a<t:=by
 obtain⟨u,rfl⟩:=hp;cases u with
 |nil=>simpa using h
 |cons c u=>
  have:=NV (s:=b) (e:=[c]) (by simp) u;rw[cP] at this;exact List.lt_trans h this
theorem NW {a b:Bs}(h:a<b):a≠b:=fun e=>by rw[e] at h;exact List.lt_irrefl _ h
theorem PM {T:cz}(hT:TT T){l:List (Bs×Nat)}(ho:l.Pairwise fun a b=>a.1<b.1)(hm:∀a∈l,0<bW (az T) a.1):l.length≤fo T:=by
 have h1:(l.map (·.1)).Nodup:=by
  rw[pj,rl];exact ho.imp fun h=>NW h
 have:=xo h1 (l₂:=wJ T) fun t ht=>by
  obtain⟨a,ha,rfl⟩:=bK.1 ht;exact(wC hT.nd).2 (hm a ha)
 simpa[fo] using this
theorem sA.app {T:cz}{s:Bs}{l m:List (Bs×Nat)}(h:sA T s l){p:Bs}(hm:LU (az T) p s m){s':Bs}(hs:∀t,s <+: t→0<bW (az T) t→t<s')(B9:s<s'):sA T s' (l++m):=by
 refine⟨xm.2 ⟨h.ord,hm.ord,fun a ha b hb=>?_⟩,fun a ha=>?_,fun a ha=>?_⟩
 ·obtain⟨_,_,k,_⟩:=(hm.mem b.1 b.2).1 hb;exact VO (h.lt a ha) k
 ·rcases cJ.1 ha with ha|ha
  ·exact h.mem a ha
  ·obtain⟨k1,k2,_⟩:=(hm.mem a.1 a.2).1 ha;rw[k2];exact k1
 ·rcases cJ.1 ha with ha|ha
  ·exact List.lt_trans (h.lt a ha) B9
  ·obtain⟨k1,k2,k3,_⟩:=(hm.mem a.1 a.2).1 ha;exact hs _ k3 (by rw[k2];exact k1)
instance:aC prog 390 false 1:=⟨ai⟩
instance:eQ prog 390 [.nilFunc]:=⟨ai⟩
def ama (bp bo bv:Nat):Value := .func (.func 278) #[] #[ak bp,ak bo,ak bv]
abbrev C3 (bp bo bv:Nat)(p:Bs)(T:cz)(q:Option Nat×Nat)(l:List (Bs×Nat)):List It:=[fz (eH T),aA bp [str p],aA bv [ama bp bo bv],aA bo [.slice (ay q.1) l.length q.2],ao 342 2 q.1 l.length q.2 (aK yH l)]
structure Kn (T:cz)(s:Bs)(l:List (Bs×Nat)):Prop where
 ord:l.Pairwise fun a b=>a.1<b.1
 mem:∀a∈l,0<bW (az T) a.1
 lt:∀a∈l,a.1<s∨a.1=s
theorem sA.same {T:cz}{s:Bs}{l:List (Bs×Nat)}(h:sA T s l):Kn T s (l++[]):=by
 rw[eY];exact⟨h.ord,h.mem,fun a ha => .inl (h.lt a ha)⟩
theorem sA.more {T:cz}{s:Bs}{l:List (Bs×Nat)}(h:sA T s l){n:Nat}(hn:0<bW (az T) s):Kn T s (l++[(s,n)]):=by
 refine⟨xm.2 ⟨h.ord,List.pairwise_singleton _ _,fun a ha b hb=>?_⟩,fun a ha=>?_,fun a ha=>?_⟩
 ·rw[lC.1 hb];exact h.lt a ha
 ·rcases cJ.1 ha with ha|ha
  ·exact h.mem a ha
  ·rw[lC.1 ha];exact hn
 ·rcases cJ.1 ha with ha|ha
  ·exact .inl (h.lt a ha)
  ·rw[lC.1 ha];exact .inr rfl
abbrev Kv (T:cz)(bp bo bv:Nat)(p:Bs)(s sp:Bs)(x:Tn):Prop:=∀{o:Og}{w:World}{q:Option Nat×Nat}{l:List (Bs×Nat)},sA T s l→Start o w (C3 bp bo bv p T q l) →
 aj prog 278 [ak x.b,str sp,ak bp,ak bo,ak bv].toArray w (aU o (fun _ => .tuple #[]) (fun y:List (Bs×Nat)×(Option Nat×Nat)=>LU (az T) p s y.1) (fun y=>C3 bp bo bv p T y.2 (l++y.1)))
theorem Yp {T:cz}(hT:TT T)(hc:fo T<2^40){bp bo bv:Nat}(p:Bs)(hp:p.length≤250){s sp:Bs}{x:Tn}(hx:az T s=some x)(fE:sp++x.e=s)
  (T3:∀{e:Bs×Nat}{y:Tn},e∈x.ks→az T (s++e.1)=some y→s++y.e=s++e.1→Kv T bp bo bv p (s++e.1) s y):Kv T bp bo bv p s sp x:=by
 intro o w q l hA hs;have hH:=hs.sh.tk hx;have TC:=hT.ok.len _ _ hx;have uo:=fun i e he=>hT.jb hx (i:=i) (e:=e) he
 have LY:=hT.ok.ne _ _ hx;have R0:bW (az T) s=x.n:=by unfold bW;rw[hx]
 have cQ:=hT.kl hx;have kZ:=PM hT hA.ord hA.mem;obtain⟨xb,xe,xn,⟨xq,xd⟩,ks⟩:=x;obtain⟨q,c⟩:=q;dsimp only at hH uo LY R0 cQ fE T3 ⊢;have dY:sp.length+xe.length≤250:=by rw[←bJ,fE];exact TC
 refine aj.enter func278 rfl ntmps278 rfl (gh ?_);refine GX.next rfl (XZ sp xe rfl rfl rfl rfl rfl ah ?_);rw[fE];refine GX.next rfl (GO.assign rfl rfl rfl rfl ?_);refine GX.stop ?_;refine GQ.DG ?_;refine GC.seq ?_;refine GC.cut (X:=Unit) (fun _=>[(0,ak xb),(1,str s),(2,ak bp),(3,ak bo),(4,ak bv)]) (fun _ w'=>(p <+: s∨s <+: p)∧SH o w' (C3 bp bo bv p T (q,c) l++[fz (aA xb [str xe,uV xn, .slice (ay xq) ks.length xd]),fz (ao 256 1 xq ks.length xd (bg (ks.map (·.2))))])) ?_ ?_
 ·refine gh ?_;refine GX.da (HS s p ah ah _) rfl rfl rfl rfl rfl rfl (gh ?_)
  by_cases h1:p <+: s
  ·rw[bQ h1];refine gh ?_;exact GQ.dx () (cZ (l:=[0,1,2,3,4]) rfl) ⟨.inl h1,hH.to⟩
  ·rw[bt h1];refine gh ?_;refine GX.da (HS p s ah ah _) rfl rfl rfl rfl rfl rfl (gh ?_)
   by_cases h2:s <+: p
   ·rw[bQ h2];refine gh ?_;exact GQ.dx () (cZ (l:=[0,1,2,3,4]) rfl) ⟨.inr h2,hH.to⟩
   ·rw[bt h2];refine gh ?_;exact⟨([],(q,c)),rfl,LU.apart h2 h1,by dsimp only;rw[eY];exact hH.to⟩
 rintro _ w ⟨Ad,hH⟩;replace hH:=SH.ap hH;dsimp only at hH ⊢;refine GQ.DG ?_;refine GC.seq ?_;refine GC.cut (X:=List (Bs×Nat)×(Option Nat×Nat)) (fun _=>[(0,ak xb),(1,str s),(2,ak bp),(3,ak bo),(4,ak bv)]) (fun y w'=>y.1=(if 0<xn∧p <+: s then[(s,xn)] else[])∧Kn T s (l++y.1)∧SH o w' (C3 bp bo bv p T y.2 (l++y.1)++[fz (aA xb [str xe,uV xn, .slice (ay xq) ks.length xd]),fz (ao 256 1 xq ks.length xd (bg (ks.map (·.2))))])) ?_ ?_
 ·refine gh ?_;refine ifs (fun h3=>?_) (fun h3=>?_)<;>refine gh ?_
  ·refine ifs (fun h4=>?_) (fun h4=>?_)<;>refine gh ?_
   ·have wh:p <+: s:=by
     rcases Ad with h|h
     ·exact h
     ·rw[h.eq_of_length (by have:=h.length_le;omega)];exact kP
    have Cd:0<xn:=by omega
    have iw:=hA.more (n:=xn) (by rw[R0];exact Cd);have hh:[(s,xn)]=(if 0<xn∧p <+: s then[(s,xn)] else[]):=(if_pos ⟨Cd,wh⟩).symm;have jQ:¬some bo=q:=hH.th (b:=bo) (q:=q) (el:=342) (sz:=2);have iY:¬some xb=q:=hH.aha (b:=xb) (q:=q) (el:=342) (sz:=2);refine GC.bq (pl:=(aZ [3,6,9,12,1,16,18,23,26,29])) (T:=cS [bo,xb]) (hm:=mixed) (h:=fun w hE hH=>gh ?_);refine GX.o8 (h:=fun bl w hS hH=>gh ?_);refine GX.oD (q:=q) (h1:=aib (s,xn)) (hT:=fun k hk hm=>by
     rcases bY.1 hm with h|h
     ·exact jQ (by rw[←h];exact hk)
     ·exact iY (by rw[←lC.1 h];exact hk)) (h:=fun q c w hS hH=>gh ?_)
    refine GX.fH (h:=fun w hH=>gh ?_);rw[show l.length+1=(l++[(s,xn)]).length by simp,show[str s,uV xn]=yH (s,xn) from rfl,←kK] at hH;refine gh ?_;exact GQ.dx ([(s,xn)],(q,c)) (cZ (l:=[0,1,2,3,4]) rfl) ⟨hh,iw,hH.to⟩
   ·have hh:[]=(if 0<xn∧p <+: s then[(s,xn)] else[]):=(if_neg fun h=>h4 (by have:=h.2.length_le;omega)).symm;rw[←eY l] at hH;exact GQ.dx ([],(q,c)) (cZ (l:=[0,1,2,3,4]) rfl) ⟨hh,hA.same,hH.to⟩
  ·have hh:[]=(if 0<xn∧p <+: s then[(s,xn)] else[]):=(if_neg fun h=>h3 (by have:=h.1;omega)).symm;rw[←eY l] at hH;exact GQ.dx ([],(q,c)) (cZ (l:=[0,1,2,3,4]) rfl) ⟨hh,hA.same,hH.to⟩
 rintro⟨h0,⟨q,c⟩⟩ w ⟨hh,iw,hH⟩;replace hh:=hh.symm;replace hH:=SH.ap hH;dsimp only at hH iw hh ⊢;refine gh ?_;refine GC.bP [1,4,49,50] (fun y:Nat×List (Bs×Nat)×(Option Nat×Nat)=>[(51,iV y.1)]) (fun y w'=>y.1≤ks.length∧zc (az T) p s (ks.take y.1) y.2.1∧(l++h0++y.2.1).Pairwise (fun a b=>a.1<b.1)∧(∀a∈l++h0++y.2.1,0<bW (az T) a.1)∧(∀e∈ks.drop y.1,∀a∈l++h0++y.2.1,a.1<s++e.1)∧SH o w' (C3 bp bo bv p T y.2.2 (l++h0++y.2.1)++[fz (aA xb [str xe,uV xn, .slice (ay xq) ks.length xd]),fz (ao 256 1 xq ks.length xd (bg (ks.map (·.2))))])) (fun y=>ks.length - y.1) (0,[],(q,c)) rfl rfl ⟨bh _,by rw[List.take_zero];exact zc.nil _ _ _,by rw[eY];exact iw.ord,by rw[eY];exact iw.mem,fun e he a ha=>by
  rw[eY] at ha;rw[List.drop_zero] at he;have:=NV (s:=s) (LY e he) [];rw[eY] at this
  rcases iw.lt a ha with h|h
  ·exact List.lt_trans h this
  ·rw[h];exact this,by rw[eY];exact hH.to⟩ ?_
 rintro⟨k,m,⟨q2,c2⟩⟩ w ⟨hk,uc,ho,Ew,aP,hH⟩;dsimp only at hk uc ho Ew aP hH ⊢;replace hH:=SH.ap hH;refine gh ?_;refine ifs (fun h5=>?_) (fun h5=>?_)<;>refine gh ?_
 ·have BM:k<ks.length:=by omega
  obtain⟨e,he⟩:∃e,ks[k]?=some e:=⟨_,bO BM⟩
  obtain⟨y,hy,fv,eG,aR,_⟩:=uo k e he;obtain⟨b9,rfl⟩:=hH.lR (el:=256) (sz:=1) (q:=xq) (n:=ks.length);have Sx:ks.drop k=e::ks.drop (k+1):=by rw[p7 BM];congr 1;exact(aV.1 he).2
  have rz:sA T (s++e.1) (l++h0++m):=⟨ho,Ew,fun a ha=>aP e (by rw[Sx];simp) a ha⟩
  refine gh ?_;refine GX.next rfl (GO.cG (hv:=show(bg (ks.map (·.2)))[k]?=some (ak y.b) by simp[bg,he,eG]) (h:=gh ?_));refine GX.bS (hc:=fun _ hs=>T3 (bF he) hy (by rw[fv]) rz hs) (h:=?_);rintro⟨m2,⟨q3,c3⟩⟩ w rC hH;dsimp only at rC;replace hH:=SH.ap hH;refine gh ?_;have uz:=hT.ok.ord _ _ hx;have hA4:∀f∈ks.drop (k+1),sA T (s++f.1) (l++h0++m++m2):=fun f hf=>by
   have SD:hd e.1<hd f.1:=by
    have h7:(ks.drop k).Pairwise fun a b=>hd a.1<hd b.1:=uz.sublist (List.drop_sublist _ _)
    rw[Sx] at h7;exact(lB.1 h7).1 f hf
   have SI:=LY f (xj hf);refine rz.app rC (fun t ht _=>?_) ?_
   ·obtain⟨u,rfl⟩:=ht;have:=NU (s:=s) aR SI SD u [];rwa [eY] at this
   ·have:=NU (s:=s) aR SI SD [] [];rwa [eY,eY] at this
  have hpw:(l++h0++m++m2).Pairwise fun a b=>a.1<b.1:=xm.2 ⟨ho,rC.ord,fun a ha b hb=>VO (rz.lt a ha) ((rC.mem b.1 b.2).1 hb).2.2.1⟩
  have B4:∀a∈l++h0++m++m2,0<bW (az T) a.1:=fun a ha=>by
   rcases cJ.1 ha with ha|ha
   ·exact Ew a ha
   ·obtain⟨k1,k2,_⟩:=(rC.mem a.1 a.2).1 ha;rw[k2];exact k1
  refine GQ.br (k+1,m++m2,(q3,c3)) rfl ⟨BM,hT.ok.lus hx he uc rC,by simp only;rw[←cP];exact hpw,by simp only;rw[←cP];exact B4,fun f hf a ha=>by simp only at ha hf;rw[←cP] at ha;exact(hA4 f hf).lt a ha,?_⟩ (by simp only;omega);dsimp only;rw[←cP];exact hH.to
 ·obtain rfl:k=ks.length:=by omega
  rw[j5] at uc;refine gh ?_;have nS:=hT.ok.lu hx uc;refine⟨(h0++m,(q2,c2)),rfl,?_,?_⟩
  ·rw[hh] at nS;exact nS
  ·dsimp only;rw[←cP];exact hH.to
theorem amb {T:cz}(hT:TT T)(hc:fo T<2^40){bp bo bv:Nat}(p:Bs)(hp:p.length≤250):∀(d:Nat) {s sp:Bs}{x:Tn},az T s=some x→sp++x.e=s→250≤s.length+d→Kv T bp bo bv p s sp x:=by
 intro d
 induction d with
 |zero=>
  intro s sp x hx fE hd;refine Yp hT hc p hp hx fE fun {e y} he hy _=>?_
  have h1:=hT.ok.len _ _ hy;have h2:=xl.2 (hT.ok.ne _ _ hx e he);rw[bJ] at h1;omega
 |succ d ih=>
  intro s sp x hx fE hd;refine Yp hT hc p hp hx fE fun {e y} he hy fv=>?_
  have h2:=xl.2 (hT.ok.ne _ _ hx e he);intro o w q l hA hs;exact ih hy fv (by rw[bJ];omega) hA hs
theorem VP {T:cz}(hT:TT T){p s:Bs}{l:List (Bs×Nat)}(h:LU (az T) p s l):l.length≤fo T:=PM hT h.ord fun a ha=>by
 obtain⟨k1,k2,_⟩:=(h.mem a.1 a.2).1 ha;rw[k2];exact k1
theorem Yn {t:Nat}{T:cz}{v:Value}(hT:TT T)(hc:fo T<2^40)(p:Bs)(hp:p.length≤250)(hs:Start o w [fz (aA t [ak (iN T),v]),fz (eH T)]) :
  aj prog 209 [ak t,str p].toArray w (aU o (fun y:List (Bs×Nat)×(Option Nat×Nat) => .slice (ay y.2.1) y.1.length y.2.2) (fun y=>LU (az T) p [] y.1) (fun y=>[ao 342 2 y.2.1 y.1.length y.2.2 (aK yH y.1)])):=by
 have hH:=hs.sh;obtain⟨r0,iD,wj⟩:=hT.ok.root;rw[tw iD] at hH;refine aj.enter func209 rfl ntmps209 rfl (gh ?_);refine GX.cw (h:=fun bp w hH=>gh ?_);rw[←tw iD] at hH;refine GX.aL (hc:=fun _ hs=>C0 p hs) (h:=fun w hE hH=>gh ?_);rw[if_pos hp];rw[tw iD] at hH;refine gh ?_;refine GX.cm (h:=fun bo w hH=>gh ?_);refine GX.cm (h:=fun bv w hH=>gh ?_);refine GX.dw (h:=fun w hH=>gh ?_);replace hH:=SH.cE (el:=342) (sz:=2) (q:=none) (n:=0) (c:=0) (cs:=[]) hH (Mod.refl w) (fun _ h=>by cases h) (aG.nil _ _ _);have HA:sA T [] []:=⟨List.Pairwise.nil,(fun _ h=>by cases h),(fun _ h=>by cases h)⟩
 have TP:=fun {o:Og}{w:World}(hs:Start o w (C3 bp bo bv p T (none,0) []))=>amb hT hc (bp:=bp) (bo:=bo) (bv:=bv) p hp 250 iD (sp:=[]) (by rw[wj];rfl) (by simp) HA hs
 refine GC.bq (pl:=(.pure 1 (.pure 2 (.pure 3 (.alt (.ax 0 (.ax 4 (.ax 5 .done))) (.ax 4 (.ax 0 (.ax 5 .done)))))))) (T:=cS []) (hm:=mixed) (h:=fun w hE hH=>gh ?_);refine GX.alt (gh ?_) (gh ?_)
 ·refine GX.gT (hc:=fun _ hs=>TP hs) (h:=?_);rintro⟨l,⟨q,c⟩⟩ w hL hS hH;replace hH:=SH.ap hH;rw[jF] at hH;refine gh ?_;exact⟨(l,(q,c)),rfl,hL,hH.to⟩
 ·refine GX.gT (hc:=fun _ hs=>TP hs) (h:=?_);rintro⟨l,⟨q,c⟩⟩ w hL hS hH;replace hH:=SH.ap hH;rw[jF] at hH;refine gh ?_;exact⟨(l,(q,c)),rfl,hL,hH.to⟩
theorem Yg {t:Nat}{A:sE}(p:Bs)(hp:p.length≤250)(hK:A.K<2^40)(hs:Start o w [nu t A]) :
  aj prog 236 [ak t,str p].toArray w (aU o (fun n:Nat => .tuple #[iV n,iV 0]) (fun _=>True) (fun _=>[nu t ⟨fun s=>if p <+: s then 0 else A.P s,A.K⟩])):=by
 have hH:=hs.sh;obtain⟨⟨T,hA⟩,hH⟩:=SH.un hH;replace hH:=SH.ap hH;dsimp only at hH;have hT:=hA.tt;have xP:=hA.dC;refine aj.enter func236 rfl ntmps236 rfl (gh ?_);refine GX.aL (hc:=fun _ hs=>C0 p hs) (h:=fun w hE hH=>gh ?_);rw[if_pos hp];refine gh ?_;refine GX.dX (hc:=fun _ hs=>Yn hT ah p hp hs) (h:=?_);rintro⟨l,⟨q,c⟩⟩ w hL hE hH;dsimp only at hL hH ⊢;replace hH:=SH.ap hH;have kZ:=VP hT hL;have ea:=fun(a:Bs×Nat)=>hL.mem a.1 a.2
 have bX:(l.map (·.1)).Nodup:=by
  rw[pj,rl];exact hL.ord.imp fun h=>NW h
 have hlen:∀a∈l,a.1.length≤250:=fun a ha=>by
  obtain⟨k1,k2,_⟩:=(ea a).1 ha;unfold bW at k2;split at k2
  ·rename_i x hx;exact hT.ok.len _ _ hx
  ·omega
 have hPl:∀a∈l,0<A.P a.1:=fun a ha=>by
  obtain⟨k1,k2,_⟩:=(ea a).1 ha;rw[hA.num,k2];exact k1
 have nS:(fun s=>if s∈l.map (·.1) then 0 else A.P s)=fun s=>if p <+: s then 0 else A.P s:=by
  funext s
  by_cases h1:p <+: s
  ·rw[if_pos h1]
   by_cases h2:s∈l.map (·.1)
   ·rw[if_pos h2]
   ·rw[if_neg h2]
    by_cases h3:0<A.P s
    ·exfalso;exact h2 (bK.2 ⟨(s,A.P s),(ea (s,A.P s)).2 ⟨h3,(hA.num s).symm,List.nil_prefix,h1⟩,rfl⟩)
    ·omega
  ·rw[if_neg h1,if_neg];intro h2;obtain⟨a,ha,rfl⟩:=bK.1 h2;exact h1 ((ea a).1 ha).2.2.2
 replace hH:=C2 hA hH;refine gh ?_;refine GC.bP [0,7,19,20] (fun k:Nat=>[(21,iV k)]) (fun k w'=>k≤l.length∧SH o w' [nu t ⟨fun s=>if s∈(l.take k).map (·.1) then 0 else A.P s,A.K⟩,ao 342 2 q l.length c (aK yH l)]) (fun k=>l.length - k) 0 rfl rfl ⟨bh _,by
  rw[show(fun s=>if s∈(l.take 0).map (·.1) then 0 else A.P s)=A.P by funext s;simp];exact hH.to⟩ ?_
 rintro k w ⟨hk,hH⟩;refine gh ?_;refine ifs (fun h1=>?_) (fun h1=>?_)<;>refine gh ?_
 ·have cQ:k<l.length:=by omega
  obtain⟨a,ha⟩:∃a,l[k]?=some a:=⟨_,bO cQ⟩
  have HQ:=(aV.1 ha).2;obtain⟨b,rfl⟩:=hH.pos (el:=342) (sz:=2) (q:=q) (n:=l.length);have hd:=jj WE ha;refine gh ?_;refine GX.next rfl (GO.jz (hv:=hd) (h:=gh ?_));refine GX.cm (h:=fun z w hH=>gh ?_);refine GX.bc (h:=fun w hH=>gh ?_);have HR:=bF ha;have wg:a.1∉(l.take k).map (·.1):=fun h=>by
   have h2:(l.map (·.1)).Nodup:=bX;rw[←jE k l,eD,gu] at h2;exact h2.2.2 a.1 h a.1 (bK.2 ⟨a,by rw[p7 cQ,HQ];simp,rfl⟩) rfl
  refine GX.bS (hc:=fun _ hs=>alZ (A:=⟨fun s=>if s∈(l.take k).map (·.1) then 0 else A.P s,A.K⟩) a.1 (hlen a HR) (by show 0<(if a.1∈(l.take k).map (·.1) then 0 else A.P a.1);rw[if_neg wg];exact hPl a HR) hK hs) (h:=?_);rintro m w _ hH;replace hH:=SH.ap hH;refine gh ?_;refine GQ.br (k+1) rfl ⟨cQ,?_⟩ ah;rw[show(fun s=>if s∈(l.take (k+1)).map (·.1) then 0 else A.P s)=fun s=>if s=a.1 then 0 else if s∈(l.take k).map (·.1) then 0 else A.P s by
   funext s;rw[kQ cQ,HQ,eD,List.map_singleton]
   by_cases h2:s=a.1
   ·rw[if_pos h2,if_pos (by rw[h2];simp)]
   ·rw[if_neg h2];simp only[cJ,lC,h2,or_false]]
  exact hH.to
 ·obtain rfl:k=l.length:=by omega
  rw[j5,nS] at hH;refine gh ?_;exact⟨l.length,rfl,trivial,hH.to⟩
def rS (R:List (Bs×Tn)):Nat:=(R.map (·.2.n)).foldl max 0
theorem VS (R:List (Bs×Tn))(x:Bs×Tn):rS (R++[x])=max (rS R) x.2.n:=by simp[rS]
abbrev Gs:=List (Bs×Tn)×List Nat×(Option Nat×Nat)×(Option Nat×Nat)
def Kh (y:Gs):Value := .tuple #[.slice (ay y.2.2.1.1) y.1.length y.2.2.1.2, .slice (ay y.2.2.2.1) y.1.length y.2.2.2.2]
abbrev C5 (y:Gs):List It:=[ao 256 1 y.2.2.1.1 y.1.length y.2.2.1.2 (bg (y.1.map (·.2.b))),ao 3 1 y.2.2.2.1 y.1.length y.2.2.2.2 (aD y.2.1)]
theorem amc {t:Nat}{T:cz}{v:Value}(hT:TT T)(s:Bs)(hl:s.length≤250)(hs:Start o w [fz (aA t [ak (iN T),v]),fz (eH T)]) :
  aj prog 284 [ak t,str s].toArray w (aU o Kh (fun y=>(∀e∈y.1,az T e.1=some e.2)∧rS y.1=wB (bW (az T)) s∧y.1.length≤251) C5):=by
 have hH:=hs.sh;obtain⟨r0,iD,wj⟩:=hT.ok.root;rw[tw iD] at hH;refine aj.enter func284 rfl ntmps284 rfl (gh ?_);have h2:=SH.cE (el:=256) (sz:=1) (q:=none) (n:=0) (c:=0) (cs:=[]) hH (Mod.refl w) (fun _ h=>by cases h) (aG.nil _ _ _);have h3:=SH.cE (el:=3) (sz:=1) (q:=none) (n:=0) (c:=0) (cs:=[]) h2 (Mod.refl w) (fun _ h=>by cases h) (aG.nil _ _ _);refine GC.bP [1] (fun y:Nat×Tn×Gs=>[(6,ak y.2.1.b),(7,iV y.1),(4, .slice (ay y.2.2.2.2.1.1) y.2.2.1.length y.2.2.2.2.1.2),(5, .slice (ay y.2.2.2.2.2.1) y.2.2.1.length y.2.2.2.2.2.2)]) (fun y w'=>y.1≤s.length∧az T (s.take y.1)=some y.2.1∧(∀e∈y.2.2.1,az T e.1=some e.2)∧rS y.2.2.1=qQ (bW (az T)) s y.1∧y.2.2.1.length≤y.1∧SH o w' (C5 y.2.2++[fz (aA t [ak r0.b,v]),fz (eH T)])) (fun y=>s.length - y.1) (0,r0,[],[],(none,0),(none,0)) rfl rfl ⟨bh _,iD,(fun _ h=>by cases h),rfl,bj _,h3.to⟩ ?_;rintro⟨a,x,R,D,⟨q1,c1⟩,⟨q2,c2⟩⟩ w ⟨ha,hx,hR,fK,mZ,hH⟩;dsimp only at ha hx hR fK mZ hH ⊢;replace hH:=SH.ap hH;dsimp only at hH;replace hH:=hH.tk hx;have hPx:bW (az T) (s.take a)=x.n:=by unfold bW;rw[hx]
 have rI:qQ (bW (az T)) s (a+1)=max (rS R) x.n:=by rw[fK,←hPx];rfl
 refine gh ?_;refine GC.cut (X:=Gs) (fun y=>[(1,str s),(6,ak x.b),(7,iV a),(4, .slice (ay y.2.2.1.1) y.1.length y.2.2.1.2),(5, .slice (ay y.2.2.2.1) y.1.length y.2.2.2.2)]) (fun y w'=>(∀e∈y.1,az T e.1=some e.2)∧rS y.1=qQ (bW (az T)) s (a+1)∧y.1.length≤a+1∧SH o w' (C5 y++[fz (aA t [ak r0.b,v]),fz (eH T)])) ?_ ?_
 ·refine ifs (fun h1=>?_) (fun h1=>?_)<;>refine gh ?_
  ·refine GX.mK (h1:=by simp[Value.oneCell',ak]) (h:=fun q c w _ hH=>gh ?_);refine GX.mK (h1:=by simp[Value.oneCell']) (h:=fun q c w _ hH=>gh ?_);refine GQ.dx (R++[(s.take a,x)],D++[a],(_,_),(_,_)) (cZ (l:=[1,6,7,4,5]) (by simp only[bJ,ie];rfl)) ⟨fun e he=>?_,by rw[VS,rI],by simp only[bJ,ie];omega,?_⟩
   ·rcases cJ.1 he with he|he
    ·exact hR e he
    ·rw[lC.1 he];exact hx
   ·dsimp only[C5];rw[eD,List.map_singleton,bJ,ie,show∀l:List Nat,bg (l++[x.b])=bg l++[ak x.b] from fun l=>by simp[bg],show aD (D++[a])=aD D++[iV a] by simp[aD]];exact hH.to
  ·exact GQ.dx (R,D,(q1,c1),(q2,c2)) (cZ (l:=[1,6,7,4,5]) rfl) ⟨hR,by rw[rI];dsimp only;omega,by dsimp only;omega,hH.to⟩
 rintro⟨R,D,⟨q1,c1⟩,⟨q2,c2⟩⟩ w ⟨hR,fK,mZ,hH⟩;dsimp only at hR fK mZ hH ⊢;replace hH:=SH.ap hH;dsimp only at hH;have fin:∀{w:World},SH o w (C5 (R,D,(q1,c1),(q2,c2))++[fz (aA t [ak r0.b,v]),fz (eH T)])→wB (bW (az T)) s=qQ (bW (az T)) s (a+1)→aU o Kh (fun y=>(∀e∈y.1,az T e.1=some e.2)∧rS y.1=wB (bW (az T)) s∧y.1.length≤251) C5 (Kh (R,D,(q1,c1),(q2,c2))) w:=fun {w} hH he=>⟨(R,D,(q1,c1),(q2,c2)),rfl,⟨hR,by rw[he];exact fK,by dsimp only;omega⟩,hH.to⟩
 refine gh ?_
 by_cases b6:a=s.length
 ·rw[show decide ((a:Int)=(s.length:Int))=true by simp;omega];refine gh ?_;refine fin hH.to ?_;rw[b6];rfl
 have aP:a<s.length:=by omega
 rw[show decide ((a:Int)=(s.length:Int))=false by simp;omega];refine gh ?_;have hu:s[a]?=some s[a]:=by simp[aP]
 generalize hus:s[a]=u at hu;refine GX.next rfl (GO.Am rfl rfl rfl rfl ah (u:=u) (by simpa using hu) rfl (gh ?_));refine GX.dX (hc:=fun _ hs=>Oh hT hx u.toNat (UInt8.toNat_lt u) hs) (h:=?_);rintro⟨i,is⟩ w Bx hE hH;replace hH:=SH.ap hH;have cQ:=hT.kl hx;have EO:s.take a++s.drop a=s:=jE a s;have Ef:s.drop a=u::s.drop (a+1):=by rw[p7 aP,hus]
 have Ey:s.drop a≠[]:=by rw[Ef];simp
 have SM:hd (s.drop a)=u.toNat:=by rw[Ef];rfl
 cases is with
 |false=>
  refine gh ?_;refine GC.bq (pl:=(aZ [0,3,6,9,12,15,18,21,24,30,28,33,37,39,42,46,50,51,54])) (T:=fun _=>False) (hm:=mixed) (h:=fun w hE hH=>gh ?_);have bG:=Bx.no;refine fin hH.to (hT.ok.VT hx ha fun e he cN=>bG e he ?_);rw[←SM];exact vU cN (by rw[EO];exact kP) (hT.ok.ne _ _ hx e he) Ey
 |true=>
  obtain⟨e,he,Ee⟩:=Bx.2.2.1 rfl;dsimp only at he;have Ml:=bF he;have eL:=(aV.1 he).1;obtain⟨y,hy,fv,eG,aR,yc,_,sT⟩:=hT.jb hx he;have Na:=fun hp=>hT.ok.agR hx ha Ml hp
  have Ei:=fun bG=>hT.ok.VT hx ha bG
  have uz:=hT.ok.ord _ _ hx;have ff:=hT.ok.ne _ _ hx;replace hH:=(hH.tk hx).tk hy;obtain⟨xb,xe,xn,⟨q,d⟩,ks⟩:=x;dsimp only at hH cQ he eL Ml Ei uz ff;obtain⟨qb,rfl⟩:=hH.lR (el:=256) (sz:=1) (q:=q) (n:=ks.length);have x8:(bg (ks.map (·.2)))[i]?=some (ak y.b):=by simp[bg,he,eG]
  refine gh ?_;refine GC.bq (pl:=(aZ [0,3,6,9,12,15,18,21,24,30,28,33,37,39,42,46,50,51,54])) (T:=fun _=>False) (hm:=mixed) (h:=fun w hE hH=>gh ?_);refine GX.pure rfl (F0 s rfl rfl rfl rfl rfl ah ah ?_);rw[show((a:Nat):Int).toNat=a by simp];refine gh ?_;refine GX.read rfl (GO.jU (hv:=x8) (h:=gh ?_));refine GX.pA (hc:=HS (s.drop a) y.e (by rw[lZ];omega) (by rw[fv];omega) _) (h:=gh ?_)
  by_cases cN:y.e <+: s.drop a
  ·rw[bQ cN];refine gh ?_;refine GX.next rfl (GO.cG (hv:=x8) (h:=gh ?_));have Ns:=cN.length_le;rw[lZ] at Ns;have kF:=xl.2 aR;rw[←fv] at kF;have MT:s.take a++e.1 <+: s:=by
    rw[←fv]
    conv=>rhs;rw[←EO]
    exact(List.prefix_append_right_inj _).2 cN
   refine gh ?_;refine GQ.br (a+y.e.length,y,R,D,(q1,c1),(q2,c2)) rfl ⟨by simp only;omega,?_,hR,?_,by simp only;omega,hH.to⟩ (by simp only;omega)
   ·dsimp only;have h7:=List.prefix_iff_eq_take.1 MT;rw[bJ,dE,pc ha,←fv] at h7;rw[←h7,fv];exact hy
   ·dsimp only;rw[fK,fv];exact(Na MT).symm
  ·rw[bt cN];refine gh ?_;refine fin hH.to (Ei fun f hf Ac=>cN ?_);have h5:hd f.1=hd e.1:=by
    rw[Ee,←SM];exact vU Ac (by rw[EO];exact kP) (ff f hf) Ey
   have:=HY uz hf Ml h5;subst this;rw[fv];rw[←EO] at Ac;have h9:(s.take a++s.drop a).take a=s.take a:=by rw[EO]
   rw[h9] at Ac;exact WH Ac
theorem alY {t:Nat}{A:sE}(s:Bs)(hl:s.length≤250)(hs:Start o w [fz (nu t A)]) :
  aj prog 212 [ak t,str s].toArray w (Po o (uV (wB A.P s)) []):=by
 have hH:=hs.sh;obtain⟨⟨T,hA⟩,hH⟩:=SH.dQ hH;replace hH:=SH.dW hH;dsimp only at hH;have hT:=hA.tt;have hP:A.P=bW (az T):=funext hA.num;refine aj.enter func212 rfl ntmps212 rfl (gh ?_);refine GX.aL (hc:=fun _ hs=>C0 s hs) (h:=fun w hE hH=>gh ?_);rw[if_pos hl];refine gh ?_;refine GX.dX (hc:=fun _ hs=>amc hT s hl hs) (h:=?_);rintro⟨R,D,⟨q1,c1⟩,⟨q2,c2⟩⟩ w ⟨hR,fK,mZ⟩ hE hH;dsimp only[Kh] at hR fK mZ hH ⊢;replace hH:=SH.ap hH;refine gh ?_;refine GC.bP [20,21] (fun k:Nat=>[(22,iV k),(5,uV (rS (R.take k)))]) (fun k w'=>k≤R.length∧SH o w' [ao 256 1 q1 R.length c1 (bg (R.map (·.2.b))),fz (eH T)]) (fun k=>R.length - k) 0 rfl rfl ⟨bh _,hH.to⟩ ?_;rintro k w ⟨hk,hH⟩;refine gh ?_;refine ifs (fun h1=>?_) (fun h1=>?_)<;>refine gh ?_
 ·have cQ:k<R.length:=by omega
  obtain⟨e,he⟩:∃e,R[k]?=some e:=⟨_,bO cQ⟩
  obtain⟨b,rfl⟩:=hH.pos (el:=256) (sz:=1) (q:=q1);have hx:=hR e (bF he);replace hH:=hH.tk hx;refine gh ?_;refine GX.next rfl (GO.cG (hv:=show(bg (R.map (·.2.b)))[k]?=some (ak e.2.b) by simp[bg,he]) (h:=gh ?_));refine GQ.br (k+1) ?_ ⟨cQ,hH.to⟩ ah;rw[kQ cQ,VS,(aV.1 he).2];have e9:uV (max (rS (R.take k)) e.2.n) = .int .u64 (if((e.2.n:Nat):Int) > ((rS (R.take k):Nat):Int) then((e.2.n:Nat):Int) else((rS (R.take k):Nat):Int)):=by
   unfold uV;congr 1;split<;>omega
  rw[e9];rfl
 ·obtain rfl:k=R.length:=by omega
  refine gh ?_;refine⟨?_,hH.to⟩;rw[j5,fK,hP]
theorem alV {t:Nat}{A:sE}(hK:A.K<2^40)(hs:Start o w [fz (nu t A)]) :
  aj prog 129 [ak t].toArray w (aU o ak (fun _=>True) (fun c=>[nu c A])):=by
 have hH:=hs.sh;obtain⟨⟨T,hA⟩,hH⟩:=SH.dQ hH;replace hH:=SH.dW hH;dsimp only at hH;have hT:=hA.tt;have xP:=hA.dC;refine aj.enter func129 rfl ntmps129 rfl (gh ?_);refine GX.aL (hc:=fun _ hs=>C0 [] hs) (h:=fun w hE hH=>gh ?_);refine GX.dX (hc:=fun _ hs=>Yi hs) (h:=?_);rintro tc w _ hE hH;replace hH:=SH.ap hH;refine gh ?_;refine GX.dX (hc:=fun _ hs=>Yn hT ah [] (bh _) hs) (h:=?_);rintro⟨l,⟨q,c⟩⟩ w hL hE hH;dsimp only at hL hH ⊢;replace hH:=SH.ap hH;have kZ:=VP hT hL;have ea:=fun(a:Bs×Nat)=>hL.mem a.1 a.2
 have bX:(l.map (·.1)).Nodup:=by
  rw[pj,rl];exact hL.ord.imp fun h=>NW h
 have hpr:∀a∈l,0<a.2∧A.P a.1=a.2∧a.1.length≤250∧a.2≤never:=fun a ha=>by
  obtain⟨k1,k2,_⟩:=(ea a).1 ha;refine⟨k1,by rw[hA.num,k2],?_⟩;unfold bW at k2;split at k2
  ·rename_i x hx;exact⟨hT.ok.len _ _ hx,by rw[←k2];exact hT.ok.num _ _ hx⟩
  ·omega
 have mn:∀s,0<A.P s→s∈l.map (·.1):=fun s h=>bK.2 ⟨(s,A.P s),(ea (s,A.P s)).2 ⟨h,(hA.num s).symm,List.nil_prefix,List.nil_prefix⟩,rfl⟩
 refine gh ?_;refine GC.bP [3,11,12] (fun k:Nat=>[(13,iV k)]) (fun k w'=>k≤l.length∧SH o w' [nu tc ⟨fun s=>if s∈(l.take k).map (·.1) then A.P s else 0,k⟩,ao 342 2 q l.length c (aK yH l)]) (fun k=>l.length - k) 0 rfl rfl ⟨bh _,by
  rw[show(fun s=>if s∈(l.take 0).map (·.1) then A.P s else 0)=Cv.P by funext s;simp[Cv]];exact hH.to⟩ ?_
 rintro k w ⟨hk,hH⟩;refine gh ?_;refine ifs (fun h1=>?_) (fun h1=>?_)<;>refine gh ?_
 ·have cQ:k<l.length:=by omega
  obtain⟨a,ha⟩:∃a,l[k]?=some a:=⟨_,bO cQ⟩
  have HQ:=(aV.1 ha).2;obtain⟨b,rfl⟩:=hH.pos (el:=342) (sz:=2) (q:=q) (n:=l.length);have hd:=jj WE ha;refine gh ?_;refine GX.next rfl (GO.jz (hv:=hd) (h:=gh ?_));refine GX.cm (h:=fun z w hH=>gh ?_);refine GX.bc (h:=fun w hH=>gh ?_);obtain⟨p1,p2,p3,p4⟩:=hpr a (bF ha);refine GX.bz (hc:=fun _ hs=>Yj (A:=⟨fun s=>if s∈(l.take k).map (·.1) then A.P s else 0,k⟩) a.1 a.2 p3 p1 p4 (by show k<_;omega) hs) (h:=fun w hH=>gh ?_);refine GQ.br (k+1) rfl ⟨cQ,?_⟩ ah;rw[show(fun s=>if s∈(l.take (k+1)).map (·.1) then A.P s else 0)=fun s=>if s=a.1 then a.2 else if s∈(l.take k).map (·.1) then A.P s else 0 by
   funext s;rw[kQ cQ,HQ,eD,List.map_singleton]
   by_cases h2:s=a.1
   ·rw[if_pos h2,if_pos (by rw[h2];simp),h2,p2]
   ·rw[if_neg h2];simp only[cJ,lC,h2,or_false]]
  exact hH.to
 ·obtain rfl:k=l.length:=by omega
  rw[j5] at hH;refine gh ?_;refine⟨tc,rfl,trivial,?_⟩;have e1:(fun s=>if s∈l.map (·.1) then A.P s else 0)=A.P:=by
   funext s
   by_cases h2:s∈l.map (·.1)
   ·rw[if_pos h2]
   ·rw[if_neg h2]
    by_cases h3:0<A.P s
    ·exact absurd (mn s h3) h2
    ·omega
  rw[e1] at hH;obtain⟨⟨T2,qq⟩,hH⟩:=SH.un hH;replace hH:=SH.ap hH;exact(C2 (A:=A) ⟨qq.tt,qq.num,eh qq.dC (eh kZ xP)⟩ hH).to
end Go.Proofs.YtmlpbmgfmnmmmaaGreat.V.M
