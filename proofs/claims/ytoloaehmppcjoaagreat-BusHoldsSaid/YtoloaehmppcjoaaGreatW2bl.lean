/-
  Parts of the proof. No condition.
-/
import Derived.Test.YtoloaehmppcjoaaGreatW2bk
set_option linter.unusedVariables false
set_option linter.unusedSimpArgs false
set_option maxRecDepth 8000
set_option maxHeartbeats 8000000
open Go.Proofs.Tryz
namespace Go.Proofs.YtoloaehmppcjoaaGreat.V.M
attribute [local irreducible] GO GX aB fz aF aS aq star
variable {o:Og}{w:World}
theorem alQ {t:Nat}{T:cy}{v:Value}(hT:TT T)(p:Bs)(hp:p.length≤250)(h0:0<bX (ay T) p)(hs:Start o w [fz (aB t [ak (jh T),v]),fz (eU T)]) :
  aj prog 374 [ak t,str p].toArray w (Po o (.tuple #[uV (bX (ay T) p),iV 0]) []):=by
 have h:=alR hT p hp hs;unfold Lr at h;rwa [if_neg ah] at h
theorem alU {t:Nat}{A:sX}(p:Bs)(hp:p.length≤250)(h0:0<A.P p)(hK:A.K<2^40)(hs:Start o w [nH t A]) :
  aj prog 330 [ak t,str p].toArray w (aX o (fun n:Nat => .tuple #[uV n,iV 0]) (fun _=>True) (fun _=>[nH t ⟨fun s=>if s=p then 0 else A.P s,A.K⟩])):=by
 have hH:=hs.sh;obtain⟨⟨T,hA⟩,hH⟩:=SH.un hH;replace hH:=SH.ap hH;dsimp only at hH;have hT:=hA.tt;have wc:=hA.cP;have DJ:0<bX (ay T) p:=by rw[←hA.num];exact h0
 refine aj.enter func330 rfl ntmps330 rfl (gh ?_);refine GX.aM (hc:=fun _ hs=>alQ hT p hp DJ hs) (h:=fun w hE hH=>gh ?_);refine GX.ef (hc:=fun _ hs=>WD hT p hp hs) (h:=?_);rintro⟨R,⟨q1,c1⟩,⟨q2,c2⟩⟩ w hC hE hH;have nA:=hC.len hT hp;dsimp only at nA;replace hH:=SH.ap hH
 rcases hC with⟨_,bz⟩|⟨hC,j,b,R',rfl⟩
 ·unfold bX at DJ;rw[bz] at DJ;exact absurd DJ (Nat.lt_irrefl 0)
 dsimp only at hC;obtain⟨x,hx,rfl⟩:=hC.head;obtain⟨k1,k2,k3⟩:=Xx hT hx (bh never);have zC:=hC.O7 hx 0;have hg:bX (ay T) p=x.n:=by unfold bX;rw[hx]
 have Ef:fC T=fC (bC T p { x with n:=0})+1:=by
  refine QM k1.nd hT.nd (s:=p) ?_ DJ fun t ht=>?_
  ·rw[k2,if_pos rfl]
  ·rw[k2,if_neg ht]
 dsimp only[ON] at hH ⊢;have lA:((p,j,x.b)::R').length=R'.length+1:=rfl;rw[lA] at hH nA ⊢;replace hH:=hH.ve hx;obtain⟨a1,rfl⟩:=hH.pos (el:=279) (sz:=1) (q:=q1) (n:=R'.length+1);have zN:(bq (((p,j,x.b)::R').reverse.map (·.2.2)))[R'.length]?=some (ak x.b):=by simp[bq,iD]
 refine gh ?_;refine GX.next rfl (GO.cT (hv:=zN) (h:=gh ?_));refine GX.dC (h:=fun w hH=>gh ?_);replace hH:=hH.Ot p { x with n:=0};refine GX.dC (h:=fun w hH=>gh ?_);refine GX.bZ (hc:=fun _ hs=>alJ k1 zC lA nA hs) (h:=?_);rintro T2 w ⟨m1,m2,m3⟩ hH;replace hH:=SH.ap hH;refine gh ?_;have uA:fC T2=fC (bC T p { x with n:=0}):=QN k1.nd m1.nd m2;rw[←k3,←m3,show(fC T:Int) - 1=((fC T2:Nat):Int) by omega] at hH;exact⟨_,rfl,trivial,(CY (A:=⟨fun s=>if s=p then 0 else A.P s,A.K⟩) ⟨m1,fun s=>by show(if s=p then 0 else A.P s)=_;rw[m2,k2,hA.num],by show _≤A.K;omega⟩ hH).to⟩
theorem SH.ag7 {l t:List It}{b sz n c:Nat}{ca cs:List Value}{el:TypeId}{q:Option Nat}(h:SH o w l)(hp:Pk l [fz (aB b ca),aq el sz q n c cs] t:=by repeat(first|exact Pk.nil|(apply Pk.cons;repeat(first|exact az.here|apply az.there)))):some b≠q:=by
 have h1:=SH.nodup (h.perm hp.perm);unfold fz aB aq at h1;obtain⟨Z,F1,F2,⟨⟨F',Z',k1,_,⟨_,k2⟩⟩,_⟩,⟨_,rfl⟩,_,hd⟩:=h1;intro e;exact hd b (.inr e.symm) (k1 b (by rw[k2]))
def yL (x:Bs×Nat):List Value:=[str x.1,uV x.2]
theorem WG (x:Bs×Nat):(yL x).length=2:=rfl
theorem aia (x:Bs×Nat):∀u∈yL x,u.oneCell'=true:=by intro u hu;simp[yL] at hu;rcases hu with rfl|rfl<;>rfl
structure sS (T:cy)(s:Bs)(l:List (Bs×Nat)):Prop where
 ord:l.Pairwise fun a b=>a.1<b.1
 mem:∀a∈l,0<bX (ay T) a.1
 lt:∀a∈l,a.1<s
theorem VP {a b t:Bs}(h:a<b)(hp:b <+: t):a<t:=by
 obtain⟨u,rfl⟩:=hp;cases u with
 |nil=>simpa using h
 |cons c u=>
  have:=N5 (s:=b) (e:=[c]) (by simp) u;rw[cS] at this;exact List.lt_trans h this
theorem N6 {a b:Bs}(h:a<b):a≠b:=fun e=>by rw[e] at h;exact List.lt_irrefl _ h
theorem PM {T:cy}(hT:TT T){l:List (Bs×Nat)}(ho:l.Pairwise fun a b=>a.1<b.1)(hm:∀a∈l,0<bX (ay T) a.1):l.length≤fC T:=by
 have h1:(l.map (·.1)).Nodup:=by
  rw[pM,rD];exact ho.imp fun h=>N6 h
 have:=xz h1 (l₂:=wS T) fun t ht=>by
  obtain⟨a,ha,rfl⟩:=bG.1 ht;exact(wK hT.nd).2 (hm a ha)
 simpa[fC] using this
theorem sS.app {T:cy}{s:Bs}{l m:List (Bs×Nat)}(h:sS T s l){p:Bs}(hm:LU (ay T) p s m){s':Bs}(hs:∀t,s <+: t→0<bX (ay T) t→t<s')(B7:s<s'):sS T s' (l++m):=by
 refine⟨xx.2 ⟨h.ord,hm.ord,fun a ha b hb=>?_⟩,fun a ha=>?_,fun a ha=>?_⟩
 ·obtain⟨_,_,k,_⟩:=(hm.mem b.1 b.2).1 hb;exact VP (h.lt a ha) k
 ·rcases cx.1 ha with ha|ha
  ·exact h.mem a ha
  ·obtain⟨k1,k2,_⟩:=(hm.mem a.1 a.2).1 ha;rw[k2];exact k1
 ·rcases cx.1 ha with ha|ha
  ·exact List.lt_trans (h.lt a ha) B7
  ·obtain⟨k1,k2,k3,_⟩:=(hm.mem a.1 a.2).1 ha;exact hs _ k3 (by rw[k2];exact k1)
instance:aC prog 418 false 1:=⟨ai⟩
instance:ff prog 418 [.nilFunc]:=⟨ai⟩
def al1 (bp bo bv:Nat):Value := .func (.func 306) #[] #[ak bp,ak bo,ak bv]
abbrev CZ (bp bo bv:Nat)(p:Bs)(T:cy)(q:Option Nat×Nat)(l:List (Bs×Nat)):List It:=[fz (eU T),aB bp [str p],aB bv [al1 bp bo bv],aB bo [.slice (aA q.1) l.length q.2],aq 365 2 q.1 l.length q.2 (aL yL l)]
structure KC (T:cy)(s:Bs)(l:List (Bs×Nat)):Prop where
 ord:l.Pairwise fun a b=>a.1<b.1
 mem:∀a∈l,0<bX (ay T) a.1
 lt:∀a∈l,a.1<s∨a.1=s
theorem sS.same {T:cy}{s:Bs}{l:List (Bs×Nat)}(h:sS T s l):KC T s (l++[]):=by
 rw[fB];exact⟨h.ord,h.mem,fun a ha => .inl (h.lt a ha)⟩
theorem sS.more {T:cy}{s:Bs}{l:List (Bs×Nat)}(h:sS T s l){n:Nat}(hn:0<bX (ay T) s):KC T s (l++[(s,n)]):=by
 refine⟨xx.2 ⟨h.ord,List.pairwise_singleton _ _,fun a ha b hb=>?_⟩,fun a ha=>?_,fun a ha=>?_⟩
 ·rw[jn.1 hb];exact h.lt a ha
 ·rcases cx.1 ha with ha|ha
  ·exact h.mem a ha
  ·rw[jn.1 ha];exact hn
 ·rcases cx.1 ha with ha|ha
  ·exact .inl (h.lt a ha)
  ·rw[jn.1 ha];exact .inr rfl
abbrev KJ (T:cy)(bp bo bv:Nat)(p:Bs)(s sp:Bs)(x:Tn):Prop:=∀{o:Og}{w:World}{q:Option Nat×Nat}{l:List (Bs×Nat)},sS T s l→Start o w (CZ bp bo bv p T q l) →
 aj prog 306 [ak x.b,str sp,ak bp,ak bo,ak bv].toArray w (aX o (fun _ => .tuple #[]) (fun y:List (Bs×Nat)×(Option Nat×Nat)=>LU (ay T) p s y.1) (fun y=>CZ bp bo bv p T y.2 (l++y.1)))
theorem Yr {T:cy}(hT:TT T)(hc:fC T<2^40){bp bo bv:Nat}(p:Bs)(hp:p.length≤250){s sp:Bs}{x:Tn}(hx:ay T s=some x)(fW:sp++x.e=s)
  (T6:∀{e:Bs×Nat}{y:Tn},e∈x.ks→ay T (s++e.1)=some y→s++y.e=s++e.1→KJ T bp bo bv p (s++e.1) s y):KJ T bp bo bv p s sp x:=by
 intro o w q l hA hs;have hH:=hs.sh.tM hx;have TD:=hT.ok.len _ _ hx;have uF:=fun i e he=>hT.jz hx (i:=i) (e:=e) he
 have Me:=hT.ok.ne _ _ hx;have RX:bX (ay T) s=x.n:=by unfold bX;rw[hx]
 have cV:=hT.kl hx;have lA:=PM hT hA.ord hA.mem;obtain⟨xb,xe,xn,⟨xq,xd⟩,ks⟩:=x;obtain⟨q,c⟩:=q;dsimp only at hH uF Me RX cV fW T6 ⊢;have ep:sp.length+xe.length≤250:=by rw[←bH,fW];exact TD
 refine aj.enter func306 rfl ntmps306 rfl (gh ?_);refine GX.next rfl (X3 sp xe rfl rfl rfl rfl rfl ah ?_);rw[fW];refine GX.next rfl (GO.assign rfl rfl rfl rfl ?_);refine GX.stop ?_;refine GQ.Br ?_;refine GC.seq ?_;refine GC.cut (X:=Unit) (fun _=>[(0,ak xb),(1,str s),(2,ak bp),(3,ak bo),(4,ak bv)]) (fun _ w'=>(p <+: s∨s <+: p)∧SH o w' (CZ bp bo bv p T (q,c) l++[fz (aB xb [str xe,uV xn, .slice (aA xq) ks.length xd]),fz (aq 279 1 xq ks.length xd (bq (ks.map (·.2))))])) ?_ ?_
 ·refine gh ?_;refine GX.da (H6 s p ah ah _) rfl rfl rfl rfl rfl rfl (gh ?_)
  by_cases h1:p <+: s
  ·rw[b8 h1];refine gh ?_;exact GQ.dm () (cR (l:=[0,1,2,3,4]) rfl) ⟨.inl h1,hH.to⟩
  ·rw[bQ h1];refine gh ?_;refine GX.da (H6 p s ah ah _) rfl rfl rfl rfl rfl rfl (gh ?_)
   by_cases h2:s <+: p
   ·rw[b8 h2];refine gh ?_;exact GQ.dm () (cR (l:=[0,1,2,3,4]) rfl) ⟨.inr h2,hH.to⟩
   ·rw[bQ h2];refine gh ?_;exact⟨([],(q,c)),rfl,LU.apart h2 h1,by dsimp only;rw[fB];exact hH.to⟩
 rintro _ w ⟨Ac,hH⟩;replace hH:=SH.ap hH;dsimp only at hH ⊢;refine GQ.Br ?_;refine GC.seq ?_;refine GC.cut (X:=List (Bs×Nat)×(Option Nat×Nat)) (fun _=>[(0,ak xb),(1,str s),(2,ak bp),(3,ak bo),(4,ak bv)]) (fun y w'=>y.1=(if 0<xn∧p <+: s then[(s,xn)] else[])∧KC T s (l++y.1)∧SH o w' (CZ bp bo bv p T y.2 (l++y.1)++[fz (aB xb [str xe,uV xn, .slice (aA xq) ks.length xd]),fz (aq 279 1 xq ks.length xd (bq (ks.map (·.2))))])) ?_ ?_
 ·refine gh ?_;refine ifs (fun h3=>?_) (fun h3=>?_)<;>refine gh ?_
  ·refine ifs (fun h4=>?_) (fun h4=>?_)<;>refine gh ?_
   ·have r9:p <+: s:=by
     rcases Ac with h|h
     ·exact h
     ·rw[h.eq_of_length (by have:=h.length_le;omega)];exact lg
    have Ja:0<xn:=by omega
    have gy:=hA.more (n:=xn) (by rw[RX];exact Ja);have hh:[(s,xn)]=(if 0<xn∧p <+: s then[(s,xn)] else[]):=(if_pos ⟨Ja,r9⟩).symm;have mE:¬some bo=q:=hH.tI (b:=bo) (q:=q) (el:=365) (sz:=2);have iM:¬some xb=q:=hH.ag7 (b:=xb) (q:=q) (el:=365) (sz:=2);refine GC.br (pl:=(bg [3,6,9,12,1,16,18,23,26,29])) (T:=dt [bo,xb]) (hm:=mixed) (h:=fun w hE hH=>gh ?_);refine GX.mg (h:=fun bl w hS hH=>gh ?_);refine GX.oU (q:=q) (h1:=aia (s,xn)) (hT:=fun k hk hm=>by
     rcases bU.1 hm with h|h
     ·exact mE (by rw[←h];exact hk)
     ·exact iM (by rw[←jn.1 h];exact hk)) (h:=fun q c w hS hH=>gh ?_)
    refine GX.fO (h:=fun w hH=>gh ?_);rw[show l.length+1=(l++[(s,xn)]).length by simp,show[str s,uV xn]=yL (s,xn) from rfl,←lH] at hH;refine gh ?_;exact GQ.dm ([(s,xn)],(q,c)) (cR (l:=[0,1,2,3,4]) rfl) ⟨hh,gy,hH.to⟩
   ·have hh:[]=(if 0<xn∧p <+: s then[(s,xn)] else[]):=(if_neg fun h=>h4 (by have:=h.2.length_le;omega)).symm;rw[←fB l] at hH;exact GQ.dm ([],(q,c)) (cR (l:=[0,1,2,3,4]) rfl) ⟨hh,hA.same,hH.to⟩
  ·have hh:[]=(if 0<xn∧p <+: s then[(s,xn)] else[]):=(if_neg fun h=>h3 (by have:=h.1;omega)).symm;rw[←fB l] at hH;exact GQ.dm ([],(q,c)) (cR (l:=[0,1,2,3,4]) rfl) ⟨hh,hA.same,hH.to⟩
 rintro⟨h0,⟨q,c⟩⟩ w ⟨hh,gy,hH⟩;replace hh:=hh.symm;replace hH:=SH.ap hH;dsimp only at hH gy hh ⊢;refine gh ?_;refine GC.bR [1,4,49,50] (fun y:Nat×List (Bs×Nat)×(Option Nat×Nat)=>[(51,iV y.1)]) (fun y w'=>y.1≤ks.length∧y8 (ay T) p s (ks.take y.1) y.2.1∧(l++h0++y.2.1).Pairwise (fun a b=>a.1<b.1)∧(∀a∈l++h0++y.2.1,0<bX (ay T) a.1)∧(∀e∈ks.drop y.1,∀a∈l++h0++y.2.1,a.1<s++e.1)∧SH o w' (CZ bp bo bv p T y.2.2 (l++h0++y.2.1)++[fz (aB xb [str xe,uV xn, .slice (aA xq) ks.length xd]),fz (aq 279 1 xq ks.length xd (bq (ks.map (·.2))))])) (fun y=>ks.length - y.1) (0,[],(q,c)) rfl rfl ⟨bh _,by rw[List.take_zero];exact y8.nil _ _ _,by rw[fB];exact gy.ord,by rw[fB];exact gy.mem,fun e he a ha=>by
  rw[fB] at ha;rw[List.drop_zero] at he;have:=N5 (s:=s) (Me e he) [];rw[fB] at this
  rcases gy.lt a ha with h|h
  ·exact List.lt_trans h this
  ·rw[h];exact this,by rw[fB];exact hH.to⟩ ?_
 rintro⟨k,m,⟨q2,c2⟩⟩ w ⟨hk,HM,ho,EF,aN,hH⟩;dsimp only at hk HM ho EF aN hH ⊢;replace hH:=SH.ap hH;refine gh ?_;refine ifs (fun h5=>?_) (fun h5=>?_)<;>refine gh ?_
 ·have BL:k<ks.length:=by omega
  obtain⟨e,he⟩:∃e,ks[k]?=some e:=⟨_,bO BL⟩
  obtain⟨y,hy,fF,eT,aP,_⟩:=uF k e he;obtain⟨b9,rfl⟩:=hH.l8 (el:=279) (sz:=1) (q:=xq) (n:=ks.length);have Sv:ks.drop k=e::ks.drop (k+1):=by rw[tV BL];congr 1;exact(aV.1 he).2
  have vQ:sS T (s++e.1) (l++h0++m):=⟨ho,EF,fun a ha=>aN e (by rw[Sv];simp) a ha⟩
  refine gh ?_;refine GX.next rfl (GO.cT (hv:=show(bq (ks.map (·.2)))[k]?=some (ak y.b) by simp[bq,he,eT]) (h:=gh ?_));refine GX.bZ (hc:=fun _ hs=>T6 (bD he) hy (by rw[fF]) vQ hs) (h:=?_);rintro⟨m2,⟨q3,c3⟩⟩ w rQ hH;dsimp only at rQ;replace hH:=SH.ap hH;refine gh ?_;have uN:=hT.ok.ord _ _ hx;have nV:∀f∈ks.drop (k+1),sS T (s++f.1) (l++h0++m++m2):=fun f hf=>by
   have SA:hd e.1<hd f.1:=by
    have h7:(ks.drop k).Pairwise fun a b=>hd a.1<hd b.1:=uN.sublist (List.drop_sublist _ _)
    rw[Sv] at h7;exact(lN.1 h7).1 f hf
   have SE:=Me f (xv hf);refine vQ.app rQ (fun t ht _=>?_) ?_
   ·obtain⟨u,rfl⟩:=ht;have:=N4 (s:=s) aP SE SA u [];rwa [fB] at this
   ·have:=N4 (s:=s) aP SE SA [] [];rwa [fB,fB] at this
  have hpw:(l++h0++m++m2).Pairwise fun a b=>a.1<b.1:=xx.2 ⟨ho,rQ.ord,fun a ha b hb=>VP (vQ.lt a ha) ((rQ.mem b.1 b.2).1 hb).2.2.1⟩
  have B3:∀a∈l++h0++m++m2,0<bX (ay T) a.1:=fun a ha=>by
   rcases cx.1 ha with ha|ha
   ·exact EF a ha
   ·obtain⟨k1,k2,_⟩:=(rQ.mem a.1 a.2).1 ha;rw[k2];exact k1
  refine GQ.bj (k+1,m++m2,(q3,c3)) rfl ⟨BL,hT.ok.lus hx he HM rQ,by simp only;rw[←cS];exact hpw,by simp only;rw[←cS];exact B3,fun f hf a ha=>by simp only at ha hf;rw[←cS] at ha;exact(nV f hf).lt a ha,?_⟩ (by simp only;omega);dsimp only;rw[←cS];exact hH.to
 ·obtain rfl:k=ks.length:=by omega
  rw[kD] at HM;refine gh ?_;have nZ:=hT.ok.lu hx HM;refine⟨(h0++m,(q2,c2)),rfl,?_,?_⟩
  ·rw[hh] at nZ;exact nZ
  ·dsimp only;rw[←cS];exact hH.to
theorem al3 {T:cy}(hT:TT T)(hc:fC T<2^40){bp bo bv:Nat}(p:Bs)(hp:p.length≤250):∀(d:Nat) {s sp:Bs}{x:Tn},ay T s=some x→sp++x.e=s→250≤s.length+d→KJ T bp bo bv p s sp x:=by
 intro d
 induction d with
 |zero=>
  intro s sp x hx fW hd;refine Yr hT hc p hp hx fW fun {e y} he hy _=>?_
  have h1:=hT.ok.len _ _ hy;have h2:=xw.2 (hT.ok.ne _ _ hx e he);rw[bH] at h1;omega
 |succ d ih=>
  intro s sp x hx fW hd;refine Yr hT hc p hp hx fW fun {e y} he hy fF=>?_
  have h2:=xw.2 (hT.ok.ne _ _ hx e he);intro o w q l hA hs;exact ih hy fF (by rw[bH];omega) hA hs
theorem VQ {T:cy}(hT:TT T){p s:Bs}{l:List (Bs×Nat)}(h:LU (ay T) p s l):l.length≤fC T:=PM hT h.ord fun a ha=>by
 obtain⟨k1,k2,_⟩:=(h.mem a.1 a.2).1 ha;rw[k2];exact k1
theorem Yp {t:Nat}{T:cy}{v:Value}(hT:TT T)(hc:fC T<2^40)(p:Bs)(hp:p.length≤250)(hs:Start o w [fz (aB t [ak (jh T),v]),fz (eU T)]) :
  aj prog 234 [ak t,str p].toArray w (aX o (fun y:List (Bs×Nat)×(Option Nat×Nat) => .slice (aA y.2.1) y.1.length y.2.2) (fun y=>LU (ay T) p [] y.1) (fun y=>[aq 365 2 y.2.1 y.1.length y.2.2 (aL yL y.1)])):=by
 have hH:=hs.sh;obtain⟨r0,iQ,wz⟩:=hT.ok.root;rw[tQ iQ] at hH;refine aj.enter func234 rfl ntmps234 rfl (gh ?_);refine GX.cI (h:=fun bp w hH=>gh ?_);rw[←tQ iQ] at hH;refine GX.aM (hc:=fun _ hs=>CX p hs) (h:=fun w hE hH=>gh ?_);rw[if_pos hp];rw[tQ iQ] at hH;refine gh ?_;refine GX.cA (h:=fun bo w hH=>gh ?_);refine GX.cA (h:=fun bv w hH=>gh ?_);refine GX.dC (h:=fun w hH=>gh ?_);replace hH:=SH.cF (el:=365) (sz:=2) (q:=none) (n:=0) (c:=0) (cs:=[]) hH (Mod.refl w) (fun _ h=>by cases h) (aH.nil _ _ _);have HE:sS T [] []:=⟨List.Pairwise.nil,(fun _ h=>by cases h),(fun _ h=>by cases h)⟩
 have TS:=fun {o:Og}{w:World}(hs:Start o w (CZ bp bo bv p T (none,0) []))=>al3 hT hc (bp:=bp) (bo:=bo) (bv:=bv) p hp 250 iQ (sp:=[]) (by rw[wz];rfl) (by simp) HE hs
 refine GC.br (pl:=(.pure 1 (.pure 2 (.pure 3 (.alt (.aw 0 (.aw 4 (.aw 5 .done))) (.aw 4 (.aw 0 (.aw 5 .done)))))))) (T:=dt []) (hm:=mixed) (h:=fun w hE hH=>gh ?_);refine GX.alt (gh ?_) (gh ?_)
 ·refine GX.kL (hc:=fun _ hs=>TS hs) (h:=?_);rintro⟨l,⟨q,c⟩⟩ w hL hS hH;replace hH:=SH.ap hH;rw[kC] at hH;refine gh ?_;exact⟨(l,(q,c)),rfl,hL,hH.to⟩
 ·refine GX.kL (hc:=fun _ hs=>TS hs) (h:=?_);rintro⟨l,⟨q,c⟩⟩ w hL hS hH;replace hH:=SH.ap hH;rw[kC] at hH;refine gh ?_;exact⟨(l,(q,c)),rfl,hL,hH.to⟩
theorem Yh {t:Nat}{A:sX}(p:Bs)(hp:p.length≤250)(hK:A.K<2^40)(hs:Start o w [nH t A]) :
  aj prog 264 [ak t,str p].toArray w (aX o (fun n:Nat => .tuple #[iV n,iV 0]) (fun _=>True) (fun _=>[nH t ⟨fun s=>if p <+: s then 0 else A.P s,A.K⟩])):=by
 have hH:=hs.sh;obtain⟨⟨T,hA⟩,hH⟩:=SH.un hH;replace hH:=SH.ap hH;dsimp only at hH;have hT:=hA.tt;have wc:=hA.cP;refine aj.enter func264 rfl ntmps264 rfl (gh ?_);refine GX.aM (hc:=fun _ hs=>CX p hs) (h:=fun w hE hH=>gh ?_);rw[if_pos hp];refine gh ?_;refine GX.ef (hc:=fun _ hs=>Yp hT ah p hp hs) (h:=?_);rintro⟨l,⟨q,c⟩⟩ w hL hE hH;dsimp only at hL hH ⊢;replace hH:=SH.ap hH;have lA:=VQ hT hL;have dN:=fun(a:Bs×Nat)=>hL.mem a.1 a.2
 have bT:(l.map (·.1)).Nodup:=by
  rw[pM,rD];exact hL.ord.imp fun h=>N6 h
 have hlen:∀a∈l,a.1.length≤250:=fun a ha=>by
  obtain⟨k1,k2,_⟩:=(dN a).1 ha;unfold bX at k2;split at k2
  ·rename_i x hx;exact hT.ok.len _ _ hx
  ·omega
 have hPl:∀a∈l,0<A.P a.1:=fun a ha=>by
  obtain⟨k1,k2,_⟩:=(dN a).1 ha;rw[hA.num,k2];exact k1
 have nZ:(fun s=>if s∈l.map (·.1) then 0 else A.P s)=fun s=>if p <+: s then 0 else A.P s:=by
  funext s
  by_cases h1:p <+: s
  ·rw[if_pos h1]
   by_cases h2:s∈l.map (·.1)
   ·rw[if_pos h2]
   ·rw[if_neg h2]
    by_cases h3:0<A.P s
    ·exfalso;exact h2 (bG.2 ⟨(s,A.P s),(dN (s,A.P s)).2 ⟨h3,(hA.num s).symm,List.nil_prefix,h1⟩,rfl⟩)
    ·omega
  ·rw[if_neg h1,if_neg];intro h2;obtain⟨a,ha,rfl⟩:=bG.1 h2;exact h1 ((dN a).1 ha).2.2.2
 replace hH:=CY hA hH;refine gh ?_;refine GC.bR [0,7,19,20] (fun k:Nat=>[(21,iV k)]) (fun k w'=>k≤l.length∧SH o w' [nH t ⟨fun s=>if s∈(l.take k).map (·.1) then 0 else A.P s,A.K⟩,aq 365 2 q l.length c (aL yL l)]) (fun k=>l.length - k) 0 rfl rfl ⟨bh _,by
  rw[show(fun s=>if s∈(l.take 0).map (·.1) then 0 else A.P s)=A.P by funext s;simp];exact hH.to⟩ ?_
 rintro k w ⟨hk,hH⟩;refine gh ?_;refine ifs (fun h1=>?_) (fun h1=>?_)<;>refine gh ?_
 ·have cV:k<l.length:=by omega
  obtain⟨a,ha⟩:∃a,l[k]?=some a:=⟨_,bO cV⟩
  have HZ:=(aV.1 ha).2;obtain⟨b,rfl⟩:=hH.pos (el:=365) (sz:=2) (q:=q) (n:=l.length);have hd:=ku WG ha;refine gh ?_;refine GX.next rfl (GO.kg (hv:=hd) (h:=gh ?_));refine GX.cA (h:=fun z w hH=>gh ?_);refine GX.bt (h:=fun w hH=>gh ?_);have H5:=bD ha;have wx:a.1∉(l.take k).map (·.1):=fun h=>by
   have h2:(l.map (·.1)).Nodup:=bT;rw[←jW k l,eA,ga] at h2;exact h2.2.2 a.1 h a.1 (bG.2 ⟨a,by rw[tV cV,HZ];simp,rfl⟩) rfl
  refine GX.bZ (hc:=fun _ hs=>alU (A:=⟨fun s=>if s∈(l.take k).map (·.1) then 0 else A.P s,A.K⟩) a.1 (hlen a H5) (by show 0<(if a.1∈(l.take k).map (·.1) then 0 else A.P a.1);rw[if_neg wx];exact hPl a H5) hK hs) (h:=?_);rintro m w _ hH;replace hH:=SH.ap hH;refine gh ?_;refine GQ.bj (k+1) rfl ⟨cV,?_⟩ ah;rw[show(fun s=>if s∈(l.take (k+1)).map (·.1) then 0 else A.P s)=fun s=>if s=a.1 then 0 else if s∈(l.take k).map (·.1) then 0 else A.P s by
   funext s;rw[lh cV,HZ,eA,List.map_singleton]
   by_cases h2:s=a.1
   ·rw[if_pos h2,if_pos (by rw[h2];simp)]
   ·rw[if_neg h2];simp only[cx,jn,h2,or_false]]
  exact hH.to
 ·obtain rfl:k=l.length:=by omega
  rw[kD,nZ] at hH;refine gh ?_;exact⟨l.length,rfl,trivial,hH.to⟩
def sx (R:List (Bs×Tn)):Nat:=(R.map (·.2.n)).foldl max 0
theorem VU (R:List (Bs×Tn))(x:Bs×Tn):sx (R++[x])=max (sx R) x.2.n:=by simp[sx]
abbrev Gv:=List (Bs×Tn)×List Nat×(Option Nat×Nat)×(Option Nat×Nat)
def Kw (y:Gv):Value := .tuple #[.slice (aA y.2.2.1.1) y.1.length y.2.2.1.2, .slice (aA y.2.2.2.1) y.1.length y.2.2.2.2]
abbrev C2 (y:Gv):List It:=[aq 279 1 y.2.2.1.1 y.1.length y.2.2.1.2 (bq (y.1.map (·.2.b))),aq 3 1 y.2.2.2.1 y.1.length y.2.2.2.2 (aG y.2.1)]
theorem al7 {t:Nat}{T:cy}{v:Value}(hT:TT T)(s:Bs)(hl:s.length≤250)(hs:Start o w [fz (aB t [ak (jh T),v]),fz (eU T)]) :
  aj prog 312 [ak t,str s].toArray w (aX o Kw (fun y=>(∀e∈y.1,ay T e.1=some e.2)∧sx y.1=sy (bX (ay T)) s∧y.1.length≤251) C2):=by
 have hH:=hs.sh;obtain⟨r0,iQ,wz⟩:=hT.ok.root;rw[tQ iQ] at hH;refine aj.enter func312 rfl ntmps312 rfl (gh ?_);have h2:=SH.cF (el:=279) (sz:=1) (q:=none) (n:=0) (c:=0) (cs:=[]) hH (Mod.refl w) (fun _ h=>by cases h) (aH.nil _ _ _);have h3:=SH.cF (el:=3) (sz:=1) (q:=none) (n:=0) (c:=0) (cs:=[]) h2 (Mod.refl w) (fun _ h=>by cases h) (aH.nil _ _ _);refine GC.bR [1] (fun y:Nat×Tn×Gv=>[(6,ak y.2.1.b),(7,iV y.1),(4, .slice (aA y.2.2.2.2.1.1) y.2.2.1.length y.2.2.2.2.1.2),(5, .slice (aA y.2.2.2.2.2.1) y.2.2.1.length y.2.2.2.2.2.2)]) (fun y w'=>y.1≤s.length∧ay T (s.take y.1)=some y.2.1∧(∀e∈y.2.2.1,ay T e.1=some e.2)∧sx y.2.2.1=lE (bX (ay T)) s y.1∧y.2.2.1.length≤y.1∧SH o w' (C2 y.2.2++[fz (aB t [ak r0.b,v]),fz (eU T)])) (fun y=>s.length - y.1) (0,r0,[],[],(none,0),(none,0)) rfl rfl ⟨bh _,iQ,(fun _ h=>by cases h),rfl,aY _,h3.to⟩ ?_;rintro⟨a,x,R,D,⟨q1,c1⟩,⟨q2,c2⟩⟩ w ⟨ha,hx,hR,fU,nA,hH⟩;dsimp only at ha hx hR fU nA hH ⊢;replace hH:=SH.ap hH;dsimp only at hH;replace hH:=hH.tM hx;have hPx:bX (ay T) (s.take a)=x.n:=by unfold bX;rw[hx]
 have rX:lE (bX (ay T)) s (a+1)=max (sx R) x.n:=by rw[fU,←hPx];rfl
 refine gh ?_;refine GC.cut (X:=Gv) (fun y=>[(1,str s),(6,ak x.b),(7,iV a),(4, .slice (aA y.2.2.1.1) y.1.length y.2.2.1.2),(5, .slice (aA y.2.2.2.1) y.1.length y.2.2.2.2)]) (fun y w'=>(∀e∈y.1,ay T e.1=some e.2)∧sx y.1=lE (bX (ay T)) s (a+1)∧y.1.length≤a+1∧SH o w' (C2 y++[fz (aB t [ak r0.b,v]),fz (eU T)])) ?_ ?_
 ·refine ifs (fun h1=>?_) (fun h1=>?_)<;>refine gh ?_
  ·refine GX.nR (h1:=by simp[Value.oneCell',ak]) (h:=fun q c w _ hH=>gh ?_);refine GX.nR (h1:=by simp[Value.oneCell']) (h:=fun q c w _ hH=>gh ?_);refine GQ.dm (R++[(s.take a,x)],D++[a],(_,_),(_,_)) (cR (l:=[1,6,7,4,5]) (by simp only[bH,gW];rfl)) ⟨fun e he=>?_,by rw[VU,rX],by simp only[bH,gW];omega,?_⟩
   ·rcases cx.1 he with he|he
    ·exact hR e he
    ·rw[jn.1 he];exact hx
   ·dsimp only[C2];rw[eA,List.map_singleton,bH,gW,show∀l:List Nat,bq (l++[x.b])=bq l++[ak x.b] from fun l=>by simp[bq],show aG (D++[a])=aG D++[iV a] by simp[aG]];exact hH.to
  ·exact GQ.dm (R,D,(q1,c1),(q2,c2)) (cR (l:=[1,6,7,4,5]) rfl) ⟨hR,by rw[rX];dsimp only;omega,by dsimp only;omega,hH.to⟩
 rintro⟨R,D,⟨q1,c1⟩,⟨q2,c2⟩⟩ w ⟨hR,fU,nA,hH⟩;dsimp only at hR fU nA hH ⊢;replace hH:=SH.ap hH;dsimp only at hH;have fin:∀{w:World},SH o w (C2 (R,D,(q1,c1),(q2,c2))++[fz (aB t [ak r0.b,v]),fz (eU T)])→sy (bX (ay T)) s=lE (bX (ay T)) s (a+1)→aX o Kw (fun y=>(∀e∈y.1,ay T e.1=some e.2)∧sx y.1=sy (bX (ay T)) s∧y.1.length≤251) C2 (Kw (R,D,(q1,c1),(q2,c2))) w:=fun {w} hH he=>⟨(R,D,(q1,c1),(q2,c2)),rfl,⟨hR,by rw[he];exact fU,by dsimp only;omega⟩,hH.to⟩
 refine gh ?_
 by_cases cj:a=s.length
 ·rw[show decide ((a:Int)=(s.length:Int))=true by simp;omega];refine gh ?_;refine fin hH.to ?_;rw[cj];rfl
 have aN:a<s.length:=by omega
 rw[show decide ((a:Int)=(s.length:Int))=false by simp;omega];refine gh ?_;have hu:s[a]?=some s[a]:=by simp[aN]
 generalize hus:s[a]=u at hu;refine GX.next rfl (GO.Am rfl rfl rfl rfl ah (u:=u) (by simpa using hu) rfl (gh ?_));refine GX.ef (hc:=fun _ hs=>On hT hx u.toNat (UInt8.toNat_lt u) hs) (h:=?_);rintro⟨i,is⟩ w Bx hE hH;replace hH:=SH.ap hH;have cV:=hT.kl hx;have EX:s.take a++s.drop a=s:=jW a s;have Em:s.drop a=u::s.drop (a+1):=by rw[tV aN,hus]
 have EJ:s.drop a≠[]:=by rw[Em];simp
 have SL:hd (s.drop a)=u.toNat:=by rw[Em];rfl
 cases is with
 |false=>
  refine gh ?_;refine GC.br (pl:=(bg [0,3,6,9,12,15,18,21,24,30,28,33,37,39,42,46,50,51,54])) (T:=fun _=>False) (hm:=mixed) (h:=fun w hE hH=>gh ?_);have bz:=Bx.no;refine fin hH.to (hT.ok.VX hx ha fun e he cK=>bz e he ?_);rw[←SL];exact we cK (by rw[EX];exact lg) (hT.ok.ne _ _ hx e he) EJ
 |true=>
  obtain⟨e,he,El⟩:=Bx.2.2.1 rfl;dsimp only at he;have Mw:=bD he;have eY:=(aV.1 he).1;obtain⟨y,hy,fF,eT,aP,yi,_,wh⟩:=hT.jz hx he;have Nj:=fun hp=>hT.ok.agP hx ha Mw hp
  have Ep:=fun bz=>hT.ok.VX hx ha bz
  have uN:=hT.ok.ord _ _ hx;have fy:=hT.ok.ne _ _ hx;replace hH:=(hH.tM hx).tM hy;obtain⟨xb,xe,xn,⟨q,d⟩,ks⟩:=x;dsimp only at hH cV he eY Mw Ep uN fy;obtain⟨qb,rfl⟩:=hH.l8 (el:=279) (sz:=1) (q:=q) (n:=ks.length);have ya:(bq (ks.map (·.2)))[i]?=some (ak y.b):=by simp[bq,he,eT]
  refine gh ?_;refine GC.br (pl:=(bg [0,3,6,9,12,15,18,21,24,30,28,33,37,39,42,46,50,51,54])) (T:=fun _=>False) (hm:=mixed) (h:=fun w hE hH=>gh ?_);refine GX.pure rfl (Gb s rfl rfl rfl rfl rfl ah ah ?_);rw[show((a:Nat):Int).toNat=a by simp];refine gh ?_;refine GX.read rfl (GO.lC (hv:=ya) (h:=gh ?_));refine GX.pS (hc:=H6 (s.drop a) y.e (by rw[ml];omega) (by rw[fF];omega) _) (h:=gh ?_)
  by_cases cK:y.e <+: s.drop a
  ·rw[b8 cK];refine gh ?_;refine GX.next rfl (GO.cT (hv:=ya) (h:=gh ?_));have NA:=cK.length_le;rw[ml] at NA;have kS:=xw.2 aP;rw[←fF] at kS;have M3:s.take a++e.1 <+: s:=by
    rw[←fF]
    conv=>rhs;rw[←EX]
    exact(List.prefix_append_right_inj _).2 cK
   refine gh ?_;refine GQ.bj (a+y.e.length,y,R,D,(q1,c1),(q2,c2)) rfl ⟨by simp only;omega,?_,hR,?_,by simp only;omega,hH.to⟩ (by simp only;omega)
   ·dsimp only;have h7:=List.prefix_iff_eq_take.1 M3;rw[bH,dI,pC ha,←fF] at h7;rw[←h7,fF];exact hy
   ·dsimp only;rw[fU,fF];exact(Nj M3).symm
  ·rw[bQ cK];refine gh ?_;refine fin hH.to (Ep fun f hf Ab=>cK ?_);have h5:hd f.1=hd e.1:=by
    rw[El,←SL];exact we Ab (by rw[EX];exact lg) (fy f hf) EJ
   have:=Ic uN hf Mw h5;subst this;rw[fF];rw[←EX] at Ab;have h9:(s.take a++s.drop a).take a=s.take a:=by rw[EX]
   rw[h9] at Ab;exact WJ Ab
theorem alS {t:Nat}{A:sX}(s:Bs)(hl:s.length≤250)(hs:Start o w [fz (nH t A)]) :
  aj prog 237 [ak t,str s].toArray w (Po o (uV (sy A.P s)) []):=by
 have hH:=hs.sh;obtain⟨⟨T,hA⟩,hH⟩:=SH.dV hH;replace hH:=SH.ed hH;dsimp only at hH;have hT:=hA.tt;have hP:A.P=bX (ay T):=funext hA.num;refine aj.enter func237 rfl ntmps237 rfl (gh ?_);refine GX.aM (hc:=fun _ hs=>CX s hs) (h:=fun w hE hH=>gh ?_);rw[if_pos hl];refine gh ?_;refine GX.ef (hc:=fun _ hs=>al7 hT s hl hs) (h:=?_);rintro⟨R,D,⟨q1,c1⟩,⟨q2,c2⟩⟩ w ⟨hR,fU,nA⟩ hE hH;dsimp only[Kw] at hR fU nA hH ⊢;replace hH:=SH.ap hH;refine gh ?_;refine GC.bR [20,21] (fun k:Nat=>[(22,iV k),(5,uV (sx (R.take k)))]) (fun k w'=>k≤R.length∧SH o w' [aq 279 1 q1 R.length c1 (bq (R.map (·.2.b))),fz (eU T)]) (fun k=>R.length - k) 0 rfl rfl ⟨bh _,hH.to⟩ ?_;rintro k w ⟨hk,hH⟩;refine gh ?_;refine ifs (fun h1=>?_) (fun h1=>?_)<;>refine gh ?_
 ·have cV:k<R.length:=by omega
  obtain⟨e,he⟩:∃e,R[k]?=some e:=⟨_,bO cV⟩
  obtain⟨b,rfl⟩:=hH.pos (el:=279) (sz:=1) (q:=q1);have hx:=hR e (bD he);replace hH:=hH.tM hx;refine gh ?_;refine GX.next rfl (GO.cT (hv:=show(bq (R.map (·.2.b)))[k]?=some (ak e.2.b) by simp[bq,he]) (h:=gh ?_));refine GQ.bj (k+1) ?_ ⟨cV,hH.to⟩ ah;rw[lh cV,VU,(aV.1 he).2];have e9:uV (max (sx (R.take k)) e.2.n) = .int .u64 (if((e.2.n:Nat):Int) > ((sx (R.take k):Nat):Int) then((e.2.n:Nat):Int) else((sx (R.take k):Nat):Int)):=by
   unfold uV;congr 1;split<;>omega
  rw[e9];rfl
 ·obtain rfl:k=R.length:=by omega
  refine gh ?_;refine⟨?_,hH.to⟩;rw[kD,fU,hP]
theorem alP {t:Nat}{A:sX}(hK:A.K<2^40)(hs:Start o w [fz (nH t A)]) :
  aj prog 153 [ak t].toArray w (aX o ak (fun _=>True) (fun c=>[nH c A])):=by
 have hH:=hs.sh;obtain⟨⟨T,hA⟩,hH⟩:=SH.dV hH;replace hH:=SH.ed hH;dsimp only at hH;have hT:=hA.tt;have wc:=hA.cP;refine aj.enter func153 rfl ntmps153 rfl (gh ?_);refine GX.aM (hc:=fun _ hs=>CX [] hs) (h:=fun w hE hH=>gh ?_);refine GX.ef (hc:=fun _ hs=>Yj hs) (h:=?_);rintro tc w _ hE hH;replace hH:=SH.ap hH;refine gh ?_;refine GX.ef (hc:=fun _ hs=>Yp hT ah [] (bh _) hs) (h:=?_);rintro⟨l,⟨q,c⟩⟩ w hL hE hH;dsimp only at hL hH ⊢;replace hH:=SH.ap hH;have lA:=VQ hT hL;have dN:=fun(a:Bs×Nat)=>hL.mem a.1 a.2
 have bT:(l.map (·.1)).Nodup:=by
  rw[pM,rD];exact hL.ord.imp fun h=>N6 h
 have hpr:∀a∈l,0<a.2∧A.P a.1=a.2∧a.1.length≤250∧a.2≤never:=fun a ha=>by
  obtain⟨k1,k2,_⟩:=(dN a).1 ha;refine⟨k1,by rw[hA.num,k2],?_⟩;unfold bX at k2;split at k2
  ·rename_i x hx;exact⟨hT.ok.len _ _ hx,by rw[←k2];exact hT.ok.num _ _ hx⟩
  ·omega
 have jd:∀s,0<A.P s→s∈l.map (·.1):=fun s h=>bG.2 ⟨(s,A.P s),(dN (s,A.P s)).2 ⟨h,(hA.num s).symm,List.nil_prefix,List.nil_prefix⟩,rfl⟩
 refine gh ?_;refine GC.bR [3,11,12] (fun k:Nat=>[(13,iV k)]) (fun k w'=>k≤l.length∧SH o w' [nH tc ⟨fun s=>if s∈(l.take k).map (·.1) then A.P s else 0,k⟩,aq 365 2 q l.length c (aL yL l)]) (fun k=>l.length - k) 0 rfl rfl ⟨bh _,by
  rw[show(fun s=>if s∈(l.take 0).map (·.1) then A.P s else 0)=Cr.P by funext s;simp[Cr]];exact hH.to⟩ ?_
 rintro k w ⟨hk,hH⟩;refine gh ?_;refine ifs (fun h1=>?_) (fun h1=>?_)<;>refine gh ?_
 ·have cV:k<l.length:=by omega
  obtain⟨a,ha⟩:∃a,l[k]?=some a:=⟨_,bO cV⟩
  have HZ:=(aV.1 ha).2;obtain⟨b,rfl⟩:=hH.pos (el:=365) (sz:=2) (q:=q) (n:=l.length);have hd:=ku WG ha;refine gh ?_;refine GX.next rfl (GO.kg (hv:=hd) (h:=gh ?_));refine GX.cA (h:=fun z w hH=>gh ?_);refine GX.bt (h:=fun w hH=>gh ?_);obtain⟨p1,p2,p3,p4⟩:=hpr a (bD ha);refine GX.bF (hc:=fun _ hs=>Yl (A:=⟨fun s=>if s∈(l.take k).map (·.1) then A.P s else 0,k⟩) a.1 a.2 p3 p1 p4 (by show k<_;omega) hs) (h:=fun w hH=>gh ?_);refine GQ.bj (k+1) rfl ⟨cV,?_⟩ ah;rw[show(fun s=>if s∈(l.take (k+1)).map (·.1) then A.P s else 0)=fun s=>if s=a.1 then a.2 else if s∈(l.take k).map (·.1) then A.P s else 0 by
   funext s;rw[lh cV,HZ,eA,List.map_singleton]
   by_cases h2:s=a.1
   ·rw[if_pos h2,if_pos (by rw[h2];simp),h2,p2]
   ·rw[if_neg h2];simp only[cx,jn,h2,or_false]]
  exact hH.to
 ·obtain rfl:k=l.length:=by omega
  rw[kD] at hH;refine gh ?_;refine⟨tc,rfl,trivial,?_⟩;have e1:(fun s=>if s∈l.map (·.1) then A.P s else 0)=A.P:=by
   funext s
   by_cases h2:s∈l.map (·.1)
   ·rw[if_pos h2]
   ·rw[if_neg h2]
    by_cases h3:0<A.P s
    ·exact absurd (jd s h3) h2
    ·omega
  rw[e1] at hH;obtain⟨⟨T2,qO⟩,hH⟩:=SH.un hH;replace hH:=SH.ap hH;exact(CY (A:=A) ⟨qO.tt,qO.num,dF qO.cP (dF lA wc)⟩ hH).to
end Go.Proofs.YtoloaehmppcjoaaGreat.V.M
