/-
  Parts of the proof. No condition.
-/
import Derived.Test.YtmlpbmgfmnmmmaaGreatW2ca
set_option linter.unusedVariables false
set_option linter.unusedSimpArgs false
set_option maxRecDepth 8000
set_option maxHeartbeats 8000000
open Go.Proofs.Tryz
namespace Go.Proofs.YtmlpbmgfmnmmmaaGreat.V.M
section
attribute [local irreducible] GO GX aA eo fz aF aQ ao star
theorem Zc {o:Og}{w:World}{r md up m:Nat}{E:aq}{R:List Nat}(hW:kS E up R m)(hm:m<5000)(hs:Start o w [gk r E up R,lp md E (dg up R)]) :
  aj prog 20 [ak r,ak md].toArray w (Po o (.bool true) [gk r E up R,lp md E (dg up R)]):=by
 have hH:=hs.sh;have hl:=hW.l;have hb:=hW.b;have dY:=O3 up R;have sX:∀x∈dg up R,x≤90000:=fun x hx=>by
  rcases JW.1 hx with h|h
  ·omega
  ·have:=hb x h;omega
 have lK:=Lf (up+1) R;refine aj.enter func20 rfl ntmps20 rfl (gh ?_);refine GX.bS (hc:=fun _ hs=>aiw (b:=r) hW.w ah hs) (h:=?_);rintro e w _ hH;replace hH:=SH.ap hH;refine gh ?_;obtain⟨X,hH⟩:=SH.un (f:=fun X:vy=>X.dm md E (dg up R)) hH bL;replace hH:=SH.ap hH;refine GC.cut (X:=Unit) (fun _=>[(0,ak r),(1,ak md),(5,ak e),(45, .bool false)]) (fun _ w'=>SH o w' [gk r E up R,lp md E (dg up R),bU e E]) ?_ ?_
 ·refine GC.bq (pl:=(.pure 0 (.pure 1 (.pure 2 (.pure 3 (.pure 5 (.pure 6 (.pure 7 (.alt (.ax 4 (.ax 8 (.ax 9 (.pure 10 (.pure 11 (.pure 12 (.pure 13 (.pure 15 (.ax 14 (.ax 16 (.pure 17 (.pure 18 (.pure 19 (.pure 20 (.pure 22 (.ax 21 (.ax 23 (.ax 24 (.pure 25 (.pure 26 .done)))))))))))))))))))) (.ax 8 (.ax 4 (.ax 9 (.pure 10 (.pure 11 (.pure 12 (.pure 13 (.pure 15 (.ax 14 (.ax 16 (.pure 17 (.pure 18 (.pure 19 (.pure 20 (.pure 22 (.ax 21 (.ax 23 (.ax 24 (.pure 25 (.pure 26 .done))))))))))))))))))))))))))))) (T:=cS []) (hm:=mixed) (h:=fun w hE hH=>gh ?_);refine GX.alt (gh ?_) (gh ?_)
  ·refine GX.gz (hc:=fun _ hs=>Dz (b:=e) (E:=E) hs) (h:=fun w hS hH=>gh ?_);refine GX.gz (hc:=fun _ hs=>Dz (b:=X.e) (E:=E) hs) (h:=fun w hS hH=>gh ?_);rw[show decide ((E.now:Int)≠(E.now:Int))=false from bt ah];refine gh ?_;replace hH:=qR (b:=md) (E:=E) (L:=dg up R) (X:=X) hH;refine GX.gz (hc:=fun _ hs=>CO (b:=r) hs) (h:=fun w hS hH=>gh ?_);refine GX.gz (hc:=fun _ hs=>N8 (b:=md) hW.r ah hs) (h:=fun w hS hH=>gh ?_);rw[show decide ((up:Int)≠(up:Int))=false from bt ah];refine gh ?_;refine GX.gT (hc:=fun _ hs=>JL (b:=r) hW ah hs) (h:=?_);rintro⟨q1,c1⟩ w _ hS hH;replace hH:=SH.ap hH;refine gh ?_;refine GX.gT (hc:=fun _ hs=>VZ (b:=md) (L:=dg up R) ah sX hs) (h:=?_);rintro⟨q2,c2⟩ w _ hS hH;replace hH:=SH.ap hH;rw[Ry] at hH ⊢;refine gh ?_;refine GX.gz (hc:=fun _ hs=>Le (gM (up+1) R) ah hs) (h:=fun w hS hH=>gh ?_);exact GQ.dx () (cZ (l:=[0,1,5,45]) rfl) hH.to
  ·refine GX.gz (hc:=fun _ hs=>Dz (b:=e) (E:=E) hs) (h:=fun w hS hH=>gh ?_);refine GX.gz (hc:=fun _ hs=>Dz (b:=X.e) (E:=E) hs) (h:=fun w hS hH=>gh ?_);rw[show decide ((E.now:Int)≠(E.now:Int))=false from bt ah];refine gh ?_;replace hH:=qR (b:=md) (E:=E) (L:=dg up R) (X:=X) hH;refine GX.gz (hc:=fun _ hs=>CO (b:=r) hs) (h:=fun w hS hH=>gh ?_);refine GX.gz (hc:=fun _ hs=>N8 (b:=md) hW.r ah hs) (h:=fun w hS hH=>gh ?_);rw[show decide ((up:Int)≠(up:Int))=false from bt ah];refine gh ?_;refine GX.gT (hc:=fun _ hs=>JL (b:=r) hW ah hs) (h:=?_);rintro⟨q1,c1⟩ w _ hS hH;replace hH:=SH.ap hH;refine gh ?_;refine GX.gT (hc:=fun _ hs=>VZ (b:=md) (L:=dg up R) ah sX hs) (h:=?_);rintro⟨q2,c2⟩ w _ hS hH;replace hH:=SH.ap hH;rw[Ry] at hH ⊢;refine gh ?_;refine GX.gz (hc:=fun _ hs=>Le (gM (up+1) R) ah hs) (h:=fun w hS hH=>gh ?_);exact GQ.dx () (cZ (l:=[0,1,5,45]) rfl) hH.to
 rintro⟨⟩ w hH;refine gh ?_;refine GC.bP [0,1,5] (fun z:Int=>[(6,iV z)]) (fun z w'=>(-1≤z∧z≤10)∧SH o w' [gk r E up R,bU e E,lp md E (dg up R)]) (fun z=>(10 - z).toNat) (-1) rfl rfl ⟨by decide,hH.to⟩ ?_;rintro z w ⟨hz,hH⟩;refine gh ?_;refine ifs (fun h1=>?_) (fun h1=>?_)<;>refine gh ?_
 ·refine GX.bz (hc:=fun _ hs=>aix (b:=r) z hs) (h:=fun w hH=>gh ?_);refine GX.bz (hc:=fun _ hs=>V3 (b:=md) (L:=dg up R) ah z hs) (h:=fun w hH=>gh ?_);rw[Sf hW.r];rw[show(!(vT up R z == vT up R z))=false by simp];refine gh ?_;exact GQ.br (z+1) rfl ⟨by omega,hH.to⟩ ah
 obtain rfl:z=10:=by omega
 refine gh ?_;refine GX.bz (hc:=fun _ hs=>Q' (b:=e) (E:=E) hs) (h:=fun w hH=>gh ?_);obtain⟨X,hH⟩:=SH.un (f:=fun X:vy=>X.dm md E (dg up R)) hH bL;replace hH:=SH.ap hH;refine gh ?_;refine GX.bz (hc:=fun _ hs=>Q' (b:=X.e) (E:=E) hs) (h:=fun w hH=>gh ?_);replace hH:=qR (b:=md) (E:=E) (L:=dg up R) (X:=X) hH;rw[show decide ((dL E.s.E:Int)≠(dL E.s.E:Int))=false from bt ah];refine gh ?_;rw[show decide ((E.s.E.length:Int)≠(E.s.E.length:Int))=false from bt ah];refine gh ?_;refine GX.ax rfl (GO.buildSlice (out:=[str [97],str [98],str [97,47,49],str [97,47,50]]) ai ⟨by decide,by unfold maxLen;decide⟩ rfl rfl rfl rfl rfl fun b4 w4 Sk BA lI=>⟨fun _ _=>trivial,?_⟩);replace hH:=hH.cE lI (fun k hk=>by cases hk;omega) BA;refine gh ?_;have cQ:([[97],[98],[97,47,49],[97,47,50]]:List Bs).length=4:=rfl;have aO:SH o w4 (ao 9 1 (some b4) 4 4 (aM [[97],[98],[97,47,49],[97,47,50]])::[gk r E up R,bU e E,lp md E (dg up R)]):=hH.to;replace hH:=aO;clear aO BA;generalize ([[97],[98],[97,47,49],[97,47,50]]:List Bs)=KL at cQ hH;refine GC.bP [1,5,78,79] (fun k:Nat=>[(80,iV k)]) (fun k w'=>k≤4∧SH o w' (ao 9 1 (some b4) 4 4 (aM KL)::[gk r E up R,bU e E,lp md E (dg up R)])) (fun k=>4 - k) 0 rfl rfl ⟨by omega,hH.to⟩ ?_;rintro k w ⟨hk,hH⟩;refine gh ?_;refine ifs (fun h2=>?_) (fun h2=>?_)<;>refine gh ?_
 ·obtain⟨x,hx⟩:∃x,KL[k]?=some x:=⟨_,bO ah⟩
  refine gh ?_;refine GX.next rfl (GO.cG (hv:=show(aM KL)[k]?=some (str x) by simp[aM,hx]) (h:=gh ?_));refine GX.bS (hc:=fun _ hs=>Q6 (b:=e) (E:=E) hW.w.ok x hs) (h:=?_);rintro p1 w _ hH;replace hH:=SH.ap hH;refine gh ?_;refine GX.cm (h:=fun a1 w hH=>gh ?_);refine GX.bc (h:=fun w hH=>gh ?_);obtain⟨X,hH⟩:=SH.un (f:=fun X:vy=>X.dm md E (dg up R)) hH bL;replace hH:=SH.ap hH;refine gh ?_;refine GX.bS (hc:=fun _ hs=>Q6 (b:=X.e) (E:=E) hW.w.ok x hs) (h:=?_);rintro p2 w _ hH;replace hH:=SH.ap hH;replace hH:=qR (b:=md) (E:=E) (L:=dg up R) (X:=X) hH;refine gh ?_;refine GX.cm (h:=fun a2 w hH=>gh ?_);refine GX.bc (h:=fun w hH=>gh ?_);generalize E.FC x=pk at hH ⊢;obtain⟨⟨pm,pv,pn,pd⟩,pe⟩:=pk;replace hH:SH o w [aA a2 [iV pm, .slice (ay p2.1) pv.length p2.2,uV pn,uV pd],aA a1 [iV pm, .slice (ay p1.1) pv.length p1.2,uV pn,uV pd],ao 5 1 p2.1 pv.length p2.2 (Lib.byteCells pv),ao 5 1 p1.1 pv.length p1.2 (Lib.byteCells pv),ao 9 1 (some b4) 4 4 (aM KL),gk r E up R,bU e E,lp md E (dg up R)]:=hH.to;refine gh ?_;rw[show decide (pm≠pm)=false from bt (by simp)];refine gh ?_;rw[show decide ((pn:Int)≠(pn:Int))=false from bt (by simp)];refine gh ?_;have s1:bM w (ay p1.1) (nK pv):=hH.bR (x:=ao 5 1 p1.1 pv.length p1.2 (Lib.byteCells pv)) (a:=ay p1.1) (cs:=Lib.byteCells pv) bL;have s2:bM w (ay p2.1) (nK pv):=hH.bR (x:=ao 5 1 p2.1 pv.length p2.2 (Lib.byteCells pv)) (a:=ay p2.1) (cs:=Lib.byteCells pv) bL;refine GX.next rfl (GO.toStr s1 rfl rfl rfl (gh ?_));refine GX.next rfl (GO.toStr s2 rfl rfl rfl (gh ?_));rw[show decide (pv≠pv)=false from bt (by simp)];refine gh ?_;rw[show decide ((pd:Int)≠(pd:Int))=false from bt (by simp)];refine gh ?_;rw[show decide (pe≠pe)=false from bt (by simp)];refine gh ?_;exact GQ.br (k+1) rfl ⟨by omega,hH.to⟩ ah
 refine gh ?_;refine GX.bz (hc:=fun _ hs=>Dz (b:=e) (E:=E) hs) (h:=fun w hH=>gh ?_);replace hH:=hH.KT 4 [];refine GX.bS (hc:=fun _ hs=>Bo (b:=e) hW.w ah E.now hW.w.ok.now (fZ 4 []) tW (OL 4) hs) (h:=?_);rintro x w _ hH;replace hH:=SH.ap hH;refine gh ?_;exact⟨rfl,hH.to⟩
end
section
def kA:Bs:=[97,47,49]
def gE:dh:=⟨1,kA,[],[],[[116]],never,0,[],[],[]⟩
def qN:dh:=⟨4,kA,[],[],[],0,0,[],[],[]⟩
theorem alH {x:Bs}(h:fF x=true):cr [x]=([x],0):=by
 have hs:fj [x]=[x]:=List.perm_singleton.1 (lV [x]);unfold cr;rw[if_neg (by simp[h]),if_neg (by simp[setOf,bE])];have:((setOf [x]).map (·.1))=[x]:=rfl;rw[this,hs]
theorem alj (c:oy)(t:Nat):((jd c).start t).bf=0∧((jd c).start t).s.E=[]∧((jd c).start t).a.last=0:=by
 have hg:(jd c).s.gone (max (jd c).now t)=[]:=by
  show AS (([]:List cC).filter _)=[];exact ga (FR _).length_eq
 unfold aq.start;rw[hg];exact⟨rfl,rfl,rfl⟩
theorem afa:((jd nL).cI 1 gE).2.1.err=0∧((jd nL).cI 1 gE).2.1.bf=1∧((jd nL).cI 1 gE).2.2=0:=by
 have hw:(jd nL).eT 1 (nW gE.op) gE=0:=by
  have ht:cr gE.t=([[116]],0):=alH rfl;have hp:qW (jd nL).cb (nW gE.op) gE=0:=by
   unfold qW;rw[ht];rfl
  unfold aq.eT;rw[if_neg (by rw[hp];simp),if_pos (by rfl)];unfold aq.Kf;rw[if_neg (by simp[gE]),if_neg (by simp[gE]),if_neg (by simp[gE]),ht,if_neg (by simp[jd,nL,dq,uO];exact eh (rh _ _) (by simp))]
 unfold aq.cI;rw[if_pos (by simp[gE]),if_pos hw];rw[Gt (by simp[gE])];refine⟨rfl,?_,rfl⟩;show((jd nL).start 1).bf+1=1;rw[(alj nL 1).1]
def lE (E:aq):Prop:=∀x∈E.s.E,x.st≤E.a.last
theorem lE.sub {E X:aq}(h:lE E)(hs:∀x∈X.s.E,x∈E.s.E)(ha:E.a.last≤X.a.last):lE X:=fun x hx=>eh (h x (hs x hx)) ha
theorem VL (E:aq)(l:List cC):(E.fh l).s=E.s∧(E.fh l).a.last=E.a.last∧(E.fh l).p=E.p:=by
 unfold aq.fh
 induction l generalizing E with
 |nil=>exact⟨rfl,rfl,rfl⟩
 |cons x l ih=>
  obtain⟨h1,h2,h3⟩:=ih (E.qP x.n);rw[ph];exact⟨h1,h2.trans (b5.DE _ _),h3⟩
theorem O' (E:aq)(t:Nat):(E.start t).s.E=E.s.E.filter (fun e=>!due e.d (max E.now t))∧(E.start t).a.last=E.a.last∧(E.start t).p=E.p:=by
 obtain⟨h1,h2,h3⟩:=VL (E.mz t) (E.s.gone (max E.now t));exact⟨congrArg bw.E h1,h2,h3⟩
theorem lE.start {E:aq}(h:lE E)(t:Nat):lE (E.start t):=by
 obtain⟨h1,h2,_⟩:=O' E t;exact h.sub (fun x hx=>by rw[h1] at hx;exact(ib.1 hx).1) (by rw[h2];exact bj _)
theorem ahK (E:aq)(k:Bs):∀x∈(E.gj k).s.E,x∈E.s.E:=by
 unfold aq.gj;split
 ·intro x hx;exact(ib.1 (show x∈dv E.s.E k from hx)).1
 ·exact fun x hx=>hx
theorem Wx (E:aq)(l:List Bs):∀x∈(E.out l).s.E,x∈E.s.E:=by
 unfold aq.out
 induction l generalizing E with
 |nil=>exact fun x hx=>hx
 |cons k l ih=>exact fun x hx=>ahK E k x (ih (E.gj k) x hx)
theorem abv (b m c:Nat)(l:List cC):∀x∈(iv b m c l).2,x∈l:=by
 induction l with
 |nil=>exact fun x hx=>hx
 |cons y l ih=>
  unfold iv;split
  ·exact fun x hx=>fR _ (ih x hx)
  ·exact fun x hx=>hx
theorem lE.write {E:aq}(h:lE E)(c:dh):lE (E.write c):=by
 have hp:lE (E.pre c):=by
  have f1:=AB E.tick (cR E.g.E c.k);have f2:=AB (E.tick.out (cR E.g.E c.k)) [c.k];refine h.sub (fun x hx=>?_) ?_
  ·exact Wx E.tick _ x (Wx _ _ x hx)
  ·show E.a.last≤((E.tick.out (cR E.g.E c.k)).out [c.k]).a.last;rw[f2.2.1,f1.2.1];exact bj _
 unfold aq.write;have dt:((E.pre c).Cu c).st=(E.pre c).a.last:=rfl;generalize (E.pre c).Cu c=ne at dt ⊢;generalize E.pre c=P at hp dt ⊢;obtain⟨g1,g2,_⟩:=VL { P with s:=(P.s.put ne).1} (P.s.put ne).2;intro x hx;have ey:x∈(P.s.put ne).1.E:=by
  have e:(((P.put ne).add (cr c.t).1)).s.E=(P.s.put ne).1.E:=congrArg bw.E g1;rw[e] at hx;exact hx
 show x.st≤(P.put ne).a.last;have e2:(P.put ne).a.last=P.a.last:=g2;rw[e2];unfold bw.put at ey;split at ey
 ·rcases cJ.1 ey with ey|ey
  ·exact hp x (ib.1 (abv _ _ _ _ x ey)).1
  ·rw[lC.1 ey,dt];exact bj _
 ·exact hp x ey
theorem Wo (E:aq)(op:Int)(L:List l8)(n:Nat):(E.jV op L n).s=E.s∧(E.jV op L n).a=E.a∧(E.jV op L n).p=E.p:=by
 have hn:∀(l:List gx) (E:aq),(E.notes l).s=E.s∧(E.notes l).a=E.a∧(E.notes l).p=E.p:=by
  intro l;unfold aq.notes
  induction l with
  |nil=>exact fun E=>⟨rfl,rfl,rfl⟩
  |cons x l ih=>exact fun E=>ih (E.raise _ 1)
 obtain⟨h1,h2,h3⟩:=hn (L.map fun i=>(⟨i,none,0⟩:gx)) ((E.raise 0 1).raise 2 (L.map fun i=>(⟨i,none,0⟩:gx)).length);unfold aq.jV aq.note aq.CB
 (repeat' split)<;>exact⟨h1,h2,h3⟩
theorem ahL (E:aq)(k:Bs):(E.out [k]).mP k=none:=by
 show(E.gj k).mP k=none;unfold aq.gj;split
 ·show(if bI k=true then kT (dv E.s.E k) k else none)=none;split
  ·refine List.find?_eq_none.2 fun x hx=>?_
   have:=(ib.1 (show x∈dv E.s.E k from hx)).2;simpa using this
  ·rfl
 ·assumption
theorem abX {E:aq}{k:Bs}(h:∀x,E.mP k=some x→¬E.p.of k≤x.st):(E.pD k).m=0:=by
 have h0:∀now,E.item k now=yu:=fun now=>by
  unfold aq.item;cases he:E.mP k with
  |none=>rfl
  |some x=>dsimp only;rw[if_neg (h x he)]
 have hl:E.live k=false:=by
  unfold aq.live;rw[h0];rfl
 have hm:E.meet k=E.out [k]:=by
  unfold aq.meet;rw[if_neg (by rw[hl];simp)]
 unfold aq.pD;rw[hm];unfold aq.item;rw[ahL];rfl
theorem afb {E1:aq}(h1:lE E1):let E2:=(E1.cI 2 (fZ 3 [97,47])).1;(E2.cI 2 qN).2.1.err=0∧(∃i,(E2.cI 2 qN).2.1.L=[i]∧i.m=0)∧(E2.cI 2 qN).2.2=0:=by
 intro E2;have Nk:E1.eT 2 (nW (fZ 3 [97,47]).op) (fZ 3 [97,47])=0:=by
  have hp:qW E1.cb (nW (fZ 3 [97,47]).op) (fZ 3 [97,47])=0:=rfl;unfold aq.eT;rw[if_neg (by rw[hp];simp),if_neg (by simp;rfl),if_neg (by simp[fZ,qf])]
 have di:E2=((E1.start 2).wQ 10 [97,47]).jV 10 [] 0:=by
  show(E1.cI 2 (fZ 3 [97,47])).1=_;unfold aq.cI;rw[if_pos (by simp[fZ,qf]),if_pos Nk,Kz (by simp[fZ,qf])];rfl
 have hw2:E2.eT 2 (nW qN.op) qN=0:=by
  have hp:qW E2.cb (nW qN.op) qN=0:=rfl;unfold aq.eT;rw[if_neg (by rw[hp];simp),if_neg (by simp;rfl),if_neg (by simp[qN])]
 have ac0:((E2.start 2).pD kA).m=0:=by
  refine abX fun x hx=>?_
  obtain⟨a1,a2,a3⟩:=O' E2 2;obtain⟨n1,n2,n3⟩:=Wo ((E1.start 2).wQ 10 [97,47]) 10 [] 0;obtain⟨b1,b2,b3⟩:=O' E1 2;rw[←di] at n1 n2 n3;have wx:x∈(E2.start 2).s.E:=by
   unfold aq.mP at hx;split at hx
   ·exact List.mem_of_find?_eq_some hx
   ·cases hx
  rw[a1] at wx;have ey:=(ib.1 wx).1;rw[n1] at ey;have EZ:x.st≤E1.a.last:=by
   have:=h1.start 2 x ey;rw[b2] at this;exact this
  rw[a3,n3];show¬((E1.start 2).p.uX [97,47] ((E1.start 2).a.last+1)).of kA≤x.st;rw[b2];have sV:E1.a.last+1≤((E1.start 2).p.uX [97,47] (E1.a.last+1)).of kA:=by
   have h2:∀P:Bs→Nat,P [97,47]≤qQ P kA 4:=fun P=>by
    show P [97,47]≤max (max (max (max 0 (P [])) (P [97])) (P [97,47])) (P [97,47,49]);omega
   unfold jG.of;refine eh (eh (Nat.le_of_eq ?_) (h2 _)) (Nat.le_max_right _ _);simp[jG.uX]
  omega
 unfold aq.cI;rw[if_pos (by simp[qN]),if_pos hw2,Ky (by simp[qN])];exact⟨rfl,⟨(E2.start 2).pD kA,rfl,ac0⟩,rfl⟩
theorem lE.aaP (E:aq)(h:lE E):lE (E.cI 1 gE).1:=by
 unfold aq.cI;split
 ·split
  ·rw[Gt (by simp[gE])];obtain⟨n1,n2,_⟩:=Wo ((E.start 1).write gE) gE.op [] (cR (E.start 1).g.E gE.k).length;refine lE.sub ((h.start 1).write gE) (fun x hx=>?_) ?_
   ·have e:(((E.start 1).write gE).jV gE.op [] (cR (E.start 1).g.E gE.k).length).s.E=((E.start 1).write gE).s.E:=congrArg bw.E n1;rw[←e];exact hx
   ·show _≤(((E.start 1).write gE).jV gE.op [] (cR (E.start 1).g.E gE.k).length).a.last;rw[n2];exact bj _
  ·exact h
 ·exact h
theorem lE.new (c:oy):lE (jd c):=fun _ h=>by cases h
end
section
attribute [local irreducible] GO GX aA eo fz aF aQ ao star
theorem Qv:xv nL:=⟨by decide,by decide,by decide,by decide,by decide,by decide⟩
theorem aiz (E:aq):dP E 0 [] 2 2 3 [97,47]=(⟨(E.cI 2 (fZ 3 [97,47])).1,0,[2]⟩,true,0):=by
 unfold dP;rw[if_neg (by decide),if_neg (by decide),if_neg (by decide)];rfl
theorem aiA (E:aq):dP E 0 [2] 3 2 3 [97,47]=(⟨E,0,[2]⟩,false,0):=by
 unfold dP;rw[if_neg (by decide),if_neg (by decide),if_pos (by decide)]
theorem aiB (E:aq):dP E 0 [2] 3 1 1 [116]=(⟨(E.cI 3 (fZ 1 [116])).1,2,[]⟩,true,0):=by
 unfold dP;rw[if_neg (by decide),if_neg (by decide),if_neg (by decide)];rfl
theorem aiC (E:aq):dP E 2 [] 3 1003 1 [116]=(⟨E,2,[]⟩,false,3):=by
 unfold dP;rw[if_neg (by decide),if_pos (by decide)]
theorem aiD (E:aq):dP E 2 [] 3 0 1 [116]=(⟨E,2,[]⟩,false,2):=by
 unfold dP;rw[if_pos (by decide)]
theorem aeP (b:Nat):tL gE ⟨(none,0),(none,0),(ay (some b),1)⟩:=⟨by decide,by decide,by decide,by decide,by decide,fun _=>rfl⟩
theorem aeQ:tL qN tW:=⟨by decide,by decide,by decide,by decide,by decide,fun _=>rfl⟩
theorem I8 {o:Og}{w:World}(hs:Start o w []):aj prog 5 ([]:List Value).toArray w (Po o (.bool true) []):=by
 have hH:=hs.sh;refine aj.enter func5 rfl ntmps5 rfl (gh ?_);refine GX.cw (h:=fun h w hH=>gh ?_);have aO:=SH.cE (el:=31) (sz:=2) (q:=none) (n:=0) (c:=0) (cs:=[]) hH (Mod.refl w) (fun _ h=>by cases h) (aG.nil _ _ _);replace hH:=Cb (h:=h) (L:=[]) (none,0) aO;clear aO;refine gh ?_;refine GX.cm (h:=fun a w hH=>gh ?_);refine GX.bc (h:=fun w hH=>gh ?_);refine GX.aL (hc:=fun _ hs=>Gc [116] hs) (h:=fun w hE hH=>gh ?_);refine GX.bz (hc:=fun _ hs=>OK (h:=h) (L:=[]) (by decide) 1 [116] 1 0 hs) (h:=fun w hH=>gh ?_);rw[show(decide (AG [] 1 [116]=1)&&decide (CM 1 [116]=0))=true from by decide];refine gh ?_;refine GX.bz (hc:=fun _ hs=>OK (h:=h) (L:=sj [] 1 [116]) (by decide) 3 [97,47] 2 0 hs) (h:=fun w hH=>gh ?_);rw[show(decide (AG (sj [] 1 [116]) 3 [97,47]=2)&&decide (CM 3 [97,47]=0))=true from by decide];refine gh ?_;refine GX.bz (hc:=fun _ hs=>OK (h:=h) (L:=sj (sj [] 1 [116]) 3 [97,47]) (by decide) 4 [120] 0 2 hs) (h:=fun w hH=>gh ?_);rw[show(decide (AG (sj (sj [] 1 [116]) 3 [97,47]) 4 [120]=0)&&decide (CM 4 [120]=2))=true from by decide];refine gh ?_;rw[show sj (sj (sj [] 1 [116]) 3 [97,47]) 4 [120]=[(1,[116]),(3,[97,47])] from rfl] at hH;refine GX.bz (hc:=fun _ hs=>adl (h:=h) (L:=[(1,[116]),(3,[97,47])]) hs) (h:=fun w hH=>gh ?_);refine gh ?_;refine GX.bz (hc:=fun _ hs=>ada (h:=h) (n:=2) (L:=[(1,[116]),(3,[97,47])]) (by decide) (by decide) (x:=(3,[97,47])) rfl hs) (h:=fun w hH=>gh ?_);refine GX.cm (h:=fun p w hH=>gh ?_);refine GX.bc (h:=fun w hH=>gh ?_);refine GX.bz (hc:=fun _ hs=>ac9 (h:=h) (n:=3) (L:=[(1,[116]),(3,[97,47])]) (by decide) hs) (h:=fun w hH=>gh ?_);refine GX.cm (h:=fun p2 w hH=>gh ?_);refine GX.bc (h:=fun w hH=>gh ?_);refine GX.aL (hc:=fun _ hs=>ajQ hs) (h:=fun w hE hH=>gh ?_);refine GX.bS (hc:=fun _ hs=>WT nL Qv (by decide) hs) (h:=?_);rintro r w _ hH;replace hH:=SH.ap hH;refine gh ?_;have L4:kS (jd nL) 0 [] 0:=⟨cU.new nL Qv,⟨List.Pairwise.nil,fun _ h=>by cases h⟩,bj _,fun _ h=>by cases h⟩
 refine GX.nk (h:=fun b1 w hH=>gh ?_);replace hH:=hH.freeze aB.here;replace hH:=hH.vJ.vJ;refine GX.bS (hc:=fun _ hs=>OP (b:=r) L4.w (by decide) 1 (by decide) gE ⟨(none,0),(none,0),(ay (some b1),1)⟩ (aeP b1) hs) (h:=?_);rintro x1 w ⟨uG,cW⟩ hH;replace hH:=SH.ap hH;have pL:=afa;have M8:=lE.aaP (jd nL) (lE.new nL);generalize (jd nL).cI 1 gE=D1 at pL M8 uG cW hH ⊢;obtain⟨E1,⟨op1,er1,L1,ve1,n1,nu1⟩,e1⟩:=D1;obtain⟨q1,q2,q3⟩:=pL;dsimp only at q1 q2 q3 M8 uG cW hH;subst q1 q2 q3;refine gh ?_;refine GX.cm (h:=fun x w hH=>gh ?_);refine GX.bc (h:=fun w hH=>gh ?_);have hW1:kS E1 0 [] 2:=⟨cW,⟨List.Pairwise.nil,fun _ h=>by cases h⟩,by decide,fun _ h=>by cases h⟩
 refine GX.bS (hc:=fun _ hs=>CP (b:=r) hW1 (by decide) 2 (by decide) 2 3 [97,47] (by decide) true 0 hs) (h:=?_);rintro⟨⟩ w hR hH;replace hH:=SH.ap hH;rw[aiz] at hR hH ⊢;dsimp only at hR hH ⊢;refine gh ?_;refine GX.bz (hc:=fun _ hs=>CO (b:=r) hs) (h:=fun w hH=>gh ?_);refine GX.bS (hc:=fun _ hs=>JL (b:=r) hR (by decide) hs) (h:=?_);rintro⟨g1,gc1⟩ w _ hH;replace hH:=SH.ap hH;refine gh ?_;refine GX.nk (h:=fun b2 w hH=>gh ?_);refine GX.bz (hc:=fun _ hs=>Le (q1:=g1) (c1:=gc1) (q2:=some b2) (c2:=1) [(1,2)] (by decide) hs) (h:=fun w hH=>gh ?_);have kC:=afb M8;dsimp only at kC;generalize (E1.cI 2 (fZ 3 [97,47])).1=E2 at kC hR hH;replace hH:=hH.vJ.vJ.vJ;refine GX.bS (hc:=fun _ hs=>OP (b:=r) hR.w (by decide) 2 (by decide) qN tW aeQ hs) (h:=?_);rintro x3 w ⟨EZ,iy⟩ hH;replace hH:=SH.ap hH;generalize E2.cI 2 qN=D3 at kC EZ iy hH ⊢;obtain⟨E3,⟨op3,er3,L3,ve3,n3,nu3⟩,e3⟩:=D3;obtain⟨q1,⟨i3,q2,q5⟩,q4⟩:=kC;dsimp only at q1 q2 q4 EZ iy hH;subst q1 q2 q4;obtain⟨xL,⟨xqa,xqc⟩,xn⟩:=x3;dsimp only at EZ hH;obtain⟨rq,rfl⟩:∃rq,xL=[⟨i3,rq⟩]:=by
  match xL,EZ with
  | [⟨i,q⟩],h=>simp at h;exact⟨q,by rw[h]⟩
 refine gh ?_;refine GX.bc (h:=fun w hH=>gh ?_);obtain⟨bi,rfl⟩:=hH.pos (el:=64) (sz:=4) (q:=xqa) (n:=1);have rH:({ L:=[{ i:=i3,q:=rq}],q:=(some bi,xqc),nq:=xn}:tP).L.length=1:=rfl;refine gh ?_;refine GX.next rfl (GO.cG (hv:=show(aK jA [(⟨i3,rq⟩:gx)])[0]?=some (iV i3.m) from rfl) (h:=gh ?_));rw[show decide (i3.m≠0)=false from bt (by simp[q5])];refine gh ?_;have hW3:kS E3 0 [2] 6:=⟨iy,⟨by simp,fun x hx=>by simp at hx;omega⟩,by decide,fun x hx=>by simp at hx;omega⟩
 refine GX.bS (hc:=fun _ hs=>CP (b:=r) hW3 (by decide) 3 (by decide) 2 3 [97,47] (by decide) false 0 hs) (h:=?_);rintro⟨⟩ w LQ hH;replace hH:=SH.ap hH;rw[aiA] at LQ hH ⊢;dsimp only at LQ hH ⊢;refine gh ?_;refine GX.aL (hc:=fun _ hs=>Gc [116] hs) (h:=fun w hE hH=>gh ?_);refine GX.bS (hc:=fun _ hs=>CP (b:=r) LQ (by decide) 3 (by decide) 1 1 [116] (by decide) true 0 hs) (h:=?_);rintro⟨⟩ w DY hH;replace hH:=SH.ap hH;rw[aiB] at DY hH ⊢;dsimp only at DY hH ⊢;refine gh ?_;refine GX.bz (hc:=fun _ hs=>CO (b:=r) hs) (h:=fun w hH=>gh ?_);refine GX.bS (hc:=fun _ hs=>JL (b:=r) DY (by decide) hs) (h:=?_);rintro⟨g2,gc2⟩ w _ hH;replace hH:=SH.ap hH;refine gh ?_;refine GX.aL (hc:=fun _ hs=>Gc [116] hs) (h:=fun w hE hH=>gh ?_);generalize (E3.cI 3 (fZ 1 [116])).1=E4 at DY hH;refine GX.bS (hc:=fun _ hs=>CP (b:=r) DY (by decide) 3 (by decide) 1003 1 [116] (by decide) false 3 hs) (h:=?_);rintro⟨⟩ w LR hH;replace hH:=SH.ap hH;rw[aiC] at LR hH ⊢;dsimp only at LR hH ⊢;refine gh ?_;refine GX.aL (hc:=fun _ hs=>Gc [116] hs) (h:=fun w hE hH=>gh ?_);refine GX.bS (hc:=fun _ hs=>CP (b:=r) LR (by decide) 3 (by decide) 0 1 [116] (by decide) false 2 hs) (h:=?_);rintro⟨⟩ w R3 hH;replace hH:=SH.ap hH;rw[aiD] at R3 hH ⊢;dsimp only at R3 hH ⊢;refine gh ?_;exact⟨rfl,hH.to⟩
end
section
attribute [local irreducible] GX
section
variable {P:Program}{ops:Array Oper}{Q:Exit→Act→World→Prop}{S:World→Prop}{n:Nat}
variable {i:Nat}{p:bZ}{e:Env}{w:World}{dst:Option Tmp}{ty:TypeId}{pos:String}{an:Array Edge}{g:Option (Nat×Bool)}
theorem GO.VA [Fr]{t:TypeId}{sz:Nat}{x:Operand}{b o q j:Nat}{vs cs:List Value}(hA:bM w (some ⟨b,q,none⟩) cs)(hw:aH ops e ⟨dst, .load t x,ty,pos,an,g⟩=some true:=by rfl)(hf:aC P t true sz:=by infer_instance)(hx:ev e x=some (.pointer (some ⟨b,o,none⟩)):=by rfl)(hd:fits n dst=true:=by rfl)
  (hv:(cs.drop j).take sz=vs) (hl:vs.length=sz:=by rfl) (hj:o=q+j:=by first|rfl|omega) (h:GX P ops Q S n p (e.put dst (.agg vs.toArray)) w):GO P ops Q S n .ax i ⟨dst, .load t x,ty,pos,an,g⟩ p e w:=by
 subst hj;have iw:At w b (q+j) vs:=by
  intro i v hi;rw[←hv] at hi;have aP:i<sz:=by
   have:=(aV.1 hi).1;rw[dE] at this;omega
  rw[C' aP,List.getElem?_drop] at hi;have:=hA (j+i) v hi;rwa [show q+j+i=q+(j+i) by omega]
 exact GO.NR iw hl hw hx hd h
end
attribute [local irreducible] GO
attribute [local irreducible] aA ao aQ aF fz star eo
theorem Kx (a:ov):(qd a).length=15:=rfl
def zi (L:List ov):List It:=(L.map fun a=>vE a.c a.y).flatten
theorem YS (a:ov)(L:List ov):zi (a::L)=vE a.c a.y++zi L:=by simp[zi]
structure Ko (a:ov):Prop where
 T:a.T≤never
 d:a.c.d≤never
 n:a.n<9223372036854775808
 v0:a.y.v.1=none→a.c.v.length=0
theorem Ko.agw {a:ov}(h:Ko a)(hl:Fj a=true):PA a:=by
 unfold Fj at hl;simp only[oq,Bool.not_eq_true',Bool.or_eq_false_iff,decide_eq_false_iff_not] at hl;obtain⟨⟨h1,h2,h3,h4,h5,h6,h7,h8⟩,_⟩:=hl;exact⟨⟨by omega,by omega,by omega,by omega,h.d,h.v0⟩,h.T,h.n⟩
theorem aiH {o:Og}{w:World}(c:oy)(dN:c.s<18446744073709551616)(la:Option Addr)(lc:Nat)(L:List ov)(hL:∀a∈L,Ko a)(hs:Start o w [aF la (aK qd L),bB (zi L)]) :
  aj prog 4 [.agg (vC c).toArray, .slice la L.length lc].toArray w (Po o (.bool true) []):=by
 have hH:=hs.sh;refine aj.enter func4 rfl ntmps4 rfl (gh ?_);refine GX.cw (h:=fun z w hH=>gh ?_)
 by_cases Hy:(30:Int)<(L.length:Int)
 ·rw[show decide ((30:Int)<(L.length:Int))=true from bQ Hy];refine gh ?_;refine GX.aL (hc:=fun _ hs=>I8 hs) (h:=fun w hE hH=>gh ?_);exact⟨rfl,hH.to⟩
 have LH:L.length≤30:=by omega
 rw[show decide ((30:Int)<(L.length:Int))=false from bt Hy];refine gh ?_
 by_cases hc:xv c
 case neg=>
  refine GX.aL (hc:=fun _ hs=>aiy c hc hs) (h:=fun w hE hH=>gh ?_);refine GX.aL (hc:=fun _ hs=>Q4 c hc hs) (h:=fun w hE hH=>gh ?_);refine GX.aL (hc:=fun _ hs=>I8 hs) (h:=fun w hE hH=>gh ?_);exact⟨rfl,hH.to⟩
 refine GX.bS (hc:=fun _ hs=>WT c hc dN hs) (h:=?_);rintro r w _ hH;replace hH:=SH.ap hH;refine gh ?_;refine GX.bS (hc:=fun _ hs=>Q5 c hc dN hs) (h:=?_);rintro x w _ hH;replace hH:=SH.ap hH;refine gh ?_;refine GX.cw (h:=fun md w hH=>gh ?_);have aO:=SH.cE (el:=3) (sz:=1) (q:=none) (n:=0) (c:=0) (cs:=[]) hH (Mod.refl w) (fun _ h=>by cases h) (aG.nil _ _ _);replace hH:=qR (b:=md) (E:=jd c) (L:=[]) (X:=⟨x,none,0⟩) aO;clear aO;refine gh ?_;have L4:kS (jd c) 0 [] 0:=⟨cU.new c hc,⟨List.Pairwise.nil,fun _ h=>by cases h⟩,bj _,fun _ h=>by cases h⟩
 refine GC.bP [1,9] (fun y:Nat×PI=>[(5,ak y.2.r),(10,iV y.1)]) (fun y w'=>y.1≤L.length∧kS y.2.E y.2.up y.2.R (2*y.1)∧SH o w' [aF la (aK qd L),bB (zi (L.drop y.1)),gk y.2.r y.2.E y.2.up y.2.R,lp md y.2.E (dg y.2.up y.2.R)]) (fun y=>L.length - y.1) (0,⟨r,jd c,0,[]⟩) rfl rfl ⟨bh _,L4,hH.to⟩ ?_;rintro⟨i,⟨r1,E,up,R⟩⟩ w ⟨hi,hW,hH⟩;dsimp only at hi hW hH ⊢;refine gh ?_;refine ifs (fun h1=>?_) (fun h1=>?_)<;>refine gh ?_
 ·obtain⟨a,hx⟩:∃a,L[i]?=some a:=⟨_,bO ah⟩
  have hR:=hL a (bF hx);have zL:L.drop i=a::L.drop (i+1):=by rw[p7 ah];congr 1;exact(aV.1 hx).2
  rw[zL,YS] at hH;replace hH:=hH.oF (vE a.c a.y) (zi (L.drop (i+1))) (mC _) bL;replace hH:=SH.ap hH;have nQ:=hH.bR (x:=aF la (aK qd L)) (a:=la) (cs:=aK qd L) bL;obtain⟨qb,qo,rfl⟩:=DF nQ (by rw[gQ Kx];omega);refine gh ?_;refine GX.next rfl (GO.VA (j:=i*15) (hA:=nQ) (hv:=jj Kx hx) (h:=gh ?_));refine GX.aL (hc:=fun _ hs=>agx a hs) (h:=fun w hE hH=>gh ?_);cases aP:Fj a with
  |false=>
   refine gh ?_;refine GX.aL (hc:=fun _ hs=>I8 hs) (h:=fun w hE hH=>gh ?_);exact⟨rfl,hH.to⟩
  |true=>
   have nQ:=hH.bR (x:=aF (some ⟨qb,qo,none⟩) (aK qd L)) (a:=some ⟨qb,qo,none⟩) (cs:=aK qd L) bL;refine gh ?_;refine GX.next rfl (GO.VA (j:=i*15) (hA:=nQ) (hv:=jj Kx hx) (h:=gh ?_));refine GX.bS (hc:=fun _ hs=>step_ret (r:=r1) (md:=md) hW ah a (hR.agw aP) hs) (h:=?_);rintro⟨r2,E2,up2,R2⟩ w L5 hH;replace hH:=SH.ap hH;dsimp only at L5 hH ⊢;refine gh ?_;refine GX.bz (hc:=fun _ hs=>Zc (r:=r2) (md:=md) L5 ah hs) (h:=fun w hH=>gh ?_);refine GQ.br (i+1,⟨r2,E2,up2,R2⟩) rfl ⟨by dsimp only;omega,L5,hH.to⟩ (by dsimp only;omega)
 ·obtain rfl:i=L.length:=by omega
  refine gh ?_;refine GX.aL (hc:=fun _ hs=>I8 hs) (h:=fun w hE hH=>gh ?_);exact⟨rfl,hH.to⟩
end
end Go.Proofs.YtmlpbmgfmnmmmaaGreat.V.M
