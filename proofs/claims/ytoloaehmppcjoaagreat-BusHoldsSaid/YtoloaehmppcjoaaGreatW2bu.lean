/-
  Parts of the proof. No condition.
-/
import Derived.Test.YtoloaehmppcjoaaGreatW2bt
set_option linter.unusedVariables false
set_option linter.unusedSimpArgs false
set_option maxRecDepth 8000
set_option maxHeartbeats 8000000
open Go.Proofs.Tryz
namespace Go.Proofs.YtoloaehmppcjoaaGreat.V.M
section
structure dJ (E X:ao)(d e:Nat):Prop where
 ok:cm X
 len:gH X.r
 aD:X.r.aD=E.r.aD
 l9:X.r.K+X.s.E.length≤E.r.K+E.s.E.length
 aR:X.aR=E.aR
 al:X.a.last=E.a.last
 sK:X.s.K≤E.s.K+d
 gK:X.g.K≤E.g.K+e
 pK:X.p.T.K=E.p.T.K
theorem dJ.refl {E:ao}(h:cm E)(hl:gH E.r):dJ E E 0 0:=⟨h,hl,rfl,aY _,rfl,rfl,aY _,aY _,rfl⟩
theorem dJ.trans {E X Y:ao}{d e d' e':Nat}(h:dJ E X d e)(k:dJ X Y d' e'):dJ E Y (d+d') (e+e'):=
 ⟨k.ok,k.len,k.aD.trans h.aD,dF k.l9 h.l9,k.aR.trans h.aR,k.al.trans h.al,by have:=k.sK;have:=h.sK;omega,by have:=k.gK;have:=h.gK;omega,k.pK.trans h.pK⟩
theorem dJ.out {E:ao}(h:cm E)(hl:gH E.r)(l:List Bs):dJ E (E.out l) l.length 0:=by
 obtain⟨h1,h2,_⟩:=h.out l;obtain⟨f1,f2,f3⟩:=AA E l;obtain⟨g1,g2⟩:=OG hl l;exact⟨h1,g1,g2,OH E l,f1,f2,h2,by rw[OF];exact aY _,by rw[f3]⟩
theorem dJ.tick {E:ao}(h:cm E)(hl:gH E.r):dJ E E.tick 0 1:=⟨h.tick,hl,rfl,aY _,rfl,rfl,aY _,aY _,rfl⟩
theorem dJ.meet {E:ao}(h:cm E)(hl:gH E.r)(k:Bs):dJ E (E.meet k) 1 0:=by
 unfold ao.meet;split
 ·have:=dJ.refl h hl;exact⟨this.ok,this.len,rfl,aY _,rfl,rfl,pJ _,aY _,rfl⟩
 ·exact dJ.out h hl [k]
theorem dJ.XY {E:ao}(h:cm E)(hl:gH E.r){s:bw}(hK:s.K=E.s.K)(hE:s.E.length≤E.s.E.length):dJ E { E with s:=s} 0 0:=
 ⟨h.drop s,hl,rfl,Nat.add_le_add_left hE _,rfl,rfl,by show s.K≤_;omega,aY _,rfl⟩
theorem al0 (s:bw)(k:Bs):(s.vp k).E.length≤s.E.length:=by
 unfold bw.vp;split
 ·split
  ·rename_i e he
   have hk:e.k=k:=by have:=List.find?_some he;simpa using this
   show(dj s.E e.k++[e]).length≤_;rw[hk,bH,gW];exact OX he
  ·exact aY _
 ·exact aY _
theorem X0 (s:bw)(k:Bs)(t:Nat):(s.oH k t).E.length≤s.E.length∧(s.oH k t).K=s.K:=by
 unfold bw.oH;split
 ·split
  ·rename_i e he
   refine⟨?_,rfl⟩;show(dj s.E k++[_]).length≤_;rw[bH,gW];exact OX he
  ·exact⟨aY _,rfl⟩
 ·exact⟨aY _,rfl⟩
theorem dJ.mB {E:ao}(h:cm E)(hl:gH E.r)(k:Bs):dJ E (E.mB k) 1 0:=by
 have h1:=dJ.meet h hl k;exact h1.trans (dJ.XY h1.ok h1.len (Yq _ k) (al0 _ k))
theorem dJ.iJ {E:ao}(h:cm E)(hl:gH E.r)(l:List Bs):dJ E (E.iJ l).1 l.length 0:=by
 suffices hh:∀(l:List Bs) (y:ao×List mX),cm y.1→gH y.1.r→dJ y.1 (l.foldl (fun y k=>(y.1.mB k,y.2++[y.1.pU k])) y).1 l.length 0 from hh l (E,[]) h hl
 intro l
 induction l with
 |nil=>intro y hy hl;exact dJ.refl hy hl
 |cons k l ih=>
  intro y hy hl;have h1:=dJ.mB hy hl k;have h2:=h1.trans (ih (y.1.mB k,y.2++[y.1.pU k]) h1.ok h1.len);rw[ek,Nat.add_comm];exact h2
theorem dJ.del {E:ao}(h:cm E)(hl:gH E.r)(k:Bs):dJ E (E.del k) (2+(cO E.g.E k).length) 1:=by
 unfold ao.del;have h1:=dJ.meet h hl k;split
 ·have h2:=h1.trans (dJ.out h1.ok h1.len [k]);have h3:=h2.trans (dJ.tick h2.ok h2.len);exact h3.trans (dJ.out h3.ok h3.len (cO E.g.E k))
 ·exact⟨h1.ok,h1.len,h1.aD,h1.l9,h1.aR,h1.al,by have:=h1.sK;omega,by have:=h1.gK;omega,h1.pK⟩
theorem dJ.yw {E:ao}(h:cm E)(hl:gH E.r)(k:Bs):dJ E (E.yw k) (1+(cO E.g.E k).length) 1:=by
 unfold ao.yw;have h1:=dJ.tick h hl;have h2:=h1.trans (dJ.out h1.ok h1.len [k]);have h3:=h2.trans (dJ.out h2.ok h2.len (cO E.g.E k));exact⟨h3.ok,h3.len,h3.aD,h3.l9,h3.aR,h3.al,by have:=h3.sK;simp only[gW] at this;omega,by have:=h3.gK;omega,h3.pK⟩
theorem dJ.oH {E:ao}(h:cm E)(hl:gH E.r)(k:Bs)(d:Nat):dJ E (E.oH k d) 1 0:=by
 unfold ao.oH;have h1:=dJ.meet h hl k;split
 ·exact h1.trans (dJ.XY h1.ok h1.len (X0 _ k _).2 (X0 _ k _).1)
 ·exact h1
end
section
attribute [local irreducible] GX
section
variable {P:Program}{ops:Array Oper}{Q:Exit→Act→World→Prop}{S:World→Prop}{n:Nat}
variable {i:Nat}{p:b6}{e:Env}{w:World}{k:Kd}{dst:Option Tmp}{ty:TypeId}{pos:String}{an:Array Edge}{g:Option (Nat×Bool)}
theorem GO.ajD [Fr](hk:cC k=true){t el:TypeId}{len sz:Nat}{ag:Bool}[hu:bI P t (.array len el)][hf:aC P el ag sz]{x:Operand}{b o:Nat}(hw:aI ops e ⟨dst, .slice t x none none none,ty,pos,an,g⟩=some true)
  (hx:ev e x=some (.pointer (some ⟨b,o,none⟩))) (hd:fits n dst=true)
  (h:GX P ops Q S n p (e.put dst (.slice (some ⟨b,o,none⟩) len len)) w):GO P ops Q S n k i ⟨dst, .slice t x none none none,ty,pos,an,g⟩ p e w:=
 GO.val (fX hk) hw hd (fun a ha w=>by
  simp[execOp,bE ha hx,Instr.sliceAt,run_underlying hu.out,Instr.sureAddr,Instr.sliceBounds,hf.sizeOf,iY]) h
end
instance {b:Nat}{a0 a1 a2 a3 a4 a5 a6 a7 a8 a9 aa ab ac ad ae:Value}{r:List Value}:Rd (aB b (a0::a1::a2::a3::a4::a5::a6::a7::a8::a9::aa::ab::ac::ad::ae::r)) (some ⟨b,15,none⟩) r:=⟨fun w Z F ⟨h,e⟩=>⟨h.get rfl,fun _ y hy=>by cases hy;exact .inl (by rw[e])⟩⟩
attribute [local irreducible] GO
attribute [local irreducible] aB aq aS aF fz star eX
theorem abg {o:Og}{w:World}{b rb:Nat}{E:ao}(hG:cm E)(c:dd)(y:jX){r0 r1 r2 r3 r4 r5:Value}(hs:Start o w [cB b E,aB rb [r0,r1,r2,r3,r4,r5]]) :
  aj prog 121 [ak b, .agg (lp c y).toArray,ak rb].toArray w (aX o (fun _:Option Nat×Nat => .tuple #[]) (fun _=>True) (fun q=>[cB b E,aB rb [r0,r1,r2,r3,r4, .slice (aA q.1) 16 q.2],aq 38 1 q.1 16 q.2 (tT E.cP)])):=by
 have hH:=hs.sh;have hl:=hG.cP.1;obtain⟨X,hH⟩:=SH.un hH;replace hH:=SH.ap hH;dsimp only[fo] at hH;refine aj.enter func121 rfl ntmps121 rfl (gh ?_);refine GX.cI (h:=fun z w hH=>gh ?_);refine GX.next rfl (GO.ajD rfl rfl rfl rfl (gh ?_));refine GX.ef (hc:=fun _ hs=>QJ (a:=some ⟨b,15,none⟩) (n:=16) (c:=16) (cs:=E.cP.map fun n:Nat=>uV n) (by decide) (by simp[hl]) (fun h=>by cases h) (fun u hu=>by obtain⟨m,_,rfl⟩:=bG.1 hu;rfl) hs) (h:=?_);rintro⟨q,cc⟩ w _ hE hH;replace hH:=SH.ap hH;refine gh ?_;refine GX.dC (h:=fun w hH=>gh ?_);exact⟨(q,cc),rfl,trivial,(df (X:=X) (E:=E) hH).to⟩
end
section
attribute [local irreducible] GO GX aB eX fz aF aS aq star
theorem abb {o:Og}{w:World}{b:Nat}{E:ao}(hG:cm E)(op err:Int)(he:err≠0)(v2 v3 v4 v5:Value)(hs:Start o w [cB b E]) :
  aj prog 82 [ak b, .agg #[iV op,iV err,v2,v3,v4,v5]].toArray w (Po o (.tuple #[]) [cB b (E.raise 1 1)]):=by
 have hH:=hs.sh;refine aj.enter func82 rfl ntmps82 rfl (gh ?_);refine GX.cI (h:=fun z w hH=>gh ?_);rw[show decide (err≠0)=true from b8 he];refine gh ?_;refine GX.bF (hc:=fun _ hs=>lU hG 1 1 (by decide) (by decide) hs) (h:=fun w hH=>gh ?_);refine gh ?_;exact⟨rfl,hH.to⟩
def yE (m:Int):Nat:=if m=0 then 5 else if m=2 then 4 else if m=1 then 3 else 0
theorem Oc (m:Int):yE m<16:=by
 unfold yE
 (repeat' split)<;>decide
def ao.notes (E:ao)(l:List gI):ao:=l.foldl (fun E r=>E.raise (yE r.i.m) 1) E
theorem cm.notes {E:ao}(h:cm E)(l:List gI):cm (E.notes l):=by
 unfold ao.notes
 induction l generalizing E with
 |nil=>exact h
 |cons r l ih=>exact ih (h.raise _ 1 (Oc _))
theorem ao.ahq (E:ao){l:List gI}{i:Nat}{r:gI}(h:l[i]?=some r):E.notes (l.take (i+1))=(E.notes (l.take i)).raise (yE r.i.m) 1:=by
 unfold ao.notes;rw[gv,h,vC];rfl
theorem ag1 (m:Int):jA (fun n:Int=>iV n) (iV 0) false (ay (bC (bC (bC [] (1:Int) (3:Int)) 2 4) 0 5) m)=iV (yE m:Nat):=by
 rw[kU,kU,kU];unfold yE
 by_cases h0:m=0
 ·rw[if_pos h0,if_pos h0];rfl
 ·rw[if_neg h0,if_neg h0]
  by_cases h2:m=2
  ·rw[if_pos h2,if_pos h2];rfl
  ·rw[if_neg h2,if_neg h2]
   by_cases h1:m=1
   ·rw[if_pos h1,if_pos h1];rfl
   ·rw[if_neg h1,if_neg h1];rfl
def ao.Ax (E:ao)(op:Int)(n:Nat):ao:=
 if op=1∨op=2∨op=3 then(E.raise 6 1).raise 9 n else if op=6 then E.raise 7 n else if op=7 then E.raise 8 n else if op=13 then E.raise 9 n
 else if op=8∨op=9∨op=10 then E.raise (10+(op - 8).toNat) 1 else if op=14 then E.raise 13 1 else if op=11∨op=12 then E.raise (14+(op - 11).toNat) n else E
def ao.note (E:ao)(op:Int)(l:List gI)(n:Nat):ao:=((((E.raise 0 1).raise 2 l.length).notes l).Ax op n)
theorem vM {o:Og}{w:World}{b:Nat}{E:ao}(hG:cm E)(op:Int)(dA:1≤op∧op<16)(L:List gI)(q:Option Nat)(qc n:Nat)(hL:L.length<2^30)(hn:n<2^62)(v3 v5:Value)(hs:Start o w [cB b E,aq 64 4 q L.length qc (aL py L)]) :
  aj prog 82 [ak b, .agg #[iV op,iV 0, .slice (aA q) L.length qc,v3,iV n,v5]].toArray w (Po o (.tuple #[]) [cB b (E.note op L n),aq 64 4 q L.length qc (aL py L)]):=by
 have hH:=hs.sh;refine aj.enter func82 rfl ntmps82 rfl (gh ?_);refine GX.cI (h:=fun z w hH=>gh ?_);refine GX.bF (hc:=fun _ hs=>lU hG 0 1 (by decide) (by decide) hs) (h:=fun w hH=>gh ?_);have h1:=hG.raise 0 1 (by decide);refine gh ?_;refine GX.bF (hc:=fun _ hs=>lU h1 2 L.length (by decide) ah hs) (h:=fun w hH=>gh ?_);have h2:=h1.raise 2 L.length (by decide);unfold ao.note;generalize (E.raise 0 1).raise 2 L.length=E2 at hH h2 ⊢;refine gh ?_;refine GC.bR [0,3,19,20] (fun i:Nat=>[(21,iV i)]) (fun i w'=>i≤L.length∧SH o w' [cB b (E2.notes (L.take i)),aq 64 4 q L.length qc (aL py L),aB z [iV op,iV 0, .slice (aA q) L.length qc,v3,iV n,v5]]) (fun i=>L.length - i) 0 rfl rfl ⟨bh _,hH.to⟩ ?_;rintro i w ⟨hi,hH⟩;have aU:=h2.notes (L.take i);have gC:=fun r=>@ao.ahq E2 L i r
 generalize iK:E2.notes (L.take i)=E3 at hH aU gC;refine gh ?_;refine ifs (fun hb=>?_) (fun hb=>?_)<;>refine gh ?_
 ·obtain⟨r,hr⟩:∃r,L[i]?=some r:=⟨_,bO ah⟩
  have E5:=gC r hr;obtain⟨qb,rfl⟩:=hH.pos (el:=64) (sz:=4) (q:=q) (n:=L.length);refine gh ?_;refine GX.next rfl (GO.kg (hv:=ku aiN hr) (h:=gh ?_));refine GX.cA (h:=fun f w hH=>gh ?_);refine GX.bt (h:=fun w hH=>gh ?_);refine GX.yD (fun n:Int=>iV n) (fun n:Int=>iV n) (h:=fun m w hH=>gh ?_);refine GX.Fx (v:=(3:Int)) (h:=fun w hH=>gh ?_);refine GX.Fx (v:=(4:Int)) (h:=fun w hH=>gh ?_);refine GX.Fx (v:=(5:Int)) (h:=fun w hH=>gh ?_);refine GX.mN (hV:=ag1 r.i.m) (h:=gh ?_);refine GX.bF (hc:=fun _ hs=>lU aU (yE r.i.m) 1 (Oc _) (by decide) hs) (h:=fun w hH=>gh ?_);refine gh ?_;refine GQ.bj (i+1) rfl ⟨by omega,?_⟩ ah;rw[E5];exact hH.to
 ·obtain rfl:i=L.length:=by omega
  rw[fw (aY _)] at iK;rw[iK];clear iK gC;have hc:op=1∨op=2∨op=3∨op=4∨op=5∨op=6∨op=7∨op=8∨op=9∨op=10∨op=11∨op=12∨op=13∨op=14∨op=15:=by omega
  rcases hc with rfl|rfl|rfl|rfl|rfl|rfl|rfl|rfl|rfl|rfl|rfl|rfl|rfl|rfl|rfl
  case' inl=>
   refine gh ?_;refine GX.bF (hc:=fun _ hs=>lU aU 6 1 (by decide) (by decide) hs) (h:=fun w hH=>gh ?_);refine gh ?_;refine GX.bF (hc:=fun _ hs=>lU (aU.raise 6 1 (by decide)) 9 n (by decide) hn hs) (h:=fun w hH=>gh ?_);refine gh ?_
  case' inr.inl=>
   refine gh ?_;refine GX.bF (hc:=fun _ hs=>lU aU 6 1 (by decide) (by decide) hs) (h:=fun w hH=>gh ?_);refine gh ?_;refine GX.bF (hc:=fun _ hs=>lU (aU.raise 6 1 (by decide)) 9 n (by decide) hn hs) (h:=fun w hH=>gh ?_);refine gh ?_
  case' inr.inr.inl=>
   refine gh ?_;refine GX.bF (hc:=fun _ hs=>lU aU 6 1 (by decide) (by decide) hs) (h:=fun w hH=>gh ?_);refine gh ?_;refine GX.bF (hc:=fun _ hs=>lU (aU.raise 6 1 (by decide)) 9 n (by decide) hn hs) (h:=fun w hH=>gh ?_);refine gh ?_
  all_goals first|exact⟨rfl,hH.to⟩|skip
  all_goals first|(refine gh ?_;exact⟨rfl,hH.to⟩)|skip
  ·refine gh ?_;refine GX.bF (hc:=fun _ hs=>lU aU 7 n (by decide) hn hs) (h:=fun w hH=>gh ?_);refine gh ?_;exact⟨rfl,hH.to⟩
  ·refine gh ?_;refine GX.bF (hc:=fun _ hs=>lU aU 8 n (by decide) hn hs) (h:=fun w hH=>gh ?_);refine gh ?_;exact⟨rfl,hH.to⟩
  ·refine gh ?_;refine GX.bF (hc:=fun _ hs=>lU aU 10 1 (by decide) (by decide) hs) (h:=fun w hH=>gh ?_);refine gh ?_;exact⟨rfl,hH.to⟩
  ·refine gh ?_;refine GX.bF (hc:=fun _ hs=>lU aU 11 1 (by decide) (by decide) hs) (h:=fun w hH=>gh ?_);refine gh ?_;exact⟨rfl,hH.to⟩
  ·refine gh ?_;refine GX.bF (hc:=fun _ hs=>lU aU 12 1 (by decide) (by decide) hs) (h:=fun w hH=>gh ?_);refine gh ?_;exact⟨rfl,hH.to⟩
  ·refine gh ?_;refine GX.bF (hc:=fun _ hs=>lU aU 14 n (by decide) hn hs) (h:=fun w hH=>gh ?_);refine gh ?_;exact⟨rfl,hH.to⟩
  ·refine gh ?_;refine GX.bF (hc:=fun _ hs=>lU aU 15 n (by decide) hn hs) (h:=fun w hH=>gh ?_);refine gh ?_;exact⟨rfl,hH.to⟩
  ·refine gh ?_;refine GX.bF (hc:=fun _ hs=>lU aU 9 n (by decide) hn hs) (h:=fun w hH=>gh ?_);refine gh ?_;exact⟨rfl,hH.to⟩
  ·refine gh ?_;refine GX.bF (hc:=fun _ hs=>lU aU 13 1 (by decide) (by decide) hs) (h:=fun w hH=>gh ?_);refine gh ?_;exact⟨rfl,hH.to⟩
end
section
theorem aik (E:ao)(op:Int)(tag:Bs):(E.ij op tag).last=E.a.last+1:=by
 unfold ao.ij;split
 ·rfl
 ·split<;>rfl
theorem de.kW {E:ao}{n:Nat}(h:de E n)(hn:n<8000)(op:Int)(tag:Bs):de (E.kW op tag) (n+1):=by
 have hu:=h.up (pJ n);have hl:=aik E op tag;have ha:=h.al;have hp:=h.ok.sG;refine⟨⟨h.ok.pz,h.ok.rr,?_,?_,h.ok.cP,h.ok.now,h.ok.aR⟩,h.len,h.aD,h.l9,hu.aR,?_,hu.sK,hu.gK,hu.pK⟩
 ·show E.p.last≤(E.ij op tag).last;omega
 ·show(E.ij op tag).last<2^30;omega
 ·show(E.ij op tag).last≤n+1;omega
theorem de.oB {E:ao}{n:Nat}(h:de E n)(hn:n<8000)(op:Int)(pre:Bs):de (E.oB op pre) (n+1):=by
 have hu:=h.up (pJ n);have ha:=h.al;have hk:=h.pK;refine⟨⟨h.ok.pz,h.ok.rr,?_,?_,h.ok.cP,h.ok.now,h.ok.aR⟩,h.len,h.aD,h.l9,hu.aR,?_,hu.sK,hu.gK,?_⟩
 ·show(if op=14 then E.p.flush (E.a.last+1) else E.p.oA pre (E.a.last+1)).last≤E.a.last+1;split<;>exact aY _
 ·show E.a.last+1<2^30;omega
 ·show E.a.last+1≤n+1;omega
 ·show(if op=14 then E.p.flush (E.a.last+1) else E.p.oA pre (E.a.last+1)).T.K≤n+1;split
  ·show E.p.T.K≤n+1;omega
  ·show E.p.T.K+1≤n+1;omega
theorem cm.uq {E:ao}(h:cm E)(op:Int)(p c:Bs):cm (E.uq op p c):=⟨h.pz,h.rr,h.sG,h.nQ,h.cP,h.now,h.aR⟩
theorem de.uq {E:ao}{n:Nat}(h:de E n)(op:Int)(p c:Bs):de (E.uq op p c) (n+1):=by
 have hu:=h.up (pJ n);refine⟨h.ok.uq op p c,h.len,h.aD,h.l9,hu.aR,hu.al,hu.sK,?_,hu.pK⟩;have:=h.gK;show(if op=11 then E.g.add p c else E.g.del p c).K≤4*(n+1);split
 ·show E.g.K+1≤_;omega
 ·show E.g.K≤_;omega
theorem de.FW {E X:ao}{n d e:Nat}(h:de E n)(k:dJ E X d e)(hd:d≤4194304)(he:e≤4):de X (n+1):=by
 have hu:=h.up (pJ n);have h1:=h.sK;have h2:=h.gK;have h3:=k.sK;have h4:=k.gK;exact⟨k.ok,k.len,by rw[k.aD];exact h.aD,by rw[k.aR];exact dF k.l9 h.l9,by rw[k.aR];exact hu.aR,by rw[k.al];exact hu.al,by omega,by omega,by rw[k.pK];exact hu.pK⟩
theorem de.notes {E:ao}{n:Nat}(h:de E n)(l:List gI):de (E.notes l) n:=by
 unfold ao.notes
 induction l generalizing E with
 |nil=>exact h
 |cons r l ih=>exact ih (h.raise _ 1 (Oc _))
theorem de.Ax {E:ao}{n:Nat}(h:de E n)(op:Int)(m:Nat):de (E.Ax op m) n:=by
 unfold ao.Ax;split
 ·exact(h.raise 6 1 (by decide)).raise 9 m (by decide)
 ·split
  ·exact h.raise 7 m (by decide)
  ·split
   ·exact h.raise 8 m (by decide)
   ·split
    ·exact h.raise 9 m (by decide)
    ·split
     ·exact h.raise _ 1 ah
     ·split
      ·exact h.raise 13 1 (by decide)
      ·split
       ·exact h.raise _ m ah
       ·exact h
theorem de.note {E:ao}{n:Nat}(h:de E n)(op:Int)(l:List gI)(m:Nat):de (E.note op l m) n:=
 (((h.raise 0 1 (by decide)).raise 2 l.length (by decide)).notes l).Ax op m
theorem ajj (R:gY)(id:Nat)(t:List Bs):(ji R id t).2.2.K=R.K+1:=by
 unfold ji;split<;>rfl
theorem de.write {E:ao}{n:Nat}(h:de E n)(hn:n<7000)(c:dd)(hb:(cO E.g.E c.k).length≤65537):de (E.write c) (n+1):=by
 have I9:=h.aR;have aU:=h.ok.write h.len h.aD ah c;have s1:=dJ.tick h.ok h.len;have s2:=s1.trans (dJ.out s1.ok s1.len (cO E.g.E c.k));have s3:=s2.trans (dJ.out s2.ok s2.len [c.k]);have cK:E.pre c={ (E.tick.out (cO E.g.E c.k)).out [c.k] with aR:=E.aR+1}:=rfl;generalize (E.tick.out (cO E.g.E c.k)).out [c.k]=E3 at s3 cK;have pE:(E.pre c).s=E3.s∧(E.pre c).r=E3.r∧(E.pre c).aR=E.aR+1∧(E.pre c).a=E3.a∧(E.pre c).g=E3.g∧(E.pre c).p=E3.p:=by rw[cK];exact⟨rfl,rfl,rfl,rfl,rfl,rfl⟩
 have hp:cm (E.pre c):=by
  rw[cK];have h3:=s3.ok.rr;rw[s3.aR] at h3;exact⟨s3.ok.pz,ua h3,s3.ok.sG,s3.ok.nQ,s3.ok.cP,s3.ok.now,by show E.aR+1<_;omega⟩
 obtain⟨e1,e2,e3,e4,e5,e6⟩:=pE;unfold ao.write at aU ⊢;generalize (E.pre c).vb c=ne at aU ⊢;have h5:=(hp.drop ((E.pre c).s.put ne).1).ft ((E.pre c).s.put ne).2;have l5:=N0 (E:={ E.pre c with s:=((E.pre c).s.put ne).1}) (by rw[e2];exact s3.len) ((E.pre c).s.put ne).2;have he:(E.pre c).put ne=ao.ft { E.pre c with s:=((E.pre c).s.put ne).1} ((E.pre c).s.put ne).2:=rfl;rw[←he] at h5 l5;have jy:=WM (E.pre c).s ne;have B0:((E.pre c).s.put ne).1.K≤(E.pre c).s.K+1+(E.pre c).s.E.length:=by
  unfold bw.put;split
  ·exact aY _
  ·dsimp only;omega
 generalize (E.pre c).put ne=E6 at h5 l5 aU ⊢;obtain⟨g1,g2,g3,g4,g5,g6,g7,g8⟩:=h5;dsimp only at g2 g3 g4 g5 g6 g7;rw[e1] at jy B0 g2 g3;rw[e2] at g3;have q:=l5.1.add E6.aR (bY c.t).1;have hK:=ajj E6.r E6.aR (bY c.t).1;have Tu:=h.l9;have uP:=h.sK;have BF:=h.gK;have cj:=h.al;have amS:=h.pK;have t1:=s3.l9;have t2:=s3.sK;have t3:=s3.gK;simp only[gW] at t2;have hs6:E6.s.E.length=(E3.s.put ne).1.E.length:=by rw[g2]
 have hs7:E6.s.K=(E3.s.put ne).1.K:=by rw[g2]
 refine⟨aU,q.1,?_,?_,?_,?_,?_,?_,?_⟩
 ·show(ji E6.r E6.aR (bY c.t).1).2.2.aD≤65536;rw[q.2,l5.2];show(E.pre c).r.aD≤_;rw[e2,s3.aD];exact h.aD
 ·show(ji E6.r E6.aR (bY c.t).1).2.2.K+E6.s.E.length≤2*E6.aR;rw[hK,g4,e3,hs6];omega
 ·show E6.aR≤n+1;rw[g4,e3];omega
 ·show E6.a.last≤n+1;rw[g5,e4,s3.al];omega
 ·show E6.s.K≤(n+1)*4194304;rw[hs7];omega
 ·show E6.g.K≤4*(n+1);rw[g6,e5];omega
 ·show E6.p.T.K≤n+1;rw[g7,e6,s3.pK];omega
end
section
attribute [local irreducible] GX
section
variable {P:Program}{ops:Array Oper}{Q:Exit→Act→World→Prop}{S:World→Prop}{n:Nat}
variable {i:Nat}{p:b6}{e:Env}{w:World}{k:Kd}{dst:Option Tmp}{ty:TypeId}{pos:String}{an:Array Edge}{g:Option (Nat×Bool)}
theorem GO.KP [Fr](hk:cC k=true){t t2:TypeId}{x y:Operand}{ki:IntKind}{a b c:Int}(hw:aI ops e ⟨dst, .binOp .and t x y t2,ty,pos,an,g⟩=some true)(hx:ev e x=some (.int ki a))(hy:ev e y=some (.int ki b))(hd:fits n dst=true)
  (hr:∀w,(Op.intBits .and ki a b).run P w = .ok (.int ki c) w) (h:GX P ops Q S n p (e.put dst (.int ki c)) w):GO P ops Q S n k i ⟨dst, .binOp .and t x y t2,ty,pos,an,g⟩ p e w:=
 GO.bin hk hw hx hy hd (ru _ _ _ _ _ _ _) (fun w=>by simp[binOp,hr]) h
end
attribute [local irreducible] GO
attribute [local irreducible] aB aq aS aF fz star eX
theorem aid (k:Bs)(w:World):aj prog 188 [str k].toArray w fun v w'=>v = .bool (!bf k)∧w'=w:=by
 refine aj.enter func188 rfl ntmps188 rfl (gh ?_);refine GX.da (sr k _) rfl rfl rfl rfl rfl rfl (gh ?_);exact⟨rfl,rfl⟩
theorem aic {o:Og}{w:World}{z:Nat}(nd pt c:Int)(hc:∀w,(Op.intBits .and .u8 nd pt).run prog w = .ok (.int .u8 c) w)(hs:Start o w [fz (aB z [.int .u8 nd])]):aj prog 186 [.int .u8 pt,ak z].toArray w (Po o (.bool (decide (c≠0))) []):=by
 have hH:=hs.sh;refine aj.enter func186 rfl ntmps186 rfl (gh ?_);refine GX.next rfl (GO.KP rfl rfl rfl rfl rfl hc (gh ?_));exact⟨rfl,hH.to⟩
end
section
attribute [local irreducible] GO GX aB eX fz aF aS aq star
variable {o:Og}{w:World}
theorem afh {a:Option Addr}{c:Nat}(l:List Bs)(hl:l.length<2^30)(hs:Start o w [aF a (aK l)]):aj prog 269 [.slice a l.length c, .func (.func 188) #[] #[]].toArray w (aX o (fun y:Int=>iV y) (fun y=>decide (0≤y)=l.any fun k=>!bf k) (fun _=>[])):=by
 have hH:=hs.sh;refine aj.enter func269 rfl ntmps269 rfl (gh ?_);refine GC.bR [0,1,7] (fun y:Nat=>[(8,iV y)]) (fun y w'=>y≤l.length∧(l.take y).any (fun k=>!bf k)=false∧SH o w' [aF a (aK l)]) (fun y=>l.length - y) 0 rfl rfl ⟨bh _,by simp,hH.to⟩ ?_;rintro j w ⟨hj,bz,hH⟩;refine gh ?_;refine ifs (fun h1=>?_) (fun h1=>?_)<;>refine gh ?_
 ·obtain⟨k,hk⟩:∃k,l[j]?=some k:=⟨_,bO ah⟩
  have ib:=hH.bL (x:=aF a (aK l)) (a:=a) (cs:=aK l) bP;obtain⟨qb,qo,rfl⟩:=Bq ib (by rw[aK,fH];omega);refine gh ?_;refine GX.next rfl (GO.Cn (hA:=ib) (hv:=show(aK l)[j]?=some (str k) by simp[aK,hk]) (h:=gh ?_));refine GX.da (aid k _) rfl rfl rfl rfl rfl rfl (gh ?_);cases hb:bf k with
  |false=>
   refine gh ?_;refine⟨(j:Int),rfl,?_,hH.to⟩;show decide ((0:Int)≤(j:Int))=_;rw[b8 ah];exact(vD.2 ⟨k,bD hk,by rw[hb];rfl⟩).symm
  |true=>
   refine gh ?_;refine GQ.bj (j+1) rfl ⟨by omega,?_,hH⟩ ah;rw[gv,hk,List.any_append,bz];simp[hb]
 ·obtain rfl:j=l.length:=by omega
  rw[kD] at bz;refine gh ?_;exact⟨-1,rfl,by rw[bz];rfl,hH.to⟩
theorem aeY {a:Option Addr}{c:Nat}(l:List Bs)(hl:l.length<2^30)(hs:Start o w [aF a (aK l)]):aj prog 187 [.slice a l.length c, .func (.func 188) #[] #[]].toArray w (Po o (.bool (l.any fun k=>!bf k)) []):=by
 have hH:=hs.sh;refine aj.enter func187 rfl ntmps187 rfl (gh ?_);refine GX.ef (hc:=fun _ hs=>afh (a:=a) (c:=c) l hl hs) (h:=?_);rintro y w hy hE hH;replace hH:=SH.ap hH;refine gh ?_;rw[←hy];exact⟨rfl,hH.to⟩
def yF:List Int:=[13,1,64,5,144,160,3,128,0]
def OR:List Int:=[1,2,4,8,16,32,64,128]
def zi (nd pt:Int):Int:=((nd.toNat &&& pt.toNat:Nat):Int)
def hasB (nd pt:Int):Bool:=decide (zi nd pt≠0)
theorem KQ {nd pt:Int}(hn:nd∈yF)(hp:pt∈OR)(w:World):(Op.intBits .and .u8 nd pt).run prog w = .ok (.int .u8 (zi nd pt)) w:=by
 simp only[yF,bU,uc,or_false] at hn;simp only[OR,bU,uc,or_false] at hp
 rcases hn with rfl|rfl|rfl|rfl|rfl|rfl|rfl|rfl|rfl<;>rcases hp with rfl|rfl|rfl|rfl|rfl|rfl|rfl|rfl<;>rfl
theorem lW {z:Nat}{nd:Int}(hn:nd∈yF)(pt:Int)(hp:pt∈OR)(hs:Start o w [fz (aB z [.int .u8 nd])]):aj prog 186 [.int .u8 pt,ak z].toArray w (Po o (.bool (hasB nd pt)) []):=aic nd pt (zi nd pt) (KQ hn hp) hs
def iB (cb:Nat)(nd:Int)(c:dd):Int:=
 if(hasB nd 1&&!bf c.k)=true then 2 else if(hasB nd 2&&!bf c.ch)=true then 2 else if(hasB nd 4&&decide ((c.d:Int)=0))=true then 2
 else if(hasB nd 16&&!eV c.tag)=true then 2 else if(hasB nd 32&&!decide (c.pre.length≤250))=true then 2
 else if(hasB nd 64&&(!decide (1≤(c.ks.length:Int)∧(c.ks.length:Int)≤16)||c.ks.any fun k=>!bf k))=true then 2
 else if(hasB nd 8&&(decide ((bY c.t).2≠0)&&decide ((bY c.t).2≠5)))=true then 2
 else if(hasB nd 8&&(decide ((bY c.t).2≠0)||decide (65536<c.v.length)))=true then 5
 else if(hasB nd 8&&decide (cb<c.k.length+c.v.length+64+kZ (bY c.t).1))=true then 12 else 0
theorem alA (l:List Bs):(bY l).2=0∨(bY l).2=2∨(bY l).2=5:=by
 unfold bY
 (repeat' split)<;>simp
theorem aaD {k:Bs}{m:Nat}{l:List Bs}(h1:bf k=true)(h2:bY l=(l,0))(h3:m≤65536):mA k m l=(((k.length+m+64+kZ l:Nat):Int),0):=by
 unfold mA;rw[if_pos ⟨h1,by rw[h2],by rw[h2]⟩,if_neg ah]
theorem abd {b:Nat}{E:ao}{nd:Int}(hn:nd∈yF)(c:dd)(y:jX)(oh:c.k.length<2^40)(kT:c.v.length<2^40)(re:c.t.length<2^40)(fy:c.ks.length<2^30)(hs:Start o w [cB b E,aF y.k.1 (aK c.ks),aF y.t.1 (aK c.t)]) :
  aj prog 122 [ak b, .agg (lp c y).toArray, .int .u8 nd].toArray w (Po o (iV (iB E.cb nd c)) [cB b E]):=by
 have hH:=hs.sh;have o8:=hn;simp only[yF,bU,uc,or_false] at o8;obtain⟨X,hH⟩:=SH.un hH;replace hH:=SH.ap hH;dsimp only[fo] at hH;refine aj.enter func122 rfl ntmps122 rfl (gh ?_);refine GX.cI (h:=fun z w hH=>gh ?_);refine GX.cI (h:=fun f w hH=>gh ?_);refine GX.ef (hc:=fun _ hs=>Gf (a:=y.t.1) c.t rfl re hs) (h:=?_);rintro⟨qt,c9⟩ w _ hE hH;replace hH:=SH.ap hH;dsimp only[mw] at hH;have tE:=AU c.t;have xY:=Pp c.t;generalize hp:iB E.cb nd c=p;unfold iB at hp;generalize (bY c.t).1=tg at hp hH xY tE ⊢;have yj:=alA c.t;generalize (bY c.t).2=te at hp hH yj ⊢;refine gh ?_
 rcases o8 with rfl|rfl|rfl|rfl|rfl|rfl|rfl|rfl|rfl
 ·refine GX.aM (hc:=fun _ hs=>lW hn 1 (by decide) hs) (h:=fun w hE hH=>gh ?_);refine GX.da (sr c.k _) rfl rfl rfl rfl rfl rfl (gh ?_);cases hk:bf c.k<;>rw[hk] at hp<;>refine gh ?_
  ·exact⟨congrArg (fun v:Int=>iV v) hp,(df (X:=X) (E:=E) hH).to⟩
  refine GX.aM (hc:=fun _ hs=>lW hn 2 (by decide) hs) (h:=fun w hE hH=>gh ?_);refine GX.aM (hc:=fun _ hs=>lW hn 4 (by decide) hs) (h:=fun w hE hH=>gh ?_);cases hd:decide ((c.d:Int)=0)<;>rw[hd] at hp<;>refine gh ?_
  case' true=>exact⟨congrArg (fun v:Int=>iV v) hp,(df (X:=X) (E:=E) hH).to⟩
  refine GX.aM (hc:=fun _ hs=>lW hn 16 (by decide) hs) (h:=fun w hE hH=>gh ?_);refine GX.aM (hc:=fun _ hs=>lW hn 32 (by decide) hs) (h:=fun w hE hH=>gh ?_);refine GX.aM (hc:=fun _ hs=>lW hn 64 (by decide) hs) (h:=fun w hE hH=>gh ?_);refine GX.aM (hc:=fun _ hs=>lW hn 8 (by decide) hs) (h:=fun w hE hH=>gh ?_)
  rcases yj with rfl|rfl|rfl
  ·refine gh ?_;refine GX.aM (hc:=fun _ hs=>lW hn 8 (by decide) hs) (h:=fun w hE hH=>gh ?_);refine ifs (fun hv=>?_) (fun hv=>?_)<;>refine gh ?_
   ·rw[show decide (65536<c.v.length)=true from b8 ah] at hp;exact⟨congrArg (fun v:Int=>iV v) hp,(df (X:=X) (E:=E) hH).to⟩
   rw[show decide (65536<c.v.length)=false from bQ ah] at hp;refine GX.aM (hc:=fun _ hs=>lW hn 8 (by decide) hs) (h:=fun w hE hH=>gh ?_);replace hH:=SH.freeze (el:=9) (sz:=1) (q:=qt) (n:=tg.length) (c:=c9) (cs:=aK tg) hH bP;refine GX.aM (hc:=fun _ hs=>by have:=QT (a:=aA qt) (n:=tg.length) (c:=c9) (m:=c.v.length) (mc:=y.v.2) (va:=y.v.1) c.k tg ah ah rfl ah hs;rw[aaD hk xY ah] at this;exact this) (h:=fun w hE hH=>gh ?_);refine gh ?_;cases hb:decide (E.cb<c.k.length+c.v.length+64+kZ tg) with
   |true=>
    rw[hb] at hp;rw[show decide ((E.cb:Int)<((c.k.length+c.v.length+64+kZ tg:Nat):Int))=true from b8 (by have:=dM hb;omega)];refine gh ?_;exact⟨congrArg (fun v:Int=>iV v) hp,(df (X:=X) (E:=E) hH).to⟩
   |false=>
    rw[hb] at hp;rw[show decide ((E.cb:Int)<((c.k.length+c.v.length+64+kZ tg:Nat):Int))=false from bQ (by have:=xy hb;omega)];refine gh ?_;exact⟨congrArg (fun v:Int=>iV v) hp,(df (X:=X) (E:=E) hH).to⟩
  ·refine gh ?_;exact⟨congrArg (fun v:Int=>iV v) hp,(df (X:=X) (E:=E) hH).to⟩
  ·refine gh ?_;refine GX.aM (hc:=fun _ hs=>lW hn 8 (by decide) hs) (h:=fun w hE hH=>gh ?_);refine gh ?_;exact⟨congrArg (fun v:Int=>iV v) hp,(df (X:=X) (E:=E) hH).to⟩
 all_goals refine GX.aM (hc:=fun _ hs=>lW hn 1 (by decide) hs) (h:=fun w hE hH=>gh ?_)
 all_goals first|(refine GX.da (sr c.k _) rfl rfl rfl rfl rfl rfl (gh ?_);cases hk:bf c.k<;>rw[hk] at hp<;>refine gh ?_)|skip
 all_goals first|(refine⟨?_,(df (X:=X) (E:=E) hH).to⟩;exact congrArg (fun v:Int=>iV v) hp)|skip
 all_goals refine GX.aM (hc:=fun _ hs=>lW hn 2 (by decide) hs) (h:=fun w hE hH=>gh ?_)
 all_goals first|(refine GX.da (sr c.ch _) rfl rfl rfl rfl rfl rfl (gh ?_);cases je:bf c.ch<;>rw[je] at hp<;>refine gh ?_)|skip
 all_goals first|(refine⟨?_,(df (X:=X) (E:=E) hH).to⟩;exact congrArg (fun v:Int=>iV v) hp)|skip
 all_goals refine GX.aM (hc:=fun _ hs=>lW hn 4 (by decide) hs) (h:=fun w hE hH=>gh ?_)
 all_goals first|(cases hd:decide ((c.d:Int)=0)<;>rw[hd] at hp<;>refine gh ?_)|skip
 all_goals first|(refine⟨?_,(df (X:=X) (E:=E) hH).to⟩;exact congrArg (fun v:Int=>iV v) hp)|skip
 all_goals refine GX.aM (hc:=fun _ hs=>lW hn 16 (by decide) hs) (h:=fun w hE hH=>gh ?_)
 all_goals first|(refine GX.da (Jg c.tag _) rfl rfl rfl rfl rfl rfl (gh ?_);cases rU:eV c.tag<;>rw[rU] at hp<;>refine gh ?_)|skip
 all_goals first|(refine⟨?_,(df (X:=X) (E:=E) hH).to⟩;exact congrArg (fun v:Int=>iV v) hp)|skip
 all_goals refine GX.aM (hc:=fun _ hs=>lW hn 32 (by decide) hs) (h:=fun w hE hH=>gh ?_)
 all_goals first|(refine GX.da (Fq c.pre _) rfl rfl rfl rfl rfl rfl (gh ?_);cases uD:decide (c.pre.length≤250)<;>rw[uD] at hp<;>refine gh ?_)|skip
 all_goals first|(refine⟨?_,(df (X:=X) (E:=E) hH).to⟩;exact congrArg (fun v:Int=>iV v) hp)|skip
 all_goals refine GX.aM (hc:=fun _ hs=>lW hn 64 (by decide) hs) (h:=fun w hE hH=>gh ?_)
 all_goals first|(refine GX.da (Bo c.ks.length 16 _) rfl rfl rfl rfl rfl rfl (gh ?_);cases hk5:decide (1≤(c.ks.length:Int)∧(c.ks.length:Int)≤16)<;>rw[hk5] at hp<;>refine gh ?_)|skip
 all_goals first|(refine⟨?_,(df (X:=X) (E:=E) hH).to⟩;exact congrArg (fun v:Int=>iV v) hp)|skip
 all_goals first|(refine GX.aM (hc:=fun _ hs=>aeY (a:=y.k.1) c.ks fy hs) (h:=fun w hE hH=>gh ?_);cases MI:(c.ks.any fun k=>!bf k)<;>rw[MI] at hp<;>refine gh ?_)|skip
 all_goals first|(refine⟨?_,(df (X:=X) (E:=E) hH).to⟩;exact congrArg (fun v:Int=>iV v) hp)|skip
 all_goals refine GX.aM (hc:=fun _ hs=>lW hn 8 (by decide) hs) (h:=fun w hE hH=>gh ?_)
 all_goals refine GX.aM (hc:=fun _ hs=>lW hn 8 (by decide) hs) (h:=fun w hE hH=>gh ?_)
 all_goals refine GX.aM (hc:=fun _ hs=>lW hn 8 (by decide) hs) (h:=fun w hE hH=>gh ?_)
 all_goals exact⟨congrArg (fun v:Int=>iV v) hp,(df (X:=X) (E:=E) hH).to⟩
noncomputable def ao.dW (E:ao)(t:Nat)(nd:Int)(c:dd):Int:=
 if iB E.cb nd c≠0 then iB E.cb nd c else if hasB nd 8=true then E.Gh (max E.now t) c else if c.op=11 then E.g.pP c.k c.ch else 0
theorem Q8 {b:Nat}{E:ao}(hG:cm E)(t:Nat){nd:Int}(hn:nd∈yF)(c:dd)(y:jX)(oh:c.k.length<2^40)(kT:c.v.length<2^40)(re:c.t.length<2^40)(fy:c.ks.length<2^30)(BF:E.g.K<2^39)(hs:Start o w [cB b E,aF y.k.1 (aK c.ks),aF y.t.1 (aK c.t)]) :
  aj prog 77 [ak b,uV t, .agg (lp c y).toArray, .int .u8 nd].toArray w (Po o (iV (E.dW t nd c)) [cB b E]):=by
 have hH:=hs.sh;replace hH:=SH.DA (a:=y.t.1) (cs:=aK c.t) hH bP;have cj:=hG.nQ;refine aj.enter func77 rfl ntmps77 rfl (gh ?_);refine GX.cI (h:=fun z w hH=>gh ?_);refine GX.bF (hc:=fun _ hs=>abd hn c y oh kT re fy hs) (h:=fun w hH=>gh ?_);unfold ao.dW;generalize iB E.cb nd c=p
 by_cases hp:p=0
 ·subst hp;rw[if_neg (by simp)];refine gh ?_;refine GX.next rfl (GO.KP rfl rfl rfl rfl rfl (KQ hn (by decide)) (gh ?_));cases h8:hasB nd 8 with
  |true=>
   rw[show decide (zi nd 8≠0)=true from h8,if_pos rfl];refine gh ?_;obtain⟨X,hH⟩:=SH.un hH;replace hH:=SH.ap hH;dsimp only[fo] at hH;refine GC.br (pl:=(bg [0,3,6,9,15,22,14,20,26,27])) (T:=dt [z]) (hm:=mixed) (h:=fun w hE hH=>gh ?_);refine GX.pS (hc:=DC E.now t _) (h:=gh ?_);replace hH:=df (X:=X) (E:=E) hH;refine GX.mZ (hc:=fun _ hs=>abl hG (max E.now t) c y re hs) (h:=fun w hS hH=>gh ?_);exact⟨rfl,hH.to⟩
  |false=>
   rw[show decide (zi nd 8≠0)=false from h8,if_neg (by simp)];refine gh ?_;obtain⟨X,hH⟩:=SH.un hH;replace hH:=SH.ap hH;dsimp only[fo] at hH;refine GX.next rfl (GO.KP rfl rfl rfl rfl rfl (KQ hn (by decide)) (gh ?_));cases Rx:hasB nd 128 with
   |true=>
    rw[show decide (zi nd 128≠0)=true from Rx];refine gh ?_;refine GX.aM (hc:=fun _ hs=>XI (S:=E.a) hs) (h:=fun w hE hH=>gh ?_);rw[show decide ((E.a.last:Int)=18446744073709551615)=false from bQ ah];refine gh ?_
    by_cases dA:c.op=11
    ·rw[show decide ((c.op:Int)=11)=true by simp[dA],if_pos dA];refine gh ?_;refine GC.br (pl:=(bg [0,3,6,15,21,10,19,25,14,29,30,33,36,39,42])) (T:=dt [b,z]) (hm:=mixed) (h:=fun w hE hH=>gh ?_);refine GX.eG (hc:=fun _ hs=>Lw (A:=E.g) hs) (h:=?_);rintro pg w _ hS hH;replace hH:=SH.ap hH;refine gh ?_;refine GX.mZ (hc:=fun _ hs=>Lu (A:=E.g) c.k c.ch ah hs) (h:=fun w hS hH=>gh ?_);exact⟨rfl,(df (X:=X) (E:=E) hH).to⟩
    ·rw[show decide ((c.op:Int)=11)=false by simp;omega,if_neg dA];refine gh ?_;exact⟨rfl,(df (X:=X) (E:=E) hH).to⟩
   |false=>
    rw[show decide (zi nd 128≠0)=false from Rx];refine gh ?_
    by_cases dA:c.op=11
    ·rw[show decide ((c.op:Int)=11)=true by simp[dA],if_pos dA];refine gh ?_;refine GC.br (pl:=(bg [0,3,6,15,21,10,19,25,14,29,30,33,36,39,42])) (T:=dt [b,z]) (hm:=mixed) (h:=fun w hE hH=>gh ?_);refine GX.eG (hc:=fun _ hs=>Lw (A:=E.g) hs) (h:=?_);rintro pg w _ hS hH;replace hH:=SH.ap hH;refine gh ?_;refine GX.mZ (hc:=fun _ hs=>Lu (A:=E.g) c.k c.ch ah hs) (h:=fun w hS hH=>gh ?_);exact⟨rfl,(df (X:=X) (E:=E) hH).to⟩
    ·rw[show decide ((c.op:Int)=11)=false by simp;omega,if_neg dA];refine gh ?_;exact⟨rfl,(df (X:=X) (E:=E) hH).to⟩
 ·rw[if_pos hp,show decide (p≠0)=true from b8 hp];refine gh ?_;exact⟨rfl,hH.to⟩
end
section
theorem abG {α:Type}(p:α→Bool)(l:List α):(l.filter p).length+(l.filter fun x=>!p x).length=l.length:=by
 induction l with
 |nil=>rfl
 |cons x l ih=>cases h:p x<;>simp[lO,h]<;>omega
def ao.lK (E:ao)(t:Nat):ao:={ E with now:=max E.now t,a:=E.a.at (max E.now t),s:=E.s.left (max E.now t)}
def ao.start (E:ao)(t:Nat):ao:=(E.lK t).ft (E.s.gone (max E.now t))
theorem de.lK {E:ao}{n:Nat}(h:de E n){t:Nat}(ht:t≤never):cm (E.lK t):=
 ⟨h.ok.pz,h.ok.rr,h.ok.sG,h.ok.nQ,h.ok.cP,Nat.max_le.2 ⟨h.ok.now,ht⟩,h.ok.aR⟩
theorem de.start {E:ao}{n:Nat}(h:de E n)(hn:n<8000){t:Nat}(ht:t≤never):de (E.start t) (n+1):=by
 have hu:=h.up (pJ n);have hg:(E.s.gone (max E.now t)).length+(E.s.left (max E.now t)).E.length=E.s.E.length:=by
  show(AS _).length+(E.s.E.filter _).length=_;rw[(CQ _).length_eq];exact abG _ _
 have hK:(E.s.left (max E.now t)).K=E.s.K+(E.s.gone (max E.now t)).length:=rfl;have h1:=(h.lK ht).ft (E.s.gone (max E.now t));have l1:=N0 (E:=E.lK t) h.len (E.s.gone (max E.now t));have e1:(E.lK t).s=E.s.left (max E.now t):=rfl;have e2:(E.lK t).r=E.r:=rfl;have e3:(E.lK t).aR=E.aR:=rfl;have e4:(E.lK t).a.last=E.a.last:=rfl;have e5:(E.lK t).g=E.g:=rfl;have e6:(E.lK t).p=E.p:=rfl;unfold ao.start;generalize (E.lK t).ft (E.s.gone (max E.now t))=X at h1 l1 ⊢;obtain⟨g1,g2,g3,g4,g5,g6,g7,g8⟩:=h1;have Tu:=h.l9;have I9:=h.aR;have cj:=h.al;have uP:=h.sK;rw[e2] at g3 l1;refine⟨g1,l1.1,by rw[l1.2];exact h.aD,?_,by rw[g4,e3];exact hu.aR,by rw[g5,e4];exact hu.al,?_,by rw[g6,e5];exact hu.gK,by rw[g7,e6];exact hu.pK⟩
 ·rw[g4,e3,g2,e1];omega
 ·rw[g2,e1,hK];omega
structure Dc where
 op:Int
 err:Int
 L:List mX
 aR:Nat
 n:Nat
 Oy:List Nat
def W7:Dc:=⟨0,0,[],0,0,[]⟩
noncomputable def ao.act (E:ao)(c:dd):ao×Dc:=
 if c.op=1∨c.op=2∨c.op=3 then(E.write c,⟨c.op,0,[],E.aR+1,(cO E.g.E c.k).length,[]⟩)
 else if c.op=4∨c.op=5 then((E.iJ c.keys).1,⟨c.op,0,(E.iJ c.keys).2,0,0,[]⟩)
 else if c.op=6 then(E.oH c.k c.d,⟨c.op,0,[],0,if E.live c.k=true then 1 else 0,[]⟩)
 else if c.op=7 then(E.del c.k,⟨c.op,0,[],0,if E.live c.k=true then 1 else 0,[]⟩)
 else if c.op=8∨c.op=9 then(E.kW c.op c.tag,⟨c.op,0,[],0,0,[]⟩)
 else if c.op=10∨c.op=14 then(E.oB c.op c.pre,⟨c.op,0,[],0,0,[]⟩)
 else if c.op=11∨c.op=12 then(E.uq c.op c.k c.ch,⟨c.op,0,[],0,if E.Dx c.op c.k c.ch=true then 1 else 0,[]⟩)
 else if c.op=13 then(E.yw c.k,⟨c.op,0,[],0,(cO E.g.E c.k).length,[]⟩)
 else(E,⟨c.op,0,[],0,0,E.cP⟩)
theorem de.act {E:ao}{n:Nat}(h:de E n)(hn:n<7000)(c:dd)(hk:c.keys.length<2^20)
  (hb:(c.op=1∨c.op=2∨c.op=3)∨c.op=13∨(c.op=7∧E.live c.k=true)→(cO E.g.E c.k).length≤65537):de (E.act c).1 (n+1):=by
 unfold ao.act;split
 ·exact h.write hn c (hb (.inl (by assumption)))
 split
 ·exact h.FW (dJ.iJ h.ok h.len c.keys) ah ah
 split
 ·exact h.FW (dJ.oH h.ok h.len c.k c.d) ah ah
 split
 ·rename_i h7
  by_cases hl:E.live c.k=true
  ·have:=hb (.inr (.inr ⟨h7,hl⟩));exact h.FW (dJ.del h.ok h.len c.k) ah ah
  ·have e:E.del c.k=E.meet c.k:=by unfold ao.del;rw[if_neg hl]
   show de (E.del c.k) (n+1);rw[e];exact h.FW (dJ.meet h.ok h.len c.k) ah ah
 split
 ·exact h.kW ah _ _
 split
 ·exact h.oB ah _ _
 split
 ·exact h.uq _ _ _
 split
 ·rename_i Ly
  have:=hb (.inr (.inl Ly));exact h.FW (dJ.yw h.ok h.len c.k) ah ah
 ·exact h.up (pJ n)
def ao.jD (E:ao)(op:Int)(L:List mX)(n:Nat):ao:=E.note op (L.map fun i=>(⟨i,none,0⟩:gI)) n
theorem ahp {l m:List gI}(E:ao)(h:l.map (·.i)=m.map (·.i)):E.notes l=E.notes m:=by
 unfold ao.notes
 induction l generalizing m E with
 |nil=>cases m with
  |nil=>rfl
  |cons y m=>cases h
 |cons x l ih=>
  cases m with
  |nil=>cases h
  |cons y m=>
   simp only[cJ,List.cons.injEq] at h;rw[pL,pL,h.1];exact ih _ h.2
theorem wR (E:ao)(op:Int){l:List gI}{L:List mX}(h:l.map (·.i)=L)(n:Nat):E.note op l n=E.jD op L n:=by
 have h2:l.map (·.i)=(L.map fun i=>(⟨i,none,0⟩:gI)).map (·.i):=by rw[h,nK];simp[Function.comp_def]
 have h3:l.length=(L.map fun i=>(⟨i,none,0⟩:gI)).length:=by have:=congrArg List.length h2;simpa using this
 unfold ao.jD ao.note;rw[ahp _ h2,h3]
def iA (op:Int):Int:=if op=1∨op=2∨op=3 then 13 else if op=4∨op=7∨op=13 then 1 else if op=5 then 64 else if op=6 then 5 else if op=8∨op=9 then 144 else if op=10 then 160 else if op=11∨op=12 then 3 else if op=14 then 128 else 0
theorem V' (op:Int):iA op∈yF:=by
 unfold iA
 (repeat' split)<;>simp[yF]
def kJ (op:Int):Nat:=if op=1∨op=2∨op=3 then 113 else if op=4∨op=5 then 114 else if op=6 then 115 else if op=7 then 116 else if op=8∨op=9 then 118 else if op=10∨op=14 then 119 else if op=11∨op=12 then 120 else if op=13 then 117 else 121
theorem Y6 {op:Int}(h:1≤op∧op<16):Bf op = .agg #[.func (.func (kJ op)) #[] #[], .int .u8 (iA op)]:=by
 have hc:op=1∨op=2∨op=3∨op=4∨op=5∨op=6∨op=7∨op=8∨op=9∨op=10∨op=11∨op=12∨op=13∨op=14∨op=15:=by omega
 rcases hc with rfl|rfl|rfl|rfl|rfl|rfl|rfl|rfl|rfl|rfl|rfl|rfl|rfl|rfl|rfl<;>rfl
theorem De {E:ao}{c:dd}(h:c.op=1∨c.op=2∨c.op=3):E.act c=(E.write c,⟨c.op,0,[],E.aR+1,(cO E.g.E c.k).length,[]⟩):=by
 unfold ao.act;rw[if_pos h]
theorem YV {op:Int}(h:op=1∨op=2∨op=3):kJ op=113:=by
 unfold kJ;rw[if_pos h]
theorem KL {E:ao}{c:dd}(h:c.op=4∨c.op=5):E.act c=((E.iJ c.keys).1,⟨c.op,0,(E.iJ c.keys).2,0,0,[]⟩):=by
 unfold ao.act;rw[if_neg ah,if_pos h]
theorem YW {op:Int}(h:op=4∨op=5):kJ op=114:=by
 unfold kJ;rw[if_neg ah,if_pos h]
theorem PO {E:ao}{c:dd}(h:c.op=6):E.act c=(E.oH c.k c.d,⟨c.op,0,[],0,if E.live c.k=true then 1 else 0,[]⟩):=by
 unfold ao.act;rw[if_neg ah,if_neg ah,if_pos h]
theorem YX {op:Int}(h:op=6):kJ op=115:=by
 unfold kJ;rw[if_neg ah,if_neg ah,if_pos h]
theorem PQ {E:ao}{c:dd}(h:c.op=7):E.act c=(E.del c.k,⟨c.op,0,[],0,if E.live c.k=true then 1 else 0,[]⟩):=by
 unfold ao.act;rw[if_neg ah,if_neg ah,if_neg ah,if_pos h]
theorem YY {op:Int}(h:op=7):kJ op=116:=by
 unfold kJ;rw[if_neg ah,if_neg ah,if_neg ah,if_pos h]
theorem Gw {E:ao}{c:dd}(h:c.op=8∨c.op=9):E.act c=(E.kW c.op c.tag,⟨c.op,0,[],0,0,[]⟩):=by
 unfold ao.act;rw[if_neg ah,if_neg ah,if_neg ah,if_neg ah,if_pos h]
theorem YZ {op:Int}(h:op=8∨op=9):kJ op=118:=by
 unfold kJ;rw[if_neg ah,if_neg ah,if_neg ah,if_neg ah,if_pos h]
theorem Df {E:ao}{c:dd}(h:c.op=10∨c.op=14):E.act c=(E.oB c.op c.pre,⟨c.op,0,[],0,0,[]⟩):=by
 unfold ao.act;rw[if_neg ah,if_neg ah,if_neg ah,if_neg ah,if_neg ah,if_pos h]
theorem Y0 {op:Int}(h:op=10∨op=14):kJ op=119:=by
 unfold kJ;rw[if_neg ah,if_neg ah,if_neg ah,if_neg ah,if_neg ah,if_pos h]
theorem PR {E:ao}{c:dd}(h:c.op=11∨c.op=12):E.act c=(E.uq c.op c.k c.ch,⟨c.op,0,[],0,if E.Dx c.op c.k c.ch=true then 1 else 0,[]⟩):=by
 unfold ao.act;rw[if_neg ah,if_neg ah,if_neg ah,if_neg ah,if_neg ah,if_neg ah,if_pos h]
theorem Y1 {op:Int}(h:op=11∨op=12):kJ op=120:=by
 unfold kJ;rw[if_neg ah,if_neg ah,if_neg ah,if_neg ah,if_neg ah,if_neg ah,if_pos h]
theorem PS {E:ao}{c:dd}(h:c.op=13):E.act c=(E.yw c.k,⟨c.op,0,[],0,(cO E.g.E c.k).length,[]⟩):=by
 unfold ao.act;rw[if_neg ah,if_neg ah,if_neg ah,if_neg ah,if_neg ah,if_neg ah,if_neg ah,if_pos h]
theorem Y2 {op:Int}(h:op=13):kJ op=117:=by
 unfold kJ;rw[if_neg ah,if_neg ah,if_neg ah,if_neg ah,if_neg ah,if_neg ah,if_neg ah,if_pos h]
theorem Y4 {E:ao}{c:dd}(h:c.op=15):E.act c=(E,⟨c.op,0,[],0,0,E.cP⟩):=by
 unfold ao.act;rw[if_neg ah,if_neg ah,if_neg ah,if_neg ah,if_neg ah,if_neg ah,if_neg ah,if_neg ah]
theorem Y3 {op:Int}(h:op=15):kJ op=121:=by
 unfold kJ;rw[if_neg ah,if_neg ah,if_neg ah,if_neg ah,if_neg ah,if_neg ah,if_neg ah,if_neg ah]
noncomputable def ao.cU (E:ao)(t:Nat)(c:dd):ao×Dc×Int:=
 if 1≤c.op∧c.op<16 then
  (if E.dW t (iA c.op) c=0 then((((E.start t).act c).1.jD c.op ((E.start t).act c).2.L ((E.start t).act c).2.n),((E.start t).act c).2,0)
  else(E.raise 1 1,⟨c.op,E.dW t (iA c.op) c,[],0,0,[]⟩,0))
 else(E,W7,2)
end
end Go.Proofs.YtoloaehmppcjoaaGreat.V.M
