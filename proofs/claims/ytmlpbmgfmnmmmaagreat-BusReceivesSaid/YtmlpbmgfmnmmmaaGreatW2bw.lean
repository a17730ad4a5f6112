/-
  Parts of the proof. No condition.
-/
import Derived.Test.YtmlpbmgfmnmmmaaGreatW2bv
set_option linter.unusedVariables false
set_option linter.unusedSimpArgs false
set_option maxRecDepth 8000
set_option maxHeartbeats 8000000
open Go.Proofs.Tryz
namespace Go.Proofs.YtmlpbmgfmnmmmaaGreat.V.M
section
structure dF (E X:aq)(d e:Nat):Prop where
 ok:b8 X
 len:gv X.r
 aI:X.r.aI=E.r.aI
 lx:X.r.K+X.s.E.length≤E.r.K+E.s.E.length
 bf:X.bf=E.bf
 al:X.a.last=E.a.last
 sK:X.s.K≤E.s.K+d
 gK:X.g.K≤E.g.K+e
 pK:X.p.T.K=E.p.T.K
theorem dF.refl {E:aq}(h:b8 E)(hl:gv E.r):dF E E 0 0:=⟨h,hl,rfl,bj _,rfl,rfl,bj _,bj _,rfl⟩
theorem dF.trans {E X Y:aq}{d e d' e':Nat}(h:dF E X d e)(k:dF X Y d' e'):dF E Y (d+d') (e+e'):=
 ⟨k.ok,k.len,k.aI.trans h.aI,eh k.lx h.lx,k.bf.trans h.bf,k.al.trans h.al,by have:=k.sK;have:=h.sK;omega,by have:=k.gK;have:=h.gK;omega,k.pK.trans h.pK⟩
theorem dF.out {E:aq}(h:b8 E)(hl:gv E.r)(l:List Bs):dF E (E.out l) l.length 0:=by
 obtain⟨h1,h2,_⟩:=h.out l;obtain⟨f1,f2,f3⟩:=AB E l;obtain⟨g1,g2⟩:=Oy hl l;exact⟨h1,g1,g2,Oz E l,f1,f2,h2,by rw[Ox];exact bj _,by rw[f3]⟩
theorem dF.tick {E:aq}(h:b8 E)(hl:gv E.r):dF E E.tick 0 1:=⟨h.tick,hl,rfl,bj _,rfl,rfl,bj _,bj _,rfl⟩
theorem dF.meet {E:aq}(h:b8 E)(hl:gv E.r)(k:Bs):dF E (E.meet k) 1 0:=by
 unfold aq.meet;split
 ·have:=dF.refl h hl;exact⟨this.ok,this.len,rfl,bj _,rfl,rfl,rk _,bj _,rfl⟩
 ·exact dF.out h hl [k]
theorem dF.XW {E:aq}(h:b8 E)(hl:gv E.r){s:bw}(hK:s.K=E.s.K)(hE:s.E.length≤E.s.E.length):dF E { E with s:=s} 0 0:=
 ⟨h.drop s,hl,rfl,Nat.add_le_add_left hE _,rfl,rfl,by show s.K≤_;omega,bj _,rfl⟩
theorem al9 (s:bw)(k:Bs):(s.vh k).E.length≤s.E.length:=by
 unfold bw.vh;split
 ·split
  ·rename_i e he
   have hk:e.k=k:=by have:=List.find?_some he;simpa using this
   show(dv s.E e.k++[e]).length≤_;rw[hk,bJ,ie];exact OT he
  ·exact bj _
 ·exact bj _
theorem XY (s:bw)(k:Bs)(t:Nat):(s.oa k t).E.length≤s.E.length∧(s.oa k t).K=s.K:=by
 unfold bw.oa;split
 ·split
  ·rename_i e he
   refine⟨?_,rfl⟩;show(dv s.E k++[_]).length≤_;rw[bJ,ie];exact OT he
  ·exact⟨bj _,rfl⟩
 ·exact⟨bj _,rfl⟩
theorem dF.mg {E:aq}(h:b8 E)(hl:gv E.r)(k:Bs):dF E (E.mg k) 1 0:=by
 have h1:=dF.meet h hl k;exact h1.trans (dF.XW h1.ok h1.len (Yo _ k) (al9 _ k))
theorem dF.gU {E:aq}(h:b8 E)(hl:gv E.r)(l:List Bs):dF E (E.gU l).1 l.length 0:=by
 suffices hh:∀(l:List Bs) (y:aq×List l8),b8 y.1→gv y.1.r→dF y.1 (l.foldl (fun y k=>(y.1.mg k,y.2++[y.1.pD k])) y).1 l.length 0 from hh l (E,[]) h hl
 intro l
 induction l with
 |nil=>intro y hy hl;exact dF.refl hy hl
 |cons k l ih=>
  intro y hy hl;have h1:=dF.mg hy hl k;have h2:=h1.trans (ih (y.1.mg k,y.2++[y.1.pD k]) h1.ok h1.len);rw[dR,Nat.add_comm];exact h2
theorem dF.del {E:aq}(h:b8 E)(hl:gv E.r)(k:Bs):dF E (E.del k) (2+(cR E.g.E k).length) 1:=by
 unfold aq.del;have h1:=dF.meet h hl k;split
 ·have h2:=h1.trans (dF.out h1.ok h1.len [k]);have h3:=h2.trans (dF.tick h2.ok h2.len);exact h3.trans (dF.out h3.ok h3.len (cR E.g.E k))
 ·exact⟨h1.ok,h1.len,h1.aI,h1.lx,h1.bf,h1.al,by have:=h1.sK;omega,by have:=h1.gK;omega,h1.pK⟩
theorem dF.yt {E:aq}(h:b8 E)(hl:gv E.r)(k:Bs):dF E (E.yt k) (1+(cR E.g.E k).length) 1:=by
 unfold aq.yt;have h1:=dF.tick h hl;have h2:=h1.trans (dF.out h1.ok h1.len [k]);have h3:=h2.trans (dF.out h2.ok h2.len (cR E.g.E k));exact⟨h3.ok,h3.len,h3.aI,h3.lx,h3.bf,h3.al,by have:=h3.sK;simp only[ie] at this;omega,by have:=h3.gK;omega,h3.pK⟩
theorem dF.oa {E:aq}(h:b8 E)(hl:gv E.r)(k:Bs)(d:Nat):dF E (E.oa k d) 1 0:=by
 unfold aq.oa;have h1:=dF.meet h hl k;split
 ·exact h1.trans (dF.XW h1.ok h1.len (XY _ k _).2 (XY _ k _).1)
 ·exact h1
end
section
attribute [local irreducible] GX
section
variable {P:Program}{ops:Array Oper}{Q:Exit→Act→World→Prop}{S:World→Prop}{n:Nat}
variable {i:Nat}{p:bZ}{e:Env}{w:World}{k:Kd}{dst:Option Tmp}{ty:TypeId}{pos:String}{an:Array Edge}{g:Option (Nat×Bool)}
theorem GO.ajL [Fr](hk:cB k=true){t el:TypeId}{len sz:Nat}{ag:Bool}[hu:bH P t (.array len el)][hf:aC P el ag sz]{x:Operand}{b o:Nat}(hw:aH ops e ⟨dst, .slice t x none none none,ty,pos,an,g⟩=some true)
  (hx:ev e x=some (.pointer (some ⟨b,o,none⟩))) (hd:fits n dst=true)
  (h:GX P ops Q S n p (e.put dst (.slice (some ⟨b,o,none⟩) len len)) w):GO P ops Q S n k i ⟨dst, .slice t x none none none,ty,pos,an,g⟩ p e w:=
 GO.val (fN hk) hw hd (fun a ha w=>by
  simp[execOp,bC ha hx,Instr.sliceAt,run_underlying hu.out,Instr.sureAddr,Instr.sliceBounds,hf.sizeOf,ir]) h
end
instance {b:Nat}{a0 a1 a2 a3 a4 a5 a6 a7 a8 a9 aa ab ac ad ae:Value}{r:List Value}:Rd (aA b (a0::a1::a2::a3::a4::a5::a6::a7::a8::a9::aa::ab::ac::ad::ae::r)) (some ⟨b,15,none⟩) r:=⟨fun w Z F ⟨h,e⟩=>⟨h.get rfl,fun _ y hy=>by cases hy;exact .inl (by rw[e])⟩⟩
attribute [local irreducible] GO
attribute [local irreducible] aA ao aQ aF fz star eo
theorem abc {o:Og}{w:World}{b rb:Nat}{E:aq}(hG:b8 E)(c:dh)(y:iR){r0 r1 r2 r3 r4 r5:Value}(hs:Start o w [bU b E,aA rb [r0,r1,r2,r3,r4,r5]]) :
  aj prog 97 [ak b, .agg (jH c y).toArray,ak rb].toArray w (aU o (fun _:Option Nat×Nat => .tuple #[]) (fun _=>True) (fun q=>[bU b E,aA rb [r0,r1,r2,r3,r4, .slice (ay q.1) 16 q.2],ao 38 1 q.1 16 q.2 (lY E.dC)])):=by
 have hH:=hs.sh;have hl:=hG.dC.1;obtain⟨X,hH⟩:=SH.un hH;replace hH:=SH.ap hH;dsimp only[eK] at hH;refine aj.enter func97 rfl ntmps97 rfl (gh ?_);refine GX.cw (h:=fun z w hH=>gh ?_);refine GX.next rfl (GO.ajL rfl rfl rfl rfl (gh ?_));refine GX.dX (hc:=fun _ hs=>QG (a:=some ⟨b,15,none⟩) (n:=16) (c:=16) (cs:=E.dC.map fun n:Nat=>uV n) (by decide) (by simp[hl]) (fun h=>by cases h) (fun u hu=>by obtain⟨m,_,rfl⟩:=bK.1 hu;rfl) hs) (h:=?_);rintro⟨q,cc⟩ w _ hE hH;replace hH:=SH.ap hH;refine gh ?_;refine GX.dw (h:=fun w hH=>gh ?_);exact⟨(q,cc),rfl,trivial,(cV (X:=X) (E:=E) hH).to⟩
end
section
attribute [local irreducible] GO GX aA eo fz aF aQ ao star
theorem aa8 {o:Og}{w:World}{b:Nat}{E:aq}(hG:b8 E)(op err:Int)(he:err≠0)(v2 v3 v4 v5:Value)(hs:Start o w [bU b E]) :
  aj prog 60 [ak b, .agg #[iV op,iV err,v2,v3,v4,v5]].toArray w (Po o (.tuple #[]) [bU b (E.raise 1 1)]):=by
 have hH:=hs.sh;refine aj.enter func60 rfl ntmps60 rfl (gh ?_);refine GX.cw (h:=fun z w hH=>gh ?_);rw[show decide (err≠0)=true from bQ he];refine gh ?_;refine GX.bz (hc:=fun _ hs=>lG hG 1 1 (by decide) (by decide) hs) (h:=fun w hH=>gh ?_);refine gh ?_;exact⟨rfl,hH.to⟩
def Aw (m:Int):Nat:=if m=0 then 5 else if m=2 then 4 else if m=1 then 3 else 0
theorem N6 (m:Int):Aw m<16:=by
 unfold Aw
 (repeat' split)<;>decide
def aq.notes (E:aq)(l:List gx):aq:=l.foldl (fun E r=>E.raise (Aw r.i.m) 1) E
theorem b8.notes {E:aq}(h:b8 E)(l:List gx):b8 (E.notes l):=by
 unfold aq.notes
 induction l generalizing E with
 |nil=>exact h
 |cons r l ih=>exact ih (h.raise _ 1 (N6 _))
theorem aq.ahr (E:aq){l:List gx}{i:Nat}{r:gx}(h:l[i]?=some r):E.notes (l.take (i+1))=(E.notes (l.take i)).raise (Aw r.i.m) 1:=by
 unfold aq.notes;rw[ic,h,vt];rfl
theorem ag3 (m:Int):jc (fun n:Int=>iV n) (iV 0) false (az (bE (bE (bE [] (1:Int) (3:Int)) 2 4) 0 5) m)=iV (Aw m:Nat):=by
 rw[kI,kI,kI];unfold Aw
 by_cases h0:m=0
 ·rw[if_pos h0,if_pos h0];rfl
 ·rw[if_neg h0,if_neg h0]
  by_cases h2:m=2
  ·rw[if_pos h2,if_pos h2];rfl
  ·rw[if_neg h2,if_neg h2]
   by_cases h1:m=1
   ·rw[if_pos h1,if_pos h1];rfl
   ·rw[if_neg h1,if_neg h1];rfl
def aq.CB (E:aq)(op:Int)(n:Nat):aq:=
 if op=1∨op=2∨op=3 then(E.raise 6 1).raise 9 n else if op=6 then E.raise 7 n else if op=7 then E.raise 8 n else if op=13 then E.raise 9 n
 else if op=8∨op=9∨op=10 then E.raise (10+(op - 8).toNat) 1 else if op=14 then E.raise 13 1 else if op=11∨op=12 then E.raise (14+(op - 11).toNat) n else E
def aq.note (E:aq)(op:Int)(l:List gx)(n:Nat):aq:=((((E.raise 0 1).raise 2 l.length).notes l).CB op n)
theorem vH {o:Og}{w:World}{b:Nat}{E:aq}(hG:b8 E)(op:Int)(dG:1≤op∧op<16)(L:List gx)(q:Option Nat)(qc n:Nat)(hL:L.length<2^30)(hn:n<2^62)(v3 v5:Value)(hs:Start o w [bU b E,ao 64 4 q L.length qc (aK jA L)]) :
  aj prog 60 [ak b, .agg #[iV op,iV 0, .slice (ay q) L.length qc,v3,iV n,v5]].toArray w (Po o (.tuple #[]) [bU b (E.note op L n),ao 64 4 q L.length qc (aK jA L)]):=by
 have hH:=hs.sh;refine aj.enter func60 rfl ntmps60 rfl (gh ?_);refine GX.cw (h:=fun z w hH=>gh ?_);refine GX.bz (hc:=fun _ hs=>lG hG 0 1 (by decide) (by decide) hs) (h:=fun w hH=>gh ?_);have h1:=hG.raise 0 1 (by decide);refine gh ?_;refine GX.bz (hc:=fun _ hs=>lG h1 2 L.length (by decide) ah hs) (h:=fun w hH=>gh ?_);have h2:=h1.raise 2 L.length (by decide);unfold aq.note;generalize (E.raise 0 1).raise 2 L.length=E2 at hH h2 ⊢;refine gh ?_;refine GC.bP [0,3,19,20] (fun i:Nat=>[(21,iV i)]) (fun i w'=>i≤L.length∧SH o w' [bU b (E2.notes (L.take i)),ao 64 4 q L.length qc (aK jA L),aA z [iV op,iV 0, .slice (ay q) L.length qc,v3,iV n,v5]]) (fun i=>L.length - i) 0 rfl rfl ⟨bh _,hH.to⟩ ?_;rintro i w ⟨hi,hH⟩;have aX:=h2.notes (L.take i);have gi:=fun r=>@aq.ahr E2 L i r
 generalize iy:E2.notes (L.take i)=E3 at hH aX gi;refine gh ?_;refine ifs (fun hb=>?_) (fun hb=>?_)<;>refine gh ?_
 ·obtain⟨r,hr⟩:∃r,L[i]?=some r:=⟨_,bO ah⟩
  have ES:=gi r hr;obtain⟨qb,rfl⟩:=hH.pos (el:=64) (sz:=4) (q:=q) (n:=L.length);refine gh ?_;refine GX.next rfl (GO.jz (hv:=jj OR hr) (h:=gh ?_));refine GX.cm (h:=fun f w hH=>gh ?_);refine GX.bc (h:=fun w hH=>gh ?_);refine GX.yB (fun n:Int=>iV n) (fun n:Int=>iV n) (h:=fun m w hH=>gh ?_);refine GX.Fp (v:=(3:Int)) (h:=fun w hH=>gh ?_);refine GX.Fp (v:=(4:Int)) (h:=fun w hH=>gh ?_);refine GX.Fp (v:=(5:Int)) (h:=fun w hH=>gh ?_);refine GX.lP (hV:=ag3 r.i.m) (h:=gh ?_);refine GX.bz (hc:=fun _ hs=>lG aX (Aw r.i.m) 1 (N6 _) (by decide) hs) (h:=fun w hH=>gh ?_);refine gh ?_;refine GQ.br (i+1) rfl ⟨by omega,?_⟩ ah;rw[ES];exact hH.to
 ·obtain rfl:i=L.length:=by omega
  rw[eO (bj _)] at iy;rw[iy];clear iy gi;have hc:op=1∨op=2∨op=3∨op=4∨op=5∨op=6∨op=7∨op=8∨op=9∨op=10∨op=11∨op=12∨op=13∨op=14∨op=15:=by omega
  rcases hc with rfl|rfl|rfl|rfl|rfl|rfl|rfl|rfl|rfl|rfl|rfl|rfl|rfl|rfl|rfl
  case' inl=>
   refine gh ?_;refine GX.bz (hc:=fun _ hs=>lG aX 6 1 (by decide) (by decide) hs) (h:=fun w hH=>gh ?_);refine gh ?_;refine GX.bz (hc:=fun _ hs=>lG (aX.raise 6 1 (by decide)) 9 n (by decide) hn hs) (h:=fun w hH=>gh ?_);refine gh ?_
  case' inr.inl=>
   refine gh ?_;refine GX.bz (hc:=fun _ hs=>lG aX 6 1 (by decide) (by decide) hs) (h:=fun w hH=>gh ?_);refine gh ?_;refine GX.bz (hc:=fun _ hs=>lG (aX.raise 6 1 (by decide)) 9 n (by decide) hn hs) (h:=fun w hH=>gh ?_);refine gh ?_
  case' inr.inr.inl=>
   refine gh ?_;refine GX.bz (hc:=fun _ hs=>lG aX 6 1 (by decide) (by decide) hs) (h:=fun w hH=>gh ?_);refine gh ?_;refine GX.bz (hc:=fun _ hs=>lG (aX.raise 6 1 (by decide)) 9 n (by decide) hn hs) (h:=fun w hH=>gh ?_);refine gh ?_
  all_goals first|exact⟨rfl,hH.to⟩|skip
  all_goals first|(refine gh ?_;exact⟨rfl,hH.to⟩)|skip
  ·refine gh ?_;refine GX.bz (hc:=fun _ hs=>lG aX 7 n (by decide) hn hs) (h:=fun w hH=>gh ?_);refine gh ?_;exact⟨rfl,hH.to⟩
  ·refine gh ?_;refine GX.bz (hc:=fun _ hs=>lG aX 8 n (by decide) hn hs) (h:=fun w hH=>gh ?_);refine gh ?_;exact⟨rfl,hH.to⟩
  ·refine gh ?_;refine GX.bz (hc:=fun _ hs=>lG aX 10 1 (by decide) (by decide) hs) (h:=fun w hH=>gh ?_);refine gh ?_;exact⟨rfl,hH.to⟩
  ·refine gh ?_;refine GX.bz (hc:=fun _ hs=>lG aX 11 1 (by decide) (by decide) hs) (h:=fun w hH=>gh ?_);refine gh ?_;exact⟨rfl,hH.to⟩
  ·refine gh ?_;refine GX.bz (hc:=fun _ hs=>lG aX 12 1 (by decide) (by decide) hs) (h:=fun w hH=>gh ?_);refine gh ?_;exact⟨rfl,hH.to⟩
  ·refine gh ?_;refine GX.bz (hc:=fun _ hs=>lG aX 14 n (by decide) hn hs) (h:=fun w hH=>gh ?_);refine gh ?_;exact⟨rfl,hH.to⟩
  ·refine gh ?_;refine GX.bz (hc:=fun _ hs=>lG aX 15 n (by decide) hn hs) (h:=fun w hH=>gh ?_);refine gh ?_;exact⟨rfl,hH.to⟩
  ·refine gh ?_;refine GX.bz (hc:=fun _ hs=>lG aX 9 n (by decide) hn hs) (h:=fun w hH=>gh ?_);refine gh ?_;exact⟨rfl,hH.to⟩
  ·refine gh ?_;refine GX.bz (hc:=fun _ hs=>lG aX 13 1 (by decide) (by decide) hs) (h:=fun w hH=>gh ?_);refine gh ?_;exact⟨rfl,hH.to⟩
end
section
theorem ain (E:aq)(op:Int)(tag:Bs):(E.yJ op tag).last=E.a.last+1:=by
 unfold aq.yJ;split
 ·rfl
 ·split<;>rfl
theorem cU.AI {E:aq}{n:Nat}(h:cU E n)(hn:n<8000)(op:Int)(tag:Bs):cU (E.AI op tag) (n+1):=by
 have hu:=h.up (rk n);have hl:=ain E op tag;have ha:=h.al;have hp:=h.ok.se;refine⟨⟨h.ok.o7,h.ok.qY,?_,?_,h.ok.dC,h.ok.now,h.ok.bf⟩,h.len,h.aI,h.lx,hu.bf,?_,hu.sK,hu.gK,hu.pK⟩
 ·show E.p.last≤(E.yJ op tag).last;omega
 ·show(E.yJ op tag).last<2^30;omega
 ·show(E.yJ op tag).last≤n+1;omega
theorem cU.wQ {E:aq}{n:Nat}(h:cU E n)(hn:n<8000)(op:Int)(pre:Bs):cU (E.wQ op pre) (n+1):=by
 have hu:=h.up (rk n);have ha:=h.al;have hk:=h.pK;refine⟨⟨h.ok.o7,h.ok.qY,?_,?_,h.ok.dC,h.ok.now,h.ok.bf⟩,h.len,h.aI,h.lx,hu.bf,?_,hu.sK,hu.gK,?_⟩
 ·show(if op=14 then E.p.flush (E.a.last+1) else E.p.uX pre (E.a.last+1)).last≤E.a.last+1;split<;>exact bj _
 ·show E.a.last+1<2^30;omega
 ·show E.a.last+1≤n+1;omega
 ·show(if op=14 then E.p.flush (E.a.last+1) else E.p.uX pre (E.a.last+1)).T.K≤n+1;split
  ·show E.p.T.K≤n+1;omega
  ·show E.p.T.K+1≤n+1;omega
theorem b8.tX {E:aq}(h:b8 E)(op:Int)(p c:Bs):b8 (E.tX op p c):=⟨h.o7,h.qY,h.se,h.nH,h.dC,h.now,h.bf⟩
theorem cU.tX {E:aq}{n:Nat}(h:cU E n)(op:Int)(p c:Bs):cU (E.tX op p c) (n+1):=by
 have hu:=h.up (rk n);refine⟨h.ok.tX op p c,h.len,h.aI,h.lx,hu.bf,hu.al,hu.sK,?_,hu.pK⟩;have:=h.gK;show(if op=11 then E.g.add p c else E.g.del p c).K≤4*(n+1);split
 ·show E.g.K+1≤_;omega
 ·show E.g.K≤_;omega
theorem cU.FP {E X:aq}{n d e:Nat}(h:cU E n)(k:dF E X d e)(hd:d≤4194304)(he:e≤4):cU X (n+1):=by
 have hu:=h.up (rk n);have h1:=h.sK;have h2:=h.gK;have h3:=k.sK;have h4:=k.gK;exact⟨k.ok,k.len,by rw[k.aI];exact h.aI,by rw[k.bf];exact eh k.lx h.lx,by rw[k.bf];exact hu.bf,by rw[k.al];exact hu.al,by omega,by omega,by rw[k.pK];exact hu.pK⟩
theorem cU.notes {E:aq}{n:Nat}(h:cU E n)(l:List gx):cU (E.notes l) n:=by
 unfold aq.notes
 induction l generalizing E with
 |nil=>exact h
 |cons r l ih=>exact ih (h.raise _ 1 (N6 _))
theorem cU.CB {E:aq}{n:Nat}(h:cU E n)(op:Int)(m:Nat):cU (E.CB op m) n:=by
 unfold aq.CB;split
 ·exact(h.raise 6 1 (by decide)).raise 9 m (by decide)
 ·split
  ·exact h.raise 7 m (by decide)
  ·split
   ·exact h.raise 8 m (by decide)
   ·split
    ·exact h.raise 9 m (by decide)
    ·split
     ·exact h.raise _ 1 ah
     ·split
      ·exact h.raise 13 1 (by decide)
      ·split
       ·exact h.raise _ m ah
       ·exact h
theorem cU.note {E:aq}{n:Nat}(h:cU E n)(op:Int)(l:List gx)(m:Nat):cU (E.note op l m) n:=
 (((h.raise 0 1 (by decide)).raise 2 l.length (by decide)).notes l).CB op m
theorem ajo (R:gL)(id:Nat)(t:List Bs):(jX R id t).2.2.K=R.K+1:=by
 unfold jX;split<;>rfl
theorem cU.write {E:aq}{n:Nat}(h:cU E n)(hn:n<7000)(c:dh)(hb:(cR E.g.E c.k).length≤65537):cU (E.write c) (n+1):=by
 have IY:=h.bf;have aX:=h.ok.write h.len h.aI ah c;have s1:=dF.tick h.ok h.len;have s2:=s1.trans (dF.out s1.ok s1.len (cR E.g.E c.k));have s3:=s2.trans (dF.out s2.ok s2.len [c.k]);have cN:E.pre c={ (E.tick.out (cR E.g.E c.k)).out [c.k] with bf:=E.bf+1}:=rfl;generalize (E.tick.out (cR E.g.E c.k)).out [c.k]=E3 at s3 cN;have pE:(E.pre c).s=E3.s∧(E.pre c).r=E3.r∧(E.pre c).bf=E.bf+1∧(E.pre c).a=E3.a∧(E.pre c).g=E3.g∧(E.pre c).p=E3.p:=by rw[cN];exact⟨rfl,rfl,rfl,rfl,rfl,rfl⟩
 have hp:b8 (E.pre c):=by
  rw[cN];have h3:=s3.ok.qY;rw[s3.bf] at h3;exact⟨s3.ok.o7,vq h3,s3.ok.se,s3.ok.nH,s3.ok.dC,s3.ok.now,by show E.bf+1<_;omega⟩
 obtain⟨e1,e2,e3,e4,e5,e6⟩:=pE;unfold aq.write at aX ⊢;generalize (E.pre c).Cu c=ne at aX ⊢;have h5:=(hp.drop ((E.pre c).s.put ne).1).fh ((E.pre c).s.put ne).2;have l5:=NT (E:={ E.pre c with s:=((E.pre c).s.put ne).1}) (by rw[e2];exact s3.len) ((E.pre c).s.put ne).2;have he:(E.pre c).put ne=aq.fh { E.pre c with s:=((E.pre c).s.put ne).1} ((E.pre c).s.put ne).2:=rfl;rw[←he] at h5 l5;have gZ:=WK (E.pre c).s ne;have B1:((E.pre c).s.put ne).1.K≤(E.pre c).s.K+1+(E.pre c).s.E.length:=by
  unfold bw.put;split
  ·exact bj _
  ·dsimp only;omega
 generalize (E.pre c).put ne=E6 at h5 l5 aX ⊢;obtain⟨g1,g2,g3,g4,g5,g6,g7,g8⟩:=h5;dsimp only at g2 g3 g4 g5 g6 g7;rw[e1] at gZ B1 g2 g3;rw[e2] at g3;have q:=l5.1.add E6.bf (cr c.t).1;have hK:=ajo E6.r E6.bf (cr c.t).1;have Tu:=h.lx;have uB:=h.sK;have BH:=h.gK;have b6:=h.al;have amW:=h.pK;have t1:=s3.lx;have t2:=s3.sK;have t3:=s3.gK;simp only[ie] at t2;have hs6:E6.s.E.length=(E3.s.put ne).1.E.length:=by rw[g2]
 have hs7:E6.s.K=(E3.s.put ne).1.K:=by rw[g2]
 refine⟨aX,q.1,?_,?_,?_,?_,?_,?_,?_⟩
 ·show(jX E6.r E6.bf (cr c.t).1).2.2.aI≤65536;rw[q.2,l5.2];show(E.pre c).r.aI≤_;rw[e2,s3.aI];exact h.aI
 ·show(jX E6.r E6.bf (cr c.t).1).2.2.K+E6.s.E.length≤2*E6.bf;rw[hK,g4,e3,hs6];omega
 ·show E6.bf≤n+1;rw[g4,e3];omega
 ·show E6.a.last≤n+1;rw[g5,e4,s3.al];omega
 ·show E6.s.K≤(n+1)*4194304;rw[hs7];omega
 ·show E6.g.K≤4*(n+1);rw[g6,e5];omega
 ·show E6.p.T.K≤n+1;rw[g7,e6,s3.pK];omega
end
section
attribute [local irreducible] GX
section
variable {P:Program}{ops:Array Oper}{Q:Exit→Act→World→Prop}{S:World→Prop}{n:Nat}
variable {i:Nat}{p:bZ}{e:Env}{w:World}{k:Kd}{dst:Option Tmp}{ty:TypeId}{pos:String}{an:Array Edge}{g:Option (Nat×Bool)}
theorem GO.KC [Fr](hk:cB k=true){t t2:TypeId}{x y:Operand}{ki:IntKind}{a b c:Int}(hw:aH ops e ⟨dst, .binOp .and t x y t2,ty,pos,an,g⟩=some true)(hx:ev e x=some (.int ki a))(hy:ev e y=some (.int ki b))(hd:fits n dst=true)
  (hr:∀w,(Op.intBits .and ki a b).run P w = .ok (.int ki c) w) (h:GX P ops Q S n p (e.put dst (.int ki c)) w):GO P ops Q S n k i ⟨dst, .binOp .and t x y t2,ty,pos,an,g⟩ p e w:=
 GO.bin hk hw hx hy hd (qZ _ _ _ _ _ _ _) (fun w=>by simp[binOp,hr]) h
end
attribute [local irreducible] GO
attribute [local irreducible] aA ao aQ aF fz star eo
theorem aie (k:Bs)(w:World):aj prog 163 [str k].toArray w fun v w'=>v = .bool (!bI k)∧w'=w:=by
 refine aj.enter func163 rfl ntmps163 rfl (gh ?_);refine GX.da (rO k _) rfl rfl rfl rfl rfl rfl (gh ?_);exact⟨rfl,rfl⟩
theorem aid {o:Og}{w:World}{z:Nat}(nd pt c:Int)(hc:∀w,(Op.intBits .and .u8 nd pt).run prog w = .ok (.int .u8 c) w)(hs:Start o w [fz (aA z [.int .u8 nd])]):aj prog 161 [.int .u8 pt,ak z].toArray w (Po o (.bool (decide (c≠0))) []):=by
 have hH:=hs.sh;refine aj.enter func161 rfl ntmps161 rfl (gh ?_);refine GX.next rfl (GO.KC rfl rfl rfl rfl rfl hc (gh ?_));exact⟨rfl,hH.to⟩
end
section
attribute [local irreducible] GO GX aA eo fz aF aQ ao star
variable {o:Og}{w:World}
theorem ae9 {a:Option Addr}{c:Nat}(l:List Bs)(hl:l.length<2^30)(hs:Start o w [aF a (aM l)]):aj prog 241 [.slice a l.length c, .func (.func 163) #[] #[]].toArray w (aU o (fun y:Int=>iV y) (fun y=>decide (0≤y)=l.any fun k=>!bI k) (fun _=>[])):=by
 have hH:=hs.sh;refine aj.enter func241 rfl ntmps241 rfl (gh ?_);refine GC.bP [0,1,7] (fun y:Nat=>[(8,iV y)]) (fun y w'=>y≤l.length∧(l.take y).any (fun k=>!bI k)=false∧SH o w' [aF a (aM l)]) (fun y=>l.length - y) 0 rfl rfl ⟨bh _,by simp,hH.to⟩ ?_;rintro j w ⟨hj,bG,hH⟩;refine gh ?_;refine ifs (fun h1=>?_) (fun h1=>?_)<;>refine gh ?_
 ·obtain⟨k,hk⟩:∃k,l[j]?=some k:=⟨_,bO ah⟩
  have nQ:=hH.bR (x:=aF a (aM l)) (a:=a) (cs:=aM l) bL;obtain⟨qb,qo,rfl⟩:=DF nQ (by rw[aM,fk];omega);refine gh ?_;refine GX.next rfl (GO.Jd (hA:=nQ) (hv:=show(aM l)[j]?=some (str k) by simp[aM,hk]) (h:=gh ?_));refine GX.da (aie k _) rfl rfl rfl rfl rfl rfl (gh ?_);cases hb:bI k with
  |false=>
   refine gh ?_;refine⟨(j:Int),rfl,?_,hH.to⟩;show decide ((0:Int)≤(j:Int))=_;rw[bQ ah];exact(xp.2 ⟨k,bF hk,by rw[hb];rfl⟩).symm
  |true=>
   refine gh ?_;refine GQ.br (j+1) rfl ⟨by omega,?_,hH⟩ ah;rw[ic,hk,List.any_append,bG];simp[hb]
 ·obtain rfl:j=l.length:=by omega
  rw[j5] at bG;refine gh ?_;exact⟨-1,rfl,by rw[bG];rfl,hH.to⟩
theorem aeR {a:Option Addr}{c:Nat}(l:List Bs)(hl:l.length<2^30)(hs:Start o w [aF a (aM l)]):aj prog 162 [.slice a l.length c, .func (.func 163) #[] #[]].toArray w (Po o (.bool (l.any fun k=>!bI k)) []):=by
 have hH:=hs.sh;refine aj.enter func162 rfl ntmps162 rfl (gh ?_);refine GX.dX (hc:=fun _ hs=>ae9 (a:=a) (c:=c) l hl hs) (h:=?_);rintro y w hy hE hH;replace hH:=SH.ap hH;refine gh ?_;rw[←hy];exact⟨rfl,hH.to⟩
def yC:List Int:=[13,1,64,5,144,160,3,128,0]
def OJ:List Int:=[1,2,4,8,16,32,64,128]
def zm (nd pt:Int):Int:=((nd.toNat &&& pt.toNat:Nat):Int)
def hasB (nd pt:Int):Bool:=decide (zm nd pt≠0)
theorem KD {nd pt:Int}(hn:nd∈yC)(hp:pt∈OJ)(w:World):(Op.intBits .and .u8 nd pt).run prog w = .ok (.int .u8 (zm nd pt)) w:=by
 simp only[yC,bY,tI,or_false] at hn;simp only[OJ,bY,tI,or_false] at hp
 rcases hn with rfl|rfl|rfl|rfl|rfl|rfl|rfl|rfl|rfl<;>rcases hp with rfl|rfl|rfl|rfl|rfl|rfl|rfl|rfl<;>rfl
theorem lJ {z:Nat}{nd:Int}(hn:nd∈yC)(pt:Int)(hp:pt∈OJ)(hs:Start o w [fz (aA z [.int .u8 nd])]):aj prog 161 [.int .u8 pt,ak z].toArray w (Po o (.bool (hasB nd pt)) []):=aid nd pt (zm nd pt) (KD hn hp) hs
def qW (cb:Nat)(nd:Int)(c:dh):Int:=
 if(hasB nd 1&&!bI c.k)=true then 2 else if(hasB nd 2&&!bI c.ch)=true then 2 else if(hasB nd 4&&decide ((c.d:Int)=0))=true then 2
 else if(hasB nd 16&&!fF c.tag)=true then 2 else if(hasB nd 32&&!decide (c.pre.length≤250))=true then 2
 else if(hasB nd 64&&(!decide (1≤(c.ks.length:Int)∧(c.ks.length:Int)≤16)||c.ks.any fun k=>!bI k))=true then 2
 else if(hasB nd 8&&(decide ((cr c.t).2≠0)&&decide ((cr c.t).2≠5)))=true then 2
 else if(hasB nd 8&&(decide ((cr c.t).2≠0)||decide (65536<c.v.length)))=true then 5
 else if(hasB nd 8&&decide (cb<c.k.length+c.v.length+64+lW (cr c.t).1))=true then 12 else 0
theorem alF (l:List Bs):(cr l).2=0∨(cr l).2=2∨(cr l).2=5:=by
 unfold cr
 (repeat' split)<;>simp
theorem aaD {k:Bs}{m:Nat}{l:List Bs}(h1:bI k=true)(h2:cr l=(l,0))(h3:m≤65536):mf k m l=(((k.length+m+64+lW l:Nat):Int),0):=by
 unfold mf;rw[if_pos ⟨h1,by rw[h2],by rw[h2]⟩,if_neg ah]
theorem aa9 {b:Nat}{E:aq}{nd:Int}(hn:nd∈yC)(c:dh)(y:iR)(sU:c.k.length<2^40)(kG:c.v.length<2^40)(qK:c.t.length<2^40)(ff:c.ks.length<2^30)(hs:Start o w [bU b E,aF y.k.1 (aM c.ks),aF y.t.1 (aM c.t)]) :
  aj prog 98 [ak b, .agg (jH c y).toArray, .int .u8 nd].toArray w (Po o (iV (qW E.cb nd c)) [bU b E]):=by
 have hH:=hs.sh;have oP:=hn;simp only[yC,bY,tI,or_false] at oP;obtain⟨X,hH⟩:=SH.un hH;replace hH:=SH.ap hH;dsimp only[eK] at hH;refine aj.enter func98 rfl ntmps98 rfl (gh ?_);refine GX.cw (h:=fun z w hH=>gh ?_);refine GX.cw (h:=fun f w hH=>gh ?_);refine GX.dX (hc:=fun _ hs=>Gd (a:=y.t.1) c.t rfl qK hs) (h:=?_);rintro⟨qt,c9⟩ w _ hE hH;replace hH:=SH.ap hH;dsimp only[mM] at hH;have wq:=AU c.t;have xU:=Pm c.t;generalize hp:qW E.cb nd c=p;unfold qW at hp;generalize (cr c.t).1=tg at hp hH xU wq ⊢;have yf:=alF c.t;generalize (cr c.t).2=te at hp hH yf ⊢;refine gh ?_
 rcases oP with rfl|rfl|rfl|rfl|rfl|rfl|rfl|rfl|rfl
 ·refine GX.aL (hc:=fun _ hs=>lJ hn 1 (by decide) hs) (h:=fun w hE hH=>gh ?_);refine GX.da (rO c.k _) rfl rfl rfl rfl rfl rfl (gh ?_);cases hk:bI c.k<;>rw[hk] at hp<;>refine gh ?_
  ·exact⟨congrArg (fun v:Int=>iV v) hp,(cV (X:=X) (E:=E) hH).to⟩
  refine GX.aL (hc:=fun _ hs=>lJ hn 2 (by decide) hs) (h:=fun w hE hH=>gh ?_);refine GX.aL (hc:=fun _ hs=>lJ hn 4 (by decide) hs) (h:=fun w hE hH=>gh ?_);cases hd:decide ((c.d:Int)=0)<;>rw[hd] at hp<;>refine gh ?_
  case' true=>exact⟨congrArg (fun v:Int=>iV v) hp,(cV (X:=X) (E:=E) hH).to⟩
  refine GX.aL (hc:=fun _ hs=>lJ hn 16 (by decide) hs) (h:=fun w hE hH=>gh ?_);refine GX.aL (hc:=fun _ hs=>lJ hn 32 (by decide) hs) (h:=fun w hE hH=>gh ?_);refine GX.aL (hc:=fun _ hs=>lJ hn 64 (by decide) hs) (h:=fun w hE hH=>gh ?_);refine GX.aL (hc:=fun _ hs=>lJ hn 8 (by decide) hs) (h:=fun w hE hH=>gh ?_)
  rcases yf with rfl|rfl|rfl
  ·refine gh ?_;refine GX.aL (hc:=fun _ hs=>lJ hn 8 (by decide) hs) (h:=fun w hE hH=>gh ?_);refine ifs (fun hv=>?_) (fun hv=>?_)<;>refine gh ?_
   ·rw[show decide (65536<c.v.length)=true from bQ ah] at hp;exact⟨congrArg (fun v:Int=>iV v) hp,(cV (X:=X) (E:=E) hH).to⟩
   rw[show decide (65536<c.v.length)=false from bt ah] at hp;refine GX.aL (hc:=fun _ hs=>lJ hn 8 (by decide) hs) (h:=fun w hE hH=>gh ?_);replace hH:=SH.freeze (el:=9) (sz:=1) (q:=qt) (n:=tg.length) (c:=c9) (cs:=aM tg) hH bL;refine GX.aL (hc:=fun _ hs=>by have:=QQ (a:=ay qt) (n:=tg.length) (c:=c9) (m:=c.v.length) (mc:=y.v.2) (va:=y.v.1) c.k tg ah ah rfl ah hs;rw[aaD hk xU ah] at this;exact this) (h:=fun w hE hH=>gh ?_);refine gh ?_;cases hb:decide (E.cb<c.k.length+c.v.length+64+lW tg) with
   |true=>
    rw[hb] at hp;rw[show decide ((E.cb:Int)<((c.k.length+c.v.length+64+lW tg:Nat):Int))=true from bQ (by have:=eN hb;omega)];refine gh ?_;exact⟨congrArg (fun v:Int=>iV v) hp,(cV (X:=X) (E:=E) hH).to⟩
   |false=>
    rw[hb] at hp;rw[show decide ((E.cb:Int)<((c.k.length+c.v.length+64+lW tg:Nat):Int))=false from bt (by have:=y6 hb;omega)];refine gh ?_;exact⟨congrArg (fun v:Int=>iV v) hp,(cV (X:=X) (E:=E) hH).to⟩
  ·refine gh ?_;exact⟨congrArg (fun v:Int=>iV v) hp,(cV (X:=X) (E:=E) hH).to⟩
  ·refine gh ?_;refine GX.aL (hc:=fun _ hs=>lJ hn 8 (by decide) hs) (h:=fun w hE hH=>gh ?_);refine gh ?_;exact⟨congrArg (fun v:Int=>iV v) hp,(cV (X:=X) (E:=E) hH).to⟩
 all_goals refine GX.aL (hc:=fun _ hs=>lJ hn 1 (by decide) hs) (h:=fun w hE hH=>gh ?_)
 all_goals first|(refine GX.da (rO c.k _) rfl rfl rfl rfl rfl rfl (gh ?_);cases hk:bI c.k<;>rw[hk] at hp<;>refine gh ?_)|skip
 all_goals first|(refine⟨?_,(cV (X:=X) (E:=E) hH).to⟩;exact congrArg (fun v:Int=>iV v) hp)|skip
 all_goals refine GX.aL (hc:=fun _ hs=>lJ hn 2 (by decide) hs) (h:=fun w hE hH=>gh ?_)
 all_goals first|(refine GX.da (rO c.ch _) rfl rfl rfl rfl rfl rfl (gh ?_);cases kC:bI c.ch<;>rw[kC] at hp<;>refine gh ?_)|skip
 all_goals first|(refine⟨?_,(cV (X:=X) (E:=E) hH).to⟩;exact congrArg (fun v:Int=>iV v) hp)|skip
 all_goals refine GX.aL (hc:=fun _ hs=>lJ hn 4 (by decide) hs) (h:=fun w hE hH=>gh ?_)
 all_goals first|(cases hd:decide ((c.d:Int)=0)<;>rw[hd] at hp<;>refine gh ?_)|skip
 all_goals first|(refine⟨?_,(cV (X:=X) (E:=E) hH).to⟩;exact congrArg (fun v:Int=>iV v) hp)|skip
 all_goals refine GX.aL (hc:=fun _ hs=>lJ hn 16 (by decide) hs) (h:=fun w hE hH=>gh ?_)
 all_goals first|(refine GX.da (I5 c.tag _) rfl rfl rfl rfl rfl rfl (gh ?_);cases rF:fF c.tag<;>rw[rF] at hp<;>refine gh ?_)|skip
 all_goals first|(refine⟨?_,(cV (X:=X) (E:=E) hH).to⟩;exact congrArg (fun v:Int=>iV v) hp)|skip
 all_goals refine GX.aL (hc:=fun _ hs=>lJ hn 32 (by decide) hs) (h:=fun w hE hH=>gh ?_)
 all_goals first|(refine GX.da (Fg c.pre _) rfl rfl rfl rfl rfl rfl (gh ?_);cases uk:decide (c.pre.length≤250)<;>rw[uk] at hp<;>refine gh ?_)|skip
 all_goals first|(refine⟨?_,(cV (X:=X) (E:=E) hH).to⟩;exact congrArg (fun v:Int=>iV v) hp)|skip
 all_goals refine GX.aL (hc:=fun _ hs=>lJ hn 64 (by decide) hs) (h:=fun w hE hH=>gh ?_)
 all_goals first|(refine GX.da (Bq c.ks.length 16 _) rfl rfl rfl rfl rfl rfl (gh ?_);cases hk5:decide (1≤(c.ks.length:Int)∧(c.ks.length:Int)≤16)<;>rw[hk5] at hp<;>refine gh ?_)|skip
 all_goals first|(refine⟨?_,(cV (X:=X) (E:=E) hH).to⟩;exact congrArg (fun v:Int=>iV v) hp)|skip
 all_goals first|(refine GX.aL (hc:=fun _ hs=>aeR (a:=y.k.1) c.ks ff hs) (h:=fun w hE hH=>gh ?_);cases MA:(c.ks.any fun k=>!bI k)<;>rw[MA] at hp<;>refine gh ?_)|skip
 all_goals first|(refine⟨?_,(cV (X:=X) (E:=E) hH).to⟩;exact congrArg (fun v:Int=>iV v) hp)|skip
 all_goals refine GX.aL (hc:=fun _ hs=>lJ hn 8 (by decide) hs) (h:=fun w hE hH=>gh ?_)
 all_goals refine GX.aL (hc:=fun _ hs=>lJ hn 8 (by decide) hs) (h:=fun w hE hH=>gh ?_)
 all_goals refine GX.aL (hc:=fun _ hs=>lJ hn 8 (by decide) hs) (h:=fun w hE hH=>gh ?_)
 all_goals exact⟨congrArg (fun v:Int=>iV v) hp,(cV (X:=X) (E:=E) hH).to⟩
noncomputable def aq.eT (E:aq)(t:Nat)(nd:Int)(c:dh):Int:=
 if qW E.cb nd c≠0 then qW E.cb nd c else if hasB nd 8=true then E.Kf (max E.now t) c else if c.op=11 then E.g.py c.k c.ch else 0
theorem Ra {b:Nat}{E:aq}(hG:b8 E)(t:Nat){nd:Int}(hn:nd∈yC)(c:dh)(y:iR)(sU:c.k.length<2^40)(kG:c.v.length<2^40)(qK:c.t.length<2^40)(ff:c.ks.length<2^30)(BH:E.g.K<2^39)(hs:Start o w [bU b E,aF y.k.1 (aM c.ks),aF y.t.1 (aM c.t)]) :
  aj prog 55 [ak b,uV t, .agg (jH c y).toArray, .int .u8 nd].toArray w (Po o (iV (E.eT t nd c)) [bU b E]):=by
 have hH:=hs.sh;replace hH:=SH.xH (a:=y.t.1) (cs:=aM c.t) hH bL;have b6:=hG.nH;refine aj.enter func55 rfl ntmps55 rfl (gh ?_);refine GX.cw (h:=fun z w hH=>gh ?_);refine GX.bz (hc:=fun _ hs=>aa9 hn c y sU kG qK ff hs) (h:=fun w hH=>gh ?_);unfold aq.eT;generalize qW E.cb nd c=p
 by_cases hp:p=0
 ·subst hp;rw[if_neg (by simp)];refine gh ?_;refine GX.next rfl (GO.KC rfl rfl rfl rfl rfl (KD hn (by decide)) (gh ?_));cases h8:hasB nd 8 with
  |true=>
   rw[show decide (zm nd 8≠0)=true from h8,if_pos rfl];refine gh ?_;obtain⟨X,hH⟩:=SH.un hH;replace hH:=SH.ap hH;dsimp only[eK] at hH;refine GC.bq (pl:=(aZ [0,3,6,9,15,22,14,20,26,27])) (T:=cS [z]) (hm:=mixed) (h:=fun w hE hH=>gh ?_);refine GX.pA (hc:=Dy E.now t _) (h:=gh ?_);replace hH:=cV (X:=X) (E:=E) hH;refine GX.gz (hc:=fun _ hs=>abh hG (max E.now t) c y qK hs) (h:=fun w hS hH=>gh ?_);exact⟨rfl,hH.to⟩
  |false=>
   rw[show decide (zm nd 8≠0)=false from h8,if_neg (by simp)];refine gh ?_;obtain⟨X,hH⟩:=SH.un hH;replace hH:=SH.ap hH;dsimp only[eK] at hH;refine GX.next rfl (GO.KC rfl rfl rfl rfl rfl (KD hn (by decide)) (gh ?_));cases RE:hasB nd 128 with
   |true=>
    rw[show decide (zm nd 128≠0)=true from RE];refine gh ?_;refine GX.aL (hc:=fun _ hs=>XI (S:=E.a) hs) (h:=fun w hE hH=>gh ?_);rw[show decide ((E.a.last:Int)=18446744073709551615)=false from bt ah];refine gh ?_
    by_cases dG:c.op=11
    ·rw[show decide ((c.op:Int)=11)=true by simp[dG],if_pos dG];refine gh ?_;refine GC.bq (pl:=(aZ [0,3,6,15,21,10,19,25,14,29,30,33,36,39,42])) (T:=cS [b,z]) (hm:=mixed) (h:=fun w hE hH=>gh ?_);refine GX.ew (hc:=fun _ hs=>Ll (A:=E.g) hs) (h:=?_);rintro pg w _ hS hH;replace hH:=SH.ap hH;refine gh ?_;refine GX.gz (hc:=fun _ hs=>Lk (A:=E.g) c.k c.ch ah hs) (h:=fun w hS hH=>gh ?_);exact⟨rfl,(cV (X:=X) (E:=E) hH).to⟩
    ·rw[show decide ((c.op:Int)=11)=false by simp;omega,if_neg dG];refine gh ?_;exact⟨rfl,(cV (X:=X) (E:=E) hH).to⟩
   |false=>
    rw[show decide (zm nd 128≠0)=false from RE];refine gh ?_
    by_cases dG:c.op=11
    ·rw[show decide ((c.op:Int)=11)=true by simp[dG],if_pos dG];refine gh ?_;refine GC.bq (pl:=(aZ [0,3,6,15,21,10,19,25,14,29,30,33,36,39,42])) (T:=cS [b,z]) (hm:=mixed) (h:=fun w hE hH=>gh ?_);refine GX.ew (hc:=fun _ hs=>Ll (A:=E.g) hs) (h:=?_);rintro pg w _ hS hH;replace hH:=SH.ap hH;refine gh ?_;refine GX.gz (hc:=fun _ hs=>Lk (A:=E.g) c.k c.ch ah hs) (h:=fun w hS hH=>gh ?_);exact⟨rfl,(cV (X:=X) (E:=E) hH).to⟩
    ·rw[show decide ((c.op:Int)=11)=false by simp;omega,if_neg dG];refine gh ?_;exact⟨rfl,(cV (X:=X) (E:=E) hH).to⟩
 ·rw[if_pos hp,show decide (p≠0)=true from bQ hp];refine gh ?_;exact⟨rfl,hH.to⟩
end
section
theorem abC {α:Type}(p:α→Bool)(l:List α):(l.filter p).length+(l.filter fun x=>!p x).length=l.length:=by
 induction l with
 |nil=>rfl
 |cons x l ih=>cases h:p x<;>simp[oo,h]<;>omega
def aq.mz (E:aq)(t:Nat):aq:={ E with now:=max E.now t,a:=E.a.at (max E.now t),s:=E.s.left (max E.now t)}
def aq.start (E:aq)(t:Nat):aq:=(E.mz t).fh (E.s.gone (max E.now t))
theorem cU.mz {E:aq}{n:Nat}(h:cU E n){t:Nat}(ht:t≤never):b8 (E.mz t):=
 ⟨h.ok.o7,h.ok.qY,h.ok.se,h.ok.nH,h.ok.dC,Nat.max_le.2 ⟨h.ok.now,ht⟩,h.ok.bf⟩
theorem cU.start {E:aq}{n:Nat}(h:cU E n)(hn:n<8000){t:Nat}(ht:t≤never):cU (E.start t) (n+1):=by
 have hu:=h.up (rk n);have hg:(E.s.gone (max E.now t)).length+(E.s.left (max E.now t)).E.length=E.s.E.length:=by
  show(AS _).length+(E.s.E.filter _).length=_;rw[(FR _).length_eq];exact abC _ _
 have hK:(E.s.left (max E.now t)).K=E.s.K+(E.s.gone (max E.now t)).length:=rfl;have h1:=(h.mz ht).fh (E.s.gone (max E.now t));have l1:=NT (E:=E.mz t) h.len (E.s.gone (max E.now t));have e1:(E.mz t).s=E.s.left (max E.now t):=rfl;have e2:(E.mz t).r=E.r:=rfl;have e3:(E.mz t).bf=E.bf:=rfl;have e4:(E.mz t).a.last=E.a.last:=rfl;have e5:(E.mz t).g=E.g:=rfl;have e6:(E.mz t).p=E.p:=rfl;unfold aq.start;generalize (E.mz t).fh (E.s.gone (max E.now t))=X at h1 l1 ⊢;obtain⟨g1,g2,g3,g4,g5,g6,g7,g8⟩:=h1;have Tu:=h.lx;have IY:=h.bf;have b6:=h.al;have uB:=h.sK;rw[e2] at g3 l1;refine⟨g1,l1.1,by rw[l1.2];exact h.aI,?_,by rw[g4,e3];exact hu.bf,by rw[g5,e4];exact hu.al,?_,by rw[g6,e5];exact hu.gK,by rw[g7,e6];exact hu.pK⟩
 ·rw[g4,e3,g2,e1];omega
 ·rw[g2,e1,hK];omega
structure Bc where
 op:Int
 err:Int
 L:List l8
 bf:Nat
 n:Nat
 uT:List Nat
def OV:Bc:=⟨0,0,[],0,0,[]⟩
noncomputable def aq.act (E:aq)(c:dh):aq×Bc:=
 if c.op=1∨c.op=2∨c.op=3 then(E.write c,⟨c.op,0,[],E.bf+1,(cR E.g.E c.k).length,[]⟩)
 else if c.op=4∨c.op=5 then((E.gU c.keys).1,⟨c.op,0,(E.gU c.keys).2,0,0,[]⟩)
 else if c.op=6 then(E.oa c.k c.d,⟨c.op,0,[],0,if E.live c.k=true then 1 else 0,[]⟩)
 else if c.op=7 then(E.del c.k,⟨c.op,0,[],0,if E.live c.k=true then 1 else 0,[]⟩)
 else if c.op=8∨c.op=9 then(E.AI c.op c.tag,⟨c.op,0,[],0,0,[]⟩)
 else if c.op=10∨c.op=14 then(E.wQ c.op c.pre,⟨c.op,0,[],0,0,[]⟩)
 else if c.op=11∨c.op=12 then(E.tX c.op c.k c.ch,⟨c.op,0,[],0,if E.Du c.op c.k c.ch=true then 1 else 0,[]⟩)
 else if c.op=13 then(E.yt c.k,⟨c.op,0,[],0,(cR E.g.E c.k).length,[]⟩)
 else(E,⟨c.op,0,[],0,0,E.dC⟩)
theorem cU.act {E:aq}{n:Nat}(h:cU E n)(hn:n<7000)(c:dh)(hk:c.keys.length<2^20)
  (hb:(c.op=1∨c.op=2∨c.op=3)∨c.op=13∨(c.op=7∧E.live c.k=true)→(cR E.g.E c.k).length≤65537):cU (E.act c).1 (n+1):=by
 unfold aq.act;split
 ·exact h.write hn c (hb (.inl (by assumption)))
 split
 ·exact h.FP (dF.gU h.ok h.len c.keys) ah ah
 split
 ·exact h.FP (dF.oa h.ok h.len c.k c.d) ah ah
 split
 ·rename_i h7
  by_cases hl:E.live c.k=true
  ·have:=hb (.inr (.inr ⟨h7,hl⟩));exact h.FP (dF.del h.ok h.len c.k) ah ah
  ·have e:E.del c.k=E.meet c.k:=by unfold aq.del;rw[if_neg hl]
   show cU (E.del c.k) (n+1);rw[e];exact h.FP (dF.meet h.ok h.len c.k) ah ah
 split
 ·exact h.AI ah _ _
 split
 ·exact h.wQ ah _ _
 split
 ·exact h.tX _ _ _
 split
 ·rename_i Ln
  have:=hb (.inr (.inl Ln));exact h.FP (dF.yt h.ok h.len c.k) ah ah
 ·exact h.up (rk n)
def aq.jV (E:aq)(op:Int)(L:List l8)(n:Nat):aq:=E.note op (L.map fun i=>(⟨i,none,0⟩:gx)) n
theorem ahq {l m:List gx}(E:aq)(h:l.map (·.i)=m.map (·.i)):E.notes l=E.notes m:=by
 unfold aq.notes
 induction l generalizing m E with
 |nil=>cases m with
  |nil=>rfl
  |cons y m=>cases h
 |cons x l ih=>
  cases m with
  |nil=>cases h
  |cons y m=>
   simp only[cK,List.cons.injEq] at h;rw[ph,ph,h.1];exact ih _ h.2
theorem wI (E:aq)(op:Int){l:List gx}{L:List l8}(h:l.map (·.i)=L)(n:Nat):E.note op l n=E.jV op L n:=by
 have h2:l.map (·.i)=(L.map fun i=>(⟨i,none,0⟩:gx)).map (·.i):=by rw[h,nB];simp[Function.comp_def]
 have h3:l.length=(L.map fun i=>(⟨i,none,0⟩:gx)).length:=by have:=congrArg List.length h2;simpa using this
 unfold aq.jV aq.note;rw[ahq _ h2,h3]
def nW (op:Int):Int:=if op=1∨op=2∨op=3 then 13 else if op=4∨op=7∨op=13 then 1 else if op=5 then 64 else if op=6 then 5 else if op=8∨op=9 then 144 else if op=10 then 160 else if op=11∨op=12 then 3 else if op=14 then 128 else 0
theorem V8 (op:Int):nW op∈yC:=by
 unfold nW
 (repeat' split)<;>simp[yC]
def kf (op:Int):Nat:=if op=1∨op=2∨op=3 then 89 else if op=4∨op=5 then 90 else if op=6 then 91 else if op=7 then 92 else if op=8∨op=9 then 94 else if op=10∨op=14 then 95 else if op=11∨op=12 then 96 else if op=13 then 93 else 97
theorem Y6 {op:Int}(h:1≤op∧op<16):Bf op = .agg #[.func (.func (kf op)) #[] #[], .int .u8 (nW op)]:=by
 have hc:op=1∨op=2∨op=3∨op=4∨op=5∨op=6∨op=7∨op=8∨op=9∨op=10∨op=11∨op=12∨op=13∨op=14∨op=15:=by omega
 rcases hc with rfl|rfl|rfl|rfl|rfl|rfl|rfl|rfl|rfl|rfl|rfl|rfl|rfl|rfl|rfl<;>rfl
theorem Gt {E:aq}{c:dh}(h:c.op=1∨c.op=2∨c.op=3):E.act c=(E.write c,⟨c.op,0,[],E.bf+1,(cR E.g.E c.k).length,[]⟩):=by
 unfold aq.act;rw[if_pos h]
theorem YV {op:Int}(h:op=1∨op=2∨op=3):kf op=89:=by
 unfold kf;rw[if_pos h]
theorem Ky {E:aq}{c:dh}(h:c.op=4∨c.op=5):E.act c=((E.gU c.keys).1,⟨c.op,0,(E.gU c.keys).2,0,0,[]⟩):=by
 unfold aq.act;rw[if_neg ah,if_pos h]
theorem YW {op:Int}(h:op=4∨op=5):kf op=90:=by
 unfold kf;rw[if_neg ah,if_pos h]
theorem PO {E:aq}{c:dh}(h:c.op=6):E.act c=(E.oa c.k c.d,⟨c.op,0,[],0,if E.live c.k=true then 1 else 0,[]⟩):=by
 unfold aq.act;rw[if_neg ah,if_neg ah,if_pos h]
theorem YX {op:Int}(h:op=6):kf op=91:=by
 unfold kf;rw[if_neg ah,if_neg ah,if_pos h]
theorem PQ {E:aq}{c:dh}(h:c.op=7):E.act c=(E.del c.k,⟨c.op,0,[],0,if E.live c.k=true then 1 else 0,[]⟩):=by
 unfold aq.act;rw[if_neg ah,if_neg ah,if_neg ah,if_pos h]
theorem YY {op:Int}(h:op=7):kf op=92:=by
 unfold kf;rw[if_neg ah,if_neg ah,if_neg ah,if_pos h]
theorem PR {E:aq}{c:dh}(h:c.op=8∨c.op=9):E.act c=(E.AI c.op c.tag,⟨c.op,0,[],0,0,[]⟩):=by
 unfold aq.act;rw[if_neg ah,if_neg ah,if_neg ah,if_neg ah,if_pos h]
theorem YZ {op:Int}(h:op=8∨op=9):kf op=94:=by
 unfold kf;rw[if_neg ah,if_neg ah,if_neg ah,if_neg ah,if_pos h]
theorem Kz {E:aq}{c:dh}(h:c.op=10∨c.op=14):E.act c=(E.wQ c.op c.pre,⟨c.op,0,[],0,0,[]⟩):=by
 unfold aq.act;rw[if_neg ah,if_neg ah,if_neg ah,if_neg ah,if_neg ah,if_pos h]
theorem Y0 {op:Int}(h:op=10∨op=14):kf op=95:=by
 unfold kf;rw[if_neg ah,if_neg ah,if_neg ah,if_neg ah,if_neg ah,if_pos h]
theorem PS {E:aq}{c:dh}(h:c.op=11∨c.op=12):E.act c=(E.tX c.op c.k c.ch,⟨c.op,0,[],0,if E.Du c.op c.k c.ch=true then 1 else 0,[]⟩):=by
 unfold aq.act;rw[if_neg ah,if_neg ah,if_neg ah,if_neg ah,if_neg ah,if_neg ah,if_pos h]
theorem Y1 {op:Int}(h:op=11∨op=12):kf op=96:=by
 unfold kf;rw[if_neg ah,if_neg ah,if_neg ah,if_neg ah,if_neg ah,if_neg ah,if_pos h]
theorem PT {E:aq}{c:dh}(h:c.op=13):E.act c=(E.yt c.k,⟨c.op,0,[],0,(cR E.g.E c.k).length,[]⟩):=by
 unfold aq.act;rw[if_neg ah,if_neg ah,if_neg ah,if_neg ah,if_neg ah,if_neg ah,if_neg ah,if_pos h]
theorem Y2 {op:Int}(h:op=13):kf op=93:=by
 unfold kf;rw[if_neg ah,if_neg ah,if_neg ah,if_neg ah,if_neg ah,if_neg ah,if_neg ah,if_pos h]
theorem Y4 {E:aq}{c:dh}(h:c.op=15):E.act c=(E,⟨c.op,0,[],0,0,E.dC⟩):=by
 unfold aq.act;rw[if_neg ah,if_neg ah,if_neg ah,if_neg ah,if_neg ah,if_neg ah,if_neg ah,if_neg ah]
theorem Y3 {op:Int}(h:op=15):kf op=97:=by
 unfold kf;rw[if_neg ah,if_neg ah,if_neg ah,if_neg ah,if_neg ah,if_neg ah,if_neg ah,if_neg ah]
noncomputable def aq.cI (E:aq)(t:Nat)(c:dh):aq×Bc×Int:=
 if 1≤c.op∧c.op<16 then
  (if E.eT t (nW c.op) c=0 then((((E.start t).act c).1.jV c.op ((E.start t).act c).2.L ((E.start t).act c).2.n),((E.start t).act c).2,0)
  else(E.raise 1 1,⟨c.op,E.eT t (nW c.op) c,[],0,0,[]⟩,0))
 else(E,OV,2)
end
end Go.Proofs.YtmlpbmgfmnmmmaaGreat.V.M
