/-
  Parts of the proof. No condition.
-/
import Derived.Test.YtoloaehmppcjoaaGreatW2br
set_option linter.unusedVariables false
set_option linter.unusedSimpArgs false
set_option maxRecDepth 8000
set_option maxHeartbeats 8000000
open Go.Proofs.Tryz
namespace Go.Proofs.YtoloaehmppcjoaaGreat.V.M
section
attribute [local irreducible] GO GX aB eX fz aF aS aq star
structure gI where
 i:mX
 q:Option Nat×Nat
def py (r:gI):List Value:=Fm r.i r.q
def W5 (r:gI):List It:=Fl r.i r.q
def AL (L:List gI):List It:=(L.map W5).flatten
theorem aiN (r:gI):(py r).length=4:=rfl
theorem JZ (r:gI):∀u∈py r,u.oneCell'=true:=by
 intro u hu;simp only[py,Fm,bU,uc,or_false] at hu
 rcases hu with rfl|rfl|rfl|rfl<;>rfl
def bw.vp (s:bw)(k:Bs):bw:=if bf k=true then(match jq s.E k with
 |some e=>s.use e
 |none=>s) else s
theorem KI.eq {s:bw}{k:Bs}{y:cG×Int×bw}(h:KI s k y):y.2.2=s.vp k:=by
 unfold bw.vp
 rcases h with⟨h1,rfl⟩|⟨h1,⟨h2,rfl⟩|⟨h2,_,h3⟩⟩
 ·rw[h1];rfl
 ·rw[if_pos h1,h2]
 ·rw[if_pos h1,h2,h3]
def ao.mB (E:ao)(k:Bs):ao:={ E.meet k with s:=(E.meet k).s.vp k}
def ao.pU (E:ao)(k:Bs):mX:=(E.meet k).item k (E.meet k).now
def ao.iJ (E:ao)(l:List Bs):ao×List mX:=l.foldl (fun y k=>(y.1.mB k,y.2++[y.1.pU k])) (E,[])
theorem ao.aca (E:ao){l:List Bs}{i:Nat}{k:Bs}(h:l[i]?=some k):E.iJ (l.take (i+1))=((E.iJ (l.take i)).1.mB k,(E.iJ (l.take i)).2++[(E.iJ (l.take i)).1.pU k]):=by
 unfold ao.iJ;rw[gv,h,vC];rfl
theorem Yq (s:bw)(k:Bs):(s.vp k).K=s.K:=by
 unfold bw.vp;split
 ·split<;>rfl
 ·rfl
theorem cm.mB {E:ao}(h:cm E)(k:Bs):cm (E.mB k)∧(E.mB k).s.K≤E.s.K+1∧(E.mB k).r.K≤E.r.K+1:=by
 obtain⟨h1,h2,h3⟩:=h.meet k;exact⟨h1.drop _,by show((E.meet k).s.vp k).K≤_;rw[Yq];exact h2,h3⟩
theorem cm.iJ {E:ao}(h:cm E)(l:List Bs):cm (E.iJ l).1∧(E.iJ l).1.s.K≤E.s.K+l.length∧(E.iJ l).1.r.K≤E.r.K+l.length∧(E.iJ l).2.length=l.length:=by
 suffices hh:∀(l:List Bs) (y:ao×List mX),cm y.1→cm (l.foldl (fun y k=>(y.1.mB k,y.2++[y.1.pU k])) y).1∧(l.foldl (fun y k=>(y.1.mB k,y.2++[y.1.pU k])) y).1.s.K≤y.1.s.K+l.length∧(l.foldl (fun y k=>(y.1.mB k,y.2++[y.1.pU k])) y).1.r.K≤y.1.r.K+l.length∧(l.foldl (fun y k=>(y.1.mB k,y.2++[y.1.pU k])) y).2.length=y.2.length+l.length by
  have:=hh l (E,[]) h;simpa[ao.iJ] using this
 intro l
 induction l with
 |nil=>intro y hy;exact⟨hy,aY _,aY _,rfl⟩
 |cons k l ih=>
  intro y hy;obtain⟨h1,h2,h3⟩:=hy.mB k;obtain⟨k1,k2,k3,k4⟩:=ih (y.1.mB k,y.2++[y.1.pU k]) h1;rw[pL,ek];dsimp only at k2 k3 k4;rw[bH,gW] at k4;exact⟨k1,by omega,by omega,by omega⟩
def dd.keys (c:dd):List Bs:=if c.op=4 then[c.k] else c.ks
theorem aa7 {o:Og}{w:World}{b rb:Nat}{E:ao}(hG:cm E)(c:dd)(y:jX){r0 r1 r3 r4 r5:Value}(fy:c.ks.length<2^30)(uP:E.s.K<2^57)(hK:E.r.K<2^38)(hs:Start o w [cB b E,aB rb [r0,r1, .slice none 0 0,r3,r4,r5],aF (y.k.1) (aK c.ks)]) :
  aj prog 114 [ak b, .agg (lp c y).toArray,ak rb].toArray w (aX o (fun _:List gI×Option Nat×Nat => .tuple #[]) (fun x=>x.1.map (·.i)=(E.iJ c.keys).2) (fun x=>[cB b (E.iJ c.keys).1,aB rb [r0,r1, .slice (aA x.2.1) x.1.length x.2.2,r3,r4,r5],aq 64 4 x.2.1 x.1.length x.2.2 (aL py x.1),bJ (AL x.1)])):=by
 have hH:=hs.sh;refine aj.enter func114 rfl ntmps114 rfl (gh ?_);refine GX.cI (h:=fun z w hH=>gh ?_);refine GC.cut (X:=Option Addr×Nat) (fun x=>[(0,ak b),(2,ak rb),(6, .slice x.1 c.keys.length x.2)]) (fun x w'=>SH o w' [cB b E,aB rb [r0,r1, .slice none 0 0,r3,r4,r5],aF x.1 (aK c.keys)]) ?_ ?_
 ·by_cases dA:c.op=4
  ·have hk:c.keys=[c.k]:=if_pos dA;rw[show decide ((c.op:Int)=4)=true by simp[dA],hk];refine gh ?_;refine GX.oF (h:=fun b1 w hH=>gh ?_);replace hH:=hH.freeze az.here;exact GQ.dm (aA (some b1),1) (cR (l:=[0,2,6]) rfl) hH.to
  ·have hk:c.keys=c.ks:=if_neg dA;rw[show decide ((c.op:Int)=4)=false by simp;omega,hk];refine gh ?_;exact GQ.dm y.k (cR (l:=[0,2,6]) rfl) hH.to
 rintro⟨q0,c0⟩ w hH;have cV:c.keys.length<2^30:=by
  unfold dd.keys;split
  ·simp
  ·exact fy
 generalize c.keys=ks at hH cV ⊢;have aQ:=SH.cF (el:=64) (sz:=4) (q:=none) (n:=0) (c:=0) (cs:=[]) hH (Mod.refl w) (fun _ h=>by cases h) (aH.nil _ _ _);replace hH:=aQ.pR;clear aQ;dsimp only at hH ⊢;refine gh ?_;refine GC.bR [0,2,17,18] (fun x:Nat×List gI×Option Nat×Nat=>[(19,iV x.1)]) (fun x w'=>x.1≤ks.length∧x.2.1.map (·.i)=(E.iJ (ks.take x.1)).2∧SH o w' [cB b (E.iJ (ks.take x.1)).1,aB rb [r0,r1, .slice (aA x.2.2.1) x.2.1.length x.2.2.2,r3,r4,r5],aq 64 4 x.2.2.1 x.2.1.length x.2.2.2 (aL py x.2.1),bJ (AL x.2.1),aF q0 (aK ks)]) (fun x=>ks.length - x.1) (0,[],none,0) rfl rfl ⟨bh _,rfl,hH.to⟩ ?_;rintro⟨i,L,q,cc⟩ w ⟨hi,hL,hH⟩;dsimp only at hi hL hH ⊢;have aU:=hG.iJ (ks.take i);have tD:=fun k=>@ao.aca E ks i k
 generalize hEI:E.iJ (ks.take i)=EI at hL hH aU tD;obtain⟨E1,Is⟩:=EI;obtain⟨fL,rT,je,rU⟩:=aU;dsimp only at hL hH fL rT je rU tD;have aN:(ks.take i).length≤ks.length:=by rw[dI];omega
 have RP:L.length=(ks.take i).length:=by rw[←rU,←hL,fH]
 refine gh ?_;refine ifs (fun h1=>?_) (fun h1=>?_)<;>refine gh ?_
 ·obtain⟨k,hk⟩:∃k,ks[i]?=some k:=⟨_,bO ah⟩
  have gC:=tD k hk;have ib:=hH.bL (x:=aF q0 (aK ks)) (a:=q0) (cs:=aK ks) bP;obtain⟨qb,qo,rfl⟩:=Bq ib (by rw[aK,fH];omega);refine gh ?_;refine GX.next rfl (GO.Cn (hA:=ib) (hv:=show(aK ks)[i]?=some (str k) by simp[aK,hk]) (h:=gh ?_));refine GX.bF (hc:=fun _ hs=>Lh fL k ah ah hs) (h:=fun w hH=>gh ?_);obtain⟨m1,m2,m3⟩:=fL.meet k;refine gh ?_;obtain⟨X,hH⟩:=SH.un hH;replace hH:=SH.ap hH;dsimp only[fo] at hH;have hI:E1.pU k=(E1.meet k).item k (E1.meet k).now:=rfl;have Ik:E1.mB k={ E1.meet k with s:=(E1.meet k).s.vp k}:=rfl;rw[hI,Ik] at gC;generalize E1.meet k=E2 at hH m1 m2 m3 gC;generalize LL:E2.item k E2.now=It at gC;refine GC.cut (X:=(Option Nat×Nat)×(Option Nat×Nat)) (fun _=>[(0,ak b),(2,ak rb),(8,str k),(17, .slice (some ⟨qb,qo,none⟩) ks.length c0),(18, .int .i64 ks.length),(19,iV i)]) (fun x w'=>SH o w' [cB b E2,aB rb [r0,r1, .slice (aA x.1.1) (L.length+1) x.1.2,r3,r4,r5],aq 64 4 x.1.1 (L.length+1) x.1.2 (aL py L++py ⟨It,x.2⟩),aq 5 1 x.2.1 It.v.length x.2.2 (Lib.byteCells It.v),bJ (AL L),aF (some ⟨qb,qo,none⟩) (aK ks)]) ?_ ?_
  ·refine GC.br (pl:=(.pure 0 (.pure 1 (.pure 2 (.pure 3 (.pure 5 (.pure 6 (.pure 7 (.pure 8 (.pure 9 (.alt (.aw 4 (.aw 10 (.aw 11 (.aw 12 (.aw 13 (.pure 14 (.pure 15 (.aw 16 .done)))))))) (.aw 10 (.alt (.aw 4 (.aw 11 (.aw 12 (.aw 13 (.pure 14 (.pure 15 (.aw 16 .done))))))) (.aw 11 (.alt (.aw 4 (.aw 12 (.aw 13 (.pure 14 (.pure 15 (.aw 16 .done)))))) (.aw 12 (.aw 4 (.aw 13 (.pure 14 (.pure 15 (.aw 16 .done))))))))))))))))))))) (T:=dt []) (hm:=mixed) (h:=fun w hE hH=>gh ?_);refine GX.alt (gh ?_) (gh ?_)
   ·replace hH:=df (X:=X) (E:=E2) hH;refine GX.kL (hc:=fun _ hs=>Cf m1 k E2.now hs) (h:=?_);rw[LL];rintro qv w _ hS hH;replace hH:=SH.ap hH;refine gh ?_;refine GX.mg (h:=fun b2 w hS hH=>gh ?_);refine GX.oU (hT:=fun _ _ h=>by cases h) (h1:=JZ ⟨It,qv⟩) (h:=fun q' c' w hS hH=>gh ?_);refine GX.fO (h:=fun w hH=>gh ?_);exact GQ.dm ((q',c'),qv) (cR (l:=[0,2,8,17,18,19]) rfl) hH.to
   ·refine GX.alt (gh ?_) (gh ?_)
    ·replace hH:=df (X:=X) (E:=E2) hH;refine GX.kL (hc:=fun _ hs=>Cf m1 k E2.now hs) (h:=?_);rw[LL];rintro qv w _ hS hH;replace hH:=SH.ap hH;refine gh ?_;refine GX.mg (h:=fun b2 w hS hH=>gh ?_);refine GX.oU (hT:=fun _ _ h=>by cases h) (h1:=JZ ⟨It,qv⟩) (h:=fun q' c' w hS hH=>gh ?_);refine GX.fO (h:=fun w hH=>gh ?_);exact GQ.dm ((q',c'),qv) (cR (l:=[0,2,8,17,18,19]) rfl) hH.to
    ·replace hH:=df (X:=X) (E:=E2) hH;refine GX.kL (hc:=fun _ hs=>Cf m1 k E2.now hs) (h:=?_);rw[LL];rintro qv w _ hS hH;replace hH:=SH.ap hH;refine gh ?_;refine GX.alt (gh ?_) (gh ?_)
     ·refine GX.mg (h:=fun b2 w hS hH=>gh ?_);refine GX.oU (hT:=fun _ _ h=>by cases h) (h1:=JZ ⟨It,qv⟩) (h:=fun q' c' w hS hH=>gh ?_);refine GX.fO (h:=fun w hH=>gh ?_);exact GQ.dm ((q',c'),qv) (cR (l:=[0,2,8,17,18,19]) rfl) hH.to
     ·refine GX.mg (h:=fun b2 w hS hH=>gh ?_);refine GX.oU (hT:=fun _ _ h=>by cases h) (h1:=JZ ⟨It,qv⟩) (h:=fun q' c' w hS hH=>gh ?_);refine GX.fO (h:=fun w hH=>gh ?_);exact GQ.dm ((q',c'),qv) (cR (l:=[0,2,8,17,18,19]) rfl) hH.to
  rintro⟨⟨q',c'⟩,qv⟩ w hH;dsimp only at hH ⊢;obtain⟨X,hH⟩:=SH.un hH;replace hH:=SH.ap hH;dsimp only[fo] at hH;refine gh ?_;refine GX.bZ (hc:=fun _ hs=>ak8 (s:=E2.s) k hs) (h:=?_);rintro⟨x,e,s'⟩ w hU hH;replace hH:=SH.ap hH;have EY:=hU.eq;dsimp only at EY hH ⊢;subst EY;refine gh ?_;replace hH:=df (X:=X) (E:={ E2 with s:=E2.s.vp k}) hH;have cH:=hH.iI (m:=AL (L++[⟨It,qv⟩])) (W5 ⟨It,qv⟩) (AL L) (by repeat(first|exact Pk.nil|(apply Pk.cons;repeat(first|exact az.here|apply az.there)))) (by simp only[AL,eA,A0];exact List.perm_append_comm.trans (by simp));rw[show aL py L++py ⟨It,qv⟩=aL py (L++[⟨It,qv⟩]) by rw[lH],show L.length+1=(L++[(⟨It,qv⟩:gI)]).length by simp] at cH;refine GQ.bj (i+1,L++[⟨It,qv⟩],q',c') rfl ⟨by dsimp only;omega,by dsimp only;rw[gC,eA,hL];rfl,?_⟩ (by dsimp only;omega);dsimp only;rw[gC];exact cH.to
 ·obtain rfl:i=ks.length:=by omega
  refine gh ?_;have e1:E.iJ ks=(E1,Is):=by
   rw[←hEI,fw (aY _)]
  rw[e1];exact⟨(L,q,cc),rfl,hL,hH.to⟩
end
section
attribute [local irreducible] GO GX
theorem dh.mono {X:dG}{s:bw}(h:dh X s){K:Nat}(hK:s.K≤K):dh X { s with K:=K}:=
 ⟨h.pT,h.nd,h.lt,h.eM,⟨h.ar.aD,h.ar.len,fun g hg=>by obtain⟨h1,h2,h3⟩:=h.ar.gen g hg;exact⟨h1,by show -(K:Int) - 1≤g;omega,by show g≤(K:Int)+1;omega⟩,h.ar.free,h.ar.nodup,h.ar.Bp⟩,h.aD,h.gl,h.live,h.refs,h.ref,h.sb,h.xP,h.kn,h.cost,h.len,h.bytes,h.many⟩
theorem SH.alg {o:Og}{w:World}{l r:List It}{b:Nat}{s:bw}{K:Nat}(hH:SH o w l)(hK:s.K≤K)(hs:az (kz b s) l r:=by repeat(first|exact az.here|apply az.there)):SH o w (kz b { s with K:=K}::r):=by
 obtain⟨⟨X,hX⟩,hH⟩:=SH.un hH hs;exact SH.mk (f:=fun X:{ X:dG // dh X { s with K:=K}}=>X.1.dS b { s with K:=K}) ⟨X,hX.mono hK⟩ hH
attribute [local irreducible] aB aq aS aF fz star eX
def bw.put (s:bw)(e:bM):bw×List bM:=if ql s e=0 then({ s with E:=(iu s.bytes s.many (eN e) (dj s.E e.k)).2++[e],K:=s.K+1+s.E.length},(iu s.bytes s.many (eN e) (dj s.E e.k)).1) else(s,[])
theorem Gt.eq {s:bw}{e:bM}{y:Db}(h:Gt s e y):y.gs.map (·.e)=(s.put e).2∧y.s.K≤(s.put e).1.K∧{ y.s with K:=(s.put e).1.K}=(s.put e).1:=by
 obtain⟨h1,⟨h2,h3,h4⟩|⟨h2,h3⟩⟩:=h
 ·have e0:¬ql s e=0:=by rw[←h1];exact h2
  unfold bw.put;rw[if_neg e0,h3,h4];exact⟨rfl,aY _,rfl⟩
 ·have e0:ql s e=0:=by rw[←h1];exact h2
  unfold bw.put;rw[if_pos e0];refine⟨h3.gone,h3.K,?_⟩;have a1:=h3.E;have a2:=h3.bytes;have a3:=h3.many;show bw.mk y.s.bytes y.s.many y.s.E _=bw.mk s.bytes s.many _ _;rw[a1,a2,a3]
theorem Pp (l:List Bs):bY (bY l).1=((bY l).1,0):=by
 have h0:bY []=([],0):=by simp[bY,setOf,fj]
 by_cases h1:l.all eV=false
 ·have e:bY l=([],2):=by unfold bY;rw[if_pos h1]
  rw[e];exact h0
 ·by_cases h2:16<(setOf l).length
  ·have e:bY l=([],5):=by unfold bY;rw[if_neg h1,if_pos h2]
   rw[e];exact h0
  ·have e:bY l=(fj ((setOf l).map (·.1)),0):=by unfold bY;rw[if_neg h1,if_neg h2]
   rw[e];obtain⟨k1,k2⟩:=O8 l [] (by simp);have k1':((setOf l).map (·.1)).Nodup:=k1;have k2':∀x,x∈(setOf l).map (·.1)↔x∈l:=fun x=>by have:=k2 x;simpa[setOf] using this
   have HR:=lJ ((setOf l).map (·.1));have B7:=CR ((setOf l).map (·.1));generalize fj ((setOf l).map (·.1))=S at HR B7 ⊢;have hSn:S.Nodup:=HR.nodup_iff.2 k1';obtain⟨m1,m2⟩:=O8 S [] (by simp);have m1':((setOf S).map (·.1)).Nodup:=m1;have m2':∀x,x∈(setOf S).map (·.1)↔x∈S:=fun x=>by have:=m2 x;simpa[setOf] using this
   have hp:((setOf S).map (·.1)).Perm S:=(List.perm_ext_iff_of_nodup m1' hSn).2 m2';have e1:S.all eV≠false:=by
    have gM:l.all eV=true:=by simpa using h1
    rw[sR] at gM;have:S.all eV=true:=sR.2 fun x hx=>gM x ((k2' x).1 (HR.mem_iff.1 hx))
    rw[this];simp
   have e2:¬16<(setOf S).length:=by
    have a1:=hp.length_eq;have a2:=HR.length_eq;simp only[fH] at a1 a2;omega
   have e3:fj ((setOf S).map (·.1))=S:=((lJ _).trans hp).eq_of_pairwise (fun a b _ _ h1 h2=>List.le_antisymm h1 h2) (CR _) B7;unfold bY;rw[if_neg e1,if_neg e2,e3]
theorem alB {l:List Bs}(h:bY l=(l,0)):l.Nodup:=by
 by_cases h1:l.all eV=false
 ·have e:bY l=([],2):=by unfold bY;rw[if_pos h1]
  rw[e] at h;cases h
 ·by_cases h2:16<(setOf l).length
  ·have e:bY l=([],5):=by unfold bY;rw[if_neg h1,if_pos h2]
   rw[e] at h;cases h
  ·have e:bY l=(fj ((setOf l).map (·.1)),0):=by unfold bY;rw[if_neg h1,if_neg h2]
   rw[e] at h;have h3:=(Prod.mk.inj h).1;rw[←h3];exact(lJ _).nodup_iff.2 (O8 l [] (by simp)).1
def ao.ft (E:ao)(l:List bM):ao:=l.foldl (fun E x=>E.qe x.n) E
theorem ao.VN (E:ao){l:List bM}{i:Nat}{x:bM}(h:l[i]?=some x):E.ft (l.take (i+1))=(E.ft (l.take i)).qe x.n:=by
 unfold ao.ft;rw[gv,h,vC];rfl
theorem cm.ft {E:ao}(h:cm E)(l:List bM):cm (E.ft l)∧(E.ft l).s=E.s∧(E.ft l).r.K≤E.r.K+l.length∧(E.ft l).aR=E.aR∧(E.ft l).a.last=E.a.last∧(E.ft l).g=E.g∧(E.ft l).p=E.p∧(E.ft l).r.last=E.r.last:=by
 unfold ao.ft
 induction l generalizing E with
 |nil=>exact⟨h,rfl,aY _,rfl,rfl,rfl,rfl,rfl⟩
 |cons x l ih=>
  obtain⟨h1,h2,h3,h4,h5,h6,h7,Lx⟩:=ih (h.qe x.n);have h8:=(FP E.r x.n).2;rw[pL,ek];have h9:(E.qe x.n).r.K≤E.r.K+1:=h8;exact⟨h1,h2,by omega,h4,h5.trans (bW.DH _ _),h6,h7,Lx.trans (FP E.r x.n).1⟩
theorem OX {E:List bM}{k:Bs}{e:bM}(h:jq E k=some e):(dj E k).length+1≤E.length:=by
 have h1:=List.find?_some h;have h2:=List.mem_of_find?_eq_some h;have h3:=List.length_filter_lt_length_iff_exists (p:=fun e:bM=>decide (e.k≠k)) (l:=E);have h4:(E.filter fun e=>decide (e.k≠k)).length<E.length:=h3.2 ⟨e,h2,by simpa using h1⟩;unfold dj;omega
theorem ahI (E:ao)(k:Bs):(E.eJ k).r.K+(E.eJ k).s.E.length≤E.r.K+E.s.E.length:=by
 unfold ao.eJ;split
 ·rename_i x hx
  have hf:jq E.s.E k=some x:=by
   unfold ao.eR at hx;split at hx
   ·exact hx
   ·cases hx
  have h1:=OX hf;have h2:=(FP E.r x.n).2;show(iW E.r x.n).2.2.K+(dj E.s.E k).length≤_;omega
 ·exact aY _
theorem OH (E:ao)(l:List Bs):(E.out l).r.K+(E.out l).s.E.length≤E.r.K+E.s.E.length:=by
 unfold ao.out
 induction l generalizing E with
 |nil=>exact aY _
 |cons k l ih=>exact dF (ih _) (ahI E k)
theorem AA (E:ao)(l:List Bs):(E.out l).aR=E.aR∧(E.out l).a.last=E.a.last∧(E.out l).p=E.p:=by
 unfold ao.out
 induction l generalizing E with
 |nil=>exact⟨rfl,rfl,rfl⟩
 |cons k l ih=>
  obtain⟨h1,h2,h3⟩:=ih (E.eJ k);have k1:(E.eJ k).aR=E.aR∧(E.eJ k).a.last=E.a.last∧(E.eJ k).p=E.p:=by
   unfold ao.eJ;split
   ·exact⟨rfl,bW.DH _ _,rfl⟩
   ·exact⟨rfl,rfl,rfl⟩
  rw[pL];exact⟨h1.trans k1.1,h2.trans k1.2.1,h3.trans k1.2.2⟩
theorem abx (b m c:Nat)(l:List bM):(iu b m c l).1.length+(iu b m c l).2.length=l.length:=by
 induction l with
 |nil=>rfl
 |cons x l ih=>
  unfold iu;split
  ·dsimp only;rw[ek,ek];omega
  ·simp
theorem WM (s:bw)(e:bM):(s.put e).1.E.length+(s.put e).2.length≤s.E.length+1:=by
 unfold bw.put;split
 ·have h1:=abx s.bytes s.many (eN e) (dj s.E e.k);have h2:(dj s.E e.k).length≤s.E.length:=pF _ _;dsimp only;rw[bH,gW];omega
 ·simp
noncomputable def ao.pre (E:ao)(c:dd):ao:={ (E.tick.out (cO E.g.E c.k)).out [c.k] with aR:=E.aR+1}
def ao.vb (E:ao)(c:dd):bM:=⟨c.k,c.v,(bY c.t).1,lL E.now c.d,E.aR,E.a.last⟩
def ao.put (E:ao)(e:bM):ao:=ao.ft { E with s:=(E.s.put e).1} (E.s.put e).2
def ao.add (E:ao)(t:List Bs):ao:={ E with r:=(ji E.r E.aR t).2.2}
noncomputable def ao.write (E:ao)(c:dd):ao:=((E.pre c).put ((E.pre c).vb c)).add (bY c.t).1
end
section
attribute [local irreducible] GO GX aB eX fz aF aS aq star
theorem abm {o:Og}{w:World}{b rb:Nat}{E:ao}(hG:cm E)(c:dd)(y:jX){r0 r1 r2 r3 r4 r5:Value}(oh:c.k.length<2^40)(kT:c.v.length<2^40)(re:c.t.length<2^40)(hd:c.d≤never)(Aj:y.v.1=none→c.v.length=0)(uP:E.s.K<2^57)(hP:E.r.K+E.s.E.length≤2*E.aR)(I9:E.aR<8000)(BF:E.g.K<2^39)(hs:Start o w [cB b E,aB rb [r0,r1,r2,r3,r4,r5],aF (y.v.1) (Lib.byteCells c.v),aF (y.t.1) (aK c.t)]) :
  aj prog 113 [ak b, .agg (lp c y).toArray,ak rb].toArray w (aX o (fun _:Unit => .tuple #[]) (fun _=>(cO E.g.E c.k).length≤65537) (fun _=>[cB b (E.write c),aB rb [r0,r1,r2,uV (E.aR+1),iV (cO E.g.E c.k).length,r5]])):=by
 have hH:=hs.sh;refine aj.enter func113 rfl ntmps113 rfl (gh ?_);refine GX.cI (h:=fun z w hH=>gh ?_);refine GX.bZ (hc:=fun _ hs=>Le (E:=E) c.k ah hs) (h:=?_);rintro⟨q,cc⟩ w hlen hH;replace hH:=SH.ap hH;dsimp only at hH;replace hH:=SH.freeze (el:=9) (sz:=1) (q:=q) (n:=(cO E.g.E c.k).length) (c:=cc) (cs:=aK (cO E.g.E c.k)) hH bP;obtain⟨k1,k2,k3⟩:=hG.tick.out (cO E.g.E c.k);have p1:=OH E.tick (cO E.g.E c.k);obtain⟨f1,f2,f3⟩:=AA E.tick (cO E.g.E c.k);have g1:=Wx E.tick (cO E.g.E c.k);have e0:E.tick.s.K=E.s.K∧E.tick.r.K=E.r.K∧E.tick.s.E.length=E.s.E.length∧E.tick.aR=E.aR∧E.tick.a.last=E.a.last:=⟨rfl,rfl,rfl,rfl,rfl⟩
 obtain⟨e01,e02,e03,e04,e05⟩:=e0;refine gh ?_;refine GX.bF (hc:=fun _ hs=>zu (q:=q) hG.tick (cO E.g.E c.k) rfl ah ah ah hs) (h:=fun w hH=>gh ?_);have cK:E.pre c={ (E.tick.out (cO E.g.E c.k)).out [c.k] with aR:=E.aR+1}:=rfl;generalize E.tick.out (cO E.g.E c.k)=E2 at hH k1 k2 k3 p1 f1 f2 f3 g1 cK;obtain⟨l1,l2,l3⟩:=k1.out [c.k];have p2:=OH E2 [c.k];obtain⟨f4,f5,f6⟩:=AA E2 [c.k];refine gh ?_;refine GX.oF (h:=fun b1 w hH=>gh ?_);replace hH:=hH.freeze az.here;refine GX.bF (hc:=fun _ hs=>zu (q:=some b1) k1 [c.k] rfl (show 1<2^30 by decide) ah ah hs) (h:=fun w hH=>gh ?_);generalize E2.out [c.k]=E3 at hH l1 l2 l3 p2 f4 f5 f6 cK;simp only[gW] at l2 l3;have TQ:E3.aR=E.aR:=by omega
 obtain⟨X,hH⟩:=SH.un hH;replace hH:=SH.ap hH;dsimp only[fo] at hH;refine gh ?_;refine GX.dC (h:=fun w hH=>gh ?_);rw[show(Value.int IntKind.u64 ((E3.aR:Int)+1))=uV (E.aR+1) by rw[TQ];rfl] at hH;replace hH:=df (X:=X) (E:={ E3 with aR:=E.aR+1}) hH;have Tv:E.pre c={ E3 with aR:=E.aR+1}:=cK;have gz:cm { E3 with aR:=E.aR+1}:=⟨l1.pz,by show E3.r.last≤E.aR+1;have:=l1.rr;omega,l1.sG,l1.nQ,l1.cP,l1.now,by show E.aR+1<_;omega⟩
 have EA:({ E3 with aR:=E.aR+1}:ao).r.last≤E.aR:=by show E3.r.last≤_;have:=l1.rr;omega
 have Tr:({ E3 with aR:=E.aR+1}:ao).r.K+({ E3 with aR:=E.aR+1}:ao).s.E.length≤2*E.aR:=by show E3.r.K+E3.s.E.length≤_;omega
 have TE:({ E3 with aR:=E.aR+1}:ao).s.K<2^58:=by show E3.s.K<_;omega
 have Nq:({ E3 with aR:=E.aR+1}:ao).aR=E.aR+1:=rfl;unfold ao.write;rw[←Tv] at hH gz EA Tr TE Nq;clear cK Tv l1 l2 l3 p2 f4 f5 f6 TQ k1 k2 k3 p1 f1 f2 f3 g1;generalize E.pre c=E4 at hH gz EA Tr TE Nq ⊢;refine gh ?_;refine GX.ef (hc:=fun _ hs=>Gf (a:=y.t.1) c.t rfl re hs) (h:=?_);rintro⟨qt,ct⟩ w _ hE hH;replace hH:=SH.ap hH;dsimp only[mw] at hH;have xY:=Pp c.t;have tE:=AU c.t;have cj:=gz.nQ;have uL:=gz.now;have hnv:(never:Nat)=18446744073709551615:=rfl;unfold ao.vb;generalize (bY c.t).1=tg at hH xY tE ⊢;have E7:=hH.Oo (el:=9) (sz:=1) (q:=qt);replace hH:=SH.freeze (el:=9) (sz:=1) (q:=qt) (n:=tg.length) (c:=ct) (cs:=aK tg) hH bP;replace hH:=SH.DA (a:=aA qt) (cs:=aK tg) hH bP;obtain⟨X,hH⟩:=SH.un hH;replace hH:=SH.ap hH;dsimp only[fo] at hH;refine gh ?_;refine GC.br (pl:=(bg [0,3,6,12,18,24,27,30,33,39,48,51,54,60,63,66,10,16,22,37,43,58,70,47,74,75,80,81,84,87,90,93])) (T:=dt [b,z]) (hm:=mixed) (h:=fun w hE hH=>gh ?_);refine GX.pS (hc:=Ha E4.now c.d uL hd _) (h:=gh ?_);refine GX.xN (hc:=fun _ hs=>XI (S:=E4.a) hs) (h:=fun w hS hH=>gh ?_);refine GX.kL (hc:=fun _ hs=>ak5 (s:=E4.s) (av:=y.v.1) (ta:=aA qt) ⟨c.k,c.v,tg,lL E4.now c.d,E4.aR,E4.a.last⟩ oh rfl kT rfl (by dsimp only;omega) Ye (by dsimp only;omega) (by dsimp only;omega) Aj E7 ah hs) (h:=?_);rintro⟨gs,⟨gq,gc⟩,er,s'⟩ w acF hS hH;obtain⟨u1,u2,u3⟩:=acF.eq;replace hH:=SH.ap hH;dsimp only at u1 u2 u3 hH ⊢;replace hH:=hH.alg u2;rw[u3] at hH;have uH:=WM E4.s ⟨c.k,c.v,tg,lL E4.now c.d,E4.aR,E4.a.last⟩;unfold ao.put;generalize om:(⟨c.k,c.v,tg,lL E4.now c.d,E4.aR,E4.a.last⟩:bM)=ne at u1 hH uH ⊢;have qK:=gz.drop (E4.s.put ne).1;have oe:gs.length=(E4.s.put ne).2.length:=by rw[←u1,fH]
 refine gh ?_;refine GC.bR [0,2,6,7,68,69] (fun i:Nat=>[(70,iV i)]) (fun i w'=>i≤gs.length∧SH o w' [cB b (ao.ft { E4 with s:=(E4.s.put ne).1} ((E4.s.put ne).2.take i)),aq 159 6 gq gs.length gc (aL eL gs),aB rb [r0,r1,r2,r3,r4,r5],aF (aA qt) (aK tg),aB z (lp c y)]) (fun i=>gs.length - i) 0 rfl rfl ⟨bh _,(df (X:=X) (E:={ E4 with s:=(E4.s.put ne).1}) hH).to⟩ ?_;rintro i w ⟨hi,hH⟩;have DU:=qK.ft ((E4.s.put ne).2.take i);have gC:=fun x=>@ao.VN { E4 with s:=(E4.s.put ne).1} (E4.s.put ne).2 i x
 have aN:((E4.s.put ne).2.take i).length≤(E4.s.put ne).2.length:=by rw[dI];omega
 generalize iv:ao.ft { E4 with s:=(E4.s.put ne).1} ((E4.s.put ne).2.take i)=E6 at hH DU gC;obtain⟨ja,v1,v2,v3,v4,v5,v6,v7⟩:=DU;dsimp only at v1 v2 v3 v4 v7;refine gh ?_;refine ifs (fun h1=>?_) (fun h1=>?_)<;>refine gh ?_<;>dsimp only at h1
 ·obtain⟨x,hx⟩:∃x,gs[i]?=some x:=⟨_,bO ah⟩
  have fh:(E4.s.put ne).2[i]?=some x.e:=by rw[←u1,gG,hx];rfl
  have E5:=gC x.e fh;obtain⟨qb,rfl⟩:=hH.pos (el:=159) (sz:=6) (q:=gq) (n:=gs.length);refine gh ?_;refine GX.next rfl (GO.kg (hv:=ku pA hx) (h:=gh ?_));refine GX.cA (h:=fun f w hH=>gh ?_);refine GX.bt (h:=fun w hH=>gh ?_);refine GX.bF (hc:=fun _ hs=>Lg ja x.e.k _ _ x.e.d x.e.n x.e.st ah hs) (h:=fun w hH=>gh ?_);refine gh ?_;refine GQ.bj (i+1) rfl ⟨by omega,?_⟩ ah;rw[E5];exact hH.to
 ·obtain rfl:i=gs.length:=by omega
  rw[oe,fw (aY _)] at iv;rw[iv];clear iv gC;obtain⟨X2,hH⟩:=SH.un hH;replace hH:=SH.ap hH;dsimp only[fo] at hH;refine gh ?_;refine GC.br (pl:=(bg [0,3,6,12,15,18,24,10,22,29])) (T:=dt [b]) (hm:=mixed) (h:=fun w hE hH=>gh ?_);refine GX.kL (hc:=fun _ hs=>ajk (R:=E6.r) E6.aR tg ah xY ah hs) (h:=?_);rintro⟨q9,c9⟩ w _ HP hH;replace hH:=SH.ap hH;refine gh ?_;refine GX.dC (h:=fun w hH=>gh ?_);refine GX.dC (h:=fun w hH=>gh ?_);rw[←Nq,←v3];exact⟨(),rfl,hlen,(df (X:=X2) (E:=E6.add tg) hH).to⟩
def ao.rn (E:ao)(k:Bs):mX×Int:=if bf k=true then(E.item k E.now,0) else(yx,2)
theorem abc {o:Og}{w:World}{b:Nat}{E:ao}(hG:cm E)(k:Bs)(hs:Start o w [cB b E]) :
  aj prog 18 [ak b,str k].toArray w (aX o (fun q:Option Nat×Nat => .tuple #[.agg (Fm (E.rn k).1 q).toArray,iV (E.rn k).2]) (fun _=>True) (fun q=>cB b E::Fl (E.rn k).1 q)):=by
 have hH:=hs.sh;obtain⟨X,hH⟩:=SH.un hH;replace hH:=SH.ap hH;dsimp only[fo] at hH;refine aj.enter func18 rfl ntmps18 rfl (gh ?_);refine GX.cA (h:=fun z w hH=>gh ?_);refine GX.aM (hc:=fun _ hs=>Hq hs) (h:=fun w hE hH=>gh ?_);refine gh ?_;refine GX.da (sr k _) rfl rfl rfl rfl rfl rfl (gh ?_);unfold ao.rn;cases hk:bf k with
 |false=>
  refine gh ?_;refine GX.bt (h:=fun w hH=>gh ?_);rw[if_neg (by simp)];have h1:=SH.cF (el:=5) (sz:=1) (q:=none) (n:=0) (c:=0) (cs:=[]) hH (Mod.refl w) (fun _ h=>by cases h) (aH.nil _ _ _);exact⟨(none,0),rfl,trivial,(df (X:=X) (E:=E) h1).to⟩
 |true=>
  rw[if_pos rfl];refine gh ?_;replace hH:=df (X:=X) (E:=E) hH;refine GX.bZ (hc:=fun _ hs=>Cf hG k E.now hs) (h:=?_);rintro q w _ hH;replace hH:=SH.ap hH;refine gh ?_;refine GX.bt (h:=fun w hH=>gh ?_);exact⟨q,rfl,trivial,hH.to⟩
theorem Bo (n m:Int)(w:World):aj prog 101 [iV n,iV m].toArray w fun v w'=>v = .bool (decide (1≤n∧n≤m))∧w'=w:=by
 refine aj.enter func101 rfl ntmps101 rfl (gh ?_)
 by_cases h:1≤n
 ·rw[b8 h];refine gh ?_;exact⟨by simp[h],rfl⟩
 ·rw[bQ h];refine gh ?_;exact⟨by simp[h],rfl⟩
structure rF where
 b:Int
 e:Int
 t:Int
 n:Int
 d:Int
 g:Nat
 s:Nat
abbrev G9 (c:rF):List Value:=[iV c.b,iV c.e,iV c.t,iV c.n,iV c.d,uV c.g,uV c.s]
structure A4 (c:rF):Prop where
 b:1≤c.b∧c.b≤1099511627776
 e:1≤c.e∧c.e≤1048576
 t:1≤c.t∧c.t≤65536
 n:1≤c.n∧c.n≤65536
 d:1≤c.d∧c.d≤65536
 g:c.g≤1099511627776
open Classical in
theorem aa1 {o:Og}{w:World}(c:rF)(hs:Start o w []):aj prog 57 [.agg (G9 c).toArray].toArray w (Po o (iV (if A4 c then 0 else 2)) []):=by
 have hH:=hs.sh;refine aj.enter func57 rfl ntmps57 rfl (gh ?_);refine GX.cI (h:=fun z w hH=>gh ?_);refine GX.da (Bo c.b 1099511627776 _) rfl rfl rfl rfl rfl rfl (gh ?_)
 by_cases h1:1≤c.b∧c.b≤1099511627776
 ·rw[b8 h1];refine gh ?_;refine GX.da (Bo c.e 1048576 _) rfl rfl rfl rfl rfl rfl (gh ?_)
  by_cases h2:1≤c.e∧c.e≤1048576
  ·rw[b8 h2];refine gh ?_;refine GX.da (Bo c.t 65536 _) rfl rfl rfl rfl rfl rfl (gh ?_)
   by_cases h3:1≤c.t∧c.t≤65536
   ·rw[b8 h3];refine gh ?_;refine GX.da (Bo c.n 65536 _) rfl rfl rfl rfl rfl rfl (gh ?_)
    by_cases h4:1≤c.n∧c.n≤65536
    ·rw[b8 h4];refine gh ?_;refine GX.da (Bo c.d 65536 _) rfl rfl rfl rfl rfl rfl (gh ?_)
     by_cases h5:1≤c.d∧c.d≤65536
     ·rw[b8 h5];refine gh ?_;refine ifs (fun h6=>?_) (fun h6=>?_)<;>refine gh ?_
      ·rw[if_neg fun h=>by have:=h.g;omega];exact⟨rfl,hH.to⟩
      ·rw[if_pos ⟨h1,h2,h3,h4,h5,by omega⟩];exact⟨rfl,hH.to⟩
     ·rw[bQ h5];refine gh ?_;rw[if_neg fun h=>h5 h.d];exact⟨rfl,hH.to⟩
    ·rw[bQ h4];refine gh ?_;rw[if_neg fun h=>h4 h.n];exact⟨rfl,hH.to⟩
   ·rw[bQ h3];refine gh ?_;rw[if_neg fun h=>h3 h.t];exact⟨rfl,hH.to⟩
  ·rw[bQ h2];refine gh ?_;rw[if_neg fun h=>h2 h.e];exact⟨rfl,hH.to⟩
 ·rw[bQ h1];refine gh ?_;rw[if_neg fun h=>h1 h.b];exact⟨rfl,hH.to⟩
end
end Go.Proofs.YtoloaehmppcjoaaGreat.V.M
