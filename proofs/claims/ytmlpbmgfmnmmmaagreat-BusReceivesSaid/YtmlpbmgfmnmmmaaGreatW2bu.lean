/-
  Parts of the proof. No condition.
-/
import Derived.Test.YtmlpbmgfmnmmmaaGreatW2bt
set_option linter.unusedVariables false
set_option linter.unusedSimpArgs false
set_option maxRecDepth 8000
set_option maxHeartbeats 8000000
open Go.Proofs.Tryz
namespace Go.Proofs.YtmlpbmgfmnmmmaaGreat.V.M
section
attribute [local irreducible] GO GX aA eo fz aF aQ ao star
structure gx where
 i:l8
 q:Option Nat×Nat
def jA (r:gx):List Value:=yv r.i r.q
def FG (r:gx):List It:=Fc r.i r.q
def lz (L:List gx):List It:=(L.map FG).flatten
theorem OR (r:gx):(jA r).length=4:=rfl
theorem JP (r:gx):∀u∈jA r,u.oneCell'=true:=by
 intro u hu;simp only[jA,yv,bY,tI,or_false] at hu
 rcases hu with rfl|rfl|rfl|rfl<;>rfl
def bw.vh (s:bw)(k:Bs):bw:=if bI k=true then(match kT s.E k with
 |some e=>s.use e
 |none=>s) else s
theorem Ku.eq {s:bw}{k:Bs}{y:cH×Int×bw}(h:Ku s k y):y.2.2=s.vh k:=by
 unfold bw.vh
 rcases h with⟨h1,rfl⟩|⟨h1,⟨h2,rfl⟩|⟨h2,_,h3⟩⟩
 ·rw[h1];rfl
 ·rw[if_pos h1,h2]
 ·rw[if_pos h1,h2,h3]
def aq.mg (E:aq)(k:Bs):aq:={ E.meet k with s:=(E.meet k).s.vh k}
def aq.pD (E:aq)(k:Bs):l8:=(E.meet k).item k (E.meet k).now
def aq.gU (E:aq)(l:List Bs):aq×List l8:=l.foldl (fun y k=>(y.1.mg k,y.2++[y.1.pD k])) (E,[])
theorem aq.ab1 (E:aq){l:List Bs}{i:Nat}{k:Bs}(h:l[i]?=some k):E.gU (l.take (i+1))=((E.gU (l.take i)).1.mg k,(E.gU (l.take i)).2++[(E.gU (l.take i)).1.pD k]):=by
 unfold aq.gU;rw[ic,h,vt];rfl
theorem Yo (s:bw)(k:Bs):(s.vh k).K=s.K:=by
 unfold bw.vh;split
 ·split<;>rfl
 ·rfl
theorem b8.mg {E:aq}(h:b8 E)(k:Bs):b8 (E.mg k)∧(E.mg k).s.K≤E.s.K+1∧(E.mg k).r.K≤E.r.K+1:=by
 obtain⟨h1,h2,h3⟩:=h.meet k;exact⟨h1.drop _,by show((E.meet k).s.vh k).K≤_;rw[Yo];exact h2,h3⟩
theorem b8.gU {E:aq}(h:b8 E)(l:List Bs):b8 (E.gU l).1∧(E.gU l).1.s.K≤E.s.K+l.length∧(E.gU l).1.r.K≤E.r.K+l.length∧(E.gU l).2.length=l.length:=by
 suffices hh:∀(l:List Bs) (y:aq×List l8),b8 y.1→b8 (l.foldl (fun y k=>(y.1.mg k,y.2++[y.1.pD k])) y).1∧(l.foldl (fun y k=>(y.1.mg k,y.2++[y.1.pD k])) y).1.s.K≤y.1.s.K+l.length∧(l.foldl (fun y k=>(y.1.mg k,y.2++[y.1.pD k])) y).1.r.K≤y.1.r.K+l.length∧(l.foldl (fun y k=>(y.1.mg k,y.2++[y.1.pD k])) y).2.length=y.2.length+l.length by
  have:=hh l (E,[]) h;simpa[aq.gU] using this
 intro l
 induction l with
 |nil=>intro y hy;exact⟨hy,bj _,bj _,rfl⟩
 |cons k l ih=>
  intro y hy;obtain⟨h1,h2,h3⟩:=hy.mg k;obtain⟨k1,k2,k3,k4⟩:=ih (y.1.mg k,y.2++[y.1.pD k]) h1;rw[ph,dR];dsimp only at k2 k3 k4;rw[bJ,ie] at k4;exact⟨k1,by omega,by omega,by omega⟩
def dh.keys (c:dh):List Bs:=if c.op=4 then[c.k] else c.ks
theorem aa5 {o:Og}{w:World}{b rb:Nat}{E:aq}(hG:b8 E)(c:dh)(y:iR){r0 r1 r3 r4 r5:Value}(ff:c.ks.length<2^30)(uB:E.s.K<2^57)(hK:E.r.K<2^38)(hs:Start o w [bU b E,aA rb [r0,r1, .slice none 0 0,r3,r4,r5],aF (y.k.1) (aM c.ks)]) :
  aj prog 90 [ak b, .agg (jH c y).toArray,ak rb].toArray w (aU o (fun _:List gx×Option Nat×Nat => .tuple #[]) (fun x=>x.1.map (·.i)=(E.gU c.keys).2) (fun x=>[bU b (E.gU c.keys).1,aA rb [r0,r1, .slice (ay x.2.1) x.1.length x.2.2,r3,r4,r5],ao 64 4 x.2.1 x.1.length x.2.2 (aK jA x.1),bB (lz x.1)])):=by
 have hH:=hs.sh;refine aj.enter func90 rfl ntmps90 rfl (gh ?_);refine GX.cw (h:=fun z w hH=>gh ?_);refine GC.cut (X:=Option Addr×Nat) (fun x=>[(0,ak b),(2,ak rb),(6, .slice x.1 c.keys.length x.2)]) (fun x w'=>SH o w' [bU b E,aA rb [r0,r1, .slice none 0 0,r3,r4,r5],aF x.1 (aM c.keys)]) ?_ ?_
 ·by_cases dG:c.op=4
  ·have hk:c.keys=[c.k]:=if_pos dG;rw[show decide ((c.op:Int)=4)=true by simp[dG],hk];refine gh ?_;refine GX.nk (h:=fun b1 w hH=>gh ?_);replace hH:=hH.freeze aB.here;exact GQ.dx (ay (some b1),1) (cZ (l:=[0,2,6]) rfl) hH.to
  ·have hk:c.keys=c.ks:=if_neg dG;rw[show decide ((c.op:Int)=4)=false by simp;omega,hk];refine gh ?_;exact GQ.dx y.k (cZ (l:=[0,2,6]) rfl) hH.to
 rintro⟨q0,c0⟩ w hH;have cQ:c.keys.length<2^30:=by
  unfold dh.keys;split
  ·simp
  ·exact ff
 generalize c.keys=ks at hH cQ ⊢;have aO:=SH.cE (el:=64) (sz:=4) (q:=none) (n:=0) (c:=0) (cs:=[]) hH (Mod.refl w) (fun _ h=>by cases h) (aG.nil _ _ _);replace hH:=aO.pz;clear aO;dsimp only at hH ⊢;refine gh ?_;refine GC.bP [0,2,17,18] (fun x:Nat×List gx×Option Nat×Nat=>[(19,iV x.1)]) (fun x w'=>x.1≤ks.length∧x.2.1.map (·.i)=(E.gU (ks.take x.1)).2∧SH o w' [bU b (E.gU (ks.take x.1)).1,aA rb [r0,r1, .slice (ay x.2.2.1) x.2.1.length x.2.2.2,r3,r4,r5],ao 64 4 x.2.2.1 x.2.1.length x.2.2.2 (aK jA x.2.1),bB (lz x.2.1),aF q0 (aM ks)]) (fun x=>ks.length - x.1) (0,[],none,0) rfl rfl ⟨bh _,rfl,hH.to⟩ ?_;rintro⟨i,L,q,cc⟩ w ⟨hi,hL,hH⟩;dsimp only at hi hL hH ⊢;have aX:=hG.gU (ks.take i);have sY:=fun k=>@aq.ab1 E ks i k
 generalize hEI:E.gU (ks.take i)=EI at hL hH aX sY;obtain⟨E1,Is⟩:=EI;obtain⟨fC,pL,kC,rF⟩:=aX;dsimp only at hL hH fC pL kC rF sY;have aP:(ks.take i).length≤ks.length:=by rw[dE];omega
 have LH:L.length=(ks.take i).length:=by rw[←rF,←hL,fk]
 refine gh ?_;refine ifs (fun h1=>?_) (fun h1=>?_)<;>refine gh ?_
 ·obtain⟨k,hk⟩:∃k,ks[i]?=some k:=⟨_,bO ah⟩
  have gi:=sY k hk;have nQ:=hH.bR (x:=aF q0 (aM ks)) (a:=q0) (cs:=aM ks) bL;obtain⟨qb,qo,rfl⟩:=DF nQ (by rw[aM,fk];omega);refine gh ?_;refine GX.next rfl (GO.Jd (hA:=nQ) (hv:=show(aM ks)[i]?=some (str k) by simp[aM,hk]) (h:=gh ?_));refine GX.bz (hc:=fun _ hs=>K4 fC k ah ah hs) (h:=fun w hH=>gh ?_);obtain⟨m1,m2,m3⟩:=fC.meet k;refine gh ?_;obtain⟨X,hH⟩:=SH.un hH;replace hH:=SH.ap hH;dsimp only[eK] at hH;have hI:E1.pD k=(E1.meet k).item k (E1.meet k).now:=rfl;have H9:E1.mg k={ E1.meet k with s:=(E1.meet k).s.vh k}:=rfl;rw[hI,H9] at gi;generalize E1.meet k=E2 at hH m1 m2 m3 gi;generalize LB:E2.item k E2.now=It at gi;refine GC.cut (X:=(Option Nat×Nat)×(Option Nat×Nat)) (fun _=>[(0,ak b),(2,ak rb),(8,str k),(17, .slice (some ⟨qb,qo,none⟩) ks.length c0),(18, .int .i64 ks.length),(19,iV i)]) (fun x w'=>SH o w' [bU b E2,aA rb [r0,r1, .slice (ay x.1.1) (L.length+1) x.1.2,r3,r4,r5],ao 64 4 x.1.1 (L.length+1) x.1.2 (aK jA L++jA ⟨It,x.2⟩),ao 5 1 x.2.1 It.v.length x.2.2 (Lib.byteCells It.v),bB (lz L),aF (some ⟨qb,qo,none⟩) (aM ks)]) ?_ ?_
  ·refine GC.bq (pl:=(.pure 0 (.pure 1 (.pure 2 (.pure 3 (.pure 5 (.pure 6 (.pure 7 (.pure 8 (.pure 9 (.alt (.ax 4 (.ax 10 (.ax 11 (.ax 12 (.ax 13 (.pure 14 (.pure 15 (.ax 16 .done)))))))) (.ax 10 (.alt (.ax 4 (.ax 11 (.ax 12 (.ax 13 (.pure 14 (.pure 15 (.ax 16 .done))))))) (.ax 11 (.alt (.ax 4 (.ax 12 (.ax 13 (.pure 14 (.pure 15 (.ax 16 .done)))))) (.ax 12 (.ax 4 (.ax 13 (.pure 14 (.pure 15 (.ax 16 .done))))))))))))))))))))) (T:=cS []) (hm:=mixed) (h:=fun w hE hH=>gh ?_);refine GX.alt (gh ?_) (gh ?_)
   ·replace hH:=cV (X:=X) (E:=E2) hH;refine GX.gT (hc:=fun _ hs=>Ci m1 k E2.now hs) (h:=?_);rw[LB];rintro qv w _ hS hH;replace hH:=SH.ap hH;refine gh ?_;refine GX.o8 (h:=fun b2 w hS hH=>gh ?_);refine GX.oD (hT:=fun _ _ h=>by cases h) (h1:=JP ⟨It,qv⟩) (h:=fun q' c' w hS hH=>gh ?_);refine GX.fH (h:=fun w hH=>gh ?_);exact GQ.dx ((q',c'),qv) (cZ (l:=[0,2,8,17,18,19]) rfl) hH.to
   ·refine GX.alt (gh ?_) (gh ?_)
    ·replace hH:=cV (X:=X) (E:=E2) hH;refine GX.gT (hc:=fun _ hs=>Ci m1 k E2.now hs) (h:=?_);rw[LB];rintro qv w _ hS hH;replace hH:=SH.ap hH;refine gh ?_;refine GX.o8 (h:=fun b2 w hS hH=>gh ?_);refine GX.oD (hT:=fun _ _ h=>by cases h) (h1:=JP ⟨It,qv⟩) (h:=fun q' c' w hS hH=>gh ?_);refine GX.fH (h:=fun w hH=>gh ?_);exact GQ.dx ((q',c'),qv) (cZ (l:=[0,2,8,17,18,19]) rfl) hH.to
    ·replace hH:=cV (X:=X) (E:=E2) hH;refine GX.gT (hc:=fun _ hs=>Ci m1 k E2.now hs) (h:=?_);rw[LB];rintro qv w _ hS hH;replace hH:=SH.ap hH;refine gh ?_;refine GX.alt (gh ?_) (gh ?_)
     ·refine GX.o8 (h:=fun b2 w hS hH=>gh ?_);refine GX.oD (hT:=fun _ _ h=>by cases h) (h1:=JP ⟨It,qv⟩) (h:=fun q' c' w hS hH=>gh ?_);refine GX.fH (h:=fun w hH=>gh ?_);exact GQ.dx ((q',c'),qv) (cZ (l:=[0,2,8,17,18,19]) rfl) hH.to
     ·refine GX.o8 (h:=fun b2 w hS hH=>gh ?_);refine GX.oD (hT:=fun _ _ h=>by cases h) (h1:=JP ⟨It,qv⟩) (h:=fun q' c' w hS hH=>gh ?_);refine GX.fH (h:=fun w hH=>gh ?_);exact GQ.dx ((q',c'),qv) (cZ (l:=[0,2,8,17,18,19]) rfl) hH.to
  rintro⟨⟨q',c'⟩,qv⟩ w hH;dsimp only at hH ⊢;obtain⟨X,hH⟩:=SH.un hH;replace hH:=SH.ap hH;dsimp only[eK] at hH;refine gh ?_;refine GX.bS (hc:=fun _ hs=>alg (s:=E2.s) k hs) (h:=?_);rintro⟨x,e,s'⟩ w hU hH;replace hH:=SH.ap hH;have EP:=hU.eq;dsimp only at EP hH ⊢;subst EP;refine gh ?_;replace hH:=cV (X:=X) (E:={ E2 with s:=E2.s.vh k}) hH;have cF:=hH.iu (m:=lz (L++[⟨It,qv⟩])) (FG ⟨It,qv⟩) (lz L) (by repeat(first|exact Pk.nil|(apply Pk.cons;repeat(first|exact aB.here|apply aB.there)))) (by simp only[lz,eD,A2];exact List.perm_append_comm.trans (by simp));rw[show aK jA L++jA ⟨It,qv⟩=aK jA (L++[⟨It,qv⟩]) by rw[kK],show L.length+1=(L++[(⟨It,qv⟩:gx)]).length by simp] at cF;refine GQ.br (i+1,L++[⟨It,qv⟩],q',c') rfl ⟨by dsimp only;omega,by dsimp only;rw[gi,eD,hL];rfl,?_⟩ (by dsimp only;omega);dsimp only;rw[gi];exact cF.to
 ·obtain rfl:i=ks.length:=by omega
  refine gh ?_;have e1:E.gU ks=(E1,Is):=by
   rw[←hEI,eO (bj _)]
  rw[e1];exact⟨(L,q,cc),rfl,hL,hH.to⟩
end
section
attribute [local irreducible] GO GX
theorem de.mono {X:dB}{s:bw}(h:de X s){K:Nat}(hK:s.K≤K):de X { s with K:=K}:=
 ⟨h.pC,h.nd,h.lt,h.eC,⟨h.ar.aI,h.ar.len,fun g hg=>by obtain⟨h1,h2,h3⟩:=h.ar.gen g hg;exact⟨h1,by show -(K:Int) - 1≤g;omega,by show g≤(K:Int)+1;omega⟩,h.ar.free,h.ar.nodup,h.ar.Br⟩,h.aI,h.gl,h.live,h.refs,h.ref,h.sb,h.xI,h.kn,h.cost,h.len,h.bytes,h.many⟩
theorem SH.alp {o:Og}{w:World}{l r:List It}{b:Nat}{s:bw}{K:Nat}(hH:SH o w l)(hK:s.K≤K)(hs:aB (jD b s) l r:=by repeat(first|exact aB.here|apply aB.there)):SH o w (jD b { s with K:=K}::r):=by
 obtain⟨⟨X,hX⟩,hH⟩:=SH.un hH hs;exact SH.mk (f:=fun X:{ X:dB // de X { s with K:=K}}=>X.1.dm b { s with K:=K}) ⟨X,hX.mono hK⟩ hH
attribute [local irreducible] aA ao aQ aF fz star eo
def bw.put (s:bw)(e:cC):bw×List cC:=if sk s e=0 then({ s with E:=(iv s.bytes s.many (fb e) (dv s.E e.k)).2++[e],K:=s.K+1+s.E.length},(iv s.bytes s.many (fb e) (dv s.E e.k)).1) else(s,[])
theorem Gp.eq {s:bw}{e:cC}{y:De}(h:Gp s e y):y.gs.map (·.e)=(s.put e).2∧y.s.K≤(s.put e).1.K∧{ y.s with K:=(s.put e).1.K}=(s.put e).1:=by
 obtain⟨h1,⟨h2,h3,h4⟩|⟨h2,h3⟩⟩:=h
 ·have e0:¬sk s e=0:=by rw[←h1];exact h2
  unfold bw.put;rw[if_neg e0,h3,h4];exact⟨rfl,bj _,rfl⟩
 ·have e0:sk s e=0:=by rw[←h1];exact h2
  unfold bw.put;rw[if_pos e0];refine⟨h3.gone,h3.K,?_⟩;have a1:=h3.E;have a2:=h3.bytes;have a3:=h3.many;show bw.mk y.s.bytes y.s.many y.s.E _=bw.mk s.bytes s.many _ _;rw[a1,a2,a3]
theorem Pm (l:List Bs):cr (cr l).1=((cr l).1,0):=by
 have h0:cr []=([],0):=by simp[cr,setOf,fj]
 by_cases h1:l.all fF=false
 ·have e:cr l=([],2):=by unfold cr;rw[if_pos h1]
  rw[e];exact h0
 ·by_cases h2:16<(setOf l).length
  ·have e:cr l=([],5):=by unfold cr;rw[if_neg h1,if_pos h2]
   rw[e];exact h0
  ·have e:cr l=(fj ((setOf l).map (·.1)),0):=by unfold cr;rw[if_neg h1,if_neg h2]
   rw[e];obtain⟨k1,k2⟩:=O7 l [] (by simp);have k1':((setOf l).map (·.1)).Nodup:=k1;have k2':∀x,x∈(setOf l).map (·.1)↔x∈l:=fun x=>by have:=k2 x;simpa[setOf] using this
   have HK:=lV ((setOf l).map (·.1));have B9:=CU ((setOf l).map (·.1));generalize fj ((setOf l).map (·.1))=S at HK B9 ⊢;have hSn:S.Nodup:=HK.nodup_iff.2 k1';obtain⟨m1,m2⟩:=O7 S [] (by simp);have m1':((setOf S).map (·.1)).Nodup:=m1;have m2':∀x,x∈(setOf S).map (·.1)↔x∈S:=fun x=>by have:=m2 x;simpa[setOf] using this
   have hp:((setOf S).map (·.1)).Perm S:=(List.perm_ext_iff_of_nodup m1' hSn).2 m2';have e1:S.all fF≠false:=by
    have gB:l.all fF=true:=by simpa using h1
    rw[rj] at gB;have:S.all fF=true:=rj.2 fun x hx=>gB x ((k2' x).1 (HK.mem_iff.1 hx))
    rw[this];simp
   have e2:¬16<(setOf S).length:=by
    have a1:=hp.length_eq;have a2:=HK.length_eq;simp only[fk] at a1 a2;omega
   have e3:fj ((setOf S).map (·.1))=S:=((lV _).trans hp).eq_of_pairwise (fun a b _ _ h1 h2=>List.le_antisymm h1 h2) (CU _) B9;unfold cr;rw[if_neg e1,if_neg e2,e3]
theorem alG {l:List Bs}(h:cr l=(l,0)):l.Nodup:=by
 by_cases h1:l.all fF=false
 ·have e:cr l=([],2):=by unfold cr;rw[if_pos h1]
  rw[e] at h;cases h
 ·by_cases h2:16<(setOf l).length
  ·have e:cr l=([],5):=by unfold cr;rw[if_neg h1,if_pos h2]
   rw[e] at h;cases h
  ·have e:cr l=(fj ((setOf l).map (·.1)),0):=by unfold cr;rw[if_neg h1,if_neg h2]
   rw[e] at h;have h3:=(Prod.mk.inj h).1;rw[←h3];exact(lV _).nodup_iff.2 (O7 l [] (by simp)).1
def aq.fh (E:aq)(l:List cC):aq:=l.foldl (fun E x=>E.qP x.n) E
theorem aq.VM (E:aq){l:List cC}{i:Nat}{x:cC}(h:l[i]?=some x):E.fh (l.take (i+1))=(E.fh (l.take i)).qP x.n:=by
 unfold aq.fh;rw[ic,h,vt];rfl
theorem b8.fh {E:aq}(h:b8 E)(l:List cC):b8 (E.fh l)∧(E.fh l).s=E.s∧(E.fh l).r.K≤E.r.K+l.length∧(E.fh l).bf=E.bf∧(E.fh l).a.last=E.a.last∧(E.fh l).g=E.g∧(E.fh l).p=E.p∧(E.fh l).r.last=E.r.last:=by
 unfold aq.fh
 induction l generalizing E with
 |nil=>exact⟨h,rfl,bj _,rfl,rfl,rfl,rfl,rfl⟩
 |cons x l ih=>
  obtain⟨h1,h2,h3,h4,h5,h6,h7,Lm⟩:=ih (h.qP x.n);have h8:=(FJ E.r x.n).2;rw[ph,dR];have h9:(E.qP x.n).r.K≤E.r.K+1:=h8;exact⟨h1,h2,by omega,h4,h5.trans (b5.DE _ _),h6,h7,Lm.trans (FJ E.r x.n).1⟩
theorem OT {E:List cC}{k:Bs}{e:cC}(h:kT E k=some e):(dv E k).length+1≤E.length:=by
 have h1:=List.find?_some h;have h2:=List.mem_of_find?_eq_some h;have h3:=List.length_filter_lt_length_iff_exists (p:=fun e:cC=>decide (e.k≠k)) (l:=E);have h4:(E.filter fun e=>decide (e.k≠k)).length<E.length:=h3.2 ⟨e,h2,by simpa using h1⟩;unfold dv;omega
theorem ahJ (E:aq)(k:Bs):(E.gj k).r.K+(E.gj k).s.E.length≤E.r.K+E.s.E.length:=by
 unfold aq.gj;split
 ·rename_i x hx
  have hf:kT E.s.E k=some x:=by
   unfold aq.mP at hx;split at hx
   ·exact hx
   ·cases hx
  have h1:=OT hf;have h2:=(FJ E.r x.n).2;show(jm E.r x.n).2.2.K+(dv E.s.E k).length≤_;omega
 ·exact bj _
theorem Oz (E:aq)(l:List Bs):(E.out l).r.K+(E.out l).s.E.length≤E.r.K+E.s.E.length:=by
 unfold aq.out
 induction l generalizing E with
 |nil=>exact bj _
 |cons k l ih=>exact eh (ih _) (ahJ E k)
theorem AB (E:aq)(l:List Bs):(E.out l).bf=E.bf∧(E.out l).a.last=E.a.last∧(E.out l).p=E.p:=by
 unfold aq.out
 induction l generalizing E with
 |nil=>exact⟨rfl,rfl,rfl⟩
 |cons k l ih=>
  obtain⟨h1,h2,h3⟩:=ih (E.gj k);have k1:(E.gj k).bf=E.bf∧(E.gj k).a.last=E.a.last∧(E.gj k).p=E.p:=by
   unfold aq.gj;split
   ·exact⟨rfl,b5.DE _ _,rfl⟩
   ·exact⟨rfl,rfl,rfl⟩
  rw[ph];exact⟨h1.trans k1.1,h2.trans k1.2.1,h3.trans k1.2.2⟩
theorem abt (b m c:Nat)(l:List cC):(iv b m c l).1.length+(iv b m c l).2.length=l.length:=by
 induction l with
 |nil=>rfl
 |cons x l ih=>
  unfold iv;split
  ·dsimp only;rw[dR,dR];omega
  ·simp
theorem WK (s:bw)(e:cC):(s.put e).1.E.length+(s.put e).2.length≤s.E.length+1:=by
 unfold bw.put;split
 ·have h1:=abt s.bytes s.many (fb e) (dv s.E e.k);have h2:(dv s.E e.k).length≤s.E.length:=rh _ _;dsimp only;rw[bJ,ie];omega
 ·simp
noncomputable def aq.pre (E:aq)(c:dh):aq:={ (E.tick.out (cR E.g.E c.k)).out [c.k] with bf:=E.bf+1}
def aq.Cu (E:aq)(c:dh):cC:=⟨c.k,c.v,(cr c.t).1,nZ E.now c.d,E.bf,E.a.last⟩
def aq.put (E:aq)(e:cC):aq:=aq.fh { E with s:=(E.s.put e).1} (E.s.put e).2
def aq.add (E:aq)(t:List Bs):aq:={ E with r:=(jX E.r E.bf t).2.2}
noncomputable def aq.write (E:aq)(c:dh):aq:=((E.pre c).put ((E.pre c).Cu c)).add (cr c.t).1
end
section
attribute [local irreducible] GO GX aA eo fz aF aQ ao star
theorem abi {o:Og}{w:World}{b rb:Nat}{E:aq}(hG:b8 E)(c:dh)(y:iR){r0 r1 r2 r3 r4 r5:Value}(sU:c.k.length<2^40)(kG:c.v.length<2^40)(qK:c.t.length<2^40)(hd:c.d≤never)(Ai:y.v.1=none→c.v.length=0)(uB:E.s.K<2^57)(hP:E.r.K+E.s.E.length≤2*E.bf)(IY:E.bf<8000)(BH:E.g.K<2^39)(hs:Start o w [bU b E,aA rb [r0,r1,r2,r3,r4,r5],aF (y.v.1) (Lib.byteCells c.v),aF (y.t.1) (aM c.t)]) :
  aj prog 89 [ak b, .agg (jH c y).toArray,ak rb].toArray w (aU o (fun _:Unit => .tuple #[]) (fun _=>(cR E.g.E c.k).length≤65537) (fun _=>[bU b (E.write c),aA rb [r0,r1,r2,uV (E.bf+1),iV (cR E.g.E c.k).length,r5]])):=by
 have hH:=hs.sh;refine aj.enter func89 rfl ntmps89 rfl (gh ?_);refine GX.cw (h:=fun z w hH=>gh ?_);refine GX.bS (hc:=fun _ hs=>K1 (E:=E) c.k ah hs) (h:=?_);rintro⟨q,cc⟩ w hlen hH;replace hH:=SH.ap hH;dsimp only at hH;replace hH:=SH.freeze (el:=9) (sz:=1) (q:=q) (n:=(cR E.g.E c.k).length) (c:=cc) (cs:=aM (cR E.g.E c.k)) hH bL;obtain⟨k1,k2,k3⟩:=hG.tick.out (cR E.g.E c.k);have p1:=Oz E.tick (cR E.g.E c.k);obtain⟨f1,f2,f3⟩:=AB E.tick (cR E.g.E c.k);have g1:=Ww E.tick (cR E.g.E c.k);have e0:E.tick.s.K=E.s.K∧E.tick.r.K=E.r.K∧E.tick.s.E.length=E.s.E.length∧E.tick.bf=E.bf∧E.tick.a.last=E.a.last:=⟨rfl,rfl,rfl,rfl,rfl⟩
 obtain⟨e01,e02,e03,e04,e05⟩:=e0;refine gh ?_;refine GX.bz (hc:=fun _ hs=>zw (q:=q) hG.tick (cR E.g.E c.k) rfl ah ah ah hs) (h:=fun w hH=>gh ?_);have cN:E.pre c={ (E.tick.out (cR E.g.E c.k)).out [c.k] with bf:=E.bf+1}:=rfl;generalize E.tick.out (cR E.g.E c.k)=E2 at hH k1 k2 k3 p1 f1 f2 f3 g1 cN;obtain⟨l1,l2,l3⟩:=k1.out [c.k];have p2:=Oz E2 [c.k];obtain⟨f4,f5,f6⟩:=AB E2 [c.k];refine gh ?_;refine GX.nk (h:=fun b1 w hH=>gh ?_);replace hH:=hH.freeze aB.here;refine GX.bz (hc:=fun _ hs=>zw (q:=some b1) k1 [c.k] rfl (show 1<2^30 by decide) ah ah hs) (h:=fun w hH=>gh ?_);generalize E2.out [c.k]=E3 at hH l1 l2 l3 p2 f4 f5 f6 cN;simp only[ie] at l2 l3;have TN:E3.bf=E.bf:=by omega
 obtain⟨X,hH⟩:=SH.un hH;replace hH:=SH.ap hH;dsimp only[eK] at hH;refine gh ?_;refine GX.dw (h:=fun w hH=>gh ?_);rw[show(Value.int IntKind.u64 ((E3.bf:Int)+1))=uV (E.bf+1) by rw[TN];rfl] at hH;replace hH:=cV (X:=X) (E:={ E3 with bf:=E.bf+1}) hH;have Tv:E.pre c={ E3 with bf:=E.bf+1}:=cN;have gd:b8 { E3 with bf:=E.bf+1}:=⟨l1.o7,by show E3.r.last≤E.bf+1;have:=l1.qY;omega,l1.se,l1.nH,l1.dC,l1.now,by show E.bf+1<_;omega⟩
 have Ep:({ E3 with bf:=E.bf+1}:aq).r.last≤E.bf:=by show E3.r.last≤_;have:=l1.qY;omega
 have Tr:({ E3 with bf:=E.bf+1}:aq).r.K+({ E3 with bf:=E.bf+1}:aq).s.E.length≤2*E.bf:=by show E3.r.K+E3.s.E.length≤_;omega
 have TD:({ E3 with bf:=E.bf+1}:aq).s.K<2^58:=by show E3.s.K<_;omega
 have Nh:({ E3 with bf:=E.bf+1}:aq).bf=E.bf+1:=rfl;unfold aq.write;rw[←Tv] at hH gd Ep Tr TD Nh;clear cN Tv l1 l2 l3 p2 f4 f5 f6 TN k1 k2 k3 p1 f1 f2 f3 g1;generalize E.pre c=E4 at hH gd Ep Tr TD Nh ⊢;refine gh ?_;refine GX.dX (hc:=fun _ hs=>Gd (a:=y.t.1) c.t rfl qK hs) (h:=?_);rintro⟨qt,ct⟩ w _ hE hH;replace hH:=SH.ap hH;dsimp only[mM] at hH;have xU:=Pm c.t;have wq:=AU c.t;have b6:=gd.nH;have x6:=gd.now;have hnv:(never:Nat)=18446744073709551615:=rfl;unfold aq.Cu;generalize (cr c.t).1=tg at hH xU wq ⊢;have ET:=hH.We (el:=9) (sz:=1) (q:=qt);replace hH:=SH.freeze (el:=9) (sz:=1) (q:=qt) (n:=tg.length) (c:=ct) (cs:=aM tg) hH bL;replace hH:=SH.xH (a:=ay qt) (cs:=aM tg) hH bL;obtain⟨X,hH⟩:=SH.un hH;replace hH:=SH.ap hH;dsimp only[eK] at hH;refine gh ?_;refine GC.bq (pl:=(aZ [0,3,6,12,18,24,27,30,33,39,48,51,54,60,63,66,10,16,22,37,43,58,70,47,74,75,80,81,84,87,90,93])) (T:=cS [b,z]) (hm:=mixed) (h:=fun w hE hH=>gh ?_);refine GX.pA (hc:=G8 E4.now c.d x6 hd _) (h:=gh ?_);refine GX.xF (hc:=fun _ hs=>XI (S:=E4.a) hs) (h:=fun w hS hH=>gh ?_);refine GX.gT (hc:=fun _ hs=>ald (s:=E4.s) (av:=y.v.1) (ta:=ay qt) ⟨c.k,c.v,tg,nZ E4.now c.d,E4.bf,E4.a.last⟩ sU rfl kG rfl (by dsimp only;omega) Yd (by dsimp only;omega) (by dsimp only;omega) Ai ET ah hs) (h:=?_);rintro⟨gs,⟨gq,gc⟩,er,s'⟩ w acw hS hH;obtain⟨u1,u2,u3⟩:=acw.eq;replace hH:=SH.ap hH;dsimp only at u1 u2 u3 hH ⊢;replace hH:=hH.alp u2;rw[u3] at hH;have ur:=WK E4.s ⟨c.k,c.v,tg,nZ E4.now c.d,E4.bf,E4.a.last⟩;unfold aq.put;generalize nT:(⟨c.k,c.v,tg,nZ E4.now c.d,E4.bf,E4.a.last⟩:cC)=ne at u1 hH ur ⊢;have ql:=gd.drop (E4.s.put ne).1;have lK:gs.length=(E4.s.put ne).2.length:=by rw[←u1,fk]
 refine gh ?_;refine GC.bP [0,2,6,7,68,69] (fun i:Nat=>[(70,iV i)]) (fun i w'=>i≤gs.length∧SH o w' [bU b (aq.fh { E4 with s:=(E4.s.put ne).1} ((E4.s.put ne).2.take i)),ao 138 6 gq gs.length gc (aK eB gs),aA rb [r0,r1,r2,r3,r4,r5],aF (ay qt) (aM tg),aA z (jH c y)]) (fun i=>gs.length - i) 0 rfl rfl ⟨bh _,(cV (X:=X) (E:={ E4 with s:=(E4.s.put ne).1}) hH).to⟩ ?_;rintro i w ⟨hi,hH⟩;have DR:=ql.fh ((E4.s.put ne).2.take i);have gi:=fun x=>@aq.VM { E4 with s:=(E4.s.put ne).1} (E4.s.put ne).2 i x
 have aP:((E4.s.put ne).2.take i).length≤(E4.s.put ne).2.length:=by rw[dE];omega
 generalize gV:aq.fh { E4 with s:=(E4.s.put ne).1} ((E4.s.put ne).2.take i)=E6 at hH DR gi;obtain⟨iK,v1,v2,v3,v4,v5,v6,v7⟩:=DR;dsimp only at v1 v2 v3 v4 v7;refine gh ?_;refine ifs (fun h1=>?_) (fun h1=>?_)<;>refine gh ?_<;>dsimp only at h1
 ·obtain⟨x,hx⟩:∃x,gs[i]?=some x:=⟨_,bO ah⟩
  have ey:(E4.s.put ne).2[i]?=some x.e:=by rw[←u1,gb,hx];rfl
  have ES:=gi x.e ey;obtain⟨qb,rfl⟩:=hH.pos (el:=138) (sz:=6) (q:=gq) (n:=gs.length);refine gh ?_;refine GX.next rfl (GO.jz (hv:=jj o9 hx) (h:=gh ?_));refine GX.cm (h:=fun f w hH=>gh ?_);refine GX.bc (h:=fun w hH=>gh ?_);refine GX.bz (hc:=fun _ hs=>K3 iK x.e.k _ _ x.e.d x.e.n x.e.st ah hs) (h:=fun w hH=>gh ?_);refine gh ?_;refine GQ.br (i+1) rfl ⟨by omega,?_⟩ ah;rw[ES];exact hH.to
 ·obtain rfl:i=gs.length:=by omega
  rw[lK,eO (bj _)] at gV;rw[gV];clear gV gi;obtain⟨X2,hH⟩:=SH.un hH;replace hH:=SH.ap hH;dsimp only[eK] at hH;refine gh ?_;refine GC.bq (pl:=(aZ [0,3,6,12,15,18,24,10,22,29])) (T:=cS [b]) (hm:=mixed) (h:=fun w hE hH=>gh ?_);refine GX.gT (hc:=fun _ hs=>ajp (R:=E6.r) E6.bf tg ah xU ah hs) (h:=?_);rintro⟨q9,c9⟩ w _ HI hH;replace hH:=SH.ap hH;refine gh ?_;refine GX.dw (h:=fun w hH=>gh ?_);refine GX.dw (h:=fun w hH=>gh ?_);rw[←Nh,←v3];exact⟨(),rfl,hlen,(cV (X:=X2) (E:=E6.add tg) hH).to⟩
end
end Go.Proofs.YtmlpbmgfmnmmmaaGreat.V.M
