/-
  Parts of the proof. No condition.
-/
import Derived.Test.YtmlpbmgfmnmmmaaGreatW2aj
set_option linter.unusedVariables false
set_option linter.unusedSimpArgs false
set_option maxRecDepth 8000
set_option maxHeartbeats 8000000
open Go.Proofs.Tryz
namespace Go.Proofs.YtmlpbmgfmnmmmaaGreat.V.M
section
attribute [local irreducible] GO GX aA fz aF aQ ao star
structure Ar where
 aI:Nat
 aW:List Int
 free:List Nat
def dI (l:List Int):List Value:=l.map iV
@[simp] theorem Fi (l:List Int):(dI l).length=l.length:=by simp[dI]
theorem NH {l:List Int}{j:Nat}(h:j<l.length):(dI l)[j]?=some (iV (l.getD j 0)):=by simp[dI,h]
theorem aeG {l:List Nat}{j:Nat}(h:j<l.length):(aD l)[j]?=some (iV (l.getD j 0:Nat)):=by simp[aD,h]
def mL (a:Nat)(A:Ar):It:=star fun x:(Option Nat×Nat)×(Option Nat×Nat)=>
 [aA a [iV A.aI, .slice (ay x.1.1) A.aW.length x.1.2, .slice (ay x.2.1) A.free.length x.2.2],ao 3 1 x.1.1 A.aW.length x.1.2 (dI A.aW),ao 3 1 x.2.1 A.free.length x.2.2 (aD A.free)]
instance {a:Nat}{A:Ar}:Zf (mL a A):=Zf.star fun _=>inferInstance
theorem Bi {o:Og}{w:World}{l t:List It}{a c1 c2 n1 n2:Nat}{A:Ar}{q1 q2:Option Nat}{g f:List Value}(h:SH o w l)
  (hp:Pk l [aA a [iV A.aI, .slice (ay q1) n1 c1, .slice (ay q2) n2 c2],ao 3 1 q1 n1 c1 g,ao 3 1 q2 n2 c2 f] t:=by repeat(first|exact Pk.nil|(apply Pk.cons;repeat(first|exact aB.here|apply aB.there))))
  (e1:n1=A.aW.length:=by simp) (e2:n2=A.free.length:=by simp) (e3:g=dI A.aW:=by simp[dI]) (e4:f=aD A.free:=by simp[aD]):SH o w (mL a A::t):=by
 subst e1 e2 e3 e4;exact SH.fold ((q1,c1),q2,c2) h hp
theorem GK {o:Og}{w:World}{a:Nat}{A:Ar}(hA:0<A.aI)(hs:Start o w [fz (mL a A)]):aj prog 195 [ak a].toArray w (Po o (.bool false) []):=by
 have hH:=hs.sh;obtain⟨x,hH⟩:=SH.dQ hH;replace hH:=SH.dW hH;refine aj.enter func195 rfl ntmps195 rfl (gh ?_);exact⟨(xc ah).symm,hH.to⟩
def qO (A:Ar)(n:Int):Prop:=0≤n∧n<A.aW.length∧0≤A.aW.getD n.toNat 0
instance {A:Ar}{n:Int}:Decidable (qO A n):=by unfold qO;infer_instance
def vA (A:Ar)(n:Int):Int×Int×Int:=if qO A n then(n,A.aW.getD n.toNat 0,0) else(0,0,9)
theorem YO {o:Og}{w:World}{a:Nat}{A:Ar}(hA:0<A.aI)(n:Int)(hs:Start o w [fz (mL a A)]):aj prog 309 [ak a,iV n].toArray w (Po o (.tuple #[.agg #[iV (vA A n).1,iV (vA A n).2.1],iV (vA A n).2.2]) []):=by
 have hH:=hs.sh;refine aj.enter func309 rfl ntmps309 rfl (gh ?_);refine GX.cm (h:=fun b w hH=>gh ?_);refine GX.aL (hc:=fun _ hs=>GK hA hs) (h:=fun w hE hH=>gh ?_);obtain⟨⟨⟨q1,c1⟩,q2,c2⟩,hH⟩:=SH.dQ hH;replace hH:=SH.dW hH;dsimp only at hH;refine ifs (fun h1=>?_) (fun h1=>?_)<;>refine gh ?_
 ·refine GX.bc (h:=fun w hH=>gh ?_);exact⟨by rw[vA,if_neg (by unfold qO;omega)],hH.to⟩
 refine ifs (fun h2=>?_) (fun h2=>?_)<;>refine gh ?_
 ·refine GX.bc (h:=fun w hH=>gh ?_);exact⟨by rw[vA,if_neg (by unfold qO;omega)],hH.to⟩
 obtain⟨k,rfl⟩:∃k:Nat,n=k:=⟨n.toNat,by omega⟩
 obtain⟨b1,rfl⟩:=hH.lR (cs:=dI A.aW);refine gh ?_;refine GX.next rfl (GO.cG (hv:=NH (j:=k) ah) (h:=gh ?_));refine ifs (fun h3=>?_) (fun h3=>?_)<;>refine gh ?_
 ·refine GX.bc (h:=fun w hH=>gh ?_);exact⟨by rw[vA,if_neg (by unfold qO;rw[tG];omega)],hH.to⟩
 refine GX.next rfl (GO.cG (hv:=NH (j:=k) ah) (h:=gh ?_));refine GX.bc (h:=fun w hH=>gh ?_);exact⟨by rw[vA,if_pos (by unfold qO;rw[tG];omega)];rfl,hH.to⟩
theorem Zb {o:Og}{w:World}{a:Nat}{A:Ar}(hA:0<A.aI)(n g:Int)(hs:Start o w [fz (mL a A)]):aj prog 259 [ak a, .agg #[iV n,iV g]].toArray w (Po o (.bool (decide (qO A n∧A.aW.getD n.toNat 0=g))) []):=by
 have hH:=hs.sh;refine aj.enter func259 rfl ntmps259 rfl (gh ?_);refine GX.cw (h:=fun b w hH=>gh ?_);refine GX.aL (hc:=fun _ hs=>YO hA n hs) (h:=fun w hE hH=>gh ?_);refine GX.cm (h:=fun b2 w hH=>gh ?_);refine GX.bc (h:=fun w hH=>gh ?_)
 by_cases hl:qO A n
 ·have e:vA A n=(n,A.aW.getD n.toNat 0,0):=if_pos hl;refine ifs (fun h1=>?_) (fun h1=>?_)<;>refine gh ?_
  ·refine⟨congrArg Value.bool ?_,hH.to⟩;simp[e,hl]
  ·rw[e] at h1;exact absurd rfl h1
 ·have e:vA A n=(0,0,9):=if_neg hl;refine ifs (fun h1=>?_) (fun h1=>?_)<;>refine gh ?_
  ·rw[e] at h1;cases h1
  ·exact⟨xc fun h=>hl h.1,hH.to⟩
def xC (A:Ar)(n:Nat):Ar:={ A with aW:=A.aW.set n (-(A.aW.getD n 0+1)),free:=A.free++[n]}
attribute [local simp] xC dI aD in
theorem Za {o:Og}{w:World}{a:Nat}{A:Ar}(hA:0<A.aI)(n:Nat)(g:Int)(hl:qO A n)(hg:g=A.aW.getD n 0)(hb:g<2^62)(hf:A.free.length<2^40)(hs:Start o w [mL a A]):aj prog 178 [ak a, .agg #[iV n,iV g]].toArray w (Po o (iV 0) [mL a (xC A n)]):=by
 have hH:=hs.sh;obtain⟨rH,iA,vY⟩:=id hl;rw[tG,←hg] at vY;refine aj.enter func178 rfl ntmps178 rfl (gh ?_);refine GX.cw (h:=fun b w hH=>gh ?_);refine GX.aL (hc:=fun _ hs=>GK hA hs) (h:=fun w hE hH=>gh ?_);refine GX.aL (hc:=fun _ hs=>Zb hA n g hs) (h:=fun w hE hH=>gh ?_);refine ifs (fun h1=>?_) (fun h1=>?_)<;>refine gh ?_
 ·exact absurd ⟨hl,by rw[tG];exact hg.symm⟩ h1
 obtain⟨⟨⟨q1,c1⟩,q2,c2⟩,hH⟩:=SH.un hH;replace hH:=SH.ap hH;dsimp only at hH;obtain⟨b1,rfl⟩:=hH.pos (cs:=dI A.aW);refine GC.bq (pl:=(aZ [0,3,6,12,18,10,16,22,24,27,30,35])) (T:=fun _=>False) (hm:=mixed) (h:=fun w hE hH=>gh ?_);refine GX.FZ (j:=n) (hj:=by simp only[Fi];omega) (h:=fun w hH=>gh ?_);have lf:=hH.th (b:=a) (q:=q2);have jS:=hH.th (b:=b) (q:=q2);refine GC.bq (pl:=(aZ [0,3,6,9,15,13,19,23,26,27,30,35])) (T:=fun k=>some k=q2) (hm:=mixed) (h:=fun w hE hH=>gh ?_);refine GX.P1 (h1:=by simp[Value.oneCell']) (h:=fun q c w _ hH=>gh ?_);refine GX.fH (h:=fun w hH=>gh ?_);subst hg;exact⟨rfl,(Bi (A:=xC A n) hH).to⟩
def oE (A:Ar):Ar×Int×Int×Int:=
 match A.free.getLast? with
 |some n=>({ A with aW:=A.aW.set n (-(A.aW.getD n 0)),free:=A.free.dropLast},n,-(A.aW.getD n 0),0)
 |none=>if A.aI≤A.aW.length then(A,0,0,7) else({ A with aW:=A.aW++[1]},A.aW.length,1,0)
structure nE (K:Nat)(A:Ar):Prop where
 aI:0<A.aI∧A.aI≤1048576
 len:A.aW.length≤A.aI
 gen:∀g∈A.aW,g≠0∧-(K:Int) - 1≤g∧g≤K+1
 free:∀n:Nat,n∈A.free↔n<A.aW.length∧A.aW.getD n 0<0
 nodup:A.free.Nodup
 Br:A.free.length≤A.aW.length
theorem Hv {α:Type}{l:List α}{i:Nat}(d:α)(h:i<l.length):l.getD i d∈l:=by
 rw[show l.getD i d=l[i] by simp[List.getD,h]];exact ot h
attribute [local simp] dI aD in
theorem Zi {o:Og}{w:World}{a K:Nat}{A:Ar}(hA:nE K A)(hK:K<2^60)(hs:Start o w [mL a A]):aj prog 225 [ak a].toArray w (Po o (.tuple #[.agg #[iV (oE A).2.1,iV (oE A).2.2.1],iV (oE A).2.2.2]) [mL a (oE A).1]):=by
 have hH:=hs.sh;have hl:=hA.len;have hm:=hA.aI;have SF:=hA.Br;refine aj.enter func225 rfl ntmps225 rfl (gh ?_);refine GX.cm (h:=fun b w hH=>gh ?_);refine GX.aL (hc:=fun _ hs=>GK hm.1 hs) (h:=fun w hE hH=>gh ?_);obtain⟨⟨⟨q1,c1⟩,q2,c2⟩,hH⟩:=SH.un hH;replace hH:=SH.ap hH;dsimp only at hH;refine gh ?_;refine ifs (fun h1=>?_) (fun h1=>?_)<;>refine gh ?_
 ·have kX:0<A.free.length:=by omega
  obtain⟨b2,rfl⟩:=hH.pos (cs:=aD A.free);obtain⟨n,hn⟩:∃n,A.free.getLast?=some n:=⟨_,List.getLast?_eq_some_getLast (by intro h;rw[h] at kX;cases kX)⟩
  have oP:A.free.getD (A.free.length - 1) 0=n:=by rw[List.getLast?_eq_getElem?] at hn;simp[List.getD,hn]
  obtain⟨lf,jS⟩:=(hA.free n).1 (List.mem_of_getLast? hn);have Ib:=hA.gen (A.aW.getD n 0) (Hv 0 lf);obtain⟨b1,rfl⟩:=hH.pos (cs:=dI A.aW);refine gh ?_;refine GX.next rfl (GO.cG (hv:=aeG (j:=A.free.length - 1) ah) (h:=gh ?_));rw[oP];refine GX.KY (c:=A.free.length - 1) (h:=fun hH=>gh ?_);refine GX.dw (h:=fun w hH=>gh ?_);refine GC.bq (pl:=(aZ [0,3,6,12,15,18,21,27,10,25,30,34,36,39,44])) (T:=fun _=>False) (hm:=mixed) (h:=fun w hE hH=>gh ?_);refine GX.read rfl (GO.jU (hv:=NH (j:=n) ah) (h:=gh ?_));refine GX.FZ (j:=n) (hj:=by simp only[Fi];omega) (h:=fun w hH=>gh ?_);refine GX.next rfl (GO.cG (hv:=show((dI A.aW).set n (.int .i64 (0 - A.aW.getD n 0)))[n]?=some (iV (-(A.aW.getD n 0))) by simp[dI,lf]) (h:=gh ?_));refine GX.bc (h:=fun w hH=>gh ?_);have e:oE A=({ A with aW:=A.aW.set n (-(A.aW.getD n 0)),free:=A.free.dropLast},(n:Int),-(A.aW.getD n 0),(0:Int)):=by simp only[oE,hn]
  rw[e];exact⟨rfl,(Bi (A:={ A with aW:=A.aW.set n (-(A.aW.getD n 0)),free:=A.free.dropLast}) hH (e4:=by simp[aD,List.dropLast_eq_take])).to⟩
 have hn:A.free.getLast?=none:=by
  have:A.free=[]:=ga ah;rw[this];rfl
 refine GC.bq (pl:=(aZ [0,3,6,15,18,21,10,12,25,27,30])) (T:=fun _=>False) (hm:=mixed) (h:=fun w hE hH=>gh ?_);refine ifs (fun h2=>?_) (fun h2=>?_)<;>refine gh ?_
 ·refine GX.bc (h:=fun w hH=>gh ?_);have e:oE A=(A,0,0,7):=by simp only[oE,hn];rw[if_pos ah]
  rw[e];exact⟨rfl,(Bi (A:=A) hH).to⟩
 refine GX.mK (h1:=by simp[Value.oneCell']) (h:=fun q c w _ hH=>gh ?_);refine GX.dw (h:=fun w hH=>gh ?_);refine GX.bc (h:=fun w hH=>gh ?_);have e:oE A=({ A with aW:=A.aW++[1]},(A.aW.length:Int),(1:Int),(0:Int)):=by simp only[oE,hn];rw[if_neg ah]
 rw[e];refine⟨?_,(Bi (A:={ A with aW:=A.aW++[1]}) hH).to⟩;simp
end
section
attribute [local irreducible] GO GX aA fz aF aQ ao star
variable {o:Og}{w:World}
def mN (n:Nat)(q:Option Nat×Nat):Value := .slice (ay q.1) n q.2
def mM (el:TypeId)(sz n:Nat)(cs:List Value)(q:Option Nat×Nat):List It:=[ao el sz q.1 n q.2 cs]
instance {el:TypeId}{sz n:Nat}{cs:List Value}{q:Option Nat×Nat}:fV (mM el sz n cs q):=by unfold mM;infer_instance
theorem vD {a:Option Addr}{n c:Nat}{cs:List Value}(hn:n<2^40)(hl:cs.length=n*1)(h0:a=none→n=0)(h1:∀u∈cs,u.oneCell'=true)(hs:Start o w [aF a cs]) :
  aj prog 131 [.slice a n c].toArray w (aU o (mN n) (fun _=>True) (mM 3 1 n cs)):=by
 have hH:=hs.sh;refine aj.enter func131 rfl ntmps131 rfl (gh ?_);cases a with
 |none=>
  obtain rfl:=h0 rfl;obtain rfl:cs=[]:=ga ah;refine gh ?_;exact⟨(none,0),rfl,trivial,(SH.cE hH (Mod.refl w) (fun _ h=>by cases h) (aG.nil _ _ _)).to⟩
 |some x=>
  refine gh ?_;refine GX.tU (h:=fun q w hH=>gh ?_);refine GX.nI (hN:=SH.bR hH (x:=aF (some x) cs) bL) (hnl:=hl) (h1:=h1) (hb:=by omega) (hm:=by omega) (h:=fun q c w hH=>gh ?_);rw[dA] at hH ⊢;exact⟨(q,c),rfl,trivial,hH.to⟩
theorem aao {a:Option Addr}{n c:Nat}{cs:List Value}(hn:n<2^40)(hl:cs.length=n*1)(h0:a=none→n=0)(h1:∀u∈cs,u.oneCell'=true)(hs:Start o w [aF a cs]) :
  aj prog 205 [.slice a n c].toArray w (aU o (mN n) (fun _=>True) (mM 9 1 n cs)):=by
 have hH:=hs.sh;refine aj.enter func205 rfl ntmps205 rfl (gh ?_);cases a with
 |none=>
  obtain rfl:=h0 rfl;obtain rfl:cs=[]:=ga ah;refine gh ?_;exact⟨(none,0),rfl,trivial,(SH.cE hH (Mod.refl w) (fun _ h=>by cases h) (aG.nil _ _ _)).to⟩
 |some x=>
  refine gh ?_;refine GX.tU (h:=fun q w hH=>gh ?_);refine GX.nI (hN:=SH.bR hH (x:=aF (some x) cs) bL) (hnl:=hl) (h1:=h1) (hb:=by omega) (hm:=by omega) (h:=fun q c w hH=>gh ?_);rw[dA] at hH ⊢;exact⟨(q,c),rfl,trivial,hH.to⟩
theorem aai {a:Option Addr}{n c:Nat}{cs:List Value}(hn:n<2^40)(hl:cs.length=n*2)(h0:a=none→n=0)(h1:∀u∈cs,u.oneCell'=true)(hs:Start o w [aF a cs]) :
  aj prog 197 [.slice a n c].toArray w (aU o (mN n) (fun _=>True) (mM 329 2 n cs)):=by
 have hH:=hs.sh;refine aj.enter func197 rfl ntmps197 rfl (gh ?_);cases a with
 |none=>
  obtain rfl:=h0 rfl;obtain rfl:cs=[]:=ga ah;refine gh ?_;exact⟨(none,0),rfl,trivial,(SH.cE hH (Mod.refl w) (fun _ h=>by cases h) (aG.nil _ _ _)).to⟩
 |some x=>
  refine gh ?_;refine GX.tU (h:=fun q w hH=>gh ?_);refine GX.nI (hN:=SH.bR hH (x:=aF (some x) cs) bL) (hnl:=hl) (h1:=h1) (hb:=by omega) (hm:=by omega) (h:=fun q c w hH=>gh ?_);rw[dA] at hH ⊢;exact⟨(q,c),rfl,trivial,hH.to⟩
theorem aan {a:Option Addr}{n c:Nat}{cs:List Value}(hn:n<2^40)(hl:cs.length=n*2)(h0:a=none→n=0)(h1:∀u∈cs,u.oneCell'=true)(hs:Start o w [aF a cs]) :
  aj prog 122 [.slice a n c].toArray w (aU o (mN n) (fun _=>True) (mM 230 2 n cs)):=by
 have hH:=hs.sh;refine aj.enter func122 rfl ntmps122 rfl (gh ?_);cases a with
 |none=>
  obtain rfl:=h0 rfl;obtain rfl:cs=[]:=ga ah;refine gh ?_;exact⟨(none,0),rfl,trivial,(SH.cE hH (Mod.refl w) (fun _ h=>by cases h) (aG.nil _ _ _)).to⟩
 |some x=>
  refine gh ?_;refine GX.tU (h:=fun q w hH=>gh ?_);refine GX.nI (hN:=SH.bR hH (x:=aF (some x) cs) bL) (hnl:=hl) (h1:=h1) (hb:=by omega) (hm:=by omega) (h:=fun q c w hH=>gh ?_);rw[dA] at hH ⊢;exact⟨(q,c),rfl,trivial,hH.to⟩
theorem aap {a:Option Addr}{n c:Nat}{cs:List Value}(hn:n<2^40)(hl:cs.length=n*2)(h0:a=none→n=0)(h1:∀u∈cs,u.oneCell'=true)(hs:Start o w [aF a cs]) :
  aj prog 201 [.slice a n c].toArray w (aU o (mN n) (fun _=>True) (mM 211 2 n cs)):=by
 have hH:=hs.sh;refine aj.enter func201 rfl ntmps201 rfl (gh ?_);cases a with
 |none=>
  obtain rfl:=h0 rfl;obtain rfl:cs=[]:=ga ah;refine gh ?_;exact⟨(none,0),rfl,trivial,(SH.cE hH (Mod.refl w) (fun _ h=>by cases h) (aG.nil _ _ _)).to⟩
 |some x=>
  refine gh ?_;refine GX.tU (h:=fun q w hH=>gh ?_);refine GX.nI (hN:=SH.bR hH (x:=aF (some x) cs) bL) (hnl:=hl) (h1:=h1) (hb:=by omega) (hm:=by omega) (h:=fun q c w hH=>gh ?_);rw[dA] at hH ⊢;exact⟨(q,c),rfl,trivial,hH.to⟩
theorem aam {a:Option Addr}{n c:Nat}{cs:List Value}(hn:n<2^40)(hl:cs.length=n*3)(h0:a=none→n=0)(h1:∀u∈cs,u.oneCell'=true)(hs:Start o w [aF a cs]) :
  aj prog 207 [.slice a n c].toArray w (aU o (mN n) (fun _=>True) (mM 337 3 n cs)):=by
 have hH:=hs.sh;refine aj.enter func207 rfl ntmps207 rfl (gh ?_);cases a with
 |none=>
  obtain rfl:=h0 rfl;obtain rfl:cs=[]:=ga ah;refine gh ?_;exact⟨(none,0),rfl,trivial,(SH.cE hH (Mod.refl w) (fun _ h=>by cases h) (aG.nil _ _ _)).to⟩
 |some x=>
  refine gh ?_;refine GX.tU (h:=fun q w hH=>gh ?_);refine GX.nI (hN:=SH.bR hH (x:=aF (some x) cs) bL) (hnl:=hl) (h1:=h1) (hb:=by omega) (hm:=by omega) (h:=fun q c w hH=>gh ?_);rw[dA] at hH ⊢;exact⟨(q,c),rfl,trivial,hH.to⟩
theorem QG {a:Option Addr}{n c:Nat}{cs:List Value}(hn:n<2^40)(hl:cs.length=n*1)(h0:a=none→n=0)(h1:∀u∈cs,u.oneCell'=true)(hs:Start o w [aF a cs]) :
  aj prog 126 [.slice a n c].toArray w (aU o (mN n) (fun _=>True) (mM 38 1 n cs)):=by
 have hH:=hs.sh;refine aj.enter func126 rfl ntmps126 rfl (gh ?_);cases a with
 |none=>
  obtain rfl:=h0 rfl;obtain rfl:cs=[]:=ga ah;refine gh ?_;exact⟨(none,0),rfl,trivial,(SH.cE hH (Mod.refl w) (fun _ h=>by cases h) (aG.nil _ _ _)).to⟩
 |some x=>
  refine gh ?_;refine GX.tU (h:=fun q w hH=>gh ?_);refine GX.nI (hN:=SH.bR hH (x:=aF (some x) cs) bL) (hnl:=hl) (h1:=h1) (hb:=by omega) (hm:=by omega) (h:=fun q c w hH=>gh ?_);rw[dA] at hH ⊢;exact⟨(q,c),rfl,trivial,hH.to⟩
theorem QC {a:Option Addr}{n c:Nat}{cs:List Value}(hn:n<2^40)(hl:cs.length=n*2)(h0:a=none→n=0)(h1:∀u∈cs,u.oneCell'=true)(hs:Start o w [aF a cs]) :
  aj prog 127 [.slice a n c].toArray w (aU o (mN n) (fun _=>True) (mM 242 2 n cs)):=by
 have hH:=hs.sh;refine aj.enter func127 rfl ntmps127 rfl (gh ?_);cases a with
 |none=>
  obtain rfl:=h0 rfl;obtain rfl:cs=[]:=ga ah;refine gh ?_;exact⟨(none,0),rfl,trivial,(SH.cE hH (Mod.refl w) (fun _ h=>by cases h) (aG.nil _ _ _)).to⟩
 |some x=>
  refine gh ?_;refine GX.tU (h:=fun q w hH=>gh ?_);refine GX.nI (hN:=SH.bR hH (x:=aF (some x) cs) bL) (hnl:=hl) (h1:=h1) (hb:=by omega) (hm:=by omega) (h:=fun q c w hH=>gh ?_);rw[dA] at hH ⊢;exact⟨(q,c),rfl,trivial,hH.to⟩
theorem aeL (l:List Int):∀u∈dI l,u.oneCell'=true:=by
 intro u hu;obtain⟨x,_,rfl⟩:=bK.1 hu;rfl
theorem Zd (n:Nat)(h1:1≤n)(h2:n≤1048576)(hs:Start o w []):aj prog 78 [iV n].toArray w (aU o (fun a => .tuple #[ak a,iV 0]) (fun _=>True) (fun a=>[mL a ⟨n,[],[]⟩])):=by
 have hH:=hs.sh;refine aj.enter func78 rfl ntmps78 rfl (gh ?_);refine ifs (fun h3=>?_) (fun h3=>?_)<;>refine gh ?_
 ·omega
 refine ifs (fun h3=>?_) (fun h3=>?_)<;>refine gh ?_
 ·omega
 refine GX.cw (h:=fun a w hH=>gh ?_);have aO:=SH.cE (el:=3) (sz:=1) (q:=none) (n:=0) (c:=0) (cs:=[]) hH (Mod.refl w) (fun _ h=>by cases h) (aG.nil _ _ _);have cF:=SH.cE (el:=3) (sz:=1) (q:=none) (n:=0) (c:=0) (cs:=[]) aO (Mod.refl w) (fun _ h=>by cases h) (aG.nil _ _ _);exact⟨a,rfl,trivial,(Bi (q1:=none) (q2:=none) (A:=⟨n,[],[]⟩) cF).to⟩
theorem YT {a:Nat}{A:Ar}(hA:0<A.aI)(h2:A.aW.length<2^40)(h3:A.free.length<2^40)(hs:Start o w [fz (mL a A)]):aj prog 117 [ak a].toArray w (aU o ak (fun _=>True) (fun b=>[mL b A])):=by
 have hH:=hs.sh;refine aj.enter func117 rfl ntmps117 rfl (gh ?_);refine GX.aL (hc:=fun _ hs=>GK hA hs) (h:=fun w hE hH=>gh ?_);obtain⟨⟨⟨q1,c1⟩,q2,c2⟩,hH⟩:=SH.dQ hH;replace hH:=SH.dW hH;dsimp only at hH;have e1:=hH.ti (cs:=dI A.aW);have e2:=hH.ti (cs:=aD A.free);refine GC.bq (pl:=(aZ [0,3,6,12,15,18,27,30,33,10,22,37,26,41,42,47,48])) (T:=fun _=>False) (hm:=mixed) (h:=fun w hE hH=>gh ?_);refine GX.ew (hc:=fun _ hs=>vD (cs:=dI A.aW) h2 (by simp) e1 (aeL _) hs) (h:=?_);rintro⟨q3,c3⟩ w _ hS hH;replace hH:=SH.ap hH;refine gh ?_;refine GX.ew (hc:=fun _ hs=>vD (cs:=aD A.free) h3 (by simp) e2 (qM _) hs) (h:=?_);rintro⟨q4,c4⟩ w _ hS hH;replace hH:=SH.ap hH;refine gh ?_;refine GX.nJ (h:=fun b w hS hH=>gh ?_);exact⟨b,rfl,trivial,(Bi (A:=A) hH).to⟩
def iq (a b e ub ue:Nat):It:=aA a [iV b,iV e,iV ub,iV ue]
instance {a b e ub ue:Nat}:Zf (iq a b e ub ue):=by unfold iq;infer_instance
theorem aas (b e:Nat)(hb:1≤b∧b≤1099511627776)(he:1≤e∧e≤1048576)(hs:Start o w []):aj prog 77 [iV b,iV e].toArray w (aU o (fun a => .tuple #[ak a,iV 0]) (fun _=>True) (fun a=>[iq a b e 0 0])):=by
 have hH:=hs.sh;refine aj.enter func77 rfl ntmps77 rfl (gh ?_);refine ifs (fun h1=>?_) (fun h1=>?_)<;>refine gh ?_
 ·omega
 refine ifs (fun h1=>?_) (fun h1=>?_)<;>refine gh ?_
 ·omega
 refine ifs (fun h1=>?_) (fun h1=>?_)<;>refine gh ?_
 ·omega
 refine ifs (fun h1=>?_) (fun h1=>?_)<;>refine gh ?_
 ·omega
 refine GX.cw (h:=fun a w hH=>gh ?_);exact⟨a,rfl,trivial,hH.to⟩
theorem Hf {a b e ub ue:Nat}(hb:1≤b)(hs:Start o w [fz (iq a b e ub ue)]):aj prog 203 [ak a].toArray w (Po o (.bool false) []):=by
 have hH:=hs.sh;unfold iq at hH;refine aj.enter func203 rfl ntmps203 rfl (gh ?_);refine⟨?_,hH.to⟩;rw[bt ah];rfl
theorem Qr {a b e ub ue:Nat}(hb:1≤b)(c:Int)(p:Option Addr)(hs:Start o w [fz (iq a b e ub ue),aF p [iV c]]):aj prog 256 [ak a, .slice p 1 1].toArray w (Po o (iV (if c<65∨67000<c then 3 else 0)) []):=by
 have hH:=hs.sh;refine aj.enter func256 rfl ntmps256 rfl (gh ?_);refine GX.aL (hc:=fun _ hs=>Hf hb hs) (h:=fun w hE hH=>gh ?_);have hA:=hH.bR (x:=aF p [iV c]) (a:=p) (cs:=[iV c]) bL;obtain⟨k,z,rfl,ry⟩:=hA.XN;refine GC.bP [9,10] (fun i:Nat=>[(11,iV i)]) (fun i w'=>(i=0∨i=1∧¬(c<65∨67000<c))∧SH o w' [fz (iq a b e ub ue),aF (some ⟨k,z,none⟩) [iV c]]) (fun i=>2 - i) 0 rfl rfl ⟨.inl rfl,hH⟩ ?_;rintro i w ⟨hi,hH⟩;refine gh ?_;refine ifs (fun h1=>?_) (fun h1=>?_)<;>refine gh ?_
 ·obtain rfl:i=0:=by omega
  refine gh ?_;refine GX.next rfl (GO.rP rfl rfl rfl (v:=iV c) (l:=[]) (hH.bR (x:=aF (some ⟨k,z,none⟩) [iV c]) (a:=some ⟨k,z,none⟩) (cs:=[iV c]) bL) (gh ?_));refine ifs (fun h2=>?_) (fun h2=>?_)<;>refine gh ?_
  ·exact⟨by rw[if_pos (.inl h2)],hH.to⟩
  refine ifs (fun h3=>?_) (fun h3=>?_)<;>refine gh ?_
  ·exact⟨by rw[if_pos (.inr h3)],hH.to⟩
  exact GQ.br 1 rfl ⟨.inr ⟨rfl,by omega⟩,hH⟩ ah
 ·have:¬(c<65∨67000<c):=by omega
  exact⟨by rw[if_neg this],hH.to⟩
theorem QH (a b c d:Int)(h1:-2305843009213693952≤a∧a≤2305843009213693952)(h2:-2305843009213693952≤b∧b≤2305843009213693952)(h3:-2305843009213693952≤c∧c≤2305843009213693952)(h4:-2305843009213693952≤d∧d≤2305843009213693952){o:Og}{w:World}(hs:Start o w []) :
  aj prog 257 [.agg #[iV a,iV b], .agg #[iV c,iV d]].toArray w (Po o (.agg #[iV (a - c),iV (b - d)]) []):=by
 have hH:=hs.sh;refine aj.enter func257 rfl ntmps257 rfl (gh ?_);refine GX.cw (h:=fun x w hH=>gh ?_);refine GX.cw (h:=fun y w hH=>gh ?_);refine GX.cm (h:=fun z w hH=>gh ?_);refine GX.bc (h:=fun w hH=>gh ?_);exact⟨rfl,hH.to⟩
theorem aaH (a b:Int)(h2:-2305843009213693952≤b*67000∧b*67000≤2305843009213693952){o:Og}{w:World}(hs:Start o w []) :
  aj prog 258 [.agg #[iV a,iV b]].toArray w (Po o (.bool (decide (0≤b∧65*b≤a∧a≤67000*b))) []):=by
 have hH:=hs.sh;refine aj.enter func258 rfl ntmps258 rfl (gh ?_);refine GX.cw (h:=fun x w hH=>gh ?_);refine ifs (fun h1=>?_) (fun h1=>?_)<;>refine gh ?_
 ·refine ifs (fun h2=>?_) (fun h2=>?_)<;>refine gh ?_
  ·exact⟨Gg ah,hH.to⟩
  ·exact⟨xc ah,hH.to⟩
 ·exact⟨xc ah,hH.to⟩
theorem Z4 {a b e ub ue:Nat}(hb:1≤b)(c:Nat)(hc:65≤c∧c≤67000)(hu:ue<2097152)(hub:ub<2^60)(hs:Start o w [iq a b e ub ue]):aj prog 229 [ak a,iV c].toArray w (Po o (iV 0) [iq a b e (ub+c) (ue+1)]):=by
 have hH:=hs.sh;refine aj.enter func229 rfl ntmps229 rfl (gh ?_);refine GX.nk (h:=fun p w hH=>gh ?_);refine GX.aL (hc:=fun _ hs=>Qr hb c _ hs) (h:=fun w hE hH=>gh ?_);rw[if_neg ah];refine ifs (fun h1=>?_) (fun h1=>?_)<;>refine gh ?_
 ·exact absurd rfl h1
 unfold iq at hH;refine gh ?_;refine ifs (fun h1=>?_) (fun h1=>?_)<;>refine gh ?_
 ·omega
 refine gh ?_;refine GX.aL (hc:=fun _ hs=>QH (ub:Int) ue (0 - c) (-1) ah ah ah ah hs) (h:=fun w hE hH=>gh ?_);refine GX.bc (h:=fun w hH=>gh ?_);refine⟨rfl,?_⟩;rw[show(ub:Int) - (0 - (c:Int))=((ub+c:Nat):Int) by omega,show(ue:Int) - -1=((ue+1:Nat):Int) by omega] at hH;exact hH.to
theorem aaG {a b e ub ue:Nat}(hb:1≤b)(c:Nat)(hc:65≤c∧c≤67000)(hu:ue<2097153)(hub:ub<2^60)(h1:1≤ue)(h2:c≤ub)(h3:65*(ue - 1)≤ub - c∧ub - c≤67000*(ue - 1))(hs:Start o w [iq a b e ub ue]):aj prog 176 [ak a,iV c].toArray w (Po o (iV 0) [iq a b e (ub - c) (ue - 1)]):=by
 have hH:=hs.sh;refine aj.enter func176 rfl ntmps176 rfl (gh ?_);refine GX.nk (h:=fun p w hH=>gh ?_);refine GX.aL (hc:=fun _ hs=>Qr hb c _ hs) (h:=fun w hE hH=>gh ?_);rw[if_neg ah];refine ifs (fun h4=>?_) (fun h4=>?_)<;>refine gh ?_
 ·exact absurd rfl h4
 unfold iq at hH;refine gh ?_;refine GX.aL (hc:=fun _ hs=>QH (ub:Int) ue c 1 ah ah ah ah hs) (h:=fun w hE hH=>gh ?_);refine GX.cm (h:=fun z w hH=>gh ?_);refine GX.bc (h:=fun w hH=>gh ?_);refine GX.aL (hc:=fun _ hs=>aaH (ub - c) (ue - 1) ah hs) (h:=fun w hE hH=>gh ?_);refine ifs (fun h4=>?_) (fun h4=>?_)<;>refine gh ?_
 ·exact absurd ah h4
 refine GX.bc (h:=fun w hH=>gh ?_);refine⟨rfl,?_⟩;rw[show(ub:Int) - (c:Int)=((ub - c:Nat):Int) by omega,show(ue:Int) - 1=((ue - 1:Nat):Int) by omega] at hH;exact hH.to
theorem QT {a b e ub ue:Nat}(hb:1≤b)(hs:Start o w [fz (iq a b e ub ue)]):aj prog 144 [ak a].toArray w (Po o (.tuple #[iV ub,iV ue]) []):=by
 have hH:=hs.sh;refine aj.enter func144 rfl ntmps144 rfl (gh ?_);refine GX.aL (hc:=fun _ hs=>Hf hb hs) (h:=fun w hE hH=>gh ?_);unfold iq at hH;refine GC.bq (pl:=(aZ [0,3,6,9,15,18,21,24,13,30,28,33])) (T:=fun _=>False) (hm:=mixed) (h:=fun w hE hH=>gh ?_);exact⟨rfl,hH.to⟩
theorem Qp {a b e ub ue:Nat}(hb:1≤b)(hs:Start o w [fz (iq a b e ub ue)]):aj prog 222 [ak a].toArray w (Po o (.tuple #[iV b,iV e]) []):=by
 have hH:=hs.sh;refine aj.enter func222 rfl ntmps222 rfl (gh ?_);refine GX.aL (hc:=fun _ hs=>Hf hb hs) (h:=fun w hE hH=>gh ?_);unfold iq at hH;refine GC.bq (pl:=(aZ [0,3,6,9,15,18,21,24,13,30,28,33])) (T:=fun _=>False) (hm:=mixed) (h:=fun w hE hH=>gh ?_);exact⟨rfl,hH.to⟩
theorem Z5 {a b e ub ue:Nat}(hb:1≤b)(hs:Start o w [fz (iq a b e ub ue)]):aj prog 121 [ak a].toArray w (aU o ak (fun _=>True) (fun c=>[iq c b e ub ue])):=by
 have hH:=hs.sh;refine aj.enter func121 rfl ntmps121 rfl (gh ?_);refine GX.aL (hc:=fun _ hs=>Hf hb hs) (h:=fun w hE hH=>gh ?_);unfold iq at hH;refine gh ?_;refine GX.cm (h:=fun c w hH=>gh ?_);refine GX.bc (h:=fun w hH=>gh ?_);exact⟨c,rfl,trivial,hH.to⟩
end
end Go.Proofs.YtmlpbmgfmnmmmaaGreat.V.M
