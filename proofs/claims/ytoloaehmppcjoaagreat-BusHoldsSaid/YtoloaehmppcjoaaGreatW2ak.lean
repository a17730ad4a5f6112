/-
  Parts of the proof. No condition.
-/
import Derived.Test.YtoloaehmppcjoaaGreatW2aj
set_option linter.unusedVariables false
set_option linter.unusedSimpArgs false
set_option maxRecDepth 8000
set_option maxHeartbeats 8000000
open Go.Proofs.Tryz
namespace Go.Proofs.YtoloaehmppcjoaaGreat.V.M
section
attribute [local irreducible] GO GX aB fz aF aS aq star
structure Ar where
 aD:Nat
 aW:List Int
 free:List Nat
def dL (l:List Int):List Value:=l.map iV
@[simp] theorem Ft (l:List Int):(dL l).length=l.length:=by simp[dL]
theorem NO {l:List Int}{j:Nat}(h:j<l.length):(dL l)[j]?=some (iV (l.getD j 0)):=by simp[dL,h]
theorem aeP {l:List Nat}{j:Nat}(h:j<l.length):(aG l)[j]?=some (iV (l.getD j 0:Nat)):=by simp[aG,h]
def mY (a:Nat)(A:Ar):It:=star fun x:(Option Nat×Nat)×(Option Nat×Nat)=>
 [aB a [iV A.aD, .slice (aA x.1.1) A.aW.length x.1.2, .slice (aA x.2.1) A.free.length x.2.2],aq 3 1 x.1.1 A.aW.length x.1.2 (dL A.aW),aq 3 1 x.2.1 A.free.length x.2.2 (aG A.free)]
instance {a:Nat}{A:Ar}:Zf (mY a A):=Zf.star fun _=>inferInstance
theorem Bi {o:Og}{w:World}{l t:List It}{a c1 c2 n1 n2:Nat}{A:Ar}{q1 q2:Option Nat}{g f:List Value}(h:SH o w l)
  (hp:Pk l [aB a [iV A.aD, .slice (aA q1) n1 c1, .slice (aA q2) n2 c2],aq 3 1 q1 n1 c1 g,aq 3 1 q2 n2 c2 f] t:=by repeat(first|exact Pk.nil|(apply Pk.cons;repeat(first|exact az.here|apply az.there))))
  (e1:n1=A.aW.length:=by simp) (e2:n2=A.free.length:=by simp) (e3:g=dL A.aW:=by simp[dL]) (e4:f=aG A.free:=by simp[aG]):SH o w (mY a A::t):=by
 subst e1 e2 e3 e4;exact SH.fold ((q1,c1),q2,c2) h hp
theorem GN {o:Og}{w:World}{a:Nat}{A:Ar}(hA:0<A.aD)(hs:Start o w [fz (mY a A)]):aj prog 220 [ak a].toArray w (Po o (.bool false) []):=by
 have hH:=hs.sh;obtain⟨x,hH⟩:=SH.dV hH;replace hH:=SH.ed hH;refine aj.enter func220 rfl ntmps220 rfl (gh ?_);exact⟨(xr ah).symm,hH.to⟩
def rj (A:Ar)(n:Int):Prop:=0≤n∧n<A.aW.length∧0≤A.aW.getD n.toNat 0
instance {A:Ar}{n:Int}:Decidable (rj A n):=by unfold rj;infer_instance
def vI (A:Ar)(n:Int):Int×Int×Int:=if rj A n then(n,A.aW.getD n.toNat 0,0) else(0,0,9)
theorem YQ {o:Og}{w:World}{a:Nat}{A:Ar}(hA:0<A.aD)(n:Int)(hs:Start o w [fz (mY a A)]):aj prog 341 [ak a,iV n].toArray w (Po o (.tuple #[.agg #[iV (vI A n).1,iV (vI A n).2.1],iV (vI A n).2.2]) []):=by
 have hH:=hs.sh;refine aj.enter func341 rfl ntmps341 rfl (gh ?_);refine GX.cA (h:=fun b w hH=>gh ?_);refine GX.aM (hc:=fun _ hs=>GN hA hs) (h:=fun w hE hH=>gh ?_);obtain⟨⟨⟨q1,c1⟩,q2,c2⟩,hH⟩:=SH.dV hH;replace hH:=SH.ed hH;dsimp only at hH;refine ifs (fun h1=>?_) (fun h1=>?_)<;>refine gh ?_
 ·refine GX.bt (h:=fun w hH=>gh ?_);exact⟨by rw[vI,if_neg (by unfold rj;omega)],hH.to⟩
 refine ifs (fun h2=>?_) (fun h2=>?_)<;>refine gh ?_
 ·refine GX.bt (h:=fun w hH=>gh ?_);exact⟨by rw[vI,if_neg (by unfold rj;omega)],hH.to⟩
 obtain⟨k,rfl⟩:∃k:Nat,n=k:=⟨n.toNat,by omega⟩
 obtain⟨b1,rfl⟩:=hH.l8 (cs:=dL A.aW);refine gh ?_;refine GX.next rfl (GO.cT (hv:=NO (j:=k) ah) (h:=gh ?_));refine ifs (fun h3=>?_) (fun h3=>?_)<;>refine gh ?_
 ·refine GX.bt (h:=fun w hH=>gh ?_);exact⟨by rw[vI,if_neg (by unfold rj;rw[qB];omega)],hH.to⟩
 refine GX.next rfl (GO.cT (hv:=NO (j:=k) ah) (h:=gh ?_));refine GX.bt (h:=fun w hH=>gh ?_);exact⟨by rw[vI,if_pos (by unfold rj;rw[qB];omega)];rfl,hH.to⟩
theorem Zc {o:Og}{w:World}{a:Nat}{A:Ar}(hA:0<A.aD)(n g:Int)(hs:Start o w [fz (mY a A)]):aj prog 287 [ak a, .agg #[iV n,iV g]].toArray w (Po o (.bool (decide (rj A n∧A.aW.getD n.toNat 0=g))) []):=by
 have hH:=hs.sh;refine aj.enter func287 rfl ntmps287 rfl (gh ?_);refine GX.cI (h:=fun b w hH=>gh ?_);refine GX.aM (hc:=fun _ hs=>YQ hA n hs) (h:=fun w hE hH=>gh ?_);refine GX.cA (h:=fun b2 w hH=>gh ?_);refine GX.bt (h:=fun w hH=>gh ?_)
 by_cases hl:rj A n
 ·have e:vI A n=(n,A.aW.getD n.toNat 0,0):=if_pos hl;refine ifs (fun h1=>?_) (fun h1=>?_)<;>refine gh ?_
  ·refine⟨congrArg Value.bool ?_,hH.to⟩;simp[e,hl]
  ·rw[e] at h1;exact absurd rfl h1
 ·have e:vI A n=(0,0,9):=if_neg hl;refine ifs (fun h1=>?_) (fun h1=>?_)<;>refine gh ?_
  ·rw[e] at h1;cases h1
  ·exact⟨xr fun h=>hl h.1,hH.to⟩
def xJ (A:Ar)(n:Nat):Ar:={ A with aW:=A.aW.set n (-(A.aW.getD n 0+1)),free:=A.free++[n]}
attribute [local simp] xJ dL aG in
theorem Zb {o:Og}{w:World}{a:Nat}{A:Ar}(hA:0<A.aD)(n:Nat)(g:Int)(hl:rj A n)(hg:g=A.aW.getD n 0)(hb:g<2^62)(hf:A.free.length<2^40)(hs:Start o w [mY a A]):aj prog 203 [ak a, .agg #[iV n,iV g]].toArray w (Po o (iV 0) [mY a (xJ A n)]):=by
 have hH:=hs.sh;obtain⟨rW,jf,wk⟩:=id hl;rw[qB,←hg] at wk;refine aj.enter func203 rfl ntmps203 rfl (gh ?_);refine GX.cI (h:=fun b w hH=>gh ?_);refine GX.aM (hc:=fun _ hs=>GN hA hs) (h:=fun w hE hH=>gh ?_);refine GX.aM (hc:=fun _ hs=>Zc hA n g hs) (h:=fun w hE hH=>gh ?_);refine ifs (fun h1=>?_) (fun h1=>?_)<;>refine gh ?_
 ·exact absurd ⟨hl,by rw[qB];exact hg.symm⟩ h1
 obtain⟨⟨⟨q1,c1⟩,q2,c2⟩,hH⟩:=SH.un hH;replace hH:=SH.ap hH;dsimp only at hH;obtain⟨b1,rfl⟩:=hH.pos (cs:=dL A.aW);refine GC.br (pl:=(bg [0,3,6,12,18,10,16,22,24,27,30,35])) (T:=fun _=>False) (hm:=mixed) (h:=fun w hE hH=>gh ?_);refine GX.Ga (j:=n) (hj:=by simp only[Ft];omega) (h:=fun w hH=>gh ?_);have j9:=hH.tI (b:=a) (q:=q2);have ic:=hH.tI (b:=b) (q:=q2);refine GC.br (pl:=(bg [0,3,6,9,15,13,19,23,26,27,30,35])) (T:=fun k=>some k=q2) (hm:=mixed) (h:=fun w hE hH=>gh ?_);refine GX.P4 (h1:=by simp[Value.oneCell']) (h:=fun q c w _ hH=>gh ?_);refine GX.fO (h:=fun w hH=>gh ?_);subst hg;exact⟨rfl,(Bi (A:=xJ A n) hH).to⟩
def oV (A:Ar):Ar×Int×Int×Int:=
 match A.free.getLast? with
 |some n=>({ A with aW:=A.aW.set n (-(A.aW.getD n 0)),free:=A.free.dropLast},n,-(A.aW.getD n 0),0)
 |none=>if A.aD≤A.aW.length then(A,0,0,7) else({ A with aW:=A.aW++[1]},A.aW.length,1,0)
structure nM (K:Nat)(A:Ar):Prop where
 aD:0<A.aD∧A.aD≤1048576
 len:A.aW.length≤A.aD
 gen:∀g∈A.aW,g≠0∧-(K:Int) - 1≤g∧g≤K+1
 free:∀n:Nat,n∈A.free↔n<A.aW.length∧A.aW.getD n 0<0
 nodup:A.free.Nodup
 Bp:A.free.length≤A.aW.length
theorem Hy {α:Type}{l:List α}{i:Nat}(d:α)(h:i<l.length):l.getD i d∈l:=by
 rw[show l.getD i d=l[i] by simp[List.getD,h]];exact pI h
attribute [local simp] dL aG in
theorem Zi {o:Og}{w:World}{a K:Nat}{A:Ar}(hA:nM K A)(hK:K<2^60)(hs:Start o w [mY a A]):aj prog 253 [ak a].toArray w (Po o (.tuple #[.agg #[iV (oV A).2.1,iV (oV A).2.2.1],iV (oV A).2.2.2]) [mY a (oV A).1]):=by
 have hH:=hs.sh;have hl:=hA.len;have hm:=hA.aD;have SC:=hA.Bp;refine aj.enter func253 rfl ntmps253 rfl (gh ?_);refine GX.cA (h:=fun b w hH=>gh ?_);refine GX.aM (hc:=fun _ hs=>GN hm.1 hs) (h:=fun w hE hH=>gh ?_);obtain⟨⟨⟨q1,c1⟩,q2,c2⟩,hH⟩:=SH.un hH;replace hH:=SH.ap hH;dsimp only at hH;refine gh ?_;refine ifs (fun h1=>?_) (fun h1=>?_)<;>refine gh ?_
 ·have ly:0<A.free.length:=by omega
  obtain⟨b2,rfl⟩:=hH.pos (cs:=aG A.free);obtain⟨n,hn⟩:∃n,A.free.getLast?=some n:=⟨_,List.getLast?_eq_some_getLast (by intro h;rw[h] at ly;cases ly)⟩
  have o8:A.free.getD (A.free.length - 1) 0=n:=by rw[List.getLast?_eq_getElem?] at hn;simp[List.getD,hn]
  obtain⟨j9,ic⟩:=(hA.free n).1 (List.mem_of_getLast? hn);have Im:=hA.gen (A.aW.getD n 0) (Hy 0 j9);obtain⟨b1,rfl⟩:=hH.pos (cs:=dL A.aW);refine gh ?_;refine GX.next rfl (GO.cT (hv:=aeP (j:=A.free.length - 1) ah) (h:=gh ?_));rw[o8];refine GX.K9 (c:=A.free.length - 1) (h:=fun hH=>gh ?_);refine GX.dC (h:=fun w hH=>gh ?_);refine GC.br (pl:=(bg [0,3,6,12,15,18,21,27,10,25,30,34,36,39,44])) (T:=fun _=>False) (hm:=mixed) (h:=fun w hE hH=>gh ?_);refine GX.read rfl (GO.lC (hv:=NO (j:=n) ah) (h:=gh ?_));refine GX.Ga (j:=n) (hj:=by simp only[Ft];omega) (h:=fun w hH=>gh ?_);refine GX.next rfl (GO.cT (hv:=show((dL A.aW).set n (.int .i64 (0 - A.aW.getD n 0)))[n]?=some (iV (-(A.aW.getD n 0))) by simp[dL,j9]) (h:=gh ?_));refine GX.bt (h:=fun w hH=>gh ?_);have e:oV A=({ A with aW:=A.aW.set n (-(A.aW.getD n 0)),free:=A.free.dropLast},(n:Int),-(A.aW.getD n 0),(0:Int)):=by simp only[oV,hn]
  rw[e];exact⟨rfl,(Bi (A:={ A with aW:=A.aW.set n (-(A.aW.getD n 0)),free:=A.free.dropLast}) hH (e4:=by simp[aG,List.dropLast_eq_take])).to⟩
 have hn:A.free.getLast?=none:=by
  have:A.free=[]:=gu ah;rw[this];rfl
 refine GC.br (pl:=(bg [0,3,6,15,18,21,10,12,25,27,30])) (T:=fun _=>False) (hm:=mixed) (h:=fun w hE hH=>gh ?_);refine ifs (fun h2=>?_) (fun h2=>?_)<;>refine gh ?_
 ·refine GX.bt (h:=fun w hH=>gh ?_);have e:oV A=(A,0,0,7):=by simp only[oV,hn];rw[if_pos ah]
  rw[e];exact⟨rfl,(Bi (A:=A) hH).to⟩
 refine GX.nR (h1:=by simp[Value.oneCell']) (h:=fun q c w _ hH=>gh ?_);refine GX.dC (h:=fun w hH=>gh ?_);refine GX.bt (h:=fun w hH=>gh ?_);have e:oV A=({ A with aW:=A.aW++[1]},(A.aW.length:Int),(1:Int),(0:Int)):=by simp only[oV,hn];rw[if_neg ah]
 rw[e];refine⟨?_,(Bi (A:={ A with aW:=A.aW++[1]}) hH).to⟩;simp
end
section
attribute [local irreducible] GO GX aB fz aF aS aq star
variable {o:Og}{w:World}
def my (n:Nat)(q:Option Nat×Nat):Value := .slice (aA q.1) n q.2
def mw (el:TypeId)(sz n:Nat)(cs:List Value)(q:Option Nat×Nat):List It:=[aq el sz q.1 n q.2 cs]
instance {el:TypeId}{sz n:Nat}{cs:List Value}{q:Option Nat×Nat}:gb (mw el sz n cs q):=by unfold mw;infer_instance
theorem vJ {a:Option Addr}{n c:Nat}{cs:List Value}(hn:n<2^40)(hl:cs.length=n*1)(h0:a=none→n=0)(h1:∀u∈cs,u.oneCell'=true)(hs:Start o w [aF a cs]) :
  aj prog 155 [.slice a n c].toArray w (aX o (my n) (fun _=>True) (mw 3 1 n cs)):=by
 have hH:=hs.sh;refine aj.enter func155 rfl ntmps155 rfl (gh ?_);cases a with
 |none=>
  obtain rfl:=h0 rfl;obtain rfl:cs=[]:=gu ah;refine gh ?_;exact⟨(none,0),rfl,trivial,(SH.cF hH (Mod.refl w) (fun _ h=>by cases h) (aH.nil _ _ _)).to⟩
 |some x=>
  refine gh ?_;refine GX.sZ (h:=fun q w hH=>gh ?_);refine GX.pQ (hN:=SH.bL hH (x:=aF (some x) cs) bP) (hnl:=hl) (h1:=h1) (hb:=by omega) (hm:=by omega) (h:=fun q c w hH=>gh ?_);rw[dz] at hH ⊢;exact⟨(q,c),rfl,trivial,hH.to⟩
theorem aao {a:Option Addr}{n c:Nat}{cs:List Value}(hn:n<2^40)(hl:cs.length=n*1)(h0:a=none→n=0)(h1:∀u∈cs,u.oneCell'=true)(hs:Start o w [aF a cs]) :
  aj prog 230 [.slice a n c].toArray w (aX o (my n) (fun _=>True) (mw 9 1 n cs)):=by
 have hH:=hs.sh;refine aj.enter func230 rfl ntmps230 rfl (gh ?_);cases a with
 |none=>
  obtain rfl:=h0 rfl;obtain rfl:cs=[]:=gu ah;refine gh ?_;exact⟨(none,0),rfl,trivial,(SH.cF hH (Mod.refl w) (fun _ h=>by cases h) (aH.nil _ _ _)).to⟩
 |some x=>
  refine gh ?_;refine GX.sZ (h:=fun q w hH=>gh ?_);refine GX.pQ (hN:=SH.bL hH (x:=aF (some x) cs) bP) (hnl:=hl) (h1:=h1) (hb:=by omega) (hm:=by omega) (h:=fun q c w hH=>gh ?_);rw[dz] at hH ⊢;exact⟨(q,c),rfl,trivial,hH.to⟩
theorem aai {a:Option Addr}{n c:Nat}{cs:List Value}(hn:n<2^40)(hl:cs.length=n*2)(h0:a=none→n=0)(h1:∀u∈cs,u.oneCell'=true)(hs:Start o w [aF a cs]) :
  aj prog 222 [.slice a n c].toArray w (aX o (my n) (fun _=>True) (mw 352 2 n cs)):=by
 have hH:=hs.sh;refine aj.enter func222 rfl ntmps222 rfl (gh ?_);cases a with
 |none=>
  obtain rfl:=h0 rfl;obtain rfl:cs=[]:=gu ah;refine gh ?_;exact⟨(none,0),rfl,trivial,(SH.cF hH (Mod.refl w) (fun _ h=>by cases h) (aH.nil _ _ _)).to⟩
 |some x=>
  refine gh ?_;refine GX.sZ (h:=fun q w hH=>gh ?_);refine GX.pQ (hN:=SH.bL hH (x:=aF (some x) cs) bP) (hnl:=hl) (h1:=h1) (hb:=by omega) (hm:=by omega) (h:=fun q c w hH=>gh ?_);rw[dz] at hH ⊢;exact⟨(q,c),rfl,trivial,hH.to⟩
theorem aan {a:Option Addr}{n c:Nat}{cs:List Value}(hn:n<2^40)(hl:cs.length=n*2)(h0:a=none→n=0)(h1:∀u∈cs,u.oneCell'=true)(hs:Start o w [aF a cs]) :
  aj prog 146 [.slice a n c].toArray w (aX o (my n) (fun _=>True) (mw 252 2 n cs)):=by
 have hH:=hs.sh;refine aj.enter func146 rfl ntmps146 rfl (gh ?_);cases a with
 |none=>
  obtain rfl:=h0 rfl;obtain rfl:cs=[]:=gu ah;refine gh ?_;exact⟨(none,0),rfl,trivial,(SH.cF hH (Mod.refl w) (fun _ h=>by cases h) (aH.nil _ _ _)).to⟩
 |some x=>
  refine gh ?_;refine GX.sZ (h:=fun q w hH=>gh ?_);refine GX.pQ (hN:=SH.bL hH (x:=aF (some x) cs) bP) (hnl:=hl) (h1:=h1) (hb:=by omega) (hm:=by omega) (h:=fun q c w hH=>gh ?_);rw[dz] at hH ⊢;exact⟨(q,c),rfl,trivial,hH.to⟩
theorem aap {a:Option Addr}{n c:Nat}{cs:List Value}(hn:n<2^40)(hl:cs.length=n*2)(h0:a=none→n=0)(h1:∀u∈cs,u.oneCell'=true)(hs:Start o w [aF a cs]) :
  aj prog 226 [.slice a n c].toArray w (aX o (my n) (fun _=>True) (mw 234 2 n cs)):=by
 have hH:=hs.sh;refine aj.enter func226 rfl ntmps226 rfl (gh ?_);cases a with
 |none=>
  obtain rfl:=h0 rfl;obtain rfl:cs=[]:=gu ah;refine gh ?_;exact⟨(none,0),rfl,trivial,(SH.cF hH (Mod.refl w) (fun _ h=>by cases h) (aH.nil _ _ _)).to⟩
 |some x=>
  refine gh ?_;refine GX.sZ (h:=fun q w hH=>gh ?_);refine GX.pQ (hN:=SH.bL hH (x:=aF (some x) cs) bP) (hnl:=hl) (h1:=h1) (hb:=by omega) (hm:=by omega) (h:=fun q c w hH=>gh ?_);rw[dz] at hH ⊢;exact⟨(q,c),rfl,trivial,hH.to⟩
theorem aal {a:Option Addr}{n c:Nat}{cs:List Value}(hn:n<2^40)(hl:cs.length=n*3)(h0:a=none→n=0)(h1:∀u∈cs,u.oneCell'=true)(hs:Start o w [aF a cs]) :
  aj prog 232 [.slice a n c].toArray w (aX o (my n) (fun _=>True) (mw 360 3 n cs)):=by
 have hH:=hs.sh;refine aj.enter func232 rfl ntmps232 rfl (gh ?_);cases a with
 |none=>
  obtain rfl:=h0 rfl;obtain rfl:cs=[]:=gu ah;refine gh ?_;exact⟨(none,0),rfl,trivial,(SH.cF hH (Mod.refl w) (fun _ h=>by cases h) (aH.nil _ _ _)).to⟩
 |some x=>
  refine gh ?_;refine GX.sZ (h:=fun q w hH=>gh ?_);refine GX.pQ (hN:=SH.bL hH (x:=aF (some x) cs) bP) (hnl:=hl) (h1:=h1) (hb:=by omega) (hm:=by omega) (h:=fun q c w hH=>gh ?_);rw[dz] at hH ⊢;exact⟨(q,c),rfl,trivial,hH.to⟩
theorem QJ {a:Option Addr}{n c:Nat}{cs:List Value}(hn:n<2^40)(hl:cs.length=n*1)(h0:a=none→n=0)(h1:∀u∈cs,u.oneCell'=true)(hs:Start o w [aF a cs]) :
  aj prog 150 [.slice a n c].toArray w (aX o (my n) (fun _=>True) (mw 38 1 n cs)):=by
 have hH:=hs.sh;refine aj.enter func150 rfl ntmps150 rfl (gh ?_);cases a with
 |none=>
  obtain rfl:=h0 rfl;obtain rfl:cs=[]:=gu ah;refine gh ?_;exact⟨(none,0),rfl,trivial,(SH.cF hH (Mod.refl w) (fun _ h=>by cases h) (aH.nil _ _ _)).to⟩
 |some x=>
  refine gh ?_;refine GX.sZ (h:=fun q w hH=>gh ?_);refine GX.pQ (hN:=SH.bL hH (x:=aF (some x) cs) bP) (hnl:=hl) (h1:=h1) (hb:=by omega) (hm:=by omega) (h:=fun q c w hH=>gh ?_);rw[dz] at hH ⊢;exact⟨(q,c),rfl,trivial,hH.to⟩
theorem QG {a:Option Addr}{n c:Nat}{cs:List Value}(hn:n<2^40)(hl:cs.length=n*2)(h0:a=none→n=0)(h1:∀u∈cs,u.oneCell'=true)(hs:Start o w [aF a cs]) :
  aj prog 151 [.slice a n c].toArray w (aX o (my n) (fun _=>True) (mw 264 2 n cs)):=by
 have hH:=hs.sh;refine aj.enter func151 rfl ntmps151 rfl (gh ?_);cases a with
 |none=>
  obtain rfl:=h0 rfl;obtain rfl:cs=[]:=gu ah;refine gh ?_;exact⟨(none,0),rfl,trivial,(SH.cF hH (Mod.refl w) (fun _ h=>by cases h) (aH.nil _ _ _)).to⟩
 |some x=>
  refine gh ?_;refine GX.sZ (h:=fun q w hH=>gh ?_);refine GX.pQ (hN:=SH.bL hH (x:=aF (some x) cs) bP) (hnl:=hl) (h1:=h1) (hb:=by omega) (hm:=by omega) (h:=fun q c w hH=>gh ?_);rw[dz] at hH ⊢;exact⟨(q,c),rfl,trivial,hH.to⟩
theorem aeS (l:List Int):∀u∈dL l,u.oneCell'=true:=by
 intro u hu;obtain⟨x,_,rfl⟩:=bG.1 hu;rfl
theorem Zd (n:Nat)(h1:1≤n)(h2:n≤1048576)(hs:Start o w []):aj prog 104 [iV n].toArray w (aX o (fun a => .tuple #[ak a,iV 0]) (fun _=>True) (fun a=>[mY a ⟨n,[],[]⟩])):=by
 have hH:=hs.sh;refine aj.enter func104 rfl ntmps104 rfl (gh ?_);refine ifs (fun h3=>?_) (fun h3=>?_)<;>refine gh ?_
 ·omega
 refine ifs (fun h3=>?_) (fun h3=>?_)<;>refine gh ?_
 ·omega
 refine GX.cI (h:=fun a w hH=>gh ?_);have aQ:=SH.cF (el:=3) (sz:=1) (q:=none) (n:=0) (c:=0) (cs:=[]) hH (Mod.refl w) (fun _ h=>by cases h) (aH.nil _ _ _);have cH:=SH.cF (el:=3) (sz:=1) (q:=none) (n:=0) (c:=0) (cs:=[]) aQ (Mod.refl w) (fun _ h=>by cases h) (aH.nil _ _ _);exact⟨a,rfl,trivial,(Bi (q1:=none) (q2:=none) (A:=⟨n,[],[]⟩) cH).to⟩
theorem YU {a:Nat}{A:Ar}(hA:0<A.aD)(h2:A.aW.length<2^40)(h3:A.free.length<2^40)(hs:Start o w [fz (mY a A)]):aj prog 141 [ak a].toArray w (aX o ak (fun _=>True) (fun b=>[mY b A])):=by
 have hH:=hs.sh;refine aj.enter func141 rfl ntmps141 rfl (gh ?_);refine GX.aM (hc:=fun _ hs=>GN hA hs) (h:=fun w hE hH=>gh ?_);obtain⟨⟨⟨q1,c1⟩,q2,c2⟩,hH⟩:=SH.dV hH;replace hH:=SH.ed hH;dsimp only at hH;have e1:=hH.tK (cs:=dL A.aW);have e2:=hH.tK (cs:=aG A.free);refine GC.br (pl:=(bg [0,3,6,12,15,18,27,30,33,10,22,37,26,41,42,47,48])) (T:=fun _=>False) (hm:=mixed) (h:=fun w hE hH=>gh ?_);refine GX.eG (hc:=fun _ hs=>vJ (cs:=dL A.aW) h2 (by simp) e1 (aeS _) hs) (h:=?_);rintro⟨q3,c3⟩ w _ hS hH;replace hH:=SH.ap hH;refine gh ?_;refine GX.eG (hc:=fun _ hs=>vJ (cs:=aG A.free) h3 (by simp) e2 (u4 _) hs) (h:=?_);rintro⟨q4,c4⟩ w _ hS hH;replace hH:=SH.ap hH;refine gh ?_;refine GX.oW (h:=fun b w hS hH=>gh ?_);exact⟨b,rfl,trivial,(Bi (A:=A) hH).to⟩
def iH (a b e ub ue:Nat):It:=aB a [iV b,iV e,iV ub,iV ue]
instance {a b e ub ue:Nat}:Zf (iH a b e ub ue):=by unfold iH;infer_instance
theorem aat (b e:Nat)(hb:1≤b∧b≤1099511627776)(he:1≤e∧e≤1048576)(hs:Start o w []):aj prog 103 [iV b,iV e].toArray w (aX o (fun a => .tuple #[ak a,iV 0]) (fun _=>True) (fun a=>[iH a b e 0 0])):=by
 have hH:=hs.sh;refine aj.enter func103 rfl ntmps103 rfl (gh ?_);refine ifs (fun h1=>?_) (fun h1=>?_)<;>refine gh ?_
 ·omega
 refine ifs (fun h1=>?_) (fun h1=>?_)<;>refine gh ?_
 ·omega
 refine ifs (fun h1=>?_) (fun h1=>?_)<;>refine gh ?_
 ·omega
 refine ifs (fun h1=>?_) (fun h1=>?_)<;>refine gh ?_
 ·omega
 refine GX.cI (h:=fun a w hH=>gh ?_);exact⟨a,rfl,trivial,hH.to⟩
theorem Hg {a b e ub ue:Nat}(hb:1≤b)(hs:Start o w [fz (iH a b e ub ue)]):aj prog 228 [ak a].toArray w (Po o (.bool false) []):=by
 have hH:=hs.sh;unfold iH at hH;refine aj.enter func228 rfl ntmps228 rfl (gh ?_);refine⟨?_,hH.to⟩;rw[bQ ah];rfl
theorem Qu {a b e ub ue:Nat}(hb:1≤b)(c:Int)(p:Option Addr)(hs:Start o w [fz (iH a b e ub ue),aF p [iV c]]):aj prog 284 [ak a, .slice p 1 1].toArray w (Po o (iV (if c<65∨67000<c then 3 else 0)) []):=by
 have hH:=hs.sh;refine aj.enter func284 rfl ntmps284 rfl (gh ?_);refine GX.aM (hc:=fun _ hs=>Hg hb hs) (h:=fun w hE hH=>gh ?_);have hA:=hH.bL (x:=aF p [iV c]) (a:=p) (cs:=[iV c]) bP;obtain⟨k,z,rfl,rN⟩:=hA.XO;refine GC.bR [9,10] (fun i:Nat=>[(11,iV i)]) (fun i w'=>(i=0∨i=1∧¬(c<65∨67000<c))∧SH o w' [fz (iH a b e ub ue),aF (some ⟨k,z,none⟩) [iV c]]) (fun i=>2 - i) 0 rfl rfl ⟨.inl rfl,hH⟩ ?_;rintro i w ⟨hi,hH⟩;refine gh ?_;refine ifs (fun h1=>?_) (fun h1=>?_)<;>refine gh ?_
 ·obtain rfl:i=0:=by omega
  refine gh ?_;refine GX.next rfl (GO.l6 rfl rfl rfl (v:=iV c) (l:=[]) (hH.bL (x:=aF (some ⟨k,z,none⟩) [iV c]) (a:=some ⟨k,z,none⟩) (cs:=[iV c]) bP) (gh ?_));refine ifs (fun h2=>?_) (fun h2=>?_)<;>refine gh ?_
  ·exact⟨by rw[if_pos (.inl h2)],hH.to⟩
  refine ifs (fun h3=>?_) (fun h3=>?_)<;>refine gh ?_
  ·exact⟨by rw[if_pos (.inr h3)],hH.to⟩
  exact GQ.bj 1 rfl ⟨.inr ⟨rfl,by omega⟩,hH⟩ ah
 ·have:¬(c<65∨67000<c):=by omega
  exact⟨by rw[if_neg this],hH.to⟩
theorem QK (a b c d:Int)(h1:-2305843009213693952≤a∧a≤2305843009213693952)(h2:-2305843009213693952≤b∧b≤2305843009213693952)(h3:-2305843009213693952≤c∧c≤2305843009213693952)(h4:-2305843009213693952≤d∧d≤2305843009213693952){o:Og}{w:World}(hs:Start o w []) :
  aj prog 285 [.agg #[iV a,iV b], .agg #[iV c,iV d]].toArray w (Po o (.agg #[iV (a - c),iV (b - d)]) []):=by
 have hH:=hs.sh;refine aj.enter func285 rfl ntmps285 rfl (gh ?_);refine GX.cI (h:=fun x w hH=>gh ?_);refine GX.cI (h:=fun y w hH=>gh ?_);refine GX.cA (h:=fun z w hH=>gh ?_);refine GX.bt (h:=fun w hH=>gh ?_);exact⟨rfl,hH.to⟩
theorem aaH (a b:Int)(h2:-2305843009213693952≤b*67000∧b*67000≤2305843009213693952){o:Og}{w:World}(hs:Start o w []) :
  aj prog 286 [.agg #[iV a,iV b]].toArray w (Po o (.bool (decide (0≤b∧65*b≤a∧a≤67000*b))) []):=by
 have hH:=hs.sh;refine aj.enter func286 rfl ntmps286 rfl (gh ?_);refine GX.cI (h:=fun x w hH=>gh ?_);refine ifs (fun h1=>?_) (fun h1=>?_)<;>refine gh ?_
 ·refine ifs (fun h2=>?_) (fun h2=>?_)<;>refine gh ?_
  ·exact⟨Gi ah,hH.to⟩
  ·exact⟨xr ah,hH.to⟩
 ·exact⟨xr ah,hH.to⟩
theorem Z4 {a b e ub ue:Nat}(hb:1≤b)(c:Nat)(hc:65≤c∧c≤67000)(hu:ue<2097152)(hub:ub<2^60)(hs:Start o w [iH a b e ub ue]):aj prog 257 [ak a,iV c].toArray w (Po o (iV 0) [iH a b e (ub+c) (ue+1)]):=by
 have hH:=hs.sh;refine aj.enter func257 rfl ntmps257 rfl (gh ?_);refine GX.oF (h:=fun p w hH=>gh ?_);refine GX.aM (hc:=fun _ hs=>Qu hb c _ hs) (h:=fun w hE hH=>gh ?_);rw[if_neg ah];refine ifs (fun h1=>?_) (fun h1=>?_)<;>refine gh ?_
 ·exact absurd rfl h1
 unfold iH at hH;refine gh ?_;refine ifs (fun h1=>?_) (fun h1=>?_)<;>refine gh ?_
 ·omega
 refine gh ?_;refine GX.aM (hc:=fun _ hs=>QK (ub:Int) ue (0 - c) (-1) ah ah ah ah hs) (h:=fun w hE hH=>gh ?_);refine GX.bt (h:=fun w hH=>gh ?_);refine⟨rfl,?_⟩;rw[show(ub:Int) - (0 - (c:Int))=((ub+c:Nat):Int) by omega,show(ue:Int) - -1=((ue+1:Nat):Int) by omega] at hH;exact hH.to
theorem aaG {a b e ub ue:Nat}(hb:1≤b)(c:Nat)(hc:65≤c∧c≤67000)(hu:ue<2097153)(hub:ub<2^60)(h1:1≤ue)(h2:c≤ub)(h3:65*(ue - 1)≤ub - c∧ub - c≤67000*(ue - 1))(hs:Start o w [iH a b e ub ue]):aj prog 201 [ak a,iV c].toArray w (Po o (iV 0) [iH a b e (ub - c) (ue - 1)]):=by
 have hH:=hs.sh;refine aj.enter func201 rfl ntmps201 rfl (gh ?_);refine GX.oF (h:=fun p w hH=>gh ?_);refine GX.aM (hc:=fun _ hs=>Qu hb c _ hs) (h:=fun w hE hH=>gh ?_);rw[if_neg ah];refine ifs (fun h4=>?_) (fun h4=>?_)<;>refine gh ?_
 ·exact absurd rfl h4
 unfold iH at hH;refine gh ?_;refine GX.aM (hc:=fun _ hs=>QK (ub:Int) ue c 1 ah ah ah ah hs) (h:=fun w hE hH=>gh ?_);refine GX.cA (h:=fun z w hH=>gh ?_);refine GX.bt (h:=fun w hH=>gh ?_);refine GX.aM (hc:=fun _ hs=>aaH (ub - c) (ue - 1) ah hs) (h:=fun w hE hH=>gh ?_);refine ifs (fun h4=>?_) (fun h4=>?_)<;>refine gh ?_
 ·exact absurd ah h4
 refine GX.bt (h:=fun w hH=>gh ?_);refine⟨rfl,?_⟩;rw[show(ub:Int) - (c:Int)=((ub - c:Nat):Int) by omega,show(ue:Int) - 1=((ue - 1:Nat):Int) by omega] at hH;exact hH.to
theorem aaK {a b e ub ue:Nat}(hb:1≤b)(hs:Start o w [fz (iH a b e ub ue)]):aj prog 245 [ak a].toArray w (Po o (.tuple #[iV ub,iV ue]) []):=by
 have hH:=hs.sh;refine aj.enter func245 rfl ntmps245 rfl (gh ?_);refine GX.aM (hc:=fun _ hs=>Hg hb hs) (h:=fun w hE hH=>gh ?_);unfold iH at hH;refine GC.br (pl:=(bg [0,3,6,9,15,18,21,24,13,30,28,33])) (T:=fun _=>False) (hm:=mixed) (h:=fun w hE hH=>gh ?_);exact⟨rfl,hH.to⟩
theorem Qs {a b e ub ue:Nat}(hb:1≤b)(hs:Start o w [fz (iH a b e ub ue)]):aj prog 250 [ak a].toArray w (Po o (.tuple #[iV b,iV e]) []):=by
 have hH:=hs.sh;refine aj.enter func250 rfl ntmps250 rfl (gh ?_);refine GX.aM (hc:=fun _ hs=>Hg hb hs) (h:=fun w hE hH=>gh ?_);unfold iH at hH;refine GC.br (pl:=(bg [0,3,6,9,15,18,21,24,13,30,28,33])) (T:=fun _=>False) (hm:=mixed) (h:=fun w hE hH=>gh ?_);exact⟨rfl,hH.to⟩
theorem Z5 {a b e ub ue:Nat}(hb:1≤b)(hs:Start o w [fz (iH a b e ub ue)]):aj prog 145 [ak a].toArray w (aX o ak (fun _=>True) (fun c=>[iH c b e ub ue])):=by
 have hH:=hs.sh;refine aj.enter func145 rfl ntmps145 rfl (gh ?_);refine GX.aM (hc:=fun _ hs=>Hg hb hs) (h:=fun w hE hH=>gh ?_);unfold iH at hH;refine gh ?_;refine GX.cA (h:=fun c w hH=>gh ?_);refine GX.bt (h:=fun w hH=>gh ?_);exact⟨c,rfl,trivial,hH.to⟩
end
end Go.Proofs.YtoloaehmppcjoaaGreat.V.M
