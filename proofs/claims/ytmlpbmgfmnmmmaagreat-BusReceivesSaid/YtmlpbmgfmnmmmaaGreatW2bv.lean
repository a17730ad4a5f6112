/-
  Parts of the proof. No condition.
-/
import Derived.Test.YtmlpbmgfmnmmmaaGreatW2bu
set_option linter.unusedVariables false
set_option linter.unusedSimpArgs false
set_option maxRecDepth 8000
set_option maxHeartbeats 8000000
open Go.Proofs.Tryz
namespace Go.Proofs.YtmlpbmgfmnmmmaaGreat.V.M
section
attribute [local irreducible] GO GX aA eo fz aF aQ ao star
theorem Dz {o:Og}{w:World}{b:Nat}{E:aq}(hs:Start o w [bU b E]) :
  aj prog 46 [ak b].toArray w (Po o (uV E.now) [bU b E]):=by
 have hH:=hs.sh;obtain⟨X,hH⟩:=SH.un hH;replace hH:=SH.ap hH;dsimp only[eK] at hH;refine aj.enter func46 rfl ntmps46 rfl (gh ?_);refine GX.aL (hc:=fun _ hs=>Bp hs) (h:=fun w hE hH=>gh ?_);refine gh ?_;exact⟨rfl,(cV (X:=X) (E:=E) hH).to⟩
def aq.FC (E:aq)(k:Bs):l8×Int:=if bI k=true then(E.item k E.now,0) else(yu,2)
theorem Q6 {o:Og}{w:World}{b:Nat}{E:aq}(hG:b8 E)(k:Bs)(hs:Start o w [bU b E]) :
  aj prog 16 [ak b,str k].toArray w (aU o (fun q:Option Nat×Nat => .tuple #[.agg (yv (E.FC k).1 q).toArray,iV (E.FC k).2]) (fun _=>True) (fun q=>bU b E::Fc (E.FC k).1 q)):=by
 have hH:=hs.sh;obtain⟨X,hH⟩:=SH.un hH;replace hH:=SH.ap hH;dsimp only[eK] at hH;refine aj.enter func16 rfl ntmps16 rfl (gh ?_);refine GX.cm (h:=fun z w hH=>gh ?_);refine GX.aL (hc:=fun _ hs=>Bp hs) (h:=fun w hE hH=>gh ?_);refine gh ?_;refine GX.da (rO k _) rfl rfl rfl rfl rfl rfl (gh ?_);unfold aq.FC;cases hk:bI k with
 |false=>
  refine gh ?_;refine GX.bc (h:=fun w hH=>gh ?_);rw[if_neg (by simp)];have h1:=SH.cE (el:=5) (sz:=1) (q:=none) (n:=0) (c:=0) (cs:=[]) hH (Mod.refl w) (fun _ h=>by cases h) (aG.nil _ _ _);exact⟨(none,0),rfl,trivial,(cV (X:=X) (E:=E) h1).to⟩
 |true=>
  rw[if_pos rfl];refine gh ?_;replace hH:=cV (X:=X) (E:=E) hH;refine GX.bS (hc:=fun _ hs=>Ci hG k E.now hs) (h:=?_);rintro q w _ hH;replace hH:=SH.ap hH;refine gh ?_;refine GX.bc (h:=fun w hH=>gh ?_);exact⟨q,rfl,trivial,hH.to⟩
theorem Bq (n m:Int)(w:World):aj prog 75 [iV n,iV m].toArray w fun v w'=>v = .bool (decide (1≤n∧n≤m))∧w'=w:=by
 refine aj.enter func75 rfl ntmps75 rfl (gh ?_)
 by_cases h:1≤n
 ·rw[bQ h];refine gh ?_;exact⟨by simp[h],rfl⟩
 ·rw[bt h];refine gh ?_;exact⟨by simp[h],rfl⟩
structure oy where
 b:Int
 e:Int
 t:Int
 n:Int
 d:Int
 g:Nat
 s:Nat
abbrev vC (c:oy):List Value:=[iV c.b,iV c.e,iV c.t,iV c.n,iV c.d,uV c.g,uV c.s]
structure xv (c:oy):Prop where
 b:1≤c.b∧c.b≤1099511627776
 e:1≤c.e∧c.e≤1048576
 t:1≤c.t∧c.t≤65536
 n:1≤c.n∧c.n≤65536
 d:1≤c.d∧c.d≤65536
 g:c.g≤1099511627776
open Classical in
theorem Q1 {o:Og}{w:World}(c:oy)(hs:Start o w []):aj prog 36 [.agg (vC c).toArray].toArray w (Po o (iV (if xv c then 0 else 2)) []):=by
 have hH:=hs.sh;refine aj.enter func36 rfl ntmps36 rfl (gh ?_);refine GX.cw (h:=fun z w hH=>gh ?_);refine GX.da (Bq c.b 1099511627776 _) rfl rfl rfl rfl rfl rfl (gh ?_)
 by_cases h1:1≤c.b∧c.b≤1099511627776
 ·rw[bQ h1];refine gh ?_;refine GX.da (Bq c.e 1048576 _) rfl rfl rfl rfl rfl rfl (gh ?_)
  by_cases h2:1≤c.e∧c.e≤1048576
  ·rw[bQ h2];refine gh ?_;refine GX.da (Bq c.t 65536 _) rfl rfl rfl rfl rfl rfl (gh ?_)
   by_cases h3:1≤c.t∧c.t≤65536
   ·rw[bQ h3];refine gh ?_;refine GX.da (Bq c.n 65536 _) rfl rfl rfl rfl rfl rfl (gh ?_)
    by_cases h4:1≤c.n∧c.n≤65536
    ·rw[bQ h4];refine gh ?_;refine GX.da (Bq c.d 65536 _) rfl rfl rfl rfl rfl rfl (gh ?_)
     by_cases h5:1≤c.d∧c.d≤65536
     ·rw[bQ h5];refine gh ?_;refine ifs (fun h6=>?_) (fun h6=>?_)<;>refine gh ?_
      ·rw[if_neg fun h=>by have:=h.g;omega];exact⟨rfl,hH.to⟩
      ·rw[if_pos ⟨h1,h2,h3,h4,h5,by omega⟩];exact⟨rfl,hH.to⟩
     ·rw[bt h5];refine gh ?_;rw[if_neg fun h=>h5 h.d];exact⟨rfl,hH.to⟩
    ·rw[bt h4];refine gh ?_;rw[if_neg fun h=>h4 h.n];exact⟨rfl,hH.to⟩
   ·rw[bt h3];refine gh ?_;rw[if_neg fun h=>h3 h.t];exact⟨rfl,hH.to⟩
  ·rw[bt h2];refine gh ?_;rw[if_neg fun h=>h2 h.e];exact⟨rfl,hH.to⟩
 ·rw[bt h1];refine gh ?_;rw[if_neg fun h=>h1 h.b];exact⟨rfl,hH.to⟩
end
section
attribute [local irreducible] GO GX aA eo fz aF aQ ao star
variable {o:Og}{w:World}
theorem Q4 (c:oy)(hc:¬xv c)(hs:Start o w []):aj prog 17 [.agg (vC c).toArray].toArray w (Po o (.tuple #[.pointer none,iV 2]) []):=by
 have hH:=hs.sh;refine aj.enter func17 rfl ntmps17 rfl (gh ?_);refine GX.cw (h:=fun z w hH=>gh ?_);refine GX.aL (hc:=fun _ hs=>Q1 c hs) (h:=fun w hE hH=>gh ?_);rw[if_neg hc];refine gh ?_;exact⟨rfl,hH.to⟩
def jd (c:oy):aq:=⟨c.b.toNat,c.e.toNat,c.t.toNat,c.n.toNat,c.d.toNat,c.g,c.s,0,0,Oe c.b.toNat c.e.toNat,⟨c.t.toNat,[],0,fun _=>none,0⟩,(0,0,0),⟨c.g,0,0,fun _=>⟨0,[]⟩⟩,Oc,dS.new c.n.toNat c.d.toNat,List.replicate 16 0⟩
theorem Q5 (c:oy)(hc:xv c)(dN:c.s<18446744073709551616)(hs:Start o w []):aj prog 17 [.agg (vC c).toArray].toArray w (aU o (fun b:Nat => .tuple #[ak b,iV 0]) (fun _=>True) (fun b=>[bU b (jd c)])):=by
 have hH:=hs.sh;refine aj.enter func17 rfl ntmps17 rfl (gh ?_);refine GX.cw (h:=fun z w hH=>gh ?_);refine GX.aL (hc:=fun _ hs=>Q1 c hs) (h:=fun w hE hH=>gh ?_);rw[if_pos hc];obtain⟨c1,c2,c3,c4,c5,c6⟩:=hc;obtain⟨cb,ce,ct,cn,cd,cg,cs⟩:=c;dsimp only at c1 c2 c3 c4 c5 c6 hH dN ⊢;obtain⟨nb,rfl⟩:∃n:Nat,cb=n:=⟨cb.toNat,by omega⟩
 obtain⟨ne,rfl⟩:∃n:Nat,ce=n:=⟨ce.toNat,by omega⟩
 obtain⟨nt,rfl⟩:∃n:Nat,ct=n:=⟨ct.toNat,by omega⟩
 obtain⟨nn,rfl⟩:∃n:Nat,cn=n:=⟨cn.toNat,by omega⟩
 obtain⟨nd,rfl⟩:∃n:Nat,cd=n:=⟨cd.toNat,by omega⟩
 refine gh ?_;refine GC.bq (pl:=(aZ [1,5,8,9,14,15])) (T:=fun _=>False) (hm:=mixed) (h:=fun w hE hH=>gh ?_);refine GX.ew (hc:=fun _ hs=>alE hs) (h:=?_);rintro pw w _ hS hH;replace hH:=SH.ap hH;refine gh ?_;refine GX.ew (hc:=fun _ hs=>abm hs) (h:=?_);rintro pp w _ hS hH;replace hH:=SH.ap hH;refine gh ?_;refine GX.nJ (h:=fun b w hS hH=>gh ?_);refine GX.bS (hc:=fun _ hs=>alo nb ne cs ⟨by omega,by omega⟩ ⟨by omega,by omega⟩ dN hs) (h:=?_);rintro ps w _ hH;replace hH:=SH.ap hH;refine gh ?_;refine GX.dw (h:=fun w hH=>gh ?_);refine GX.bS (hc:=fun _ hs=>ajw nt cs ⟨by omega,by omega⟩ dN hs) (h:=?_);rintro pr w _ hH;replace hH:=SH.ap hH;refine gh ?_;refine GX.dw (h:=fun w hH=>gh ?_);refine GX.bS (hc:=fun _ hs=>ajR cg c6 hs) (h:=?_);rintro pa w _ hH;replace hH:=SH.ap hH;refine gh ?_;refine GX.dw (h:=fun w hH=>gh ?_);refine GX.bS (hc:=fun _ hs=>ab9 nn nd cs ⟨by omega,by omega⟩ ⟨by omega,by omega⟩ dN hs) (h:=?_);rintro pg w _ hH;replace hH:=SH.ap hH;refine gh ?_;refine GX.dw (h:=fun w hH=>gh ?_);refine⟨b,rfl,trivial,(cV (X:=⟨ps,pr,pw,pa,pp,pg⟩) (E:=jd ⟨nb,ne,nt,nn,nd,cg,cs⟩) hH).to⟩
theorem ahc (c:oy):b8 (jd c):=
 ⟨fun _ _ _ h=>(by cases h),bj _,bj _,by show 0<_;decide,⟨List.length_replicate,fun x hx=>by rw[List.eq_of_mem_replicate hx];decide⟩,bh _,by show 0<_;decide⟩
theorem St.set {v:Value}:∀{l:List Value}{n:Nat},n<l.length→St v l n (l.set n v)
 | [],_,h=>by simp at h
 |x::l,0,_=>St.zero
 |x::l,n+1,h=>St.succ (St.set (by simpa using h))
def AO (a n:Nat):Nat:=a+min n (18446744073709551615 - a)
def aq.raise (E:aq)(p n:Nat):aq:={ E with dC:=E.dC.set p (AO (E.dC.getD p 0) n)}
theorem lG {b:Nat}{E:aq}(hG:b8 E)(p n:Nat)(hp:p<16)(hn:n<2^62)(hs:Start o w [bU b E]) :
  aj prog 113 [ak b,iV p,iV n].toArray w (Po o (.tuple #[]) [bU b (E.raise p n)]):=by
 have hH:=hs.sh;obtain⟨X,hH⟩:=SH.un hH;replace hH:=SH.ap hH;dsimp only[eK] at hH;obtain⟨hl,hx⟩:=hG.dC;have gZ:p<E.dC.length:=by omega
 obtain⟨v,hv⟩:∃v,E.dC[p]?=some v:=⟨_,bO gZ⟩
 have hvb:v<18446744073709551616:=hx v (bF hv);refine aj.enter func113 rfl ntmps113 rfl (gh ?_);refine GX.next rfl (GO.lO rfl rfl rfl rfl ah ah rfl (gh ?_));generalize hL:(iV E.cb::iV E.ce::iV E.ct::iV E.cn::iV E.cd::uV E.cg::uV E.cs::uV E.now::uV E.bf::ak X.s::ak X.r::ak X.w::ak X.a::ak X.p::ak X.g::E.dC.map fun n:Nat=>uV n)=Lc at hH;have hd:Lc.drop (0+15+(p:Int).toNat*1)=uV v::(E.dC.drop (p+1)).map fun n:Nat=>uV n:=by
  rw[←hL,show 0+15+(p:Int).toNat*1=p+15 by simp;omega];show(E.dC.map fun n:Nat=>uV n).drop p=_;rw[←List.map_drop,p7 gZ,(aV.1 hv).2];rfl
 have TF:St (uV (AO v n)) Lc (0+15+(p:Int).toNat*1) (eK X (E.raise p n)):=by
  have hlen:Lc.length=31:=by rw[←hL];simp[hl]
  have h1:Lc.set (0+15+(p:Int).toNat*1) (uV (AO v n))=eK X (E.raise p n):=by
   rw[←hL,show 0+15+(p:Int).toNat*1=p+15 by simp;omega];show _::_::_::_::_::_::_::_::_::_::_::_::_::_::_::(E.dC.map fun n:Nat=>uV n).set p (uV (AO v n))=eK X (E.raise p n);unfold eK aq.raise;dsimp only;rw[show E.dC.getD p 0=v by rw[fT,hv];rfl,pf]
  rw[←h1];exact St.set (by rw[hlen];simp;omega)
 refine GC.bq (pl:=(aZ [0,3,9,12,15,18,7,22,24,27,30,33,38])) (T:=fun _=>False) (hm:=mixed) (h:=fun w hE hH=>gh ?_);refine GX.read rfl (GO.rQ rfl rfl rfl (SH.kg (by assumption) bL) id (by first|assumption|exact Ext.mod (by assumption)) hd (gh ?_));refine GX.read rfl (GO.rQ rfl rfl rfl (SH.kg (by assumption) bL) id (by first|assumption|exact Ext.mod (by assumption)) hd (gh ?_));have Aj:Value.int IntKind.u64 ((v:Int)+if(18446744073709551615:Int) - (v:Int)<(n:Int) then 18446744073709551615 - (v:Int) else(n:Int))=uV (AO v n):=by
  unfold AO;refine congrArg (Value.int .u64) ?_;split<;>omega
 rw[←Aj] at TF;refine GX.fH (hl':=TF) (h:=fun w hH=>gh ?_);exact⟨rfl,(cV (X:=X) (E:=E.raise p n) hH).to⟩
def tQ:List Value:=[.nilFunc, .int .u8 0, .func (.func 89) #[] #[], .int .u8 13, .func (.func 89) #[] #[], .int .u8 13, .func (.func 89) #[] #[], .int .u8 13, .func (.func 90) #[] #[], .int .u8 1, .func (.func 90) #[] #[], .int .u8 64, .func (.func 91) #[] #[], .int .u8 5, .func (.func 92) #[] #[], .int .u8 1, .func (.func 94) #[] #[], .int .u8 144, .func (.func 94) #[] #[], .int .u8 144, .func (.func 95) #[] #[], .int .u8 160, .func (.func 96) #[] #[], .int .u8 3, .func (.func 96) #[] #[], .int .u8 3, .func (.func 93) #[] #[], .int .u8 1, .func (.func 95) #[] #[], .int .u8 128, .func (.func 97) #[] #[], .int .u8 0]
def Bf (op:Int):Value:=if 1≤op∧op<16 then .agg ((tQ.drop (op.toNat*2)).take 2).toArray else .agg #[.nilFunc, .int .u8 0]
theorem PN:∀u∈tQ,u.oneCell'=true:=fun u hu=>rj.1 (show(tQ.all fun u=>u.oneCell')=true from rfl) u hu
theorem Y5 {n:Nat}(hn:n<16):∃a c r,tQ.drop (0+n*2)=a::c::r∧a.oneCell'=true∧c.oneCell'=true:=by
 have hl:(tQ.drop (0+n*2)).length=32 - (0+n*2):=by rw[lZ];rfl
 match h:tQ.drop (0+n*2) with
 | []=>rw[h] at hl;simp at hl;omega
 | [a]=>rw[h] at hl;simp at hl;omega
 |a::c::r=>
  have hm:∀x∈a::c::r,x∈tQ:=fun x hx=>xj (i:=0+n*2) (by rw[h];exact hx)
  exact⟨a,c,r,rfl,PN a (hm a (by simp)),PN c (hm c (by simp))⟩
theorem Q3 (op:Int)(hs:Start o w []) :
  aj prog 54 [iV op].toArray w (Po o (.tuple #[Bf op, .bool (decide (1≤op∧op<16))]) []):=by
 have hH:=hs.sh;refine aj.enter func54 rfl ntmps54 rfl (gh ?_);refine GX.cm (h:=fun z w hH=>gh ?_);refine GX.next rfl (GO.KK (out:=tQ) rfl rfl rfl rfl rfl rfl (gh ?_));refine GX.cm (h:=fun t w hH=>gh ?_);refine GX.bc (cs':=tQ) (h:=fun w hH=>gh ?_)
 by_cases h1:op<1
 ·rw[bQ h1];refine gh ?_;refine GX.bc (h:=fun w hH=>gh ?_);have e1:¬(1≤op∧op<16):=by omega
  rw[bt e1];unfold Bf;rw[if_neg e1];exact⟨rfl,hH.to⟩
 ·rw[bt h1];refine gh ?_
  by_cases h2:16≤op
  ·rw[bQ h2];refine gh ?_;refine GX.bc (h:=fun w hH=>gh ?_);have e1:¬(1≤op∧op<16):=by omega
   rw[bt e1];unfold Bf;rw[if_neg e1];exact⟨rfl,hH.to⟩
  ·rw[bt h2];refine gh ?_;have e1:1≤op∧op<16:=by omega
   obtain⟨fa,fc,fr,h3,h4,h5⟩:=Y5 (n:=op.toNat) ah;have h6:(tQ.drop (0+op.toNat*2)).take 2=[fa,fc]:=by rw[h3];rfl
   refine GX.next rfl (GO.lO rfl rfl rfl rfl ah ah rfl (gh ?_));refine GX.next rfl (GO.Jc rfl rfl rfl (SH.kg (by assumption) bL) h6 rfl (gh ?_));refine GX.bc (vs:=[fa,fc]) (h1:=by simp[h4,h5]) (h:=fun w hH=>gh ?_);rw[bQ e1];unfold Bf;rw[if_pos e1,show op.toNat*2=0+op.toNat*2 by omega,h6];exact⟨rfl,hH.to⟩
def uO (N:fU)(l:List Bs):Nat:=(l.filter fun t=>decide ((lh N t).2≠0)).length
theorem ahf {N:fU}{l:List Bs}{i:Nat}{t:Bs}(h:l[i]?=some t):uO N (l.take (i+1))=uO N (l.take i)+if(lh N t).2≠0 then 1 else 0:=by
 unfold uO;rw[ic,h,y5,bJ];congr 1
 by_cases hh:(lh N t).2≠0<;>simp[oo,hh]
def aq.Kf (E:aq)(now:Nat)(c:dh):Int:=
 if c.op=2∧(E.item c.k now).m≠0 then 11 else if c.op=3∧(E.item c.k now).m=0 then 9 else if c.op=3∧(E.item c.k now).n≠c.n then 10
 else if E.r.aI<dq E.r.N+uO E.r.N (cr c.t).1 then 7 else 0
theorem aat (N:fU):dq N≤N.length:=rh _ _
theorem abh {b:Nat}{E:aq}(hG:b8 E)(now:Nat)(c:dh)(y:iR)(qK:c.t.length<2^40)(hs:Start o w [bU b E,aF (y.t.1) (aM c.t)]) :
  aj prog 99 [ak b,uV now, .agg (jH c y).toArray].toArray w (Po o (iV (E.Kf now c)) [bU b E]):=by
 have hH:=hs.sh;have IY:=hG.bf;obtain⟨op,ck,pB,cv,ct,cd,cn,Hd,Hc,GZ⟩:=c;dsimp only at qK hs hH ⊢;unfold aq.Kf;dsimp only;generalize Ig:E.item ck now=it;have hc:(op=2∧it.m≠0)∨(op=3∧it.m=0)∨(op=3∧it.m≠0∧it.n≠cn)∨(op=2∧it.m=0)∨(op=3∧it.m≠0∧it.n=cn)∨(op≠2∧op≠3):=by
  by_cases h2:op=2
  ·by_cases hm:it.m=0
   ·exact .inr (.inr (.inr (.inl ⟨h2,hm⟩)))
   ·exact .inl ⟨h2,hm⟩
  ·by_cases h3:op=3
   ·by_cases hm:it.m=0
    ·exact .inr (.inl ⟨h3,hm⟩)
    ·by_cases hn:it.n=cn
     ·exact .inr (.inr (.inr (.inr (.inl ⟨h3,hm,hn⟩))))
     ·exact .inr (.inr (.inl ⟨h3,hm,hn⟩))
   ·exact .inr (.inr (.inr (.inr (.inr ⟨h2,h3⟩))))
 refine aj.enter func99 rfl ntmps99 rfl (gh ?_);refine GX.cw (h:=fun z w hH=>gh ?_);refine GX.bS (hc:=fun _ hs=>Ci hG ck now hs) (h:=?_);rw[Ig];rintro qi w _ hH;replace hH:=SH.ap hH;dsimp only[yv] at hH ⊢;refine gh ?_;refine GX.cm (h:=fun f w hH=>gh ?_);refine GX.bc (h:=fun w hH=>gh ?_)
 rcases hc with⟨rfl,hm⟩|⟨rfl,hm⟩|⟨rfl,hm,hn⟩|⟨rfl,hm⟩|⟨rfl,hm,hn⟩|⟨h2,h3⟩
 ·refine gh ?_;rw[show decide (it.m≠0)=true from bQ hm];refine gh ?_;rw[if_pos ⟨rfl,hm⟩];exact⟨rfl,hH.to⟩
 ·refine gh ?_;rw[show decide (it.m=0)=true from bQ hm];refine gh ?_;rw[if_neg (by simp),if_pos ⟨rfl,hm⟩];exact⟨rfl,hH.to⟩
 ·refine gh ?_;rw[show decide (it.m=0)=false from bt hm];refine gh ?_;dsimp only;rw[show decide ((it.n:Int)≠(cn:Int))=true from bQ ah];refine gh ?_;rw[if_neg (by simp),if_neg (by simp[hm]),if_pos ⟨rfl,hn⟩];exact⟨rfl,hH.to⟩
 case' inr.inr.inr.inl=>
  refine gh ?_;rw[show decide (it.m≠0)=false from bt (by simp[hm])];refine gh ?_;rw[if_neg (by simp[hm]),if_neg (by simp),if_neg (by simp)]
 case' inr.inr.inr.inr.inl=>
  refine gh ?_;rw[show decide (it.m=0)=false from bt hm];refine gh ?_;dsimp only;rw[show decide ((it.n:Int)≠(cn:Int))=false from bt ah];refine gh ?_;rw[if_neg (by simp),if_neg (by simp[hm]),if_neg (by simp[hn])]
 case' inr.inr.inr.inr.inr=>
  dsimp only;rw[show decide (op=2)=false from bt h2];refine gh ?_;dsimp only;rw[show decide (op=3)=false from bt h3];refine gh ?_;dsimp only;rw[show decide (op=3)=false from bt h3];refine gh ?_;rw[if_neg (by simp[h2]),if_neg (by simp[h3]),if_neg (by simp[h3])]
 all_goals
  clear Ig;refine GX.dX (hc:=fun _ hs=>Gd (a:=y.t.1) ct rfl qK hs) (h:=?_);rintro⟨qt,c9⟩ w _ hE hH;replace hH:=SH.ap hH;have wq:=AU ct;generalize (cr ct).1=tg at hH wq ⊢;obtain⟨X,hH⟩:=SH.un hH;replace hH:=SH.ap hH;have mZ:=W1 hH;have xP:=aat E.r.N;dsimp only[eK] at hH;refine gh ?_;refine GX.aL (hc:=fun _ hs=>aju (R:=E.r) hs) (h:=fun w hE hH=>gh ?_);refine gh ?_;refine GC.bP [0,11,64,65] (fun i:Nat=>[(10,iV (dq E.r.N+uO E.r.N (tg.take i))),(66,iV i)]) (fun i w'=>i≤tg.length∧SH o w' (ao 9 1 qt tg.length c9 (aM tg)::X.dm b E)) (fun i=>tg.length - i) 0 rfl rfl ⟨bh _,hH.to⟩ ?_;rintro i w ⟨hi,hH⟩;dsimp only[tM.dm,eK] at hH;have hnt:uO E.r.N (tg.take i)≤i:=eh (rh _ _) (by rw[dE];omega);refine gh ?_;refine ifs (fun h1=>?_) (fun h1=>?_)<;>refine gh ?_
  ·obtain⟨t,ht⟩:∃t,tg[i]?=some t:=⟨_,bO ah⟩
   obtain⟨qb,rfl⟩:=hH.pos (el:=9) (sz:=1) (q:=qt) (n:=tg.length);have gi:=ahf (N:=E.r.N) ht;refine gh ?_;refine GX.next rfl (GO.cG (hv:=show(aM tg)[i]?=some (str t) by simp[aM,ht]) (h:=gh ?_));refine GX.aL (hc:=fun _ hs=>Xl (R:=E.r) t hs) (h:=fun w hE hH=>gh ?_)
   by_cases hf:(lh E.r.N t).2≠0
   ·rw[if_pos hf] at gi;rw[show decide ((lh E.r.N t).2≠0)=true from bQ hf];refine gh ?_;exact GQ.br (i+1) (by rw[gi];rfl) ⟨by omega,hH.to⟩ ah
   ·rw[if_neg hf,p6] at gi;rw[show decide ((lh E.r.N t).2≠0)=false from bt hf];refine gh ?_;exact GQ.br (i+1) (by rw[gi];rfl) ⟨by omega,hH.to⟩ ah
  ·obtain rfl:i=tg.length:=by omega
   rw[eO (bj _)] at hnt ⊢;refine gh ?_
   by_cases hm:E.r.aI<dq E.r.N+uO E.r.N tg
   ·rw[if_pos hm,show decide ((E.r.aI:Int)<(dq E.r.N:Int)+(uO E.r.N tg:Int))=true from bQ ah];refine gh ?_;exact⟨rfl,(cV (X:=X) (E:=E) hH).to⟩
   ·rw[if_neg hm,show decide ((E.r.aI:Int)<(dq E.r.N:Int)+(uO E.r.N tg:Int))=false from bt ah];refine gh ?_;rw[show decide ((E.bf:Int)=18446744073709551615)=false from bt ah];refine gh ?_;exact⟨rfl,(cV (X:=X) (E:=E) hH).to⟩
theorem ahU (S:List cH):fV (cY S):=by
 induction S with
 |nil=>show fV ([]:List It);infer_instance
 |cons x S ih=>
  show fV (fx x++cY S);exact fV.append inferInstance ih
instance {S:List cH}:Zf (bB (cY S)):=Zf.Bj (ahU S)
instance {b:Nat}{s:bw}:Zf (jD b s):=Zf.star fun X=>by
 infer_instance
instance {p:Nat}{E:jG}:Zf (mQ p E):=Zf.star fun _=>inferInstance
theorem agE {α:Type}:∀{l:List α},l.length=16→∃a b c d e f g h i j k m n p q r,l=[a,b,c,d,e,f,g,h,i,j,k,m,n,p,q,r]
 | [a,b,c,d,e,f,g,h,i,j,k,m,n,p,q,r],_=>⟨a,b,c,d,e,f,g,h,i,j,k,m,n,p,q,r,rfl⟩
theorem Q2 {b:Nat}{E:aq}(hG:b8 E)(hrK:E.r.K<16384)(B1:E.p.T.K<2^40)(hs:Start o w [bU b E]) :
  aj prog 32 [ak b].toArray w (aU o ak (fun _=>True) (fun c=>[bU b E,bU c E])):=by
 have hH:=hs.sh;obtain⟨c0,c1,c2,c3,c4,c5,c6,c7,c8,c9,ca,cb,cc,cd,ce,cf,hc⟩:=agE hG.dC.1;have b6:=hG.nH;obtain⟨X,hH⟩:=SH.un hH;replace hH:=SH.ap hH;dsimp only[eK] at hH;rw[hc] at hH;simp only[cK,tD] at hH;refine aj.enter func32 rfl ntmps32 rfl (gh ?_);refine GX.aL (hc:=fun _ hs=>Bp hs) (h:=fun w hE hH=>gh ?_);refine gh ?_;refine GX.cm (h:=fun t w hH=>gh ?_);refine GX.bc (h:=fun w hH=>gh ?_);refine GC.bq (pl:=(aZ [0,3,6,15,18,21,30,33,36,10,25,40,14,29,44,45,50,51,56,57,62])) (T:=cS [b]) (hm:=mixed) (h:=fun w hE hH=>gh ?_);refine GX.ew (hc:=fun _ hs=>alk (s:=E.s) hs) (h:=?_);rintro ps w _ hS hH;replace hH:=SH.ap hH;refine gh ?_;refine GX.gT (hc:=fun _ hs=>ajv (R:=E.r) hrK hs) (h:=?_);rintro pr w _ hS hH;replace hH:=SH.ap hH;refine gh ?_;refine GX.ew (hc:=fun _ hs=>alD hs) (h:=?_);rintro pw w _ hS hH;replace hH:=SH.ap hH;refine gh ?_;refine GX.fH (h:=fun w hH=>gh ?_);refine GX.fH (h:=fun w hH=>gh ?_);refine GX.fH (h:=fun w hH=>gh ?_);refine GC.bq (pl:=(aZ [0,3,6,15,18,21,30,33,36,10,25,40,14,29,44,45,50,51,56,57,62])) (T:=cS [b]) (hm:=mixed) (h:=fun w hE hH=>gh ?_);refine GX.gT (hc:=fun _ hs=>ajy (S:=E.a) ah hs) (h:=?_);rintro pa w _ hS hH;replace hH:=SH.ap hH;refine gh ?_;refine GX.ew (hc:=fun _ hs=>abj (E:=E.p) B1 hs) (h:=?_);rintro pp w _ hS hH;replace hH:=SH.ap hH;refine gh ?_;refine GX.ew (hc:=fun _ hs=>Ll (A:=E.g) hs) (h:=?_);rintro pg w _ hS hH;replace hH:=SH.ap hH;refine gh ?_;refine GX.fH (h:=fun w hH=>gh ?_);refine GX.fH (h:=fun w hH=>gh ?_);refine GX.fH (h:=fun w hH=>gh ?_);have hX:∀X:tM,eK X E=[iV E.cb,iV E.ce,iV E.ct,iV E.cn,iV E.cd,uV E.cg,uV E.cs,uV E.now,uV E.bf,ak X.s,ak X.r,ak X.w,ak X.a,ak X.p,ak X.g,uV c0,uV c1,uV c2,uV c3,uV c4,uV c5,uV c6,uV c7,uV c8,uV c9,uV ca,uV cb,uV cc,uV cd,uV ce,uV cf]:=fun X=>by
  unfold eK;rw[hc];rfl
 rw[←hX X,←hX ⟨ps,pr,pw,pa,pp,pg⟩] at hH;exact⟨t,rfl,trivial,(cV (X:=X) (E:=E) (cV (X:=⟨ps,pr,pw,pa,pp,pg⟩) (E:=E) hH)).to⟩
end
section
def jt (s:dM):Prop:=s.N.length≤s.aI
theorem abN {N:fU}(h:cx N=[]):dq N=N.length:=by
 unfold dq;rw[p8.2];intro x hx;obtain⟨n,hn⟩:=ej hx
 by_cases h0:x.2=0
 ·have:=oV.2 ⟨x,hn,h0⟩;rw[h] at this;cases this
 ·simp;omega
theorem jt.add {s:dM}(h:jt s)(x:Bs):jt (fw s x).2.2∧(fw s x).2.2.aI=s.aI:=by
 unfold fw;split
 ·exact⟨h,rfl⟩
 ·rename_i hn
  refine⟨?_,rfl⟩;show(e7 s.N x).1.length≤s.aI;unfold jt at h;unfold e7;cases hi:oX s.N x with
  |some n=>simpa using h
  |none=>
   cases hf:cx s.N with
   |cons n F=>simpa using h
   |nil=>
    have h1:=abN hf;have h2:¬dq s.N=s.aI:=fun e=>hn ⟨hi,e⟩
    show(s.N++[(x,1)]).length≤s.aI;rw[bJ,ie];omega
theorem jt.PV:∀(l:List Bs) {s:dM}(acc:List Nat),jt s→jt (jB l s acc).2.2∧(jB l s acc).2.2.aI=s.aI
 | [],_,_,h=>⟨h,rfl⟩
 |x::l,s,acc,h=>by
  obtain⟨h1,h2⟩:=h.add x;unfold jB;split
  ·obtain⟨k1,k2⟩:=jt.PV l (acc++[(fw s x).1.toNat]) h1;exact⟨k1,k2.trans h2⟩
  ·exact⟨h1,h2⟩
theorem jt.rel {s:dM}(h:jt s)(z:Int):jt (pR s z).2.2∧(pR s z).2.2.aI=s.aI:=by
 unfold pR;split
 ·exact⟨h,rfl⟩
 ·split
  ·exact⟨by unfold jt at h ⊢;simpa using h,rfl⟩
  ·exact⟨by unfold jt at h ⊢;simpa using h,rfl⟩
theorem jt.WY (l:List Nat){s:dM}(h:jt s):jt (jn s l).2∧(jn s l).2.aI=s.aI:=by
 suffices hh:∀(l:List Nat) (y:List Nat×dM),jt y.2→jt (l.foldl o6 y).2∧(l.foldl o6 y).2.aI=y.2.aI from hh l ([],s) h
 intro l
 induction l with
 |nil=>intro y hy;exact⟨hy,rfl⟩
 |cons n l ih=>
  intro y hy;obtain⟨h1,h2⟩:=hy.rel (n:Int);obtain⟨k1,k2⟩:=ih (o6 y n) h1;exact⟨k1,k2.trans h2⟩
def gv (R:gL):Prop:=R.N.length≤R.aI
theorem gv.drop {R:gL}(h:gv R)(id:Nat):gv (jm R id).2.2∧(jm R id).2.2.aI=R.aI:=by
 unfold jm;split
 ·exact⟨h,rfl⟩
 ·rename_i e he
  obtain⟨h1,h2⟩:=jt.WY e.2 (s:=⟨R.aI,R.N⟩) h;refine⟨?_,rfl⟩;show(jn ⟨R.aI,R.N⟩ e.2).2.N.length≤R.aI;unfold jt at h1;rw[h2] at h1;exact h1
theorem gv.add {R:gL}(h:gv R)(id:Nat)(t:List Bs):gv (jX R id t).2.2∧(jX R id t).2.2.aI=R.aI:=by
 obtain⟨h1,h2⟩:=jt.PV t (s:=⟨R.aI,R.N⟩) [] h;unfold jX;split
 ·refine⟨?_,rfl⟩;show(jB t ⟨R.aI,R.N⟩ []).2.2.N.length≤R.aI;unfold jt at h1;rw[h2] at h1;exact h1
 ·obtain⟨k1,k2⟩:=h1.WY (jB t ⟨R.aI,R.N⟩ []).1;refine⟨?_,rfl⟩;show(jn (jB t ⟨R.aI,R.N⟩ []).2.2 (jB t ⟨R.aI,R.N⟩ []).1).2.N.length≤R.aI;unfold jt at k1;rw[k2,h2] at k1;exact k1
theorem ahI {E:aq}(h:gv E.r)(k:Bs):gv (E.gj k).r∧(E.gj k).r.aI=E.r.aI:=by
 unfold aq.gj;split
 ·exact h.drop _
 ·exact⟨h,rfl⟩
theorem Oy {E:aq}(h:gv E.r)(l:List Bs):gv (E.out l).r∧(E.out l).r.aI=E.r.aI:=by
 unfold aq.out
 induction l generalizing E with
 |nil=>exact⟨h,rfl⟩
 |cons k l ih=>
  obtain⟨h1,h2⟩:=ahI h k;obtain⟨k1,k2⟩:=ih h1;exact⟨k1,k2.trans h2⟩
theorem NT {E:aq}(h:gv E.r)(l:List cC):gv (E.fh l).r∧(E.fh l).r.aI=E.r.aI:=by
 unfold aq.fh
 induction l generalizing E with
 |nil=>exact⟨h,rfl⟩
 |cons k l ih=>
  obtain⟨h1,h2⟩:=gv.drop h k.n;obtain⟨k1,k2⟩:=ih (E:=E.qP k.n) h1;exact⟨k1,k2.trans h2⟩
structure cU (E:aq)(n:Nat):Prop where
 ok:b8 E
 len:gv E.r
 aI:E.r.aI≤65536
 lx:E.r.K+E.s.E.length≤2*E.bf
 bf:E.bf≤n
 al:E.a.last≤n
 sK:E.s.K≤n*4194304
 gK:E.g.K≤4*n
 pK:E.p.T.K≤n
theorem cU.up {E:aq}{n m:Nat}(h:cU E n)(hm:n≤m):cU E m:=
 ⟨h.ok,h.len,h.aI,h.lx,eh h.bf hm,eh h.al hm,eh h.sK (y7 _ hm),eh h.gK (Nat.mul_le_mul_left _ hm),eh h.pK hm⟩
theorem cU.new (c:oy)(hc:xv c):cU (jd c) 0:=
 ⟨ahc c,bh _,by have:=hc.t;show c.t.toNat≤_;omega,bj _,bj _,bj _,bh _,bh _,bh _⟩
theorem b8.raise {E:aq}(h:b8 E)(p n:Nat)(hp:p<16):b8 (E.raise p n):=by
 obtain⟨h1,h2⟩:=h.dC;refine⟨h.o7,h.qY,h.se,h.nH,⟨by show(E.dC.set p _).length=16;rw[fS];exact h1,fun x hx=>?_⟩,h.now,h.bf⟩
 rcases l4 (show x∈E.dC.set p _ from hx) with hx|rfl
 ·exact h2 x hx
 ·have gZ:p<E.dC.length:=by omega
  have:=h2 (E.dC.getD p 0) (by rw[fT,bO gZ];exact ot gZ);have e:ed=18446744073709551616:=rfl;rw[e] at this ⊢;unfold AO;omega
theorem cU.raise {E:aq}{n:Nat}(h:cU E n)(p m:Nat)(hp:p<16):cU (E.raise p m) n:=
 ⟨h.ok.raise p m hp,h.len,h.aI,h.lx,h.bf,h.al,h.sK,h.gK,h.pK⟩
theorem b8.write {E:aq}(h:b8 E)(hl:gv E.r)(hm:E.r.aI≤65536)(hv:E.bf<8000)(c:dh):b8 (E.write c):=by
 have hp:b8 (E.pre c):=by
  have h1:=(h.tick.out (cR E.g.E c.k)).1;have f1:=AB E.tick (cR E.g.E c.k);have h2:=(h1.out [c.k]).1;have f2:=AB (E.tick.out (cR E.g.E c.k)) [c.k];have e1:((E.tick.out (cR E.g.E c.k)).out [c.k]).bf=E.bf:=f2.1.trans f1.1;have h3:=h2.qY;rw[e1] at h3;exact⟨h2.o7,vq h3,h2.se,h2.nH,h2.dC,h2.now,by show E.bf+1<_;omega⟩
 have S4:gv (E.pre c).r∧(E.pre c).r.aI=E.r.aI:=by
  obtain⟨a1,a2⟩:=Oy (E:=E.tick) hl (cR E.g.E c.k);obtain⟨b1,b2⟩:=Oy a1 [c.k];exact⟨b1,b2.trans a2⟩
 generalize aR:(E.pre c).Cu c=ne;have h5:=(hp.drop ((E.pre c).s.put ne).1).fh ((E.pre c).s.put ne).2;have l5:=NT (E:={ E.pre c with s:=((E.pre c).s.put ne).1}) S4.1 ((E.pre c).s.put ne).2;unfold aq.write;rw[aR];have he:(E.pre c).put ne=aq.fh { E.pre c with s:=((E.pre c).s.put ne).1} ((E.pre c).s.put ne).2:=rfl;rw[←he] at h5 l5;generalize (E.pre c).put ne=E6 at h5 l5 ⊢;obtain⟨g1,_,_,g4,_,_,_,g8⟩:=h5;have rJ:E6.r.aI=E.r.aI:=l5.2.trans S4.2;obtain⟨q1,q2⟩:=l5.1.add E6.bf (cr c.t).1;refine⟨g1.o7.add E6.bf (alG (Pm c.t)) (AU c.t) ?_,?_,g1.se,g1.nH,g1.dC,g1.now,g1.bf⟩
 ·unfold gv at q1;rw[q2,rJ] at q1;omega
 ·show(jX E6.r E6.bf (cr c.t).1).2.2.last≤E6.bf;have:=g1.qY;unfold jX;split
  ·exact bj _
  ·exact this
end
end Go.Proofs.YtmlpbmgfmnmmmaaGreat.V.M
