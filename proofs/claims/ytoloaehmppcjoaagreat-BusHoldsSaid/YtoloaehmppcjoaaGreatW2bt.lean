/-
  Parts of the proof. No condition.
-/
import Derived.Test.YtoloaehmppcjoaaGreatW2bs
set_option linter.unusedVariables false
set_option linter.unusedSimpArgs false
set_option maxRecDepth 8000
set_option maxHeartbeats 8000000
open Go.Proofs.Tryz
namespace Go.Proofs.YtoloaehmppcjoaaGreat.V.M
section
attribute [local irreducible] GO GX aB eX fz aF aS aq star
variable {o:Og}{w:World}
def jT (c:rF):ao:=⟨c.b.toNat,c.e.toNat,c.t.toNat,c.n.toNat,c.d.toNat,c.g,c.s,0,0,Oj c.b.toNat c.e.toNat,⟨c.t.toNat,[],0,fun _=>none,0⟩,(0,0,0),⟨c.g,0,0,fun _=>⟨0,[]⟩⟩,FB,dX.new c.n.toNat c.d.toNat,List.replicate 16 0⟩
theorem aba (c:rF)(hc:A4 c)(eH:c.s<18446744073709551616)(hs:Start o w []):aj prog 28 [.agg (G9 c).toArray].toArray w (aX o (fun b:Nat => .tuple #[ak b,iV 0]) (fun _=>True) (fun b=>[cB b (jT c)])):=by
 have hH:=hs.sh;refine aj.enter func28 rfl ntmps28 rfl (gh ?_);refine GX.cI (h:=fun z w hH=>gh ?_);refine GX.aM (hc:=fun _ hs=>aa1 c hs) (h:=fun w hE hH=>gh ?_);rw[if_pos hc];obtain⟨c1,c2,c3,c4,c5,c6⟩:=hc;obtain⟨cb,ce,ct,cn,cd,cg,cs⟩:=c;dsimp only at c1 c2 c3 c4 c5 c6 hH eH ⊢;obtain⟨nb,rfl⟩:∃n:Nat,cb=n:=⟨cb.toNat,by omega⟩
 obtain⟨ne,rfl⟩:∃n:Nat,ce=n:=⟨ce.toNat,by omega⟩
 obtain⟨nt,rfl⟩:∃n:Nat,ct=n:=⟨ct.toNat,by omega⟩
 obtain⟨nn,rfl⟩:∃n:Nat,cn=n:=⟨cn.toNat,by omega⟩
 obtain⟨nd,rfl⟩:∃n:Nat,cd=n:=⟨cd.toNat,by omega⟩
 refine gh ?_;refine GC.br (pl:=(bg [1,5,8,9,14,15])) (T:=fun _=>False) (hm:=mixed) (h:=fun w hE hH=>gh ?_);refine GX.eG (hc:=fun _ hs=>alw hs) (h:=?_);rintro pw w _ hS hH;replace hH:=SH.ap hH;refine gh ?_;refine GX.eG (hc:=fun _ hs=>abq hs) (h:=?_);rintro pp w _ hS hH;replace hH:=SH.ap hH;refine gh ?_;refine GX.oW (h:=fun b w hS hH=>gh ?_);refine GX.bZ (hc:=fun _ hs=>alf nb ne cs ⟨by omega,by omega⟩ ⟨by omega,by omega⟩ eH hs) (h:=?_);rintro ps w _ hH;replace hH:=SH.ap hH;refine gh ?_;refine GX.dC (h:=fun w hH=>gh ?_);refine GX.bZ (hc:=fun _ hs=>ajr nt cs ⟨by omega,by omega⟩ eH hs) (h:=?_);rintro pr w _ hH;replace hH:=SH.ap hH;refine gh ?_;refine GX.dC (h:=fun w hH=>gh ?_);refine GX.bZ (hc:=fun _ hs=>ajI cg c6 hs) (h:=?_);rintro pa w _ hH;replace hH:=SH.ap hH;refine gh ?_;refine GX.dC (h:=fun w hH=>gh ?_);refine GX.bZ (hc:=fun _ hs=>acj nn nd cs ⟨by omega,by omega⟩ ⟨by omega,by omega⟩ eH hs) (h:=?_);rintro pg w _ hH;replace hH:=SH.ap hH;refine gh ?_;refine GX.dC (h:=fun w hH=>gh ?_);refine⟨b,rfl,trivial,(df (X:=⟨ps,pr,pw,pa,pp,pg⟩) (E:=jT ⟨nb,ne,nt,nn,nd,cg,cs⟩) hH).to⟩
theorem ag9 (c:rF):cm (jT c):=
 ⟨fun _ _ _ h=>(by cases h),aY _,aY _,by show 0<_;decide,⟨List.length_replicate,fun x hx=>by rw[List.eq_of_mem_replicate hx];decide⟩,bh _,by show 0<_;decide⟩
theorem St.set {v:Value}:∀{l:List Value}{n:Nat},n<l.length→St v l n (l.set n v)
 | [],_,h=>by simp at h
 |x::l,0,_=>St.zero
 |x::l,n+1,h=>St.succ (St.set (by simpa using h))
def AN (a n:Nat):Nat:=a+min n (18446744073709551615 - a)
def ao.raise (E:ao)(p n:Nat):ao:={ E with cP:=E.cP.set p (AN (E.cP.getD p 0) n)}
theorem lU {b:Nat}{E:ao}(hG:cm E)(p n:Nat)(hp:p<16)(hn:n<2^62)(hs:Start o w [cB b E]) :
  aj prog 137 [ak b,iV p,iV n].toArray w (Po o (.tuple #[]) [cB b (E.raise p n)]):=by
 have hH:=hs.sh;obtain⟨X,hH⟩:=SH.un hH;replace hH:=SH.ap hH;dsimp only[fo] at hH;obtain⟨hl,hx⟩:=hG.cP;have jy:p<E.cP.length:=by omega
 obtain⟨v,hv⟩:∃v,E.cP[p]?=some v:=⟨_,bO jy⟩
 have hvb:v<18446744073709551616:=hx v (bD hv);refine aj.enter func137 rfl ntmps137 rfl (gh ?_);refine GX.next rfl (GO.l4 rfl rfl rfl rfl ah ah rfl (gh ?_));generalize hL:(iV E.cb::iV E.ce::iV E.ct::iV E.cn::iV E.cd::uV E.cg::uV E.cs::uV E.now::uV E.aR::ak X.s::ak X.r::ak X.w::ak X.a::ak X.p::ak X.g::E.cP.map fun n:Nat=>uV n)=Lc at hH;have hd:Lc.drop (0+15+(p:Int).toNat*1)=uV v::(E.cP.drop (p+1)).map fun n:Nat=>uV n:=by
  rw[←hL,show 0+15+(p:Int).toNat*1=p+15 by simp;omega];show(E.cP.map fun n:Nat=>uV n).drop p=_;rw[←List.map_drop,tV jy,(aV.1 hv).2];rfl
 have TH:St (uV (AN v n)) Lc (0+15+(p:Int).toNat*1) (fo X (E.raise p n)):=by
  have hlen:Lc.length=31:=by rw[←hL];simp[hl]
  have h1:Lc.set (0+15+(p:Int).toNat*1) (uV (AN v n))=fo X (E.raise p n):=by
   rw[←hL,show 0+15+(p:Int).toNat*1=p+15 by simp;omega];show _::_::_::_::_::_::_::_::_::_::_::_::_::_::_::(E.cP.map fun n:Nat=>uV n).set p (uV (AN v n))=fo X (E.raise p n);unfold fo ao.raise;dsimp only;rw[show E.cP.getD p 0=v by rw[dP,hv];rfl,pG]
  rw[←h1];exact St.set (by rw[hlen];simp;omega)
 refine GC.br (pl:=(bg [0,3,9,12,15,18,7,22,24,27,30,33,38])) (T:=fun _=>False) (hm:=mixed) (h:=fun w hE hH=>gh ?_);refine GX.read rfl (GO.su rfl rfl rfl (SH.kK (by assumption) bP) id (by first|assumption|exact Ext.mod (by assumption)) hd (gh ?_));refine GX.read rfl (GO.su rfl rfl rfl (SH.kK (by assumption) bP) id (by first|assumption|exact Ext.mod (by assumption)) hd (gh ?_));have uT:Value.int IntKind.u64 ((v:Int)+if(18446744073709551615:Int) - (v:Int)<(n:Int) then 18446744073709551615 - (v:Int) else(n:Int))=uV (AN v n):=by
  unfold AN;refine congrArg (Value.int .u64) ?_;split<;>omega
 rw[←uT] at TH;refine GX.fO (hl':=TH) (h:=fun w hH=>gh ?_);exact⟨rfl,(df (X:=X) (E:=E.raise p n) hH).to⟩
def uk:List Value:=[.nilFunc, .int .u8 0, .func (.func 113) #[] #[], .int .u8 13, .func (.func 113) #[] #[], .int .u8 13, .func (.func 113) #[] #[], .int .u8 13, .func (.func 114) #[] #[], .int .u8 1, .func (.func 114) #[] #[], .int .u8 64, .func (.func 115) #[] #[], .int .u8 5, .func (.func 116) #[] #[], .int .u8 1, .func (.func 118) #[] #[], .int .u8 144, .func (.func 118) #[] #[], .int .u8 144, .func (.func 119) #[] #[], .int .u8 160, .func (.func 120) #[] #[], .int .u8 3, .func (.func 120) #[] #[], .int .u8 3, .func (.func 117) #[] #[], .int .u8 1, .func (.func 119) #[] #[], .int .u8 128, .func (.func 121) #[] #[], .int .u8 0]
def Bf (op:Int):Value:=if 1≤op∧op<16 then .agg ((uk.drop (op.toNat*2)).take 2).toArray else .agg #[.nilFunc, .int .u8 0]
theorem PN:∀u∈uk,u.oneCell'=true:=fun u hu=>sR.1 (show(uk.all fun u=>u.oneCell')=true from rfl) u hu
theorem Y5 {n:Nat}(hn:n<16):∃a c r,uk.drop (0+n*2)=a::c::r∧a.oneCell'=true∧c.oneCell'=true:=by
 have hl:(uk.drop (0+n*2)).length=32 - (0+n*2):=by rw[ml];rfl
 match h:uk.drop (0+n*2) with
 | []=>rw[h] at hl;simp at hl;omega
 | [a]=>rw[h] at hl;simp at hl;omega
 |a::c::r=>
  have hm:∀x∈a::c::r,x∈uk:=fun x hx=>xv (i:=0+n*2) (by rw[h];exact hx)
  exact⟨a,c,r,rfl,PN a (hm a (by simp)),PN c (hm c (by simp))⟩
theorem Q4 (op:Int)(hs:Start o w []) :
  aj prog 76 [iV op].toArray w (Po o (.tuple #[Bf op, .bool (decide (1≤op∧op<16))]) []):=by
 have hH:=hs.sh;refine aj.enter func76 rfl ntmps76 rfl (gh ?_);refine GX.cA (h:=fun z w hH=>gh ?_);refine GX.next rfl (GO.KW (out:=uk) rfl rfl rfl rfl rfl rfl (gh ?_));refine GX.cA (h:=fun t w hH=>gh ?_);refine GX.bt (cs':=uk) (h:=fun w hH=>gh ?_)
 by_cases h1:op<1
 ·rw[b8 h1];refine gh ?_;refine GX.bt (h:=fun w hH=>gh ?_);have e1:¬(1≤op∧op<16):=by omega
  rw[bQ e1];unfold Bf;rw[if_neg e1];exact⟨rfl,hH.to⟩
 ·rw[bQ h1];refine gh ?_
  by_cases h2:16≤op
  ·rw[b8 h2];refine gh ?_;refine GX.bt (h:=fun w hH=>gh ?_);have e1:¬(1≤op∧op<16):=by omega
   rw[bQ e1];unfold Bf;rw[if_neg e1];exact⟨rfl,hH.to⟩
  ·rw[bQ h2];refine gh ?_;have e1:1≤op∧op<16:=by omega
   obtain⟨fa,fc,fr,h3,h4,h5⟩:=Y5 (n:=op.toNat) ah;have h6:(uk.drop (0+op.toNat*2)).take 2=[fa,fc]:=by rw[h3];rfl
   refine GX.next rfl (GO.l4 rfl rfl rfl rfl ah ah rfl (gh ?_));refine GX.next rfl (GO.Jn rfl rfl rfl (SH.kK (by assumption) bP) h6 rfl (gh ?_));refine GX.bt (vs:=[fa,fc]) (h1:=by simp[h4,h5]) (h:=fun w hH=>gh ?_);rw[b8 e1];unfold Bf;rw[if_pos e1,show op.toNat*2=0+op.toNat*2 by omega,h6];exact⟨rfl,hH.to⟩
def tJ (N:eF)(l:List Bs):Nat:=(l.filter fun t=>decide ((gD N t).2≠0)).length
theorem ahc {N:eF}{l:List Bs}{i:Nat}{t:Bs}(h:l[i]?=some t):tJ N (l.take (i+1))=tJ N (l.take i)+if(gD N t).2≠0 then 1 else 0:=by
 unfold tJ;rw[gv,h,vu,bH];congr 1
 by_cases hh:(gD N t).2≠0<;>simp[lO,hh]
def ao.Gh (E:ao)(now:Nat)(c:dd):Int:=
 if c.op=2∧(E.item c.k now).m≠0 then 11 else if c.op=3∧(E.item c.k now).m=0 then 9 else if c.op=3∧(E.item c.k now).n≠c.n then 10
 else if E.r.aD<du E.r.N+tJ E.r.N (bY c.t).1 then 7 else 0
theorem K6 (N:eF):du N≤N.length:=pF _ _
theorem abl {b:Nat}{E:ao}(hG:cm E)(now:Nat)(c:dd)(y:jX)(re:c.t.length<2^40)(hs:Start o w [cB b E,aF (y.t.1) (aK c.t)]) :
  aj prog 123 [ak b,uV now, .agg (lp c y).toArray].toArray w (Po o (iV (E.Gh now c)) [cB b E]):=by
 have hH:=hs.sh;have I9:=hG.aR;obtain⟨op,ck,cks,cv,ct,cd,cn,amk,amj,cch⟩:=c;dsimp only at re hs hH ⊢;unfold ao.Gh;dsimp only;generalize Iq:E.item ck now=it;have hc:(op=2∧it.m≠0)∨(op=3∧it.m=0)∨(op=3∧it.m≠0∧it.n≠cn)∨(op=2∧it.m=0)∨(op=3∧it.m≠0∧it.n=cn)∨(op≠2∧op≠3):=by
  by_cases h2:op=2
  ·by_cases hm:it.m=0
   ·exact .inr (.inr (.inr (.inl ⟨h2,hm⟩)))
   ·exact .inl ⟨h2,hm⟩
  ·by_cases h3:op=3
   ·by_cases hm:it.m=0
    ·exact .inr (.inl ⟨h3,hm⟩)
    ·by_cases hn:it.n=cn
     ·exact .inr (.inr (.inr (.inr (.inl ⟨h3,hm,hn⟩))))
     ·exact .inr (.inr (.inl ⟨h3,hm,hn⟩))
   ·exact .inr (.inr (.inr (.inr (.inr ⟨h2,h3⟩))))
 refine aj.enter func123 rfl ntmps123 rfl (gh ?_);refine GX.cI (h:=fun z w hH=>gh ?_);refine GX.bZ (hc:=fun _ hs=>Cf hG ck now hs) (h:=?_);rw[Iq];rintro qi w _ hH;replace hH:=SH.ap hH;dsimp only[Fm] at hH ⊢;refine gh ?_;refine GX.cA (h:=fun f w hH=>gh ?_);refine GX.bt (h:=fun w hH=>gh ?_)
 rcases hc with⟨rfl,hm⟩|⟨rfl,hm⟩|⟨rfl,hm,hn⟩|⟨rfl,hm⟩|⟨rfl,hm,hn⟩|⟨h2,h3⟩
 ·refine gh ?_;rw[show decide (it.m≠0)=true from b8 hm];refine gh ?_;rw[if_pos ⟨rfl,hm⟩];exact⟨rfl,hH.to⟩
 ·refine gh ?_;rw[show decide (it.m=0)=true from b8 hm];refine gh ?_;rw[if_neg (by simp),if_pos ⟨rfl,hm⟩];exact⟨rfl,hH.to⟩
 ·refine gh ?_;rw[show decide (it.m=0)=false from bQ hm];refine gh ?_;dsimp only;rw[show decide ((it.n:Int)≠(cn:Int))=true from b8 ah];refine gh ?_;rw[if_neg (by simp),if_neg (by simp[hm]),if_pos ⟨rfl,hn⟩];exact⟨rfl,hH.to⟩
 case' inr.inr.inr.inl=>
  refine gh ?_;rw[show decide (it.m≠0)=false from bQ (by simp[hm])];refine gh ?_;rw[if_neg (by simp[hm]),if_neg (by simp),if_neg (by simp)]
 case' inr.inr.inr.inr.inl=>
  refine gh ?_;rw[show decide (it.m=0)=false from bQ hm];refine gh ?_;dsimp only;rw[show decide ((it.n:Int)≠(cn:Int))=false from bQ ah];refine gh ?_;rw[if_neg (by simp),if_neg (by simp[hm]),if_neg (by simp[hn])]
 case' inr.inr.inr.inr.inr=>
  dsimp only;rw[show decide (op=2)=false from bQ h2];refine gh ?_;dsimp only;rw[show decide (op=3)=false from bQ h3];refine gh ?_;dsimp only;rw[show decide (op=3)=false from bQ h3];refine gh ?_;rw[if_neg (by simp[h2]),if_neg (by simp[h3]),if_neg (by simp[h3])]
 all_goals
  clear Iq;refine GX.ef (hc:=fun _ hs=>Gf (a:=y.t.1) ct rfl re hs) (h:=?_);rintro⟨qt,c9⟩ w _ hE hH;replace hH:=SH.ap hH;have tE:=AU ct;generalize (bY ct).1=tg at hH tE ⊢;obtain⟨X,hH⟩:=SH.un hH;replace hH:=SH.ap hH;have nA:=W3 hH;have wc:=K6 E.r.N;dsimp only[fo] at hH;refine gh ?_;refine GX.aM (hc:=fun _ hs=>ajp (R:=E.r) hs) (h:=fun w hE hH=>gh ?_);refine gh ?_;refine GC.bR [0,11,64,65] (fun i:Nat=>[(10,iV (du E.r.N+tJ E.r.N (tg.take i))),(66,iV i)]) (fun i w'=>i≤tg.length∧SH o w' (aq 9 1 qt tg.length c9 (aK tg)::X.dS b E)) (fun i=>tg.length - i) 0 rfl rfl ⟨bh _,hH.to⟩ ?_;rintro i w ⟨hi,hH⟩;dsimp only[uh.dS,fo] at hH;have q7:tJ E.r.N (tg.take i)≤i:=dF (pF _ _) (by rw[dI];omega);refine gh ?_;refine ifs (fun h1=>?_) (fun h1=>?_)<;>refine gh ?_
  ·obtain⟨t,ht⟩:∃t,tg[i]?=some t:=⟨_,bO ah⟩
   obtain⟨qb,rfl⟩:=hH.pos (el:=9) (sz:=1) (q:=qt) (n:=tg.length);have gC:=ahc (N:=E.r.N) ht;refine gh ?_;refine GX.next rfl (GO.cT (hv:=show(aK tg)[i]?=some (str t) by simp[aK,ht]) (h:=gh ?_));refine GX.aM (hc:=fun _ hs=>Xo (R:=E.r) t hs) (h:=fun w hE hH=>gh ?_)
   by_cases hf:(gD E.r.N t).2≠0
   ·rw[if_pos hf] at gC;rw[show decide ((gD E.r.N t).2≠0)=true from b8 hf];refine gh ?_;exact GQ.bj (i+1) (by rw[gC];rfl) ⟨by omega,hH.to⟩ ah
   ·rw[if_neg hf,qy] at gC;rw[show decide ((gD E.r.N t).2≠0)=false from bQ hf];refine gh ?_;exact GQ.bj (i+1) (by rw[gC];rfl) ⟨by omega,hH.to⟩ ah
  ·obtain rfl:i=tg.length:=by omega
   rw[fw (aY _)] at q7 ⊢;refine gh ?_
   by_cases hm:E.r.aD<du E.r.N+tJ E.r.N tg
   ·rw[if_pos hm,show decide ((E.r.aD:Int)<(du E.r.N:Int)+(tJ E.r.N tg:Int))=true from b8 ah];refine gh ?_;exact⟨rfl,(df (X:=X) (E:=E) hH).to⟩
   ·rw[if_neg hm,show decide ((E.r.aD:Int)<(du E.r.N:Int)+(tJ E.r.N tg:Int))=false from bQ ah];refine gh ?_;rw[show decide ((E.aR:Int)=18446744073709551615)=false from bQ ah];refine gh ?_;exact⟨rfl,(df (X:=X) (E:=E) hH).to⟩
theorem ahT (S:List cG):gb (cZ S):=by
 induction S with
 |nil=>show gb ([]:List It);infer_instance
 |cons x S ih=>
  show gb (fG x++cZ S);exact gb.append inferInstance ih
instance {S:List cG}:Zf (bJ (cZ S)):=Zf.Bj (ahT S)
instance {b:Nat}{s:bw}:Zf (kz b s):=Zf.star fun X=>by
 infer_instance
instance {p:Nat}{E:iq}:Zf (ng p E):=Zf.star fun _=>inferInstance
theorem agC {α:Type}:∀{l:List α},l.length=16→∃a b c d e f g h i j k m n p q r,l=[a,b,c,d,e,f,g,h,i,j,k,m,n,p,q,r]
 | [a,b,c,d,e,f,g,h,i,j,k,m,n,p,q,r],_=>⟨a,b,c,d,e,f,g,h,i,j,k,m,n,p,q,r,rfl⟩
theorem aa2 {b:Nat}{E:ao}(hG:cm E)(hrK:E.r.K<16384)(B0:E.p.T.K<2^40)(hs:Start o w [cB b E]) :
  aj prog 43 [ak b].toArray w (aX o ak (fun _=>True) (fun c=>[cB b E,cB c E])):=by
 have hH:=hs.sh;obtain⟨c0,c1,c2,c3,c4,c5,c6,c7,c8,c9,ca,cb,cc,cd,ce,cf,hc⟩:=agC hG.cP.1;have cj:=hG.nQ;obtain⟨X,hH⟩:=SH.un hH;replace hH:=SH.ap hH;dsimp only[fo] at hH;rw[hc] at hH;simp only[cJ,tW] at hH;refine aj.enter func43 rfl ntmps43 rfl (gh ?_);refine GX.aM (hc:=fun _ hs=>Hq hs) (h:=fun w hE hH=>gh ?_);refine gh ?_;refine GX.cA (h:=fun t w hH=>gh ?_);refine GX.bt (h:=fun w hH=>gh ?_);refine GC.br (pl:=(bg [0,3,6,15,18,21,30,33,36,10,25,40,14,29,44,45,50,51,56,57,62])) (T:=dt [b]) (hm:=mixed) (h:=fun w hE hH=>gh ?_);refine GX.eG (hc:=fun _ hs=>alc (s:=E.s) hs) (h:=?_);rintro ps w _ hS hH;replace hH:=SH.ap hH;refine gh ?_;refine GX.kL (hc:=fun _ hs=>ajq (R:=E.r) hrK hs) (h:=?_);rintro pr w _ hS hH;replace hH:=SH.ap hH;refine gh ?_;refine GX.eG (hc:=fun _ hs=>alv hs) (h:=?_);rintro pw w _ hS hH;replace hH:=SH.ap hH;refine gh ?_;refine GX.fO (h:=fun w hH=>gh ?_);refine GX.fO (h:=fun w hH=>gh ?_);refine GX.fO (h:=fun w hH=>gh ?_);refine GC.br (pl:=(bg [0,3,6,15,18,21,30,33,36,10,25,40,14,29,44,45,50,51,56,57,62])) (T:=dt [b]) (hm:=mixed) (h:=fun w hE hH=>gh ?_);refine GX.kL (hc:=fun _ hs=>ajt (S:=E.a) ah hs) (h:=?_);rintro pa w _ hS hH;replace hH:=SH.ap hH;refine gh ?_;refine GX.eG (hc:=fun _ hs=>abn (E:=E.p) B0 hs) (h:=?_);rintro pp w _ hS hH;replace hH:=SH.ap hH;refine gh ?_;refine GX.eG (hc:=fun _ hs=>Lw (A:=E.g) hs) (h:=?_);rintro pg w _ hS hH;replace hH:=SH.ap hH;refine gh ?_;refine GX.fO (h:=fun w hH=>gh ?_);refine GX.fO (h:=fun w hH=>gh ?_);refine GX.fO (h:=fun w hH=>gh ?_);have hX:∀X:uh,fo X E=[iV E.cb,iV E.ce,iV E.ct,iV E.cn,iV E.cd,uV E.cg,uV E.cs,uV E.now,uV E.aR,ak X.s,ak X.r,ak X.w,ak X.a,ak X.p,ak X.g,uV c0,uV c1,uV c2,uV c3,uV c4,uV c5,uV c6,uV c7,uV c8,uV c9,uV ca,uV cb,uV cc,uV cd,uV ce,uV cf]:=fun X=>by
  unfold fo;rw[hc];rfl
 rw[←hX X,←hX ⟨ps,pr,pw,pa,pp,pg⟩] at hH;exact⟨t,rfl,trivial,(df (X:=X) (E:=E) (df (X:=⟨ps,pr,pw,pa,pp,pg⟩) (E:=E) hH)).to⟩
end
section
def jN (s:dQ):Prop:=s.N.length≤s.aD
theorem abS {N:eF}(h:cw N=[]):du N=N.length:=by
 unfold du;rw[oM.2];intro x hx;obtain⟨n,hn⟩:=ey hx
 by_cases h0:x.2=0
 ·have:=oz.2 ⟨x,hn,h0⟩;rw[h] at this;cases this
 ·simp;omega
theorem jN.add {s:dQ}(h:jN s)(x:Bs):jN (fp s x).2.2∧(fp s x).2.2.aD=s.aD:=by
 unfold fp;split
 ·exact⟨h,rfl⟩
 ·rename_i hn
  refine⟨?_,rfl⟩;show(cL s.N x).1.length≤s.aD;unfold jN at h;unfold cL;cases hi:jB s.N x with
  |some n=>simpa using h
  |none=>
   cases hf:cw s.N with
   |cons n F=>simpa using h
   |nil=>
    have h1:=abS hf;have h2:¬du s.N=s.aD:=fun e=>hn ⟨hi,e⟩
    show(s.N++[(x,1)]).length≤s.aD;rw[bH,gW];omega
theorem jN.PV:∀(l:List Bs) {s:dQ}(acc:List Nat),jN s→jN (iU l s acc).2.2∧(iU l s acc).2.2.aD=s.aD
 | [],_,_,h=>⟨h,rfl⟩
 |x::l,s,acc,h=>by
  obtain⟨h1,h2⟩:=h.add x;unfold iU;split
  ·obtain⟨k1,k2⟩:=jN.PV l (acc++[(fp s x).1.toNat]) h1;exact⟨k1,k2.trans h2⟩
  ·exact⟨h1,h2⟩
theorem jN.rel {s:dQ}(h:jN s)(z:Int):jN (ov s z).2.2∧(ov s z).2.2.aD=s.aD:=by
 unfold ov;split
 ·exact⟨h,rfl⟩
 ·split
  ·exact⟨by unfold jN at h ⊢;simpa using h,rfl⟩
  ·exact⟨by unfold jN at h ⊢;simpa using h,rfl⟩
theorem jN.W0 (l:List Nat){s:dQ}(h:jN s):jN (gj s l).2∧(gj s l).2.aD=s.aD:=by
 suffices hh:∀(l:List Nat) (y:List Nat×dQ),jN y.2→jN (l.foldl px y).2∧(l.foldl px y).2.aD=y.2.aD from hh l ([],s) h
 intro l
 induction l with
 |nil=>intro y hy;exact⟨hy,rfl⟩
 |cons n l ih=>
  intro y hy;obtain⟨h1,h2⟩:=hy.rel (n:Int);obtain⟨k1,k2⟩:=ih (px y n) h1;exact⟨k1,k2.trans h2⟩
def gH (R:gY):Prop:=R.N.length≤R.aD
theorem gH.drop {R:gY}(h:gH R)(id:Nat):gH (iW R id).2.2∧(iW R id).2.2.aD=R.aD:=by
 unfold iW;split
 ·exact⟨h,rfl⟩
 ·rename_i e he
  obtain⟨h1,h2⟩:=jN.W0 e.2 (s:=⟨R.aD,R.N⟩) h;refine⟨?_,rfl⟩;show(gj ⟨R.aD,R.N⟩ e.2).2.N.length≤R.aD;unfold jN at h1;rw[h2] at h1;exact h1
theorem gH.add {R:gY}(h:gH R)(id:Nat)(t:List Bs):gH (ji R id t).2.2∧(ji R id t).2.2.aD=R.aD:=by
 obtain⟨h1,h2⟩:=jN.PV t (s:=⟨R.aD,R.N⟩) [] h;unfold ji;split
 ·refine⟨?_,rfl⟩;show(iU t ⟨R.aD,R.N⟩ []).2.2.N.length≤R.aD;unfold jN at h1;rw[h2] at h1;exact h1
 ·obtain⟨k1,k2⟩:=h1.W0 (iU t ⟨R.aD,R.N⟩ []).1;refine⟨?_,rfl⟩;show(gj (iU t ⟨R.aD,R.N⟩ []).2.2 (iU t ⟨R.aD,R.N⟩ []).1).2.N.length≤R.aD;unfold jN at k1;rw[k2,h2] at k1;exact k1
theorem ahH {E:ao}(h:gH E.r)(k:Bs):gH (E.eJ k).r∧(E.eJ k).r.aD=E.r.aD:=by
 unfold ao.eJ;split
 ·exact h.drop _
 ·exact⟨h,rfl⟩
theorem OG {E:ao}(h:gH E.r)(l:List Bs):gH (E.out l).r∧(E.out l).r.aD=E.r.aD:=by
 unfold ao.out
 induction l generalizing E with
 |nil=>exact⟨h,rfl⟩
 |cons k l ih=>
  obtain⟨h1,h2⟩:=ahH h k;obtain⟨k1,k2⟩:=ih h1;exact⟨k1,k2.trans h2⟩
theorem N0 {E:ao}(h:gH E.r)(l:List bM):gH (E.ft l).r∧(E.ft l).r.aD=E.r.aD:=by
 unfold ao.ft
 induction l generalizing E with
 |nil=>exact⟨h,rfl⟩
 |cons k l ih=>
  obtain⟨h1,h2⟩:=gH.drop h k.n;obtain⟨k1,k2⟩:=ih (E:=E.qe k.n) h1;exact⟨k1,k2.trans h2⟩
structure de (E:ao)(n:Nat):Prop where
 ok:cm E
 len:gH E.r
 aD:E.r.aD≤65536
 l9:E.r.K+E.s.E.length≤2*E.aR
 aR:E.aR≤n
 al:E.a.last≤n
 sK:E.s.K≤n*4194304
 gK:E.g.K≤4*n
 pK:E.p.T.K≤n
theorem de.up {E:ao}{n m:Nat}(h:de E n)(hm:n≤m):de E m:=
 ⟨h.ok,h.len,h.aD,h.l9,dF h.aR hm,dF h.al hm,dF h.sK (y4 _ hm),dF h.gK (Nat.mul_le_mul_left _ hm),dF h.pK hm⟩
theorem de.new (c:rF)(hc:A4 c):de (jT c) 0:=
 ⟨ag9 c,bh _,by have:=hc.t;show c.t.toNat≤_;omega,aY _,aY _,aY _,bh _,bh _,bh _⟩
theorem cm.raise {E:ao}(h:cm E)(p n:Nat)(hp:p<16):cm (E.raise p n):=by
 obtain⟨h1,h2⟩:=h.cP;refine⟨h.pz,h.rr,h.sG,h.nQ,⟨by show(E.cP.set p _).length=16;rw[fQ];exact h1,fun x hx=>?_⟩,h.now,h.aR⟩
 rcases mn (show x∈E.cP.set p _ from hx) with hx|rfl
 ·exact h2 x hx
 ·have jy:p<E.cP.length:=by omega
  have:=h2 (E.cP.getD p 0) (by rw[dP,bO jy];exact pI jy);have e:eu=18446744073709551616:=rfl;rw[e] at this ⊢;unfold AN;omega
theorem de.raise {E:ao}{n:Nat}(h:de E n)(p m:Nat)(hp:p<16):de (E.raise p m) n:=
 ⟨h.ok.raise p m hp,h.len,h.aD,h.l9,h.aR,h.al,h.sK,h.gK,h.pK⟩
theorem cm.write {E:ao}(h:cm E)(hl:gH E.r)(hm:E.r.aD≤65536)(hv:E.aR<8000)(c:dd):cm (E.write c):=by
 have hp:cm (E.pre c):=by
  have h1:=(h.tick.out (cO E.g.E c.k)).1;have f1:=AA E.tick (cO E.g.E c.k);have h2:=(h1.out [c.k]).1;have f2:=AA (E.tick.out (cO E.g.E c.k)) [c.k];have e1:((E.tick.out (cO E.g.E c.k)).out [c.k]).aR=E.aR:=f2.1.trans f1.1;have h3:=h2.rr;rw[e1] at h3;exact⟨h2.pz,ua h3,h2.sG,h2.nQ,h2.cP,h2.now,by show E.aR+1<_;omega⟩
 have S7:gH (E.pre c).r∧(E.pre c).r.aD=E.r.aD:=by
  obtain⟨a1,a2⟩:=OG (E:=E.tick) hl (cO E.g.E c.k);obtain⟨b1,b2⟩:=OG a1 [c.k];exact⟨b1,b2.trans a2⟩
 generalize aP:(E.pre c).vb c=ne;have h5:=(hp.drop ((E.pre c).s.put ne).1).ft ((E.pre c).s.put ne).2;have l5:=N0 (E:={ E.pre c with s:=((E.pre c).s.put ne).1}) S7.1 ((E.pre c).s.put ne).2;unfold ao.write;rw[aP];have he:(E.pre c).put ne=ao.ft { E.pre c with s:=((E.pre c).s.put ne).1} ((E.pre c).s.put ne).2:=rfl;rw[←he] at h5 l5;generalize (E.pre c).put ne=E6 at h5 l5 ⊢;obtain⟨g1,_,_,g4,_,_,_,g8⟩:=h5;have rY:E6.r.aD=E.r.aD:=l5.2.trans S7.2;obtain⟨q1,q2⟩:=l5.1.add E6.aR (bY c.t).1;refine⟨g1.pz.add E6.aR (alB (Pp c.t)) (AU c.t) ?_,?_,g1.sG,g1.nQ,g1.cP,g1.now,g1.aR⟩
 ·unfold gH at q1;rw[q2,rY] at q1;omega
 ·show(ji E6.r E6.aR (bY c.t).1).2.2.last≤E6.aR;have:=g1.rr;unfold ji;split
  ·exact aY _
  ·exact this
end
end Go.Proofs.YtoloaehmppcjoaaGreat.V.M
