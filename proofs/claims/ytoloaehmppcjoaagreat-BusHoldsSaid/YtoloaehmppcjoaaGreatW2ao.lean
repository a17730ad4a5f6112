/-
  Parts of the proof. No condition.
-/
import Derived.Test.YtoloaehmppcjoaaGreatW2an
set_option linter.unusedVariables false
set_option linter.unusedSimpArgs false
set_option maxRecDepth 8000
set_option maxHeartbeats 8000000
open Go.Proofs.Tryz
namespace Go.Proofs.YtoloaehmppcjoaaGreat.V.M
section
def dst (C a z:Nat):Nat:=if a≤z then z - a else z+C - a
theorem jY (C a z:Nat):(a≤z∧dst C a z=z - a)∨(z<a∧dst C a z=z+C - a):=by
 unfold dst;split
 ·exact .inl ⟨by assumption,rfl⟩
 ·exact .inr ⟨by omega,rfl⟩
theorem V8 {C a:Nat}(h:a<2*C):a % C=if a<C then a else a - C:=by
 split
 ·exact rB (by assumption)
 ·rw[Nat.mod_eq_sub_mod ah];exact rB ah
theorem V7 {C a z:Nat}(hz:z<C):(a+dst C (a % C) z) % C=z:=by
 have hl:a % C<C:=e7 _ ah;rw[←Nat.mod_add_mod,V8 (by rcases jY C (a % C) z with h|h<;>omega)]
 rcases jY C (a % C) z with h|h<;>split<;>omega
theorem Dy {C a d:Nat}(hd:d<C):dst C (a % C) ((a+d) % C)=d:=by
 have hl:a % C<C:=e7 _ ah;have e:(a+d) % C=if a % C+d<C then a % C+d else a % C+d - C:=by
  rw[←Nat.mod_add_mod a C d];generalize a % C=r at hl;exact V8 ah
 rw[e];generalize a % C=r at hl;split
 ·rcases jY C r (r+d) with h|h<;>omega
 ·rcases jY C r (r+d - C) with h|h<;>omega
theorem Hl {C a z:Nat}(ha:a<C)(hz:z<C):dst C a z<C:=by rcases jY C a z with h|h<;>omega
theorem vK {C a y z:Nat}(ha:a<C)(hy:y<C)(hz:z<C)(h:dst C a y=dst C a z):y=z:=by
 rcases jY C a y with h1|h1<;>rcases jY C a z with h2|h2<;>omega
theorem abC {T:Cs}{p:Nat}{x:Bs×Nat}(h:T[p]?=some (some x)):filled (T.set p none)+1=filled T:=by
 induction T generalizing p with
 |nil=>simp at h
 |cons c T ih=>
  cases p with
  |zero=>simp at h;subst h;simp[filled]
  |succ p=>
   have:=ih (p:=p) (by simpa using h);simp only[filled] at this ⊢;rw[AX,List.countP_cons,List.countP_cons,←this];omega
theorem abD {T:Cs}{p:Nat}{x y:Bs×Nat}(h:T[p]?=some (some x)):filled (T.set p (some y))=filled T:=by
 induction T generalizing p with
 |nil=>simp at h
 |cons c T ih=>
  cases p with
  |zero=>simp at h;subst h;simp[filled]
  |succ p=>
   have:=ih (p:=p) (by simpa using h);simp only[filled] at this ⊢;rw[AX,List.countP_cons,List.countP_cons,this]
theorem VY {T:Cs}{x:Bs×Nat}:x∈gP T↔∃i:Nat,T[i]?=some (some x):=by
 simp only[gP,List.mem_filterMap,id];constructor
 ·rintro⟨a,ha,rfl⟩;exact List.mem_iff_getElem?.1 ha
 ·rintro⟨i,h⟩;exact⟨some x,bD h,rfl⟩
theorem NI:∀{T:Cs},((gP T).map (·.1)).Nodup→∀{i j:Nat}{x y:Bs×Nat},T[i]?=some (some x)→T[j]?=some (some y)→x.1=y.1→i=j
 | [],_,_,_,_,_,h,_,_=>by simp at h
 |c::T,hn,i,j,x,y,hx,hy,e=>by
  have hT:((gP T).map (·.1)).Nodup:=by
   cases c with
   |none=>simpa[gP] using hn
   |some z=>simp[gP] at hn;simpa[gP] using hn.2
  cases i with
  |zero=>
   cases j with
   |zero=>rfl
   |succ j=>
    simp at hx;subst hx;exfalso;have h1:y.1∈(gP T).map (·.1):=bG.2 ⟨y,VY.2 ⟨j,by simpa using hy⟩,rfl⟩;have h2:(x.1::(gP T).map (·.1)).Nodup:=by simpa[gP] using hn
    exact(eQ.1 h2).1 (e▸h1)
  |succ i=>
   cases j with
   |zero=>
    simp at hy;subst hy;exfalso;have h1:x.1∈(gP T).map (·.1):=bG.2 ⟨x,VY.2 ⟨i,by simpa using hx⟩,rfl⟩;have h2:(y.1::(gP T).map (·.1)).Nodup:=by simpa[gP] using hn
    exact(eQ.1 h2).1 (e▸h1)
   |succ j=>exact congrArg (· + 1) (NI hT (show T[i]?=some (some x) by simpa using hx) (show T[j]?=some (some y) by simpa using hy) e)
structure Dl (home:Bs→Nat)(T:Cs)(M:List (Bs×Nat))(h P lo:Nat):Prop where
 aN:h<T.length
 JP:P<T.length
 pre:dst T.length h P<lo
 Oz:∃g,T[P]?=some (some g)
 free:∃Z,Z<T.length∧T[Z]?=some none∧lo≤dst T.length h Z
 mem:∀A x,A≠P→T[A]?=some (some x)→x∈M
 uniq:∀A B x y,A≠P→B≠P→T[A]?=some (some x)→T[B]?=some (some y)→x.1=y.1→A=B
 place:∀x∈M,∃Z,Z<T.length∧Z≠P∧T[Z]?=some (some x)∧∀A,A<T.length→dst T.length (home x.1 % T.length) A<dst T.length (home x.1 % T.length) Z→(A=P∧lo≤dst T.length h Z)∨(A≠P∧∃y,T[A]?=some (some y)∧y.1≠x.1)
 nodup:(M.map (·.1)).Nodup
 count:filled T=M.length+1
theorem fb.dl {home:Bs→Nat}{T:Cs}{M:List (Bs×Nat)}{k:Bs}{n h:Nat}(hO:fb home T ((k,n)::M))(hh:T[h]?=some (some (k,n))):Dl home T M h h 1:=by
 have hl:=(aV.1 hh).1;have bT:=hO.nodup;rw[cJ,eQ] at bT;have hu:((gP T).map (·.1)).Nodup:=(hO.NK.map _).nodup_iff.1 hO.nodup;have d0:dst T.length h h=0:=by rcases jY T.length h h with h1|h1<;>omega
 have hk:∀A x,A≠h→T[A]?=some (some x)→x.1≠k:=fun A x hA hx e=>hA (NI hu hx hh e)
 refine⟨hl,hl,by omega,⟨_,hh⟩,?_,fun A x hA hx=>?_,fun A B x y _ _ hx hy e=>NI hu hx hy e,fun x hx=>?_,bT.2,by rw[hO.count];rfl⟩
 ·obtain⟨Z,h1,h2⟩:=hO.free;refine⟨Z,h1,h2,?_⟩;have:Z≠h:=fun e=>by subst e;rw[hh] at h2;cases h2
  rcases jY T.length h Z with h3|h3<;>omega
 ·rcases bU.1 (hO.mem A x hx) with e|e
  ·exact absurd (by rw[e]) (hk A x hA hx)
  ·exact e
 ·obtain⟨d,h1,h2⟩:=hO.place x (fP _ hx);have eS:x.1≠k:=fun e=>bT.1 (e▸bG.2 ⟨x,hx,rfl⟩)
  have hZ:(home x.1+d) % T.length<T.length:=e7 _ ah;have hdC:d<T.length:=by
   rcases qz d T.length with h3|h3
   ·exact h3
   ·obtain⟨y,q1,q2⟩:=h2 (d - T.length) ah;rw[show home x.1+d=home x.1+(d - T.length)+T.length by omega,Nat.add_mod_right] at h1;rw[h1] at q1;cases q1;exact absurd rfl q2
  refine⟨_,hZ,fun e=>?_,h1,fun A hA hd=>?_⟩
  ·rw[e,hh] at h1;cases h1;exact eS rfl
  ·rw[Dy hdC] at hd;obtain⟨y,q1,q2⟩:=h2 _ hd;rw[V7 hA] at q1
   by_cases Rz:A=h
   ·refine .inl ⟨Rz,?_⟩;have:(home x.1+d) % T.length≠h:=fun e=>by rw[e,hh] at h1;cases h1;exact eS rfl
    rcases jY T.length h ((home x.1+d) % T.length) with h3|h3<;>omega
   ·exact .inr ⟨Rz,y,q1,q2⟩
theorem Dl.skip {home:Bs→Nat}{T:Cs}{M:List (Bs×Nat)}{h P lo I:Nat}{x:Bs×Nat}(hD:Dl home T M h P lo)(hI:I<T.length)(LK:dst T.length h I=lo)(hx:T[I]?=some (some x))(hP:dst T.length (home x.1 % T.length) I<dst T.length (home x.1 % T.length) P):Dl home T M h P (lo+1):=by
 have cK:=hD.pre;have pY:I≠P:=fun e=>by subst e;omega
 refine⟨hD.aN,hD.JP,by omega,hD.Oz,?_,hD.mem,hD.uniq,fun y hy=>?_,hD.nodup,hD.count⟩
 ·obtain⟨Z,h1,h2,h3⟩:=hD.free;refine⟨Z,h1,h2,?_⟩;have:Z≠I:=fun e=>by subst e;rw[hx] at h2;cases h2
  have:dst T.length h Z≠dst T.length h I:=fun e=>this (vK hD.aN h1 hI e)
  omega
 ·obtain⟨Z,z1,z2,z3,z4⟩:=hD.place y hy;refine⟨Z,z1,z2,z3,fun A hA hd=>?_⟩
  rcases z4 A hA hd with⟨rfl,h5⟩|h5
  ·refine .inl ⟨rfl,?_⟩
   by_cases HY:Z=I
   ·subst HY;rw[hx] at z3;cases z3;omega
   ·have:dst T.length h Z≠dst T.length h I:=fun e=>HY (vK hD.aN z1 hI e)
    omega
  ·exact .inr h5
theorem Dl.move {home:Bs→Nat}{T:Cs}{M:List (Bs×Nat)}{h P lo I:Nat}{x:Bs×Nat}(hD:Dl home T M h P lo)(hI:I<T.length)(LK:dst T.length h I=lo)(hx:T[I]?=some (some x))(hP:dst T.length (home x.1 % T.length) P<dst T.length (home x.1 % T.length) I):Dl home (T.set P (some x)) M h I (lo+1):=by
 have cK:=hD.pre;have IU:=hD.JP;have Et:=hD.aN;have pY:I≠P:=fun e=>by subst e;omega
 have I':x∈M:=hD.mem I x pY hx;have aP:∀{A},A≠P→(T.set P (some x))[A]?=T[A]?:=fun hA=>dv (fun e=>hA e.symm)
 have heq:(T.set P (some x))[P]?=some (some x):=dE IU;obtain⟨g,hg⟩:=hD.Oz;obtain⟨F,f1,f2,f3⟩:=hD.free;have hFI:F≠I:=fun e=>by subst e;rw[hx] at f2;cases f2
 have RG:F≠P:=fun e=>by subst e;rw[hg] at f2;cases f2
 have RF:lo<dst T.length h F:=by
  have:dst T.length h F≠dst T.length h I:=fun e=>hFI (vK Et f1 hI e)
  omega
 obtain⟨X,x1,x2,x3,x4⟩:=hD.place x I';have hXI:X=I:=hD.uniq X I x x x2 pY x3 hx rfl;subst hXI;refine⟨by simpa using Et,by simpa using hI,by simp[LK],⟨x,by rw[aP pY];exact hx⟩,⟨F,by simpa using f1,by rw[aP RG];exact f2,by simp;omega⟩,fun A y hA hy=>?_,fun A B y z hA hB hy hz e=>?_,fun y hy=>?_,hD.nodup,by rw[abD hg,hD.count]⟩
 ·by_cases pW:A=P
  ·subst pW;rw[heq] at hy;cases hy;exact I'
  ·rw[aP pW] at hy;exact hD.mem A y pW hy
 ·by_cases pW:A=P
  ·subst pW;rw[heq] at hy;cases hy
   by_cases zB:B=A
   ·exact zB.symm
   ·rw[aP zB] at hz;exact absurd (hD.uniq B X z x zB pY hz hx e.symm) hB
  ·rw[aP pW] at hy
   by_cases zB:B=P
   ·subst zB;rw[heq] at hz;cases hz;exact absurd (hD.uniq A X y x pW pY hy hx e) hA
   ·rw[aP zB] at hz;exact hD.uniq A B y z pW zB hy hz e
 ·simp only[fQ]
  by_cases NC:y.1=x.1
  ·have aep:y=x:=by
    obtain⟨Y,y1,y2,y3,_⟩:=hD.place y hy;have:=hD.uniq Y X y x y2 pY y3 hx NC;subst this;rw[hx] at y3;cases y3;rfl
   subst aep;refine⟨P,IU,fun e=>pY e.symm,heq,fun A hA hd => .inr ?_⟩;have DM:A≠X:=fun e=>by subst e;omega
   rcases x4 A hA ah with⟨rfl,_⟩|⟨q1,q2⟩
   ·omega
   ·exact⟨DM,by rw[aP q1];exact q2⟩
  ·obtain⟨Z,z1,z2,z3,z4⟩:=hD.place y hy;have Sa:Z≠X:=fun e=>by subst e;rw[hx] at z3;cases z3;exact NC rfl
   refine⟨Z,z1,Sa,by rw[aP z2];exact z3,fun A hA hd=>?_⟩
   by_cases DM:A=X
   ·refine .inl ⟨DM,?_⟩;subst DM;have hZl:dst T.length h Z≠lo:=fun e=>Sa (vK Et z1 hI ah)
    rcases qz lo (dst T.length h Z) with h5|h5
    ·exact h5
    ·exfalso;have hH:home y.1 % T.length<T.length:=e7 _ ah;have hw:dst T.length (home y.1 % T.length) F<dst T.length (home y.1 % T.length) Z:=by
      rcases jY T.length h A with a1|a1<;>rcases jY T.length h F with a2|a2<;>rcases jY T.length h Z with a3|a3 <;>
       rcases jY T.length (home y.1 % T.length) A with a4|a4<;>rcases jY T.length (home y.1 % T.length) F with a5|a5<;>rcases jY T.length (home y.1 % T.length) Z with a6|a6<;>omega
     rcases z4 F f1 hw with⟨e,_⟩|⟨_,u,hu,_⟩
     ·exact RG e
     ·rw[f2] at hu;cases hu
   ·by_cases pW:A=P
    ·subst pW;exact .inr ⟨fun e=>pY e.symm,x,heq,fun e=>NC e.symm⟩
    ·rcases z4 A hA hd with⟨e,_⟩|⟨_,u,hu⟩
     ·exact absurd e pW
     ·exact .inr ⟨DM,u,by rw[aP pW];exact hu⟩
theorem Dl.done {home:Bs→Nat}{T:Cs}{M:List (Bs×Nat)}{h P lo I:Nat}(hD:Dl home T M h P lo)(hI:I<T.length)(LK:dst T.length h I=lo)(hf:T[I]?=some none):fb home (T.set P none) M:=by
 have cK:=hD.pre;have IU:=hD.JP;have Et:=hD.aN;obtain⟨g,hg⟩:=hD.Oz;have aP:∀{A},A≠P→(T.set P none)[A]?=T[A]?:=fun hA=>dv (fun e=>hA e.symm)
 have amt:=abC hg;have hc:=hD.count;refine⟨fun A x hx=>?_,fun x hx=>?_,hD.nodup,by omega,?_⟩
 ·by_cases hA:A=P
  ·subst hA;rw[dE IU] at hx;cases hx
  ·rw[aP hA] at hx;exact hD.mem A x hA hx
 ·obtain⟨Z,z1,z2,z3,z4⟩:=hD.place x hx;have hH:home x.1 % T.length<T.length:=e7 _ ah;rw[fQ];have HY:Z≠I:=fun e=>by subst e;rw[hf] at z3;cases z3
  have hZl:dst T.length h Z≠lo:=fun e=>HY (vK Et z1 hI ah)
  refine⟨dst T.length (home x.1 % T.length) Z,by rw[V7 z1,aP z2];exact z3,fun e he=>?_⟩;have hZd:=Hl hH z1;have hA:(home x.1+e) % T.length<T.length:=e7 _ ah
  rcases z4 _ hA (by rw[Dy ah];exact he) with⟨h1,h2⟩|⟨h1,y,h2⟩
  ·exfalso;have zK:dst T.length (home x.1 % T.length) P<dst T.length (home x.1 % T.length) Z:=by rw[←h1,Dy ah];exact he
   have hw:dst T.length (home x.1 % T.length) I<dst T.length (home x.1 % T.length) Z:=by
    rcases jY T.length h I with a1|a1<;>rcases jY T.length h P with a2|a2<;>rcases jY T.length h Z with a3|a3 <;>
     rcases jY T.length (home x.1 % T.length) I with a4|a4<;>rcases jY T.length (home x.1 % T.length) P with a5|a5<;>rcases jY T.length (home x.1 % T.length) Z with a6|a6<;>omega
   rcases z4 I hI hw with⟨e1,_⟩|⟨_,u,hu,_⟩
   ·subst e1;omega
   ·rw[hf] at hu;cases hu
  ·exact⟨y,by rw[aP h1];exact h2.1,h2.2⟩
 ·have h3:filled T≤T.length:=List.countP_le_length;rw[fQ];omega
end
section
attribute [local irreducible] GO GX aB fz aF aS aq star
theorem aif {j:Nat}(h:8<2^j):4≤j:=by
 rcases qz 3 j with h1|h1
 ·exact h1
 ·have:2^j≤2^3:=Nat.pow_le_pow_right (by decide) h1;omega
theorem ail {n:Int}{s:Nat}(e:n=2*(s:Int))(h:s≤16777216):IntKind.i64.wrap (n.tdiv 2)=(s:Int):=by
 rw[e,Int.mul_tdiv_cancel_left _ (by decide)];exact lf ⟨by omega,by omega⟩
theorem alH {o:Og}{w:World}{a:Nat}{t:Tb}{M:List (Bs×Nat)}{k:Bs}{n:Nat}(hT:jo t ((k,n)::M))(hs:Start o w [gV a t]) :
  aj prog 199 [ak a,str k].toArray w (aX o (fun _:Tb => .tuple #[iV n,iV 0]) (fun t'=>jo t' M) (fun t'=>[gV a t'])):=by
 have hH:=hs.sh;have hS:=hT.s;have hp:=hS.pos;have hn:=hT.n;have nk:=hT.key _ (oK ..);have bT:=hT.eM.nodup;rw[cJ,eQ] at bT;have yc:=hT.room;simp only[ek] at hn yc;obtain⟨j,BK,hj,he⟩:=hT.size;refine aj.enter func199 rfl ntmps199 rfl (gh ?_);refine GX.ef (hc:=fun _ hs=>Yb hS hT.eM hT.ne k 0 hs) (h:=?_);rintro⟨h,er⟩ w hF hE hH;replace hH:=SH.ap hH
 rcases hF with⟨h1,_⟩|⟨_,h1,_⟩|⟨_,rfl,d,hi,_,⟨h1,_⟩|⟨_,n',hm,hc⟩⟩
 ·rw[nk] at h1;cases h1
 ·exact absurd (by simp) h1
 ·cases h1
 simp only at hc hi;obtain rfl:n'=n:=by
  rcases bU.1 hm with e|e
  ·cases e;rfl
  ·exact absurd (bG.2 ⟨_,e,rfl⟩) bT.1
 have hh:=(aV.1 hc).1;have hHk:∀e,dst t.T.length h ((h+e) % t.T.length)=e∨t.T.length≤e:=fun e=>by
  rcases qz e t.T.length with h1|h1
  ·have:=Dy (a:=h) h1;rw[rB hh] at this;exact .inl this
  ·exact .inr h1
 have ia:=hH;obtain⟨⟨q,c⟩,hH⟩:=SH.un hH;replace hH:=SH.ap hH;dsimp only at hH;obtain⟨b,rfl⟩:=hH.pos (cs:=fK t.T);refine gh ?_;refine GX.next rfl (GO.cT (hv:=Qx hc) (h:=gh ?_));replace hH:=sL (t:=t) hH;clear ia;refine GX.aM (hc:=fun _ hs=>Gg hS h ah hs) (h:=fun w hE hH=>gh ?_);have hD0:=hT.eM.dl hc;have I2:∀T:Cs,T.length=t.T.length→oR { t with T:=T}:=fun T e=>⟨hS.aJ,by rw[e];exact hS.size⟩
 refine GC.bR [0,8] (fun x:Cs×Nat×Nat=>[(6,iV x.2.1),(9,iV ((h+x.2.2) % t.T.length:Nat))]) (fun x w'=>x.1.length=t.T.length∧Dl (fun k=>bK t.aJ k) x.1 M h x.2.1 x.2.2∧SH o w' [gV a { t with T:=x.1}]) (fun x=>t.T.length - x.2.2) (t.T,h,1) rfl rfl ⟨rfl,hD0,hH⟩ ?_;rintro⟨T,p,lo⟩ w ⟨o5,hD,hH⟩;simp only at o5 hD hH;dsimp only;have BP:lo<t.T.length:=by
  obtain⟨Z,z1,_,z3⟩:=hD.free;have:=Hl hD.aN z1;omega
 have jy:=hD.JP;have hq:(h+lo) % t.T.length<t.T.length:=e7 _ ah;have DT:dst T.length h ((h+lo) % t.T.length)=lo:=by
  rw[o5];exact(hHk lo).resolve_right ah
 have pY:(h+lo) % t.T.length≠p:=fun e=>by
  have:=hD.pre;rw[e] at DT;omega
 generalize hI:(h+lo) % t.T.length=I at hq DT pY;have wv:(I+1) % t.T.length=(h+(lo+1)) % t.T.length:=by rw[←hI,Nat.mod_add_mod,Nat.add_assoc]
 obtain⟨cl,gO⟩:∃cl,T[I]?=some cl:=⟨_,bO ah⟩
 have hHf:=hH;obtain⟨⟨q,c⟩,hH⟩:=SH.un hH;replace hH:=SH.ap hH;dsimp only at hH;obtain⟨b,rfl⟩:=hH.pos (cs:=fK T);refine gh ?_;cases cl with
 |none=>
  refine GX.next rfl (GO.kg (hv:=tf gO) (h:=gh ?_));have hO:=hD.done ah DT gO;refine GX.vm (hb:=by rw[Dq];simp;omega) (hc:=show _=fK (T.set p none) from(by rw[show 0+((p:Nat):Int).toNat*2=p*2 by simp];exact G7 none jy)) (h:=fun w hH=>gh ?_);refine GX.dC (h:=fun w hH=>gh ?_);rw[show(t.n:Int) - 1=((M.length:Nat):Int) by omega] at hH;have qU:∀x∈M,bf x.1=true:=fun x hx=>hT.key x (fP _ hx)
  have D8:jo ⟨t.aJ,T.set p none,M.length⟩ M:=⟨hS.aJ,⟨j,BK,hj,by simp[o5,he]⟩,hO,qU,rfl,by simp only[fQ];omega⟩
  refine gh ?_;refine ifs (fun h1=>?_) (fun h1=>?_)<;>refine gh ?_
  ·refine ifs (fun h2=>?_) (fun h2=>?_)<;>refine gh ?_
   ·have ME:4≤j:=aif ah;have MH:2^j=2*2^(j - 1):=by rw[show j=j - 1+1 by omega,Nat.pow_succ];simp[Nat.mul_comm]
    have amX:2^(j - 1)≤2^20:=Nat.pow_le_pow_right (by decide) ah;have Ml:M.length<2^(j - 1):=by rw[o5,he,MH] at h2;omega
    refine GX.next rfl (GO.quo rfl rfl rfl rfl rfl ah (c:=((2^(j - 1):Nat):Int)) (ail (by rw[o5,he,MH];push_cast;rfl) ah) (gh ?_));replace hH:=sL (t:=⟨t.aJ,T.set p none,M.length⟩) (a:=a) (q:=some b) hH (e1:=by simp);refine GX.bZ (hc:=fun _ hs=>Yi (t:=⟨t.aJ,T.set p none,M.length⟩) hS.aJ (by simp only[fQ];omega) hO qU (j - 1) ah Ml hs) (h:=?_);rintro T' w ⟨j6,nX⟩ hH;replace hH:=SH.ap hH;refine gh ?_;exact⟨⟨t.aJ,T',M.length⟩,rfl,⟨hS.aJ,⟨j - 1,by omega,by omega,nX⟩,j6,qU,rfl,by simp only;rw[nX];rw[o5,he,MH] at h2;omega⟩,hH.to⟩
   ·refine gh ?_;exact⟨_,rfl,D8,(sL (t:=⟨t.aJ,T.set p none,M.length⟩) (a:=a) (q:=some b) hH (e1:=by simp)).to⟩
  ·refine gh ?_;exact⟨_,rfl,D8,(sL (t:=⟨t.aJ,T.set p none,M.length⟩) (a:=a) (q:=some b) hH (e1:=by simp)).to⟩
 |some x=>
  obtain⟨kx,nx⟩:=x;have I':=hD.mem I _ pY gO;have eS:=hT.key _ (fP _ I');refine GX.next rfl (GO.kg (hv:=tf gO) (h:=gh ?_));refine GC.Bl (show _=_ from congrArg (fun z=>some (Value.bool z)) (JG (JJ eS))) (gh ?_);refine GX.next rfl (GO.cT (hv:=K4 gO) (h:=gh ?_));replace hH:=hHf;refine GX.aM (hc:=fun _ hs=>Yd (I2 T o5) kx (FD eS) hs) (h:=fun w hE hH=>gh ?_);dsimp only;have tv:bK t.aJ kx % T.length<T.length:=e7 _ ah;have hdI:=Hl tv (show I<T.length by omega);have hdP:=Hl tv jy;refine GC.bR [0,6,8,9] (fun e:Nat=>[(10,iV ((bK t.aJ kx+e) % T.length:Nat))]) (fun e w'=>e≤dst T.length (bK t.aJ kx % T.length) I∧e≤dst T.length (bK t.aJ kx % T.length) p∧SH o w' [gV a { t with T:=T}]) (fun e=>T.length - e) 0 rfl rfl ⟨bh _,bh _,hH⟩ ?_;rintro e w ⟨Sy,En,hH⟩;have Eo:dst T.length (bK t.aJ kx % T.length) ((bK t.aJ kx+e) % T.length)=e:=Dy ah;generalize hA:(bK t.aJ kx+e) % T.length=A at Eo;have lV:A<T.length:=by rw[←hA];exact e7 _ ah
  refine gh ?_;refine ifs (fun h1=>?_) (fun h1=>?_)<;>refine gh ?_
  ·refine ifs (fun h2=>?_) (fun h2=>?_)<;>refine gh ?_
   ·obtain rfl:A=I:=by omega
    refine gh ?_;have adG:dst T.length (bK t.aJ kx % T.length) A≠dst T.length (bK t.aJ kx % T.length) p:=fun e'=>pY (vK tv ah jy e')
    have LC:=hD.skip ah DT gO (by simp only;omega);refine GX.aM (hc:=fun _ hs=>Gg (I2 T o5) A ah hs) (h:=fun w hE hH=>gh ?_);dsimp only;rw[o5,wv];exact GQ.bj (T,p,lo+1) rfl ⟨o5,LC,hH⟩ (by simp only;omega)
   ·have hAI:A≠I:=by omega
    have pW:A≠p:=by omega
    have mJ:e≠dst T.length (bK t.aJ kx % T.length) I:=fun e'=>hAI (vK tv lV ah ah)
    have oq:e≠dst T.length (bK t.aJ kx % T.length) p:=fun e'=>pW (vK tv lV jy ah)
    refine GX.aM (hc:=fun _ hs=>Gg (I2 T o5) A ah hs) (h:=fun w hE hH=>gh ?_);dsimp only;rw[←hA,Nat.mod_add_mod];exact GQ.bj (e+1) rfl ⟨by omega,by omega,hH⟩ ah
  ·obtain rfl:A=p:=by omega
   refine gh ?_;have adG:dst T.length (bK t.aJ kx % T.length) I≠dst T.length (bK t.aJ kx % T.length) A:=fun e'=>pY (vK tv ah jy e')
   have LC:=hD.move ah DT gO (by simp only;omega);obtain⟨⟨q,c⟩,hH⟩:=SH.un hH;replace hH:=SH.ap hH;dsimp only at hH;obtain⟨b,rfl⟩:=hH.pos (cs:=fK T);refine GC.br (pl:=(bg [0,3,6,12,15,18,21,27,10,25,30,34,36,41])) (T:=fun _=>False) (hm:=mixed) (h:=fun w hE hH=>gh ?_);refine GX.read rfl (GO.yB (hv:=tf gO) (h:=gh ?_));refine GX.gU (hb:=by rw[Dq];simp;omega) (hc:=show _=fK (T.set A (some (kx,nx))) from(by rw[show 0+((A:Nat):Int).toNat*2=A*2 by simp];exact G7 (some (kx,nx)) jy)) (h:=fun w hH=>gh ?_);replace hH:=sL (t:={ t with T:=T.set A (some (kx,nx))}) (a:=a) (q:=some b) hH (e1:=by simp);refine GX.aM (hc:=fun _ hs=>Gg (I2 (T.set A (some (kx,nx))) (by simp[o5])) I ah hs) (h:=fun w hE hH=>gh ?_);simp only[fQ];rw[o5,wv];exact GQ.bj (T.set A (some (kx,nx)),I,lo+1) rfl ⟨by simp[o5],LC,hH⟩ (by simp only;omega)
end
section
def aL {α:Type}(f:α→List Value)(L:List α):List Value:=(L.map f).flatten
section
variable {α:Type}{f:α→List Value}{z:Nat}{L:List α}{i:Nat}{x:α}
theorem gT (hz:∀x,(f x).length=z)(L:List α):(aL f L).length=L.length*z:=by
 induction L with
 |nil=>simp[aL]
 |cons x L ih=>
  rw[aL,cJ,oL,bH,hz,ek,Nat.succ_mul,Nat.add_comm];exact congrArg (· + z) ih
theorem J1 (hz:∀x,(f x).length=z)(h:L[i]?=some x):∃A B,aL f L=A++(f x++B)∧A.length=i*z∧∀y,aL f (L.set i y)=A++(f y++B):=by
 induction L generalizing i with
 |nil=>simp at h
 |cons w L ih=>
  cases i with
  |zero=>simp at h;subst h;exact⟨[],aL f L,by simp[aL],by simp,fun y=>by simp[aL]⟩
  |succ i=>
   obtain⟨A,B,h1,h2,h3⟩:=ih (i:=i) (by simpa using h);refine⟨f w++A,B,?_,by rw[bH,hz,h2,Nat.succ_mul,Nat.add_comm],fun y=>?_⟩
   ·show f w++aL f L=_;rw[h1,cS]
   ·show f w++aL f (L.set i y)=_;rw[h3,cS]
theorem ku (hz:∀x,(f x).length=z)(h:L[i]?=some x):((aL f L).drop (i*z)).take z=f x:=by
 obtain⟨A,B,h1,h2,_⟩:=J1 hz h;rw[h1,←h2,List.drop_left,←hz x,vx]
theorem mS (hz:∀x,(f x).length=z)(h:L[i]?=some x){j:Nat}{v:Value}(hj:(f x)[j]?=some v):(aL f L)[i*z+j]?=some v:=by
 obtain⟨A,B,h1,h2,_⟩:=J1 hz h;rw[h1,←h2,iD ah,C4,gp (aV.1 hj).1,hj]
theorem AM (hz:∀x,(f x).length=z)(hi:i<L.length)(y:α):(aL f L).take (i*z)++f y++(aL f L).drop (i*z+(f y).length)=aL f (L.set i y):=by
 obtain⟨A,B,h1,h2,h3⟩:=J1 hz (bO hi);rw[h3,h1,←h2,vx,cS];congr 2;rw[List.drop_append,mm ah,hz,C4,kC,List.drop_append,mm (by rw[hz];exact aY _),hz,Nat.sub_self,kC,List.drop_zero]
theorem CM (hz:∀x,(f x).length=z)(h:L[i]?=some x){j:Nat}(hj:j<z){v:Value}{y:α}(hy:(f x).set j v=f y):(aL f L).set (i*z+j) v=aL f (L.set i y):=by
 obtain⟨A,B,h1,h2,h3⟩:=J1 hz h;rw[h3,h1,←hy,←h2,List.set_append_right _ _ ah,C4,List.set_append_left _ _ (by rw[hz];exact hj)]
theorem lH (L:List α)(x:α):aL f (L++[x])=aL f L++f x:=by simp[aL]
theorem FO (h:∀x,∀u∈f x,u.oneCell'=true)(L:List α):∀u∈aL f L,u.oneCell'=true:=by
 intro u hu;obtain⟨l,hl,uS⟩:=List.mem_flatten.1 hu;obtain⟨x,_,rfl⟩:=bG.1 hl;exact h x u uS
theorem aiV (hz:∀x,(f x).length=z)(k:Nat):(aL f L).take (k*z)=aL f (L.take k):=by
 induction L generalizing k with
 |nil=>simp[aL]
 |cons x L ih=>
  cases k with
  |zero=>simp[aL]
  |succ k=>
   show(f x++aL f L).take _=f x++aL f (L.take k);rw[List.take_append,fw (by rw[hz,Nat.succ_mul];omega),hz,Nat.succ_mul,Nat.add_sub_cancel,ih]
end
abbrev Tm:=Nat×Nat
def xp (x:Tm):Nat:=x.2*1048576+x.1
def cY (L:List Tm)(i:Nat):Nat:=match L[i]? with|some x=>xp x|none=>0
theorem Uo {L:List Tm}{i:Nat}{x:Tm}(h:L[i]?=some x):cY L i=xp x:=by rw[cY,h]
def gk (L:List Tm)(i k:Nat):List Tm:=match L[i]?,L[k]? with|some x,some y=>(L.set i y).set k x|_,_=>L
theorem Ph {L:List Tm}{i k:Nat}{x y:Tm}(hx:L[i]?=some x)(hy:L[k]?=some y):gk L i k=(L.set i y).set k x:=by rw[gk,hx,hy]
theorem qu (L:List Tm)(i k:Nat):(gk L i k).length=L.length:=by
 unfold gk;split<;>simp
theorem yV {L:List Tm}{i k:Nat}(hi:i<L.length)(hk:k<L.length)(j:Nat):(gk L i k)[j]?=if j=k then L[i]? else if j=i then L[k]? else L[j]?:=by
 rw[Ph (bO hi) (bO hk),List.getElem?_set,List.getElem?_set];simp only[fQ,hi,hk,if_true]
 by_cases h1:k=j
 ·simp[h1,bO (h1▸hk),bO hi]
 ·by_cases h2:i=j
  ·simp[h1,h2,Ne.symm h1,bO hk]
  ·simp[h1,h2,Ne.symm h1,Ne.symm h2]
theorem Pj {L:List Tm}{i k:Nat}(hi:i<L.length)(hk:k<L.length)(j:Nat):cY (gk L i k) j=if j=k then cY L i else if j=i then cY L k else cY L j:=by
 unfold cY;rw[yV hi hk]
 by_cases h1:j=k
 ·rw[if_pos h1,if_pos h1]
 ·rw[if_neg h1,if_neg h1]
  by_cases h2:j=i
  ·rw[if_pos h2,if_pos h2]
  ·rw[if_neg h2,if_neg h2]
theorem CV {L:List Tm}{i k:Nat}(hi:i<L.length)(hk:k<L.length):(gk L i k).Perm L:=by
 rw[Ph (bO hi) (bO hk)];exact List.set_set_perm hi hk
def C9 (L:List Tm)(i:Nat):Prop:=
 (∀j,0<j→j<L.length→j≠i→(j - 1) / 2≠i→cY L ((j - 1) / 2)≤cY L j)∧(0<i→∀c,0<c→c<L.length→(c - 1) / 2=i→cY L ((i - 1) / 2)≤cY L c)
def ui (L:List Tm)(i:Nat):Prop:=
 (∀j,0<j→j<L.length→(j - 1) / 2≠i→cY L ((j - 1) / 2)≤cY L j)∧(0<i→∀c,0<c→c<L.length→(c - 1) / 2=i→cY L ((i - 1) / 2)≤cY L c)
def Hp (L:List Tm):Prop:=∀j,0<j→j<L.length→cY L ((j - 1) / 2)≤cY L j
def A9 (L:List Tm)(i0 p:Nat):Prop:=C9 L p∧(p=i0∨∀c,0<c→c<L.length→(c - 1) / 2=p→cY L p≤cY L c)
theorem A9.step {L:List Tm}{i0 p:Nat}(h:A9 L i0 p)(h0:0<p)(hp:p<L.length)(hl:cY L p<cY L ((p - 1) / 2)):A9 (gk L p ((p - 1) / 2)) i0 ((p - 1) / 2):=by
 obtain⟨⟨h1,h2⟩,_⟩:=h;generalize hk:(p - 1) / 2=k at hl;have hkp:k<p:=by omega
 have e:=Pj hp (show k<L.length by omega);have ni:=h2 h0;rw[hk] at ni;refine⟨⟨fun j j0 jl jk jp=>?_,fun k0 c c0 cl ck=>?_⟩, .inr fun c c0 cl ck=>?_⟩
 ·rw[qu] at jl;rw[e,e,if_neg jk,if_neg jp];have Uk:j≠p:=fun x=>jp (by rw[x,hk])
  rw[if_neg Uk];split
  ·exact ni j j0 jl (by assumption)
  ·exact h1 j j0 jl Uk (by assumption)
 ·rw[qu] at cl;have nk:=h1 k k0 ah ah ah;rw[e,e,if_neg ah,if_neg ah,if_neg ah];split
  ·exact nk
  ·refine dF nk ?_;have:=h1 c c0 cl (by assumption) ah;rwa [ck] at this
 ·rw[qu] at cl;rw[e,e,if_pos rfl,if_neg ah];split
  ·omega
  ·have:=h1 c c0 cl (by assumption) ah;rw[ck] at this;omega
theorem A9.stop {L:List Tm}{i0 p:Nat}(h:A9 L i0 p)(hs:0<p→cY L ((p - 1) / 2)≤cY L p):ui L i0:=by
 obtain⟨⟨h1,h2⟩,h3⟩:=h;have hD:ui L p:=⟨fun j j0 jl jp=>by
  rcases Nat.decEq j p with e|e
  ·exact h1 j j0 jl e jp
  ·subst e;exact hs j0,h2⟩
 rcases h3 with e|h3
 ·rw[←e];exact hD
 ·have hp:Hp L:=fun j j0 jl=>by
   rcases Nat.decEq ((j - 1) / 2) p with e|e
   ·exact hD.1 j j0 jl e
   ·rw[e];exact h3 j j0 jl e
  refine⟨fun j j0 jl _=>hp j j0 jl,fun i0' c c0 cl ci=>?_⟩;have e1:=hp c c0 cl;have e2:=hp i0 i0' ah;rw[ci] at e1;omega
theorem ui.step {L:List Tm}{i k:Nat}(h:ui L i)(k0:0<k)(hk:k<L.length)(hi:(k - 1) / 2=i)(hm:∀c,0<c→c<L.length→(c - 1) / 2=i→cY L k≤cY L c)(hl:cY L k<cY L i):ui (gk L k i) k:=by
 obtain⟨h1,h2⟩:=h;have e:=Pj hk (show i<L.length by omega);refine⟨fun j j0 jl jp=>?_,fun _ c c0 cl ck=>?_⟩
 ·rw[qu] at jl;rw[e,e]
  by_cases e1:(j - 1) / 2=i
  ·rw[if_pos e1,if_neg ah];split
   ·omega
   ·exact hm j j0 jl e1
  ·rw[if_neg e1,if_neg jp]
   by_cases e2:j=i
   ·rw[if_pos e2];subst e2;exact h2 j0 k k0 hk hi
   ·rw[if_neg e2,if_neg ah];exact h1 j j0 jl e1
 ·rw[qu] at cl;rw[hi,e,e,if_pos rfl,if_neg ah,if_neg ah];have:=h1 c c0 cl ah;rwa [ck] at this
theorem ui.stop {L:List Tm}{i:Nat}(h:ui L i)(hs:∀c,0<c→c<L.length→(c - 1) / 2=i→cY L i≤cY L c):Hp L:=fun j j0 jl=>by
 rcases Nat.decEq ((j - 1) / 2) i with e|e
 ·exact h.1 j j0 jl e
 ·rw[e];exact hs j j0 jl e
theorem Hp.first {L:List Tm}(h:Hp L):∀(n j:Nat),j≤n→j<L.length→cY L 0≤cY L j:=by
 intro n
 induction n with
 |zero=>intro j hj _;rw[show j=0 by omega];exact aY _
 |succ n ih=>
  intro j hj jl
  rcases Nat.eq_zero_or_pos j with e|e
  ·rw[e];exact aY _
  ·exact dF (ih ((j - 1) / 2) ah ah) (h j e jl)
end
end Go.Proofs.YtoloaehmppcjoaaGreat.V.M
