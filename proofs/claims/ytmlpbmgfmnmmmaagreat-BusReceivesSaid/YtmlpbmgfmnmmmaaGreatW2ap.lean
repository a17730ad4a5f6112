/-
  Parts of the proof. No condition.
-/
import Derived.Test.YtmlpbmgfmnmmmaaGreatW2ao
set_option linter.unusedVariables false
set_option linter.unusedSimpArgs false
set_option maxRecDepth 8000
set_option maxHeartbeats 8000000
open Go.Proofs.Tryz
namespace Go.Proofs.YtmlpbmgfmnmmmaaGreat.V.M
section
def dst (C a z:Nat):Nat:=if a≤z then z - a else z+C - a
theorem jI (C a z:Nat):(a≤z∧dst C a z=z - a)∨(z<a∧dst C a z=z+C - a):=by
 unfold dst;split
 ·exact .inl ⟨by assumption,rfl⟩
 ·exact .inr ⟨by omega,rfl⟩
theorem V6 {C a:Nat}(h:a<2*C):a % C=if a<C then a else a - C:=by
 split
 ·exact rf (by assumption)
 ·rw[Nat.mod_eq_sub_mod ah];exact rf ah
theorem V5 {C a z:Nat}(hz:z<C):(a+dst C (a % C) z) % C=z:=by
 have hl:a % C<C:=fm _ ah;rw[←Nat.mod_add_mod,V6 (by rcases jI C (a % C) z with h|h<;>omega)]
 rcases jI C (a % C) z with h|h<;>split<;>omega
theorem Dv {C a d:Nat}(hd:d<C):dst C (a % C) ((a+d) % C)=d:=by
 have hl:a % C<C:=fm _ ah;have e:(a+d) % C=if a % C+d<C then a % C+d else a % C+d - C:=by
  rw[←Nat.mod_add_mod a C d];generalize a % C=r at hl;exact V6 ah
 rw[e];generalize a % C=r at hl;split
 ·rcases jI C r (r+d) with h|h<;>omega
 ·rcases jI C r (r+d - C) with h|h<;>omega
theorem Hk {C a z:Nat}(ha:a<C)(hz:z<C):dst C a z<C:=by rcases jI C a z with h|h<;>omega
theorem vF {C a y z:Nat}(ha:a<C)(hy:y<C)(hz:z<C)(h:dst C a y=dst C a z):y=z:=by
 rcases jI C a y with h1|h1<;>rcases jI C a z with h2|h2<;>omega
theorem aby {T:Cs}{p:Nat}{x:Bs×Nat}(h:T[p]?=some (some x)):filled (T.set p none)+1=filled T:=by
 induction T generalizing p with
 |nil=>simp at h
 |cons c T ih=>
  cases p with
  |zero=>simp at h;subst h;simp[filled]
  |succ p=>
   have:=ih (p:=p) (by simpa using h);simp only[filled] at this ⊢;rw[AY,List.countP_cons,List.countP_cons,←this];omega
theorem abz {T:Cs}{p:Nat}{x y:Bs×Nat}(h:T[p]?=some (some x)):filled (T.set p (some y))=filled T:=by
 induction T generalizing p with
 |nil=>simp at h
 |cons c T ih=>
  cases p with
  |zero=>simp at h;subst h;simp[filled]
  |succ p=>
   have:=ih (p:=p) (by simpa using h);simp only[filled] at this ⊢;rw[AY,List.countP_cons,List.countP_cons,this]
theorem VU {T:Cs}{x:Bs×Nat}:x∈gD T↔∃i:Nat,T[i]?=some (some x):=by
 simp only[gD,List.mem_filterMap,id];constructor
 ·rintro⟨a,ha,rfl⟩;exact List.mem_iff_getElem?.1 ha
 ·rintro⟨i,h⟩;exact⟨some x,bF h,rfl⟩
theorem Nz:∀{T:Cs},((gD T).map (·.1)).Nodup→∀{i j:Nat}{x y:Bs×Nat},T[i]?=some (some x)→T[j]?=some (some y)→x.1=y.1→i=j
 | [],_,_,_,_,_,h,_,_=>by simp at h
 |c::T,hn,i,j,x,y,hx,hy,e=>by
  have hT:((gD T).map (·.1)).Nodup:=by
   cases c with
   |none=>simpa[gD] using hn
   |some z=>simp[gD] at hn;simpa[gD] using hn.2
  cases i with
  |zero=>
   cases j with
   |zero=>rfl
   |succ j=>
    simp at hx;subst hx;exfalso;have h1:y.1∈(gD T).map (·.1):=bK.2 ⟨y,VU.2 ⟨j,by simpa using hy⟩,rfl⟩;have h2:(x.1::(gD T).map (·.1)).Nodup:=by simpa[gD] using hn
    exact(eI.1 h2).1 (e▸h1)
  |succ i=>
   cases j with
   |zero=>
    simp at hy;subst hy;exfalso;have h1:x.1∈(gD T).map (·.1):=bK.2 ⟨x,VU.2 ⟨i,by simpa using hx⟩,rfl⟩;have h2:(y.1::(gD T).map (·.1)).Nodup:=by simpa[gD] using hn
    exact(eI.1 h2).1 (e▸h1)
   |succ j=>exact congrArg (· + 1) (Nz hT (show T[i]?=some (some x) by simpa using hx) (show T[j]?=some (some y) by simpa using hy) e)
structure Dl (home:Bs→Nat)(T:Cs)(M:List (Bs×Nat))(h P lo:Nat):Prop where
 aP:h<T.length
 JF:P<T.length
 pre:dst T.length h P<lo
 Oo:∃g,T[P]?=some (some g)
 free:∃Z,Z<T.length∧T[Z]?=some none∧lo≤dst T.length h Z
 mem:∀A x,A≠P→T[A]?=some (some x)→x∈M
 uniq:∀A B x y,A≠P→B≠P→T[A]?=some (some x)→T[B]?=some (some y)→x.1=y.1→A=B
 place:∀x∈M,∃Z,Z<T.length∧Z≠P∧T[Z]?=some (some x)∧∀A,A<T.length→dst T.length (home x.1 % T.length) A<dst T.length (home x.1 % T.length) Z→(A=P∧lo≤dst T.length h Z)∨(A≠P∧∃y,T[A]?=some (some y)∧y.1≠x.1)
 nodup:(M.map (·.1)).Nodup
 count:filled T=M.length+1
theorem eP.dl {home:Bs→Nat}{T:Cs}{M:List (Bs×Nat)}{k:Bs}{n h:Nat}(hO:eP home T ((k,n)::M))(hh:T[h]?=some (some (k,n))):Dl home T M h h 1:=by
 have hl:=(aV.1 hh).1;have bX:=hO.nodup;rw[cK,eI] at bX;have hu:((gD T).map (·.1)).Nodup:=(hO.NB.map _).nodup_iff.1 hO.nodup;have d0:dst T.length h h=0:=by rcases jI T.length h h with h1|h1<;>omega
 have hk:∀A x,A≠h→T[A]?=some (some x)→x.1≠k:=fun A x hA hx e=>hA (Nz hu hx hh e)
 refine⟨hl,hl,by omega,⟨_,hh⟩,?_,fun A x hA hx=>?_,fun A B x y _ _ hx hy e=>Nz hu hx hy e,fun x hx=>?_,bX.2,by rw[hO.count];rfl⟩
 ·obtain⟨Z,h1,h2⟩:=hO.free;refine⟨Z,h1,h2,?_⟩;have:Z≠h:=fun e=>by subst e;rw[hh] at h2;cases h2
  rcases jI T.length h Z with h3|h3<;>omega
 ·rcases bY.1 (hO.mem A x hx) with e|e
  ·exact absurd (by rw[e]) (hk A x hA hx)
  ·exact e
 ·obtain⟨d,h1,h2⟩:=hO.place x (fR _ hx);have fg:x.1≠k:=fun e=>bX.1 (e▸bK.2 ⟨x,hx,rfl⟩)
  have hZ:(home x.1+d) % T.length<T.length:=fm _ ah;have hdC:d<T.length:=by
   rcases tB d T.length with h3|h3
   ·exact h3
   ·obtain⟨y,q1,q2⟩:=h2 (d - T.length) ah;rw[show home x.1+d=home x.1+(d - T.length)+T.length by omega,Nat.add_mod_right] at h1;rw[h1] at q1;cases q1;exact absurd rfl q2
  refine⟨_,hZ,fun e=>?_,h1,fun A hA hd=>?_⟩
  ·rw[e,hh] at h1;cases h1;exact fg rfl
  ·rw[Dv hdC] at hd;obtain⟨y,q1,q2⟩:=h2 _ hd;rw[V5 hA] at q1
   by_cases RF:A=h
   ·refine .inl ⟨RF,?_⟩;have:(home x.1+d) % T.length≠h:=fun e=>by rw[e,hh] at h1;cases h1;exact fg rfl
    rcases jI T.length h ((home x.1+d) % T.length) with h3|h3<;>omega
   ·exact .inr ⟨RF,y,q1,q2⟩
theorem Dl.skip {home:Bs→Nat}{T:Cs}{M:List (Bs×Nat)}{h P lo I:Nat}{x:Bs×Nat}(hD:Dl home T M h P lo)(hI:I<T.length)(LA:dst T.length h I=lo)(hx:T[I]?=some (some x))(hP:dst T.length (home x.1 % T.length) I<dst T.length (home x.1 % T.length) P):Dl home T M h P (lo+1):=by
 have cN:=hD.pre;have pI:I≠P:=fun e=>by subst e;omega
 refine⟨hD.aP,hD.JF,by omega,hD.Oo,?_,hD.mem,hD.uniq,fun y hy=>?_,hD.nodup,hD.count⟩
 ·obtain⟨Z,h1,h2,h3⟩:=hD.free;refine⟨Z,h1,h2,?_⟩;have:Z≠I:=fun e=>by subst e;rw[hx] at h2;cases h2
  have:dst T.length h Z≠dst T.length h I:=fun e=>this (vF hD.aP h1 hI e)
  omega
 ·obtain⟨Z,z1,z2,z3,z4⟩:=hD.place y hy;refine⟨Z,z1,z2,z3,fun A hA hd=>?_⟩
  rcases z4 A hA hd with⟨rfl,h5⟩|h5
  ·refine .inl ⟨rfl,?_⟩
   by_cases HP:Z=I
   ·subst HP;rw[hx] at z3;cases z3;omega
   ·have:dst T.length h Z≠dst T.length h I:=fun e=>HP (vF hD.aP z1 hI e)
    omega
  ·exact .inr h5
theorem Dl.move {home:Bs→Nat}{T:Cs}{M:List (Bs×Nat)}{h P lo I:Nat}{x:Bs×Nat}(hD:Dl home T M h P lo)(hI:I<T.length)(LA:dst T.length h I=lo)(hx:T[I]?=some (some x))(hP:dst T.length (home x.1 % T.length) P<dst T.length (home x.1 % T.length) I):Dl home (T.set P (some x)) M h I (lo+1):=by
 have cN:=hD.pre;have IJ:=hD.JF;have Ek:=hD.aP;have pI:I≠P:=fun e=>by subst e;omega
 have I0:x∈M:=hD.mem I x pI hx;have aR:∀{A},A≠P→(T.set P (some x))[A]?=T[A]?:=fun hA=>dH (fun e=>hA e.symm)
 have heq:(T.set P (some x))[P]?=some (some x):=dJ IJ;obtain⟨g,hg⟩:=hD.Oo;obtain⟨F,f1,f2,f3⟩:=hD.free;have hFI:F≠I:=fun e=>by subst e;rw[hx] at f2;cases f2
 have RM:F≠P:=fun e=>by subst e;rw[hg] at f2;cases f2
 have RL:lo<dst T.length h F:=by
  have:dst T.length h F≠dst T.length h I:=fun e=>hFI (vF Ek f1 hI e)
  omega
 obtain⟨X,x1,x2,x3,x4⟩:=hD.place x I0;have hXI:X=I:=hD.uniq X I x x x2 pI x3 hx rfl;subst hXI;refine⟨by simpa using Ek,by simpa using hI,by simp[LA],⟨x,by rw[aR pI];exact hx⟩,⟨F,by simpa using f1,by rw[aR RM];exact f2,by simp;omega⟩,fun A y hA hy=>?_,fun A B y z hA hB hy hz e=>?_,fun y hy=>?_,hD.nodup,by rw[abz hg,hD.count]⟩
 ·by_cases pG:A=P
  ·subst pG;rw[heq] at hy;cases hy;exact I0
  ·rw[aR pG] at hy;exact hD.mem A y pG hy
 ·by_cases pG:A=P
  ·subst pG;rw[heq] at hy;cases hy
   by_cases zB:B=A
   ·exact zB.symm
   ·rw[aR zB] at hz;exact absurd (hD.uniq B X z x zB pI hz hx e.symm) hB
  ·rw[aR pG] at hy
   by_cases zB:B=P
   ·subst zB;rw[heq] at hz;cases hz;exact absurd (hD.uniq A X y x pG pI hy hx e) hA
   ·rw[aR zB] at hz;exact hD.uniq A B y z pG zB hy hz e
 ·simp only[fS]
  by_cases Nu:y.1=x.1
  ·have aeg:y=x:=by
    obtain⟨Y,y1,y2,y3,_⟩:=hD.place y hy;have:=hD.uniq Y X y x y2 pI y3 hx Nu;subst this;rw[hx] at y3;cases y3;rfl
   subst aeg;refine⟨P,IJ,fun e=>pI e.symm,heq,fun A hA hd => .inr ?_⟩;have DJ:A≠X:=fun e=>by subst e;omega
   rcases x4 A hA ah with⟨rfl,_⟩|⟨q1,q2⟩
   ·omega
   ·exact⟨DJ,by rw[aR q1];exact q2⟩
  ·obtain⟨Z,z1,z2,z3,z4⟩:=hD.place y hy;have Sc:Z≠X:=fun e=>by subst e;rw[hx] at z3;cases z3;exact Nu rfl
   refine⟨Z,z1,Sc,by rw[aR z2];exact z3,fun A hA hd=>?_⟩
   by_cases DJ:A=X
   ·refine .inl ⟨DJ,?_⟩;subst DJ;have hZl:dst T.length h Z≠lo:=fun e=>Sc (vF Ek z1 hI ah)
    rcases tB lo (dst T.length h Z) with h5|h5
    ·exact h5
    ·exfalso;have hH:home y.1 % T.length<T.length:=fm _ ah;have hw:dst T.length (home y.1 % T.length) F<dst T.length (home y.1 % T.length) Z:=by
      rcases jI T.length h A with a1|a1<;>rcases jI T.length h F with a2|a2<;>rcases jI T.length h Z with a3|a3 <;>
       rcases jI T.length (home y.1 % T.length) A with a4|a4<;>rcases jI T.length (home y.1 % T.length) F with a5|a5<;>rcases jI T.length (home y.1 % T.length) Z with a6|a6<;>omega
     rcases z4 F f1 hw with⟨e,_⟩|⟨_,u,hu,_⟩
     ·exact RM e
     ·rw[f2] at hu;cases hu
   ·by_cases pG:A=P
    ·subst pG;exact .inr ⟨fun e=>pI e.symm,x,heq,fun e=>Nu e.symm⟩
    ·rcases z4 A hA hd with⟨e,_⟩|⟨_,u,hu⟩
     ·exact absurd e pG
     ·exact .inr ⟨DJ,u,by rw[aR pG];exact hu⟩
theorem Dl.done {home:Bs→Nat}{T:Cs}{M:List (Bs×Nat)}{h P lo I:Nat}(hD:Dl home T M h P lo)(hI:I<T.length)(LA:dst T.length h I=lo)(hf:T[I]?=some none):eP home (T.set P none) M:=by
 have cN:=hD.pre;have IJ:=hD.JF;have Ek:=hD.aP;obtain⟨g,hg⟩:=hD.Oo;have aR:∀{A},A≠P→(T.set P none)[A]?=T[A]?:=fun hA=>dH (fun e=>hA e.symm)
 have amv:=aby hg;have hc:=hD.count;refine⟨fun A x hx=>?_,fun x hx=>?_,hD.nodup,by omega,?_⟩
 ·by_cases hA:A=P
  ·subst hA;rw[dJ IJ] at hx;cases hx
  ·rw[aR hA] at hx;exact hD.mem A x hA hx
 ·obtain⟨Z,z1,z2,z3,z4⟩:=hD.place x hx;have hH:home x.1 % T.length<T.length:=fm _ ah;rw[fS];have HP:Z≠I:=fun e=>by subst e;rw[hf] at z3;cases z3
  have hZl:dst T.length h Z≠lo:=fun e=>HP (vF Ek z1 hI ah)
  refine⟨dst T.length (home x.1 % T.length) Z,by rw[V5 z1,aR z2];exact z3,fun e he=>?_⟩;have hZd:=Hk hH z1;have hA:(home x.1+e) % T.length<T.length:=fm _ ah
  rcases z4 _ hA (by rw[Dv ah];exact he) with⟨h1,h2⟩|⟨h1,y,h2⟩
  ·exfalso;have zM:dst T.length (home x.1 % T.length) P<dst T.length (home x.1 % T.length) Z:=by rw[←h1,Dv ah];exact he
   have hw:dst T.length (home x.1 % T.length) I<dst T.length (home x.1 % T.length) Z:=by
    rcases jI T.length h I with a1|a1<;>rcases jI T.length h P with a2|a2<;>rcases jI T.length h Z with a3|a3 <;>
     rcases jI T.length (home x.1 % T.length) I with a4|a4<;>rcases jI T.length (home x.1 % T.length) P with a5|a5<;>rcases jI T.length (home x.1 % T.length) Z with a6|a6<;>omega
   rcases z4 I hI hw with⟨e1,_⟩|⟨_,u,hu,_⟩
   ·subst e1;omega
   ·rw[hf] at hu;cases hu
  ·exact⟨y,by rw[aR h1];exact h2.1,h2.2⟩
 ·have h3:filled T≤T.length:=List.countP_le_length;rw[fS];omega
end
section
attribute [local irreducible] GO GX aA fz aF aQ ao star
theorem aik {j:Nat}(h:8<2^j):4≤j:=by
 rcases tB 3 j with h1|h1
 ·exact h1
 ·have:2^j≤2^3:=Nat.pow_le_pow_right (by decide) h1;omega
theorem aio {n:Int}{s:Nat}(e:n=2*(s:Int))(h:s≤16777216):IntKind.i64.wrap (n.tdiv 2)=(s:Int):=by
 rw[e,Int.mul_tdiv_cancel_left _ (by decide)];exact kN ⟨by omega,by omega⟩
theorem alN {o:Og}{w:World}{a:Nat}{t:Tb}{M:List (Bs×Nat)}{k:Bs}{n:Nat}(hT:iS t ((k,n)::M))(hs:Start o w [gI a t]) :
  aj prog 174 [ak a,str k].toArray w (aU o (fun _:Tb => .tuple #[iV n,iV 0]) (fun t'=>iS t' M) (fun t'=>[gI a t'])):=by
 have hH:=hs.sh;have hS:=hT.s;have hp:=hS.pos;have hn:=hT.n;have mU:=hT.key _ (tC ..);have bX:=hT.eC.nodup;rw[cK,eI] at bX;have x9:=hT.room;simp only[dR] at hn x9;obtain⟨j,BL,hj,he⟩:=hT.size;refine aj.enter func174 rfl ntmps174 rfl (gh ?_);refine GX.dX (hc:=fun _ hs=>Ya hS hT.eC hT.ne k 0 hs) (h:=?_);rintro⟨h,er⟩ w hF hE hH;replace hH:=SH.ap hH
 rcases hF with⟨h1,_⟩|⟨_,h1,_⟩|⟨_,rfl,d,hi,_,⟨h1,_⟩|⟨_,n',hm,hc⟩⟩
 ·rw[mU] at h1;cases h1
 ·exact absurd (by simp) h1
 ·cases h1
 simp only at hc hi;obtain rfl:n'=n:=by
  rcases bY.1 hm with e|e
  ·cases e;rfl
  ·exact absurd (bK.2 ⟨_,e,rfl⟩) bX.1
 have hh:=(aV.1 hc).1;have hHk:∀e,dst t.T.length h ((h+e) % t.T.length)=e∨t.T.length≤e:=fun e=>by
  rcases tB e t.T.length with h1|h1
  ·have:=Dv (a:=h) h1;rw[rf hh] at this;exact .inl this
  ·exact .inr h1
 have gO:=hH;obtain⟨⟨q,c⟩,hH⟩:=SH.un hH;replace hH:=SH.ap hH;dsimp only at hH;obtain⟨b,rfl⟩:=hH.pos (cs:=fB t.T);refine gh ?_;refine GX.next rfl (GO.cG (hv:=Qu hc) (h:=gh ?_));replace hH:=sq (t:=t) hH;clear gO;refine GX.aL (hc:=fun _ hs=>Gf hS h ah hs) (h:=fun w hE hH=>gh ?_);have hD0:=hT.eC.dl hc;have IQ:∀T:Cs,T.length=t.T.length→oA { t with T:=T}:=fun T e=>⟨hS.aJ,by rw[e];exact hS.size⟩
 refine GC.bP [0,8] (fun x:Cs×Nat×Nat=>[(6,iV x.2.1),(9,iV ((h+x.2.2) % t.T.length:Nat))]) (fun x w'=>x.1.length=t.T.length∧Dl (fun k=>bN t.aJ k) x.1 M h x.2.1 x.2.2∧SH o w' [gI a { t with T:=x.1}]) (fun x=>t.T.length - x.2.2) (t.T,h,1) rfl rfl ⟨rfl,hD0,hH⟩ ?_;rintro⟨T,p,lo⟩ w ⟨oL,hD,hH⟩;simp only at oL hD hH;dsimp only;have BQ:lo<t.T.length:=by
  obtain⟨Z,z1,_,z3⟩:=hD.free;have:=Hk hD.aP z1;omega
 have gZ:=hD.JF;have hq:(h+lo) % t.T.length<t.T.length:=fm _ ah;have DQ:dst T.length h ((h+lo) % t.T.length)=lo:=by
  rw[oL];exact(hHk lo).resolve_right ah
 have pI:(h+lo) % t.T.length≠p:=fun e=>by
  have:=hD.pre;rw[e] at DQ;omega
 generalize hI:(h+lo) % t.T.length=I at hq DQ pI;have we:(I+1) % t.T.length=(h+(lo+1)) % t.T.length:=by rw[←hI,Nat.mod_add_mod,Nat.add_assoc]
 obtain⟨cl,gC⟩:∃cl,T[I]?=some cl:=⟨_,bO ah⟩
 have hHf:=hH;obtain⟨⟨q,c⟩,hH⟩:=SH.un hH;replace hH:=SH.ap hH;dsimp only at hH;obtain⟨b,rfl⟩:=hH.pos (cs:=fB T);refine gh ?_;cases cl with
 |none=>
  refine GX.next rfl (GO.jz (hv:=sG gC) (h:=gh ?_));have hO:=hD.done ah DQ gC;refine GX.vf (hb:=by rw[Dp];simp;omega) (hc:=show _=fB (T.set p none) from(by rw[show 0+((p:Nat):Int).toNat*2=p*2 by simp];exact G5 none gZ)) (h:=fun w hH=>gh ?_);refine GX.dw (h:=fun w hH=>gh ?_);rw[show(t.n:Int) - 1=((M.length:Nat):Int) by omega] at hH;have qC:∀x∈M,bI x.1=true:=fun x hx=>hT.key x (fR _ hx)
  have D4:iS ⟨t.aJ,T.set p none,M.length⟩ M:=⟨hS.aJ,⟨j,BL,hj,by simp[oL,he]⟩,hO,qC,rfl,by simp only[fS];omega⟩
  refine gh ?_;refine ifs (fun h1=>?_) (fun h1=>?_)<;>refine gh ?_
  ·refine ifs (fun h2=>?_) (fun h2=>?_)<;>refine gh ?_
   ·have Mw:4≤j:=aik ah;have Mz:2^j=2*2^(j - 1):=by rw[show j=j - 1+1 by omega,Nat.pow_succ];simp[Nat.mul_comm]
    have am1:2^(j - 1)≤2^20:=Nat.pow_le_pow_right (by decide) ah;have Mc:M.length<2^(j - 1):=by rw[oL,he,Mz] at h2;omega
    refine GX.next rfl (GO.quo rfl rfl rfl rfl rfl ah (c:=((2^(j - 1):Nat):Int)) (aio (by rw[oL,he,Mz];push_cast;rfl) ah) (gh ?_));replace hH:=sq (t:=⟨t.aJ,T.set p none,M.length⟩) (a:=a) (q:=some b) hH (e1:=by simp);refine GX.bS (hc:=fun _ hs=>Yh (t:=⟨t.aJ,T.set p none,M.length⟩) hS.aJ (by simp only[fS];omega) hO qC (j - 1) ah Mc hs) (h:=?_);rintro T' w ⟨jN,nP⟩ hH;replace hH:=SH.ap hH;refine gh ?_;exact⟨⟨t.aJ,T',M.length⟩,rfl,⟨hS.aJ,⟨j - 1,by omega,by omega,nP⟩,jN,qC,rfl,by simp only;rw[nP];rw[oL,he,Mz] at h2;omega⟩,hH.to⟩
   ·refine gh ?_;exact⟨_,rfl,D4,(sq (t:=⟨t.aJ,T.set p none,M.length⟩) (a:=a) (q:=some b) hH (e1:=by simp)).to⟩
  ·refine gh ?_;exact⟨_,rfl,D4,(sq (t:=⟨t.aJ,T.set p none,M.length⟩) (a:=a) (q:=some b) hH (e1:=by simp)).to⟩
 |some x=>
  obtain⟨kx,nx⟩:=x;have I0:=hD.mem I _ pI gC;have fg:=hT.key _ (fR _ I0);refine GX.next rfl (GO.jz (hv:=sG gC) (h:=gh ?_));refine GC.Bl (show _=_ from congrArg (fun z=>some (Value.bool z)) (Jw (Jz fg))) (gh ?_);refine GX.next rfl (GO.cG (hv:=KS gC) (h:=gh ?_));replace hH:=hHf;refine GX.aL (hc:=fun _ hs=>Yc (IQ T oL) kx (Fv fg) hs) (h:=fun w hE hH=>gh ?_);dsimp only;have sP:bN t.aJ kx % T.length<T.length:=fm _ ah;have hdI:=Hk sP (show I<T.length by omega);have hdP:=Hk sP gZ;refine GC.bP [0,6,8,9] (fun e:Nat=>[(10,iV ((bN t.aJ kx+e) % T.length:Nat))]) (fun e w'=>e≤dst T.length (bN t.aJ kx % T.length) I∧e≤dst T.length (bN t.aJ kx % T.length) p∧SH o w' [gI a { t with T:=T}]) (fun e=>T.length - e) 0 rfl rfl ⟨bh _,bh _,hH⟩ ?_;rintro e w ⟨SB,Eg,hH⟩;have Eh:dst T.length (bN t.aJ kx % T.length) ((bN t.aJ kx+e) % T.length)=e:=Dv ah;generalize hA:(bN t.aJ kx+e) % T.length=A at Eh;have lH:A<T.length:=by rw[←hA];exact fm _ ah
  refine gh ?_;refine ifs (fun h1=>?_) (fun h1=>?_)<;>refine gh ?_
  ·refine ifs (fun h2=>?_) (fun h2=>?_)<;>refine gh ?_
   ·obtain rfl:A=I:=by omega
    refine gh ?_;have ady:dst T.length (bN t.aJ kx % T.length) A≠dst T.length (bN t.aJ kx % T.length) p:=fun e'=>pI (vF sP ah gZ e')
    have Lr:=hD.skip ah DQ gC (by simp only;omega);refine GX.aL (hc:=fun _ hs=>Gf (IQ T oL) A ah hs) (h:=fun w hE hH=>gh ?_);dsimp only;rw[oL,we];exact GQ.br (T,p,lo+1) rfl ⟨oL,Lr,hH⟩ (by simp only;omega)
   ·have hAI:A≠I:=by omega
    have pG:A≠p:=by omega
    have oQ:e≠dst T.length (bN t.aJ kx % T.length) I:=fun e'=>hAI (vF sP lH ah ah)
    have pO:e≠dst T.length (bN t.aJ kx % T.length) p:=fun e'=>pG (vF sP lH gZ ah)
    refine GX.aL (hc:=fun _ hs=>Gf (IQ T oL) A ah hs) (h:=fun w hE hH=>gh ?_);dsimp only;rw[←hA,Nat.mod_add_mod];exact GQ.br (e+1) rfl ⟨by omega,by omega,hH⟩ ah
  ·obtain rfl:A=p:=by omega
   refine gh ?_;have ady:dst T.length (bN t.aJ kx % T.length) I≠dst T.length (bN t.aJ kx % T.length) A:=fun e'=>pI (vF sP ah gZ e')
   have Lr:=hD.move ah DQ gC (by simp only;omega);obtain⟨⟨q,c⟩,hH⟩:=SH.un hH;replace hH:=SH.ap hH;dsimp only at hH;obtain⟨b,rfl⟩:=hH.pos (cs:=fB T);refine GC.bq (pl:=(aZ [0,3,6,12,15,18,21,27,10,25,30,34,36,41])) (T:=fun _=>False) (hm:=mixed) (h:=fun w hE hH=>gh ?_);refine GX.read rfl (GO.yz (hv:=sG gC) (h:=gh ?_));refine GX.gH (hb:=by rw[Dp];simp;omega) (hc:=show _=fB (T.set A (some (kx,nx))) from(by rw[show 0+((A:Nat):Int).toNat*2=A*2 by simp];exact G5 (some (kx,nx)) gZ)) (h:=fun w hH=>gh ?_);replace hH:=sq (t:={ t with T:=T.set A (some (kx,nx))}) (a:=a) (q:=some b) hH (e1:=by simp);refine GX.aL (hc:=fun _ hs=>Gf (IQ (T.set A (some (kx,nx))) (by simp[oL])) I ah hs) (h:=fun w hE hH=>gh ?_);simp only[fS];rw[oL,we];exact GQ.br (T.set A (some (kx,nx)),I,lo+1) rfl ⟨by simp[oL],Lr,hH⟩ (by simp only;omega)
end
section
def aK {α:Type}(f:α→List Value)(L:List α):List Value:=(L.map f).flatten
section
variable {α:Type}{f:α→List Value}{z:Nat}{L:List α}{i:Nat}{x:α}
theorem gQ (hz:∀x,(f x).length=z)(L:List α):(aK f L).length=L.length*z:=by
 induction L with
 |nil=>simp[aK]
 |cons x L ih=>
  rw[aK,cK,om,bJ,hz,dR,Nat.succ_mul,Nat.add_comm];exact congrArg (· + z) ih
theorem JR (hz:∀x,(f x).length=z)(h:L[i]?=some x):∃A B,aK f L=A++(f x++B)∧A.length=i*z∧∀y,aK f (L.set i y)=A++(f y++B):=by
 induction L generalizing i with
 |nil=>simp at h
 |cons w L ih=>
  cases i with
  |zero=>simp at h;subst h;exact⟨[],aK f L,by simp[aK],by simp,fun y=>by simp[aK]⟩
  |succ i=>
   obtain⟨A,B,h1,h2,h3⟩:=ih (i:=i) (by simpa using h);refine⟨f w++A,B,?_,by rw[bJ,hz,h2,Nat.succ_mul,Nat.add_comm],fun y=>?_⟩
   ·show f w++aK f L=_;rw[h1,cP]
   ·show f w++aK f (L.set i y)=_;rw[h3,cP]
theorem jj (hz:∀x,(f x).length=z)(h:L[i]?=some x):((aK f L).drop (i*z)).take z=f x:=by
 obtain⟨A,B,h1,h2,_⟩:=JR hz h;rw[h1,←h2,List.drop_left,←hz x,vk]
theorem nj (hz:∀x,(f x).length=z)(h:L[i]?=some x){j:Nat}{v:Value}(hj:(f x)[j]?=some v):(aK f L)[i*z+j]?=some v:=by
 obtain⟨A,B,h1,h2,_⟩:=JR hz h;rw[h1,←h2,ia ah,C8,gr (aV.1 hj).1,hj]
theorem AN (hz:∀x,(f x).length=z)(hi:i<L.length)(y:α):(aK f L).take (i*z)++f y++(aK f L).drop (i*z+(f y).length)=aK f (L.set i y):=by
 obtain⟨A,B,h1,h2,h3⟩:=JR hz (bO hi);rw[h3,h1,←h2,vk,cP];congr 2;rw[List.drop_append,l0 ah,hz,C8,jF,List.drop_append,l0 (by rw[hz];exact bj _),hz,Nat.sub_self,jF,List.drop_zero]
theorem CR (hz:∀x,(f x).length=z)(h:L[i]?=some x){j:Nat}(hj:j<z){v:Value}{y:α}(hy:(f x).set j v=f y):(aK f L).set (i*z+j) v=aK f (L.set i y):=by
 obtain⟨A,B,h1,h2,h3⟩:=JR hz h;rw[h3,h1,←hy,←h2,List.set_append_right _ _ ah,C8,List.set_append_left _ _ (by rw[hz];exact hj)]
theorem kK (L:List α)(x:α):aK f (L++[x])=aK f L++f x:=by simp[aK]
theorem FI (h:∀x,∀u∈f x,u.oneCell'=true)(L:List α):∀u∈aK f L,u.oneCell'=true:=by
 intro u hu;obtain⟨l,hl,uD⟩:=List.mem_flatten.1 hu;obtain⟨x,_,rfl⟩:=bK.1 hl;exact h x u uD
theorem aiY (hz:∀x,(f x).length=z)(k:Nat):(aK f L).take (k*z)=aK f (L.take k):=by
 induction L generalizing k with
 |nil=>simp[aK]
 |cons x L ih=>
  cases k with
  |zero=>simp[aK]
  |succ k=>
   show(f x++aK f L).take _=f x++aK f (L.take k);rw[List.take_append,eO (by rw[hz,Nat.succ_mul];omega),hz,Nat.succ_mul,Nat.add_sub_cancel,ih]
end
abbrev Tm:=Nat×Nat
def wZ (x:Tm):Nat:=x.2*1048576+x.1
def cX (L:List Tm)(i:Nat):Nat:=match L[i]? with|some x=>wZ x|none=>0
theorem Uk {L:List Tm}{i:Nat}{x:Tm}(h:L[i]?=some x):cX L i=wZ x:=by rw[cX,h]
def f' (L:List Tm)(i k:Nat):List Tm:=match L[i]?,L[k]? with|some x,some y=>(L.set i y).set k x|_,_=>L
theorem Pf {L:List Tm}{i k:Nat}{x y:Tm}(hx:L[i]?=some x)(hy:L[k]?=some y):f' L i k=(L.set i y).set k x:=by rw[f',hx,hy]
theorem pZ (L:List Tm)(i k:Nat):(f' L i k).length=L.length:=by
 unfold f';split<;>simp
theorem yX {L:List Tm}{i k:Nat}(hi:i<L.length)(hk:k<L.length)(j:Nat):(f' L i k)[j]?=if j=k then L[i]? else if j=i then L[k]? else L[j]?:=by
 rw[Pf (bO hi) (bO hk),List.getElem?_set,List.getElem?_set];simp only[fS,hi,hk,if_true]
 by_cases h1:k=j
 ·simp[h1,bO (h1▸hk),bO hi]
 ·by_cases h2:i=j
  ·simp[h1,h2,Ne.symm h1,bO hk]
  ·simp[h1,h2,Ne.symm h1,Ne.symm h2]
theorem Pg {L:List Tm}{i k:Nat}(hi:i<L.length)(hk:k<L.length)(j:Nat):cX (f' L i k) j=if j=k then cX L i else if j=i then cX L k else cX L j:=by
 unfold cX;rw[yX hi hk]
 by_cases h1:j=k
 ·rw[if_pos h1,if_pos h1]
 ·rw[if_neg h1,if_neg h1]
  by_cases h2:j=i
  ·rw[if_pos h2,if_pos h2]
  ·rw[if_neg h2,if_neg h2]
theorem CY {L:List Tm}{i k:Nat}(hi:i<L.length)(hk:k<L.length):(f' L i k).Perm L:=by
 rw[Pf (bO hi) (bO hk)];exact List.set_set_perm hi hk
def Dc (L:List Tm)(i:Nat):Prop:=
 (∀j,0<j→j<L.length→j≠i→(j - 1) / 2≠i→cX L ((j - 1) / 2)≤cX L j)∧(0<i→∀c,0<c→c<L.length→(c - 1) / 2=i→cX L ((i - 1) / 2)≤cX L c)
def tN (L:List Tm)(i:Nat):Prop:=
 (∀j,0<j→j<L.length→(j - 1) / 2≠i→cX L ((j - 1) / 2)≤cX L j)∧(0<i→∀c,0<c→c<L.length→(c - 1) / 2=i→cX L ((i - 1) / 2)≤cX L c)
def Hp (L:List Tm):Prop:=∀j,0<j→j<L.length→cX L ((j - 1) / 2)≤cX L j
def A8 (L:List Tm)(i0 p:Nat):Prop:=Dc L p∧(p=i0∨∀c,0<c→c<L.length→(c - 1) / 2=p→cX L p≤cX L c)
theorem A8.step {L:List Tm}{i0 p:Nat}(h:A8 L i0 p)(h0:0<p)(hp:p<L.length)(hl:cX L p<cX L ((p - 1) / 2)):A8 (f' L p ((p - 1) / 2)) i0 ((p - 1) / 2):=by
 obtain⟨⟨h1,h2⟩,_⟩:=h;generalize hk:(p - 1) / 2=k at hl;have hkp:k<p:=by omega
 have e:=Pg hp (show k<L.length by omega);have mR:=h2 h0;rw[hk] at mR;refine⟨⟨fun j j0 jl jk jp=>?_,fun k0 c c0 cl ck=>?_⟩, .inr fun c c0 cl ck=>?_⟩
 ·rw[pZ] at jl;rw[e,e,if_neg jk,if_neg jp];have Ug:j≠p:=fun x=>jp (by rw[x,hk])
  rw[if_neg Ug];split
  ·exact mR j j0 jl (by assumption)
  ·exact h1 j j0 jl Ug (by assumption)
 ·rw[pZ] at cl;have mU:=h1 k k0 ah ah ah;rw[e,e,if_neg ah,if_neg ah,if_neg ah];split
  ·exact mU
  ·refine eh mU ?_;have:=h1 c c0 cl (by assumption) ah;rwa [ck] at this
 ·rw[pZ] at cl;rw[e,e,if_pos rfl,if_neg ah];split
  ·omega
  ·have:=h1 c c0 cl (by assumption) ah;rw[ck] at this;omega
theorem A8.stop {L:List Tm}{i0 p:Nat}(h:A8 L i0 p)(hs:0<p→cX L ((p - 1) / 2)≤cX L p):tN L i0:=by
 obtain⟨⟨h1,h2⟩,h3⟩:=h;have hD:tN L p:=⟨fun j j0 jl jp=>by
  rcases Nat.decEq j p with e|e
  ·exact h1 j j0 jl e jp
  ·subst e;exact hs j0,h2⟩
 rcases h3 with e|h3
 ·rw[←e];exact hD
 ·have hp:Hp L:=fun j j0 jl=>by
   rcases Nat.decEq ((j - 1) / 2) p with e|e
   ·exact hD.1 j j0 jl e
   ·rw[e];exact h3 j j0 jl e
  refine⟨fun j j0 jl _=>hp j j0 jl,fun i0' c c0 cl ci=>?_⟩;have e1:=hp c c0 cl;have e2:=hp i0 i0' ah;rw[ci] at e1;omega
theorem tN.step {L:List Tm}{i k:Nat}(h:tN L i)(k0:0<k)(hk:k<L.length)(hi:(k - 1) / 2=i)(hm:∀c,0<c→c<L.length→(c - 1) / 2=i→cX L k≤cX L c)(hl:cX L k<cX L i):tN (f' L k i) k:=by
 obtain⟨h1,h2⟩:=h;have e:=Pg hk (show i<L.length by omega);refine⟨fun j j0 jl jp=>?_,fun _ c c0 cl ck=>?_⟩
 ·rw[pZ] at jl;rw[e,e]
  by_cases e1:(j - 1) / 2=i
  ·rw[if_pos e1,if_neg ah];split
   ·omega
   ·exact hm j j0 jl e1
  ·rw[if_neg e1,if_neg jp]
   by_cases e2:j=i
   ·rw[if_pos e2];subst e2;exact h2 j0 k k0 hk hi
   ·rw[if_neg e2,if_neg ah];exact h1 j j0 jl e1
 ·rw[pZ] at cl;rw[hi,e,e,if_pos rfl,if_neg ah,if_neg ah];have:=h1 c c0 cl ah;rwa [ck] at this
theorem tN.stop {L:List Tm}{i:Nat}(h:tN L i)(hs:∀c,0<c→c<L.length→(c - 1) / 2=i→cX L i≤cX L c):Hp L:=fun j j0 jl=>by
 rcases Nat.decEq ((j - 1) / 2) i with e|e
 ·exact h.1 j j0 jl e
 ·rw[e];exact hs j j0 jl e
theorem Hp.first {L:List Tm}(h:Hp L):∀(n j:Nat),j≤n→j<L.length→cX L 0≤cX L j:=by
 intro n
 induction n with
 |zero=>intro j hj _;rw[show j=0 by omega];exact bj _
 |succ n ih=>
  intro j hj jl
  rcases Nat.eq_zero_or_pos j with e|e
  ·rw[e];exact bj _
  ·exact eh (ih ((j - 1) / 2) ah ah) (h j e jl)
end
end Go.Proofs.YtmlpbmgfmnmmmaaGreat.V.M
