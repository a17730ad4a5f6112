/-
  Parts of the proof. No condition.
-/
import Derived.Test.YtmlpbmgfmnmmmaaGreatW2am
set_option linter.unusedVariables false
set_option linter.unusedSimpArgs false
set_option maxRecDepth 8000
set_option maxHeartbeats 8000000
open Go.Proofs.Tryz
namespace Go.Proofs.YtmlpbmgfmnmmmaaGreat.V.M
section
attribute [local irreducible] GO GX
def Pv (_:Unit):Value := .agg [].toArray
def setOf (l:List Bs):List (Bs×Unit):=l.foldl (fun M s=>bE M s ()) []
theorem ajF (l:List Bs)(s:Bs):setOf (l++[s])=bE (setOf l) s ():=by simp[setOf]
theorem O7 (l:List Bs):∀M:List (Bs×Unit),(M.map (·.1)).Nodup→((l.foldl (fun M s=>bE M s ()) M).map (·.1)).Nodup∧∀x,x∈(l.foldl (fun M s=>bE M s ()) M).map (·.1)↔x∈M.map (·.1)∨x∈l:=by
 induction l with
 |nil=>intro M h;exact⟨h,by simp⟩
 |cons s l ih=>
  intro M h;obtain⟨h1,h2⟩:=ih (bE M s ()) (rU h s ());refine⟨h1,fun x=>?_⟩;simp only[ph];rw[h2,I6];split
  ·rename_i hs
   simp only[bY];constructor
   ·rintro(h|h)<;>simp[h]
   ·rintro(h|rfl|h)
    ·exact .inl h
    ·exact .inl hs
    ·exact .inr h
  ·simp only[cJ,bY,tI,or_false,or_assoc]
def cr (l:List Bs):List Bs×Int:=if l.all fF=false then([],2) else if 16<(setOf l).length then([],5) else(fj ((setOf l).map (·.1)),0)
theorem ak3 {l m:List Bs}(h:l.Perm m):fj l=fj m:=
 ((lV l).trans (h.trans (lV m).symm)).eq_of_pairwise (fun a b _ _ h1 h2=>List.le_antisymm h1 h2) (CU l) (CU m)
def ij (w w':World)(el:TypeId)(sz:Nat)(a:Option Addr)(n c:Nat)(cs:List Value):Prop:=
 ∃ob,aG w' el sz ob a n c cs∧(∀x,ob=some x→w.heap.size≤x)∧∀x,a=some x→ob=some x.block
theorem ij.nil (w w':World)(el:TypeId)(sz:Nat):ij w w' el sz none 0 0 []:=⟨none,aG.nil _ _ _,(fun _ h=>nomatch h),(fun _ h=>nomatch h)⟩
theorem ij.bR {w w':World}{el:TypeId}{sz:Nat}{a:Option Addr}{n c:Nat}{cs:List Value}(h:ij w w' el sz a n c cs):bM w' a cs:=h.choose_spec.1.bR
theorem ij.new {w w':World}{el:TypeId}{sz:Nat}{a:Option Addr}{n c:Nat}{cs:List Value}(h:ij w w' el sz a n c cs){x:Addr}(hx:a=some x):w.heap.size≤x.block:=let⟨_,_,h1,h2⟩:=h;h1 _ (h2 _ hx)
theorem ij.mod {S:Nat→Prop}{w w1 w2:World}{el:TypeId}{sz:Nat}{a:Option Addr}{n c:Nat}{cs:List Value}(h:ij w w1 el sz a n c cs)(hm:Mod S w1 w2)(hn:∀x,w.heap.size≤x→¬S x):ij w w2 el sz a n c cs:=
 let⟨ob,h1,h2,h3⟩:=h;⟨ob,h1.mod hm (fun x hx=>hn _ (h2 _ (h3 x hx))),h2,h3⟩
theorem ij.ext {w w1 w2:World}{el:TypeId}{sz:Nat}{a:Option Addr}{n c:Nat}{cs:List Value}(h:ij w w1 el sz a n c cs)(hm:Ext w1 w2):ij w w2 el sz a n c cs:=h.mod hm fun _ _ h=>h
theorem ij.rX {w0 w w':World}{el:TypeId}{sz:Nat}{a:Option Addr}{n c:Nat}{cs:List Value}(h:ij w w' el sz a n c cs)(hs:w0.heap.size≤w.heap.size):ij w0 w' el sz a n c cs:=
 let⟨ob,h1,h2,h3⟩:=h;⟨ob,h1,fun x hx=>eh hs (h2 x hx),h3⟩
theorem K7 {w w1 w2:World}{b:Nat}(h:Ext w w1)(hb:w.heap.size≤b)(hm:Mod (· = b) w1 w2):Ext w w2:=h.then hm fun i hi e=>by subst e;omega
theorem K6 {w w1 w2:World}{ob:Option Nat}(h:Ext w w1)(hb:∀x,ob=some x→w.heap.size≤x)(hm:Mod (fun k=>some k=ob) w1 w2):Ext w w2:=h.then hm fun i hi e=>by have:=hb i e.symm;omega
theorem X' (l:List Bs)(n:Nat)(hn:l.length=n)(hl:n<2^40)(a:Option Addr)(c:Nat)(w:World)(hA:bM w a (aM l)) :
  aj prog 147 [.slice a n c].toArray w fun v w'=>(∃a' c',v = .tuple #[.slice a' (cr l).1.length c',iV (cr l).2]∧ij w w' 9 1 a' (cr l).1.length c' (aM (cr l).1))∧Ext w w':=by
 subst hn;refine aj.enter func147 rfl ntmps147 rfl (go ?_);refine GX.makeMap str Pv rfl rfl rfl fun m w1 rI vP cW=>go ?_
 have qF:w.heap.size≤m:=by omega
 refine GC.bP [4,10,11] (fun k:Nat=>[(12, .int .i64 k)]) (fun k w'=>k≤l.length∧(l.take k).all fF=true∧dU w' m str Pv (setOf (l.take k))∧Ext w w') (fun k=>l.length - k) 0 rfl rfl ⟨bh _,rfl,vP,cW⟩ ?_;rintro k w2 ⟨hk,jP,mh,di⟩;refine go ?_;refine dj (fun hc=>?_) (fun hc=>?_)<;>refine go ?_
 ·have aP:k<l.length:=by omega
  obtain⟨b,o,e,jM⟩:=F9 (hA.ext di) aP;subst e;refine GX.next rfl (GO.indexAddr rfl rfl rfl rfl ah ah rfl ?_);refine GX.lj (jM (k:Int) ah) rfl rfl rfl rfl ?_;refine go ?_;refine GX.call (I5 l[k] _) rfl rfl rfl rfl rfl rfl ?_;rintro _ _ ⟨rfl,rfl⟩;refine go ?_;refine dj (fun ht=>?_) (fun ht=>?_)<;>refine go ?_
  ·have hf:l.all fF=false:=by
    rw[List.all_eq_false];exact⟨l[k],ot aP,by simpa[fF] using ht⟩
   have hS:cr l=([],2):=by simp[cr,hf]
   rw[hS];exact⟨⟨none,0,rfl,ij.nil _ _ _ _⟩,di⟩
  refine GX.mapUpdate (v:=()) mh aeT rfl rfl rfl rfl rfl fun w3 rD xY=>go ?_
  refine GQ.br (k+1) rfl ⟨aP,?_,?_,K7 di qF xY⟩ ah
  ·rw[kQ aP,List.all_append,jP];simpa[fF] using ht
  ·rw[kQ aP,ajF];exact rD
 have kB:k=l.length:=by omega
 subst kB;rw[j5] at jP mh;refine GX.NN mh rfl rfl rfl rfl (go ?_);refine dj (fun pF=>?_) (fun pF=>?_)<;>refine go ?_
 ·have hS:cr l=([],5):=by simp[cr,jP];omega
  rw[hS];exact⟨⟨none,0,rfl,ij.nil _ _ _ _⟩,di⟩
 have hS:cr l=(fj ((setOf l).map (·.1)),0):=by simp[cr,jP];omega
 refine GX.NN mh rfl rfl rfl rfl (go ?_);refine GX.makeSlice rfl rfl rfl rfl rfl rfl ah ah ah ah fun g w3 hg mi iy=>go ?_
 have BI:w.heap.size≤g:=by have:=di.size;omega
 refine GX.range (mh.ext iy) rfl rfl rfl rfl fun it w4 Ig hI4 lI=>go ?_
 have his:w3.heap.size≤it:=by omega
 have hg3:g<w3.heap.size:=(mi.block).2;refine GC.bP [30] (fun x:List Bs×Option Nat×Option Addr×Nat×List (Bs×Unit)×Nat=>[(7, .slice x.2.2.1 x.2.2.2.2.2 x.2.2.2.1)])
  (fun x w'=>x.1.length=x.2.2.2.2.2∧aG w' 9 1 x.2.1 x.2.2.1 x.2.2.2.2.2 x.2.2.2.1 (aM x.1)∧(∃q,x.2.1=some q∧w.heap.size≤q∧q≠it∧q≠m)∧(x.1++x.2.2.2.2.1.map (·.1)).Perm ((setOf l).map (·.1))∧nF w' it m str Pv (setOf l) x.2.2.2.2.1∧Ext w w') (fun x=>x.2.2.2.2.1.length)
  ([],some g,some ⟨g,0,none⟩,(setOf l).length,setOf l,0) rfl rfl ⟨rfl,by simpa[aM] using mi.ext lI,⟨g,rfl,BI,by omega,by have:=mh.lt;omega⟩,mC _,hI4,(di.trans iy).trans lI⟩ ?_
 rintro⟨out,ob,a1,c1,R,nO⟩ w5 ⟨IA,hO,⟨q,hq,IK,MU,Tw⟩,hp,hI,DN⟩;dsimp only at IA hO hq hp hI ⊢;subst hq;refine go ?_;refine GX.Wb hI rfl rfl rfl rfl (fun hR=>go ?_) fun y R1 R2 w6 hR hI6 zS qj=>go ?_
 ·subst hR;rw[tD,eY] at hp;obtain⟨ha,hb⟩:=hO.block;subst ha;have hlen:out.length≤16:=by rw[hp.length_eq,fk];omega
  refine GX.call (XS q c1 nO out IA _ hO ah) rfl rfl rfl rfl rfl rfl ?_;rintro v w7 ⟨qm,xZ⟩;refine go ?_;rw[hS];have hu:fj ((setOf l).map (·.1))=fj out:=ak3 hp.symm;have hle:nO=(fj out).length:=IA.symm.trans ((lV out).length_eq).symm;refine⟨⟨some ⟨q,0,none⟩,c1,by rw[hu,hle],?_⟩,K7 DN IK xZ⟩;rw[hu,←hle];exact⟨some q,qm,fun x hx=>by cases hx;exact IK,fun x hx=>by cases hx;rfl⟩
 ·refine GX.yS rfl rfl rfl rfl rfl rfl rfl rfl rfl fun b7 w7 hb7 qm oI=>go ?_
  have amR:Mod (fun k=>some k=some it) w5 w6:=zS.weaken fun k _ h=>congrArg some h
  have hOq:=(hO.mod zS (fun x hx=>by obtain⟨h1,_⟩:=hO.block;rw[h1] at hx;cases hx;exact MU)).ext oI;have ur:out.length≤16:=by
   have:=hp.length_eq;simp only[bJ,fk] at this;omega
  refine GX.append hOq qm.bR rfl rfl rfl rfl rfl rfl rfl (yW [y.1]) ah ah fun cO a' c' w8 zH mW Ma L7=>go ?_
  have BU:m<w5.heap.size:=hI.map.lt;have gV:Ext w w6:=K7 DN (by have:=di.size;have:=iy.size;omega) zS;have acJ:∃q',cO=some q'∧w.heap.size≤q'∧q'≠it∧q'≠m:=by
   cases df:cO with
   |none=>
    exfalso;rw[df] at zH;obtain⟨ui,⟨_,_,_,h0⟩|⟨_,h1,_⟩⟩:=zH
    ·cases qu:a' with
     |none=>have:=h0 qu;omega
     |some x=>
      rcases L7 x qu with h|⟨_,h⟩
      ·rw[df] at h;cases h
      ·rw[df] at h;cases h
    ·cases h1
   |some q'=>
    rcases Ma q' df with h|h
    ·cases h;exact⟨q,rfl,IK,MU,Tw⟩
    ·have h1:=oI.size;have h2:=zS.size;have h3:=hI.lt;have h4:=gV.size;exact⟨q',rfl,by omega,by omega,by omega⟩
  refine GQ.br (out++[y.1],cO,a',c',R1++R2,nO+1) rfl ⟨by simp[IA],by simpa[aM,Value.cells,str] using zH,acJ,?_,?_,?_⟩ (by rw[hR];simp)
  ·refine List.Perm.trans ?_ hp;rw[hR];simp only[eD,cK,cP,List.singleton_append];exact(List.Perm.append_left _ (List.perm_middle (l₁:=R1.map (·.1)) (a:=y.1) (l₂:=R2.map (·.1))).symm)
  ·exact(hI6.mod oI id id).mod mW (fun e=>Tw (Option.some.inj e).symm) (fun e=>MU (Option.some.inj e).symm)
  ·exact K6 (gV.trans oI) (fun x hx=>by cases hx;exact IK) mW
def ed:Nat:=18446744073709551616
def tY (h:Nat)(s:Bs):Nat:=s.foldl (fun h c=>(31*h+c.toNat+1) % ed) h
def N5 (w:Nat):Nat:=
 let a:=w ^^^ (w*8192 % ed)
 let b:=a ^^^ (a / 128)
 b ^^^ (b*131072 % ed)
def bN (aJ:Nat)(s:Bs):Nat:=N5 (tY aJ s)
theorem Rp {h:Nat}(hh:h<ed)(s:Bs):tY h s<ed:=by
 induction s generalizing h with
 |nil=>exact hh
 |cons c s ih=>exact ih (fm _ (by decide))
theorem Gl {a b:Nat}(ha:a<ed)(hb:b<ed):a ^^^ b<ed:=Nat.xor_lt_two_pow (n:=64) ha hb
theorem ag1 {w:Nat}(hw:w<ed):N5 w<ed:=by
 have h1:w ^^^ (w*8192 % ed)<ed:=Gl hw (fm _ (by decide));have h2:(w ^^^ (w*8192 % ed)) ^^^ ((w ^^^ (w*8192 % ed)) / 128)<ed:=Gl h1 (Nat.lt_of_le_of_lt (Nat.div_le_self _ _) h1);exact Gl h2 (fm _ (by decide))
theorem Sh {aJ:Nat}(hs:aJ<ed)(s:Bs):bN aJ s<ed:=ag1 (Rp hs s)
theorem ag2 (x:Nat)(hx:x<ed)(w:World):aj prog 338 [uV x].toArray w fun v w'=>v=uV (N5 x)∧w'=w:=by
 have e1:IntKind.u64.wrap ((x:Int)*2^13)=((x*8192 % ed:Nat):Int):=XC x 13 13 rfl;have h1:x*8192 % ed<ed:=fm _ (by decide);have ha:x ^^^ (x*8192 % ed)<ed:=Gl hx h1;have h2:(x ^^^ (x*8192 % ed)) / 128<ed:=Nat.lt_of_le_of_lt (Nat.div_le_self _ _) ha;have hb:(x ^^^ (x*8192 % ed)) ^^^ ((x ^^^ (x*8192 % ed)) / 128)<ed:=Gl ha h2;refine aj.enter func338 rfl ntmps338 rfl (go ?_);refine GX.next rfl (GO.shl rfl rfl rfl rfl rfl (by decide) e1 ?_);refine GX.next rfl (GO.bits rfl rfl rfl rfl rfl (fun w=>OZ .u64 rfl _ _ _ hx h1) ?_);refine go ?_;refine GX.next rfl (GO.shr (c:=(((x ^^^ (x*8192 % ed)) / 128:Nat):Int)) rfl rfl rfl rfl rfl (by decide) (by simp[IntKind.bits]) ?_);refine GX.next rfl (GO.bits rfl rfl rfl rfl rfl (fun w=>OZ .u64 rfl _ _ _ ha h2) ?_);refine go ?_;refine GX.next rfl (GO.shl rfl rfl rfl rfl rfl (by decide) (XC _ 17 17 rfl) ?_);refine GX.next rfl (GO.bits rfl rfl rfl rfl rfl (fun w=>OZ .u64 rfl _ _ _ hb (fm _ (by decide))) ?_);refine go ?_;exact⟨rfl,rfl⟩
theorem abH (h0:Nat)(s:Bs)(hs:s.length<2^40)(w:World):aj prog 339 [uV h0,str s].toArray w fun v w'=>v=uV (tY h0 s)∧w'=w:=by
 refine aj.enter func339 rfl ntmps339 rfl (go ?_);refine GC.bP [1,7] (fun k:Nat=>[(0,uV (tY h0 (s.take k))),(8, .int .i64 k)]) (fun k w'=>k≤s.length∧w=w') (fun k=>s.length - k) 0 rfl rfl ⟨bh _,rfl⟩ ?_;rintro k _ ⟨hk,rfl⟩;refine go ?_;refine dj (fun hc=>?_) (fun hc=>?_)<;>refine go ?_
 ·have aP:k<s.length:=by omega
  refine GX.next rfl (GO.mul rfl rfl rfl rfl rfl rfl ?_);refine go ?_;refine GX.next rfl (GO.Am rfl rfl rfl rfl ah (u:=s[k]) (by simp[aP]) rfl ?_);have hu:s[k].toNat<256:=s[k].toNat_lt;refine go ?_;refine GX.next rfl (GO.add rfl rfl rfl rfl rfl rfl ?_);refine GX.next rfl (GO.add rfl rfl rfl rfl rfl rfl ?_);refine go ?_;have e:tY h0 (s.take (k+1))=(31*tY h0 (s.take k)+s[k].toNat+1) % ed:=by
   rw[kQ aP];simp only[tY,vt,ph,List.foldl_nil]
  refine GQ.again (k+1) ?_ ⟨aP,rfl⟩ ah;have e2:IntKind.u64.wrap (IntKind.u64.wrap (IntKind.u64.wrap (31*(tY h0 (s.take k):Int))+(s[k].toNat:Int))+1)=((tY h0 (s.take (k+1)):Nat):Int):=by
   rw[e,Kj,Kj,Kj];simp only[ed];omega
  rw[e2];exact cZ (l:=[0,8,1,7]) rfl
 have kB:k=s.length:=by omega
 subst kB;rw[j5];exact⟨rfl,rfl⟩
theorem Pe (aJ:Nat)(Ag:aJ<ed)(s:Bs)(hs:s.length<2^40)(w:World):aj prog 301 [uV aJ,str s].toArray w fun v w'=>v=uV (bN aJ s)∧w'=w:=by
 refine aj.enter func301 rfl ntmps301 rfl (go ?_);refine GX.call (abH aJ s hs w) rfl rfl rfl rfl rfl rfl ?_;rintro _ _ ⟨rfl,rfl⟩;refine go ?_;refine GX.call (ag2 (tY aJ s) (Rp Ag s) _) rfl rfl rfl rfl rfl rfl ?_;rintro _ _ ⟨rfl,rfl⟩;refine go ?_;exact⟨rfl,rfl⟩
end
section
abbrev Cs:=List (Option (Bs×Nat))
def filled (T:Cs):Nat:=T.countP (·.isSome)
structure eP (home:Bs→Nat)(T:Cs)(M:List (Bs×Nat)):Prop where
 mem:∀(p:Nat) (x:Bs×Nat),T[p]?=some (some x)→x∈M
 place:∀x∈M,∃d,T[(home x.1+d) % T.length]?=some (some x)∧∀e,e<d→∃y,T[(home x.1+e) % T.length]?=some (some y)∧y.1≠x.1
 nodup:(M.map (·.1)).Nodup
 count:filled T=M.length
 room:M.length<T.length
theorem least {p:Nat→Prop}:∀n,p n→∃m,p m∧∀e,e<m→¬p e:=by
 intro n
 induction n using Nat.strongRecOn with
 |ind n ih=>
  intro h
  by_cases hx:∃e,e<n∧p e
  ·obtain⟨e,h1,h2⟩:=hx;exact ih e h1 h2
  ·exact⟨n,h,fun e he hp=>hx ⟨e,he,hp⟩⟩
theorem QR {α:Type}{q:α→Bool}:∀{l:List α},(∀x∈l,q x=true)→l.countP q=l.length
 | [],_=>rfl
 |x::l,h=>by
  rw[List.countP_cons_of_pos (h x tC),QR fun y hy=>h y (fR _ hy),dR]
theorem eP.free {home:Bs→Nat}{T:Cs}{M:List (Bs×Nat)}(h:eP home T M):∃p,p<T.length∧T[p]?=some none:=by
 by_cases hx:∃p,p<T.length∧T[p]?=some none
 ·exact hx
 ·exfalso;have:filled T=T.length:=QR fun x lL=>by
   obtain⟨i,hi,rfl⟩:=List.getElem_of_mem lL;cases hc:T[i] with
   |some y=>rfl
   |none=>exact absurd ⟨i,hi,by rw[bO hi,hc]⟩ hx
  have h1:=h.count;have h2:=h.room;omega
theorem round {C a b:Nat}(hb:b<C):∃d,(a+d) % C=b:=by
 refine⟨C - a % C+b,?_⟩;have h1:a % C<C:=fm _ ah;have h2:a=C*(a / C)+a % C:=(Nat.div_add_mod a C).symm;have h3:a+(C - a % C+b)=C*(a / C+1)+b:=by rw[Nat.mul_add,kO];omega
 rw[h3,Nat.mul_add_mod];exact rf hb
theorem eP.find {home:Bs→Nat}{T:Cs}{M:List (Bs×Nat)}(h:eP home T M)(k:Bs) :
  ∃d,(∀e,e<d→∃y,T[(home k+e) % T.length]?=some (some y)∧y.1≠k) ∧
   ((k∉M.map (·.1)∧T[(home k+d) % T.length]?=some none)∨∃n,(k,n)∈M∧T[(home k+d) % T.length]?=some (some (k,n))):=by
 by_cases hk:k∈M.map (·.1)
 ·obtain⟨x,hx,rfl⟩:=bK.1 hk;obtain⟨d,h1,h2⟩:=h.place x hx;exact⟨d,h2, .inr ⟨x.2,hx,h1⟩⟩
 ·obtain⟨p,hp,hf⟩:=h.free;obtain⟨d0,Ed⟩:=round (a:=home k) hp;obtain⟨d,h1,h2⟩:=least (p:=fun d=>T[(home k+d) % T.length]?=some none) d0 (by rw[Ed];exact hf);refine⟨d,fun e he=>?_, .inl ⟨hk,h1⟩⟩;have aP:(home k+e) % T.length<T.length:=fm _ ah;cases hc:T[(home k+e) % T.length]? with
  |none=>rw[bO aP] at hc;cases hc
  |some o=>
   cases o with
   |none=>exact absurd hc (h2 e he)
   |some y=>exact⟨y,rfl,fun e'=>hk (by rw[←e'];exact bK.2 ⟨y,h.mem _ _ hc,rfl⟩)⟩
theorem abA {T:Cs}{p:Nat}{x:Bs×Nat}(h:T[p]?=some none):filled (T.set p (some x))=filled T+1:=by
 induction T generalizing p with
 |nil=>simp at h
 |cons c T ih=>
  cases p with
  |zero=>simp at h;subst h;simp[filled]
  |succ p=>
   have:=ih (p:=p) (by simpa using h);simp only[filled] at this ⊢;rw[AY,List.countP_cons,List.countP_cons,this];omega
theorem eP.put {home:Bs→Nat}{T:Cs}{M:List (Bs×Nat)}(h:eP home T M){k:Bs}{n d:Nat}(hk:k∉M.map (·.1))(hd:∀e,e<d→∃y,T[(home k+e) % T.length]?=some (some y)∧y.1≠k)
  (hf:T[(home k+d) % T.length]?=some none) (hr:M.length+1<T.length):eP home (T.set ((home k+d) % T.length) (some (k,n))) (M++[(k,n)]):=by
 have hq:(home k+d) % T.length<T.length:=fm _ ah;have rX:∀(p:Nat) (y:Bs×Nat),T[p]?=some (some y)→(T.set ((home k+d) % T.length) (some (k,n)))[p]?=some (some y):=by
  intro p y hy;have:(home k+d) % T.length≠p:=fun e=>by subst e;rw[hf] at hy;cases hy
  rw[dH this];exact hy
 refine⟨fun p x hx=>?_,fun x hx=>?_,?_,by rw[abA hf,h.count,bJ];rfl,by simpa using hr⟩
 ·by_cases hp:(home k+d) % T.length=p
  ·subst hp;rw[dJ hq] at hx;cases hx;simp
  ·rw[dH hp] at hx;exact tH _ (h.mem p x hx)
 ·rw[fS]
  rcases cJ.1 hx with hx|hx
  ·obtain⟨d',h1,h2⟩:=h.place x hx;exact⟨d',rX _ _ h1,fun e he=>let⟨y,q1,q2⟩:=h2 e he;⟨y,rX _ _ q1,q2⟩⟩
  ·simp at hx;subst hx;exact⟨d,dJ hq,fun e he=>let⟨y,q1,q2⟩:=hd e he;⟨y,rX _ _ q1,q2⟩⟩
 ·rw[eD,gu];refine⟨h.nodup,by simp,fun a ha b hb e=>?_⟩;simp at hb;subst hb;subst e;exact hk ha
theorem eP.empty (home:Bs→Nat)(C:Nat)(hC:0<C):eP home (List.replicate C none) []:=by
 refine⟨fun p x hx=>?_,fun x hx=>(by cases hx),mF,?_,by simpa using hC⟩
 ·rw[List.getElem?_replicate] at hx;split at hx<;>simp at hx
 ·simp[filled,List.countP_replicate]
end
end Go.Proofs.YtmlpbmgfmnmmmaaGreat.V.M
