/-
  Parts of the proof. No condition.
-/
import Derived.Test.YtmlpbmgfmnmmmaaGreatW2am
import Derived.Test.YtmlpbmgfmnmmmaaGreatW2an
set_option linter.unusedVariables false
set_option linter.unusedSimpArgs false
set_option maxRecDepth 8000
set_option maxHeartbeats 8000000
open Go.Proofs.Tryz
namespace Go.Proofs.YtmlpbmgfmnmmmaaGreat.V.M
attribute [local irreducible] GO GX aA fz aF aQ ao star
variable {o:Og}{w:World}
theorem ai3 {P:Program}{w:World}(t:TypeId)(a b:Nat)(ha:a<2^63)(hb:b<2^63):(binOp .and t (.int .i64 a) (.int .i64 b)).run P w = .ok (.int .i64 (a &&& b:Nat)) w:=by
 have aP:a &&& b<2^63:=Nat.and_lt_two_pow a hb;have hw:IntKind.i64.wrap ((a &&& b:Nat):Int)=((a &&& b:Nat):Int):=kN (by dsimp only[kR];omega);have hx:(BitVec.ofInt IntKind.i64.bits (a:Int) &&& BitVec.ofInt IntKind.i64.bits (b:Int)).toNat=a &&& b:=by
  have h1:a<2^IntKind.i64.bits:=by simp[IntKind.bits];omega
  have h2:b<2^IntKind.i64.bits:=by simp[IntKind.bits];omega
  simp[rf h1,rf h2]
 simp only[binOp,Op.intBits,ne_eq,not_true_eq_false,if_false,hx,hw];rfl
theorem OH {j:Nat}(hj:j≤24):1≤2^j∧2^j≤16777216:=⟨Nat.one_le_two_pow,Nat.pow_le_pow_right (by decide) hj⟩
theorem adg (h j:Nat)(hh:h<18446744073709551616)(hj:j≤24)(w:World):aj prog 307 [uV h,iV (2^j:Nat)].toArray w fun v w'=>v = .tuple #[iV (h % 2^j:Nat),iV 0]∧w'=w:=by
 obtain⟨p1,p2⟩:=OH hj;have e0:(2^j) &&& (2^j - 1)=0:=by rw[Nat.and_two_pow_sub_one_eq_mod,Nat.mod_self]
 have e1:h &&& (2^j - 1)=h % 2^j:=Nat.and_two_pow_sub_one_eq_mod h j;have hm:h % 2^j<2^j:=fm _ ah;generalize 2^j=s at p1 p2 e0 e1 hm;refine aj.enter func307 rfl ntmps307 rfl (go ?_);refine dj (fun h1=>?_) (fun h1=>?_)<;>refine go ?_
 ·omega
 refine dj (fun h1=>?_) (fun h1=>?_)<;>refine go ?_
 ·omega
 rw[show(s:Int) - 1=((s - 1:Nat):Int) by omega];refine GX.next rfl (GO.bits rfl rfl rfl rfl rfl (fun w=>ai3 _ s (s - 1) ah ah) (go ?_));rw[e0];refine go ?_;rw[show(s:Int) - 1=((s - 1:Nat):Int) by omega];refine go ?_;refine GX.next rfl (GO.bits rfl rfl rfl rfl rfl (fun w=>ai1 .u64 rfl _ h (s - 1) hh (by simp[IntKind.bits];omega)) (go ?_));rw[e1];refine go ?_;exact⟨rfl,rfl⟩
def tV:Option (Bs×Nat)→List Value
 |none=>[str [],iV 0]
 |some (k,n)=>[str k,iV n]
def fB (T:Cs):List Value:=(T.map tV).flatten
@[simp] theorem zp (c:Option (Bs×Nat)):(tV c).length=2:=by unfold tV;split<;>rfl
theorem Dp (T:Cs):(fB T).length=T.length*2:=by
 induction T with
 |nil=>rfl
 |cons c T ih=>
  simp only[fB,cK,om,bJ,zp,dR] at ih ⊢;omega
theorem sG:∀{T:Cs}{i:Nat}{c:Option (Bs×Nat)},T[i]?=some c→((fB T).drop (i*2)).take 2=tV c
 | [],_,_,h=>by simp at h
 |d::T,0,c,h=>by
  simp at h;subst h;simp only[fB,cK,om,vo,List.drop_zero];rw[vj (by simp)];exact eO (by simp)
 |d::T,i+1,c,h=>by
  simp only[fB,cK,om];rw[List.drop_append,l0 (by simp;omega),jF,zp,show(i+1)*2 - 2=i*2 by omega];exact sG (by simpa using h)
theorem KS {T:Cs}{i:Nat}{k:Bs}{n:Nat}(h:T[i]?=some (some (k,n))):(fB T)[i*2]?=some (str k):=by
 have:=congrArg (·[0]?) (sG h);simpa[tV] using this
theorem Qu {T:Cs}{i:Nat}{k:Bs}{n:Nat}(h:T[i]?=some (some (k,n))):(fB T)[i*2+1]?=some (iV n):=by
 have:=congrArg (·[1]?) (sG h);simpa[tV] using this
theorem Z8 (T:Cs):∀u∈fB T,u.oneCell'=true:=by
 intro u hu;simp only[fB,List.mem_flatten,bK] at hu;obtain⟨_,⟨c,_,rfl⟩,hu⟩:=hu;unfold tV at hu;split at hu<;>(simp at hu;rcases hu with rfl|rfl<;>rfl)
structure Tb where
 aJ:Nat
 T:Cs
 n:Nat
def gI (a:Nat)(t:Tb):It:=star fun x:Option Nat×Nat=>[aA a [uV t.aJ, .slice (ay x.1) t.T.length x.2,iV t.n],ao 329 2 x.1 t.T.length x.2 (fB t.T)]
instance {a:Nat}{t:Tb}:Zf (gI a t):=Zf.star fun _=>inferInstance
theorem sq {l r:List It}{a n c:Nat}{q:Option Nat}{cs:List Value}{t:Tb}(h:SH o w l)(hp:Pk l [aA a [uV t.aJ, .slice (ay q) n c,iV t.n],ao 329 2 q n c cs] r:=by repeat(first|exact Pk.nil|(apply Pk.cons;repeat(first|exact aB.here|apply aB.there))))
  (e1:n=t.T.length:=by simp) (e2:cs=fB t.T:=by simp):SH o w (gI a t::r):=by
 subst e1 e2;exact SH.fold (q,c) h hp
structure oA (t:Tb):Prop where
 aJ:t.aJ<18446744073709551616
 size:∃j,j≤24∧t.T.length=2^j
theorem oA.pos {t:Tb}(h:oA t):1≤t.T.length∧t.T.length≤16777216:=by
 obtain⟨j,hj,e⟩:=h.size;rw[e];exact OH hj
theorem Yl {a:Nat}{t:Tb}(hS:oA t)(hs:Start o w [fz (gI a t)]):aj prog 196 [ak a].toArray w (Po o (.bool false) []):=by
 have hH:=hs.sh;have hp:=hS.pos;obtain⟨⟨q,c⟩,hH⟩:=SH.dQ hH;replace hH:=SH.dW hH;dsimp only at hH;refine aj.enter func196 rfl ntmps196 rfl (gh ?_);exact⟨(xc ah).symm,hH.to⟩
theorem Gf {a:Nat}{t:Tb}(hS:oA t)(i:Nat)(hi:i<2^40)(hs:Start o w [fz (gI a t)]):aj prog 251 [ak a,iV i].toArray w (Po o (iV ((i+1) % t.T.length:Nat)) []):=by
 have hH:=hs.sh;have hp:=hS.pos;obtain⟨⟨q,c⟩,hH⟩:=SH.dQ hH;replace hH:=SH.dW hH;dsimp only at hH;refine aj.enter func251 rfl ntmps251 rfl (gh ?_);refine GX.next rfl (GO.rem rfl rfl rfl rfl rfl ah (c:=((i+1) % t.T.length:Nat)) (by rw[show(i:Int)+1=((i+1:Nat):Int) by omega];rfl) (gh ?_));exact⟨rfl,hH.to⟩
theorem Yc {a:Nat}{t:Tb}(hS:oA t)(k:Bs)(hk:k.length<2^40)(hs:Start o w [fz (gI a t)]):aj prog 252 [ak a,str k].toArray w (Po o (iV (bN t.aJ k % t.T.length:Nat)) []):=by
 have hH:=hs.sh;obtain⟨j,hj,e⟩:=hS.size;obtain⟨⟨q,c⟩,hH⟩:=SH.dQ hH;replace hH:=SH.dW hH;dsimp only at hH;refine aj.enter func252 rfl ntmps252 rfl (gh ?_);refine GC.bq (pl:=(aZ [0,3,6,12,18,21,24,10,28,30,17,35,36,39,42,45,48])) (T:=fun _=>False) (hm:=mixed) (h:=fun w hE hH=>gh ?_);refine GX.pA (hc:=Pe t.aJ hS.aJ k hk _) (h:=gh ?_);rw[show(t.T.length:Int)=((2^j:Nat):Int) by rw[e]];refine gh ?_;refine GX.pA (hc:=adg (bN t.aJ k) j (Sh hS.aJ k) hj _) (h:=gh ?_);rw[←e];refine gh ?_;exact⟨rfl,hH.to⟩
def Kp (t:Tb)(M:List (Bs×Nat))(k:Bs)(x:Nat×Bool):Prop:=
 ∃d,x.1=(bN t.aJ k+d) % t.T.length∧(∀e,e<d→∃y,t.T[(bN t.aJ k+e) % t.T.length]?=some (some y)∧y.1≠k) ∧
  ((x.2=false∧k∉M.map (·.1)∧t.T[x.1]?=some none)∨(x.2=true∧∃n,(k,n)∈M∧t.T[x.1]?=some (some (k,n))))
theorem Jw {k:Bs}{n:Nat}(h:k≠[]):(!(decide ((⟨k.toArray⟩:ByteArray)=⟨#[]⟩)&&(decide ((n:Int)=0)&&true)))=true:=by
 rw[bt (fun e=>h ((alw k).1 e))];rfl
theorem Kc {a:Nat}{t:Tb}{M:List (Bs×Nat)}(hS:oA t)(qn:eP (fun k=>bN t.aJ k) t.T M)(aR:∀x∈M,x.1≠[])(k:Bs)(hk:k.length<2^40)(hs:Start o w [fz (gI a t)]) :
  aj prog 292 [ak a,str k].toArray w (aU o (fun x:Nat×Bool => .tuple #[iV x.1, .bool x.2]) (Kp t M k) (fun _=>[])):=by
 have hH:=hs.sh;have hp:=hS.pos;obtain⟨D,Lt,zD⟩:=qn.find k;refine aj.enter func292 rfl ntmps292 rfl (gh ?_);refine GX.aL (hc:=fun _ hs=>Yc hS k hk hs) (h:=fun w hE hH=>gh ?_);refine GC.bP [0,1] (fun d:Nat=>[(6,iV ((bN t.aJ k+d) % t.T.length:Nat))]) (fun d w'=>d≤D∧SH o w' [fz (gI a t)]) (fun d=>D - d) 0 rfl rfl ⟨bh _,hH⟩ ?_;rintro d w ⟨hd,hH⟩;have hq:(bN t.aJ k+d) % t.T.length<t.T.length:=fm _ ah;have aO:=hH;obtain⟨⟨q,c⟩,aO⟩:=SH.dQ aO;replace aO:=SH.dW aO;dsimp only at aO;obtain⟨b,rfl⟩:=aO.lR (cs:=fB t.T);refine gh ?_
 by_cases Sy:d<D
 ·obtain⟨⟨k',n'⟩,hc,eE⟩:=Lt d Sy;refine GX.next rfl (GO.jz (hv:=sG hc) (h:=gh ?_));refine GC.Bl (show _=_ from congrArg (fun z=>some (Value.bool z)) (Jw (aR _ (qn.mem _ _ hc)))) (gh ?_);refine GX.next rfl (GO.cG (hv:=KS hc) (h:=gh ?_));refine ifs (fun h1=>?_) (fun h1=>?_)<;>refine gh ?_
  ·exact absurd h1 eE
  clear aO;refine GX.aL (hc:=fun _ hs=>Gf hS ((bN t.aJ k+d) % t.T.length) ah hs) (h:=fun w hE hH=>gh ?_);rw[Nat.mod_add_mod];exact GQ.br (d+1) rfl ⟨Sy,hH⟩ ah
 ·obtain rfl:d=D:=by omega
  rcases zD with⟨pL,hc⟩|⟨n,hm,hc⟩
  ·refine GX.next rfl (GO.jz (hv:=sG hc) (h:=gh ?_));exact⟨(_,false),rfl,⟨d,rfl,Lt, .inl ⟨rfl,pL,hc⟩⟩,hH.to⟩
  ·refine GX.next rfl (GO.jz (hv:=sG hc) (h:=gh ?_));refine GC.Bl (show _=_ from congrArg (fun z=>some (Value.bool z)) (Jw (aR _ (qn.mem _ _ hc)))) (gh ?_);refine GX.next rfl (GO.cG (hv:=KS hc) (h:=gh ?_));refine ifs (fun h1=>?_) (fun h1=>?_)<;>refine gh ?_
   ·exact⟨(_,true),rfl,⟨d,rfl,Lt, .inr ⟨rfl,n,hm,hc⟩⟩,hH.to⟩
   ·exact absurd rfl h1
theorem Yb {a:Nat}{t:Tb}(hS:oA t)(k:Bs)(n:Nat)(hs:Start o w [fz (gI a t)]):aj prog 291 [ak a,str k,iV n].toArray w (Po o (iV (if bI k then 0 else 2)) []):=by
 have hH:=hs.sh;refine aj.enter func291 rfl ntmps291 rfl (gh ?_);refine GX.aL (hc:=fun _ hs=>Yl hS hs) (h:=fun w hE hH=>gh ?_);refine GX.da (rO k w) rfl rfl rfl rfl rfl rfl (gh ?_);cases h:bI k with
 |false=>refine gh ?_;exact⟨rfl,hH.to⟩
 |true=>
  refine gh ?_;exact⟨rfl,hH.to⟩
theorem Jz {k:Bs}(h:bI k=true):k≠[]:=fun e=>by subst e;simp[bI] at h
theorem Fv {k:Bs}(h:bI k=true):k.length<2^40:=by
 have:=eN h;omega
theorem Ya {a:Nat}{t:Tb}{M:List (Bs×Nat)}(hS:oA t)(qn:eP (fun k=>bN t.aJ k) t.T M)(aR:∀x∈M,x.1≠[])(k:Bs)(n:Nat)(hs:Start o w [fz (gI a t)]) :
  aj prog 250 [ak a,str k,iV n].toArray w (aU o (fun x:Nat×Int => .tuple #[iV x.1,iV x.2]) (fun x=>(bI k=false∧x.2=2)∨(bI k=true∧k∉M.map (·.1)∧x.2=9)∨(bI k=true∧x.2=0∧Kp t M k (x.1,true))) (fun _=>[])):=by
 have hH:=hs.sh;refine aj.enter func250 rfl ntmps250 rfl (gh ?_);refine GX.aL (hc:=fun _ hs=>Yb hS k n hs) (h:=fun w hE hH=>gh ?_);cases hk:bI k with
 |false=>
  refine gh ?_;exact⟨(0,2),rfl, .inl ⟨rfl,rfl⟩,hH.to⟩
 |true=>
  refine gh ?_;refine GX.dX (hc:=fun _ hs=>Kc hS qn aR k (Fv hk) hs) (h:=?_);rintro⟨i,b⟩ w hF hE hH;replace hH:=SH.ap hH;cases b with
  |true=>
   refine gh ?_;exact⟨(i,0),rfl, .inr (.inr ⟨rfl,rfl,hF⟩),hH.to⟩
  |false=>
   refine gh ?_;obtain⟨d,_,_,⟨_,h,_⟩|⟨h,_⟩⟩:=hF
   ·exact⟨(0,9),rfl, .inr (.inl ⟨rfl,h,rfl⟩),hH.to⟩
   ·cases h
def q7 (M:List (Bs×Nat))(k:Bs):Int×Int:=if bI k=true then(match az M k with|some n=>(n,0)|none=>(0,9)) else(0,2)
theorem alO {a:Nat}{t:Tb}{M:List (Bs×Nat)}(hS:oA t)(qn:eP (fun k=>bN t.aJ k) t.T M)(aR:∀x∈M,x.1≠[])(k:Bs)(hs:Start o w [fz (gI a t)]) :
  aj prog 211 [ak a,str k].toArray w (Po o (.tuple #[iV (q7 M k).1,iV (q7 M k).2]) []):=by
 have hH:=hs.sh;refine aj.enter func211 rfl ntmps211 rfl (gh ?_);refine GX.dX (hc:=fun _ hs=>Ya hS qn aR k 0 hs) (h:=?_);rintro⟨i,e⟩ w hF hE hH;replace hH:=SH.ap hH
 rcases hF with⟨h1,rfl⟩|⟨h1,h2,rfl⟩|⟨h1,rfl,d,hi,_,⟨h,_⟩|⟨_,n,hm,hc⟩⟩
 ·refine gh ?_;exact⟨by simp[q7,h1],hH.to⟩
 ·refine gh ?_;exact⟨by simp[q7,h1,wE.2 h2],hH.to⟩
 ·cases h
 ·simp only at hc hi;have hl:=(aV.1 hc).1;have hb:=hS.pos;obtain⟨⟨q,c⟩,hH⟩:=SH.dQ hH;replace hH:=SH.dW hH;dsimp only at hH;obtain⟨b,rfl⟩:=hH.lR (cs:=fB t.T);refine gh ?_;refine GX.next rfl (GO.cG (hv:=Qu hc) (h:=gh ?_));exact⟨by simp[q7,h1,Ft qn.nodup hm],hH.to⟩
theorem WD {α:Type}:∀{M F:List α},M.Nodup→(∀x∈M,x∈F)→F.length=M.length→M.Perm F
 | [],F,_,_,h=>by rw[ga h]
 |x::M,F,hn,hs,h=>by
  obtain⟨F1,F2,rfl⟩:=List.append_of_mem (hs x (by simp));rw[eI] at hn;refine(List.Perm.cons x (WD (F:=F1++F2) hn.2 (fun y hy=>?_) (by simp at h ⊢;omega))).trans List.perm_middle.symm;have:=hs y (fR _ hy)
  rcases cJ.1 this with h1|h1
  ·exact tH _ h1
  ·rcases bY.1 h1 with rfl|h1
   ·exact absurd hy hn.1
   ·exact List.mem_append_right _ h1
theorem Wk {α β:Type}{f:α→β}:∀{l:List α},(l.map f).Nodup→l.Nodup
 | [],_=>mF
 |x::l,h=>by
  rw[cK,eI] at h;exact eI.2 ⟨fun hx=>h.1 (bK.2 ⟨x,hx,rfl⟩),Wk h.2⟩
theorem eP.perm {home:Bs→Nat}{T:Cs}{M N:List (Bs×Nat)}(h:eP home T M)(p:M.Perm N):eP home T N:=
 ⟨fun q x hx=>p.mem_iff.1 (h.mem q x hx),fun x hx=>h.place x (p.mem_iff.2 hx),(p.map _).nodup_iff.1 h.nodup,by rw[h.count,p.length_eq],by rw[←p.length_eq];exact h.room⟩
def gD (T:Cs):List (Bs×Nat):=T.filterMap id
theorem aek (T:Cs):(gD T).length=filled T:=by
 induction T with
 |nil=>rfl
 |cons c T ih=>
  cases c<;>simp[gD,filled] at ih ⊢
  ·exact ih
  ·exact ih
theorem eP.NB {home:Bs→Nat}{T:Cs}{M:List (Bs×Nat)}(h:eP home T M):M.Perm (gD T):=
 WD (Wk h.nodup) (fun x hx=>by
  obtain⟨d,h1,_⟩:=h.place x hx;simp only[gD,List.mem_filterMap,id];exact⟨some x,bF h1,rfl⟩) (by rw[aek,h.count])
def Fy (c:Option (Bs×Nat)):List (Bs×Nat):=c.toList
theorem eP.agX {home:Bs→Nat}{T:Cs}{M:List (Bs×Nat)}(h:eP home T M)(x:Bs×Nat)(hx:x∈gD T):x∈M:=h.NB.mem_iff.2 hx
theorem ael {T:Cs}{i:Nat}{c:Option (Bs×Nat)}(h:T[i]?=some c):gD (T.take (i+1))=gD (T.take i)++Fy c:=by
 rw[ic,h];cases c<;>simp[gD,Fy]
theorem G5 {T:Cs}{i:Nat}(c:Option (Bs×Nat))(hi:i<T.length):(fB T).take (i*2)++tV c++(fB T).drop (i*2+(tV c).length)=fB (T.set i c):=by
 induction T generalizing i with
 |nil=>simp at hi
 |cons d T ih=>
  cases i with
  |zero=>
   simp only[fB,cK,om,List.set_cons_zero,vo,List.take_zero,jF,dA,zp];rw[List.drop_append,l0 (by simp),zp];simp
  |succ i=>
   have h:=ih (i:=i) (by simpa using hi);simp only[fB,cK,om,AY,zp] at h ⊢;rw[←h,show(i+1)*2=2+i*2 by omega,List.take_append,eO (by simp),zp,show 2+i*2 - 2=i*2 by omega,show 2+i*2+2=2+(i*2+2) by omega,List.drop_append,l0 (by simp),zp,show 2+(i*2+2) - 2=i*2+2 by omega];simp
theorem Qt (n:Nat):(List.replicate n [str [],iV 0]).flatten=fB (List.replicate n none):=by
 simp[fB,tV]
theorem Yh {a:Nat}{t:Tb}{M:List (Bs×Nat)}(Ag:t.aJ<18446744073709551616)(hlen:t.T.length≤16777216)(qn:eP (fun k=>bN t.aJ k) t.T M)(aR:∀x∈M,bI x.1=true)(j:Nat)(hj:j≤24)(hr:M.length<2^j)(hs:Start o w [gI a t]) :
  aj prog 253 [ak a,iV (2^j:Nat)].toArray w (aU o (fun _:Cs => .tuple #[]) (fun T=>eP (fun k=>bN t.aJ k) T M∧T.length=2^j) (fun T=>[gI a { t with T:=T}])):=by
 obtain⟨p1,p2⟩:=OH hj;have hH:=hs.sh;have mn:=qn.NB;have hS:∀T:Cs,T.length=2^j→oA { t with T:=T}:=fun T e=>⟨Ag,j,hj,e⟩
 generalize he:2^j=s at p1 p2 hr hS;obtain⟨⟨q,c⟩,hH⟩:=SH.un hH;replace hH:=SH.ap hH;dsimp only at hH;refine aj.enter func253 rfl ntmps253 rfl (gh ?_);refine GX.Ji (h:=fun nb w hH=>gh ?_);refine GX.dw (h:=fun w hH=>gh ?_);rw[show((s:Nat):Int).toNat=s by simp] at hH;replace hH:=sq (t:={ t with T:=List.replicate s none}) (a:=a) (q:=some nb) (c:=s) hH (e1:=by simp) (e2:=Qt s);have hE0:eP (fun k=>bN t.aJ k) (List.replicate s none) (gD (t.T.take 0)):=eP.empty _ s ah;have fY:∀i,(gD (t.T.take i)).Sublist (gD t.T):=fun i=>(List.take_sublist i t.T).filterMap id
 have hMl:(gD t.T).length=M.length:=mn.length_eq.symm;have bX:((gD t.T).map (·.1)).Nodup:=(mn.map _).nodup_iff.1 qn.nodup;refine GC.bP [0,18,19] (fun x:Nat×Cs=>[(20,iV x.1)]) (fun x w'=>x.1≤t.T.length∧x.2.length=s∧eP (fun k=>bN t.aJ k) x.2 (gD (t.T.take x.1))∧SH o w' [gI a { t with T:=x.2},ao 329 2 q t.T.length c (fB t.T)]) (fun x=>t.T.length - x.1) (0,List.replicate s none) rfl rfl ⟨bh _,by simp,hE0,hH⟩ ?_;rintro⟨i,T⟩ w ⟨hi,hT,hO,hH⟩;simp only at hi hT hO hH;refine gh ?_;refine ifs (fun h1=>?_) (fun h1=>?_)<;>refine gh ?_
 ·have aP:i<t.T.length:=by omega
  obtain⟨b0,rfl⟩:=hH.pos (cs:=fB t.T);refine gh ?_;obtain⟨cl,hc⟩:∃cl,t.T[i]?=some cl:=⟨_,bO aP⟩
  have Mv:=ael hc;cases cl with
  |none=>
   refine GX.next rfl (GO.jz (hv:=sG hc) (h:=gh ?_));refine GX.cm (h:=fun x w hH=>gh ?_);refine GX.bc (h:=fun w hH=>gh ?_);refine GQ.br (i+1,T) rfl ⟨aP,hT,by rw[Mv];simpa[Fy] using hO,hH.to⟩ (by simp only;omega)
  |some kn=>
   obtain⟨k,n⟩:=kn;have ea:(k,n)∈M:=qn.mem _ _ hc;have mU:=aR _ ea;have dY:=fY (i+1);rw[Mv] at dY;have hle:=dY.length_le;simp only[Fy,Option.toList,bJ,dR,tF] at hle;have kD:k∉(gD (t.T.take i)).map (·.1):=fun hx=>by
    have:=bX.sublist (dY.map (·.1));rw[eD,gu] at this;exact this.2.2 k hx k (by simp[Fy]) rfl
   refine GX.next rfl (GO.jz (hv:=sG hc) (h:=gh ?_));refine GX.cm (h:=fun x w hH=>gh ?_);refine GX.bc (h:=fun w hH=>gh ?_);refine GC.Bl (show _=_ from congrArg (fun z=>some (Value.bool z)) (Jw (Jz mU))) (gh ?_);refine GX.dX (hc:=fun _ hs=>Kc (t:={ t with T:=T}) (hS T hT) hO (fun y hy=>Jz (aR y (qn.agX y ((fY i).subset hy)))) k (Fv mU) hs) (h:=?_);rintro⟨p,bb⟩ w hF hE hH;replace hH:=SH.ap hH;obtain⟨d,qz,ft,⟨rfl,_,xR⟩|⟨_,n',h,_⟩⟩:=hF
   ·simp only at qz ft xR;have gZ:=(aV.1 xR).1;refine gh ?_;obtain⟨⟨q2,c2⟩,hH⟩:=SH.un hH;replace hH:=SH.ap hH;dsimp only at hH;obtain⟨b2,rfl⟩:=hH.pos (cs:=fB T);refine GC.bq (pl:=(aZ [0,3,6,12,10,16,18,23])) (T:=fun _=>False) (hm:=mixed) (h:=fun w hE hH=>gh ?_);refine GX.gH (hb:=by rw[Dp];simp;omega) (hc:=show _=fB (T.set p (some (k,n))) from(by rw[show 0+((p:Nat):Int).toNat*2=p*2 by simp];exact G5 (some (k,n)) gZ)) (h:=fun w hH=>gh ?_);replace hH:=sq (t:={ t with T:=T.set p (some (k,n))}) (a:=a) (q:=some b2) hH (e1:=by simp);have jN:=hO.put (n:=n) kD ft (by rw[←qz];exact xR) ah;refine GQ.br (i+1,T.set p (some (k,n))) rfl ⟨aP,by simpa using hT,?_,hH.to⟩ (by simp only;omega);rw[Mv,qz];exact jN
   ·exact absurd (bK.2 ⟨_,h,rfl⟩) kD
 ·have BK:i=t.T.length:=by omega
  subst BK;rw[j5] at hO;exact⟨T,rfl,⟨hO.perm mn.symm,by rw[hT]⟩,hH.to⟩
structure iS (t:Tb)(M:List (Bs×Nat)):Prop where
 aJ:t.aJ<18446744073709551616
 size:∃j,3≤j∧j≤21∧t.T.length=2^j
 eC:eP (fun k=>bN t.aJ k) t.T M
 key:∀x∈M,bI x.1=true
 n:t.n=M.length
 room:4*M.length≤3*t.T.length
theorem iS.s {t:Tb}{M:List (Bs×Nat)}(h:iS t M):oA t:=⟨h.aJ,let⟨j,_,h2,h3⟩:=h.size;⟨j,by omega,h3⟩⟩
theorem iS.ne {t:Tb}{M:List (Bs×Nat)}(h:iS t M):∀x∈M,x.1≠[]:=fun x hx=>Jz (h.key x hx)
theorem iS.perm {t:Tb}{M N:List (Bs×Nat)}(h:iS t M)(p:M.Perm N):iS t N:=
 ⟨h.aJ,h.size,h.eC.perm p,fun x hx=>h.key x (p.mem_iff.2 hx),by rw[h.n,p.length_eq],by rw[←p.length_eq];exact h.room⟩
theorem alT (s:Nat)(hs0:s<18446744073709551616)(hs:Start o w []):aj prog 79 [uV s].toArray w (aU o ak (fun _=>True) (fun a=>[gI a ⟨s,List.replicate 8 none,0⟩])):=by
 have hH:=hs.sh;refine aj.enter func79 rfl ntmps79 rfl (gh ?_);refine GX.Ji (h:=fun nb w hH=>gh ?_);refine GX.cw (h:=fun a w hH=>gh ?_);exact⟨a,rfl,trivial,(sq (t:=⟨s,List.replicate 8 none,0⟩) (q:=some nb) hH (e1:=rfl) (e2:=Qt 8)).to⟩
theorem alM {a:Nat}{t:Tb}(hS:oA t)(hs:Start o w [fz (gI a t)]):aj prog 118 [ak a].toArray w (aU o ak (fun _=>True) (fun b=>[gI b t])):=by
 have hH:=hs.sh;have hp:=hS.pos;refine aj.enter func118 rfl ntmps118 rfl (gh ?_);refine GX.aL (hc:=fun _ hs=>Yl hS hs) (h:=fun w hE hH=>gh ?_);obtain⟨⟨q,c⟩,hH⟩:=SH.dQ hH;replace hH:=SH.dW hH;dsimp only at hH;have e1:=hH.ti (cs:=fB t.T);refine GC.bq (pl:=(aZ [0,3,6,12,15,18,27,30,33,10,22,37,26,39,44,45])) (T:=fun _=>False) (hm:=mixed) (h:=fun w hE hH=>gh ?_);refine GX.ew (hc:=fun _ hs=>aai (cs:=fB t.T) ah (Dp _) e1 (Z8 _) hs) (h:=?_);rintro⟨q3,c3⟩ w _ HI hH;replace hH:=SH.ap hH;refine gh ?_;refine GX.nJ (h:=fun b w hS hH=>gh ?_);exact⟨b,rfl,trivial,(sq (t:=t) hH).to⟩
theorem ail {j:Nat}(h:3*2^j<4*1048577):j≤20:=by
 rcases tB j 21 with h1|h1
 ·omega
 ·have:2^21≤2^j:=Nat.pow_le_pow_right (by decide) h1;omega
theorem alU {a:Nat}{t:Tb}{M:List (Bs×Nat)}(hT:iS t M)(k:Bs)(n:Nat)(hk:bI k=true)(qC:k∉M.map (·.1))(hM:M.length<1048576)(hs:Start o w [gI a t]) :
  aj prog 226 [ak a,str k,iV n].toArray w (aU o (fun _:Tb=>iV 0) (fun t'=>iS t' (M++[(k,n)])) (fun t'=>[gI a t'])):=by
 have hH:=hs.sh;have hS:=hT.s;have hp:=hS.pos;have hn:=hT.n;obtain⟨j,BL,hj,he⟩:=hT.size;refine aj.enter func226 rfl ntmps226 rfl (gh ?_);refine GX.aL (hc:=fun _ hs=>Yb hS k n hs) (h:=fun w hE hH=>gh ?_);rw[if_pos hk];refine gh ?_;refine GX.dX (hc:=fun _ hs=>Kc hS hT.eC hT.ne k (Fv hk) hs) (h:=?_);rintro⟨p0,bb⟩ w hF hE hH;replace hH:=SH.ap hH;obtain⟨d,qz,ft,⟨rfl,_,xR⟩|⟨_,n',h,_⟩⟩:=hF
 ·simp only at qz xR;refine gh ?_;have gO:=hH;obtain⟨⟨q,c⟩,hH⟩:=SH.un hH;replace hH:=SH.ap hH;dsimp only at hH;refine gh ?_;refine ifs (fun h1=>?_) (fun h1=>?_)<;>refine gh ?_
  ·omega
  clear gO;refine GC.bq (pl:=(aZ [0,3,6,18,21,24,10,12,15,28,30,33,36])) (T:=fun _=>False) (hm:=mixed) (h:=fun w hE hH=>gh ?_);refine GC.cut (X:=Nat×Tb) (fun x=>[(0,ak a),(1,str k),(2,iV n),(8,iV x.1)]) (fun x w'=>oA x.2∧eP (fun k=>bN x.2.aJ k) x.2.T M∧x.2.aJ=t.aJ∧x.2.n=t.n∧(∃j,3≤j∧j≤21∧x.2.T.length=2^j)∧4*(M.length+1)≤3*x.2.T.length∧Kp x.2 M k (x.1,false)∧SH o w' [gI a x.2]) ?_ ?_
  ·refine ifs (fun h2=>?_) (fun h2=>?_)<;>refine gh ?_
   ·refine gh ?_;rw[show 2*(t.T.length:Int)=((2^(j+1):Nat):Int) by rw[he,Nat.pow_succ];omega];have amC:j≤20:=ail (by rw[←he];omega);replace hH:=sq (t:=t) hH;refine GX.bS (hc:=fun _ hs=>Yh hT.aJ hp.2 hT.eC hT.key (j+1) ah (by rw[Nat.pow_succ,←he];have:=hT.room;omega) hs) (h:=?_);rintro T' w ⟨jN,nP⟩ hH;replace hH:=SH.ap hH;refine gh ?_;have qp:oA { t with T:=T'}:=⟨hT.aJ,j+1,by omega,nP⟩
    refine GX.dX (hc:=fun _ hs=>Kc qp jN hT.ne k (Fv hk) hs) (h:=?_);rintro⟨p1,bb⟩ w hF hE hH;replace hH:=SH.ap hH;refine gh ?_;obtain⟨d',f1,f2,⟨rfl,f3,f4⟩|⟨_,n',h,_⟩⟩:=hF
    ·exact GQ.dx (p1,{ t with T:=T'}) (cZ (l:=[0,1,2,8]) rfl) ⟨qp,jN,rfl,rfl,⟨j+1,by omega,by omega,nP⟩,by simp only;rw[nP,Nat.pow_succ,←he];have:=hT.room;omega,⟨d',f1,f2, .inl ⟨rfl,f3,f4⟩⟩,hH.to⟩
    ·exact absurd (bK.2 ⟨_,h,rfl⟩) qC
   ·refine gh ?_;exact GQ.dx (p0,t) (cZ (l:=[0,1,2,8]) rfl) ⟨hS,hT.eC,rfl,rfl,⟨j,BL,hj,he⟩,by simp only;omega,⟨d,qz,ft, .inl ⟨rfl,qC,xR⟩⟩,(sq (t:=t) hH).to⟩
  rintro⟨p,u⟩ w ⟨LW,DW,IV,TK,SR,TB,hFu,hH⟩;simp only at LW DW IV TK SR TB hH;obtain⟨d',f1,f2,⟨_,_,f4⟩|⟨h,_⟩⟩:=hFu
  ·simp only at f1 f2 f4;have hpu:=(aV.1 f4).1;have MT:=LW.pos;obtain⟨⟨q,c⟩,hH⟩:=SH.un hH;replace hH:=SH.ap hH;dsimp only at hH;obtain⟨b2,rfl⟩:=hH.pos (cs:=fB u.T);refine gh ?_;refine GX.vf (hb:=by rw[Dp];simp;omega) (hc:=show _=fB (u.T.set p (some (k,n))) from(by rw[show 0+((p:Nat):Int).toNat*2=p*2 by simp];exact G5 (some (k,n)) hpu)) (h:=fun w hH=>gh ?_);refine GX.dw (h:=fun w hH=>gh ?_);refine⟨⟨u.aJ,u.T.set p (some (k,n)),u.n+1⟩,rfl,⟨LW.aJ,by simpa using SR,?_,fun x hx=>?_,by simp[TK,hn],by simpa using TB⟩,(sq (t:=⟨u.aJ,u.T.set p (some (k,n)),u.n+1⟩) (a:=a) (q:=some b2) hH (e1:=by simp)).to⟩
   ·have:=DW.put (n:=n) qC f2 (by rw[←f1];exact f4) ah;rw[←f1] at this;exact this
   ·rcases cJ.1 hx with hx|hx
    ·exact hT.key x hx
    ·simp at hx;subst hx;exact hk
  ·cases h
 ·exact absurd (bK.2 ⟨_,h,rfl⟩) qC
end Go.Proofs.YtmlpbmgfmnmmmaaGreat.V.M
