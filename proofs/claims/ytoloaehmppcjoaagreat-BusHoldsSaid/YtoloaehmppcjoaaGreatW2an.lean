/-
  Parts of the proof. No condition.
-/
import Derived.Test.YtoloaehmppcjoaaGreatW2am
set_option linter.unusedVariables false
set_option linter.unusedSimpArgs false
set_option maxRecDepth 8000
set_option maxHeartbeats 8000000
open Go.Proofs.Tryz
namespace Go.Proofs.YtoloaehmppcjoaaGreat.V.M
attribute [local irreducible] GO GX aB fz aF aS aq star
variable {o:Og}{w:World}
theorem aiZ {P:Program}{w:World}(t:TypeId)(a b:Nat)(ha:a<2^63)(hb:b<2^63):(binOp .and t (.int .i64 a) (.int .i64 b)).run P w = .ok (.int .i64 (a &&& b:Nat)) w:=by
 have aN:a &&& b<2^63:=Nat.and_lt_two_pow a hb;have hw:IntKind.i64.wrap ((a &&& b:Nat):Int)=((a &&& b:Nat):Int):=lf (by dsimp only[lj];omega);have hx:(BitVec.ofInt IntKind.i64.bits (a:Int) &&& BitVec.ofInt IntKind.i64.bits (b:Int)).toNat=a &&& b:=by
  have h1:a<2^IntKind.i64.bits:=by simp[IntKind.bits];omega
  have h2:b<2^IntKind.i64.bits:=by simp[IntKind.bits];omega
  simp[rB h1,rB h2]
 simp only[binOp,Op.intBits,ne_eq,not_true_eq_false,if_false,hx,hw];rfl
theorem OP {j:Nat}(hj:j≤24):1≤2^j∧2^j≤16777216:=⟨Nat.one_le_two_pow,Nat.pow_le_pow_right (by decide) hj⟩
theorem adp (h j:Nat)(hh:h<18446744073709551616)(hj:j≤24)(w:World):aj prog 339 [uV h,iV (2^j:Nat)].toArray w fun v w'=>v = .tuple #[iV (h % 2^j:Nat),iV 0]∧w'=w:=by
 obtain⟨p1,p2⟩:=OP hj;have e0:(2^j) &&& (2^j - 1)=0:=by rw[Nat.and_two_pow_sub_one_eq_mod,Nat.mod_self]
 have e1:h &&& (2^j - 1)=h % 2^j:=Nat.and_two_pow_sub_one_eq_mod h j;have hm:h % 2^j<2^j:=e7 _ ah;generalize 2^j=s at p1 p2 e0 e1 hm;refine aj.enter func339 rfl ntmps339 rfl (go ?_);refine dq (fun h1=>?_) (fun h1=>?_)<;>refine go ?_
 ·omega
 refine dq (fun h1=>?_) (fun h1=>?_)<;>refine go ?_
 ·omega
 rw[show(s:Int) - 1=((s - 1:Nat):Int) by omega];refine GX.next rfl (GO.bits rfl rfl rfl rfl rfl (fun w=>aiZ _ s (s - 1) ah ah) (go ?_));rw[e0];refine go ?_;rw[show(s:Int) - 1=((s - 1:Nat):Int) by omega];refine go ?_;refine GX.next rfl (GO.bits rfl rfl rfl rfl rfl (fun w=>aiX .u64 rfl _ h (s - 1) hh (by simp[IntKind.bits];omega)) (go ?_));rw[e1];refine go ?_;exact⟨rfl,rfl⟩
def uo:Option (Bs×Nat)→List Value
 |none=>[str [],iV 0]
 |some (k,n)=>[str k,iV n]
def fK (T:Cs):List Value:=(T.map uo).flatten
@[simp] theorem zm (c:Option (Bs×Nat)):(uo c).length=2:=by unfold uo;split<;>rfl
theorem Dq (T:Cs):(fK T).length=T.length*2:=by
 induction T with
 |nil=>rfl
 |cons c T ih=>
  simp only[fK,cJ,oL,bH,zm,ek] at ih ⊢;omega
theorem tf:∀{T:Cs}{i:Nat}{c:Option (Bs×Nat)},T[i]?=some c→((fK T).drop (i*2)).take 2=uo c
 | [],_,_,h=>by simp at h
 |d::T,0,c,h=>by
  simp at h;subst h;simp only[fK,cJ,oL,vB,List.drop_zero];rw[vt (by simp)];exact fw (by simp)
 |d::T,i+1,c,h=>by
  simp only[fK,cJ,oL];rw[List.drop_append,mm (by simp;omega),kC,zm,show(i+1)*2 - 2=i*2 by omega];exact tf (by simpa using h)
theorem K4 {T:Cs}{i:Nat}{k:Bs}{n:Nat}(h:T[i]?=some (some (k,n))):(fK T)[i*2]?=some (str k):=by
 have:=congrArg (·[0]?) (tf h);simpa[uo] using this
theorem Qx {T:Cs}{i:Nat}{k:Bs}{n:Nat}(h:T[i]?=some (some (k,n))):(fK T)[i*2+1]?=some (iV n):=by
 have:=congrArg (·[1]?) (tf h);simpa[uo] using this
theorem Z8 (T:Cs):∀u∈fK T,u.oneCell'=true:=by
 intro u hu;simp only[fK,List.mem_flatten,bG] at hu;obtain⟨_,⟨c,_,rfl⟩,hu⟩:=hu;unfold uo at hu;split at hu<;>(simp at hu;rcases hu with rfl|rfl<;>rfl)
structure Tb where
 aJ:Nat
 T:Cs
 n:Nat
def gV (a:Nat)(t:Tb):It:=star fun x:Option Nat×Nat=>[aB a [uV t.aJ, .slice (aA x.1) t.T.length x.2,iV t.n],aq 352 2 x.1 t.T.length x.2 (fK t.T)]
instance {a:Nat}{t:Tb}:Zf (gV a t):=Zf.star fun _=>inferInstance
theorem sL {l r:List It}{a n c:Nat}{q:Option Nat}{cs:List Value}{t:Tb}(h:SH o w l)(hp:Pk l [aB a [uV t.aJ, .slice (aA q) n c,iV t.n],aq 352 2 q n c cs] r:=by repeat(first|exact Pk.nil|(apply Pk.cons;repeat(first|exact az.here|apply az.there))))
  (e1:n=t.T.length:=by simp) (e2:cs=fK t.T:=by simp):SH o w (gV a t::r):=by
 subst e1 e2;exact SH.fold (q,c) h hp
structure oR (t:Tb):Prop where
 aJ:t.aJ<18446744073709551616
 size:∃j,j≤24∧t.T.length=2^j
theorem oR.pos {t:Tb}(h:oR t):1≤t.T.length∧t.T.length≤16777216:=by
 obtain⟨j,hj,e⟩:=h.size;rw[e];exact OP hj
theorem Yn {a:Nat}{t:Tb}(hS:oR t)(hs:Start o w [fz (gV a t)]):aj prog 221 [ak a].toArray w (Po o (.bool false) []):=by
 have hH:=hs.sh;have hp:=hS.pos;obtain⟨⟨q,c⟩,hH⟩:=SH.dV hH;replace hH:=SH.ed hH;dsimp only at hH;refine aj.enter func221 rfl ntmps221 rfl (gh ?_);exact⟨(xr ah).symm,hH.to⟩
theorem Gg {a:Nat}{t:Tb}(hS:oR t)(i:Nat)(hi:i<2^40)(hs:Start o w [fz (gV a t)]):aj prog 279 [ak a,iV i].toArray w (Po o (iV ((i+1) % t.T.length:Nat)) []):=by
 have hH:=hs.sh;have hp:=hS.pos;obtain⟨⟨q,c⟩,hH⟩:=SH.dV hH;replace hH:=SH.ed hH;dsimp only at hH;refine aj.enter func279 rfl ntmps279 rfl (gh ?_);refine GX.next rfl (GO.rem rfl rfl rfl rfl rfl ah (c:=((i+1) % t.T.length:Nat)) (by rw[show(i:Int)+1=((i+1:Nat):Int) by omega];rfl) (gh ?_));exact⟨rfl,hH.to⟩
theorem Yd {a:Nat}{t:Tb}(hS:oR t)(k:Bs)(hk:k.length<2^40)(hs:Start o w [fz (gV a t)]):aj prog 280 [ak a,str k].toArray w (Po o (iV (bK t.aJ k % t.T.length:Nat)) []):=by
 have hH:=hs.sh;obtain⟨j,hj,e⟩:=hS.size;obtain⟨⟨q,c⟩,hH⟩:=SH.dV hH;replace hH:=SH.ed hH;dsimp only at hH;refine aj.enter func280 rfl ntmps280 rfl (gh ?_);refine GC.br (pl:=(bg [0,3,6,12,18,21,24,10,28,30,17,35,36,39,42,45,48])) (T:=fun _=>False) (hm:=mixed) (h:=fun w hE hH=>gh ?_);refine GX.pS (hc:=Pg t.aJ hS.aJ k hk _) (h:=gh ?_);rw[show(t.T.length:Int)=((2^j:Nat):Int) by rw[e]];refine gh ?_;refine GX.pS (hc:=adp (bK t.aJ k) j (Se hS.aJ k) hj _) (h:=gh ?_);rw[←e];refine gh ?_;exact⟨rfl,hH.to⟩
def KD (t:Tb)(M:List (Bs×Nat))(k:Bs)(x:Nat×Bool):Prop:=
 ∃d,x.1=(bK t.aJ k+d) % t.T.length∧(∀e,e<d→∃y,t.T[(bK t.aJ k+e) % t.T.length]?=some (some y)∧y.1≠k) ∧
  ((x.2=false∧k∉M.map (·.1)∧t.T[x.1]?=some none)∨(x.2=true∧∃n,(k,n)∈M∧t.T[x.1]?=some (some (k,n))))
theorem JG {k:Bs}{n:Nat}(h:k≠[]):(!(decide ((⟨k.toArray⟩:ByteArray)=⟨#[]⟩)&&(decide ((n:Int)=0)&&true)))=true:=by
 rw[bQ (fun e=>h ((aln k).1 e))];rfl
theorem Kt {a:Nat}{t:Tb}{M:List (Bs×Nat)}(hS:oR t)(qM:fb (fun k=>bK t.aJ k) t.T M)(aP:∀x∈M,x.1≠[])(k:Bs)(hk:k.length<2^40)(hs:Start o w [fz (gV a t)]) :
  aj prog 324 [ak a,str k].toArray w (aX o (fun x:Nat×Bool => .tuple #[iV x.1, .bool x.2]) (KD t M k) (fun _=>[])):=by
 have hH:=hs.sh;have hp:=hS.pos;obtain⟨D,LD,zD⟩:=qM.find k;refine aj.enter func324 rfl ntmps324 rfl (gh ?_);refine GX.aM (hc:=fun _ hs=>Yd hS k hk hs) (h:=fun w hE hH=>gh ?_);refine GC.bR [0,1] (fun d:Nat=>[(6,iV ((bK t.aJ k+d) % t.T.length:Nat))]) (fun d w'=>d≤D∧SH o w' [fz (gV a t)]) (fun d=>D - d) 0 rfl rfl ⟨bh _,hH⟩ ?_;rintro d w ⟨hd,hH⟩;have hq:(bK t.aJ k+d) % t.T.length<t.T.length:=e7 _ ah;have aQ:=hH;obtain⟨⟨q,c⟩,aQ⟩:=SH.dV aQ;replace aQ:=SH.ed aQ;dsimp only at aQ;obtain⟨b,rfl⟩:=aQ.l8 (cs:=fK t.T);refine gh ?_
 by_cases Sw:d<D
 ·obtain⟨⟨k',n'⟩,hc,dR⟩:=LD d Sw;refine GX.next rfl (GO.kg (hv:=tf hc) (h:=gh ?_));refine GC.Bl (show _=_ from congrArg (fun z=>some (Value.bool z)) (JG (aP _ (qM.mem _ _ hc)))) (gh ?_);refine GX.next rfl (GO.cT (hv:=K4 hc) (h:=gh ?_));refine ifs (fun h1=>?_) (fun h1=>?_)<;>refine gh ?_
  ·exact absurd h1 dR
  clear aQ;refine GX.aM (hc:=fun _ hs=>Gg hS ((bK t.aJ k+d) % t.T.length) ah hs) (h:=fun w hE hH=>gh ?_);rw[Nat.mod_add_mod];exact GQ.bj (d+1) rfl ⟨Sw,hH⟩ ah
 ·obtain rfl:d=D:=by omega
  rcases zD with⟨rT,hc⟩|⟨n,hm,hc⟩
  ·refine GX.next rfl (GO.kg (hv:=tf hc) (h:=gh ?_));exact⟨(_,false),rfl,⟨d,rfl,LD, .inl ⟨rfl,rT,hc⟩⟩,hH.to⟩
  ·refine GX.next rfl (GO.kg (hv:=tf hc) (h:=gh ?_));refine GC.Bl (show _=_ from congrArg (fun z=>some (Value.bool z)) (JG (aP _ (qM.mem _ _ hc)))) (gh ?_);refine GX.next rfl (GO.cT (hv:=K4 hc) (h:=gh ?_));refine ifs (fun h1=>?_) (fun h1=>?_)<;>refine gh ?_
   ·exact⟨(_,true),rfl,⟨d,rfl,LD, .inr ⟨rfl,n,hm,hc⟩⟩,hH.to⟩
   ·exact absurd rfl h1
theorem Yc {a:Nat}{t:Tb}(hS:oR t)(k:Bs)(n:Nat)(hs:Start o w [fz (gV a t)]):aj prog 323 [ak a,str k,iV n].toArray w (Po o (iV (if bf k then 0 else 2)) []):=by
 have hH:=hs.sh;refine aj.enter func323 rfl ntmps323 rfl (gh ?_);refine GX.aM (hc:=fun _ hs=>Yn hS hs) (h:=fun w hE hH=>gh ?_);refine GX.da (sr k w) rfl rfl rfl rfl rfl rfl (gh ?_);cases h:bf k with
 |false=>refine gh ?_;exact⟨rfl,hH.to⟩
 |true=>
  refine gh ?_;exact⟨rfl,hH.to⟩
theorem JJ {k:Bs}(h:bf k=true):k≠[]:=fun e=>by subst e;simp[bf] at h
theorem FD {k:Bs}(h:bf k=true):k.length<2^40:=by
 have:=dM h;omega
theorem Yb {a:Nat}{t:Tb}{M:List (Bs×Nat)}(hS:oR t)(qM:fb (fun k=>bK t.aJ k) t.T M)(aP:∀x∈M,x.1≠[])(k:Bs)(n:Nat)(hs:Start o w [fz (gV a t)]) :
  aj prog 278 [ak a,str k,iV n].toArray w (aX o (fun x:Nat×Int => .tuple #[iV x.1,iV x.2]) (fun x=>(bf k=false∧x.2=2)∨(bf k=true∧k∉M.map (·.1)∧x.2=9)∨(bf k=true∧x.2=0∧KD t M k (x.1,true))) (fun _=>[])):=by
 have hH:=hs.sh;refine aj.enter func278 rfl ntmps278 rfl (gh ?_);refine GX.aM (hc:=fun _ hs=>Yc hS k n hs) (h:=fun w hE hH=>gh ?_);cases hk:bf k with
 |false=>
  refine gh ?_;exact⟨(0,2),rfl, .inl ⟨rfl,rfl⟩,hH.to⟩
 |true=>
  refine gh ?_;refine GX.ef (hc:=fun _ hs=>Kt hS qM aP k (FD hk) hs) (h:=?_);rintro⟨i,b⟩ w hF hE hH;replace hH:=SH.ap hH;cases b with
  |true=>
   refine gh ?_;exact⟨(i,0),rfl, .inr (.inr ⟨rfl,rfl,hF⟩),hH.to⟩
  |false=>
   refine gh ?_;obtain⟨d,_,_,⟨_,h,_⟩|⟨h,_⟩⟩:=hF
   ·exact⟨(0,9),rfl, .inr (.inl ⟨rfl,h,rfl⟩),hH.to⟩
   ·cases h
def rz (M:List (Bs×Nat))(k:Bs):Int×Int:=if bf k=true then(match ay M k with|some n=>(n,0)|none=>(0,9)) else(0,2)
theorem alI {a:Nat}{t:Tb}{M:List (Bs×Nat)}(hS:oR t)(qM:fb (fun k=>bK t.aJ k) t.T M)(aP:∀x∈M,x.1≠[])(k:Bs)(hs:Start o w [fz (gV a t)]) :
  aj prog 236 [ak a,str k].toArray w (Po o (.tuple #[iV (rz M k).1,iV (rz M k).2]) []):=by
 have hH:=hs.sh;refine aj.enter func236 rfl ntmps236 rfl (gh ?_);refine GX.ef (hc:=fun _ hs=>Yb hS qM aP k 0 hs) (h:=?_);rintro⟨i,e⟩ w hF hE hH;replace hH:=SH.ap hH
 rcases hF with⟨h1,rfl⟩|⟨h1,h2,rfl⟩|⟨h1,rfl,d,hi,_,⟨h,_⟩|⟨_,n,hm,hc⟩⟩
 ·refine gh ?_;exact⟨by simp[rz,h1],hH.to⟩
 ·refine gh ?_;exact⟨by simp[rz,h1,wM.2 h2],hH.to⟩
 ·cases h
 ·simp only at hc hi;have hl:=(aV.1 hc).1;have hb:=hS.pos;obtain⟨⟨q,c⟩,hH⟩:=SH.dV hH;replace hH:=SH.ed hH;dsimp only at hH;obtain⟨b,rfl⟩:=hH.l8 (cs:=fK t.T);refine gh ?_;refine GX.next rfl (GO.cT (hv:=Qx hc) (h:=gh ?_));exact⟨by simp[rz,h1,FA qM.nodup hm],hH.to⟩
theorem WE {α:Type}:∀{M F:List α},M.Nodup→(∀x∈M,x∈F)→F.length=M.length→M.Perm F
 | [],F,_,_,h=>by rw[gu h]
 |x::M,F,hn,hs,h=>by
  obtain⟨F1,F2,rfl⟩:=List.append_of_mem (hs x (by simp));rw[eQ] at hn;refine(List.Perm.cons x (WE (F:=F1++F2) hn.2 (fun y hy=>?_) (by simp at h ⊢;omega))).trans List.perm_middle.symm;have:=hs y (fP _ hy)
  rcases cx.1 this with h1|h1
  ·exact tZ _ h1
  ·rcases bU.1 h1 with rfl|h1
   ·exact absurd hy hn.1
   ·exact List.mem_append_right _ h1
theorem Wl {α β:Type}{f:α→β}:∀{l:List α},(l.map f).Nodup→l.Nodup
 | [],_=>lP
 |x::l,h=>by
  rw[cJ,eQ] at h;exact eQ.2 ⟨fun hx=>h.1 (bG.2 ⟨x,hx,rfl⟩),Wl h.2⟩
theorem fb.perm {home:Bs→Nat}{T:Cs}{M N:List (Bs×Nat)}(h:fb home T M)(p:M.Perm N):fb home T N:=
 ⟨fun q x hx=>p.mem_iff.1 (h.mem q x hx),fun x hx=>h.place x (p.mem_iff.2 hx),(p.map _).nodup_iff.1 h.nodup,by rw[h.count,p.length_eq],by rw[←p.length_eq];exact h.room⟩
def gP (T:Cs):List (Bs×Nat):=T.filterMap id
theorem aet (T:Cs):(gP T).length=filled T:=by
 induction T with
 |nil=>rfl
 |cons c T ih=>
  cases c<;>simp[gP,filled] at ih ⊢
  ·exact ih
  ·exact ih
theorem fb.NK {home:Bs→Nat}{T:Cs}{M:List (Bs×Nat)}(h:fb home T M):M.Perm (gP T):=
 WE (Wl h.nodup) (fun x hx=>by
  obtain⟨d,h1,_⟩:=h.place x hx;simp only[gP,List.mem_filterMap,id];exact⟨some x,bD h1,rfl⟩) (by rw[aet,h.count])
def FE (c:Option (Bs×Nat)):List (Bs×Nat):=c.toList
theorem fb.agV {home:Bs→Nat}{T:Cs}{M:List (Bs×Nat)}(h:fb home T M)(x:Bs×Nat)(hx:x∈gP T):x∈M:=h.NK.mem_iff.2 hx
theorem aeu {T:Cs}{i:Nat}{c:Option (Bs×Nat)}(h:T[i]?=some c):gP (T.take (i+1))=gP (T.take i)++FE c:=by
 rw[gv,h];cases c<;>simp[gP,FE]
theorem G7 {T:Cs}{i:Nat}(c:Option (Bs×Nat))(hi:i<T.length):(fK T).take (i*2)++uo c++(fK T).drop (i*2+(uo c).length)=fK (T.set i c):=by
 induction T generalizing i with
 |nil=>simp at hi
 |cons d T ih=>
  cases i with
  |zero=>
   simp only[fK,cJ,oL,List.set_cons_zero,vB,List.take_zero,kC,dz,zm];rw[List.drop_append,mm (by simp),zm];simp
  |succ i=>
   have h:=ih (i:=i) (by simpa using hi);simp only[fK,cJ,oL,AX,zm] at h ⊢;rw[←h,show(i+1)*2=2+i*2 by omega,List.take_append,fw (by simp),zm,show 2+i*2 - 2=i*2 by omega,show 2+i*2+2=2+(i*2+2) by omega,List.drop_append,mm (by simp),zm,show 2+(i*2+2) - 2=i*2+2 by omega];simp
theorem Qw (n:Nat):(List.replicate n [str [],iV 0]).flatten=fK (List.replicate n none):=by
 simp[fK,uo]
theorem Yi {a:Nat}{t:Tb}{M:List (Bs×Nat)}(Ag:t.aJ<18446744073709551616)(hlen:t.T.length≤16777216)(qM:fb (fun k=>bK t.aJ k) t.T M)(aP:∀x∈M,bf x.1=true)(j:Nat)(hj:j≤24)(hr:M.length<2^j)(hs:Start o w [gV a t]) :
  aj prog 281 [ak a,iV (2^j:Nat)].toArray w (aX o (fun _:Cs => .tuple #[]) (fun T=>fb (fun k=>bK t.aJ k) T M∧T.length=2^j) (fun T=>[gV a { t with T:=T}])):=by
 obtain⟨p1,p2⟩:=OP hj;have hH:=hs.sh;have jd:=qM.NK;have hS:∀T:Cs,T.length=2^j→oR { t with T:=T}:=fun T e=>⟨Ag,j,hj,e⟩
 generalize he:2^j=s at p1 p2 hr hS;obtain⟨⟨q,c⟩,hH⟩:=SH.un hH;replace hH:=SH.ap hH;dsimp only at hH;refine aj.enter func281 rfl ntmps281 rfl (gh ?_);refine GX.Js (h:=fun nb w hH=>gh ?_);refine GX.dC (h:=fun w hH=>gh ?_);rw[show((s:Nat):Int).toNat=s by simp] at hH;replace hH:=sL (t:={ t with T:=List.replicate s none}) (a:=a) (q:=some nb) (c:=s) hH (e1:=by simp) (e2:=Qw s);have hE0:fb (fun k=>bK t.aJ k) (List.replicate s none) (gP (t.T.take 0)):=fb.empty _ s ah;have eO:∀i,(gP (t.T.take i)).Sublist (gP t.T):=fun i=>(List.take_sublist i t.T).filterMap id
 have hMl:(gP t.T).length=M.length:=jd.length_eq.symm;have bT:((gP t.T).map (·.1)).Nodup:=(jd.map _).nodup_iff.1 qM.nodup;refine GC.bR [0,18,19] (fun x:Nat×Cs=>[(20,iV x.1)]) (fun x w'=>x.1≤t.T.length∧x.2.length=s∧fb (fun k=>bK t.aJ k) x.2 (gP (t.T.take x.1))∧SH o w' [gV a { t with T:=x.2},aq 352 2 q t.T.length c (fK t.T)]) (fun x=>t.T.length - x.1) (0,List.replicate s none) rfl rfl ⟨bh _,by simp,hE0,hH⟩ ?_;rintro⟨i,T⟩ w ⟨hi,hT,hO,hH⟩;simp only at hi hT hO hH;refine gh ?_;refine ifs (fun h1=>?_) (fun h1=>?_)<;>refine gh ?_
 ·have aN:i<t.T.length:=by omega
  obtain⟨b0,rfl⟩:=hH.pos (cs:=fK t.T);refine gh ?_;obtain⟨cl,hc⟩:∃cl,t.T[i]?=some cl:=⟨_,bO aN⟩
  have MD:=aeu hc;cases cl with
  |none=>
   refine GX.next rfl (GO.kg (hv:=tf hc) (h:=gh ?_));refine GX.cA (h:=fun x w hH=>gh ?_);refine GX.bt (h:=fun w hH=>gh ?_);refine GQ.bj (i+1,T) rfl ⟨aN,hT,by rw[MD];simpa[FE] using hO,hH.to⟩ (by simp only;omega)
  |some kn=>
   obtain⟨k,n⟩:=kn;have dN:(k,n)∈M:=qM.mem _ _ hc;have nk:=aP _ dN;have ep:=eO (i+1);rw[MD] at ep;have hle:=ep.length_le;simp only[FE,Option.toList,bH,ek,vz] at hle;have iN:k∉(gP (t.T.take i)).map (·.1):=fun hx=>by
    have:=bT.sublist (ep.map (·.1));rw[eA,ga] at this;exact this.2.2 k hx k (by simp[FE]) rfl
   refine GX.next rfl (GO.kg (hv:=tf hc) (h:=gh ?_));refine GX.cA (h:=fun x w hH=>gh ?_);refine GX.bt (h:=fun w hH=>gh ?_);refine GC.Bl (show _=_ from congrArg (fun z=>some (Value.bool z)) (JG (JJ nk))) (gh ?_);refine GX.ef (hc:=fun _ hs=>Kt (t:={ t with T:=T}) (hS T hT) hO (fun y hy=>JJ (aP y (qM.agV y ((eO i).subset hy)))) k (FD nk) hs) (h:=?_);rintro⟨p,bb⟩ w hF hE hH;replace hH:=SH.ap hH;obtain⟨d,qR,fE,⟨rfl,_,xV⟩|⟨_,n',h,_⟩⟩:=hF
   ·simp only at qR fE xV;have jy:=(aV.1 xV).1;refine gh ?_;obtain⟨⟨q2,c2⟩,hH⟩:=SH.un hH;replace hH:=SH.ap hH;dsimp only at hH;obtain⟨b2,rfl⟩:=hH.pos (cs:=fK T);refine GC.br (pl:=(bg [0,3,6,12,10,16,18,23])) (T:=fun _=>False) (hm:=mixed) (h:=fun w hE hH=>gh ?_);refine GX.gU (hb:=by rw[Dq];simp;omega) (hc:=show _=fK (T.set p (some (k,n))) from(by rw[show 0+((p:Nat):Int).toNat*2=p*2 by simp];exact G7 (some (k,n)) jy)) (h:=fun w hH=>gh ?_);replace hH:=sL (t:={ t with T:=T.set p (some (k,n))}) (a:=a) (q:=some b2) hH (e1:=by simp);have j6:=hO.put (n:=n) iN fE (by rw[←qR];exact xV) ah;refine GQ.bj (i+1,T.set p (some (k,n))) rfl ⟨aN,by simpa using hT,?_,hH.to⟩ (by simp only;omega);rw[MD,qR];exact j6
   ·exact absurd (bG.2 ⟨_,h,rfl⟩) iN
 ·have BI:i=t.T.length:=by omega
  subst BI;rw[kD] at hO;exact⟨T,rfl,⟨hO.perm jd.symm,by rw[hT]⟩,hH.to⟩
structure jo (t:Tb)(M:List (Bs×Nat)):Prop where
 aJ:t.aJ<18446744073709551616
 size:∃j,3≤j∧j≤21∧t.T.length=2^j
 eM:fb (fun k=>bK t.aJ k) t.T M
 key:∀x∈M,bf x.1=true
 n:t.n=M.length
 room:4*M.length≤3*t.T.length
theorem jo.s {t:Tb}{M:List (Bs×Nat)}(h:jo t M):oR t:=⟨h.aJ,let⟨j,_,h2,h3⟩:=h.size;⟨j,by omega,h3⟩⟩
theorem jo.ne {t:Tb}{M:List (Bs×Nat)}(h:jo t M):∀x∈M,x.1≠[]:=fun x hx=>JJ (h.key x hx)
theorem jo.perm {t:Tb}{M N:List (Bs×Nat)}(h:jo t M)(p:M.Perm N):jo t N:=
 ⟨h.aJ,h.size,h.eM.perm p,fun x hx=>h.key x (p.mem_iff.2 hx),by rw[h.n,p.length_eq],by rw[←p.length_eq];exact h.room⟩
theorem alN (s:Nat)(hs0:s<18446744073709551616)(hs:Start o w []):aj prog 105 [uV s].toArray w (aX o ak (fun _=>True) (fun a=>[gV a ⟨s,List.replicate 8 none,0⟩])):=by
 have hH:=hs.sh;refine aj.enter func105 rfl ntmps105 rfl (gh ?_);refine GX.Js (h:=fun nb w hH=>gh ?_);refine GX.cI (h:=fun a w hH=>gh ?_);exact⟨a,rfl,trivial,(sL (t:=⟨s,List.replicate 8 none,0⟩) (q:=some nb) hH (e1:=rfl) (e2:=Qw 8)).to⟩
theorem alG {a:Nat}{t:Tb}(hS:oR t)(hs:Start o w [fz (gV a t)]):aj prog 142 [ak a].toArray w (aX o ak (fun _=>True) (fun b=>[gV b t])):=by
 have hH:=hs.sh;have hp:=hS.pos;refine aj.enter func142 rfl ntmps142 rfl (gh ?_);refine GX.aM (hc:=fun _ hs=>Yn hS hs) (h:=fun w hE hH=>gh ?_);obtain⟨⟨q,c⟩,hH⟩:=SH.dV hH;replace hH:=SH.ed hH;dsimp only at hH;have e1:=hH.tK (cs:=fK t.T);refine GC.br (pl:=(bg [0,3,6,12,15,18,27,30,33,10,22,37,26,39,44,45])) (T:=fun _=>False) (hm:=mixed) (h:=fun w hE hH=>gh ?_);refine GX.eG (hc:=fun _ hs=>aai (cs:=fK t.T) ah (Dq _) e1 (Z8 _) hs) (h:=?_);rintro⟨q3,c3⟩ w _ HP hH;replace hH:=SH.ap hH;refine gh ?_;refine GX.oW (h:=fun b w hS hH=>gh ?_);exact⟨b,rfl,trivial,(sL (t:=t) hH).to⟩
theorem aih {j:Nat}(h:3*2^j<4*1048577):j≤20:=by
 rcases qz j 21 with h1|h1
 ·omega
 ·have:2^21≤2^j:=Nat.pow_le_pow_right (by decide) h1;omega
theorem alO {a:Nat}{t:Tb}{M:List (Bs×Nat)}(hT:jo t M)(k:Bs)(n:Nat)(hk:bf k=true)(qU:k∉M.map (·.1))(hM:M.length<1048576)(hs:Start o w [gV a t]) :
  aj prog 254 [ak a,str k,iV n].toArray w (aX o (fun _:Tb=>iV 0) (fun t'=>jo t' (M++[(k,n)])) (fun t'=>[gV a t'])):=by
 have hH:=hs.sh;have hS:=hT.s;have hp:=hS.pos;have hn:=hT.n;obtain⟨j,BK,hj,he⟩:=hT.size;refine aj.enter func254 rfl ntmps254 rfl (gh ?_);refine GX.aM (hc:=fun _ hs=>Yc hS k n hs) (h:=fun w hE hH=>gh ?_);rw[if_pos hk];refine gh ?_;refine GX.ef (hc:=fun _ hs=>Kt hS hT.eM hT.ne k (FD hk) hs) (h:=?_);rintro⟨p0,bb⟩ w hF hE hH;replace hH:=SH.ap hH;obtain⟨d,qR,fE,⟨rfl,_,xV⟩|⟨_,n',h,_⟩⟩:=hF
 ·simp only at qR xV;refine gh ?_;have ia:=hH;obtain⟨⟨q,c⟩,hH⟩:=SH.un hH;replace hH:=SH.ap hH;dsimp only at hH;refine gh ?_;refine ifs (fun h1=>?_) (fun h1=>?_)<;>refine gh ?_
  ·omega
  clear ia;refine GC.br (pl:=(bg [0,3,6,18,21,24,10,12,15,28,30,33,36])) (T:=fun _=>False) (hm:=mixed) (h:=fun w hE hH=>gh ?_);refine GC.cut (X:=Nat×Tb) (fun x=>[(0,ak a),(1,str k),(2,iV n),(8,iV x.1)]) (fun x w'=>oR x.2∧fb (fun k=>bK x.2.aJ k) x.2.T M∧x.2.aJ=t.aJ∧x.2.n=t.n∧(∃j,3≤j∧j≤21∧x.2.T.length=2^j)∧4*(M.length+1)≤3*x.2.T.length∧KD x.2 M k (x.1,false)∧SH o w' [gV a x.2]) ?_ ?_
  ·refine ifs (fun h2=>?_) (fun h2=>?_)<;>refine gh ?_
   ·refine gh ?_;rw[show 2*(t.T.length:Int)=((2^(j+1):Nat):Int) by rw[he,Nat.pow_succ];omega];have amz:j≤20:=aih (by rw[←he];omega);replace hH:=sL (t:=t) hH;refine GX.bZ (hc:=fun _ hs=>Yi hT.aJ hp.2 hT.eM hT.key (j+1) ah (by rw[Nat.pow_succ,←he];have:=hT.room;omega) hs) (h:=?_);rintro T' w ⟨j6,nX⟩ hH;replace hH:=SH.ap hH;refine gh ?_;have qN:oR { t with T:=T'}:=⟨hT.aJ,j+1,by omega,nX⟩
    refine GX.ef (hc:=fun _ hs=>Kt qN j6 hT.ne k (FD hk) hs) (h:=?_);rintro⟨p1,bb⟩ w hF hE hH;replace hH:=SH.ap hH;refine gh ?_;obtain⟨d',f1,f2,⟨rfl,f3,f4⟩|⟨_,n',h,_⟩⟩:=hF
    ·exact GQ.dm (p1,{ t with T:=T'}) (cR (l:=[0,1,2,8]) rfl) ⟨qN,j6,rfl,rfl,⟨j+1,by omega,by omega,nX⟩,by simp only;rw[nX,Nat.pow_succ,←he];have:=hT.room;omega,⟨d',f1,f2, .inl ⟨rfl,f3,f4⟩⟩,hH.to⟩
    ·exact absurd (bG.2 ⟨_,h,rfl⟩) qU
   ·refine gh ?_;exact GQ.dm (p0,t) (cR (l:=[0,1,2,8]) rfl) ⟨hS,hT.eM,rfl,rfl,⟨j,BK,hj,he⟩,by simp only;omega,⟨d,qR,fE, .inl ⟨rfl,qU,xV⟩⟩,(sL (t:=t) hH).to⟩
  rintro⟨p,u⟩ w ⟨Mb,DZ,uR,Ah,SS,TC,hFu,hH⟩;simp only at Mb DZ uR Ah SS TC hH;obtain⟨d',f1,f2,⟨_,_,f4⟩|⟨h,_⟩⟩:=hFu
  ·simp only at f1 f2 f4;have hpu:=(aV.1 f4).1;have M3:=Mb.pos;obtain⟨⟨q,c⟩,hH⟩:=SH.un hH;replace hH:=SH.ap hH;dsimp only at hH;obtain⟨b2,rfl⟩:=hH.pos (cs:=fK u.T);refine gh ?_;refine GX.vm (hb:=by rw[Dq];simp;omega) (hc:=show _=fK (u.T.set p (some (k,n))) from(by rw[show 0+((p:Nat):Int).toNat*2=p*2 by simp];exact G7 (some (k,n)) hpu)) (h:=fun w hH=>gh ?_);refine GX.dC (h:=fun w hH=>gh ?_);refine⟨⟨u.aJ,u.T.set p (some (k,n)),u.n+1⟩,rfl,⟨Mb.aJ,by simpa using SS,?_,fun x hx=>?_,by simp[Ah,hn],by simpa using TC⟩,(sL (t:=⟨u.aJ,u.T.set p (some (k,n)),u.n+1⟩) (a:=a) (q:=some b2) hH (e1:=by simp)).to⟩
   ·have:=DZ.put (n:=n) qU f2 (by rw[←f1];exact f4) ah;rw[←f1] at this;exact this
   ·rcases cx.1 hx with hx|hx
    ·exact hT.key x hx
    ·simp at hx;subst hx;exact hk
  ·cases h
 ·exact absurd (bG.2 ⟨_,h,rfl⟩) qU
end Go.Proofs.YtoloaehmppcjoaaGreat.V.M
