/-
  Parts of the proof. No condition.
-/
import Derived.Test.YtmlpbmgfmnmmmaaGreatW2bd
import Derived.Test.YtmlpbmgfmnmmmaaGreatW2ak
import Derived.Test.YtmlpbmgfmnmmmaaGreatW2bb
import Derived.Test.YtmlpbmgfmnmmmaaGreatW2at
set_option linter.unusedVariables false
set_option linter.unusedSimpArgs false
set_option maxRecDepth 8000
set_option maxHeartbeats 8000000
open Go.Proofs.Tryz
namespace Go.Proofs.YtmlpbmgfmnmmmaaGreat.V.M
attribute [local irreducible] GO GX aA fz aF aQ ao star
variable {o:Og}{w:World}
theorem Ud {α:Type}{l:List α}{i:Nat}(x:α)(h:i≤l.length)(zs:List α)(hz:zs.length=l.length+1 - i) :
  ((l.take i++zs).take i++[x]++(l.take i++zs).drop (i+1)).take (i+1)++l.drop i++((l.take i++zs).take i++[x]++(l.take i++zs).drop (i+1)).drop (i+1+(l.drop i).length)=l.take i++x::l.drop i:=by
 have h1:(l.take i).length=i:=by rw[dE];omega
 have h2:(l.take i++zs).take i=l.take i:=by rw[vj ah,eO ah]
 rw[h2];have h3:(l.take i++[x]).length=i+1:=by simp;omega
 have h4:(l.take i++[x]++(l.take i++zs).drop (i+1)).take (i+1)=l.take i++[x]:=by rw[vj ah,eO ah]
 rw[h4];have h5:(l.take i++[x]++(l.take i++zs).drop (i+1)).drop (i+1+(l.drop i).length)=[]:=by
  apply l0;simp only[bJ,lZ,h1,hz,ie];omega
 rw[h5];simp
theorem Ue {α:Type}{l:List α}{i:Nat}(x u:α)(h:i<l.length) :
  ((l++[u]).take (i+1)++l.drop i++(l++[u]).drop (i+1+(l.drop i).length)).take i++[x]++((l++[u]).take (i+1)++l.drop i++(l++[u]).drop (i+1+(l.drop i).length)).drop (i+1)=l.take i++x::l.drop i:=by
 have h1:(l++[u]).take (i+1)=l.take i++[l[i]]:=by rw[vj ah,kQ h]
 have h2:(l++[u]).drop (i+1+(l.drop i).length)=[]:=by
  apply l0;simp only[bJ,lZ,ie];omega
 have h3:(l.take i).length=i:=by rw[dE];omega
 have e:l.take i++[l[i]]++l.drop i=l.take i++(l[i]::l.drop i):=by rw[cP];rfl
 rw[h1,h2,eY,e,List.take_left' h3,show(l.take i++(l[i]::l.drop i)).drop (i+1)=l.drop i by rw[←List.drop_drop,List.drop_left' h3];rfl];simp
theorem aeD {q:Option Nat}{N c bv:Nat}{cs:List Value}{x:Value}(i:Nat)(hi:i≤N)(hN:N<2^40)(hx:x.oneCell'=true)(h1:∀u∈cs,u.oneCell'=true)(hs:Start o w [ao 3 1 q N c cs,ao 3 1 (some bv) 1 1 [x]]) :
  aj prog 271 [.slice (ay q) N c,iV i, .slice (some ⟨bv,0,none⟩) 1 1].toArray w (aU o (mN (N+1)) (fun _=>True) (mM 3 1 (N+1) (cs.take i++x::cs.drop i))):=by
 have hH:=hs.sh;have hlen:=hH.len (el:=3) (sz:=1) (q:=q);rw[kO] at hlen;have HV:=hH.cap (q:=q);refine aj.enter func271 rfl ntmps271 rfl (gh ?_);refine GX.next rfl (GO.kL (j:=i) rfl (hh:=gh ?_))
 by_cases h2:i=N
 ·subst h2;rw[show decide ((i:Int)=(i:Int))=true by simp];refine gh ?_;refine GX.nI (q:=q) (m2:=1) (c2:=1) (news:=[x]) (hN:=SH.bR hH (x:=ao 3 1 (some bv) 1 1 [x]) (a:=some ⟨bv,0,none⟩) bL) (hnl:=rfl) (h1:=fun u hu=>by simp at hu;subst hu;exact hx) (h:=fun q' c' w hH=>gh ?_);refine⟨(q',c'),rfl,trivial,?_⟩;rw[eO ah,l0 ah];exact hH.to
 ·rw[show decide ((i:Int)=(N:Int))=false by simp;omega];refine gh ?_;obtain⟨b,rfl⟩:=hH.pos (q:=q);refine GX.next rfl (GO.GW rfl rfl rfl rfl (gh ?_));refine ifs (fun h3=>?_) (fun h3=>?_)<;>refine gh ?_
  ·refine GX.next rfl (GO.yR (j:=i) rfl (hh:=?_));rw[vd];refine gh ?_;rw[show(N:Int)+((1:Nat):Int) - (i:Int)=((N+1 - i:Nat):Int) by omega];have hA:At w b 0 cs:=hH.es (b:=b) (cs:=cs) (by repeat(first|exact Es.sl|exact Es.kV|exact Es.kW|apply Es.there));refine GX.KF (c0:=N+1 - i) (olds:=cs.take i) (a:=ay (some b)) (hA:=At.left (m:=cs.drop i) (by rw[jE];exact hA)) (hl:=by rw[dE];omega) (h:=fun b' c' w zs hz hE hH=>?_);rw[show i+(N+1 - i)=N+1 by omega] at hH ⊢;have acM:=hH.cap (q:=some b');refine gh ?_;refine GX.next rfl (GO.kL (j:=i) rfl (hh:=?_));rw[lU b' i c' ah];refine gh ?_;refine GX.Dq (b:=b') (vs:=[x]) (hA:=SH.bR hH (x:=ao 3 1 (some bv) 1 1 [x]) (a:=some ⟨bv,0,none⟩) bL) (hl:=by simp[Nat.min_def];omega) (h1:=fun u hu=>by simp at hu;subst hu;exact hx) (hb:=by simp;omega) (hc:=rfl) (h:=fun w hH=>gh ?_);have hA:At w b 0 cs:=hH.es (b:=b) (cs:=cs) (by repeat(first|exact Es.sl|exact Es.kV|exact Es.kW|apply Es.there));have iw:bM w (some ⟨b,i,none⟩) (cs.drop i):=by
    have:=At.right (l:=cs.take i) (m:=cs.drop i) (by rw[jE];exact hA);rwa [dE,pc ah,dA] at this
   refine GC.bq (pl:=(aZ [0,3,6,9,12,15,18,21,26])) (T:=cS []) (hm:=mixed) (h:=fun w hE hH=>gh ?_);refine GX.pure rfl (GO.kL (j:=i+1) rfl (hh:=?_));rw[lU b' (i+1) c' ah];refine gh ?_;refine GX.pure rfl (GO.kL (j:=i) rfl (hh:=?_));rw[show eS (ay (some b)) i c 1=some ⟨b,i,none⟩ from lU b i c ah];refine gh ?_;refine GX.Dr (b:=b') (vs:=cs.drop i) (hA:=bM.mod iw hE fun _ _ h=>h) (hl:=by simp[Nat.min_def];omega) (h1:=fun u hu=>h1 u (xj hu)) (hb:=by simp;omega) (hc:=rfl) (h:=fun w hH=>gh ?_);refine⟨(some b',c'),rfl,trivial,?_⟩;have:=Ud x (l:=cs) (i:=i) ah zs ah;simp only[ie] at hH;rw[this] at hH;exact hH.to
  ·refine GX.next rfl (GO.yR (j:=N+1) rfl (hh:=?_));rw[vd];refine gh ?_;obtain⟨u,hH⟩:=hH.more (el:=3) (b:=b) (n:=N) (c:=c) (cs:=cs) ah;refine GX.next rfl (GO.kL (j:=i+1) rfl (hh:=?_));rw[show eS (ay (some b)) (i+1) c 1=some ⟨b,i+1,none⟩ from lU b (i+1) c ah];refine GX.Qi (V := .bool false) (hr:=?_) (h:=gh ?_)
   ·have MQ:=Xh (P:=prog) (tS:=72) (tR:=4) (aS:=8) (o:=i+1) (N:=N+1 - (i+1)) (C:=c - (i+1)) inferInstance (hH.own (el:=3) (q:=some bv) (n:=1) (c:=1) (cs:=[x]) bL) (hH.own (el:=3) (q:=some b) (n:=N+1) (c:=c) (cs:=cs++[u]) bL) (fun e=>by have:=hH.V9 (b:=bv) (q:=some b);exact this (congrArg some e)) ah;rw[run_callFunc_extern (fn:=Tryz.f314) ai ai ai ai (e:=Extern.SlicesOverlaps.overlaps #[72,72] #[4]) ai];exact congrArg (fun r:Result Value=>r.andThen fun v w'=>Result.ok (Next.value v) w') MQ
   have hA:At w b 0 (cs++[u]):=hH.es (b:=b) (cs:=cs++[u]) (by repeat(first|exact Es.sl|exact Es.kV|exact Es.kW|apply Es.there));have iw:bM w (some ⟨b,i,none⟩) (cs.drop i):=by
    have:=At.right (l:=cs.take i) (m:=cs.drop i) (by rw[jE];exact hA.left);rwa [dE,pc ah,dA] at this
   refine GC.bq (pl:=(aZ [0,3,6,9,12,15,18,21,26])) (T:=cS []) (hm:=mixed) (h:=fun w hE hH=>gh ?_);refine GX.pure rfl (GO.kL (j:=i+1) rfl (hh:=?_));rw[show eS (ay (some b)) (i+1) c 1=some ⟨b,i+1,none⟩ from lU b (i+1) c ah];refine gh ?_;refine GX.pure rfl (GO.kL (j:=i) rfl (hh:=?_));rw[show eS (ay (some b)) i c 1=some ⟨b,i,none⟩ from lU b i c ah];refine gh ?_;refine GX.Dr (b:=b) (vs:=cs.drop i) (hA:=bM.mod iw hE fun _ _ h=>h) (hl:=by rw[lZ];show _=min (N+1 - i) (N+1 - (i+1));omega) (h1:=fun u hu=>h1 u (xj hu)) (hb:=by simp;omega) (hc:=rfl) (h:=fun w hH=>gh ?_);refine GX.next rfl (GO.kL (j:=i) rfl (hh:=?_));rw[show eS (ay (some b)) i c 1=some ⟨b,i,none⟩ from lU b i c ah];refine gh ?_;refine GX.Dq (b:=b) (vs:=[x]) (hA:=SH.bR hH (x:=ao 3 1 (some bv) 1 1 [x]) (a:=some ⟨bv,0,none⟩) bL) (hl:=by simp[Nat.min_def];omega) (h1:=fun u hu=>by simp at hu;subst hu;exact hx) (hb:=by simp;omega) (hc:=rfl) (h:=fun w hH=>gh ?_);refine⟨(some b,c),rfl,trivial,?_⟩;have:=Ue x u (l:=cs) (i:=i) ah;simp only[ie] at hH;rw[this] at hH;exact hH.to
theorem Zr (y:Nat)(hy:y<2^32)(w:World):aj prog 348 [uV 1,uV y].toArray w fun v w'=>v = .tuple #[uV 0,uV y]∧w'=w:=by
 refine aj.enter func348 rfl ntmps348 rfl (gh ?_);refine GX.da (ag7 y hy _) rfl rfl rfl rfl rfl rfl (gh ?_);exact⟨rfl,rfl⟩
theorem aiK {α:Type}(v:α)(n N:Nat)(R:List α)(h1:n≤N)(hR:R.length=N - n):((List.replicate n v++R).take n++List.replicate (min n (N - n)) v++(List.replicate n v++R).drop (n+(List.replicate (min n (N - n)) v).length))=List.replicate (n+min n (N - n)) v++R.drop (min n (N - n)):=by
 rw[List.take_left' (by simp),List.length_replicate,List.replicate_append_replicate,←List.drop_drop,List.drop_left' (by simp)]
theorem aiL {a:Option Addr}{c:Nat}(v:Int)(N:Nat)(h1:1≤N)(hN:N<2^32)(hs:Start o w [aF a [iV v]]) :
  aj prog 334 [.slice a 1 c,iV N].toArray w (aU o (fun b:Nat => .slice (some ⟨b,0,none⟩) N N) (fun _=>True) (fun b=>[ao 3 1 (some b) N N (List.replicate N (iV v))])):=by
 have hH:=hs.sh;refine aj.enter func334 rfl ntmps334 rfl (gh ?_);refine GX.da (Zr N hN _) rfl rfl rfl rfl rfl rfl (gh ?_);refine ifs (fun h3=>?_) (fun h3=>?_)<;>refine gh ?_
 ·omega
 refine GX.Ji (ln:=(N:Int)) (c:=(N:Int)) (h:=fun b w hH=>?_);simp only[tG] at hH ⊢;have ez:∀k:Nat,(List.replicate k (Value.int IntKind.i64 0).cells.toList).flatten=List.replicate k (iV 0):=fun k=>by
  induction k with
  |zero=>rfl
  |succ k ih=>rw[List.replicate_succ,om,ih];rfl
 rw[ez] at hH;refine gh ?_;refine GX.Dq (b:=b) (vs:=[iV v]) (hA:=SH.bR hH (x:=aF a [iV v]) (a:=a) (cs:=[iV v]) bL) (hl:=by show _=min 1 N;simp;omega) (h1:=fun u hu=>by simp at hu;subst hu;rfl) (hb:=by simp;omega) (hc:=rfl) (h:=fun w hH=>gh ?_);have e0:(List.replicate N (iV 0)).take 0++[iV v]++(List.replicate N (iV 0)).drop (0 + [iV v].length)=List.replicate 1 (iV v)++List.replicate (N - 1) (iV 0):=by simp
 rw[e0] at hH;refine GC.bP [7] (fun n:Nat=>[(8,iV n)]) (fun n w'=>1≤n∧n≤N∧∃R:List Value,R.length=N - n∧SH o w' [ao 3 1 (some b) N N (List.replicate n (iV v)++R),aF a [iV v]]) (fun n=>N - n) 1 rfl rfl ⟨bj _,h1,_,by simp,hH⟩ ?_;rintro n w ⟨h4,h5,R,hR,hH⟩;refine gh ?_;refine ifs (fun h6=>?_) (fun h6=>?_)<;>refine gh ?_
 ·have hA:At w b 0 (List.replicate n (iV v)++R):=hH.es (b:=b) (cs:=List.replicate n (iV v)++R) (by repeat(first|exact Es.sl|exact Es.kV|exact Es.kW|apply Es.there));refine GC.bq (pl:=(aZ [0,3,6,9,12,15,18,23,24,27])) (T:=cS []) (hm:=mixed) (h:=fun w hE hH=>gh ?_);refine GX.pure rfl (GO.kL (j:=n) rfl (hh:=?_));rw[show eS (ay (some b)) n N 1=some ⟨b,n,none⟩ from lU b n N ah];refine gh ?_;refine GX.pure rfl (GO.yR (j:=n) rfl (hh:=?_));rw[vd];refine gh ?_;refine GX.Dr (b:=b) (vs:=List.replicate (min n (N - n)) (iV v)) (hA:=bM.mod (show bM _ (some ⟨b,0,none⟩) _ from At.left (m:=List.replicate (n - min n (N - n)) (iV v)) (by rw[List.replicate_append_replicate,show min n (N - n)+(n - min n (N - n))=n by omega];exact hA.left)) hE fun _ _ h=>h) (hl:=by rw[List.length_replicate]) (h1:=fun u hu=>by rw[(List.mem_replicate.1 hu).2];rfl) (hb:=by simp only[bJ,List.length_replicate];omega) (hc:=aiK _ n N R h5 hR) (h:=fun w hH=>gh ?_);rw[List.length_replicate];refine gh ?_;rw[show(n:Int)+((min n (N - n):Nat):Int)=((n+min n (N - n):Nat):Int) by omega];exact GQ.br (n+min n (N - n)) rfl ⟨by omega,by omega,_,by rw[lZ];omega,hH⟩ ah
 ·obtain rfl:n=N:=by omega
  obtain rfl:R=[]:=ga ah;rw[eY] at hH;exact⟨b,rfl,trivial,hH.to⟩
structure vx where
 aJ:Nat
 H:List Int
 N:List Nm
 q1:Option Nat×Nat
 q2:Option Nat×Nat
 a:Option Addr
 c:Nat
def dq (N:fU):Nat:=(N.filter fun x=>decide (0<x.2)).length
structure dM where
 aI:Nat
 N:fU
structure rp (X:vx)(s:dM):Prop where
 ok:gJ X.aJ X.H X.N
 N:s.N=dO X.N
 aJ:X.aJ<18446744073709551616
 aI:1≤s.aI∧s.aI≤65536
 dC:dq s.N≤s.aI
abbrev vx.dm (X:vx)(b:Nat)(s:dM):List It:=
 [aA b [iV s.aI,uV X.aJ, .slice (ay X.q1.1) X.H.length X.q1.2, .slice (ay X.q2.1) X.N.length X.q2.2, .slice X.a (cx s.N).length X.c,iV (dq s.N)],
  ao 3 1 X.q1.1 X.H.length X.q1.2 (dI X.H),ao 337 3 X.q2.1 X.N.length X.q2.2 (aK eF X.N),fP 3 1 X.a (cx s.N).length X.c (aD (cx s.N))]
def jy (b:Nat)(s:dM):It:=star fun X:{ X:vx // rp X s}=>X.1.dm b s
theorem wz {l t:List It}{b:Nat}{X:vx}{s:dM}(hX:rp X s)(hH:SH o w l)(hp:Pk l (X.dm b s) t:=by repeat(first|exact Pk.nil|(apply Pk.cons;repeat(first|exact aB.here|apply aB.there)))):SH o w (jy b s::t):=
 SH.fold (f:=fun X:{ X:vx // rp X s}=>X.1.dm b s) ⟨X,hX⟩ hH hp
theorem I4 {l:List Int}{j:Nat}(h:j<l.length):(dI l)[j]?=some (iV (l.getD j (-1))):=by simp[dI,h]
theorem Wf (x:Nm):∀u∈eF x,u.oneCell'=true:=by
 intro u hu;simp only[eF,bY,tI,or_false] at hu
 rcases hu with rfl|rfl|rfl<;>rfl
theorem Fb {b m:Nat}{v1 v2 v3 v4 v5:Value}(hm:1≤m)(hs:Start o w [fz (aA b [iV m,v1,v2,v3,v4,v5])]):aj prog 206 [ak b].toArray w (Po o (.bool false) []):=by
 have hH:=hs.sh;refine aj.enter func206 rfl ntmps206 rfl (gh ?_);refine⟨?_,hH.to⟩;rw[bt ah]
theorem I3 {b m q c sd:Nat}{H:List Int}{v3 v4 v5:Value}(hl:2≤H.length∧H.length≤262144)(dN:sd<18446744073709551616)(x:Bs)(hx:x.length<2^40)(hs:Start o w [fz (aA b [iV m,uV sd, .slice (ay (some q)) H.length c,v3,v4,v5])]) :
  aj prog 269 [ak b,str x].toArray w (Po o (.pointer (some ⟨q,bN sd x % H.length,none⟩)) []):=by
 have hH:=hs.sh;have aP:bN sd x % H.length<H.length:=fm _ ah;have hh:=Sh dN x;refine aj.enter func269 rfl ntmps269 rfl (gh ?_);refine GC.bq (pl:=(aZ [0,3,6,12,15,18,24,30,33,36,10,22,40,42,45,29,48,51,54])) (T:=fun _=>False) (hm:=mixed) (h:=fun w hE hH=>gh ?_);refine GX.pA (hc:=Pe sd dN x hx _) (h:=gh ?_);refine GX.pure rfl (GO.rem (c:=((bN sd x % H.length:Nat):Int)) rfl rfl rfl rfl rfl ah (by rw[Int.tmod_eq_emod_of_nonneg ah];rfl) (gh ?_));refine⟨?_,hH.to⟩;simp
def DB (N:fU)(s:Bs):Int:=match oX N s with|some n=>n|none=>-1
theorem Ua {b:Nat}{X:vx}{s:dM}(hX:rp X s)(x:Bs)(hx:x.length<2^40)(hs:Start o w [fz (aA b [iV s.aI,uV X.aJ, .slice (ay X.q1.1) X.H.length X.q1.2, .slice (ay X.q2.1) X.N.length X.q2.2, .slice X.a (cx s.N).length X.c,iV (dq s.N)]),fz (ao 3 1 X.q1.1 X.H.length X.q1.2 (dI X.H)),fz (ao 337 3 X.q2.1 X.N.length X.q2.2 (aK eF X.N))]) :
  aj prog 295 [ak b,str x].toArray w (Po o (iV (DB s.N x)) []):=by
 have hH:=hs.sh;obtain⟨⟨⟨rM,rN⟩,hnl,sS,TM,Ca,qJ⟩,hN,dN,rJ,_⟩:=id hX;obtain⟨sd,H,N,⟨q1,c1⟩,⟨q2,c2⟩,a,c⟩:=X;dsimp only at hH rM rN hnl sS TM Ca qJ hN dN;have fq:bN sd x % H.length<H.length:=fm _ ah;obtain⟨L,hL,vO,DS⟩:=sS _ fq;obtain⟨q,rfl⟩:=hH.lR (el:=3) (sz:=1) (q:=q1);refine aj.enter func295 rfl ntmps295 rfl (gh ?_);refine GX.aL (hc:=fun _ hs=>I3 ⟨rM,rN⟩ dN x hx hs) (h:=fun w hE hH=>gh ?_);refine GX.next rfl (GO.cG (hv:=I4 fq) (h:=gh ?_));refine GC.bP [0,1] (fun y:Int×List Nat=>[(5,iV y.1)]) (fun y w'=>fy N y.1 y.2∧(∀n∈y.2,n∈L)∧(∀n∈L,n∈y.2∨∀z,N[n]?=some z→z.t≠x)∧SH o w' [fz (aA b [iV s.aI,uV sd, .slice (ay (some q)) H.length c1, .slice (ay q2) N.length c2, .slice a (cx s.N).length c,iV (dq s.N)]),fz (ao 337 3 q2 N.length c2 (aK eF N))]) (fun y=>y.2.length) (H.getD (bN sd x % H.length) (-1),L) rfl rfl ⟨hL,fun _ h=>h,fun _ h => .inl h,hH.to⟩ ?_;rintro⟨z,l⟩ w ⟨hc,fY,Mg,hH⟩;simp only at hc fY Mg;dsimp only;have aX:gJ sd H N:=⟨⟨rM,rN⟩,hnl,sS,TM,Ca,qJ⟩
 cases l with
 |nil=>
  obtain rfl:z = -1:=hc;refine gh ?_;refine⟨?_,hH.to⟩;rw[DB,hN,ahl fun n y hy hr E7=>?_];have mY:n∈L:=(DS n).2 ⟨y,hy,hr,by rw[E7]⟩
  rcases Mg n mY with h|h
  ·cases h
  ·exact h y hy E7
 |cons n l=>
  obtain⟨rfl,y,hy,hc⟩:=hc;have BY:=(aV.1 hy).1;obtain⟨p,rfl⟩:=hH.lR (el:=337) (sz:=3) (q:=q2);refine gh ?_;refine GX.next rfl (GO.cG (hv:=nj fi hy (j:=0) rfl) (h:=gh ?_));refine ifs (fun h2=>?_) (fun h2=>?_)<;>refine gh ?_
  ·refine GX.next rfl (GO.cG (hv:=nj fi hy (j:=2) rfl) (h:=gh ?_));refine GQ.br (y.nx,l) rfl ⟨hc,fun m hm=>fY m (fR _ hm),fun m hm=>?_,hH⟩ (by simp)
   rcases Mg m hm with h|h
   ·rcases bY.1 h with rfl|h
    ·exact .inr fun z hz=>by rw[hy] at hz;cases hz;exact h2
    ·exact .inl h
   ·exact .inr h
  ·refine⟨?_,hH.to⟩;have mR:y.t=x:=by simpa using h2
   obtain⟨y',pQ,hr,_⟩:=(DS n).1 (fY n (by simp));rw[hy] at pQ;cases pQ;rw[DB,hN,←mR,aX.Wd hy hr]
theorem Oi {N N':List Nm}(h:dO N=dO N'):N.length=N'.length:=by
 have:=congrArg List.length h;simpa[dO] using this
theorem Wg {N:List Nm}{i:Nat}{x:Nm}(hx:N[i]?=some x)(z:Int):dO (N.set i ⟨x.t,x.r,z⟩)=dO N:=by
 unfold dO;rw[pf];refine pb fun j=>?_
 by_cases e:i=j
 ·subst e;rw[dJ (by rw[fk];exact(aV.1 hx).1),gb,hx];rfl
 ·rw[dH e]
structure YC (sd:Nat)(H:List Int)(N:List Nm)(y:List Int×List Nm×Nat):Prop where
 len:y.1.length=2*H.length
 nms:dO y.2.1=dO N
 inp:tO sd y.1 y.2.1 N.length
theorem aex {b m sd c1 c2:Nat}{q1 q2:Option Nat}{v4 v5:Value}{H:List Int}{N:List Nm}(gO:2≤H.length∧H.length≤131072)(RV:N.length≤65536)(dN:sd<18446744073709551616)(ht:∀x∈N,0<x.r→fF x.t=true)(iD:∀x∈N,x.r<2097152)
  (hs:Start o w [aA b [iV m,uV sd, .slice (ay q1) H.length c1, .slice (ay q2) N.length c2,v4,v5],ao 337 3 q2 N.length c2 (aK eF N)]) :
  aj prog 296 [ak b].toArray w (aU o (fun _:List Int×List Nm×Nat => .tuple #[]) (YC sd H N) (fun y=>[aA b [iV m,uV sd, .slice (ay (some y.2.2)) y.1.length y.1.length, .slice (ay q2) N.length c2,v4,v5],ao 3 1 (some y.2.2) y.1.length y.1.length (dI y.1),ao 337 3 q2 N.length c2 (aK eF y.2.1)])):=by
 have hH:=hs.sh;refine aj.enter func296 rfl ntmps296 rfl (gh ?_);refine GX.nk (h:=fun z w hH=>gh ?_);rw[show(2:Int)*(H.length:Int)=((2*H.length:Nat):Int) by omega];refine GX.dX (hc:=fun _ hs=>aiL (-1) (2*H.length) ah ah hs) (h:=?_);rintro p w _ hE hH;replace hH:=SH.ap hH;refine gh ?_;refine GX.dw (h:=fun w hH=>gh ?_);have e0:List.replicate (2*H.length) (iV (-1))=dI (List.replicate (2*H.length) (-1)):=by simp[dI]
 rw[e0] at hH;have hI0:tO sd (List.replicate (2*H.length) (-1)) N 0:=⟨fun b hb=>⟨[],by
  show(List.replicate (2*H.length) (-1:Int)).getD b (-1) = -1;rw[fT,List.getElem?_replicate];split<;>rfl,mF,fun n=>by simp⟩⟩
 refine GC.bP [0,20] (fun y:Nat×List Int×List Nm=>[(21,iV y.1)]) (fun y w'=>y.1≤N.length∧y.2.1.length=2*H.length∧dO y.2.2=dO N∧tO sd y.2.1 y.2.2 y.1∧SH o w' [aA b [iV m,uV sd, .slice (ay (some p)) (2*H.length) (2*H.length), .slice (ay q2) N.length c2,v4,v5],ao 3 1 (some p) (2*H.length) (2*H.length) (dI y.2.1),ao 337 3 q2 N.length c2 (aK eF y.2.2)]) (fun y=>N.length - y.1) (0,List.replicate (2*H.length) (-1),N) rfl rfl ⟨bh _,by simp,rfl,hI0,hH.to⟩ ?_;rintro⟨i,K,M⟩ w ⟨hi,hK,hM,hI,hH⟩;simp only at hi hK hM hI;dsimp only at hH ⊢;have hML:=Oi hM;refine gh ?_;refine ifs (fun h1=>?_) (fun h1=>?_)<;>refine gh ?_
 ·have hiM:i<M.length:=by omega
  have hx:M[i]?=some M[i]:=by simp[hiM]
  generalize M[i]=x at hx;have wx:=bF hx;obtain⟨x0,uF,TS⟩:∃x0∈N,x0.t=x.t∧x0.r=x.r:=by
   have:(x.t,x.r)∈dO N:=by rw[←hM];exact bK.2 ⟨x,wx,rfl⟩
   obtain⟨x0,h1,h2⟩:=bK.1 this;simp only[mB] at h2;exact⟨x0,h1,h2⟩
  obtain⟨p2,rfl⟩:=hH.pos (el:=337) (sz:=3) (q:=q2);refine gh ?_;refine GX.next rfl (GO.cG (hv:=nj fi hx (j:=1) rfl) (h:=gh ?_));refine ifs (fun h2=>?_) (fun h2=>?_)<;>refine gh ?_
  ·have Ca:fF x.t=true:=by rw[←TS.1];exact ht x0 uF (by rw[TS.2];omega)
   have wv:x.t.length<2^40:=by have:=eN Ca;omega
   refine GX.next rfl (GO.cG (hv:=nj fi hx (j:=0) rfl) (h:=gh ?_));rw[←hK] at hH ⊢;refine GX.aL (hc:=fun _ hs=>I3 (H:=K) ah dN x.t wv hs) (h:=fun w hE hH=>gh ?_);have fq:bN sd x.t % K.length<K.length:=fm _ ah;refine GX.next rfl (GO.cG (hv:=I4 fq) (h:=gh ?_));refine GX.vf (hb:=?_) (hc:=show(aK eF M).take (0+i*3+2)++[iV (K.getD (bN sd x.t % K.length) (-1))]++(aK eF M).drop (0+i*3+2+1)=aK eF (M.set i ⟨x.t,x.r,K.getD (bN sd x.t % K.length) (-1)⟩) from ?_) (h:=fun w hH=>gh ?_)
   ·rw[gQ fi];simp;omega
   ·rw[dA,←CR (y:=⟨x.t,x.r,K.getD (bN sd x.t % K.length) (-1)⟩) (v:=iV (K.getD (bN sd x.t % K.length) (-1))) (j:=2) fi hx (by decide) rfl,A0,if_pos (by rw[gQ fi];omega)];simp
   refine GX.J4 (j:=bN sd x.t % K.length) (hj:=by simp only[Fi];exact fq) (h:=fun w hH=>gh ?_);have Lz:=hI.push hx rfl ah ah;rw[show(dI K).set (bN sd x.t % K.length) (iV i)=dI (K.set (bN sd x.t % K.length) (i:Int)) by simp[dI,pf]] at hH;refine GQ.br (i+1,K.set (bN sd x.t % K.length) (i:Int),M.set i ⟨x.t,x.r,K.getD (bN sd x.t % K.length) (-1)⟩) rfl ⟨by simp only;omega,fS,(Wg hx _).trans hM,Lz,?_⟩ (by simp only;omega);exact hH
  ·have Lz:=hI.skip hx ah;exact GQ.br (i+1,K,M) rfl ⟨by simp only;omega,hK,hM,Lz,hH⟩ (by simp only;omega)
 ·obtain rfl:i=N.length:=by omega
  rw[←hK] at hH;exact⟨(K,M,p),rfl,⟨hK,hM,hI⟩,hH.to⟩
theorem Js {N N':List Nm}(h:dO N'=dO N){n:Nat}{x:Nm}(hx:N'[n]?=some x):∃y,N[n]?=some y∧y.t=x.t∧y.r=x.r:=by
 have h1:=yE hx;rw[h] at h1;obtain⟨y,h2,h3⟩:=Jr h1;simp only[mB] at h3;exact⟨y,h2,h3.1.symm,h3.2.symm⟩
theorem gJ.ahw {sd:Nat}{H H':List Int}{N N':List Nm}(h:gJ sd H N)(hn:dO N'=dO N)(hI:tO sd H' N' N'.length)(jw:2≤H'.length∧H'.length≤262144):gJ sd H' N':=by
 refine⟨jw,by rw[Oi hn];exact h.list,fun b hb=>?_,fun n m x y hx hy r1 r2 e=>?_,fun x hx hr=>?_,fun x hx=>?_⟩
 ·obtain⟨l,h1,h2,h3⟩:=hI.chain b hb;refine⟨l,h1,h2,fun n=>(h3 n).trans ⟨fun a=>a.2,fun⟨x,a,c⟩=>⟨(aV.1 a).1,x,a,c⟩⟩⟩
 ·obtain⟨x',a1,a2,a3⟩:=Js hn hx;obtain⟨y',b1,b2,b3⟩:=Js hn hy;exact h.uniq n m x' y' a1 b1 ah ah (a2.trans (e.trans b2.symm))
 ·obtain⟨n,oP⟩:=ej hx;obtain⟨x',a1,a2,a3⟩:=Js hn oP;rw[←a2];exact h.tag x' (bF a1) ah
 ·obtain⟨n,oP⟩:=ej hx;obtain⟨x',a1,a2,a3⟩:=Js hn oP;rw[←a3];exact h.refs x' (bF a1)
def e7 (N:fU)(s:Bs):fU×Nat:=
 match oX N s with
 |some n=>(N.set n (s,(N.getD n ([],0)).2+1),n)
 |none=>match cx N with
  |n::_=>(N.set n (s,1),n)
  | []=>(N++[(s,1)],N.length)
theorem zr (z:Bs×Nat)(N:fU):dq (z::N)=(if 0<z.2 then 1 else 0)+dq N:=by
 unfold dq;rw[oo]
 by_cases a:0<z.2
 ·rw[if_pos (bQ a),if_pos a,dR,Nat.add_comm]
 ·rw[if_neg (by simpa using a),if_neg a,dA]
theorem Ha {N:fU}{n:Nat}{x y:Bs×Nat}(hx:N[n]?=some x):dq (N.set n y)+(if 0<x.2 then 1 else 0)=dq N+(if 0<y.2 then 1 else 0):=by
 induction N generalizing n with
 |nil=>simp at hx
 |cons z N ih=>
  cases n with
  |zero=>
   simp at hx;subst hx;rw[List.set_cons_zero,zr,zr];omega
  |succ n=>
   have:=ih (n:=n) (by simpa using hx);rw[AY,zr,zr];omega
theorem aau (N:fU)(y:Bs×Nat):dq (N++[y])=dq N+(if 0<y.2 then 1 else 0):=by
 induction N with
 |nil=>rw[jF,zr];simp[dq]
 |cons z N ih=>rw[iQ,zr,zr,ih];omega
theorem aav {N:fU}(h:cx N=[]):dq N=N.length:=by
 unfold dq;rw[p8.2];intro x hx;refine bQ ?_;obtain⟨n,hn⟩:=ej hx
 by_cases h0:x.2=0
 ·have:=oV.2 ⟨x,hn,h0⟩;rw[h] at this;cases this
 ·omega
def lh (N:fU)(x:Bs):Int×Int:=if fF x=true then(match oX N x with|some n=>((n:Nat),0)|none=>(0,9)) else(0,2)
theorem aen {b:Nat}{s:dM}(x:Bs)(hs:Start o w [fz (jy b s)]) :
  aj prog 233 [ak b,str x].toArray w (Po o (.tuple #[iV (lh s.N x).1,iV (lh s.N x).2]) []):=by
 have hH:=hs.sh;obtain⟨⟨X,hX⟩,hH⟩:=SH.dQ hH;replace hH:=SH.dW hH;dsimp only at hH;have hm:=hX.aI.1;refine aj.enter func233 rfl ntmps233 rfl (gh ?_);refine GX.aL (hc:=fun _ hs=>Fb hm hs) (h:=fun w hE hH=>gh ?_);refine GX.da (Uf x _) rfl rfl rfl rfl rfl rfl (gh ?_);unfold lh;cases hk:fF x with
 |false=>
  refine gh ?_;exact⟨by simp,hH.to⟩
 |true=>
 refine gh ?_;refine GX.aL (hc:=fun _ hs=>Ua hX x (by have:=eN hk;omega) hs) (h:=fun w hE hH=>gh ?_);unfold DB;cases hn:oX s.N x with
 |none=>
  refine gh ?_;exact⟨by simp,hH.to⟩
 |some n=>
  refine gh ?_;exact⟨by simp,hH.to⟩
theorem aeo {b:Nat}{s:dM}(hs:Start o w [fz (jy b s)]) :
  aj prog 242 [ak b].toArray w (Po o (.tuple #[iV (dq s.N),iV s.aI]) []):=by
 have hH:=hs.sh;obtain⟨⟨X,hX⟩,hH⟩:=SH.dQ hH;replace hH:=SH.dW hH;dsimp only at hH;have hm:=hX.aI.1;refine aj.enter func242 rfl ntmps242 rfl (gh ?_);refine GX.aL (hc:=fun _ hs=>Fb hm hs) (h:=fun w hE hH=>gh ?_);refine GC.bq (pl:=(aZ [0,3,6,12,15,18,10,24,22,27])) (T:=fun _=>False) (hm:=mixed) (h:=fun w hE hH=>gh ?_);exact⟨rfl,hH.to⟩
theorem aey (m sd:Nat)(hm:1≤m∧m≤65536)(dN:sd<18446744073709551616)(hs:Start o w []) :
  aj prog 82 [iV m,uV sd].toArray w (aU o (fun b:Nat => .tuple #[ak b,iV 0]) (fun _=>True) (fun b=>[jy b ⟨m,[]⟩])):=by
 have hH:=hs.sh;refine aj.enter func82 rfl ntmps82 rfl (gh ?_);refine ifs (fun h1=>?_) (fun h1=>?_)<;>refine gh ?_
 ·omega
 refine ifs (fun h2=>?_) (fun h2=>?_)<;>refine gh ?_
 ·omega
 refine GX.ajO (h:=fun q w hH=>gh ?_);refine GX.cw (h:=fun b w hH=>gh ?_);have h0:gJ sd [-1,-1] []:=⟨⟨by decide,by decide⟩,by decide,(fun b hb=>⟨[],by
  show[(-1:Int),-1].getD b (-1) = -1
  match b,hb with
  |0,_=>rfl
  |1,_=>rfl,mF,fun n=>by simp⟩),(fun n m x y h=>by simp at h),(fun x hx=>by cases hx),(fun x hx=>by cases hx)⟩
 have hX:rp ⟨sd,[-1,-1],[],(some q,2),(none,0),none,0⟩ ⟨m,[]⟩:=⟨h0,rfl,dN,hm,bh _⟩
 have aO:=SH.cE (el:=337) (sz:=3) (q:=none) (n:=0) (c:=0) (cs:=[]) (hH.Jx (el:=3) (sz:=1)) (Mod.refl w) (fun _ h=>by cases h) (aG.nil _ _ _);exact⟨b,rfl,trivial,(wz hX aO).to⟩
theorem SH.ahx {l r:List It}{el:TypeId}{sz n c:Nat}{a:Option Addr}{live:List Value}(hH:SH o w l)(hs:aB (fz (fP el sz a n c live)) l r:=by repeat(first|exact aB.here|apply aB.there))(ha:a=none):n=0:=by
 obtain⟨x,_⟩:=SH.dQ (f:=fun x:j9 sz a n c live=>x.dm el) hH hs;cases x with
 |nil=>rfl
 |dead=>rfl
 |on b k n c pre live hk=>cases ha
theorem Fa {b:Nat}{s:dM}(hs:Start o w [fz (jy b s)]) :
  aj prog 125 [ak b].toArray w (aU o ak (fun _=>True) (fun c=>[jy c s])):=by
 have hH:=hs.sh;obtain⟨⟨X,hX⟩,hH⟩:=SH.dQ hH;replace hH:=SH.dW hH;dsimp only at hH;have hm:=hX.aI.1;have rH:=hX.ok.size.2;have iA:=hX.ok.list;have vY:(cx s.N).length≤65536:=by
  unfold cx;refine eh (rh _ _) ?_;rw[List.length_range,hX.N];simpa[dO] using iA
 have g1:=hH.ti (el:=3) (sz:=1) (cs:=dI X.H);have g3:X.a=none→(cx s.N).length=0:=fun e=>hH.ahx (el:=3) (sz:=1) (c:=X.c) (live:=aD (cx s.N)) (ha:=e)
 have g2:=hH.ti (el:=337) (sz:=3);refine aj.enter func125 rfl ntmps125 rfl (gh ?_);refine GX.aL (hc:=fun _ hs=>Fb hm hs) (h:=fun w hE hH=>gh ?_);refine GC.bq (pl:=(aZ [0,3,6,12,15,18,24,27,30,39,42,45,54,57,60,69,72,75,10,22,34,49,64,79,38,53,68,81,86,87])) (T:=fun _=>False) (hm:=mixed) (h:=fun w hE hH=>gh ?_);refine GX.ew (hc:=fun _ hs=>vD (cs:=dI X.H) ah (by simp) g1 (fun u hu=>by simp only[dI,bK] at hu;obtain⟨_,_,rfl⟩:=hu;rfl) hs) (h:=?_);rintro⟨q1,c1⟩ w _ hS hH;replace hH:=SH.ap hH;refine gh ?_;refine GX.ew (hc:=fun _ hs=>aam (cs:=aK eF X.N) ah (gQ fi _) g2 (FI Wf _) hs) (h:=?_);rintro⟨q2,c2⟩ w _ hS hH;replace hH:=SH.ap hH;refine gh ?_;refine GX.ew (hc:=fun _ hs=>vD (a:=X.a) (n:=(cx s.N).length) (cs:=aD (cx s.N)) ah (by simp) g3 (qM _) hs) (h:=?_);rintro⟨q3,c3⟩ w _ hS hH;replace hH:=SH.ap hH;refine gh ?_;refine GX.nJ (h:=fun c w hS hH=>gh ?_);have aO:=hH.wK (el:=3) (sz:=1) (q:=q3) (cs:=aD (cx s.N));exact⟨c,rfl,trivial,(wz (X:=⟨X.aJ,X.H,X.N,(q1,c1),(q2,c2),ay q3,c3⟩) ⟨hX.ok,hX.N,hX.aJ,hX.aI,hX.dC⟩ aO).to⟩
def fw (s:dM)(x:Bs):Int×Int×dM:=if oX s.N x=none∧dq s.N=s.aI then(0,7,s) else(((e7 s.N x).2:Nat),0,{ s with N:=(e7 s.N x).1})
theorem Cy {N:List Nm}{n:Nat}(y:Nm):dO (N.set n y)=(dO N).set n (y.t,y.r):=by simp[dO,pf]
theorem O8 {α:Type}{L:List α}{k:Nat}(h:k<L.length)(v:α):L.take k++[v]++L.drop (k+1)=L.set k v:=by
 rw[A0,if_pos h];simp
structure Yx where
 n:Nat
 N:List Nm
 q2:Option Nat×Nat
 a:Option Addr
 c:Nat
theorem aej {b:Nat}{s:dM}(x:Bs)(hx:fF x=true)(qJ:∀n,oX s.N x=some n→(s.N.getD n ([],0)).2+1<2097152)(hs:Start o w [jy b s]) :
  aj prog 230 [ak b,str x].toArray w (Po o (.tuple #[iV (fw s x).1,iV (fw s x).2.1]) [jy b (fw s x).2.2]):=by
 have hH:=hs.sh;obtain⟨⟨X,hX⟩,hH⟩:=SH.un hH;replace hH:=SH.ap hH;dsimp only at hH;have hm:=hX.aI;have wv:x.length<2^40:=by have:=eN hx;omega
 refine aj.enter func230 rfl ntmps230 rfl (gh ?_);refine GX.aL (hc:=fun _ hs=>Fb hm.1 hs) (h:=fun w hE hH=>gh ?_);refine GX.da (Uf x _) rfl rfl rfl rfl rfl rfl (gh ?_);rw[hx];refine gh ?_;refine GX.aL (hc:=fun _ hs=>Ua hX x wv hs) (h:=fun w hE hH=>gh ?_);unfold DB;obtain⟨aX,hN,dN,_,Ec⟩:=id hX;obtain⟨sd,H,N,⟨q1,c1⟩,⟨q2,c2⟩,af,cf⟩:=X;dsimp only at hH aX hN dN;have rH:=aX.size;have iA:=aX.list;cases hn:oX s.N x with
 |some n=>
  obtain⟨y,hy,uH,Nt⟩:=Wc (N:=N) (by rw[←hN];exact hn);have hnl:=(aV.1 hy).1;have hg:(s.N.getD n ([],0)).2=y.r:=by rw[hN,fT,yE hy];rfl
  have EL:=qJ n hn;rw[hg] at EL;obtain⟨p,rfl⟩:=hH.pos (el:=337) (sz:=3);dsimp only;refine gh ?_;refine GX.next rfl (GO.cG (hv:=nj fi hy (j:=1) rfl) (h:=gh ?_));refine ifs (fun h1=>?_) (fun h1=>?_)<;>refine gh ?_
  ·omega
  refine GX.next rfl (GO.cG (hv:=nj fi hy (j:=1) rfl) (h:=gh ?_));refine GX.vf (hb:=?_) (hc:=show(aK eF N).take (0+n*3+1)++[iV ((y.r+1:Nat):Int)]++(aK eF N).drop (0+n*3+1+1)=aK eF (N.set n ⟨y.t,y.r+1,y.nx⟩) from ?_) (h:=fun w hH=>gh ?_)
  ·rw[gQ fi];simp;omega
  ·rw[dA,←CR (y:=⟨y.t,y.r+1,y.nx⟩) (v:=iV ((y.r+1:Nat):Int)) (j:=1) fi hy (by decide) rfl,A0,if_pos (by rw[gQ fi];omega)];simp
  have jO:fw s x=((n:Int),(0:Int),({ s with N:=s.N.set n (x,y.r+1)}:dM)):=by
   rw[fw,if_neg (by rw[hn];simp),e7,hn];simp only[hg]
  have hNN:s.N.set n (x,y.r+1)=dO (N.set n ⟨y.t,y.r+1,y.nx⟩):=by rw[Cy,←hN,←Nt]
  have TE:s.N[n]?=some (y.t,y.r):=by rw[hN];exact yE hy
  have oO:cx (s.N.set n (x,y.r+1))=cx s.N:=Rt TE uH (by simp);have xQ:dq (s.N.set n (x,y.r+1))=dq s.N:=by
   have:=Ha (y:=(x,y.r+1)) TE;simp only[uH,if_true,Nat.zero_lt_succ] at this;omega
  rw[jO];have vR:rp ⟨sd,H,N.set n ⟨y.t,y.r+1,y.nx⟩,(q1,c1),(some p,c2),af,cf⟩ { s with N:=s.N.set n (x,y.r+1)}:=⟨aX.Yk hy uH ⟨by omega,EL⟩,hNN,dN,hm,by show dq (s.N.set n _)≤s.aI;rw[xQ];exact Ec⟩
  rw[←oO,←xQ,show N.length=(N.set n ⟨y.t,y.r+1,y.nx⟩).length by simp] at hH;exact⟨rfl,(wz vR hH).to⟩
 |none=>
 dsimp only;refine gh ?_;refine GC.bq (pl:=(aZ [0,3,6,12,15,18,10,22,24])) (T:=fun _=>False) (hm:=mixed) (h:=fun w hE hH=>gh ?_);refine ifs (fun h1=>?_) (fun h1=>?_)<;>refine gh ?_
 ·have jO:fw s x=(0,7,s):=by rw[fw,if_pos ⟨hn,by omega⟩]
  rw[jO];exact⟨rfl,(wz hX hH).to⟩
 have rE:dq s.N≠s.aI:=by omega
 have bG:∀(m:Nat) (y:Nm),N[m]?=some y→0<y.r→y.t≠x:=fun m y hy hr e=>by
  have:=aX.Wd hy hr;rw[e,←hN,hn] at this;cases this
 refine GC.cut (X:=Yx) (fun z=>[(0,ak b),(1,str x),(7,iV z.n)]) (fun z w'=>gJ sd H z.N∧(∃y,z.N[z.n]?=some y∧y.r=0)∧(∀(m:Nat) (y:Nm),z.N[m]?=some y→0<y.r→y.t≠x)∧e7 s.N x=((dO z.N).set z.n (x,1),z.n)∧dq (dO z.N)=dq s.N∧SH o w' [aA b [iV s.aI,uV sd, .slice (ay q1) H.length c1, .slice (ay z.q2.1) z.N.length z.q2.2, .slice z.a (cx (e7 s.N x).1).length z.c,iV (dq s.N)],ao 3 1 q1 H.length c1 (dI H),ao 337 3 z.q2.1 z.N.length z.q2.2 (aK eF z.N),fP 3 1 z.a (cx (e7 s.N x).1).length z.c (aD (cx (e7 s.N x).1))]) ?_ ?_
 ·cases hF:cx s.N with
  |nil=>
   have hNl:N.length<65536:=by
    have h2:=aav hF;rw[hN] at h2 rE Ec;rw[h2] at rE Ec;simp only[dO,fk] at rE Ec;omega
   have jO:e7 s.N x=((dO (N++[lQ])).set N.length (x,1),N.length):=by
    unfold e7;rw[hn,hF];simp only[dO,eD,cK,tD,hN];rw[show(List.map (fun x=>(x.t,x.r)) N).length=N.length by simp,List.set_append_right _ _ (by simp)];simp
   rw[hF] at hH;refine gh ?_;refine GX.mK (h1:=by exact Wf lQ) (h:=fun q c w _ hH=>gh ?_);refine GX.dw (h:=fun w hH=>gh ?_);have oO:cx (e7 s.N x).1=[]:=by
    unfold e7;rw[hn,hF];exact abM hF _ (by simp)
   refine GQ.dx ⟨N.length,N++[lQ],(q,c),af,cf⟩ (cZ (l:=[0,1,7]) rfl) ⟨aX.more rfl hNl,⟨lQ,by simp,rfl⟩,fun m y hy hr=>?_,jO,by rw[hN];simp only[dO,eD,cK,tD];rw[aau];rfl,?_⟩
   ·rw[List.getElem?_append] at hy;split at hy
    ·exact bG m y hy hr
    ·rw[List.getElem?_singleton] at hy;split at hy
     ·cases hy;exact absurd hr (by decide)
     ·cases hy
   ·rw[oO,show(N++[lQ]).length=N.length+1 by simp,kK];exact hH.to
  |cons n F=>
   obtain⟨y,hy,uH⟩:=oV.1 (show n∈cx s.N by rw[hF];simp);obtain⟨z,hz,rfl⟩:=Jr (N:=N) (by rw[←hN];exact hy);have jO:e7 s.N x=((dO N).set n (x,1),n):=by
    unfold e7;rw[hn,hF];simp only[hN]
   have oO:cx (e7 s.N x).1=F:=by
    rw[jO,←hN];exact abP hF (by simp)
   rw[hF] at hH;obtain⟨q,k,pre,rfl,hk,_⟩:=hH.Jy (el:=3) (sz:=1) (n:=(n::F).length) (by simp);refine gh ?_;refine ifs (fun h2=>?_) (fun h2=>?_)<;>refine gh ?_
   rotate_left
   ·exact absurd (show(0:Int)<((n::F).length:Nat) by simp) h2
   refine GC.bq (pl:=(aZ [0,3,6,9,21,24,27,13,15,19,36,31,33,39,42,47])) (T:=fun _=>False) (hm:=mixed) (h:=fun w hE hH=>gh ?_);refine gh ?_;have kG:(pre++aD (n::F))[k*1+0*1]?=some (iV n):=by
    rw[ia ah,show k*1+0*1 - pre.length=0 by omega];rfl
   refine GX.read rfl (GO.jU (hv:=kG) (h:=gh ?_));refine GX.pure rfl (GO.kL rfl (j:=1) (hh:=gh ?_));refine GX.fH (h:=fun w hH=>gh ?_);have hH:=(hH.CC hk).Ws (el:=3) (sz:=1) (n:=(n::F).length) (by simp);refine GQ.dx ⟨n,N,(q2,c2),eS (some ⟨q,k*1,none⟩) 1 cf 1,cf - 1⟩ (cZ (l:=[0,1,7]) rfl) ⟨aX,⟨z,hz,uH⟩,bG,jO,by rw[hN],?_⟩;rw[oO];exact hH.to
 ·rintro⟨n,N',⟨p2,d2⟩,a',c'⟩ w ⟨rK,⟨y,hy,uH⟩,ID,jO,xQ,hH⟩;dsimp only at rK hy uH ID jO xQ hH ⊢;have hnl:=(aV.1 hy).1;have vY:=rK.list;obtain⟨p,rfl⟩:=hH.pos (el:=337) (sz:=3);refine gh ?_;refine GX.vf (hb:=?_) (hc:=show(aK eF N').take (0+n*3)++eF ⟨x,1,-1⟩++(aK eF N').drop (0+n*3+(eF ⟨x,1,-1⟩).length)=aK eF (N'.set n ⟨x,1,-1⟩) from ?_) (h:=fun w hH=>gh ?_)
  ·rw[gQ fi];have:=fi ⟨x,1,-1⟩;omega
  ·rw[dA];exact AN fi hnl ⟨x,1,-1⟩
  refine GX.dw (h:=fun w hH=>gh ?_);refine GC.bq (pl:=(aZ [0,3,6,12,15,18,10,22,24,27])) (T:=fun _=>False) (hm:=mixed) (h:=fun w hE hH=>gh ?_);have qF:∀z:Int,dO (N'.set n ⟨x,1,z⟩)=(e7 s.N x).1:=fun z=>by rw[Cy,jO]
  have xP:dq (e7 s.N x).1=dq s.N+1:=by
   have:=Ha (y:=(x,1)) (yE hy);simp only[uH,Nat.lt_irrefl,if_false,Nat.zero_lt_one,if_true] at this;show dq (e7 s.N x).1=_;rw[show(e7 s.N x).1=(dO N').set n (x,1) by rw[jO]];omega
  have EN:fw s x=((n:Int),(0:Int),({ s with N:=(e7 s.N x).1}:dM)):=by
   rw[fw,if_neg (fun e=>rE e.2),jO]
  have vZ:(N'.set n ⟨x,1,-1⟩).length=N'.length:=fS;have uy:=rK.push hy uH hx ID (b:=bN sd x % H.length) rfl;rw[EN];refine ifs (fun h2=>?_) (fun h2=>?_)<;>refine gh ?_
  ·have hht:∀z∈N'.set n ⟨x,1,-1⟩,0<z.r→fF z.t=true:=fun z hz h0=>by
    rcases l4 hz with h|rfl
    ·exact rK.tag z h h0
    ·exact hx
   have hhr:∀z∈N'.set n ⟨x,1,-1⟩,z.r<2097152:=fun z hz=>by
    rcases l4 hz with h|rfl
    ·exact rK.refs z h
    ·show 1<2097152;decide
   rw[←vZ] at hH;refine GX.bS (hc:=fun _ hs=>aex ⟨rH.1,by omega⟩ (by rw[vZ];exact vY) dN hht hhr hs) (h:=?_);rintro⟨H3,N3,p3⟩ w ⟨h3l,Hz,Lo⟩ hH;dsimp only at h3l Hz Lo hH ⊢;replace hH:=SH.ap hH;refine gh ?_;have h3L:N3.length=(N'.set n ⟨x,1,-1⟩).length:=Oi Hz;rw[←h3L] at hH Lo;have adF:=uy.ahw (Hz.trans ((qF _).trans (qF _).symm)) Lo ⟨by omega,by omega⟩;have oM:rp ⟨sd,H3,N3,(some p3,H3.length),(some p,d2),a',c'⟩ ({ s with N:=(e7 s.N x).1}:dM):=⟨adF,(qF _).symm.trans Hz.symm,dN,hm,by show dq (e7 s.N x).1≤s.aI;omega⟩
   rw[show Value.int IntKind.i64 ((dq s.N:Int)+1)=iV (dq (e7 s.N x).1) by rw[xP];rfl] at hH;exact⟨rfl,(wz oM hH).to⟩
  ·obtain⟨p1,rfl⟩:=hH.pos (el:=3) (sz:=1);refine gh ?_;refine GX.aL (hc:=fun _ hs=>I3 rH dN x wv hs) (h:=fun w hE hH=>gh ?_);have fq:bN sd x % H.length<H.length:=fm _ ah;refine GC.bq (pl:=(aZ [0,3,6,12,15,18,21,27,10,25,30,33,38,39,44])) (T:=fun _=>False) (hm:=mixed) (h:=fun w hE hH=>gh ?_);refine gh ?_;refine GX.read rfl (GO.jU (hv:=I4 fq) (h:=gh ?_));refine GX.gH (hb:=?_) (hc:=show(aK eF (N'.set n ⟨x,1,-1⟩)).take (0+n*3+2)++[iV (H.getD (bN sd x % H.length) (-1))]++(aK eF (N'.set n ⟨x,1,-1⟩)).drop (0+n*3+2+1)=aK eF (N'.set n ⟨x,1,H.getD (bN sd x % H.length) (-1)⟩) from ?_) (h:=fun w hH=>gh ?_)
   ·rw[gQ fi,vZ];show 0+n*3+2+1≤_;omega
   ·have hg:(N'.set n ⟨x,1,-1⟩)[n]?=some ⟨x,1,-1⟩:=dJ hnl;have h2:=CR (y:=⟨x,1,H.getD (bN sd x % H.length) (-1)⟩) (v:=iV (H.getD (bN sd x % H.length) (-1))) (j:=2) fi hg (by decide) rfl;rw[List.set_set] at h2;rw[dA];exact(O8 (by rw[gQ fi,vZ];omega) _).trans h2
   refine GX.FZ (j:=bN sd x % H.length) (hj:=by simp only[Fi];exact fq) (h:=fun w hH=>gh ?_);rw[show(dI H).set (bN sd x % H.length) (iV n)=dI (H.set (bN sd x % H.length) (n:Int)) by simp[dI,pf]] at hH;generalize bN sd x % H.length=bk at hH uy;have oM:rp ⟨sd,H.set bk (n:Int),N'.set n ⟨x,1,H.getD bk (-1)⟩,(some p1,c1),(some p,d2),a',c'⟩ ({ s with N:=(e7 s.N x).1}:dM):=⟨uy,(qF _).symm,dN,hm,by show dq (e7 s.N x).1≤s.aI;omega⟩
   rw[show Value.int IntKind.i64 ((dq s.N:Int)+1)=iV (dq (e7 s.N x).1) by rw[xP];rfl,show N'.length=(N'.set n ⟨x,1,H.getD bk (-1)⟩).length by simp,show H.length=(H.set bk (n:Int)).length by simp] at hH;exact⟨rfl,(wz oM hH).to⟩
end Go.Proofs.YtmlpbmgfmnmmmaaGreat.V.M
