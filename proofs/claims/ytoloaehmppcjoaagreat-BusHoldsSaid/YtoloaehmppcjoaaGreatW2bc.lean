/-
  Parts of the proof. No condition.
-/
import Derived.Test.YtoloaehmppcjoaaGreatW2bb
import Derived.Test.YtoloaehmppcjoaaGreatW2ak
import Derived.Test.YtoloaehmppcjoaaGreatW2ba
import Derived.Test.YtoloaehmppcjoaaGreatW2as
set_option linter.unusedVariables false
set_option linter.unusedSimpArgs false
set_option maxRecDepth 8000
set_option maxHeartbeats 8000000
open Go.Proofs.Tryz
namespace Go.Proofs.YtoloaehmppcjoaaGreat.V.M
attribute [local irreducible] GO GX aB fz aF aS aq star
variable {o:Og}{w:World}
theorem Uh {α:Type}{l:List α}{i:Nat}(x:α)(h:i≤l.length)(zs:List α)(hz:zs.length=l.length+1 - i) :
  ((l.take i++zs).take i++[x]++(l.take i++zs).drop (i+1)).take (i+1)++l.drop i++((l.take i++zs).take i++[x]++(l.take i++zs).drop (i+1)).drop (i+1+(l.drop i).length)=l.take i++x::l.drop i:=by
 have h1:(l.take i).length=i:=by rw[dI];omega
 have h2:(l.take i++zs).take i=l.take i:=by rw[vt ah,fw ah]
 rw[h2];have h3:(l.take i++[x]).length=i+1:=by simp;omega
 have h4:(l.take i++[x]++(l.take i++zs).drop (i+1)).take (i+1)=l.take i++[x]:=by rw[vt ah,fw ah]
 rw[h4];have h5:(l.take i++[x]++(l.take i++zs).drop (i+1)).drop (i+1+(l.drop i).length)=[]:=by
  apply mm;simp only[bH,ml,h1,hz,gW];omega
 rw[h5];simp
theorem Ui {α:Type}{l:List α}{i:Nat}(x u:α)(h:i<l.length) :
  ((l++[u]).take (i+1)++l.drop i++(l++[u]).drop (i+1+(l.drop i).length)).take i++[x]++((l++[u]).take (i+1)++l.drop i++(l++[u]).drop (i+1+(l.drop i).length)).drop (i+1)=l.take i++x::l.drop i:=by
 have h1:(l++[u]).take (i+1)=l.take i++[l[i]]:=by rw[vt ah,lh h]
 have h2:(l++[u]).drop (i+1+(l.drop i).length)=[]:=by
  apply mm;simp only[bH,ml,gW];omega
 have h3:(l.take i).length=i:=by rw[dI];omega
 have e:l.take i++[l[i]]++l.drop i=l.take i++(l[i]::l.drop i):=by rw[cS];rfl
 rw[h1,h2,fB,e,List.take_left' h3,show(l.take i++(l[i]::l.drop i)).drop (i+1)=l.drop i by rw[←List.drop_drop,List.drop_left' h3];rfl];simp
theorem aeM {q:Option Nat}{N c bv:Nat}{cs:List Value}{x:Value}(i:Nat)(hi:i≤N)(hN:N<2^40)(hx:x.oneCell'=true)(h1:∀u∈cs,u.oneCell'=true)(hs:Start o w [aq 3 1 q N c cs,aq 3 1 (some bv) 1 1 [x]]) :
  aj prog 299 [.slice (aA q) N c,iV i, .slice (some ⟨bv,0,none⟩) 1 1].toArray w (aX o (my (N+1)) (fun _=>True) (mw 3 1 (N+1) (cs.take i++x::cs.drop i))):=by
 have hH:=hs.sh;have hlen:=hH.len (el:=3) (sz:=1) (q:=q);rw[mj] at hlen;have H9:=hH.cap (q:=q);refine aj.enter func299 rfl ntmps299 rfl (gh ?_);refine GX.next rfl (GO.kX (j:=i) rfl (hh:=gh ?_))
 by_cases h2:i=N
 ·subst h2;rw[show decide ((i:Int)=(i:Int))=true by simp];refine gh ?_;refine GX.pQ (q:=q) (m2:=1) (c2:=1) (news:=[x]) (hN:=SH.bL hH (x:=aq 3 1 (some bv) 1 1 [x]) (a:=some ⟨bv,0,none⟩) bP) (hnl:=rfl) (h1:=fun u hu=>by simp at hu;subst hu;exact hx) (h:=fun q' c' w hH=>gh ?_);refine⟨(q',c'),rfl,trivial,?_⟩;rw[fw ah,mm ah];exact hH.to
 ·rw[show decide ((i:Int)=(N:Int))=false by simp;omega];refine gh ?_;obtain⟨b,rfl⟩:=hH.pos (q:=q);refine GX.next rfl (GO.GZ rfl rfl rfl rfl (gh ?_));refine ifs (fun h3=>?_) (fun h3=>?_)<;>refine gh ?_
  ·refine GX.next rfl (GO.AP (j:=i) rfl (hh:=?_));rw[xl];refine gh ?_;rw[show(N:Int)+((1:Nat):Int) - (i:Int)=((N+1 - i:Nat):Int) by omega];have hA:At w b 0 cs:=hH.es (b:=b) (cs:=cs) (by repeat(first|exact Es.sl|exact Es.lr|exact Es.lx|apply Es.there));refine GX.KS (c0:=N+1 - i) (olds:=cs.take i) (a:=aA (some b)) (hA:=At.left (m:=cs.drop i) (by rw[jW];exact hA)) (hl:=by rw[dI];omega) (h:=fun b' c' w zs hz hE hH=>?_);rw[show i+(N+1 - i)=N+1 by omega] at hH ⊢;have acW:=hH.cap (q:=some b');refine gh ?_;refine GX.next rfl (GO.kX (j:=i) rfl (hh:=?_));rw[mh b' i c' ah];refine gh ?_;refine GX.Dt (b:=b') (vs:=[x]) (hA:=SH.bL hH (x:=aq 3 1 (some bv) 1 1 [x]) (a:=some ⟨bv,0,none⟩) bP) (hl:=by simp[Nat.min_def];omega) (h1:=fun u hu=>by simp at hu;subst hu;exact hx) (hb:=by simp;omega) (hc:=rfl) (h:=fun w hH=>gh ?_);have hA:At w b 0 cs:=hH.es (b:=b) (cs:=cs) (by repeat(first|exact Es.sl|exact Es.lr|exact Es.lx|apply Es.there));have gy:bN w (some ⟨b,i,none⟩) (cs.drop i):=by
    have:=At.right (l:=cs.take i) (m:=cs.drop i) (by rw[jW];exact hA);rwa [dI,pC ah,dz] at this
   refine GC.br (pl:=(bg [0,3,6,9,12,15,18,21,26])) (T:=dt []) (hm:=mixed) (h:=fun w hE hH=>gh ?_);refine GX.pure rfl (GO.kX (j:=i+1) rfl (hh:=?_));rw[mh b' (i+1) c' ah];refine gh ?_;refine GX.pure rfl (GO.kX (j:=i) rfl (hh:=?_));rw[show fi (aA (some b)) i c 1=some ⟨b,i,none⟩ from mh b i c ah];refine gh ?_;refine GX.Du (b:=b') (vs:=cs.drop i) (hA:=bN.mod gy hE fun _ _ h=>h) (hl:=by simp[Nat.min_def];omega) (h1:=fun u hu=>h1 u (xv hu)) (hb:=by simp;omega) (hc:=rfl) (h:=fun w hH=>gh ?_);refine⟨(some b',c'),rfl,trivial,?_⟩;have:=Uh x (l:=cs) (i:=i) ah zs ah;simp only[gW] at hH;rw[this] at hH;exact hH.to
  ·refine GX.next rfl (GO.AP (j:=N+1) rfl (hh:=?_));rw[xl];refine gh ?_;obtain⟨u,hH⟩:=hH.more (el:=3) (b:=b) (n:=N) (c:=c) (cs:=cs) ah;refine GX.next rfl (GO.kX (j:=i+1) rfl (hh:=?_));rw[show fi (aA (some b)) (i+1) c 1=some ⟨b,i+1,none⟩ from mh b (i+1) c ah];refine GX.Ql (V := .bool false) (hr:=?_) (h:=gh ?_)
   ·have ES:=Xj (P:=prog) (tS:=105) (tR:=4) (aT:=8) (o:=i+1) (N:=N+1 - (i+1)) (C:=c - (i+1)) inferInstance (hH.own (el:=3) (q:=some bv) (n:=1) (c:=1) (cs:=[x]) bP) (hH.own (el:=3) (q:=some b) (n:=N+1) (c:=c) (cs:=cs++[u]) bP) (fun e=>by have:=hH.Wa (b:=bv) (q:=some b);exact this (congrArg some e)) ah;rw[run_callFunc_extern (fn:=Tryz.f346) ai ai ai ai (e:=Extern.SlicesOverlaps.overlaps #[105,105] #[4]) ai];exact congrArg (fun r:Result Value=>r.andThen fun v w'=>Result.ok (Next.value v) w') ES
   have hA:At w b 0 (cs++[u]):=hH.es (b:=b) (cs:=cs++[u]) (by repeat(first|exact Es.sl|exact Es.lr|exact Es.lx|apply Es.there));have gy:bN w (some ⟨b,i,none⟩) (cs.drop i):=by
    have:=At.right (l:=cs.take i) (m:=cs.drop i) (by rw[jW];exact hA.left);rwa [dI,pC ah,dz] at this
   refine GC.br (pl:=(bg [0,3,6,9,12,15,18,21,26])) (T:=dt []) (hm:=mixed) (h:=fun w hE hH=>gh ?_);refine GX.pure rfl (GO.kX (j:=i+1) rfl (hh:=?_));rw[show fi (aA (some b)) (i+1) c 1=some ⟨b,i+1,none⟩ from mh b (i+1) c ah];refine gh ?_;refine GX.pure rfl (GO.kX (j:=i) rfl (hh:=?_));rw[show fi (aA (some b)) i c 1=some ⟨b,i,none⟩ from mh b i c ah];refine gh ?_;refine GX.Du (b:=b) (vs:=cs.drop i) (hA:=bN.mod gy hE fun _ _ h=>h) (hl:=by rw[ml];show _=min (N+1 - i) (N+1 - (i+1));omega) (h1:=fun u hu=>h1 u (xv hu)) (hb:=by simp;omega) (hc:=rfl) (h:=fun w hH=>gh ?_);refine GX.next rfl (GO.kX (j:=i) rfl (hh:=?_));rw[show fi (aA (some b)) i c 1=some ⟨b,i,none⟩ from mh b i c ah];refine gh ?_;refine GX.Dt (b:=b) (vs:=[x]) (hA:=SH.bL hH (x:=aq 3 1 (some bv) 1 1 [x]) (a:=some ⟨bv,0,none⟩) bP) (hl:=by simp[Nat.min_def];omega) (h1:=fun u hu=>by simp at hu;subst hu;exact hx) (hb:=by simp;omega) (hc:=rfl) (h:=fun w hH=>gh ?_);refine⟨(some b,c),rfl,trivial,?_⟩;have:=Ui x u (l:=cs) (i:=i) ah;simp only[gW] at hH;rw[this] at hH;exact hH.to
theorem Zs (y:Nat)(hy:y<2^32)(w:World):aj prog 393 [uV 1,uV y].toArray w fun v w'=>v = .tuple #[uV 0,uV y]∧w'=w:=by
 refine aj.enter func393 rfl ntmps393 rfl (gh ?_);refine GX.da (ag4 y hy _) rfl rfl rfl rfl rfl rfl (gh ?_);exact⟨rfl,rfl⟩
theorem aiF {α:Type}(v:α)(n N:Nat)(R:List α)(h1:n≤N)(hR:R.length=N - n):((List.replicate n v++R).take n++List.replicate (min n (N - n)) v++(List.replicate n v++R).drop (n+(List.replicate (min n (N - n)) v).length))=List.replicate (n+min n (N - n)) v++R.drop (min n (N - n)):=by
 rw[List.take_left' (by simp),List.length_replicate,List.replicate_append_replicate,←List.drop_drop,List.drop_left' (by simp)]
theorem aiG {a:Option Addr}{c:Nat}(v:Int)(N:Nat)(h1:1≤N)(hN:N<2^32)(hs:Start o w [aF a [iV v]]) :
  aj prog 373 [.slice a 1 c,iV N].toArray w (aX o (fun b:Nat => .slice (some ⟨b,0,none⟩) N N) (fun _=>True) (fun b=>[aq 3 1 (some b) N N (List.replicate N (iV v))])):=by
 have hH:=hs.sh;refine aj.enter func373 rfl ntmps373 rfl (gh ?_);refine GX.da (Zs N hN _) rfl rfl rfl rfl rfl rfl (gh ?_);refine ifs (fun h3=>?_) (fun h3=>?_)<;>refine gh ?_
 ·omega
 refine GX.Js (ln:=(N:Int)) (c:=(N:Int)) (h:=fun b w hH=>?_);simp only[qB] at hH ⊢;have ez:∀k:Nat,(List.replicate k (Value.int IntKind.i64 0).cells.toList).flatten=List.replicate k (iV 0):=fun k=>by
  induction k with
  |zero=>rfl
  |succ k ih=>rw[List.replicate_succ,oL,ih];rfl
 rw[ez] at hH;refine gh ?_;refine GX.Dt (b:=b) (vs:=[iV v]) (hA:=SH.bL hH (x:=aF a [iV v]) (a:=a) (cs:=[iV v]) bP) (hl:=by show _=min 1 N;simp;omega) (h1:=fun u hu=>by simp at hu;subst hu;rfl) (hb:=by simp;omega) (hc:=rfl) (h:=fun w hH=>gh ?_);have e0:(List.replicate N (iV 0)).take 0++[iV v]++(List.replicate N (iV 0)).drop (0 + [iV v].length)=List.replicate 1 (iV v)++List.replicate (N - 1) (iV 0):=by simp
 rw[e0] at hH;refine GC.bR [7] (fun n:Nat=>[(8,iV n)]) (fun n w'=>1≤n∧n≤N∧∃R:List Value,R.length=N - n∧SH o w' [aq 3 1 (some b) N N (List.replicate n (iV v)++R),aF a [iV v]]) (fun n=>N - n) 1 rfl rfl ⟨aY _,h1,_,by simp,hH⟩ ?_;rintro n w ⟨h4,h5,R,hR,hH⟩;refine gh ?_;refine ifs (fun h6=>?_) (fun h6=>?_)<;>refine gh ?_
 ·have hA:At w b 0 (List.replicate n (iV v)++R):=hH.es (b:=b) (cs:=List.replicate n (iV v)++R) (by repeat(first|exact Es.sl|exact Es.lr|exact Es.lx|apply Es.there));refine GC.br (pl:=(bg [0,3,6,9,12,15,18,23,24,27])) (T:=dt []) (hm:=mixed) (h:=fun w hE hH=>gh ?_);refine GX.pure rfl (GO.kX (j:=n) rfl (hh:=?_));rw[show fi (aA (some b)) n N 1=some ⟨b,n,none⟩ from mh b n N ah];refine gh ?_;refine GX.pure rfl (GO.AP (j:=n) rfl (hh:=?_));rw[xl];refine gh ?_;refine GX.Du (b:=b) (vs:=List.replicate (min n (N - n)) (iV v)) (hA:=bN.mod (show bN _ (some ⟨b,0,none⟩) _ from At.left (m:=List.replicate (n - min n (N - n)) (iV v)) (by rw[List.replicate_append_replicate,show min n (N - n)+(n - min n (N - n))=n by omega];exact hA.left)) hE fun _ _ h=>h) (hl:=by rw[List.length_replicate]) (h1:=fun u hu=>by rw[(List.mem_replicate.1 hu).2];rfl) (hb:=by simp only[bH,List.length_replicate];omega) (hc:=aiF _ n N R h5 hR) (h:=fun w hH=>gh ?_);rw[List.length_replicate];refine gh ?_;rw[show(n:Int)+((min n (N - n):Nat):Int)=((n+min n (N - n):Nat):Int) by omega];exact GQ.bj (n+min n (N - n)) rfl ⟨by omega,by omega,_,by rw[ml];omega,hH⟩ ah
 ·obtain rfl:n=N:=by omega
  obtain rfl:R=[]:=gu ah;rw[fB] at hH;exact⟨b,rfl,trivial,hH.to⟩
structure vG where
 aJ:Nat
 H:List Int
 N:List Nm
 q1:Option Nat×Nat
 q2:Option Nat×Nat
 a:Option Addr
 c:Nat
def du (N:eF):Nat:=(N.filter fun x=>decide (0<x.2)).length
structure dQ where
 aD:Nat
 N:eF
structure rH (X:vG)(s:dQ):Prop where
 ok:gX X.aJ X.H X.N
 N:s.N=dU X.N
 aJ:X.aJ<18446744073709551616
 aD:1≤s.aD∧s.aD≤65536
 cP:du s.N≤s.aD
abbrev vG.dS (X:vG)(b:Nat)(s:dQ):List It:=
 [aB b [iV s.aD,uV X.aJ, .slice (aA X.q1.1) X.H.length X.q1.2, .slice (aA X.q2.1) X.N.length X.q2.2, .slice X.a (cw s.N).length X.c,iV (du s.N)],
  aq 3 1 X.q1.1 X.H.length X.q1.2 (dL X.H),aq 360 3 X.q2.1 X.N.length X.q2.2 (aL eP X.N),fZ 3 1 X.a (cw s.N).length X.c (aG (cw s.N))]
def jS (b:Nat)(s:dQ):It:=star fun X:{ X:vG // rH X s}=>X.1.dS b s
theorem wH {l t:List It}{b:Nat}{X:vG}{s:dQ}(hX:rH X s)(hH:SH o w l)(hp:Pk l (X.dS b s) t:=by repeat(first|exact Pk.nil|(apply Pk.cons;repeat(first|exact az.here|apply az.there)))):SH o w (jS b s::t):=
 SH.fold (f:=fun X:{ X:vG // rH X s}=>X.1.dS b s) ⟨X,hX⟩ hH hp
theorem Jf {l:List Int}{j:Nat}(h:j<l.length):(dL l)[j]?=some (iV (l.getD j (-1))):=by simp[dL,h]
theorem Wg (x:Nm):∀u∈eP x,u.oneCell'=true:=by
 intro u hu;simp only[eP,bU,uc,or_false] at hu
 rcases hu with rfl|rfl|rfl<;>rfl
theorem Fk {b m:Nat}{v1 v2 v3 v4 v5:Value}(hm:1≤m)(hs:Start o w [fz (aB b [iV m,v1,v2,v3,v4,v5])]):aj prog 231 [ak b].toArray w (Po o (.bool false) []):=by
 have hH:=hs.sh;refine aj.enter func231 rfl ntmps231 rfl (gh ?_);refine⟨?_,hH.to⟩;rw[bQ ah]
theorem Je {b m q c sd:Nat}{H:List Int}{v3 v4 v5:Value}(hl:2≤H.length∧H.length≤262144)(eH:sd<18446744073709551616)(x:Bs)(hx:x.length<2^40)(hs:Start o w [fz (aB b [iV m,uV sd, .slice (aA (some q)) H.length c,v3,v4,v5])]) :
  aj prog 297 [ak b,str x].toArray w (Po o (.pointer (some ⟨q,bK sd x % H.length,none⟩)) []):=by
 have hH:=hs.sh;have aN:bK sd x % H.length<H.length:=e7 _ ah;have hh:=Se eH x;refine aj.enter func297 rfl ntmps297 rfl (gh ?_);refine GC.br (pl:=(bg [0,3,6,12,15,18,24,30,33,36,10,22,40,42,45,29,48,51,54])) (T:=fun _=>False) (hm:=mixed) (h:=fun w hE hH=>gh ?_);refine GX.pS (hc:=Pg sd eH x hx _) (h:=gh ?_);refine GX.pure rfl (GO.rem (c:=((bK sd x % H.length:Nat):Int)) rfl rfl rfl rfl rfl ah (by rw[Int.tmod_eq_emod_of_nonneg ah];rfl) (gh ?_));refine⟨?_,hH.to⟩;simp
def DE (N:eF)(s:Bs):Int:=match jB N s with|some n=>n|none=>-1
theorem Ud {b:Nat}{X:vG}{s:dQ}(hX:rH X s)(x:Bs)(hx:x.length<2^40)(hs:Start o w [fz (aB b [iV s.aD,uV X.aJ, .slice (aA X.q1.1) X.H.length X.q1.2, .slice (aA X.q2.1) X.N.length X.q2.2, .slice X.a (cw s.N).length X.c,iV (du s.N)]),fz (aq 3 1 X.q1.1 X.H.length X.q1.2 (dL X.H)),fz (aq 360 3 X.q2.1 X.N.length X.q2.2 (aL eP X.N))]) :
  aj prog 327 [ak b,str x].toArray w (Po o (iV (DE s.N x)) []):=by
 have hH:=hs.sh;obtain⟨⟨⟨sk,sq⟩,hnl,tz,TP,ot,ra⟩,hN,eH,rY,_⟩:=id hX;obtain⟨sd,H,N,⟨q1,c1⟩,⟨q2,c2⟩,a,c⟩:=X;dsimp only at hH sk sq hnl tz TP ot ra hN eH;have fD:bK sd x % H.length<H.length:=e7 _ ah;obtain⟨L,hL,vV,DV⟩:=tz _ fD;obtain⟨q,rfl⟩:=hH.l8 (el:=3) (sz:=1) (q:=q1);refine aj.enter func327 rfl ntmps327 rfl (gh ?_);refine GX.aM (hc:=fun _ hs=>Je ⟨sk,sq⟩ eH x hx hs) (h:=fun w hE hH=>gh ?_);refine GX.next rfl (GO.cT (hv:=Jf fD) (h:=gh ?_));refine GC.bR [0,1] (fun y:Int×List Nat=>[(5,iV y.1)]) (fun y w'=>fI N y.1 y.2∧(∀n∈y.2,n∈L)∧(∀n∈L,n∈y.2∨∀z,N[n]?=some z→z.t≠x)∧SH o w' [fz (aB b [iV s.aD,uV sd, .slice (aA (some q)) H.length c1, .slice (aA q2) N.length c2, .slice a (cw s.N).length c,iV (du s.N)]),fz (aq 360 3 q2 N.length c2 (aL eP N))]) (fun y=>y.2.length) (H.getD (bK sd x % H.length) (-1),L) rfl rfl ⟨hL,fun _ h=>h,fun _ h => .inl h,hH.to⟩ ?_;rintro⟨z,l⟩ w ⟨hc,eO,Mp,hH⟩;simp only at hc eO Mp;dsimp only;have aU:gX sd H N:=⟨⟨sk,sq⟩,hnl,tz,TP,ot,ra⟩
 cases l with
 |nil=>
  obtain rfl:z = -1:=hc;refine gh ?_;refine⟨?_,hH.to⟩;rw[DE,hN,ahi fun n y hy hr Ff=>?_];have ny:n∈L:=(DV n).2 ⟨y,hy,hr,by rw[Ff]⟩
  rcases Mp n ny with h|h
  ·cases h
  ·exact h y hy Ff
 |cons n l=>
  obtain⟨rfl,y,hy,hc⟩:=hc;have BX:=(aV.1 hy).1;obtain⟨p,rfl⟩:=hH.l8 (el:=360) (sz:=3) (q:=q2);refine gh ?_;refine GX.next rfl (GO.cT (hv:=mS fA hy (j:=0) rfl) (h:=gh ?_));refine ifs (fun h2=>?_) (fun h2=>?_)<;>refine gh ?_
  ·refine GX.next rfl (GO.cT (hv:=mS fA hy (j:=2) rfl) (h:=gh ?_));refine GQ.bj (y.nx,l) rfl ⟨hc,fun m hm=>eO m (fP _ hm),fun m hm=>?_,hH⟩ (by simp)
   rcases Mp m hm with h|h
   ·rcases bU.1 h with rfl|h
    ·exact .inr fun z hz=>by rw[hy] at hz;cases hz;exact h2
    ·exact .inl h
   ·exact .inr h
  ·refine⟨?_,hH.to⟩;have ni:y.t=x:=by simpa using h2
   obtain⟨y',mL,hr,_⟩:=(DV n).1 (eO n (by simp));rw[hy] at mL;cases mL;rw[DE,hN,←ni,aU.Wf hy hr]
theorem Oq {N N':List Nm}(h:dU N=dU N'):N.length=N'.length:=by
 have:=congrArg List.length h;simpa[dU] using this
theorem Wh {N:List Nm}{i:Nat}{x:Nm}(hx:N[i]?=some x)(z:Int):dU (N.set i ⟨x.t,x.r,z⟩)=dU N:=by
 unfold dU;rw[pG];refine pB fun j=>?_
 by_cases e:i=j
 ·subst e;rw[dE (by rw[fH];exact(aV.1 hx).1),gG,hx];rfl
 ·rw[dv e]
structure YE (sd:Nat)(H:List Int)(N:List Nm)(y:List Int×List Nm×Nat):Prop where
 len:y.1.length=2*H.length
 nms:dU y.2.1=dU N
 inp:uj sd y.1 y.2.1 N.length
theorem aeF {b m sd c1 c2:Nat}{q1 q2:Option Nat}{v4 v5:Value}{H:List Int}{N:List Nm}(ia:2≤H.length∧H.length≤131072)(RS:N.length≤65536)(eH:sd<18446744073709551616)(ht:∀x∈N,0<x.r→eV x.t=true)(iQ:∀x∈N,x.r<2097152)
  (hs:Start o w [aB b [iV m,uV sd, .slice (aA q1) H.length c1, .slice (aA q2) N.length c2,v4,v5],aq 360 3 q2 N.length c2 (aL eP N)]) :
  aj prog 328 [ak b].toArray w (aX o (fun _:List Int×List Nm×Nat => .tuple #[]) (YE sd H N) (fun y=>[aB b [iV m,uV sd, .slice (aA (some y.2.2)) y.1.length y.1.length, .slice (aA q2) N.length c2,v4,v5],aq 3 1 (some y.2.2) y.1.length y.1.length (dL y.1),aq 360 3 q2 N.length c2 (aL eP y.2.1)])):=by
 have hH:=hs.sh;refine aj.enter func328 rfl ntmps328 rfl (gh ?_);refine GX.oF (h:=fun z w hH=>gh ?_);rw[show(2:Int)*(H.length:Int)=((2*H.length:Nat):Int) by omega];refine GX.ef (hc:=fun _ hs=>aiG (-1) (2*H.length) ah ah hs) (h:=?_);rintro p w _ hE hH;replace hH:=SH.ap hH;refine gh ?_;refine GX.dC (h:=fun w hH=>gh ?_);have e0:List.replicate (2*H.length) (iV (-1))=dL (List.replicate (2*H.length) (-1)):=by simp[dL]
 rw[e0] at hH;have DS:uj sd (List.replicate (2*H.length) (-1)) N 0:=⟨fun b hb=>⟨[],by
  show(List.replicate (2*H.length) (-1:Int)).getD b (-1) = -1;rw[dP,List.getElem?_replicate];split<;>rfl,lP,fun n=>by simp⟩⟩
 refine GC.bR [0,20] (fun y:Nat×List Int×List Nm=>[(21,iV y.1)]) (fun y w'=>y.1≤N.length∧y.2.1.length=2*H.length∧dU y.2.2=dU N∧uj sd y.2.1 y.2.2 y.1∧SH o w' [aB b [iV m,uV sd, .slice (aA (some p)) (2*H.length) (2*H.length), .slice (aA q2) N.length c2,v4,v5],aq 3 1 (some p) (2*H.length) (2*H.length) (dL y.2.1),aq 360 3 q2 N.length c2 (aL eP y.2.2)]) (fun y=>N.length - y.1) (0,List.replicate (2*H.length) (-1),N) rfl rfl ⟨bh _,by simp,rfl,DS,hH.to⟩ ?_;rintro⟨i,K,M⟩ w ⟨hi,hK,hM,hI,hH⟩;simp only at hi hK hM hI;dsimp only at hH ⊢;have hML:=Oq hM;refine gh ?_;refine ifs (fun h1=>?_) (fun h1=>?_)<;>refine gh ?_
 ·have hiM:i<M.length:=by omega
  have hx:M[i]?=some M[i]:=by simp[hiM]
  generalize M[i]=x at hx;have wE:=bD hx;obtain⟨x0,uU,TW⟩:∃x0∈N,x0.t=x.t∧x0.r=x.r:=by
   have:(x.t,x.r)∈dU N:=by rw[←hM];exact bG.2 ⟨x,wE,rfl⟩
   obtain⟨x0,h1,h2⟩:=bG.1 this;simp only[oI] at h2;exact⟨x0,h1,h2⟩
  obtain⟨p2,rfl⟩:=hH.pos (el:=360) (sz:=3) (q:=q2);refine gh ?_;refine GX.next rfl (GO.cT (hv:=mS fA hx (j:=1) rfl) (h:=gh ?_));refine ifs (fun h2=>?_) (fun h2=>?_)<;>refine gh ?_
  ·have ot:eV x.t=true:=by rw[←TW.1];exact ht x0 uU (by rw[TW.2];omega)
   have Al:x.t.length<2^40:=by have:=dM ot;omega
   refine GX.next rfl (GO.cT (hv:=mS fA hx (j:=0) rfl) (h:=gh ?_));rw[←hK] at hH ⊢;refine GX.aM (hc:=fun _ hs=>Je (H:=K) ah eH x.t Al hs) (h:=fun w hE hH=>gh ?_);have fD:bK sd x.t % K.length<K.length:=e7 _ ah;refine GX.next rfl (GO.cT (hv:=Jf fD) (h:=gh ?_));refine GX.vm (hb:=?_) (hc:=show(aL eP M).take (0+i*3+2)++[iV (K.getD (bK sd x.t % K.length) (-1))]++(aL eP M).drop (0+i*3+2+1)=aL eP (M.set i ⟨x.t,x.r,K.getD (bK sd x.t % K.length) (-1)⟩) from ?_) (h:=fun w hH=>gh ?_)
   ·rw[gT fA];simp;omega
   ·rw[dz,←CM (y:=⟨x.t,x.r,K.getD (bK sd x.t % K.length) (-1)⟩) (v:=iV (K.getD (bK sd x.t % K.length) (-1))) (j:=2) fA hx (by decide) rfl,AZ,if_pos (by rw[gT fA];omega)];simp
   refine GX.Kh (j:=bK sd x.t % K.length) (hj:=by simp only[Ft];exact fD) (h:=fun w hH=>gh ?_);have LJ:=hI.push hx rfl ah ah;rw[show(dL K).set (bK sd x.t % K.length) (iV i)=dL (K.set (bK sd x.t % K.length) (i:Int)) by simp[dL,pG]] at hH;refine GQ.bj (i+1,K.set (bK sd x.t % K.length) (i:Int),M.set i ⟨x.t,x.r,K.getD (bK sd x.t % K.length) (-1)⟩) rfl ⟨by simp only;omega,fQ,(Wh hx _).trans hM,LJ,?_⟩ (by simp only;omega);exact hH
  ·have LJ:=hI.skip hx ah;exact GQ.bj (i+1,K,M) rfl ⟨by simp only;omega,hK,hM,LJ,hH⟩ (by simp only;omega)
 ·obtain rfl:i=N.length:=by omega
  rw[←hK] at hH;exact⟨(K,M,p),rfl,⟨hK,hM,hI⟩,hH.to⟩
theorem JC {N N':List Nm}(h:dU N'=dU N){n:Nat}{x:Nm}(hx:N'[n]?=some x):∃y,N[n]?=some y∧y.t=x.t∧y.r=x.r:=by
 have h1:=yH hx;rw[h] at h1;obtain⟨y,h2,h3⟩:=JB h1;simp only[oI] at h3;exact⟨y,h2,h3.1.symm,h3.2.symm⟩
theorem gX.ahu {sd:Nat}{H H':List Int}{N N':List Nm}(h:gX sd H N)(hn:dU N'=dU N)(hI:uj sd H' N' N'.length)(jR:2≤H'.length∧H'.length≤262144):gX sd H' N':=by
 refine⟨jR,by rw[Oq hn];exact h.list,fun b hb=>?_,fun n m x y hx hy r1 r2 e=>?_,fun x hx hr=>?_,fun x hx=>?_⟩
 ·obtain⟨l,h1,h2,h3⟩:=hI.chain b hb;refine⟨l,h1,h2,fun n=>(h3 n).trans ⟨fun a=>a.2,fun⟨x,a,c⟩=>⟨(aV.1 a).1,x,a,c⟩⟩⟩
 ·obtain⟨x',a1,a2,a3⟩:=JC hn hx;obtain⟨y',b1,b2,b3⟩:=JC hn hy;exact h.uniq n m x' y' a1 b1 ah ah (a2.trans (e.trans b2.symm))
 ·obtain⟨n,o8⟩:=ey hx;obtain⟨x',a1,a2,a3⟩:=JC hn o8;rw[←a2];exact h.tag x' (bD a1) ah
 ·obtain⟨n,o8⟩:=ey hx;obtain⟨x',a1,a2,a3⟩:=JC hn o8;rw[←a3];exact h.refs x' (bD a1)
def cL (N:eF)(s:Bs):eF×Nat:=
 match jB N s with
 |some n=>(N.set n (s,(N.getD n ([],0)).2+1),n)
 |none=>match cw N with
  |n::_=>(N.set n (s,1),n)
  | []=>(N++[(s,1)],N.length)
theorem zp (z:Bs×Nat)(N:eF):du (z::N)=(if 0<z.2 then 1 else 0)+du N:=by
 unfold du;rw[lO]
 by_cases a:0<z.2
 ·rw[if_pos (b8 a),if_pos a,ek,Nat.add_comm]
 ·rw[if_neg (by simpa using a),if_neg a,dz]
theorem Hc {N:eF}{n:Nat}{x y:Bs×Nat}(hx:N[n]?=some x):du (N.set n y)+(if 0<x.2 then 1 else 0)=du N+(if 0<y.2 then 1 else 0):=by
 induction N generalizing n with
 |nil=>simp at hx
 |cons z N ih=>
  cases n with
  |zero=>
   simp at hx;subst hx;rw[List.set_cons_zero,zp,zp];omega
  |succ n=>
   have:=ih (n:=n) (by simpa using hx);rw[AX,zp,zp];omega
theorem aau (N:eF)(y:Bs×Nat):du (N++[y])=du N+(if 0<y.2 then 1 else 0):=by
 induction N with
 |nil=>rw[kC,zp];simp[du]
 |cons z N ih=>rw[jK,zp,zp,ih];omega
theorem aav {N:eF}(h:cw N=[]):du N=N.length:=by
 unfold du;rw[oM.2];intro x hx;refine b8 ?_;obtain⟨n,hn⟩:=ey hx
 by_cases h0:x.2=0
 ·have:=oz.2 ⟨x,hn,h0⟩;rw[h] at this;cases this
 ·omega
def gD (N:eF)(x:Bs):Int×Int:=if eV x=true then(match jB N x with|some n=>((n:Nat),0)|none=>(0,9)) else(0,2)
theorem aew {b:Nat}{s:dQ}(x:Bs)(hs:Start o w [fz (jS b s)]) :
  aj prog 261 [ak b,str x].toArray w (Po o (.tuple #[iV (gD s.N x).1,iV (gD s.N x).2]) []):=by
 have hH:=hs.sh;obtain⟨⟨X,hX⟩,hH⟩:=SH.dV hH;replace hH:=SH.ed hH;dsimp only at hH;have hm:=hX.aD.1;refine aj.enter func261 rfl ntmps261 rfl (gh ?_);refine GX.aM (hc:=fun _ hs=>Fk hm hs) (h:=fun w hE hH=>gh ?_);refine GX.da (Uj x _) rfl rfl rfl rfl rfl rfl (gh ?_);unfold gD;cases hk:eV x with
 |false=>
  refine gh ?_;exact⟨by simp,hH.to⟩
 |true=>
 refine gh ?_;refine GX.aM (hc:=fun _ hs=>Ud hX x (by have:=dM hk;omega) hs) (h:=fun w hE hH=>gh ?_);unfold DE;cases hn:jB s.N x with
 |none=>
  refine gh ?_;exact⟨by simp,hH.to⟩
 |some n=>
  refine gh ?_;exact⟨by simp,hH.to⟩
theorem aex {b:Nat}{s:dQ}(hs:Start o w [fz (jS b s)]) :
  aj prog 270 [ak b].toArray w (Po o (.tuple #[iV (du s.N),iV s.aD]) []):=by
 have hH:=hs.sh;obtain⟨⟨X,hX⟩,hH⟩:=SH.dV hH;replace hH:=SH.ed hH;dsimp only at hH;have hm:=hX.aD.1;refine aj.enter func270 rfl ntmps270 rfl (gh ?_);refine GX.aM (hc:=fun _ hs=>Fk hm hs) (h:=fun w hE hH=>gh ?_);refine GC.br (pl:=(bg [0,3,6,12,15,18,10,24,22,27])) (T:=fun _=>False) (hm:=mixed) (h:=fun w hE hH=>gh ?_);exact⟨rfl,hH.to⟩
theorem aeH (m sd:Nat)(hm:1≤m∧m≤65536)(eH:sd<18446744073709551616)(hs:Start o w []) :
  aj prog 108 [iV m,uV sd].toArray w (aX o (fun b:Nat => .tuple #[ak b,iV 0]) (fun _=>True) (fun b=>[jS b ⟨m,[]⟩])):=by
 have hH:=hs.sh;refine aj.enter func108 rfl ntmps108 rfl (gh ?_);refine ifs (fun h1=>?_) (fun h1=>?_)<;>refine gh ?_
 ·omega
 refine ifs (fun h2=>?_) (fun h2=>?_)<;>refine gh ?_
 ·omega
 refine GX.XJ (h:=fun q w hH=>gh ?_);refine GX.cI (h:=fun b w hH=>gh ?_);have h0:gX sd [-1,-1] []:=⟨⟨by decide,by decide⟩,by decide,(fun b hb=>⟨[],by
  show[(-1:Int),-1].getD b (-1) = -1
  match b,hb with
  |0,_=>rfl
  |1,_=>rfl,lP,fun n=>by simp⟩),(fun n m x y h=>by simp at h),(fun x hx=>by cases hx),(fun x hx=>by cases hx)⟩
 have hX:rH ⟨sd,[-1,-1],[],(some q,2),(none,0),none,0⟩ ⟨m,[]⟩:=⟨h0,rfl,eH,hm,bh _⟩
 have aQ:=SH.cF (el:=360) (sz:=3) (q:=none) (n:=0) (c:=0) (cs:=[]) (hH.JH (el:=3) (sz:=1)) (Mod.refl w) (fun _ h=>by cases h) (aH.nil _ _ _);exact⟨b,rfl,trivial,(wH hX aQ).to⟩
theorem SH.ahx {l r:List It}{el:TypeId}{sz n c:Nat}{a:Option Addr}{live:List Value}(hH:SH o w l)(hs:az (fz (fZ el sz a n c live)) l r:=by repeat(first|exact az.here|apply az.there))(ha:a=none):n=0:=by
 obtain⟨x,_⟩:=SH.dV (f:=fun x:kH sz a n c live=>x.dS el) hH hs;cases x with
 |nil=>rfl
 |dead=>rfl
 |on b k n c pre live hk=>cases ha
theorem Fj {b:Nat}{s:dQ}(hs:Start o w [fz (jS b s)]) :
  aj prog 149 [ak b].toArray w (aX o ak (fun _=>True) (fun c=>[jS c s])):=by
 have hH:=hs.sh;obtain⟨⟨X,hX⟩,hH⟩:=SH.dV hH;replace hH:=SH.ed hH;dsimp only at hH;have hm:=hX.aD.1;have rW:=hX.ok.size.2;have jf:=hX.ok.list;have wk:(cw s.N).length≤65536:=by
  unfold cw;refine dF (pF _ _) ?_;rw[List.length_range,hX.N];simpa[dU] using jf
 have g1:=hH.tK (el:=3) (sz:=1) (cs:=dL X.H);have g3:X.a=none→(cw s.N).length=0:=fun e=>hH.ahx (el:=3) (sz:=1) (c:=X.c) (live:=aG (cw s.N)) (ha:=e)
 have g2:=hH.tK (el:=360) (sz:=3);refine aj.enter func149 rfl ntmps149 rfl (gh ?_);refine GX.aM (hc:=fun _ hs=>Fk hm hs) (h:=fun w hE hH=>gh ?_);refine GC.br (pl:=(bg [0,3,6,12,15,18,24,27,30,39,42,45,54,57,60,69,72,75,10,22,34,49,64,79,38,53,68,81,86,87])) (T:=fun _=>False) (hm:=mixed) (h:=fun w hE hH=>gh ?_);refine GX.eG (hc:=fun _ hs=>vJ (cs:=dL X.H) ah (by simp) g1 (fun u hu=>by simp only[dL,bG] at hu;obtain⟨_,_,rfl⟩:=hu;rfl) hs) (h:=?_);rintro⟨q1,c1⟩ w _ hS hH;replace hH:=SH.ap hH;refine gh ?_;refine GX.eG (hc:=fun _ hs=>aal (cs:=aL eP X.N) ah (gT fA _) g2 (FO Wg _) hs) (h:=?_);rintro⟨q2,c2⟩ w _ hS hH;replace hH:=SH.ap hH;refine gh ?_;refine GX.eG (hc:=fun _ hs=>vJ (a:=X.a) (n:=(cw s.N).length) (cs:=aG (cw s.N)) ah (by simp) g3 (u4 _) hs) (h:=?_);rintro⟨q3,c3⟩ w _ hS hH;replace hH:=SH.ap hH;refine gh ?_;refine GX.oW (h:=fun c w hS hH=>gh ?_);have aQ:=hH.wT (el:=3) (sz:=1) (q:=q3) (cs:=aG (cw s.N));exact⟨c,rfl,trivial,(wH (X:=⟨X.aJ,X.H,X.N,(q1,c1),(q2,c2),aA q3,c3⟩) ⟨hX.ok,hX.N,hX.aJ,hX.aD,hX.cP⟩ aQ).to⟩
def fp (s:dQ)(x:Bs):Int×Int×dQ:=if jB s.N x=none∧du s.N=s.aD then(0,7,s) else(((cL s.N x).2:Nat),0,{ s with N:=(cL s.N x).1})
theorem Cw {N:List Nm}{n:Nat}(y:Nm):dU (N.set n y)=(dU N).set n (y.t,y.r):=by simp[dU,pG]
theorem O9 {α:Type}{L:List α}{k:Nat}(h:k<L.length)(v:α):L.take k++[v]++L.drop (k+1)=L.set k v:=by
 rw[AZ,if_pos h];simp
structure Yz where
 n:Nat
 N:List Nm
 q2:Option Nat×Nat
 a:Option Addr
 c:Nat
theorem aes {b:Nat}{s:dQ}(x:Bs)(hx:eV x=true)(ra:∀n,jB s.N x=some n→(s.N.getD n ([],0)).2+1<2097152)(hs:Start o w [jS b s]) :
  aj prog 258 [ak b,str x].toArray w (Po o (.tuple #[iV (fp s x).1,iV (fp s x).2.1]) [jS b (fp s x).2.2]):=by
 have hH:=hs.sh;obtain⟨⟨X,hX⟩,hH⟩:=SH.un hH;replace hH:=SH.ap hH;dsimp only at hH;have hm:=hX.aD;have Al:x.length<2^40:=by have:=dM hx;omega
 refine aj.enter func258 rfl ntmps258 rfl (gh ?_);refine GX.aM (hc:=fun _ hs=>Fk hm.1 hs) (h:=fun w hE hH=>gh ?_);refine GX.da (Uj x _) rfl rfl rfl rfl rfl rfl (gh ?_);rw[hx];refine gh ?_;refine GX.aM (hc:=fun _ hs=>Ud hX x Al hs) (h:=fun w hE hH=>gh ?_);unfold DE;obtain⟨aU,hN,eH,_,Ei⟩:=id hX;obtain⟨sd,H,N,⟨q1,c1⟩,⟨q2,c2⟩,af,cf⟩:=X;dsimp only at hH aU hN eH;have rW:=aU.size;have jf:=aU.list;cases hn:jB s.N x with
 |some n=>
  obtain⟨y,hy,uX,NB⟩:=We (N:=N) (by rw[←hN];exact hn);have hnl:=(aV.1 hy).1;have hg:(s.N.getD n ([],0)).2=y.r:=by rw[hN,dP,yH hy];rfl
  have EV:=ra n hn;rw[hg] at EV;obtain⟨p,rfl⟩:=hH.pos (el:=360) (sz:=3);dsimp only;refine gh ?_;refine GX.next rfl (GO.cT (hv:=mS fA hy (j:=1) rfl) (h:=gh ?_));refine ifs (fun h1=>?_) (fun h1=>?_)<;>refine gh ?_
  ·omega
  refine GX.next rfl (GO.cT (hv:=mS fA hy (j:=1) rfl) (h:=gh ?_));refine GX.vm (hb:=?_) (hc:=show(aL eP N).take (0+n*3+1)++[iV ((y.r+1:Nat):Int)]++(aL eP N).drop (0+n*3+1+1)=aL eP (N.set n ⟨y.t,y.r+1,y.nx⟩) from ?_) (h:=fun w hH=>gh ?_)
  ·rw[gT fA];simp;omega
  ·rw[dz,←CM (y:=⟨y.t,y.r+1,y.nx⟩) (v:=iV ((y.r+1:Nat):Int)) (j:=1) fA hy (by decide) rfl,AZ,if_pos (by rw[gT fA];omega)];simp
  have j7:fp s x=((n:Int),(0:Int),({ s with N:=s.N.set n (x,y.r+1)}:dQ)):=by
   rw[fp,if_neg (by rw[hn];simp),cL,hn];simp only[hg]
  have hNN:s.N.set n (x,y.r+1)=dU (N.set n ⟨y.t,y.r+1,y.nx⟩):=by rw[Cw,←hN,←NB]
  have TG:s.N[n]?=some (y.t,y.r):=by rw[hN];exact yH hy
  have p6:cw (s.N.set n (x,y.r+1))=cw s.N:=Rp TG uX (by simp);have xU:du (s.N.set n (x,y.r+1))=du s.N:=by
   have:=Hc (y:=(x,y.r+1)) TG;simp only[uX,if_true,Nat.zero_lt_succ] at this;omega
  rw[j7];have wa:rH ⟨sd,H,N.set n ⟨y.t,y.r+1,y.nx⟩,(q1,c1),(some p,c2),af,cf⟩ { s with N:=s.N.set n (x,y.r+1)}:=⟨aU.Ym hy uX ⟨by omega,EV⟩,hNN,eH,hm,by show du (s.N.set n _)≤s.aD;rw[xU];exact Ei⟩
  rw[←p6,←xU,show N.length=(N.set n ⟨y.t,y.r+1,y.nx⟩).length by simp] at hH;exact⟨rfl,(wH wa hH).to⟩
 |none=>
 dsimp only;refine gh ?_;refine GC.br (pl:=(bg [0,3,6,12,15,18,10,22,24])) (T:=fun _=>False) (hm:=mixed) (h:=fun w hE hH=>gh ?_);refine ifs (fun h1=>?_) (fun h1=>?_)<;>refine gh ?_
 ·have j7:fp s x=(0,7,s):=by rw[fp,if_pos ⟨hn,by omega⟩]
  rw[j7];exact⟨rfl,(wH hX hH).to⟩
 have p5:du s.N≠s.aD:=by omega
 have bz:∀(m:Nat) (y:Nm),N[m]?=some y→0<y.r→y.t≠x:=fun m y hy hr e=>by
  have:=aU.Wf hy hr;rw[e,←hN,hn] at this;cases this
 refine GC.cut (X:=Yz) (fun z=>[(0,ak b),(1,str x),(7,iV z.n)]) (fun z w'=>gX sd H z.N∧(∃y,z.N[z.n]?=some y∧y.r=0)∧(∀(m:Nat) (y:Nm),z.N[m]?=some y→0<y.r→y.t≠x)∧cL s.N x=((dU z.N).set z.n (x,1),z.n)∧du (dU z.N)=du s.N∧SH o w' [aB b [iV s.aD,uV sd, .slice (aA q1) H.length c1, .slice (aA z.q2.1) z.N.length z.q2.2, .slice z.a (cw (cL s.N x).1).length z.c,iV (du s.N)],aq 3 1 q1 H.length c1 (dL H),aq 360 3 z.q2.1 z.N.length z.q2.2 (aL eP z.N),fZ 3 1 z.a (cw (cL s.N x).1).length z.c (aG (cw (cL s.N x).1))]) ?_ ?_
 ·cases hF:cw s.N with
  |nil=>
   have hNl:N.length<65536:=by
    have h2:=aav hF;rw[hN] at h2 p5 Ei;rw[h2] at p5 Ei;simp only[dU,fH] at p5 Ei;omega
   have j7:cL s.N x=((dU (N++[l7])).set N.length (x,1),N.length):=by
    unfold cL;rw[hn,hF];simp only[dU,eA,cJ,tW,hN];rw[show(List.map (fun x=>(x.t,x.r)) N).length=N.length by simp,List.set_append_right _ _ (by simp)];simp
   rw[hF] at hH;refine gh ?_;refine GX.nR (h1:=by exact Wg l7) (h:=fun q c w _ hH=>gh ?_);refine GX.dC (h:=fun w hH=>gh ?_);have p6:cw (cL s.N x).1=[]:=by
    unfold cL;rw[hn,hF];exact abR hF _ (by simp)
   refine GQ.dm ⟨N.length,N++[l7],(q,c),af,cf⟩ (cR (l:=[0,1,7]) rfl) ⟨aU.more rfl hNl,⟨l7,by simp,rfl⟩,fun m y hy hr=>?_,j7,by rw[hN];simp only[dU,eA,cJ,tW];rw[aau];rfl,?_⟩
   ·rw[List.getElem?_append] at hy;split at hy
    ·exact bz m y hy hr
    ·rw[List.getElem?_singleton] at hy;split at hy
     ·cases hy;exact absurd hr (by decide)
     ·cases hy
   ·rw[p6,show(N++[l7]).length=N.length+1 by simp,lH];exact hH.to
  |cons n F=>
   obtain⟨y,hy,uX⟩:=oz.1 (show n∈cw s.N by rw[hF];simp);obtain⟨z,hz,rfl⟩:=JB (N:=N) (by rw[←hN];exact hy);have j7:cL s.N x=((dU N).set n (x,1),n):=by
    unfold cL;rw[hn,hF];simp only[hN]
   have p6:cw (cL s.N x).1=F:=by
    rw[j7,←hN];exact abU hF (by simp)
   rw[hF] at hH;obtain⟨q,k,pre,rfl,hk,_⟩:=hH.JI (el:=3) (sz:=1) (n:=(n::F).length) (by simp);refine gh ?_;refine ifs (fun h2=>?_) (fun h2=>?_)<;>refine gh ?_
   rotate_left
   ·exact absurd (show(0:Int)<((n::F).length:Nat) by simp) h2
   refine GC.br (pl:=(bg [0,3,6,9,21,24,27,13,15,19,36,31,33,39,42,47])) (T:=fun _=>False) (hm:=mixed) (h:=fun w hE hH=>gh ?_);refine gh ?_;have kT:(pre++aG (n::F))[k*1+0*1]?=some (iV n):=by
    rw[iD ah,show k*1+0*1 - pre.length=0 by omega];rfl
   refine GX.read rfl (GO.lC (hv:=kT) (h:=gh ?_));refine GX.pure rfl (GO.kX rfl (j:=1) (hh:=gh ?_));refine GX.fO (h:=fun w hH=>gh ?_);have hH:=(hH.Cz hk).Wu (el:=3) (sz:=1) (n:=(n::F).length) (by simp);refine GQ.dm ⟨n,N,(q2,c2),fi (some ⟨q,k*1,none⟩) 1 cf 1,cf - 1⟩ (cR (l:=[0,1,7]) rfl) ⟨aU,⟨z,hz,uX⟩,bz,j7,by rw[hN],?_⟩;rw[p6];exact hH.to
 ·rintro⟨n,N',⟨p2,d2⟩,a',c'⟩ w ⟨rZ,⟨y,hy,uX⟩,IN,j7,xU,hH⟩;dsimp only at rZ hy uX IN j7 xU hH ⊢;have hnl:=(aV.1 hy).1;have wk:=rZ.list;obtain⟨p,rfl⟩:=hH.pos (el:=360) (sz:=3);refine gh ?_;refine GX.vm (hb:=?_) (hc:=show(aL eP N').take (0+n*3)++eP ⟨x,1,-1⟩++(aL eP N').drop (0+n*3+(eP ⟨x,1,-1⟩).length)=aL eP (N'.set n ⟨x,1,-1⟩) from ?_) (h:=fun w hH=>gh ?_)
  ·rw[gT fA];have:=fA ⟨x,1,-1⟩;omega
  ·rw[dz];exact AM fA hnl ⟨x,1,-1⟩
  refine GX.dC (h:=fun w hH=>gh ?_);refine GC.br (pl:=(bg [0,3,6,12,15,18,10,22,24,27])) (T:=fun _=>False) (hm:=mixed) (h:=fun w hE hH=>gh ?_);have qX:∀z:Int,dU (N'.set n ⟨x,1,z⟩)=(cL s.N x).1:=fun z=>by rw[Cw,j7]
  have wc:du (cL s.N x).1=du s.N+1:=by
   have:=Hc (y:=(x,1)) (yH hy);simp only[uX,Nat.lt_irrefl,if_false,Nat.zero_lt_one,if_true] at this;show du (cL s.N x).1=_;rw[show(cL s.N x).1=(dU N').set n (x,1) by rw[j7]];omega
  have EW:fp s x=((n:Int),(0:Int),({ s with N:=(cL s.N x).1}:dQ)):=by
   rw[fp,if_neg (fun e=>p5 e.2),j7]
  have wm:(N'.set n ⟨x,1,-1⟩).length=N'.length:=fQ;have uM:=rZ.push hy uX hx IN (b:=bK sd x % H.length) rfl;rw[EW];refine ifs (fun h2=>?_) (fun h2=>?_)<;>refine gh ?_
  ·have hht:∀z∈N'.set n ⟨x,1,-1⟩,0<z.r→eV z.t=true:=fun z hz h0=>by
    rcases mn hz with h|rfl
    ·exact rZ.tag z h h0
    ·exact hx
   have hhr:∀z∈N'.set n ⟨x,1,-1⟩,z.r<2097152:=fun z hz=>by
    rcases mn hz with h|rfl
    ·exact rZ.refs z h
    ·show 1<2097152;decide
   rw[←wm] at hH;refine GX.bZ (hc:=fun _ hs=>aeF ⟨rW.1,by omega⟩ (by rw[wm];exact wk) eH hht hhr hs) (h:=?_);rintro⟨H3,N3,p3⟩ w ⟨h3l,HD,Lz⟩ hH;dsimp only at h3l HD Lz hH ⊢;replace hH:=SH.ap hH;refine gh ?_;have h3L:N3.length=(N'.set n ⟨x,1,-1⟩).length:=Oq HD;rw[←h3L] at hH Lz;have adN:=uM.ahu (HD.trans ((qX _).trans (qX _).symm)) Lz ⟨by omega,by omega⟩;have o6:rH ⟨sd,H3,N3,(some p3,H3.length),(some p,d2),a',c'⟩ ({ s with N:=(cL s.N x).1}:dQ):=⟨adN,(qX _).symm.trans HD.symm,eH,hm,by show du (cL s.N x).1≤s.aD;omega⟩
   rw[show Value.int IntKind.i64 ((du s.N:Int)+1)=iV (du (cL s.N x).1) by rw[wc];rfl] at hH;exact⟨rfl,(wH o6 hH).to⟩
  ·obtain⟨p1,rfl⟩:=hH.pos (el:=3) (sz:=1);refine gh ?_;refine GX.aM (hc:=fun _ hs=>Je rW eH x Al hs) (h:=fun w hE hH=>gh ?_);have fD:bK sd x % H.length<H.length:=e7 _ ah;refine GC.br (pl:=(bg [0,3,6,12,15,18,21,27,10,25,30,33,38,39,44])) (T:=fun _=>False) (hm:=mixed) (h:=fun w hE hH=>gh ?_);refine gh ?_;refine GX.read rfl (GO.lC (hv:=Jf fD) (h:=gh ?_));refine GX.gU (hb:=?_) (hc:=show(aL eP (N'.set n ⟨x,1,-1⟩)).take (0+n*3+2)++[iV (H.getD (bK sd x % H.length) (-1))]++(aL eP (N'.set n ⟨x,1,-1⟩)).drop (0+n*3+2+1)=aL eP (N'.set n ⟨x,1,H.getD (bK sd x % H.length) (-1)⟩) from ?_) (h:=fun w hH=>gh ?_)
   ·rw[gT fA,wm];show 0+n*3+2+1≤_;omega
   ·have hg:(N'.set n ⟨x,1,-1⟩)[n]?=some ⟨x,1,-1⟩:=dE hnl;have h2:=CM (y:=⟨x,1,H.getD (bK sd x % H.length) (-1)⟩) (v:=iV (H.getD (bK sd x % H.length) (-1))) (j:=2) fA hg (by decide) rfl;rw[List.set_set] at h2;rw[dz];exact(O9 (by rw[gT fA,wm];omega) _).trans h2
   refine GX.Ga (j:=bK sd x % H.length) (hj:=by simp only[Ft];exact fD) (h:=fun w hH=>gh ?_);rw[show(dL H).set (bK sd x % H.length) (iV n)=dL (H.set (bK sd x % H.length) (n:Int)) by simp[dL,pG]] at hH;generalize bK sd x % H.length=bk at hH uM;have o6:rH ⟨sd,H.set bk (n:Int),N'.set n ⟨x,1,H.getD bk (-1)⟩,(some p1,c1),(some p,d2),a',c'⟩ ({ s with N:=(cL s.N x).1}:dQ):=⟨uM,(qX _).symm,eH,hm,by show du (cL s.N x).1≤s.aD;omega⟩
   rw[show Value.int IntKind.i64 ((du s.N:Int)+1)=iV (du (cL s.N x).1) by rw[wc];rfl,show N'.length=(N'.set n ⟨x,1,H.getD bk (-1)⟩).length by simp,show H.length=(H.set bk (n:Int)).length by simp] at hH;exact⟨rfl,(wH o6 hH).to⟩
end Go.Proofs.YtoloaehmppcjoaaGreat.V.M
