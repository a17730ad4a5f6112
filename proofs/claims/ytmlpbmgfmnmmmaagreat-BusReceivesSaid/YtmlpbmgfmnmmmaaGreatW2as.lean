/-
  Parts of the proof. No condition.
-/
import Derived.Test.YtmlpbmgfmnmmmaaGreatW2ar
set_option linter.unusedVariables false
set_option linter.unusedSimpArgs false
set_option maxRecDepth 8000
set_option maxHeartbeats 8000000
open Go.Proofs.Tryz
namespace Go.Proofs.YtmlpbmgfmnmmmaaGreat.V.M
attribute [local irreducible] GO GX aA fz aF aQ ao star
variable {o:Og}{w:World}
structure Pu where
 mS:Nat
 soft:List (Nat×Nat)
def CD (g now:Nat)(x:Nat×Nat):Bool:=due (nZ x.2 g) now
def qT (g now:Nat):List (Nat×Nat)→Nat→Pu
 | [],h=>⟨h,[]⟩
 |x::r,h=>if CD g now x then qT g now r (max h x.1) else⟨h,x::r⟩
def Pu.norm (g now:Nat)(u:Pu):Pu:=qT g now u.soft u.mS
theorem ahO {g now uS:Nat}{x:Nat×Nat}(h:CD g now x=true)(hn:now≤uS):CD g uS x=true:=by
 unfold CD due at h ⊢;simp at h ⊢;omega
theorem Wl {g now uS:Nat}(hn:now≤uS):∀(l:List (Nat×Nat)) (h:Nat),(qT g now l h).norm g uS=qT g uS l h
 | [],_=>rfl
 |x::r,h=>by
  simp only[qT];split
  ·rename_i h1
   rw[if_pos (ahO h1 hn),Wl hn r]
  ·rfl
theorem Pu.Wn {g now uS:Nat}(hn:now≤uS)(u:Pu):(u.norm g now).norm g uS=u.norm g uS:=Wl hn u.soft u.mS
def eX (x:Nat×Nat):List Value:=[uV x.1,uV x.2]
theorem wU (x:Nat×Nat):(eX x).length=2:=rfl
theorem XB (x:Nat×Nat):∀u∈eX x,u.oneCell'=true:=by
 intro u hu
 rcases bY.1 hu with rfl|hu
 ·rfl
 ·rcases bY.1 hu with rfl|hu
  ·rfl
  ·cases hu
def tm (p:Nat)(u:Pu):It:=star fun x:Option Addr×Nat=>[aA p [uV u.mS, .slice x.1 u.soft.length x.2],fP 242 2 x.1 u.soft.length x.2 (aK eX u.soft)]
instance {p:Nat}{u:Pu}:Zf (tm p u):=Zf.star fun _=>inferInstance
theorem si {l t:List It}{p n c:Nat}{a:Option Addr}{cs:List Value}{u:Pu}(hH:SH o w l)(hp:Pk l [aA p [uV u.mS, .slice a n c],fP 242 2 a n c cs] t:=by repeat(first|exact Pk.nil|(apply Pk.cons;repeat(first|exact aB.here|apply aB.there))))(e1:n=u.soft.length:=by rfl)(e2:cs=aK eX u.soft:=by rfl):SH o w (tm p u::t):=by
 subst e1 e2;exact SH.fold (f:=fun x:Option Addr×Nat=>[aA p [uV u.mS, .slice x.1 u.soft.length x.2],fP 242 2 x.1 u.soft.length x.2 (aK eX u.soft)]) (a,c) hH hp
abbrev ke:=List (Int×(Nat×Pu))
structure b5 where
 fX:Nat
 now:Nat
 last:Nat
 A:Nat→Pu
def lS (x:Nat×Pu):Value:=ak x.1
structure gy (S:b5)(T:ke):Prop where
 nd:(T.map (·.1)).Nodup
 key:∀k v,az T k=some v→∃n:Nat,k=(n:Int)∧n<65536
 g:S.fX≤1099511627776
 l:S.last≤never
 nw:S.now≤never
 bd:∀k v,az T k=some v→v.2.mS≤S.last∧v.2.soft.length≤S.last∧∀x∈v.2.soft,x.1≤S.last∧x.2≤never
 of:∀n:Nat,S.A n=match az T (n:Int) with|some x=>x.2.norm S.fX S.now|none=>⟨0,[]⟩
def gP (x:Int×(Nat×Pu)):List It:=[tm x.2.1 x.2.2]
def dy (s:Nat)(S:b5):It:=star fun y:{ y:Nat×ke // gy S y.2}=>[aA s [uV S.fX,uV S.now,uV S.last, .map (some y.1.1)],aQ y.1.1 iV lS y.1.2,bB (bT gP y.1.2)]
instance {T:ke}:Zf (bB (bT gP T)):=Zf.Bj (WA fun x=>by unfold gP;infer_instance)
instance {s:Nat}{S:b5}:Zf (dy s S):=Zf.star fun _=>inferInstance
theorem ve {l t:List It}{s b:Nat}{T:ke}{S:b5}(hH:SH o w l)(hT:gy S T)(hp:Pk l [aA s [uV S.fX,uV S.now,uV S.last, .map (some b)],aQ b iV lS T,bB (bT gP T)] t:=by repeat(first|exact Pk.nil|(apply Pk.cons;repeat(first|exact aB.here|apply aB.there)))):SH o w (dy s S::t):=
 SH.fold (f:=fun y:{ y:Nat×ke // gy S y.2}=>[aA s [uV S.fX,uV S.now,uV S.last, .map (some y.1.1)],aQ y.1.1 iV lS y.1.2,bB (bT gP y.1.2)]) ⟨(b,T),hT⟩ hH hp
theorem AR {s:Nat}{S:b5}(hs:Start o w [fz (dy s S)]):aj prog 102 [ak s].toArray w (Po o (.bool false) []):=by
 have hH:=hs.sh;obtain⟨⟨⟨b,T⟩,hT⟩,hH⟩:=SH.dQ hH;replace hH:=SH.dW hH;dsimp only at hH;refine aj.enter func102 rfl ntmps102 rfl (gh ?_);refine GX.next rfl (GO.NY rfl rfl rfl rfl rfl (gh ?_));exact⟨rfl,hH.to⟩
theorem FM {s:Nat}{S:b5}(n:Nat)(hn:n<65536)(hs:Start o w [fz (dy s S)]):aj prog 183 [ak s,iV n].toArray w (Po o (iV 0) []):=by
 have hH:=hs.sh;refine aj.enter func183 rfl ntmps183 rfl (gh ?_);refine GX.aL (hc:=fun _ hs=>AR hs) (h:=fun w hE hH=>gh ?_);refine ifs (fun h1=>?_) (fun h1=>?_)<;>refine gh ?_
 ·omega
 exact⟨rfl,hH.to⟩
theorem ajR (g:Nat)(hg:g≤1099511627776)(hs:Start o w []):aj prog 41 [uV g].toArray w (aU o (fun s => .tuple #[ak s,iV 0]) (fun _=>True) (fun s=>[dy s ⟨g,0,0,fun _=>⟨0,[]⟩⟩])):=by
 have hH:=hs.sh;refine aj.enter func41 rfl ntmps41 rfl (gh ?_);refine ifs (fun h1=>?_) (fun h1=>?_)<;>refine gh ?_
 ·omega
 refine GX.yB (iV:Int→Value) lS (h:=fun m w hH=>gh ?_);refine GX.cw (h:=fun s w hH=>gh ?_);exact⟨s,rfl,trivial,(ve (S:=⟨g,0,0,fun _=>⟨0,[]⟩⟩) (T:=[]) hH.pz ⟨mF,fun k v h=>(by simp[az] at h),hg,bh _,bh _,fun k v h=>(by simp[az] at h),fun n=>rfl⟩).to⟩
def b5.at (S:b5)(t:Nat):b5:={ S with now:=max S.now t,A:=fun n=>(S.A n).norm S.fX (max S.now t)}
theorem gy.at {S:b5}{T:ke}(h:gy S T)(t:Nat)(ht:t≤never):gy (S.at t) T:=⟨h.nd,h.key,h.g,h.l,Nat.max_le.2 ⟨h.nw,ht⟩,h.bd,fun n=>by
 have:=h.of n;simp only[b5.at];rw[this];split
 ·exact Pu.Wn (Nat.le_max_left ..) _
 ·rfl⟩
theorem ajx {s:Nat}{S:b5}(t:Nat)(ht:t≤never)(hs:Start o w [dy s S]):aj prog 57 [ak s,uV t].toArray w (Po o (iV 0) [dy s (S.at t)]):=by
 have hH:=hs.sh;refine aj.enter func57 rfl ntmps57 rfl (gh ?_);refine GX.aL (hc:=fun _ hs=>AR hs) (h:=fun w hE hH=>gh ?_);obtain⟨⟨⟨b,T⟩,hT⟩,hH⟩:=SH.un hH;replace hH:=SH.ap hH;dsimp only at hH;refine gh ?_;refine GX.da (Dy S.now t _) rfl rfl rfl rfl rfl rfl (gh ?_);refine GX.dw (h:=fun w hH=>gh ?_);exact⟨rfl,(ve (S:=S.at t) (T:=T) hH (hT.at t ht)).to⟩
theorem XI {s:Nat}{S:b5}(hs:Start o w [fz (dy s S)]):aj prog 100 [ak s].toArray w (Po o (uV S.last) []):=by
 have hH:=hs.sh;refine aj.enter func100 rfl ntmps100 rfl (gh ?_);refine GX.aL (hc:=fun _ hs=>AR hs) (h:=fun w hE hH=>gh ?_);obtain⟨⟨⟨b,T⟩,hT⟩,hH⟩:=SH.dQ hH;replace hH:=SH.dW hH;dsimp only at hH;refine gh ?_;exact⟨rfl,hH.to⟩
theorem ajS {s:Nat}{S:b5}(hs:Start o w [fz (dy s S)]):aj prog 140 [ak s].toArray w (Po o (uV S.now) []):=by
 have hH:=hs.sh;refine aj.enter func140 rfl ntmps140 rfl (gh ?_);refine GX.aL (hc:=fun _ hs=>AR hs) (h:=fun w hE hH=>gh ?_);obtain⟨⟨⟨b,T⟩,hT⟩,hH⟩:=SH.dQ hH;replace hH:=SH.dW hH;dsimp only at hH;refine gh ?_;exact⟨rfl,hH.to⟩
theorem ajJ {s:Nat}{S:b5}(hs:Start o w [fz (dy s S)]):aj prog 141 [ak s].toArray w (Po o (uV S.fX) []):=by
 have hH:=hs.sh;refine aj.enter func141 rfl ntmps141 rfl (gh ?_);refine GX.aL (hc:=fun _ hs=>AR hs) (h:=fun w hE hH=>gh ?_);obtain⟨⟨⟨b,T⟩,hT⟩,hH⟩:=SH.dQ hH;replace hH:=SH.dW hH;dsimp only at hH;refine gh ?_;exact⟨rfl,hH.to⟩
theorem ahP {s:Nat}{g now l:Nat}{m:Value}(x:Nat×Nat)(hg:g≤never)(hx:x.2≤never)(hs:Start o w [fz (aA s [uV g,uV now,uV l,m])]):aj prog 297 [ak s, .agg (eX x).toArray].toArray w (Po o (.bool (CD g now x)) []):=by
 have hH:=hs.sh;refine aj.enter func297 rfl ntmps297 rfl (gh ?_);refine GX.cw (h:=fun b w hH=>gh ?_);refine GC.bq (pl:=(aZ [0,6,9,12,21,24,27,4,16,31,20,35,36])) (T:=fun _=>False) (hm:=mixed) (h:=fun w hE hH=>gh ?_);refine GX.pA (hc:=G8 x.2 g hx hg _) (h:=gh ?_);refine GX.pA (hc:=Dw (nZ x.2 g) now _) (h:=gh ?_);exact⟨rfl,hH.to⟩
def AT (s:Nat)(S:b5)(n p:Nat):It:=star fun y:{ y:Nat×ke // gy S y.2∧∃u,az y.2 (n:Int)=some (p,u)}=>[aA s [uV S.fX,uV S.now,uV S.last, .map (some y.1.1)],aQ y.1.1 iV lS y.1.2,bB (bT gP (bD y.1.2 (n:Int)))]
theorem CV {l t:List It}{s b n p:Nat}{T:ke}{S:b5}{u:Pu}(hH:SH o w l)(hT:gy S T)(hu:az T (n:Int)=some (p,u))(hp:Pk l [aA s [uV S.fX,uV S.now,uV S.last, .map (some b)],aQ b iV lS T,bB (bT gP (bD T (n:Int)))] t:=by repeat(first|exact Pk.nil|(apply Pk.cons;repeat(first|exact aB.here|apply aB.there)))):SH o w (AT s S n p::t):=
 SH.fold (f:=fun y:{ y:Nat×ke // gy S y.2∧∃u,az y.2 (n:Int)=some (p,u)}=>[aA s [uV S.fX,uV S.now,uV S.last, .map (some y.1.1)],aQ y.1.1 iV lS y.1.2,bB (bT gP (bD y.1.2 (n:Int)))]) ⟨(b,T),hT,u,hu⟩ hH hp
def abR:Option Nat→Value
 |none => .pointer none
 |some p=>ak p
theorem Ld {s:Nat}{S:b5}(n:Nat)(hl:S.last<2^40)(hs:Start o w [dy s S]):aj prog 235 [ak s,iV n].toArray w (aU o abR (fun r=>r=none→S.A n=⟨0,[]⟩) (fun r=>match r with|none=>[dy s S]|some p=>[tm p (S.A n),AT s S n p])):=by
 have hH:=hs.sh;obtain⟨⟨⟨b,T⟩,hT⟩,hH⟩:=SH.un hH;replace hH:=SH.ap hH;dsimp only at hH;refine aj.enter func235 rfl ntmps235 rfl (gh ?_);have sV:=hT.of n;cases hm:az T (n:Int) with
 |none=>
  rw[hm] at sV;refine GX.lP (hV:=show jc lS _ false _ = .pointer none from by rw[hm];rfl) (h:=gh ?_);exact⟨none,rfl,fun _=>sV,(ve hH hT).to⟩
 |some pu=>
  obtain⟨p,u⟩:=pu;rw[hm] at sV;simp only at sV;obtain⟨b1,b2,b3⟩:=hT.bd _ _ hm;simp only at b1 b2 b3;have hg:=hT.g;have Ib:S.fX≤never:=by simp only[never];omega
  refine GX.lP (hV:=show jc lS _ false _=ak p from by rw[hm];rfl) (h:=gh ?_);have aO:=SH.oF [tm p u] _ hH (o0 (f:=gP) hm);replace hH:=SH.ap aO;clear aO;refine GC.bP [0,5] (fun _:Pu=>[]) (fun v w'=>v.norm S.fX S.now=S.A n∧(∀x∈v.soft,x.1≤S.last∧x.2≤never)∧v.mS≤S.last∧v.soft.length≤S.last∧SH o w' [tm p v,aA s [uV S.fX,uV S.now,uV S.last, .map (some b)],aQ b iV lS T,bB (bT gP (bD T (n:Int)))]) (fun v=>v.soft.length) u rfl rfl ⟨sV.symm,b3,b1,b2,hH.to⟩ ?_;rintro⟨hd,sf⟩ w ⟨hN,c1,c2,c3,hH⟩;simp only at c1 c2 c3;obtain⟨⟨a,c⟩,hH⟩:=SH.un hH;replace hH:=SH.ap hH;dsimp only at hH;refine gh ?_;refine ifs (fun h1=>?_) (fun h1=>?_)<;>refine gh ?_
  ·obtain⟨x,r,rfl⟩:∃x r,sf=x::r:=List.exists_cons_of_length_pos ah;obtain⟨q,k,pre,rfl,hk,hH⟩:=hH.Jy (live:=aK eX (x::r)) (n:=(x::r).length) (by simp);have qz:((pre++aK eX (x::r)).drop (k*2)).take 2=eX x:=by rw[←hk,List.drop_left];rfl
   have ft:(pre++aK eX (x::r))[k*2]?=some (uV x.1):=by rw[←hk,ia (bj _),Nat.sub_self];rfl
   obtain⟨uG,ey⟩:=c1 x (tC ..);refine gh ?_;refine GX.next rfl (GO.jz (hv:=qz) (h:=gh ?_));refine GX.aL (hc:=fun _ hs=>ahP x Ib ey hs) (h:=fun w hE hH=>gh ?_);cases ho:CD S.fX S.now x with
   |true=>
    refine gh ?_;refine GC.bq (pl:=(aZ [0,3,6,9,15,18,21,13,25,27,30,34,36,39,42,47])) (T:=fun _=>False) (hm:=mixed) (h:=fun w hE hH=>gh ?_);refine GX.read rfl (GO.jU (hv:=ft) (h:=gh ?_));refine GX.fH (h:=fun w hH=>gh ?_);replace hH:=hH.CC (n:=(x::r).length) (c:=c) (live:=aK eX (x::r)) hk;refine gh ?_;refine GX.aaK (h:=fun hH=>gh ?_);refine GX.dw (h:=fun w hH=>gh ?_);rw[show(if(x.1:Int) > (hd:Int) then(x.1:Int) else(hd:Int))=((max hd x.1:Nat):Int) by split<;>omega] at hH;have aO:=si (u:=⟨max hd x.1,r⟩) hH (e1:=by simp) (e2:=rfl);simp only[dR] at c3;exact GQ.br (⟨max hd x.1,r⟩:Pu) rfl ⟨by rw[←hN];simp only[Pu.norm,qT,ho];rfl,fun y hy=>c1 y (fR _ hy),Nat.max_le.2 ⟨c2,uG⟩,by simp only;omega,aO.to⟩ (by simp)
   |false=>
    refine gh ?_;have e:(⟨hd,x::r⟩:Pu)=S.A n:=by rw[←hN];simp only[Pu.norm,qT,ho];rfl
    have aO:=si (u:=⟨hd,x::r⟩) (hH.CC (n:=(x::r).length) (c:=c) hk);rw[e] at aO;exact⟨some p,rfl,fun h=>(by cases h),(CV (u:=u) (p:=p) aO hT hm).to⟩
  ·obtain rfl:sf=[]:=ga ah;refine gh ?_;have e:(⟨hd,[]⟩:Pu)=S.A n:=by rw[←hN];rfl
   have aO:=si (u:=⟨hd,[]⟩) hH;rw[e] at aO;exact⟨some p,rfl,fun h=>(by cases h),(CV (u:=u) (p:=p) aO hT hm).to⟩
def b5.set (S:b5)(n:Nat)(u:Pu):b5:={ S with A:=fun m=>if m=n then u.norm S.fX S.now else S.A m}
theorem gy.set {S:b5}{T:ke}(h:gy S T)(n p:Nat)(hn:n<65536){u:Pu}(h1:u.mS≤S.last)(h2:u.soft.length≤S.last)(h3:∀x∈u.soft,x.1≤S.last∧x.2≤never):gy (S.set n u) (bE T (n:Int) (p,u)):=
 ⟨rU h.nd _ _,fun k v hv=>by
  rw[kI] at hv;split at hv
  ·exact⟨n,by assumption,hn⟩
  ·exact h.key k v hv,h.g,h.l,h.nw,fun k v hv=>by
  rw[kI] at hv;split at hv
  ·cases hv;exact⟨h1,h2,h3⟩
  ·exact h.bd k v hv,fun m=>by
  rw[kI];simp only[b5.set]
  by_cases e:m=n
  ·rw[if_pos e,if_pos ah]
  ·rw[if_neg e,if_neg ah];exact h.of m⟩
theorem gy.Jv {S:b5}{T:ke}(h:gy S T)(n:Nat):(S.A n).norm S.fX S.now=S.A n:=by
 rw[h.of n];split
 ·exact Pu.Wn (bj _) _
 ·rfl
theorem gy.GN {S:b5}{T:ke}(h:gy S T)(n:Nat):(S.A n).mS≤S.last∧(S.A n).soft.length≤S.last∧∀x∈(S.A n).soft,x.1≤S.last∧x.2≤never:=by
 have key:∀(l:List (Nat×Nat)) (hd:Nat),hd≤S.last→l.length≤S.last→(∀x∈l,x.1≤S.last∧x.2≤never)→(qT S.fX S.now l hd).mS≤S.last∧(qT S.fX S.now l hd).soft.length≤S.last∧∀x∈(qT S.fX S.now l hd).soft,x.1≤S.last∧x.2≤never:=by
  intro l
  induction l with
  |nil=>intro hd h1 _ _;exact⟨h1,bh _,fun _ h=>by cases h⟩
  |cons x r ih=>
   intro hd h1 h2 h3;simp only[qT];split
   ·exact ih _ (Nat.max_le.2 ⟨h1,(h3 x (tC ..)).1⟩) (by simp only[dR] at h2;omega) fun y hy=>h3 y (fR _ hy)
   ·exact⟨h1,h2,h3⟩
 rw[h.of n];split
 ·rename_i x hx
  obtain⟨h1,h2,h3⟩:=h.bd _ _ hx;exact key _ _ h1 h2 h3
 ·exact⟨bh _,bh _,fun _ h=>by cases h⟩
theorem FV {l t:List It}{s n p:Nat}{S:b5}{u:Pu}(hH:SH o w l)(hn:n<65536)(h1:u.mS≤S.last)(h2:u.soft.length≤S.last)(h3:∀x∈u.soft,x.1≤S.last∧x.2≤never)(hp:Pk l [AT s S n p,tm p u] t:=by repeat(first|exact Pk.nil|(apply Pk.cons;repeat(first|exact aB.here|apply aB.there)))):SH o w (dy s (S.set n u)::t):=by
 have DP:SH o w (AT s S n p::tm p u::t):=hH.perm hp.perm;obtain⟨⟨⟨b,T⟩,hT,v,hv⟩,aO⟩:=SH.un (f:=fun y:{ y:Nat×ke // gy S y.2∧∃u,az y.2 (n:Int)=some (p,u)}=>[aA s [uV S.fX,uV S.now,uV S.last, .map (some y.1.1)],aQ y.1.1 iV lS y.1.2,bB (bT gP (bD y.1.2 (n:Int)))]) DP aB.here;have cF:SH o w (aA s [uV S.fX,uV S.now,uV S.last, .map (some b)]::aQ b iV lS T::bB (bT gP (bD T (n:Int)))::tm p u::t):=aO;have iU:=cF.agQ (v':=(p,u)) hv rfl;have hH5:=SH.iu [tm p u] (bT gP (bD T (n:Int))) iU (by repeat(first|exact Pk.nil|(apply Pk.cons;repeat(first|exact aB.here|apply aB.there)))) (FA (f:=gP) (M:=T) (k:=(n:Int)) (v:=(p,u)));exact ve (S:=S.set n u) hH5 (hT.set n p hn h1 h2 h3)
theorem b5.JX {S:b5}{n:Nat}(h:(S.A n).norm S.fX S.now=S.A n):S.set n (S.A n)=S:=by
 unfold b5.set;cases S;simp only at h ⊢;congr 1;funext m;split
 ·rename_i e;rw[h,e]
 ·rfl
theorem J3 {l r:List It}{s:Nat}{S:b5}(hH:SH o w l)(hs:aB (dy s S) l r:=by repeat(first|exact aB.here|apply aB.there)):∃T,gy S T:=by
 obtain⟨⟨⟨b,T⟩,hT⟩,_⟩:=SH.un hH hs;exact⟨T,hT⟩
def b5.next (S:b5)(t:Nat):b5:={ S.at t with last:=S.last+1}
theorem gy.next {S:b5}{T:ke}(h:gy S T)(t:Nat)(ht:t≤never)(hl:S.last<never):gy (S.next t) T:=by
 have h1:=h.at t ht;refine⟨h1.nd,h1.key,h1.g,hl,h1.nw,fun k v hv=>?_,h1.of⟩;obtain⟨q1,q2,q3⟩:=h.bd k v hv;exact⟨vq q1,vq q2,fun x hx=>⟨vq (q3 x hx).1,(q3 x hx).2⟩⟩
theorem O9 {s:Nat}{S:b5}(t:Nat)(ht:t≤never)(hl:S.last<2^40)(hs:Start o w [dy s S]):aj prog 234 [ak s,uV t].toArray w (Po o (.tuple #[uV (S.last+1:Nat),iV 0]) [dy s (S.next t)]):=by
 have hH:=hs.sh;obtain⟨⟨⟨b,T⟩,hT⟩,hH⟩:=SH.un hH;replace hH:=SH.ap hH;dsimp only at hH;refine aj.enter func234 rfl ntmps234 rfl (gh ?_);refine ifs (fun h1=>?_) (fun h1=>?_)<;>refine gh ?_
 ·omega
 refine GX.da (Dy S.now t _) rfl rfl rfl rfl rfl rfl (gh ?_);refine GX.dw (h:=fun w hH=>gh ?_);refine GX.dw (h:=fun w hH=>gh ?_);exact⟨rfl,(ve (S:=S.next t) (T:=T) hH (hT.next t ht (by simp only[never];omega))).to⟩
theorem XT {s:Nat}{S:b5}(t:Nat)(ht:t≤never)(hl:S.last<2^40)(hs:Start o w [dy s S]):aj prog 155 [ak s,uV t].toArray w (Po o (.tuple #[uV (S.last+1:Nat),iV 0]) [dy s (S.next t)]):=by
 have hH:=hs.sh;refine aj.enter func155 rfl ntmps155 rfl (gh ?_);refine GX.aL (hc:=fun _ hs=>AR hs) (h:=fun w hE hH=>gh ?_);refine GX.bz (hc:=fun _ hs=>O9 t ht hl hs) (h:=fun w hH=>gh ?_);exact⟨rfl,hH.to⟩
theorem SH.Dj {κ ν:Type}[DecidableEq κ]{f:κ×ν→List It}{M:List (κ×ν)}{o:Og}{w:World}{l r:List It}(k:κ)(hH:SH o w l)(hs:aB (bB (bT f M)) l r:=by repeat(first|exact aB.here|apply aB.there)):SH o w (bB (bT f (bD M k))::r):=by
 cases hm:az M k with
 |none=>rw[agT hm];exact hH.perm hs.perm
 |some v=>exact SH.KZ (SH.oF (f (k,v)) _ hH (o0 hm) hs)
theorem ajK {s:Nat}{S:b5}(n:Nat)(hn:n<65536)(t:Nat)(ht:t≤never)(hl:S.last<2^40)(hs:Start o w [dy s S]):aj prog 157 [ak s,iV n,uV t].toArray w (Po o (.tuple #[uV (S.last+1:Nat),iV 0]) [dy s ((S.next t).set n ⟨S.last+1,[]⟩)]):=by
 have hH:=hs.sh;refine aj.enter func157 rfl ntmps157 rfl (gh ?_);refine GX.aL (hc:=fun _ hs=>FM n hn hs) (h:=fun w hE hH=>gh ?_);refine GX.bz (hc:=fun _ hs=>O9 t ht hl hs) (h:=fun w hH=>gh ?_);obtain⟨⟨⟨b,T⟩,hT⟩,hH⟩:=SH.un hH;replace hH:=SH.ap hH;dsimp only at hH;refine gh ?_;refine GX.cw (h:=fun p w hH=>gh ?_);refine GX.Fq (v:=((p,⟨S.last+1,[]⟩):Nat×Pu)) (h:=fun w hH=>gh ?_);have aO:=si (u:=⟨S.last+1,[]⟩) hH.Jx;have cF:=aO.Dj (n:Int);have iU:=SH.iu [tm p ⟨S.last+1,[]⟩] _ cF (by repeat(first|exact Pk.nil|(apply Pk.cons;repeat(first|exact aB.here|apply aB.there)))) (FA (f:=gP) (M:=T) (k:=(n:Int)) (v:=((p,⟨S.last+1,[]⟩):Nat×Pu)));exact⟨rfl,(ve iU (hT.set n p hn (u:=⟨S.last+1,[]⟩) (bj _) (bh _) (fun _ h=>by cases h))).to⟩
theorem gy.del {S:b5}{T:ke}(h:gy S T)(n:Nat):gy (S.set n ⟨0,[]⟩) (bD T (n:Int)):=
 ⟨h.nd.sublist ((wX T _).map _),fun k v hv=>by
  rw[iF h.nd] at hv;split at hv
  ·cases hv
  ·exact h.key k v hv,h.g,h.l,h.nw,fun k v hv=>by
  rw[iF h.nd] at hv;split at hv
  ·cases hv
  ·exact h.bd k v hv,fun m=>by
  rw[iF h.nd];simp only[b5.set]
  by_cases e:m=n
  ·rw[if_pos e,if_pos ah];rfl
  ·rw[if_neg e,if_neg ah];exact h.of m⟩
theorem ajI {s:Nat}{S:b5}(n:Nat)(hn:n<65536)(hs:Start o w [dy s S]):aj prog 112 [ak s,iV n].toArray w (aU o (fun e:Int=>iV e) (fun _=>True) (fun _=>[dy s (S.set n ⟨0,[]⟩)])):=by
 have hH:=hs.sh;refine aj.enter func112 rfl ntmps112 rfl (gh ?_);refine GX.aL (hc:=fun _ hs=>FM n hn hs) (h:=fun w hE hH=>gh ?_);obtain⟨⟨⟨b,T⟩,hT⟩,hH⟩:=SH.un hH;replace hH:=SH.ap hH;dsimp only at hH;refine gh ?_;have sV:=hT.of n;cases hm:az T (n:Int) with
 |none=>
  rw[hm] at sV;refine GX.lP (hV:=show jc lS _ false _ = .pointer none from by rw[hm];rfl) (h:=gh ?_);have e:S.set n ⟨0,[]⟩=S:=by
   have:=b5.JX (hT.Jv n);rw[sV] at this;exact this
  rw[e];exact⟨9,rfl,trivial,(ve hH hT).to⟩
 |some pu=>
  obtain⟨p,u⟩:=pu;refine GX.lP (hV:=show jc lS _ false _=ak p from by rw[hm];rfl) (h:=gh ?_);refine GX.Jj (h:=fun w hH=>gh ?_);have aO:=hH.Dj (n:Int);exact⟨0,rfl,trivial,(ve aO (hT.del n)).to⟩
theorem XM {s:Nat}{S:b5}(n:Nat)(hn:n<65536)(hl:S.last<2^40)(hs:Start o w [dy s S]):aj prog 216 [ak s,iV n].toArray w
  (aU o (fun y:Option Nat×Nat => .tuple #[.agg #[iV n,uV (S.A n).mS, .slice (ay y.1) (S.A n).soft.length y.2],iV 0]) (fun _=>True) (fun y=>[dy s S,ao 242 2 y.1 (S.A n).soft.length y.2 (aK eX (S.A n).soft)])):=by
 have hH:=hs.sh;obtain⟨T0,oK⟩:=J3 hH;obtain⟨d1,d2,d3⟩:=oK.GN n;have qH:=oK.Jv n;refine aj.enter func216 rfl ntmps216 rfl (gh ?_);refine GX.cm (h:=fun z w hH=>gh ?_);refine GX.aL (hc:=fun _ hs=>FM n hn hs) (h:=fun w hE hH=>gh ?_);refine GX.bS (hc:=fun _ hs=>Ld n hl hs) (h:=?_);rintro(_|p) w hr hH
 ·have e:=hr rfl;dsimp only at hH;replace hH:=SH.ap hH;refine gh ?_;refine GX.bc (h:=fun w hH=>gh ?_);have aO:=SH.cE (el:=242) (sz:=2) (q:=none) (n:=0) (c:=0) (cs:=[]) hH (Mod.refl w) (fun _ h=>by cases h) (aG.nil _ _ _);refine⟨(none,0),?_,trivial,?_⟩
  ·rw[e];rfl
  ·rw[e];exact aO.to
 ·dsimp only at hH;replace hH:=SH.ap hH;refine gh ?_;obtain⟨⟨a,c⟩,hH⟩:=SH.un hH;replace hH:=SH.ap hH;dsimp only at hH;refine gh ?_;refine GC.bq (pl:=(aZ [0,3,6,9,15,18,21,13,25,29,30,35,36])) (T:=fun _=>False) (hm:=mixed) (h:=fun w hE hH=>gh ?_);refine GX.ew (hc:=fun _ hs=>QC (cs:=aK eX (S.A n).soft) ah (gQ wU _) (fun h=>hH.Ou (live:=aK eX (S.A n).soft) (ha:=h)) (FI XB _) hs) (h:=?_);rintro⟨q3,c3⟩ w _ HI hH;replace hH:=SH.ap hH;refine gh ?_;refine GX.CX (h:=fun w hH=>gh ?_);have aO:=FV (si (u:=S.A n) hH) hn d1 d2 d3;rw[b5.JX qH] at aO;exact⟨(q3,c3),rfl,trivial,aO.to⟩
def sL (l:List (Nat×Nat))(since:Nat):Option Nat:=(l.find? fun x=>decide (since<x.1)).map (·.2)
theorem Rk {since:Nat}:∀{l:List (Nat×Nat)}{k:Nat}{x:Nat×Nat},l[k]?=some x→(∀j y,j<k→l[j]?=some y→y.1≤since)→since<x.1→sL l since=some x.2
 | [],_,_,h,_,_=>by simp at h
 |y::l,0,x,h,_,hx=>by simp at h;subst h;simp[sL,hx]
 |y::l,k+1,x,h,bG,hx=>by
  have h0:=bG 0 y ah rfl;have:=Rk (l:=l) (k:=k) (by simpa using h) (fun j z hj hz=>bG (j+1) z ah (by simpa using hz)) hx;unfold sL at this ⊢;rw[List.find?_cons_of_neg (by simp;omega)];exact this
theorem abF {l:List (Nat×Nat)}{since:Nat}(h:∀x∈l,x.1≤since):sL l since=none:=by
 unfold sL;rw[List.find?_eq_none.2 fun x hx=>by simpa using h x hx];rfl
theorem ajH {s:Nat}{S:b5}(n since:Nat)(hn:n<65536)(hl:S.last<2^40)(hs:Start o w [dy s S]):aj prog 217 [ak s,iV n,uV since].toArray w
  (Po o (.tuple #[uV ((sL (S.A n).soft since).getD 0:Nat), .bool (sL (S.A n).soft since).isSome,iV 0]) [dy s S]):=by
 have hH:=hs.sh;obtain⟨T0,oK⟩:=J3 hH;obtain⟨d1,d2,d3⟩:=oK.GN n;have qH:=oK.Jv n;refine aj.enter func217 rfl ntmps217 rfl (gh ?_);refine GX.aL (hc:=fun _ hs=>FM n hn hs) (h:=fun w hE hH=>gh ?_);refine GX.bS (hc:=fun _ hs=>Ld n hl hs) (h:=?_);rintro(_|p) w hr hH
 ·have e:=hr rfl;dsimp only at hH;replace hH:=SH.ap hH;refine gh ?_;rw[e];exact⟨rfl,hH.to⟩
 ·dsimp only at hH;replace hH:=SH.ap hH;refine gh ?_;obtain⟨⟨a,c⟩,hH⟩:=SH.un hH;replace hH:=SH.ap hH;dsimp only at hH;refine gh ?_;have fin:∀{w:World},SH o w [aA p [uV (S.A n).mS, .slice a (S.A n).soft.length c],fP 242 2 a (S.A n).soft.length c (aK eX (S.A n).soft),AT s S n p]→SH o w [dy s S]:=fun hH=>by
   have aO:=FV (si (u:=S.A n) hH) hn d1 d2 d3;rw[b5.JX qH] at aO;exact aO
  generalize hsf:(S.A n).soft=sf at d2 fin hH ⊢;refine GC.bP [2,27,28] (fun k:Nat=>[(29,iV k)]) (fun k w'=>k≤sf.length∧(∀j x,j<k→sf[j]?=some x→x.1≤since)∧SH o w' [aA p [uV (S.A n).mS, .slice a sf.length c],fP 242 2 a sf.length c (aK eX sf),AT s S n p]) (fun k=>sf.length - k) 0 rfl rfl ⟨bh _,fun j x h=>by omega,hH.to⟩ ?_;rintro k w ⟨hk,bG,hH⟩;refine gh ?_;refine ifs (fun h1=>?_) (fun h1=>?_)<;>refine gh ?_
  ·have cQ:k<sf.length:=by omega
   obtain⟨q,kk,pre,rfl,mU,hH⟩:=hH.Jy (live:=aK eX sf) (n:=sf.length) ah;have qz:((pre++aK eX sf).drop (kk*2+k*2)).take 2=eX sf[k]:=by
    rw[List.drop_append,l0 ah,jF,mU,C8];exact jj wU (bO cQ)
   refine gh ?_;refine GX.next rfl (GO.jz (hv:=qz) (h:=gh ?_));refine GX.cm (h:=fun z w hH=>gh ?_);refine GX.bc (h:=fun w hH=>gh ?_);replace hH:=hH.CC (n:=sf.length) (c:=c) (live:=aK eX sf) mU;refine ifs (fun h2=>?_) (fun h2=>?_)<;>refine gh ?_
   ·refine⟨?_,(fin hH.to).to⟩;rw[Rk (bO cQ) bG ah];rfl
   ·exact GQ.br (k+1) rfl ⟨cQ,fun j x hj hx=>by
     rcases tB j k with h3|h3
     ·exact bG j x h3 hx
     ·obtain rfl:j=k:=by omega
      rw[bO cQ] at hx;cases hx;omega,hH.to⟩ ah
  ·refine gh ?_;refine⟨?_,(fin hH).to⟩;rw[abF fun x hx=>by
    obtain⟨j,hj⟩:=List.mem_iff_getElem?.1 hx;have:=(aV.1 hj).1;exact bG j x ah hj]
   rfl
theorem Wm {g now:Nat}:∀(l:List (Nat×Nat)) (h:Nat),(qT g now l h).soft.length≤l.length
 | [],_=>bj _
 |x::r,h=>by
  simp only[qT];split
  ·exact vq (Wm r _)
  ·exact bj _
theorem agU {κ ν:Type}[DecidableEq κ](M:List (κ×ν))(k:κ)(v:ν):bD (bE M k v) k=bD M k:=by
 induction M with
 |nil=>simp[bE,bD]
 |cons x M ih=>
  obtain⟨a,u⟩:=x;simp only[bE];split
  ·rename_i e;subst e;simp[bD]
  ·rename_i e;simp[bD,e,ih]
def yT (l:List (Nat×Nat))(x:Nat×Nat):List (Nat×Nat):=if(l.getLast?.map (·.2))=some x.2 then l.dropLast++[x] else l++[x]
theorem SH.Jo {l t:List It}{b sz n c:Nat}{ca live:List Value}{el:TypeId}{a:Option Addr}(h:SH o w l)(hp:Pk l [aA b ca,fP el sz a n c live] t:=by repeat(first|exact Pk.nil|(apply Pk.cons;repeat(first|exact aB.here|apply aB.there)))):¬∃y,a=some y∧y.block=b:=by
 have h1:SH o w (aA b ca::fP el sz a n c live::t):=h.perm hp.perm;obtain⟨x,hx⟩:=SH.un (f:=fun x:j9 sz a n c live=>x.dm el) h1 (.there .here);rintro⟨y,hy,e⟩;cases x with
 |nil=>cases hy
 |dead b' off N C cs=>
  cases hy;have hx:SH o w (ao el sz (some b') N C cs::aA b ca::t):=hx;exact(hx.th (b:=b) (q:=some b'):some b≠some b') (congrArg some e.symm)
 |on b' k n c pre live hk=>
  cases hy;have hx:SH o w (ao el sz (some b') (k+n) (k+c) (pre++live)::aA b ca::t):=hx;exact(hx.th (b:=b) (q:=some b'):some b≠some b') (congrArg some e.symm)
theorem aff {α:Type}{f:α→List Value}{z m:Nat}(hz:∀x,(f x).length=z)(pre:List Value)(l:List α)(x y:α)(h:m=(pre++aK f l).length):(pre++aK f (l++[x])).take m++f y++(pre++aK f (l++[x])).drop (m+(f y).length)=pre++aK f (l++[y]):=by
 rw[kK,kK,←cP,←cP,h,vk,l0,eY];rw[bJ,hz,hz];exact bj _
theorem alh {l r:List It}{s n p:Nat}{S:b5}(hH:SH o w l)(hs:aB (AT s S n p) l r:=by repeat(first|exact aB.here|apply aB.there)):∃b T u,gy S T∧az T (n:Int)=some (p,u)∧SH o w (aA s [uV S.fX,uV S.now,uV S.last, .map (some b)]::aQ b iV lS T::bB (bT gP (bD T (n:Int)))::r):=by
 obtain⟨⟨⟨b,T⟩,hT,u,hu⟩,aO⟩:=SH.un (f:=fun y:{ y:Nat×ke // gy S y.2∧∃u,az y.2 (n:Int)=some (p,u)}=>[aA s [uV S.fX,uV S.now,uV S.last, .map (some y.1.1)],aQ y.1.1 iV lS y.1.2,bB (bT gP (bD y.1.2 (n:Int)))]) hH hs;exact⟨b,T,u,hT,hu,aO⟩
theorem ala {s:Nat}{S:b5}(n:Nat)(hn:n<65536)(t:Nat)(ht:t≤never)(hl:S.last+1<2^40)(hs:Start o w [dy s S]):aj prog 156 [ak s,iV n,uV t].toArray w (Po o (.tuple #[uV (S.last+1:Nat),iV 0]) [dy s ((S.next t).set n ⟨((S.next t).A n).mS,yT ((S.next t).A n).soft (S.last+1,(S.next t).now)⟩)]):=by
 have hH:=hs.sh;obtain⟨T0,oK⟩:=J3 hH;have iX:=oK.next t ht (by simp only[never];omega);obtain⟨d1,d2,d3⟩:=iX.GN n;have d4:((S.next t).A n).soft.length≤S.last:=by
  obtain⟨_,h2,_⟩:=oK.GN n;exact eh (Wm _ _) h2
 have qH:=iX.Jv n;have rH:S.last<2^40:=by omega
 have iA:(S.next t).last<2^40:=hl;refine aj.enter func156 rfl ntmps156 rfl (gh ?_);refine GX.aL (hc:=fun _ hs=>FM n hn hs) (h:=fun w hE hH=>gh ?_);refine GX.bz (hc:=fun _ hs=>O9 t ht rH hs) (h:=fun w hH=>gh ?_);refine GX.bS (hc:=fun _ hs=>Ld n iA hs) (h:=?_);rintro(_|p) w hr hH<;>dsimp only at hH<;>replace hH:=SH.ap hH<;>refine gh ?_
 case' none=>
  have e:=hr rfl;obtain⟨⟨⟨b,T⟩,hT⟩,hH⟩:=SH.un hH;replace hH:=SH.ap hH;dsimp only at hH;refine gh ?_;refine GX.cw (h:=fun p w hH=>gh ?_);refine GX.Fq (v:=((p,⟨0,[]⟩):Nat×Pu)) (h:=fun w hH=>gh ?_);have aO:=si (u:=⟨0,[]⟩) hH.Jx;have cF:=aO.Dj (n:Int);have nP:=hT.set n p hn (u:=⟨0,[]⟩) (bh _) (bh _) (fun _ h=>(by cases h));rw[show(S.next t).set n ⟨0,[]⟩=S.next t by rw[←e];exact b5.JX qH] at nP;rw[←agU T (n:Int) ((p,⟨0,[]⟩):Nat×Pu)] at cF;have iU:=CV (S:=S.next t) (n:=n) (p:=p) (u:=⟨0,[]⟩) cF nP (by rw[kI,if_pos rfl]);rw[←e] at iU;replace hH:=iU.perm (List.Perm.swap _ _ _);clear aO cF iU
 all_goals
  generalize hA:(S.next t).A n=A at hH d1 d2 d3 d4 qH ⊢;obtain⟨hd,sf⟩:=A;simp only at d1 d2 d3 d4;obtain⟨⟨a,c⟩,hH⟩:=SH.un hH;replace hH:=SH.ap hH;dsimp only at hH;obtain⟨b',T',u0,nP,Nf,hH⟩:=alh hH;have sQ:∀l y,y=(S.last+1,(S.next t).now)→∀z∈(l:List (Nat×Nat))++[y],(z∈l→z∈sf)→z.1≤(S.next t).last∧z.2≤never:=fun l y hy z hz hs=>by
   rcases cJ.1 hz with h|h
   ·exact d3 z (hs h)
   ·simp at h;subst h hy;exact⟨bj _,nP.nw⟩
  have h3:sf=[]∨∃l x,sf=l++[x]:=by
   rcases List.eq_nil_or_concat sf with h|⟨l,x,h⟩
   ·exact .inl h
   ·exact .inr ⟨l,x,by simpa using h⟩
  rcases h3 with rfl|⟨l,x,rfl⟩
  ·refine gh ?_;refine GX.cm (h:=fun z w hH=>gh ?_);refine GX.bc (h:=fun w hH=>gh ?_);refine GC.bq (pl:=(aZ [0,3,6,9,12,15,21,24,36,39,42,19,27,30,34,46,48,51])) (T:=fun _=>False) (hm:=mixed) (h:=fun w hE hH=>gh ?_);have hnp:=hH.Jo (b:=p) (live:=aK eX []);have EG:=hH.Jo (b:=z) (live:=aK eX []);refine GC.bq (pl:=(aZ [0,3,6,9,13,16,20,23,24,27,32])) (T:=fun k=>∃y,a=some y∧y.block=k) (hm:=mixed) (h:=fun w hE hH=>gh ?_);refine GX.P2 (h1:=by simp[Value.oneCell']) (hT:=by intro x h;exact⟨x,h,rfl⟩) (h:=fun a c w _ hH=>gh ?_);refine GX.fH (h:=fun w hH=>gh ?_);refine⟨rfl,?_⟩;have aO:=si (u:=⟨hd,([]:List (Nat×Nat))++[(S.last+1,(S.next t).now)]⟩) hH (e1:=by simp) (e2:=by first|rfl|exact(kK _ _).symm);have cF:=FV (u:=⟨hd,([]:List (Nat×Nat))++[(S.last+1,(S.next t).now)]⟩) (CV (p:=p) aO nP Nf) hn d1 (by simp only[bJ,ie];exact Nat.succ_le_succ d4) (fun z hz=>sQ _ _ rfl z hz id);rw[show yT ([]:List (Nat×Nat)) (S.last+1,(S.next t).now)=([]:List (Nat×Nat))++[(S.last+1,(S.next t).now)] by
    unfold yT;rw[if_neg (by simp)]]
   exact cF.to
  ·obtain⟨q,kk,pre,rfl,mU,hH⟩:=hH.Jy (live:=aK eX (l++[x])) (n:=(l++[x]).length) (by simp);have ft:(pre++aK eX (l++[x]))[kk*2+(l.length*2+1)]?=some (uV x.2):=by
    rw[ia ah,mU,C8];exact nj wU (i:=l.length) (x:=x) (by simp) rfl
   have gZ:(pre++aK eX l).length=kk*2+l.length*2:=by rw[bJ,mU,gQ wU]
   have adO:(pre++aK eX (l++[x])).length=kk*2+(l.length+1)*2:=by rw[bJ,mU,gQ wU];simp
   have lf:pre.length+(aK eX (l++[x])).length=(kk+(l++[x]).length)*2:=by rw[mU,gQ wU,iP]
   refine gh ?_;refine GX.cm (h:=fun z w hH=>gh ?_);refine GX.bc (h:=fun w hH=>gh ?_);refine GC.bq (pl:=(aZ [0,3,6,9,12,15,21,24,36,39,42,19,27,30,34,46,48,51])) (T:=fun _=>False) (hm:=mixed) (h:=fun w hE hH=>gh ?_);refine ifs (fun h1=>?_) (fun h1=>?_)<;>refine gh ?_
   ·rw[show(((l++[x]).length:Nat):Int) - 1=(l.length:Int) by simp];refine gh ?_;refine GX.read rfl (GO.jU (hv:=ft) (h:=gh ?_));refine ifs (fun h2=>?_) (fun h2=>?_)<;>refine gh ?_
    ·refine GC.bq (pl:=(aZ [0,3,6,12,15,10,19,21,26])) (T:=fun _=>False) (hm:=mixed) (h:=fun w hE hH=>gh ?_);refine GX.gH (hb:=by rw[wU,adO];simp;omega) (hc:=show _=pre++aK eX (l++[(S.last+1,(S.next t).now)]) from aff wU pre l x (S.last+1,(S.next t).now) (by rw[gZ];simp)) (h:=fun w hH=>gh ?_);refine⟨rfl,?_⟩;have aO:=si (u:=⟨hd,l++[(S.last+1,(S.next t).now)]⟩) (hH.CC (n:=(l++[x]).length) (c:=c) (live:=aK eX (l++[(S.last+1,(S.next t).now)])) mU) (e1:=by simp);have cF:=FV (u:=⟨hd,l++[(S.last+1,(S.next t).now)]⟩) (CV (p:=p) aO nP Nf) hn d1 (by simpa using d2) (fun z hz=>sQ l _ rfl z hz fun h=>tH _ h);rw[show yT (l++[x]) (S.last+1,(S.next t).now)=l++[(S.last+1,(S.next t).now)] by
      unfold yT;rw[if_pos (by simp;omega)];simp]
     exact cF.to
    ·replace hH:=hH.CC (n:=(l++[x]).length) (c:=c) (live:=aK eX (l++[x])) mU;have hnp:=hH.Jo (b:=p) (live:=aK eX (l++[x]));have EG:=hH.Jo (b:=z) (live:=aK eX (l++[x]));refine GC.bq (pl:=(aZ [0,3,6,9,13,16,20,23,24,27,32])) (T:=fun k=>∃y,some (⟨q,kk*2,none⟩:Addr)=some y∧y.block=k) (hm:=mixed) (h:=fun w hE hH=>gh ?_);refine GX.P2 (h1:=by simp[Value.oneCell']) (hT:=by intro x h;exact⟨x,h,rfl⟩) (h:=fun a c w _ hH=>gh ?_);refine GX.fH (h:=fun w hH=>gh ?_);refine⟨rfl,?_⟩;have aO:=si (u:=⟨hd,(l++[x])++[(S.last+1,(S.next t).now)]⟩) hH (e1:=by simp) (e2:=by first|rfl|exact(kK (f:=eX) (l++[x]) (S.last+1,(S.next t).now)).symm);have cF:=FV (u:=⟨hd,(l++[x])++[(S.last+1,(S.next t).now)]⟩) (CV (p:=p) aO nP Nf) hn d1 (by simp only[bJ,ie] at d4 ⊢;exact Nat.succ_le_succ d4) (fun z hz=>sQ _ _ rfl z hz id);rw[show yT (l++[x]) (S.last+1,(S.next t).now)=(l++[x])++[(S.last+1,(S.next t).now)] by
      unfold yT;rw[if_neg (by simp;omega)]]
     exact cF.to
   ·simp at h1
end Go.Proofs.YtmlpbmgfmnmmmaaGreat.V.M
