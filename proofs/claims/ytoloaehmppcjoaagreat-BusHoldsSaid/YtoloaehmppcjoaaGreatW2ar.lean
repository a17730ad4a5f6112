/-
  Parts of the proof. No condition.
-/
import Derived.Test.YtoloaehmppcjoaaGreatW2aq
set_option linter.unusedVariables false
set_option linter.unusedSimpArgs false
set_option maxRecDepth 8000
set_option maxHeartbeats 8000000
open Go.Proofs.Tryz
namespace Go.Proofs.YtoloaehmppcjoaaGreat.V.M
attribute [local irreducible] GO GX aB fz aF aS aq star
variable {o:Og}{w:World}
structure Pu where
 jv:Nat
 soft:List (Nat×Nat)
def yI (g now:Nat)(x:Nat×Nat):Bool:=due (lL x.2 g) now
def pk (g now:Nat):List (Nat×Nat)→Nat→Pu
 | [],h=>⟨h,[]⟩
 |x::r,h=>if yI g now x then pk g now r (max h x.1) else⟨h,x::r⟩
def Pu.norm (g now:Nat)(u:Pu):Pu:=pk g now u.soft u.jv
theorem ahN {g now vf:Nat}{x:Nat×Nat}(h:yI g now x=true)(hn:now≤vf):yI g vf x=true:=by
 unfold yI due at h ⊢;simp at h ⊢;omega
theorem Wm {g now vf:Nat}(hn:now≤vf):∀(l:List (Nat×Nat)) (h:Nat),(pk g now l h).norm g vf=pk g vf l h
 | [],_=>rfl
 |x::r,h=>by
  simp only[pk];split
  ·rename_i h1
   rw[if_pos (ahN h1 hn),Wm hn r]
  ·rfl
theorem Pu.Wo {g now vf:Nat}(hn:now≤vf)(u:Pu):(u.norm g now).norm g vf=u.norm g vf:=Wm hn u.soft u.jv
def fv (x:Nat×Nat):List Value:=[uV x.1,uV x.2]
theorem xf (x:Nat×Nat):(fv x).length=2:=rfl
theorem XD (x:Nat×Nat):∀u∈fv x,u.oneCell'=true:=by
 intro u hu
 rcases bU.1 hu with rfl|hu
 ·rfl
 ·rcases bU.1 hu with rfl|hu
  ·rfl
  ·cases hu
def tN (p:Nat)(u:Pu):It:=star fun x:Option Addr×Nat=>[aB p [uV u.jv, .slice x.1 u.soft.length x.2],fZ 264 2 x.1 u.soft.length x.2 (aL fv u.soft)]
instance {p:Nat}{u:Pu}:Zf (tN p u):=Zf.star fun _=>inferInstance
theorem sI {l t:List It}{p n c:Nat}{a:Option Addr}{cs:List Value}{u:Pu}(hH:SH o w l)(hp:Pk l [aB p [uV u.jv, .slice a n c],fZ 264 2 a n c cs] t:=by repeat(first|exact Pk.nil|(apply Pk.cons;repeat(first|exact az.here|apply az.there))))(e1:n=u.soft.length:=by rfl)(e2:cs=aL fv u.soft:=by rfl):SH o w (tN p u::t):=by
 subst e1 e2;exact SH.fold (f:=fun x:Option Addr×Nat=>[aB p [uV u.jv, .slice x.1 u.soft.length x.2],fZ 264 2 x.1 u.soft.length x.2 (aL fv u.soft)]) (a,c) hH hp
abbrev kI:=List (Int×(Nat×Pu))
structure bW where
 dK:Nat
 now:Nat
 last:Nat
 A:Nat→Pu
def me (x:Nat×Pu):Value:=ak x.1
structure gJ (S:bW)(T:kI):Prop where
 nd:(T.map (·.1)).Nodup
 key:∀k v,ay T k=some v→∃n:Nat,k=(n:Int)∧n<65536
 g:S.dK≤1099511627776
 l:S.last≤never
 nw:S.now≤never
 bd:∀k v,ay T k=some v→v.2.jv≤S.last∧v.2.soft.length≤S.last∧∀x∈v.2.soft,x.1≤S.last∧x.2≤never
 of:∀n:Nat,S.A n=match ay T (n:Int) with|some x=>x.2.norm S.dK S.now|none=>⟨0,[]⟩
def ig (x:Int×(Nat×Pu)):List It:=[tN x.2.1 x.2.2]
def dB (s:Nat)(S:bW):It:=star fun y:{ y:Nat×kI // gJ S y.2}=>[aB s [uV S.dK,uV S.now,uV S.last, .map (some y.1.1)],aS y.1.1 iV me y.1.2,bJ (bS ig y.1.2)]
instance {T:kI}:Zf (bJ (bS ig T)):=Zf.Bj (WB fun x=>by unfold ig;infer_instance)
instance {s:Nat}{S:bW}:Zf (dB s S):=Zf.star fun _=>inferInstance
theorem vl {l t:List It}{s b:Nat}{T:kI}{S:bW}(hH:SH o w l)(hT:gJ S T)(hp:Pk l [aB s [uV S.dK,uV S.now,uV S.last, .map (some b)],aS b iV me T,bJ (bS ig T)] t:=by repeat(first|exact Pk.nil|(apply Pk.cons;repeat(first|exact az.here|apply az.there)))):SH o w (dB s S::t):=
 SH.fold (f:=fun y:{ y:Nat×kI // gJ S y.2}=>[aB s [uV S.dK,uV S.now,uV S.last, .map (some y.1.1)],aS y.1.1 iV me y.1.2,bJ (bS ig y.1.2)]) ⟨(b,T),hT⟩ hH hp
theorem AR {s:Nat}{S:bW}(hs:Start o w [fz (dB s S)]):aj prog 126 [ak s].toArray w (Po o (.bool false) []):=by
 have hH:=hs.sh;obtain⟨⟨⟨b,T⟩,hT⟩,hH⟩:=SH.dV hH;replace hH:=SH.ed hH;dsimp only at hH;refine aj.enter func126 rfl ntmps126 rfl (gh ?_);refine GX.next rfl (GO.N7 rfl rfl rfl rfl rfl (gh ?_));exact⟨rfl,hH.to⟩
theorem FT {s:Nat}{S:bW}(n:Nat)(hn:n<65536)(hs:Start o w [fz (dB s S)]):aj prog 208 [ak s,iV n].toArray w (Po o (iV 0) []):=by
 have hH:=hs.sh;refine aj.enter func208 rfl ntmps208 rfl (gh ?_);refine GX.aM (hc:=fun _ hs=>AR hs) (h:=fun w hE hH=>gh ?_);refine ifs (fun h1=>?_) (fun h1=>?_)<;>refine gh ?_
 ·omega
 exact⟨rfl,hH.to⟩
theorem ajI (g:Nat)(hg:g≤1099511627776)(hs:Start o w []):aj prog 62 [uV g].toArray w (aX o (fun s => .tuple #[ak s,iV 0]) (fun _=>True) (fun s=>[dB s ⟨g,0,0,fun _=>⟨0,[]⟩⟩])):=by
 have hH:=hs.sh;refine aj.enter func62 rfl ntmps62 rfl (gh ?_);refine ifs (fun h1=>?_) (fun h1=>?_)<;>refine gh ?_
 ·omega
 refine GX.yD (iV:Int→Value) me (h:=fun m w hH=>gh ?_);refine GX.cI (h:=fun s w hH=>gh ?_);exact⟨s,rfl,trivial,(vl (S:=⟨g,0,0,fun _=>⟨0,[]⟩⟩) (T:=[]) hH.pR ⟨lP,fun k v h=>(by simp[ay] at h),hg,bh _,bh _,fun k v h=>(by simp[ay] at h),fun n=>rfl⟩).to⟩
def bW.at (S:bW)(t:Nat):bW:={ S with now:=max S.now t,A:=fun n=>(S.A n).norm S.dK (max S.now t)}
theorem gJ.at {S:bW}{T:kI}(h:gJ S T)(t:Nat)(ht:t≤never):gJ (S.at t) T:=⟨h.nd,h.key,h.g,h.l,Nat.max_le.2 ⟨h.nw,ht⟩,h.bd,fun n=>by
 have:=h.of n;simp only[bW.at];rw[this];split
 ·exact Pu.Wo (Nat.le_max_left ..) _
 ·rfl⟩
theorem ajs {s:Nat}{S:bW}(t:Nat)(ht:t≤never)(hs:Start o w [dB s S]):aj prog 79 [ak s,uV t].toArray w (Po o (iV 0) [dB s (S.at t)]):=by
 have hH:=hs.sh;refine aj.enter func79 rfl ntmps79 rfl (gh ?_);refine GX.aM (hc:=fun _ hs=>AR hs) (h:=fun w hE hH=>gh ?_);obtain⟨⟨⟨b,T⟩,hT⟩,hH⟩:=SH.un hH;replace hH:=SH.ap hH;dsimp only at hH;refine gh ?_;refine GX.da (DC S.now t _) rfl rfl rfl rfl rfl rfl (gh ?_);refine GX.dC (h:=fun w hH=>gh ?_);exact⟨rfl,(vl (S:=S.at t) (T:=T) hH (hT.at t ht)).to⟩
theorem XI {s:Nat}{S:bW}(hs:Start o w [fz (dB s S)]):aj prog 124 [ak s].toArray w (Po o (uV S.last) []):=by
 have hH:=hs.sh;refine aj.enter func124 rfl ntmps124 rfl (gh ?_);refine GX.aM (hc:=fun _ hs=>AR hs) (h:=fun w hE hH=>gh ?_);obtain⟨⟨⟨b,T⟩,hT⟩,hH⟩:=SH.dV hH;replace hH:=SH.ed hH;dsimp only at hH;refine gh ?_;exact⟨rfl,hH.to⟩
theorem ajJ {s:Nat}{S:bW}(hs:Start o w [fz (dB s S)]):aj prog 164 [ak s].toArray w (Po o (uV S.now) []):=by
 have hH:=hs.sh;refine aj.enter func164 rfl ntmps164 rfl (gh ?_);refine GX.aM (hc:=fun _ hs=>AR hs) (h:=fun w hE hH=>gh ?_);obtain⟨⟨⟨b,T⟩,hT⟩,hH⟩:=SH.dV hH;replace hH:=SH.ed hH;dsimp only at hH;refine gh ?_;exact⟨rfl,hH.to⟩
theorem ajB {s:Nat}{S:bW}(hs:Start o w [fz (dB s S)]):aj prog 165 [ak s].toArray w (Po o (uV S.dK) []):=by
 have hH:=hs.sh;refine aj.enter func165 rfl ntmps165 rfl (gh ?_);refine GX.aM (hc:=fun _ hs=>AR hs) (h:=fun w hE hH=>gh ?_);obtain⟨⟨⟨b,T⟩,hT⟩,hH⟩:=SH.dV hH;replace hH:=SH.ed hH;dsimp only at hH;refine gh ?_;exact⟨rfl,hH.to⟩
theorem ahO {s:Nat}{g now l:Nat}{m:Value}(x:Nat×Nat)(hg:g≤never)(hx:x.2≤never)(hs:Start o w [fz (aB s [uV g,uV now,uV l,m])]):aj prog 329 [ak s, .agg (fv x).toArray].toArray w (Po o (.bool (yI g now x)) []):=by
 have hH:=hs.sh;refine aj.enter func329 rfl ntmps329 rfl (gh ?_);refine GX.cI (h:=fun b w hH=>gh ?_);refine GC.br (pl:=(bg [0,6,9,12,21,24,27,4,16,31,20,35,36])) (T:=fun _=>False) (hm:=mixed) (h:=fun w hE hH=>gh ?_);refine GX.pS (hc:=Ha x.2 g hx hg _) (h:=gh ?_);refine GX.pS (hc:=Dz (lL x.2 g) now _) (h:=gh ?_);exact⟨rfl,hH.to⟩
def AT (s:Nat)(S:bW)(n p:Nat):It:=star fun y:{ y:Nat×kI // gJ S y.2∧∃u,ay y.2 (n:Int)=some (p,u)}=>[aB s [uV S.dK,uV S.now,uV S.last, .map (some y.1.1)],aS y.1.1 iV me y.1.2,bJ (bS ig (bB y.1.2 (n:Int)))]
theorem CT {l t:List It}{s b n p:Nat}{T:kI}{S:bW}{u:Pu}(hH:SH o w l)(hT:gJ S T)(hu:ay T (n:Int)=some (p,u))(hp:Pk l [aB s [uV S.dK,uV S.now,uV S.last, .map (some b)],aS b iV me T,bJ (bS ig (bB T (n:Int)))] t:=by repeat(first|exact Pk.nil|(apply Pk.cons;repeat(first|exact az.here|apply az.there)))):SH o w (AT s S n p::t):=
 SH.fold (f:=fun y:{ y:Nat×kI // gJ S y.2∧∃u,ay y.2 (n:Int)=some (p,u)}=>[aB s [uV S.dK,uV S.now,uV S.last, .map (some y.1.1)],aS y.1.1 iV me y.1.2,bJ (bS ig (bB y.1.2 (n:Int)))]) ⟨(b,T),hT,u,hu⟩ hH hp
def abW:Option Nat→Value
 |none => .pointer none
 |some p=>ak p
theorem Lo {s:Nat}{S:bW}(n:Nat)(hl:S.last<2^40)(hs:Start o w [dB s S]):aj prog 263 [ak s,iV n].toArray w (aX o abW (fun r=>r=none→S.A n=⟨0,[]⟩) (fun r=>match r with|none=>[dB s S]|some p=>[tN p (S.A n),AT s S n p])):=by
 have hH:=hs.sh;obtain⟨⟨⟨b,T⟩,hT⟩,hH⟩:=SH.un hH;replace hH:=SH.ap hH;dsimp only at hH;refine aj.enter func263 rfl ntmps263 rfl (gh ?_);have tB:=hT.of n;cases hm:ay T (n:Int) with
 |none=>
  rw[hm] at tB;refine GX.mN (hV:=show jA me _ false _ = .pointer none from by rw[hm];rfl) (h:=gh ?_);exact⟨none,rfl,fun _=>tB,(vl hH hT).to⟩
 |some pu=>
  obtain⟨p,u⟩:=pu;rw[hm] at tB;simp only at tB;obtain⟨b1,b2,b3⟩:=hT.bd _ _ hm;simp only at b1 b2 b3;have hg:=hT.g;have Im:S.dK≤never:=by simp only[never];omega
  refine GX.mN (hV:=show jA me _ false _=ak p from by rw[hm];rfl) (h:=gh ?_);have aQ:=SH.rK [tN p u] _ hH (pq (f:=ig) hm);replace hH:=SH.ap aQ;clear aQ;refine GC.bR [0,5] (fun _:Pu=>[]) (fun v w'=>v.norm S.dK S.now=S.A n∧(∀x∈v.soft,x.1≤S.last∧x.2≤never)∧v.jv≤S.last∧v.soft.length≤S.last∧SH o w' [tN p v,aB s [uV S.dK,uV S.now,uV S.last, .map (some b)],aS b iV me T,bJ (bS ig (bB T (n:Int)))]) (fun v=>v.soft.length) u rfl rfl ⟨tB.symm,b3,b1,b2,hH.to⟩ ?_;rintro⟨hd,sf⟩ w ⟨hN,c1,c2,c3,hH⟩;simp only at c1 c2 c3;obtain⟨⟨a,c⟩,hH⟩:=SH.un hH;replace hH:=SH.ap hH;dsimp only at hH;refine gh ?_;refine ifs (fun h1=>?_) (fun h1=>?_)<;>refine gh ?_
  ·obtain⟨x,r,rfl⟩:∃x r,sf=x::r:=List.exists_cons_of_length_pos ah;obtain⟨q,k,pre,rfl,hk,hH⟩:=hH.JI (live:=aL fv (x::r)) (n:=(x::r).length) (by simp);have qR:((pre++aL fv (x::r)).drop (k*2)).take 2=fv x:=by rw[←hk,List.drop_left];rfl
   have fE:(pre++aL fv (x::r))[k*2]?=some (uV x.1):=by rw[←hk,iD (aY _),Nat.sub_self];rfl
   obtain⟨lX,fh⟩:=c1 x (oK ..);refine gh ?_;refine GX.next rfl (GO.kg (hv:=qR) (h:=gh ?_));refine GX.aM (hc:=fun _ hs=>ahO x Im fh hs) (h:=fun w hE hH=>gh ?_);cases ho:yI S.dK S.now x with
   |true=>
    refine gh ?_;refine GC.br (pl:=(bg [0,3,6,9,15,18,21,13,25,27,30,34,36,39,42,47])) (T:=fun _=>False) (hm:=mixed) (h:=fun w hE hH=>gh ?_);refine GX.read rfl (GO.lC (hv:=fE) (h:=gh ?_));refine GX.fO (h:=fun w hH=>gh ?_);replace hH:=hH.Cz (n:=(x::r).length) (c:=c) (live:=aL fv (x::r)) hk;refine gh ?_;refine GX.aaL (h:=fun hH=>gh ?_);refine GX.dC (h:=fun w hH=>gh ?_);rw[show(if(x.1:Int) > (hd:Int) then(x.1:Int) else(hd:Int))=((max hd x.1:Nat):Int) by split<;>omega] at hH;have aQ:=sI (u:=⟨max hd x.1,r⟩) hH (e1:=by simp) (e2:=rfl);simp only[ek] at c3;exact GQ.bj (⟨max hd x.1,r⟩:Pu) rfl ⟨by rw[←hN];simp only[Pu.norm,pk,ho];rfl,fun y hy=>c1 y (fP _ hy),Nat.max_le.2 ⟨c2,lX⟩,by simp only;omega,aQ.to⟩ (by simp)
   |false=>
    refine gh ?_;have e:(⟨hd,x::r⟩:Pu)=S.A n:=by rw[←hN];simp only[Pu.norm,pk,ho];rfl
    have aQ:=sI (u:=⟨hd,x::r⟩) (hH.Cz (n:=(x::r).length) (c:=c) hk);rw[e] at aQ;exact⟨some p,rfl,fun h=>(by cases h),(CT (u:=u) (p:=p) aQ hT hm).to⟩
  ·obtain rfl:sf=[]:=gu ah;refine gh ?_;have e:(⟨hd,[]⟩:Pu)=S.A n:=by rw[←hN];rfl
   have aQ:=sI (u:=⟨hd,[]⟩) hH;rw[e] at aQ;exact⟨some p,rfl,fun h=>(by cases h),(CT (u:=u) (p:=p) aQ hT hm).to⟩
def bW.set (S:bW)(n:Nat)(u:Pu):bW:={ S with A:=fun m=>if m=n then u.norm S.dK S.now else S.A m}
theorem gJ.set {S:bW}{T:kI}(h:gJ S T)(n p:Nat)(hn:n<65536){u:Pu}(h1:u.jv≤S.last)(h2:u.soft.length≤S.last)(h3:∀x∈u.soft,x.1≤S.last∧x.2≤never):gJ (S.set n u) (bC T (n:Int) (p,u)):=
 ⟨sB h.nd _ _,fun k v hv=>by
  rw[kU] at hv;split at hv
  ·exact⟨n,by assumption,hn⟩
  ·exact h.key k v hv,h.g,h.l,h.nw,fun k v hv=>by
  rw[kU] at hv;split at hv
  ·cases hv;exact⟨h1,h2,h3⟩
  ·exact h.bd k v hv,fun m=>by
  rw[kU];simp only[bW.set]
  by_cases e:m=n
  ·rw[if_pos e,if_pos ah]
  ·rw[if_neg e,if_neg ah];exact h.of m⟩
theorem gJ.JF {S:bW}{T:kI}(h:gJ S T)(n:Nat):(S.A n).norm S.dK S.now=S.A n:=by
 rw[h.of n];split
 ·exact Pu.Wo (aY _) _
 ·rfl
theorem gJ.GR {S:bW}{T:kI}(h:gJ S T)(n:Nat):(S.A n).jv≤S.last∧(S.A n).soft.length≤S.last∧∀x∈(S.A n).soft,x.1≤S.last∧x.2≤never:=by
 have key:∀(l:List (Nat×Nat)) (hd:Nat),hd≤S.last→l.length≤S.last→(∀x∈l,x.1≤S.last∧x.2≤never)→(pk S.dK S.now l hd).jv≤S.last∧(pk S.dK S.now l hd).soft.length≤S.last∧∀x∈(pk S.dK S.now l hd).soft,x.1≤S.last∧x.2≤never:=by
  intro l
  induction l with
  |nil=>intro hd h1 _ _;exact⟨h1,bh _,fun _ h=>by cases h⟩
  |cons x r ih=>
   intro hd h1 h2 h3;simp only[pk];split
   ·exact ih _ (Nat.max_le.2 ⟨h1,(h3 x (oK ..)).1⟩) (by simp only[ek] at h2;omega) fun y hy=>h3 y (fP _ hy)
   ·exact⟨h1,h2,h3⟩
 rw[h.of n];split
 ·rename_i x hx
  obtain⟨h1,h2,h3⟩:=h.bd _ _ hx;exact key _ _ h1 h2 h3
 ·exact⟨bh _,bh _,fun _ h=>by cases h⟩
theorem FZ {l t:List It}{s n p:Nat}{S:bW}{u:Pu}(hH:SH o w l)(hn:n<65536)(h1:u.jv≤S.last)(h2:u.soft.length≤S.last)(h3:∀x∈u.soft,x.1≤S.last∧x.2≤never)(hp:Pk l [AT s S n p,tN p u] t:=by repeat(first|exact Pk.nil|(apply Pk.cons;repeat(first|exact az.here|apply az.there)))):SH o w (dB s (S.set n u)::t):=by
 have tu:SH o w (AT s S n p::tN p u::t):=hH.perm hp.perm;obtain⟨⟨⟨b,T⟩,hT,v,hv⟩,aQ⟩:=SH.un (f:=fun y:{ y:Nat×kI // gJ S y.2∧∃u,ay y.2 (n:Int)=some (p,u)}=>[aB s [uV S.dK,uV S.now,uV S.last, .map (some y.1.1)],aS y.1.1 iV me y.1.2,bJ (bS ig (bB y.1.2 (n:Int)))]) tu az.here;have cH:SH o w (aB s [uV S.dK,uV S.now,uV S.last, .map (some b)]::aS b iV me T::bJ (bS ig (bB T (n:Int)))::tN p u::t):=aQ;have js:=cH.agO (v':=(p,u)) hv rfl;have hH5:=SH.iI [tN p u] (bS ig (bB T (n:Int))) js (by repeat(first|exact Pk.nil|(apply Pk.cons;repeat(first|exact az.here|apply az.there)))) (FG (f:=ig) (M:=T) (k:=(n:Int)) (v:=(p,u)));exact vl (S:=S.set n u) hH5 (hT.set n p hn h1 h2 h3)
theorem bW.J9 {S:bW}{n:Nat}(h:(S.A n).norm S.dK S.now=S.A n):S.set n (S.A n)=S:=by
 unfold bW.set;cases S;simp only at h ⊢;congr 1;funext m;split
 ·rename_i e;rw[h,e]
 ·rfl
theorem Kf {l r:List It}{s:Nat}{S:bW}(hH:SH o w l)(hs:az (dB s S) l r:=by repeat(first|exact az.here|apply az.there)):∃T,gJ S T:=by
 obtain⟨⟨⟨b,T⟩,hT⟩,_⟩:=SH.un hH hs;exact⟨T,hT⟩
def bW.next (S:bW)(t:Nat):bW:={ S.at t with last:=S.last+1}
theorem gJ.next {S:bW}{T:kI}(h:gJ S T)(t:Nat)(ht:t≤never)(hl:S.last<never):gJ (S.next t) T:=by
 have h1:=h.at t ht;refine⟨h1.nd,h1.key,h1.g,hl,h1.nw,fun k v hv=>?_,h1.of⟩;obtain⟨q1,q2,q3⟩:=h.bd k v hv;exact⟨ua q1,ua q2,fun x hx=>⟨ua (q3 x hx).1,(q3 x hx).2⟩⟩
theorem O' {s:Nat}{S:bW}(t:Nat)(ht:t≤never)(hl:S.last<2^40)(hs:Start o w [dB s S]):aj prog 262 [ak s,uV t].toArray w (Po o (.tuple #[uV (S.last+1:Nat),iV 0]) [dB s (S.next t)]):=by
 have hH:=hs.sh;obtain⟨⟨⟨b,T⟩,hT⟩,hH⟩:=SH.un hH;replace hH:=SH.ap hH;dsimp only at hH;refine aj.enter func262 rfl ntmps262 rfl (gh ?_);refine ifs (fun h1=>?_) (fun h1=>?_)<;>refine gh ?_
 ·omega
 refine GX.da (DC S.now t _) rfl rfl rfl rfl rfl rfl (gh ?_);refine GX.dC (h:=fun w hH=>gh ?_);refine GX.dC (h:=fun w hH=>gh ?_);exact⟨rfl,(vl (S:=S.next t) (T:=T) hH (hT.next t ht (by simp only[never];omega))).to⟩
theorem XU {s:Nat}{S:bW}(t:Nat)(ht:t≤never)(hl:S.last<2^40)(hs:Start o w [dB s S]):aj prog 180 [ak s,uV t].toArray w (Po o (.tuple #[uV (S.last+1:Nat),iV 0]) [dB s (S.next t)]):=by
 have hH:=hs.sh;refine aj.enter func180 rfl ntmps180 rfl (gh ?_);refine GX.aM (hc:=fun _ hs=>AR hs) (h:=fun w hE hH=>gh ?_);refine GX.bF (hc:=fun _ hs=>O' t ht hl hs) (h:=fun w hH=>gh ?_);exact⟨rfl,hH.to⟩
theorem SH.Dk {κ ν:Type}[DecidableEq κ]{f:κ×ν→List It}{M:List (κ×ν)}{o:Og}{w:World}{l r:List It}(k:κ)(hH:SH o w l)(hs:az (bJ (bS f M)) l r:=by repeat(first|exact az.here|apply az.there)):SH o w (bJ (bS f (bB M k))::r):=by
 cases hm:ay M k with
 |none=>rw[agR hm];exact hH.perm hs.perm
 |some v=>exact SH.La (SH.rK (f (k,v)) _ hH (pq hm) hs)
theorem ajC {s:Nat}{S:bW}(n:Nat)(hn:n<65536)(t:Nat)(ht:t≤never)(hl:S.last<2^40)(hs:Start o w [dB s S]):aj prog 182 [ak s,iV n,uV t].toArray w (Po o (.tuple #[uV (S.last+1:Nat),iV 0]) [dB s ((S.next t).set n ⟨S.last+1,[]⟩)]):=by
 have hH:=hs.sh;refine aj.enter func182 rfl ntmps182 rfl (gh ?_);refine GX.aM (hc:=fun _ hs=>FT n hn hs) (h:=fun w hE hH=>gh ?_);refine GX.bF (hc:=fun _ hs=>O' t ht hl hs) (h:=fun w hH=>gh ?_);obtain⟨⟨⟨b,T⟩,hT⟩,hH⟩:=SH.un hH;replace hH:=SH.ap hH;dsimp only at hH;refine gh ?_;refine GX.cI (h:=fun p w hH=>gh ?_);refine GX.Fy (v:=((p,⟨S.last+1,[]⟩):Nat×Pu)) (h:=fun w hH=>gh ?_);have aQ:=sI (u:=⟨S.last+1,[]⟩) hH.JH;have cH:=aQ.Dk (n:Int);have js:=SH.iI [tN p ⟨S.last+1,[]⟩] _ cH (by repeat(first|exact Pk.nil|(apply Pk.cons;repeat(first|exact az.here|apply az.there)))) (FG (f:=ig) (M:=T) (k:=(n:Int)) (v:=((p,⟨S.last+1,[]⟩):Nat×Pu)));exact⟨rfl,(vl js (hT.set n p hn (u:=⟨S.last+1,[]⟩) (aY _) (bh _) (fun _ h=>by cases h))).to⟩
theorem gJ.del {S:bW}{T:kI}(h:gJ S T)(n:Nat):gJ (S.set n ⟨0,[]⟩) (bB T (n:Int)):=
 ⟨h.nd.sublist ((xm T _).map _),fun k v hv=>by
  rw[iS h.nd] at hv;split at hv
  ·cases hv
  ·exact h.key k v hv,h.g,h.l,h.nw,fun k v hv=>by
  rw[iS h.nd] at hv;split at hv
  ·cases hv
  ·exact h.bd k v hv,fun m=>by
  rw[iS h.nd];simp only[bW.set]
  by_cases e:m=n
  ·rw[if_pos e,if_pos ah];rfl
  ·rw[if_neg e,if_neg ah];exact h.of m⟩
theorem ajA {s:Nat}{S:bW}(n:Nat)(hn:n<65536)(hs:Start o w [dB s S]):aj prog 136 [ak s,iV n].toArray w (aX o (fun e:Int=>iV e) (fun _=>True) (fun _=>[dB s (S.set n ⟨0,[]⟩)])):=by
 have hH:=hs.sh;refine aj.enter func136 rfl ntmps136 rfl (gh ?_);refine GX.aM (hc:=fun _ hs=>FT n hn hs) (h:=fun w hE hH=>gh ?_);obtain⟨⟨⟨b,T⟩,hT⟩,hH⟩:=SH.un hH;replace hH:=SH.ap hH;dsimp only at hH;refine gh ?_;have tB:=hT.of n;cases hm:ay T (n:Int) with
 |none=>
  rw[hm] at tB;refine GX.mN (hV:=show jA me _ false _ = .pointer none from by rw[hm];rfl) (h:=gh ?_);have e:S.set n ⟨0,[]⟩=S:=by
   have:=bW.J9 (hT.JF n);rw[tB] at this;exact this
  rw[e];exact⟨9,rfl,trivial,(vl hH hT).to⟩
 |some pu=>
  obtain⟨p,u⟩:=pu;refine GX.mN (hV:=show jA me _ false _=ak p from by rw[hm];rfl) (h:=gh ?_);refine GX.Jt (h:=fun w hH=>gh ?_);have aQ:=hH.Dk (n:Int);exact⟨0,rfl,trivial,(vl aQ (hT.del n)).to⟩
theorem XN {s:Nat}{S:bW}(n:Nat)(hn:n<65536)(hl:S.last<2^40)(hs:Start o w [dB s S]):aj prog 241 [ak s,iV n].toArray w
  (aX o (fun y:Option Nat×Nat => .tuple #[.agg #[iV n,uV (S.A n).jv, .slice (aA y.1) (S.A n).soft.length y.2],iV 0]) (fun _=>True) (fun y=>[dB s S,aq 264 2 y.1 (S.A n).soft.length y.2 (aL fv (S.A n).soft)])):=by
 have hH:=hs.sh;obtain⟨T0,o4⟩:=Kf hH;obtain⟨d1,d2,d3⟩:=o4.GR n;have qZ:=o4.JF n;refine aj.enter func241 rfl ntmps241 rfl (gh ?_);refine GX.cA (h:=fun z w hH=>gh ?_);refine GX.aM (hc:=fun _ hs=>FT n hn hs) (h:=fun w hE hH=>gh ?_);refine GX.bZ (hc:=fun _ hs=>Lo n hl hs) (h:=?_);rintro(_|p) w hr hH
 ·have e:=hr rfl;dsimp only at hH;replace hH:=SH.ap hH;refine gh ?_;refine GX.bt (h:=fun w hH=>gh ?_);have aQ:=SH.cF (el:=264) (sz:=2) (q:=none) (n:=0) (c:=0) (cs:=[]) hH (Mod.refl w) (fun _ h=>by cases h) (aH.nil _ _ _);refine⟨(none,0),?_,trivial,?_⟩
  ·rw[e];rfl
  ·rw[e];exact aQ.to
 ·dsimp only at hH;replace hH:=SH.ap hH;refine gh ?_;obtain⟨⟨a,c⟩,hH⟩:=SH.un hH;replace hH:=SH.ap hH;dsimp only at hH;refine gh ?_;refine GC.br (pl:=(bg [0,3,6,9,15,18,21,13,25,29,30,35,36])) (T:=fun _=>False) (hm:=mixed) (h:=fun w hE hH=>gh ?_);refine GX.eG (hc:=fun _ hs=>QG (cs:=aL fv (S.A n).soft) ah (gT xf _) (fun h=>hH.OC (live:=aL fv (S.A n).soft) (ha:=h)) (FO XD _) hs) (h:=?_);rintro⟨q3,c3⟩ w _ HP hH;replace hH:=SH.ap hH;refine gh ?_;refine GX.Ki (h:=fun w hH=>gh ?_);have aQ:=FZ (sI (u:=S.A n) hH) hn d1 d2 d3;rw[bW.J9 qZ] at aQ;exact⟨(q3,c3),rfl,trivial,aQ.to⟩
def qG (l:List (Nat×Nat))(since:Nat):Option Nat:=(l.find? fun x=>decide (since<x.1)).map (·.2)
theorem Rh {since:Nat}:∀{l:List (Nat×Nat)}{k:Nat}{x:Nat×Nat},l[k]?=some x→(∀j y,j<k→l[j]?=some y→y.1≤since)→since<x.1→qG l since=some x.2
 | [],_,_,h,_,_=>by simp at h
 |y::l,0,x,h,_,hx=>by simp at h;subst h;simp[qG,hx]
 |y::l,k+1,x,h,bz,hx=>by
  have h0:=bz 0 y ah rfl;have:=Rh (l:=l) (k:=k) (by simpa using h) (fun j z hj hz=>bz (j+1) z ah (by simpa using hz)) hx;unfold qG at this ⊢;rw[List.find?_cons_of_neg (by simp;omega)];exact this
theorem abJ {l:List (Nat×Nat)}{since:Nat}(h:∀x∈l,x.1≤since):qG l since=none:=by
 unfold qG;rw[List.find?_eq_none.2 fun x hx=>by simpa using h x hx];rfl
theorem ajz {s:Nat}{S:bW}(n since:Nat)(hn:n<65536)(hl:S.last<2^40)(hs:Start o w [dB s S]):aj prog 242 [ak s,iV n,uV since].toArray w
  (Po o (.tuple #[uV ((qG (S.A n).soft since).getD 0:Nat), .bool (qG (S.A n).soft since).isSome,iV 0]) [dB s S]):=by
 have hH:=hs.sh;obtain⟨T0,o4⟩:=Kf hH;obtain⟨d1,d2,d3⟩:=o4.GR n;have qZ:=o4.JF n;refine aj.enter func242 rfl ntmps242 rfl (gh ?_);refine GX.aM (hc:=fun _ hs=>FT n hn hs) (h:=fun w hE hH=>gh ?_);refine GX.bZ (hc:=fun _ hs=>Lo n hl hs) (h:=?_);rintro(_|p) w hr hH
 ·have e:=hr rfl;dsimp only at hH;replace hH:=SH.ap hH;refine gh ?_;rw[e];exact⟨rfl,hH.to⟩
 ·dsimp only at hH;replace hH:=SH.ap hH;refine gh ?_;obtain⟨⟨a,c⟩,hH⟩:=SH.un hH;replace hH:=SH.ap hH;dsimp only at hH;refine gh ?_;have fin:∀{w:World},SH o w [aB p [uV (S.A n).jv, .slice a (S.A n).soft.length c],fZ 264 2 a (S.A n).soft.length c (aL fv (S.A n).soft),AT s S n p]→SH o w [dB s S]:=fun hH=>by
   have aQ:=FZ (sI (u:=S.A n) hH) hn d1 d2 d3;rw[bW.J9 qZ] at aQ;exact aQ
  generalize IZ:(S.A n).soft=sf at d2 fin hH ⊢;refine GC.bR [2,27,28] (fun k:Nat=>[(29,iV k)]) (fun k w'=>k≤sf.length∧(∀j x,j<k→sf[j]?=some x→x.1≤since)∧SH o w' [aB p [uV (S.A n).jv, .slice a sf.length c],fZ 264 2 a sf.length c (aL fv sf),AT s S n p]) (fun k=>sf.length - k) 0 rfl rfl ⟨bh _,fun j x h=>by omega,hH.to⟩ ?_;rintro k w ⟨hk,bz,hH⟩;refine gh ?_;refine ifs (fun h1=>?_) (fun h1=>?_)<;>refine gh ?_
  ·have cV:k<sf.length:=by omega
   obtain⟨q,kk,pre,rfl,nk,hH⟩:=hH.JI (live:=aL fv sf) (n:=sf.length) ah;have qR:((pre++aL fv sf).drop (kk*2+k*2)).take 2=fv sf[k]:=by
    rw[List.drop_append,mm ah,kC,nk,C4];exact ku xf (bO cV)
   refine gh ?_;refine GX.next rfl (GO.kg (hv:=qR) (h:=gh ?_));refine GX.cA (h:=fun z w hH=>gh ?_);refine GX.bt (h:=fun w hH=>gh ?_);replace hH:=hH.Cz (n:=sf.length) (c:=c) (live:=aL fv sf) nk;refine ifs (fun h2=>?_) (fun h2=>?_)<;>refine gh ?_
   ·refine⟨?_,(fin hH.to).to⟩;rw[Rh (bO cV) bz ah];rfl
   ·exact GQ.bj (k+1) rfl ⟨cV,fun j x hj hx=>by
     rcases qz j k with h3|h3
     ·exact bz j x h3 hx
     ·obtain rfl:j=k:=by omega
      rw[bO cV] at hx;cases hx;omega,hH.to⟩ ah
  ·refine gh ?_;refine⟨?_,(fin hH).to⟩;rw[abJ fun x hx=>by
    obtain⟨j,hj⟩:=List.mem_iff_getElem?.1 hx;have:=(aV.1 hj).1;exact bz j x ah hj]
   rfl
theorem Wn {g now:Nat}:∀(l:List (Nat×Nat)) (h:Nat),(pk g now l h).soft.length≤l.length
 | [],_=>aY _
 |x::r,h=>by
  simp only[pk];split
  ·exact ua (Wn r _)
  ·exact aY _
theorem agS {κ ν:Type}[DecidableEq κ](M:List (κ×ν))(k:κ)(v:ν):bB (bC M k v) k=bB M k:=by
 induction M with
 |nil=>simp[bC,bB]
 |cons x M ih=>
  obtain⟨a,u⟩:=x;simp only[bC];split
  ·rename_i e;subst e;simp[bB]
  ·rename_i e;simp[bB,e,ih]
def rv (l:List (Nat×Nat))(x:Nat×Nat):List (Nat×Nat):=if(l.getLast?.map (·.2))=some x.2 then l.dropLast++[x] else l++[x]
theorem SH.Jy {l t:List It}{b sz n c:Nat}{ca live:List Value}{el:TypeId}{a:Option Addr}(h:SH o w l)(hp:Pk l [aB b ca,fZ el sz a n c live] t:=by repeat(first|exact Pk.nil|(apply Pk.cons;repeat(first|exact az.here|apply az.there)))):¬∃y,a=some y∧y.block=b:=by
 have h1:SH o w (aB b ca::fZ el sz a n c live::t):=h.perm hp.perm;obtain⟨x,hx⟩:=SH.un (f:=fun x:kH sz a n c live=>x.dS el) h1 (.there .here);rintro⟨y,hy,e⟩;cases x with
 |nil=>cases hy
 |dead b' off N C cs=>
  cases hy;have hx:SH o w (aq el sz (some b') N C cs::aB b ca::t):=hx;exact(hx.tI (b:=b) (q:=some b'):some b≠some b') (congrArg some e.symm)
 |on b' k n c pre live hk=>
  cases hy;have hx:SH o w (aq el sz (some b') (k+n) (k+c) (pre++live)::aB b ca::t):=hx;exact(hx.tI (b:=b) (q:=some b'):some b≠some b') (congrArg some e.symm)
theorem afn {α:Type}{f:α→List Value}{z m:Nat}(hz:∀x,(f x).length=z)(pre:List Value)(l:List α)(x y:α)(h:m=(pre++aL f l).length):(pre++aL f (l++[x])).take m++f y++(pre++aL f (l++[x])).drop (m+(f y).length)=pre++aL f (l++[y]):=by
 rw[lH,lH,←cS,←cS,h,vx,mm,fB];rw[bH,hz,hz];exact aY _
theorem ak9 {l r:List It}{s n p:Nat}{S:bW}(hH:SH o w l)(hs:az (AT s S n p) l r:=by repeat(first|exact az.here|apply az.there)):∃b T u,gJ S T∧ay T (n:Int)=some (p,u)∧SH o w (aB s [uV S.dK,uV S.now,uV S.last, .map (some b)]::aS b iV me T::bJ (bS ig (bB T (n:Int)))::r):=by
 obtain⟨⟨⟨b,T⟩,hT,u,hu⟩,aQ⟩:=SH.un (f:=fun y:{ y:Nat×kI // gJ S y.2∧∃u,ay y.2 (n:Int)=some (p,u)}=>[aB s [uV S.dK,uV S.now,uV S.last, .map (some y.1.1)],aS y.1.1 iV me y.1.2,bJ (bS ig (bB y.1.2 (n:Int)))]) hH hs;exact⟨b,T,u,hT,hu,aQ⟩
theorem ak2 {s:Nat}{S:bW}(n:Nat)(hn:n<65536)(t:Nat)(ht:t≤never)(hl:S.last+1<2^40)(hs:Start o w [dB s S]):aj prog 181 [ak s,iV n,uV t].toArray w (Po o (.tuple #[uV (S.last+1:Nat),iV 0]) [dB s ((S.next t).set n ⟨((S.next t).A n).jv,rv ((S.next t).A n).soft (S.last+1,(S.next t).now)⟩)]):=by
 have hH:=hs.sh;obtain⟨T0,o4⟩:=Kf hH;have ju:=o4.next t ht (by simp only[never];omega);obtain⟨d1,d2,d3⟩:=ju.GR n;have d4:((S.next t).A n).soft.length≤S.last:=by
  obtain⟨_,h2,_⟩:=o4.GR n;exact dF (Wn _ _) h2
 have qZ:=ju.JF n;have rW:S.last<2^40:=by omega
 have jf:(S.next t).last<2^40:=hl;refine aj.enter func181 rfl ntmps181 rfl (gh ?_);refine GX.aM (hc:=fun _ hs=>FT n hn hs) (h:=fun w hE hH=>gh ?_);refine GX.bF (hc:=fun _ hs=>O' t ht rW hs) (h:=fun w hH=>gh ?_);refine GX.bZ (hc:=fun _ hs=>Lo n jf hs) (h:=?_);rintro(_|p) w hr hH<;>dsimp only at hH<;>replace hH:=SH.ap hH<;>refine gh ?_
 case' none=>
  have e:=hr rfl;obtain⟨⟨⟨b,T⟩,hT⟩,hH⟩:=SH.un hH;replace hH:=SH.ap hH;dsimp only at hH;refine gh ?_;refine GX.cI (h:=fun p w hH=>gh ?_);refine GX.Fy (v:=((p,⟨0,[]⟩):Nat×Pu)) (h:=fun w hH=>gh ?_);have aQ:=sI (u:=⟨0,[]⟩) hH.JH;have cH:=aQ.Dk (n:Int);have nX:=hT.set n p hn (u:=⟨0,[]⟩) (bh _) (bh _) (fun _ h=>(by cases h));rw[show(S.next t).set n ⟨0,[]⟩=S.next t by rw[←e];exact bW.J9 qZ] at nX;rw[←agS T (n:Int) ((p,⟨0,[]⟩):Nat×Pu)] at cH;have js:=CT (S:=S.next t) (n:=n) (p:=p) (u:=⟨0,[]⟩) cH nX (by rw[kU,if_pos rfl]);rw[←e] at js;replace hH:=js.perm (List.Perm.swap _ _ _);clear aQ cH js
 all_goals
  generalize hA:(S.next t).A n=A at hH d1 d2 d3 d4 qZ ⊢;obtain⟨hd,sf⟩:=A;simp only at d1 d2 d3 d4;obtain⟨⟨a,c⟩,hH⟩:=SH.un hH;replace hH:=SH.ap hH;dsimp only at hH;obtain⟨b',T',u0,nX,B9,hH⟩:=ak9 hH;have tw:∀l y,y=(S.last+1,(S.next t).now)→∀z∈(l:List (Nat×Nat))++[y],(z∈l→z∈sf)→z.1≤(S.next t).last∧z.2≤never:=fun l y hy z hz hs=>by
   rcases cx.1 hz with h|h
   ·exact d3 z (hs h)
   ·simp at h;subst h hy;exact⟨aY _,nX.nw⟩
  have h3:sf=[]∨∃l x,sf=l++[x]:=by
   rcases List.eq_nil_or_concat sf with h|⟨l,x,h⟩
   ·exact .inl h
   ·exact .inr ⟨l,x,by simpa using h⟩
  rcases h3 with rfl|⟨l,x,rfl⟩
  ·refine gh ?_;refine GX.cA (h:=fun z w hH=>gh ?_);refine GX.bt (h:=fun w hH=>gh ?_);refine GC.br (pl:=(bg [0,3,6,9,12,15,21,24,36,39,42,19,27,30,34,46,48,51])) (T:=fun _=>False) (hm:=mixed) (h:=fun w hE hH=>gh ?_);have hnp:=hH.Jy (b:=p) (live:=aL fv []);have ER:=hH.Jy (b:=z) (live:=aL fv []);refine GC.br (pl:=(bg [0,3,6,9,13,16,20,23,24,27,32])) (T:=fun k=>∃y,a=some y∧y.block=k) (hm:=mixed) (h:=fun w hE hH=>gh ?_);refine GX.P5 (h1:=by simp[Value.oneCell']) (hT:=by intro x h;exact⟨x,h,rfl⟩) (h:=fun a c w _ hH=>gh ?_);refine GX.fO (h:=fun w hH=>gh ?_);refine⟨rfl,?_⟩;have aQ:=sI (u:=⟨hd,([]:List (Nat×Nat))++[(S.last+1,(S.next t).now)]⟩) hH (e1:=by simp) (e2:=by first|rfl|exact(lH _ _).symm);have cH:=FZ (u:=⟨hd,([]:List (Nat×Nat))++[(S.last+1,(S.next t).now)]⟩) (CT (p:=p) aQ nX B9) hn d1 (by simp only[bH,gW];exact Nat.succ_le_succ d4) (fun z hz=>tw _ _ rfl z hz id);rw[show rv ([]:List (Nat×Nat)) (S.last+1,(S.next t).now)=([]:List (Nat×Nat))++[(S.last+1,(S.next t).now)] by
    unfold rv;rw[if_neg (by simp)]]
   exact cH.to
  ·obtain⟨q,kk,pre,rfl,nk,hH⟩:=hH.JI (live:=aL fv (l++[x])) (n:=(l++[x]).length) (by simp);have fE:(pre++aL fv (l++[x]))[kk*2+(l.length*2+1)]?=some (uV x.2):=by
    rw[iD ah,nk,C4];exact mS xf (i:=l.length) (x:=x) (by simp) rfl
   have jy:(pre++aL fv l).length=kk*2+l.length*2:=by rw[bH,nk,gT xf]
   have adX:(pre++aL fv (l++[x])).length=kk*2+(l.length+1)*2:=by rw[bH,nk,gT xf];simp
   have j9:pre.length+(aL fv (l++[x])).length=(kk+(l++[x]).length)*2:=by rw[nk,gT xf,jm]
   refine gh ?_;refine GX.cA (h:=fun z w hH=>gh ?_);refine GX.bt (h:=fun w hH=>gh ?_);refine GC.br (pl:=(bg [0,3,6,9,12,15,21,24,36,39,42,19,27,30,34,46,48,51])) (T:=fun _=>False) (hm:=mixed) (h:=fun w hE hH=>gh ?_);refine ifs (fun h1=>?_) (fun h1=>?_)<;>refine gh ?_
   ·rw[show(((l++[x]).length:Nat):Int) - 1=(l.length:Int) by simp];refine gh ?_;refine GX.read rfl (GO.lC (hv:=fE) (h:=gh ?_));refine ifs (fun h2=>?_) (fun h2=>?_)<;>refine gh ?_
    ·refine GC.br (pl:=(bg [0,3,6,12,15,10,19,21,26])) (T:=fun _=>False) (hm:=mixed) (h:=fun w hE hH=>gh ?_);refine GX.gU (hb:=by rw[xf,adX];simp;omega) (hc:=show _=pre++aL fv (l++[(S.last+1,(S.next t).now)]) from afn xf pre l x (S.last+1,(S.next t).now) (by rw[jy];simp)) (h:=fun w hH=>gh ?_);refine⟨rfl,?_⟩;have aQ:=sI (u:=⟨hd,l++[(S.last+1,(S.next t).now)]⟩) (hH.Cz (n:=(l++[x]).length) (c:=c) (live:=aL fv (l++[(S.last+1,(S.next t).now)])) nk) (e1:=by simp);have cH:=FZ (u:=⟨hd,l++[(S.last+1,(S.next t).now)]⟩) (CT (p:=p) aQ nX B9) hn d1 (by simpa using d2) (fun z hz=>tw l _ rfl z hz fun h=>tZ _ h);rw[show rv (l++[x]) (S.last+1,(S.next t).now)=l++[(S.last+1,(S.next t).now)] by
      unfold rv;rw[if_pos (by simp;omega)];simp]
     exact cH.to
    ·replace hH:=hH.Cz (n:=(l++[x]).length) (c:=c) (live:=aL fv (l++[x])) nk;have hnp:=hH.Jy (b:=p) (live:=aL fv (l++[x]));have ER:=hH.Jy (b:=z) (live:=aL fv (l++[x]));refine GC.br (pl:=(bg [0,3,6,9,13,16,20,23,24,27,32])) (T:=fun k=>∃y,some (⟨q,kk*2,none⟩:Addr)=some y∧y.block=k) (hm:=mixed) (h:=fun w hE hH=>gh ?_);refine GX.P5 (h1:=by simp[Value.oneCell']) (hT:=by intro x h;exact⟨x,h,rfl⟩) (h:=fun a c w _ hH=>gh ?_);refine GX.fO (h:=fun w hH=>gh ?_);refine⟨rfl,?_⟩;have aQ:=sI (u:=⟨hd,(l++[x])++[(S.last+1,(S.next t).now)]⟩) hH (e1:=by simp) (e2:=by first|rfl|exact(lH (f:=fv) (l++[x]) (S.last+1,(S.next t).now)).symm);have cH:=FZ (u:=⟨hd,(l++[x])++[(S.last+1,(S.next t).now)]⟩) (CT (p:=p) aQ nX B9) hn d1 (by simp only[bH,gW] at d4 ⊢;exact Nat.succ_le_succ d4) (fun z hz=>tw _ _ rfl z hz id);rw[show rv (l++[x]) (S.last+1,(S.next t).now)=(l++[x])++[(S.last+1,(S.next t).now)] by
      unfold rv;rw[if_neg (by simp;omega)]]
     exact cH.to
   ·simp at h1
end Go.Proofs.YtoloaehmppcjoaaGreat.V.M
