/-
  Parts of the proof. No condition.
-/
import Derived.Test.YtoloaehmppcjoaaGreatW2bx
import Derived.Test.YtoloaehmppcjoaaGreatRows
import Derived.WalkKit
import Derived.ProofKit
import Derived.OpenShut
import Derived.ShutString
import Derived.ChangeOld
import Derived.Below
import Derived.SliceStrings
import Derived.Deep.Slices
import Derived.Test.YtoloaehmppcjoaaGreatProg
import Derived.JoinedOf
set_option linter.unusedVariables false
set_option linter.unusedSimpArgs false
set_option maxRecDepth 8000
set_option maxHeartbeats 8000000
namespace Go.Proofs.YtoloaehmppcjoaaGreat.V
section
open Go.ChangeShapes Go.WideShapes Go.ChangeAt Go.RowKit Go.Proofs.YtoloaehmppcjoaaGreat.V.M
def qC (w:World)(a:Option Addr)(cs:List Value):Prop:=bN w a cs∧(cs≠[]→∀x,a=some x→x.block<w.heap.size)
theorem qC.fz {w:World}{a:Option Addr}{cs:List Value}(h:qC w a cs):(aF a cs).ok w (fun b=>b<w.heap.size) (fun _=>False):=⟨h.1,h.2,rfl⟩
theorem qC.nil (w:World):qC w none []:=⟨rfl,fun h=>absurd rfl h⟩
theorem Xu {w:World}{Z:Nat→Prop}:∀{l:List It},(∀x∈l,x.ok w Z fun _=>False)→Sep w Z l fun _=>False
 | [],_=>rfl
 |x::l,h=>⟨fun _=>False,fun _=>False,by funext b;simp,fun _ h=>h.elim,h x (oK),Xu fun y hy=>h y (fP _ hy)⟩
theorem ala {w:World}{l:List It}(h:∀x∈l,x.ok w (fun b=>b<w.heap.size) fun _=>False):M.Start ⟨w,fun b=>b<w.heap.size,fun _=>False⟩ w l:=
 ⟨rfl,Xu h,fun _ h=>h.elim,fun _ h=>h⟩
section
variable {H:Type}{enc:TypeId×Value→H}{P:Program}{W:World}{fuel:Nat}
abbrev sT (enc:TypeId×Value→H)(P:Program)(W:World)(fuel:Nat)(t:TypeId)(cs:List Value):Option (DataW H×List MemPlace):=DataW.trod enc P W 0 (fun _=>true) true fuel t cs
def Hw (P:Program)(t i:Nat):Option Field:=match P.underlying t with|some (.struct fs)=>fs[i]?|_=>none
def Re (P:Program)(t i:Nat):Option (Nat×TypeDesc):=
 match Hw P t i with
 |some f=>if P.cellsOf f.type=1 then(P.underlying f.type).map (f.offset,·) else none
 |none=>none
theorem abB {t i:Nat}{f:Field}(h:Hw P t i=some f):∃fs,P.underlying t=some (.struct fs)∧fs[i]?=some f:=by
 unfold Hw at h;split at h
 ·rename_i fs Ij;exact⟨fs,Ij,h⟩
 ·cases h
theorem alT {t i:Nat}{f:Field}{cs:List Value}{x:DataW H×List MemPlace}(hf:Hw P t i=some f)(h:sT enc P W fuel t cs=some x) :
  ∃n y,sT enc P W n f.type ((cs.drop f.offset).take (P.cellsOf f.type))=some y:=by
 obtain⟨fs,h1,h2⟩:=abB hf;obtain⟨xs,n,_,_,_,hl,hx⟩:=DataW.trod_struct h1 h;have hi:i<xs.length:=by rw[hl];exact(rA.1 h2).1
 exact⟨n,xs[i],(hx i f h2).trans (bO hi)⟩
theorem Yk {t i o:Nat}{d:TypeDesc}{cs:List Value}{x:DataW H×List MemPlace}(hf:Re P t i=some (o,d))(h:sT enc P W fuel t cs=some x) :
  ∃n y ty,P.underlying ty=some d∧sT enc P W n ty ((cs.drop o).take 1)=some y:=by
 unfold Re at hf;split at hf
 ·rename_i f uC
  split at hf
  ·rename_i hc
   obtain⟨n,y,hy⟩:=alT uC h;cases hu:P.underlying f.type with
   |none=>rw[hu] at hf;cases hf
   |some d'=>
    rw[hu] at hf;simp at hf;obtain⟨h1,h2⟩:=hf;subst h1 h2;rw[hc] at hy;exact⟨n,y,f.type,hu,hy⟩
  ·cases hf
 ·cases hf
theorem Z7 {w:World}{a:Addr}{v:Value}(h:w.cell? a=some v):a.spot=none:=by
 unfold World.cell? at h;split at h
 ·split at h
  ·cases h
  ·rename_i hs;simpa using hs
 ·cases h
theorem NJ {w:World}{a:Addr}{cs:List Value}(h:∀i v,cs[i]?=some v→w.cell? (a.add i)=some v):qC w (some a) cs:=by
 cases cs with
 |nil=>exact⟨bN.empty _ _,fun h=>absurd rfl h⟩
 |cons c r=>
  have h0:=h 0 c rfl;have e0:a.add 0=a:=by simp[Addr.add]
  rw[e0] at h0;have fW:=Z7 h0;obtain⟨b,o,sp⟩:=a;dsimp only at fW;subst fW;exact⟨fun i v hv=>by have:=h i v hv;rwa [iY] at this,fun _ x hx=>by cases hx;exact block_lt_of_cell h0⟩
theorem ZF {n:Int}(h:(Lit.int .u8 n).wf=true):K0 (UInt8.ofNat n.toNat) = .int .u8 n:=by
 have hx:0≤n∧n≤255:=by simpa[Lit.wf,IntKind.min,IntKind.max,IntKind.signed,IntKind.bits] using h
 unfold K0;congr 1;have:(UInt8.ofNat n.toNat).toNat=n.toNat:=by simp[UInt8.toNat_ofNat];omega
 omega
theorem ahz {t e:TypeId}{v:Value}{x:DataW H×List MemPlace}(ht:P.underlying t=some (.slice e))(he:P.underlying e=some (.int .u8))(hc:P.cellsOf e=1)
  (h:sT enc P W fuel t [v]=some x):∃a c,∃l:List UInt8,v = .slice a l.length c∧qC W a (Lib.byteCells l)∧(a=none→l.length=0):=by
 rcases open_ints ht he hc h with⟨hv,_⟩|⟨a,len,cap,zs,hv,_,hl,hm,hz,_,Eh,hwz⟩
 ·simp at hv;subst hv;exact⟨none,0,[],rfl,qC.nil _,fun _=>rfl⟩
 ·simp at hv;subst hv;simp at hz;have key:qC W (some a) (zk ((zs.take len).map fun n=>UInt8.ofNat n.toNat)):=NJ fun i v hv=>by
   simp only[zk,nK,gG,y5] at hv;obtain⟨n,hn,rfl⟩:=hv;rw[vy] at hn;split at hn
   ·have hi:=(aV.1 hn).1;rw[Eh i hi,Function.comp];rw[ZF (hwz n (bD hn))];simp[List.getD,hn]
   ·cases hn
  exact⟨some a,cap,(zs.take len).map fun(n:Int)=>UInt8.ofNat n.toNat,by simp[hz,pC hl],key,fun h=>by cases h⟩
theorem X5 (s:ByteArray):str s.data.toList = .string s:=by
 cases s;rfl
theorem ahE {t e:TypeId}{v:Value}{x:DataW H×List MemPlace}(ht:P.underlying t=some (.slice e))(he:P.underlying e=some .string)(hc:P.cellsOf e=1)
  (h:sT enc P W fuel t [v]=some x):∃a c,∃l:List Bs,v = .slice a l.length c∧qC W a (aK l):=by
 rcases open_strings ht he hc h with⟨hv,_⟩|⟨a,len,cap,ss,hv,_,hl,hm,hz,_,Eh,hws⟩
 ·simp at hv;subst hv;exact⟨none,0,[],rfl,qC.nil _⟩
 ·simp at hv;subst hv;simp at hz;have key:qC W (some a) (aK ((ss.take len).map fun s=>s.data.toList)):=NJ fun i v hv=>by
   simp only[aK,nK,gG,y5] at hv;obtain⟨n,hn,rfl⟩:=hv;rw[vy] at hn;split at hn
   ·have hi:=(aV.1 hn).1;rw[Eh i hi,Function.comp,X5];simp[List.getD,hn]
   ·cases hn
  exact⟨some a,cap,(ss.take len).map fun s=>s.data.toList,by simp[hz,pC hl],key⟩
theorem ahD {t:TypeId}{v:Value}{x:DataW H×List MemPlace}(ht:P.underlying t=some .string)(h:sT enc P W fuel t [v]=some x):∃l,v=str l:=by
 obtain⟨s,hv,_,_⟩:=DataW.trod_string ht h;simp at hv;subst hv;exact⟨s.data.toList,(X5 s).symm⟩
theorem ahA {t:TypeId}{v:Value}{x:DataW H×List MemPlace}(ht:P.underlying t=some (.int .i64))(h:sT enc P W fuel t [v]=some x):∃n:Int,v = .int .i64 n∧-9223372036854775808≤n∧n<9223372036854775808:=by
 obtain⟨n,hv,_,hw⟩:=DataW.trod_int ht h;have hx:-9223372036854775808≤n∧n≤9223372036854775807:=by simpa[Lit.wf,IntKind.min,IntKind.max,IntKind.signed,IntKind.bits] using hw
 simp at hv;subst hv;exact⟨n,rfl,by omega,by omega⟩
theorem VS {α β:Type}{f:α→Option β}:∀{l:List α}{r:List β},l.mapM f=some r→r.length=l.length
 | [],r,h=>by simp at h;subst h;rfl
 |x::l,r,h=>by
  rw[List.mapM_cons] at h;simp only[Option.bind_eq_bind,Option.bind_eq_some_iff,Option.pure_def,mU] at h;obtain⟨y,_,ys,hys,rfl⟩:=h;simp[VS hys]
theorem Z9 {w:World}{base:Nat}{a:Addr}{n:Nat}{cs:List Value}(h:w.cells? base a n=some cs):cs.length=n∧∀i v,cs[i]?=some v→w.cell? (a.add i)=some v:=by
 unfold World.cells? at h;split at h
 ·have hm:=fun i (hi:i<n)=>mapM_some_get h i i (by simp[hi])
  have hl:cs.length=n:=by
   have:=VS h;simpa using this
  refine⟨hl,fun i v hv=>?_⟩;have hi:i<n:=by have:=(aV.1 hv).1;omega
  rw[hm i hi,hv]
 ·cases h
theorem W6 {α:Type}{f:α→List Value}{z:Nat}(hz:∀x,(f x).length=z):∀{L:List α}{i:Nat}{v:Value},(aL f L)[i]?=some v→∃j k x,i=j*z+k∧k<z∧L[j]?=some x∧(f x)[k]?=some v
 | [],i,v,h=>by simp[aL] at h
 |x::L,i,v,h=>by
  have e:aL f (x::L)=f x++aL f L:=by simp[aL]
  rw[e] at h
  by_cases hi:i<z
  ·rw[gp (by rw[hz];exact hi)] at h;exact⟨0,i,x,by omega,hi,rfl,h⟩
  ·rw[iD (by rw[hz];omega),hz] at h;obtain⟨j,k,y,h1,h2,h3,h4⟩:=W6 hz h;exact⟨j+1,k,y,by rw[jm];omega,h2,h3,h4⟩
theorem ahC {α:Type}[Inhabited α]{f:α→List Value}{z:Nat}(hz:∀x,(f x).length=z){R:α→Prop}{t e:TypeId}{v:Value}{x:DataW H×List MemPlace}(ht:P.underlying t=some (.slice e))(hc:P.cellsOf e=z)
  (he:∀n cs y,cs.length=z→sT enc P W n e cs=some y→∃a,cs=f a∧R a)
  (h:sT enc P W fuel t [v]=some x):∃a c L,v = .slice a L.length c∧qC W a (aL f L)∧∀x∈L,R x:=by
 rcases Go.Deep.open_slice ht h with⟨hv,_⟩|⟨a,len,cap,m,n,D,Pl,hv,_,hl,hm,EF,_,hx⟩
 ·simp at hv;subst hv;exact⟨none,0,[],rfl,qC.nil _,by simp⟩
 ·simp at hv;subst hv;simp at EF;rw[hc] at hx;have sk:∀i,i<len→∃p:α,R p∧∀k v,(f p)[k]?=some v→W.cell? (a.add (i*z+k))=some v:=fun i hi=>by
   obtain⟨cs,h1,h2⟩:=hx i ah;obtain⟨hlen,Eh⟩:=Z9 h1;obtain⟨p,rfl,hR⟩:=he _ _ _ hlen h2;refine⟨p,hR,fun k v hv=>?_⟩;have:=Eh k v hv;rwa [Go.Deep.add_add] at this
  obtain⟨g,hg⟩:=Go.Deep.choose_lt (p:=fun i (p:α)=>R p∧∀k v,(f p)[k]?=some v→W.cell? (a.add (i*z+k))=some v) sk;refine⟨some a,cap,(List.range len).map g,by simp,NJ fun i v hv=>?_,fun x hx=>?_⟩
  ·obtain⟨j,k,y,rfl,hk,hj,Ai⟩:=W6 hz hv;simp only[gG,y5] at hj;obtain⟨j',SQ,rfl⟩:=hj;have BJ:=(aV.1 SQ)
   obtain⟨BK,ME⟩:=BJ;simp at BK ME;subst ME;exact(hg j BK).2 k v Ai
  ·simp only[bG,tY] at hx;obtain⟨j,hj,rfl⟩:=hx;exact(hg j hj).1
end
end
section
theorem gd {a b:Bool}(h:a=true)(k:b=true):(a&&b)=true:=by rw[h,k];rfl
theorem QA:laidOutB Tryz.checked.prog=true:=ai
theorem aaa:mapsRowed Tryz.checked.prog=true:=ai
theorem aad:(Tryz.checked.prog.stops == [])=true:=ai
theorem aac:(Tryz.checked.prog.stopKnobs == [])=true:=ai
theorem aae:Tryz.checked.prog.stopsHeard=true:=ai
theorem aab:Tryz.checked.prog.mayEnter=true:=ai
def Qi (P:Program)(_fn:Func)(c:OpenClaim):Bool:=(P.make == some c.make)
def Qh (P:Program)(fn:Func)(c:OpenClaim):Bool:=(c.kinds == (if c.domain.isEmpty then[] else fn.params.toList.map fun t=>match P.underlying t with|some (.int k)=>some k|_=>none))
theorem aeU {P:Program}{f:FuncId}{fn:Func}{s:ChangeSpec}{c:OpenClaim}(h0:(c.wf (OpenSpec.ofChange s))=true)(h1:(laidOutB P)=true)(h2:(mapsRowed P)=true)(h3:(fn.params.all (P.readableRec ·))=true)(h4:(namedTie P c.named s.vars)=true)(h5:(c.stops == [])=true)(h6:(P.stops == [])=true)(h7:(c.knobs == [])=true)(h8:(P.stopKnobs == [])=true)(h9:(c.inPlace == P.inPlace f)=true)(Lx:(c.unfollowed == P.unfollowed f)=true)(h11:(c.recurses == P.recurses f)=true)(uu:(c.named == P.varsNamed f)=true)(Ly:(c.maps == (fn.params.toList++s.plain.varTypes P).any (P.mapsRec ·))=true)(DK:(c.ifaces == (fn.params.toList++s.plain.varTypes P).any (P.ifacesRec ·))=true)(h15:(c.mapsOut == P.mapsAmong fn.resultTypes.toList)=true)(pV:(c.loops == (fn.params.toList++s.plain.varTypes P).any (P.loopsFrom ·))=true)(h17:(c.wideKeys == (fn.params.toList++s.plain.varTypes P++fn.resultTypes.toList).any (P.wideKeysFrom ·))=true)(h18:(s.vars.all (P.varReadable ·))=true)(h19:(fn.resultTypes.all (fun t=>P.readableRec t&&decide (t<P.types.size)))=true)(DL:(c.ifacesOut == fn.resultTypes.toList.any (P.ifacesRec ·))=true)(h21:(c.loopsOut == fn.resultTypes.toList.any (P.loopsFrom ·))=true)(h22:(c.plainKeys == P.plainKeys)=true)(h23:(c.shortTexts.isNone)=true)(h24:(P.stopsHeard)=true)(h25:(P.mayEnter)=true)(h26:(c.lifted == P.liftsFinal)=true)(h27:Qi P fn c=true)(h28:Qh P fn c=true)(h29:(c.pinned == c.pinnedBy)=true)(h30:(c.veiled == (fn.params.toList++s.plain.varTypes P++fn.resultTypes.toList).any (P.veiledRec ·))=true)(h31:(c.veiledFits P fn.params.toList (fn.params.toList++s.plain.varTypes P++fn.resultTypes.toList))=true):joinedFacts P f fn s c=true:=by
 unfold joinedFacts;exact(gd (gd (gd (gd (gd (gd (gd (gd (gd (gd (gd (gd (gd (gd (gd (gd (gd (gd (gd (gd (gd (gd (gd (gd (gd (gd (gd (gd (gd (gd (gd h0 h1) h2) h3) h4) h5) h6) h7) h8) h9) Lx) h11) uu) Ly) DK) h15) pV) h17) h18) h19) DL) h21) h22) h23) h24) h25) h26) h27) h28) h29) h30) h31)
end
end Go.Proofs.YtoloaehmppcjoaaGreat.V
namespace Go.Proofs.YtoloaehmppcjoaaGreat.busHolds
open Go.Proofs.YtoloaehmppcjoaaGreat.V
theorem c0:Rows.busHoldsRow.wf (OpenSpec.ofChange Rows.busHoldsSpec)=true:=ai
theorem c1:laidOutB Tryz.checked.prog=true:=QA
theorem c2:mapsRowed Tryz.checked.prog=true:=aaa
theorem c3:Tryz.f3.params.all (Tryz.checked.prog.readableRec ·)=true:=ai
theorem c4:namedTie Tryz.checked.prog Rows.busHoldsRow.named Rows.busHoldsSpec.vars=true:=ai
theorem c5:(Rows.busHoldsRow.stops == [])=true:=ai
theorem c6:(Tryz.checked.prog.stops == [])=true:=aad
theorem c7:(Rows.busHoldsRow.knobs == [])=true:=ai
theorem c8:(Tryz.checked.prog.stopKnobs == [])=true:=aac
theorem c9:(Rows.busHoldsRow.inPlace == Tryz.checked.prog.inPlace 3)=true:=ai
theorem Qg:(Rows.busHoldsRow.unfollowed == Tryz.checked.prog.unfollowed 3)=true:=ai
theorem ZH:(Rows.busHoldsRow.recurses == Tryz.checked.prog.recurses 3)=true:=ai
theorem ZI:(Rows.busHoldsRow.named == Tryz.checked.prog.varsNamed 3)=true:=ai
theorem ZJ:(Rows.busHoldsRow.maps == (Tryz.f3.params.toList++Rows.busHoldsSpec.plain.varTypes Tryz.checked.prog).any (Tryz.checked.prog.mapsRec ·))=true:=ai
theorem ZK:(Rows.busHoldsRow.ifaces == (Tryz.f3.params.toList++Rows.busHoldsSpec.plain.varTypes Tryz.checked.prog).any (Tryz.checked.prog.ifacesRec ·))=true:=ai
theorem ZL:(Rows.busHoldsRow.mapsOut == Tryz.checked.prog.mapsAmong Tryz.f3.resultTypes.toList)=true:=ai
theorem ZM:(Rows.busHoldsRow.loops == (Tryz.f3.params.toList++Rows.busHoldsSpec.plain.varTypes Tryz.checked.prog).any (Tryz.checked.prog.loopsFrom ·))=true:=ai
theorem ZN:(Rows.busHoldsRow.wideKeys == (Tryz.f3.params.toList++Rows.busHoldsSpec.plain.varTypes Tryz.checked.prog++Tryz.f3.resultTypes.toList).any (Tryz.checked.prog.wideKeysFrom ·))=true:=ai
theorem ZO:Rows.busHoldsSpec.vars.all (Tryz.checked.prog.varReadable ·)=true:=ai
theorem ZP:Tryz.f3.resultTypes.all (fun t=>Tryz.checked.prog.readableRec t&&decide (t<Tryz.checked.prog.types.size))=true:=ai
theorem ZQ:(Rows.busHoldsRow.ifacesOut == Tryz.f3.resultTypes.toList.any (Tryz.checked.prog.ifacesRec ·))=true:=ai
theorem ZR:(Rows.busHoldsRow.loopsOut == Tryz.f3.resultTypes.toList.any (Tryz.checked.prog.loopsFrom ·))=true:=ai
theorem ZS:(Rows.busHoldsRow.plainKeys == Tryz.checked.prog.plainKeys)=true:=ai
theorem ZT:Rows.busHoldsRow.shortTexts.isNone=true:=ai
theorem ZU:Tryz.checked.prog.stopsHeard=true:=aae
theorem ZV:Tryz.checked.prog.mayEnter=true:=aab
theorem ZW:(Rows.busHoldsRow.lifted == Tryz.checked.prog.liftsFinal)=true:=ai
theorem ZX:Qi Tryz.checked.prog Tryz.f3 Rows.busHoldsRow=true:=ai
theorem ZY:Qh Tryz.checked.prog Tryz.f3 Rows.busHoldsRow=true:=ai
theorem ZZ:(Rows.busHoldsRow.pinned == Rows.busHoldsRow.pinnedBy)=true:=ai
theorem Z0:(Rows.busHoldsRow.veiled == (Tryz.f3.params.toList++Rows.busHoldsSpec.plain.varTypes Tryz.checked.prog++Tryz.f3.resultTypes.toList).any (Tryz.checked.prog.veiledRec ·))=true:=ai
theorem Z1:Rows.busHoldsRow.veiledFits Tryz.checked.prog Tryz.f3.params.toList (Tryz.f3.params.toList++Rows.busHoldsSpec.plain.varTypes Tryz.checked.prog++Tryz.f3.resultTypes.toList)=true:=ai
theorem closed:joinedFacts Tryz.checked.prog 3 Tryz.f3 Rows.busHoldsSpec Rows.busHoldsRow=true:=aeU c0 c1 c2 c3 c4 c5 c6 c7 c8 c9 Qg ZH ZI ZJ ZK ZL ZM ZN ZO ZP ZQ ZR ZS ZT ZU ZV ZW ZX ZY ZZ Z0 Z1
end Go.Proofs.YtoloaehmppcjoaaGreat.busHolds
