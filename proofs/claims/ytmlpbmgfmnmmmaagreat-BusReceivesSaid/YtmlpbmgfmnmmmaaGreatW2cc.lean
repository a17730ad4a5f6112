/-
  Parts of the proof. No condition.
-/
import Derived.Test.YtmlpbmgfmnmmmaaGreatW2ca
import Derived.Test.YtmlpbmgfmnmmmaaGreatRows
import Derived.WalkKit
import Derived.ProofKit
import Derived.OpenShut
import Derived.ShutString
import Derived.ChangeOld
import Derived.Below
import Derived.SliceStrings
import Derived.Deep.Slices
import Derived.Test.YtmlpbmgfmnmmmaaGreatProg
import Derived.JoinedOf
set_option linter.unusedVariables false
set_option linter.unusedSimpArgs false
set_option maxRecDepth 8000
set_option maxHeartbeats 8000000
open Go.Proofs.Tryz
namespace Go.Proofs.YtmlpbmgfmnmmmaaGreat.V
section
open Go.ChangeShapes Go.WideShapes Go.ChangeAt Go.RowKit Go.Proofs.YtmlpbmgfmnmmmaaGreat.V.M
def mI (w:World)(a:Option Addr)(cs:List Value):Prop:=bM w a cs∧(cs≠[]→∀x,a=some x→x.block<w.heap.size)
theorem mI.fz {w:World}{a:Option Addr}{cs:List Value}(h:mI w a cs):(aF a cs).ok w (fun b=>b<w.heap.size) (fun _=>False):=⟨h.1,h.2,rfl⟩
theorem mI.nil (w:World):mI w none []:=⟨rfl,fun h=>absurd rfl h⟩
theorem O2 {w:World}{Z:Nat→Prop}:∀{l:List It},(∀x∈l,x.ok w Z fun _=>False)→Sep w Z l fun _=>False
 | [],_=>rfl
 |x::l,h=>⟨fun _=>False,fun _=>False,by funext b;simp,fun _ h=>h.elim,h x (tC),O2 fun y hy=>h y (fR _ hy)⟩
theorem ali {w:World}{l:List It}(h:∀x∈l,x.ok w (fun b=>b<w.heap.size) fun _=>False):M.Start ⟨w,fun b=>b<w.heap.size,fun _=>False⟩ w l:=
 ⟨rfl,O2 h,fun _ h=>h.elim,fun _ h=>h⟩
section
variable {H:Type}{enc:TypeId×Value→H}{P:Program}{W:World}{fuel:Nat}
abbrev mJ (enc:TypeId×Value→H)(P:Program)(W:World)(fuel:Nat)(t:TypeId)(cs:List Value):Option (DataW H×List MemPlace):=DataW.trod enc P W 0 (fun _=>true) true fuel t cs
def xJ (P:Program)(t i:Nat):Option Field:=match P.underlying t with|some (.struct fs)=>fs[i]?|_=>none
def Rg (P:Program)(t i:Nat):Option (Nat×TypeDesc):=
 match xJ P t i with
 |some f=>if P.cellsOf f.type=1 then(P.underlying f.type).map (f.offset,·) else none
 |none=>none
theorem Rh {t i:Nat}{f:Field}(h:xJ P t i=some f):∃fs,P.underlying t=some (.struct fs)∧fs[i]?=some f:=by
 unfold xJ at h;split at h
 ·rename_i fs zP;exact⟨fs,zP,h⟩
 ·cases h
theorem Ps {t i:Nat}{f:Field}{cs:List Value}{x:DataW H×List MemPlace}(hf:xJ P t i=some f)(h:mJ enc P W fuel t cs=some x) :
  ∃n y,mJ enc P W n f.type ((cs.drop f.offset).take (P.cellsOf f.type))=some y:=by
 obtain⟨fs,h1,h2⟩:=Rh hf;obtain⟨xs,n,_,_,_,hl,hx⟩:=DataW.trod_struct h1 h;have hi:i<xs.length:=by rw[hl];exact(re.1 h2).1
 exact⟨n,xs[i],(hx i f h2).trans (bO hi)⟩
theorem jZ {t i o:Nat}{d:TypeDesc}{cs:List Value}{x:DataW H×List MemPlace}(hf:Rg P t i=some (o,d))(h:mJ enc P W fuel t cs=some x) :
  ∃n y ty,P.underlying ty=some d∧mJ enc P W n ty ((cs.drop o).take 1)=some y:=by
 unfold Rg at hf;split at hf
 ·rename_i f uj
  split at hf
  ·rename_i hc
   obtain⟨n,y,hy⟩:=Ps uj h;cases hu:P.underlying f.type with
   |none=>rw[hu] at hf;cases hf
   |some d'=>
    rw[hu] at hf;simp at hf;obtain⟨h1,h2⟩:=hf;subst h1 h2;rw[hc] at hy;exact⟨n,y,f.type,hu,hy⟩
  ·cases hf
 ·cases hf
theorem Z7 {w:World}{a:Addr}{v:Value}(h:w.cell? a=some v):a.spot=none:=by
 unfold World.cell? at h;split at h
 ·split at h
  ·cases h
  ·rename_i hs;simpa using hs
 ·cases h
theorem NA {w:World}{a:Addr}{cs:List Value}(h:∀i v,cs[i]?=some v→w.cell? (a.add i)=some v):mI w (some a) cs:=by
 cases cs with
 |nil=>exact⟨bM.empty _ _,fun h=>absurd rfl h⟩
 |cons c r=>
  have h0:=h 0 c rfl;have e0:a.add 0=a:=by simp[Addr.add]
  rw[e0] at h0;have fE:=Z7 h0;obtain⟨b,o,sp⟩:=a;dsimp only at fE;subst fE;exact⟨fun i v hv=>by have:=h i v hv;rwa [ir] at this,fun _ x hx=>by cases hx;exact block_lt_of_cell h0⟩
theorem ZE {n:Int}(h:(Lit.int .u8 n).wf=true):GU (UInt8.ofNat n.toNat) = .int .u8 n:=by
 have hx:0≤n∧n≤255:=by simpa[Lit.wf,IntKind.min,IntKind.max,IntKind.signed,IntKind.bits] using h
 unfold GU;congr 1;have:(UInt8.ofNat n.toNat).toNat=n.toNat:=by simp[UInt8.toNat_ofNat];omega
 omega
theorem ahC {t e:TypeId}{v:Value}{x:DataW H×List MemPlace}(ht:P.underlying t=some (.slice e))(he:P.underlying e=some (.int .u8))(hc:P.cellsOf e=1)
  (h:mJ enc P W fuel t [v]=some x):∃a c,∃l:List UInt8,v = .slice a l.length c∧mI W a (Lib.byteCells l)∧(a=none→l.length=0):=by
 rcases open_ints ht he hc h with⟨hv,_⟩|⟨a,len,cap,zs,hv,_,hl,hm,hz,_,Eb,hwz⟩
 ·simp at hv;subst hv;exact⟨none,0,[],rfl,mI.nil _,fun _=>rfl⟩
 ·simp at hv;subst hv;simp at hz;have key:mI W (some a) (nK ((zs.take len).map fun n=>UInt8.ofNat n.toNat)):=NA fun i v hv=>by
   simp only[nK,nB,gb,vp] at hv;obtain⟨n,hn,rfl⟩:=hv;rw[vm] at hn;split at hn
   ·have hi:=(aV.1 hn).1;rw[Eb i hi,Function.comp];rw[ZE (hwz n (bF hn))];simp[List.getD,hn]
   ·cases hn
  exact⟨some a,cap,(zs.take len).map fun(n:Int)=>UInt8.ofNat n.toNat,by simp[hz,pc hl],key,fun h=>by cases h⟩
theorem X4 (s:ByteArray):str s.data.toList = .string s:=by
 cases s;rfl
theorem Wu {t e:TypeId}{v:Value}{x:DataW H×List MemPlace}(ht:P.underlying t=some (.slice e))(he:P.underlying e=some .string)(hc:P.cellsOf e=1)
  (h:mJ enc P W fuel t [v]=some x):∃a c,∃l:List Bs,v = .slice a l.length c∧mI W a (aM l):=by
 rcases open_strings ht he hc h with⟨hv,_⟩|⟨a,len,cap,ss,hv,_,hl,hm,hz,_,Eb,hws⟩
 ·simp at hv;subst hv;exact⟨none,0,[],rfl,mI.nil _⟩
 ·simp at hv;subst hv;simp at hz;have key:mI W (some a) (aM ((ss.take len).map fun s=>s.data.toList)):=NA fun i v hv=>by
   simp only[aM,nB,gb,vp] at hv;obtain⟨n,hn,rfl⟩:=hv;rw[vm] at hn;split at hn
   ·have hi:=(aV.1 hn).1;rw[Eb i hi,Function.comp,X4];simp[List.getD,hn]
   ·cases hn
  exact⟨some a,cap,(ss.take len).map fun s=>s.data.toList,by simp[hz,pc hl],key⟩
theorem Fw {t:TypeId}{v:Value}{x:DataW H×List MemPlace}(ht:P.underlying t=some .string)(h:mJ enc P W fuel t [v]=some x):∃l,v=str l:=by
 obtain⟨s,hv,_,_⟩:=DataW.trod_string ht h;simp at hv;subst hv;exact⟨s.data.toList,(X4 s).symm⟩
theorem Fx {t:TypeId}{v:Value}{x:DataW H×List MemPlace}(ht:P.underlying t=some (.int .u64))(h:mJ enc P W fuel t [v]=some x):∃n:Nat,v = .int .u64 n∧n<18446744073709551616:=by
 obtain⟨n,hv,_,hw⟩:=DataW.trod_int ht h;have hx:0≤n∧n≤18446744073709551615:=by simpa[Lit.wf,IntKind.min,IntKind.max,IntKind.signed,IntKind.bits] using hw
 simp at hv;subst hv;exact⟨n.toNat,by congr 1;omega,by omega⟩
theorem wM {t:TypeId}{v:Value}{x:DataW H×List MemPlace}(ht:P.underlying t=some (.int .i64))(h:mJ enc P W fuel t [v]=some x):∃n:Int,v = .int .i64 n∧-9223372036854775808≤n∧n<9223372036854775808:=by
 obtain⟨n,hv,_,hw⟩:=DataW.trod_int ht h;have hx:-9223372036854775808≤n∧n≤9223372036854775807:=by simpa[Lit.wf,IntKind.min,IntKind.max,IntKind.signed,IntKind.bits] using hw
 simp at hv;subst hv;exact⟨n,rfl,by omega,by omega⟩
theorem VQ {α β:Type}{f:α→Option β}:∀{l:List α}{r:List β},l.mapM f=some r→r.length=l.length
 | [],r,h=>by simp at h;subst h;rfl
 |x::l,r,h=>by
  rw[List.mapM_cons] at h;simp only[Option.bind_eq_bind,Option.bind_eq_some_iff,Option.pure_def,mD] at h;obtain⟨y,_,ys,hys,rfl⟩:=h;simp[VQ hys]
theorem Z9 {w:World}{base:Nat}{a:Addr}{n:Nat}{cs:List Value}(h:w.cells? base a n=some cs):cs.length=n∧∀i v,cs[i]?=some v→w.cell? (a.add i)=some v:=by
 unfold World.cells? at h;split at h
 ·have hm:=fun i (hi:i<n)=>mapM_some_get h i i (by simp[hi])
  have hl:cs.length=n:=by
   have:=VQ h;simpa using this
  refine⟨hl,fun i v hv=>?_⟩;have hi:i<n:=by have:=(aV.1 hv).1;omega
  rw[hm i hi,hv]
 ·cases h
theorem W4 {α:Type}{f:α→List Value}{z:Nat}(hz:∀x,(f x).length=z):∀{L:List α}{i:Nat}{v:Value},(aK f L)[i]?=some v→∃j k x,i=j*z+k∧k<z∧L[j]?=some x∧(f x)[k]?=some v
 | [],i,v,h=>by simp[aK] at h
 |x::L,i,v,h=>by
  have e:aK f (x::L)=f x++aK f L:=by simp[aK]
  rw[e] at h
  by_cases hi:i<z
  ·rw[gr (by rw[hz];exact hi)] at h;exact⟨0,i,x,by omega,hi,rfl,h⟩
  ·rw[ia (by rw[hz];omega),hz] at h;obtain⟨j,k,y,h1,h2,h3,h4⟩:=W4 hz h;exact⟨j+1,k,y,by rw[iP];omega,h2,h3,h4⟩
theorem ahF {α:Type}[Inhabited α]{f:α→List Value}{z:Nat}(hz:∀x,(f x).length=z){R:α→Prop}{t e:TypeId}{v:Value}{x:DataW H×List MemPlace}(ht:P.underlying t=some (.slice e))(hc:P.cellsOf e=z)
  (he:∀n cs y,cs.length=z→mJ enc P W n e cs=some y→∃a,cs=f a∧R a)
  (h:mJ enc P W fuel t [v]=some x):∃a c L,v = .slice a L.length c∧mI W a (aK f L)∧∀x∈L,R x:=by
 rcases Go.Deep.open_slice ht h with⟨hv,_⟩|⟨a,len,cap,m,n,D,Pl,hv,_,hl,hm,Ew,_,hx⟩
 ·simp at hv;subst hv;exact⟨none,0,[],rfl,mI.nil _,by simp⟩
 ·simp at hv;subst hv;simp at Ew;rw[hc] at hx;have rM:∀i,i<len→∃p:α,R p∧∀k v,(f p)[k]?=some v→W.cell? (a.add (i*z+k))=some v:=fun i hi=>by
   obtain⟨cs,h1,h2⟩:=hx i ah;obtain⟨hlen,Eb⟩:=Z9 h1;obtain⟨p,rfl,hR⟩:=he _ _ _ hlen h2;refine⟨p,hR,fun k v hv=>?_⟩;have:=Eb k v hv;rwa [Go.Deep.add_add] at this
  obtain⟨g,hg⟩:=Go.Deep.choose_lt (p:=fun i (p:α)=>R p∧∀k v,(f p)[k]?=some v→W.cell? (a.add (i*z+k))=some v) rM;refine⟨some a,cap,(List.range len).map g,by simp,NA fun i v hv=>?_,fun x hx=>?_⟩
  ·obtain⟨j,k,y,rfl,hk,hj,Ah⟩:=W4 hz hv;simp only[gb,vp] at hj;obtain⟨j',SQ,rfl⟩:=hj;have Em:=(aV.1 SQ)
   obtain⟨BL,Mw⟩:=Em;simp at BL Mw;subst Mw;exact(hg j BL).2 k v Ah
  ·simp only[bK,tE] at hx;obtain⟨j,hj,rfl⟩:=hx;exact(hg j hj).1
theorem okWide_struct {r:Reach}{base t:Nat}{v:Value}{i:Nat}{f:Field}(hf:xJ P t i=some f)(h:Value.okWide P W r base t v) :
  ∃cs,v = .agg cs∧cs.size=P.cellsOf t∧Row.okWide P W r base t cs:=by
 obtain⟨fs,h1,_⟩:=Rh hf;simpa[Value.okWide,h1] using h
end
structure PC (W:World)(c:dh)(y:iR):Prop where
 k:mI W y.k.1 (aM c.ks)
 v:mI W y.v.1 (Lib.byteCells c.v)
 t:mI W y.t.1 (aM c.t)
 v0:y.v.1=none→c.v.length=0
 d:c.d≤never
 n:c.n≤never
theorem ahE {H:Type}{enc:TypeId×Value→H}{W:World}{fuel:Nat}{cs:List Value}{x:DataW H×List MemPlace}(hl:cs.length=10)(h:mJ enc prog W fuel 50 cs=some x) :
  ∃c y,cs=jH c y∧PC W c y:=by
 match cs,hl with
 | [c0,c1,c2,c3,c4,c5,c6,c7,c8,c9],_=>
   obtain⟨_,_,_,u0,r0⟩:=jZ (i:=0) (o:=0) (d := .int .i64) ai h;obtain⟨_,_,_,u1,r1⟩:=jZ (i:=1) (o:=1) (d := .string) ai h;obtain⟨_,_,_,u2,r2⟩:=jZ (i:=2) (o:=2) (d := .slice 9) ai h;obtain⟨_,_,_,u3,r3⟩:=jZ (i:=3) (o:=3) (d := .slice 5) ai h;obtain⟨_,_,_,u4,r4⟩:=jZ (i:=4) (o:=4) (d := .slice 9) ai h;obtain⟨_,_,_,u5,r5⟩:=jZ (i:=5) (o:=5) (d := .int .u64) ai h;obtain⟨_,_,_,u6,r6⟩:=jZ (i:=6) (o:=6) (d := .int .u64) ai h;obtain⟨_,_,_,u7,r7⟩:=jZ (i:=7) (o:=7) (d := .string) ai h;obtain⟨_,_,_,u8,r8⟩:=jZ (i:=8) (o:=8) (d := .string) ai h;obtain⟨_,_,_,u9,r9⟩:=jZ (i:=9) (o:=9) (d := .string) ai h;obtain⟨op,rfl,_⟩:=wM u0 r0;obtain⟨key,rfl⟩:=Fw u1 r1;obtain⟨ka,kc,keys,rfl,hK⟩:=Wu u2 ai ai r2;obtain⟨va,vc,value,rfl,hV,hV0⟩:=ahC u3 ai ai r3;obtain⟨ta,tc,tags,rfl,hT⟩:=Wu u4 ai ai r4;obtain⟨agv,rfl,hd⟩:=Fx u5 r5;obtain⟨version,rfl,hn⟩:=Fx u6 r6;obtain⟨tag,rfl⟩:=Fw u7 r7;obtain⟨pre,rfl⟩:=Fw u8 r8;obtain⟨child,rfl⟩:=Fw u9 r9;exact⟨⟨op,key,keys,value,tags,agv,version,tag,pre,child⟩,⟨(ka,kc),(va,vc),(ta,tc)⟩,rfl,hK,hV,hT,hV0,by unfold never;dsimp only;omega,by unfold never;dsimp only;omega⟩
structure PB (W:World)(a:ov):Prop where
 c:PC W a.c a.y
 T:a.T≤never
 n:a.n<9223372036854775808
 oe:-9223372036854775808≤a.oe∧a.oe<9223372036854775808
theorem ahA {H:Type}{enc:TypeId×Value→H}{W:World}{fuel:Nat}{cs:List Value}{x:DataW H×List MemPlace}(hl:cs.length=15)(h:mJ enc prog W fuel 77 cs=some x) :
  ∃a,cs=qd a∧PB W a:=by
 match cs,hl with
 |c0::c1::c2::c3::c4::r,hl=>
  obtain⟨_,_,_,u0,r0⟩:=jZ (i:=0) (o:=0) (d := .int .i64) ai h;obtain⟨_,_,_,u1,r1⟩:=jZ (i:=1) (o:=1) (d := .int .i64) ai h;obtain⟨_,_,_,u2,r2⟩:=jZ (i:=2) (o:=2) (d := .int .u64) ai h;have hfp:(xJ prog 77 3).map (fun f=>(f.offset,f.type,prog.cellsOf f.type))=some (3,31,2):=ai;obtain⟨fp,hp,x7⟩:=vp.1 hfp;simp only[mB] at x7;obtain⟨np,yp,hyp⟩:=Ps hp h;rw[x7.1,x7.2.2,x7.2.1] at hyp;replace hyp:mJ enc prog W np 31 [c3,c4]=some yp:=hyp;obtain⟨_,_,_,u3,r3⟩:=jZ (i:=0) (o:=0) (d := .int .i64) ai hyp;obtain⟨_,_,_,u4,r4⟩:=jZ (i:=1) (o:=1) (d := .string) ai hyp;have H8:(xJ prog 77 4).map (fun f=>(f.offset,f.type,prog.cellsOf f.type))=some (5,50,10):=ai;obtain⟨f,hf,he⟩:=vp.1 H8;simp only[mB] at he;obtain⟨n,y,hy⟩:=Ps hf h;rw[he.1,he.2.2,he.2.1] at hy;have hr:r.length=10:=by simpa using hl
  replace hy:mJ enc prog W n 50 (r.take 10)=some y:=hy;rw[eO (Nat.le_of_eq hr)] at hy;obtain⟨oe,hw,w1,w2⟩:=wM u0 r0;obtain⟨k1,pL,_,w3⟩:=wM u1 r1;obtain⟨T,hT,w4⟩:=Fx u2 r2;obtain⟨k,hk,_⟩:=wM u3 r3;obtain⟨nm,MO⟩:=Fw u4 r4;obtain⟨c,y,rfl,hc⟩:=ahE hr hy;subst hw pL hT hk MO;exact⟨⟨oe,k1,T,k,nm,c,y⟩,rfl,hc,by unfold never;dsimp only;omega,w3,w1,w2⟩
instance:Inhabited ov:=⟨⟨0,0,0,0,[],⟨0,[],[],[],[],0,0,[],[],[]⟩,⟨(none,0),(none,0),(none,0)⟩⟩⟩
theorem YU (a:ov):(qd a).length=15:=rfl
theorem ahB {H:Type}{enc:TypeId×Value→H}{W:World}{fuel:Nat}{t:TypeId}{v:Value}{x:DataW H×List MemPlace}(ht:prog.underlying t=some (.slice 77))
  (h:mJ enc prog W fuel t [v]=some x):∃a c L,v = .slice a (List.length L) c∧mI W a (aK qd L)∧∀x∈L,PB W x:=
 ahF YU ht ai (fun _ _ _ h1 h2=>ahA h1 h2) h
theorem ahD {H:Type}{enc:TypeId×Value→H}{W:World}{fuel:Nat}{cs:List Value}{x:DataW H×List MemPlace}(hl:cs.length=7)(h:mJ enc prog W fuel 41 cs=some x) :
  ∃c:oy,cs=vC c∧c.s<18446744073709551616:=by
 match cs,hl with
 | [c0,c1,c2,c3,c4,c5,c6],_=>
   obtain⟨_,_,_,u0,r0⟩:=jZ (i:=0) (o:=0) (d := .int .i64) ai h;obtain⟨_,_,_,u1,r1⟩:=jZ (i:=1) (o:=1) (d := .int .i64) ai h;obtain⟨_,_,_,u2,r2⟩:=jZ (i:=2) (o:=2) (d := .int .i64) ai h;obtain⟨_,_,_,u3,r3⟩:=jZ (i:=3) (o:=3) (d := .int .i64) ai h;obtain⟨_,_,_,u4,r4⟩:=jZ (i:=4) (o:=4) (d := .int .i64) ai h;obtain⟨_,_,_,u5,r5⟩:=jZ (i:=5) (o:=5) (d := .int .u64) ai h;obtain⟨_,_,_,u6,r6⟩:=jZ (i:=6) (o:=6) (d := .int .u64) ai h;obtain⟨n0,rfl,_⟩:=wM u0 r0;obtain⟨n1,rfl,_⟩:=wM u1 r1;obtain⟨n2,rfl,_⟩:=wM u2 r2;obtain⟨n3,rfl,_⟩:=wM u3 r3;obtain⟨n4,rfl,_⟩:=wM u4 r4;obtain⟨n5,rfl,_⟩:=Fx u5 r5;obtain⟨n6,rfl,hn6⟩:=Fx u6 r6;exact⟨⟨n0,n1,n2,n3,n4,n5,n6⟩,rfl,hn6⟩
end
section
theorem fW {a b:Bool}(h:a=true)(k:b=true):(a&&b)=true:=by rw[h,k];rfl
theorem Qw:laidOutB Tryz.checked.prog=true:=ai
theorem aaa:mapsRowed Tryz.checked.prog=true:=ai
theorem aad:(Tryz.checked.prog.stops == [])=true:=ai
theorem aac:(Tryz.checked.prog.stopKnobs == [])=true:=ai
theorem aae:Tryz.checked.prog.stopsHeard=true:=ai
theorem aab:Tryz.checked.prog.mayEnter=true:=ai
def Qf (P:Program)(_fn:Func)(c:OpenClaim):Bool:=(P.make == some c.make)
def Qe (P:Program)(fn:Func)(c:OpenClaim):Bool:=(c.kinds == (if c.domain.isEmpty then[] else fn.params.toList.map fun t=>match P.underlying t with|some (.int k)=>some k|_=>none))
theorem aeN {P:Program}{f:FuncId}{fn:Func}{s:ChangeSpec}{c:OpenClaim}(h0:(c.wf (OpenSpec.ofChange s))=true)(h1:(laidOutB P)=true)(h2:(mapsRowed P)=true)(h3:(fn.params.all (P.readableRec ·))=true)(h4:(namedTie P c.named s.vars)=true)(h5:(c.stops == [])=true)(h6:(P.stops == [])=true)(h7:(c.knobs == [])=true)(h8:(P.stopKnobs == [])=true)(h9:(c.inPlace == P.inPlace f)=true)(Lm:(c.unfollowed == P.unfollowed f)=true)(h11:(c.recurses == P.recurses f)=true)(tZ:(c.named == P.varsNamed f)=true)(Ln:(c.maps == (fn.params.toList++s.plain.varTypes P).any (P.mapsRec ·))=true)(h14:(c.ifaces == (fn.params.toList++s.plain.varTypes P).any (P.ifacesRec ·))=true)(h15:(c.mapsOut == P.mapsAmong fn.resultTypes.toList)=true)(pF:(c.loops == (fn.params.toList++s.plain.varTypes P).any (P.loopsFrom ·))=true)(h17:(c.wideKeys == (fn.params.toList++s.plain.varTypes P++fn.resultTypes.toList).any (P.wideKeysFrom ·))=true)(h18:(s.vars.all (P.varReadable ·))=true)(h19:(fn.resultTypes.all (fun t=>P.readableRec t&&decide (t<P.types.size)))=true)(h20:(c.ifacesOut == fn.resultTypes.toList.any (P.ifacesRec ·))=true)(h21:(c.loopsOut == fn.resultTypes.toList.any (P.loopsFrom ·))=true)(h22:(c.plainKeys == P.plainKeys)=true)(h23:(c.shortTexts.isNone)=true)(h24:(P.stopsHeard)=true)(h25:(P.mayEnter)=true)(h26:(c.lifted == P.liftsFinal)=true)(h27:Qf P fn c=true)(h28:Qe P fn c=true)(h29:(c.pinned == c.pinnedBy)=true)(Hy:(c.veiled == (fn.params.toList++s.plain.varTypes P++fn.resultTypes.toList).any (P.veiledRec ·))=true)(h31:(c.veiledFits P fn.params.toList (fn.params.toList++s.plain.varTypes P++fn.resultTypes.toList))=true):joinedFacts P f fn s c=true:=by
 unfold joinedFacts;exact(fW (fW (fW (fW (fW (fW (fW (fW (fW (fW (fW (fW (fW (fW (fW (fW (fW (fW (fW (fW (fW (fW (fW (fW (fW (fW (fW (fW (fW (fW (fW h0 h1) h2) h3) h4) h5) h6) h7) h8) h9) Lm) h11) tZ) Ln) h14) h15) pF) h17) h18) h19) h20) h21) h22) h23) h24) h25) h26) h27) h28) h29) Hy) h31)
end
end Go.Proofs.YtmlpbmgfmnmmmaaGreat.V
namespace Go.Proofs.YtmlpbmgfmnmmmaaGreat.busReceives
open Go.Proofs.YtmlpbmgfmnmmmaaGreat.V
theorem c0:Rows.busReceivesRow.wf (OpenSpec.ofChange Rows.busReceivesSpec)=true:=ai
theorem c1:laidOutB Tryz.checked.prog=true:=Qw
theorem c2:mapsRowed Tryz.checked.prog=true:=aaa
theorem c3:Tryz.f4.params.all (Tryz.checked.prog.readableRec ·)=true:=ai
theorem c4:namedTie Tryz.checked.prog Rows.busReceivesRow.named Rows.busReceivesSpec.vars=true:=ai
theorem c5:(Rows.busReceivesRow.stops == [])=true:=ai
theorem c6:(Tryz.checked.prog.stops == [])=true:=aad
theorem c7:(Rows.busReceivesRow.knobs == [])=true:=ai
theorem c8:(Tryz.checked.prog.stopKnobs == [])=true:=aac
theorem c9:(Rows.busReceivesRow.inPlace == Tryz.checked.prog.inPlace 4)=true:=ai
theorem Qd:(Rows.busReceivesRow.unfollowed == Tryz.checked.prog.unfollowed 4)=true:=ai
theorem ZH:(Rows.busReceivesRow.recurses == Tryz.checked.prog.recurses 4)=true:=ai
theorem ZI:(Rows.busReceivesRow.named == Tryz.checked.prog.varsNamed 4)=true:=ai
theorem ZJ:(Rows.busReceivesRow.maps == (Tryz.f4.params.toList++Rows.busReceivesSpec.plain.varTypes Tryz.checked.prog).any (Tryz.checked.prog.mapsRec ·))=true:=ai
theorem ZK:(Rows.busReceivesRow.ifaces == (Tryz.f4.params.toList++Rows.busReceivesSpec.plain.varTypes Tryz.checked.prog).any (Tryz.checked.prog.ifacesRec ·))=true:=ai
theorem ZL:(Rows.busReceivesRow.mapsOut == Tryz.checked.prog.mapsAmong Tryz.f4.resultTypes.toList)=true:=ai
theorem ZM:(Rows.busReceivesRow.loops == (Tryz.f4.params.toList++Rows.busReceivesSpec.plain.varTypes Tryz.checked.prog).any (Tryz.checked.prog.loopsFrom ·))=true:=ai
theorem ZN:(Rows.busReceivesRow.wideKeys == (Tryz.f4.params.toList++Rows.busReceivesSpec.plain.varTypes Tryz.checked.prog++Tryz.f4.resultTypes.toList).any (Tryz.checked.prog.wideKeysFrom ·))=true:=ai
theorem ZO:Rows.busReceivesSpec.vars.all (Tryz.checked.prog.varReadable ·)=true:=ai
theorem ZP:Tryz.f4.resultTypes.all (fun t=>Tryz.checked.prog.readableRec t&&decide (t<Tryz.checked.prog.types.size))=true:=ai
theorem ZQ:(Rows.busReceivesRow.ifacesOut == Tryz.f4.resultTypes.toList.any (Tryz.checked.prog.ifacesRec ·))=true:=ai
theorem ZR:(Rows.busReceivesRow.loopsOut == Tryz.f4.resultTypes.toList.any (Tryz.checked.prog.loopsFrom ·))=true:=ai
theorem ZS:(Rows.busReceivesRow.plainKeys == Tryz.checked.prog.plainKeys)=true:=ai
theorem ZT:Rows.busReceivesRow.shortTexts.isNone=true:=ai
theorem ZU:Tryz.checked.prog.stopsHeard=true:=aae
theorem ZV:Tryz.checked.prog.mayEnter=true:=aab
theorem ZW:(Rows.busReceivesRow.lifted == Tryz.checked.prog.liftsFinal)=true:=ai
theorem ZX:Qf Tryz.checked.prog Tryz.f4 Rows.busReceivesRow=true:=ai
theorem ZY:Qe Tryz.checked.prog Tryz.f4 Rows.busReceivesRow=true:=ai
theorem ZZ:(Rows.busReceivesRow.pinned == Rows.busReceivesRow.pinnedBy)=true:=ai
theorem Z0:(Rows.busReceivesRow.veiled == (Tryz.f4.params.toList++Rows.busReceivesSpec.plain.varTypes Tryz.checked.prog++Tryz.f4.resultTypes.toList).any (Tryz.checked.prog.veiledRec ·))=true:=ai
theorem Z1:Rows.busReceivesRow.veiledFits Tryz.checked.prog Tryz.f4.params.toList (Tryz.f4.params.toList++Rows.busReceivesSpec.plain.varTypes Tryz.checked.prog++Tryz.f4.resultTypes.toList)=true:=ai
theorem closed:joinedFacts Tryz.checked.prog 4 Tryz.f4 Rows.busReceivesSpec Rows.busReceivesRow=true:=aeN c0 c1 c2 c3 c4 c5 c6 c7 c8 c9 Qd ZH ZI ZJ ZK ZL ZM ZN ZO ZP ZQ ZR ZS ZT ZU ZV ZW ZX ZY ZZ Z0 Z1
end Go.Proofs.YtmlpbmgfmnmmmaaGreat.busReceives
