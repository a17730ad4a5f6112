/-
  Parts of the proof. No condition.
-/
import Derived.Test.YtoloaehmppcjoaaGreatW2al
import Derived.Shelf.SlMaps.Clone
import Derived.Test.YtoloaehmppcjoaaGreatW2ah
import Derived.Test.YtoloaehmppcjoaaGreatW2ad
import Derived.Shelf.SortM.Plain
import Derived.Shelf.SortM.SortNone
import Derived.Sort.OwnSorted
set_option linter.unusedVariables false
set_option linter.unusedSimpArgs false
set_option maxRecDepth 8000
set_option maxHeartbeats 8000000
open Go.Proofs.Tryz
namespace Go.Proofs.YtoloaehmppcjoaaGreat.V
open Go.RowKit Go.Maps Go.Shelf
theorem C6 {P:Program}{t:TypeId}{z:Value}(h:(P.info? t).bind (·.zero)=some z)(w:World):(zeroValue t).run P w = .ok z w:=by
 cases hi:P.info? t with
 |none=>rw[hi] at h;cases h
 |some i=>
  rw[hi] at h;have hz:i.zero=some z:=h;simp[zeroValue,typeInfo,hi,hz]
def ami:Ren:=⟨fun|5=>168|7=>244|_=>0,fun|3=>4|4=>4|20=>20|23=>102|25=>3|_=>0,fun _=>0⟩
def QH:Ren:=⟨fun|5=>224|7=>244|_=>0,fun|3=>295|4=>4|20=>20|23=>296|25=>3|_=>0,fun _=>0⟩
theorem afo:Bears prog 224 (SlBodyW.n5 QH):=⟨"maps.Clone[map[int]tagcache/recent.link,int,tagcache/recent.link]",by decide,by kernel_rfl⟩
theorem UB:cD prog 4=some (false,1):=ai
theorem afs:((prog).info? 4).bind (·.zero)=some (Value.bool false):=ai
theorem Uz:cD prog 20=some (false,1):=ai
theorem afq:((prog).info? 20).bind (·.zero)=some (Value.nilIface):=ai
theorem UA:cD prog 296=some (false,1):=ai
theorem afr:((prog).info? 296).bind (·.zero)=some (Value.map none):=ai
theorem agi:SlLaysW.n5 prog QH:={ mixed:=by kernel_rfl,f5:=afo,f7:=by kernel_rfl,t4:=by kernel_rfl,a4:=fun w=>(aC.mk UB).isAgg w,z4:=fun w=>(aC.mk UB).sizeOf w,v4:=C6 afs,t20:=by kernel_rfl,a20:=fun w=>(aC.mk Uz).isAgg w,z20:=fun w=>(aC.mk Uz).sizeOf w,v20:=C6 afq,t23:=by kernel_rfl,a23:=fun w=>(aC.mk UA).isAgg w,z23:=fun w=>(aC.mk UA).sizeOf w,v23:=C6 afr}
def QI:Ren:=⟨fun|5=>227|7=>244|_=>0,fun|3=>3|4=>4|20=>20|23=>299|25=>3|_=>0,fun _=>0⟩
theorem afp:Bears prog 227 (SlBodyW.n5 QI):=⟨"maps.Clone[map[int]int,int,int]",by decide,by kernel_rfl⟩
theorem UE:cD prog 4=some (false,1):=ai
theorem afw:((prog).info? 4).bind (·.zero)=some (Value.bool false):=ai
theorem UC:cD prog 20=some (false,1):=ai
theorem afu:((prog).info? 20).bind (·.zero)=some (Value.nilIface):=ai
theorem UD:cD prog 299=some (false,1):=ai
theorem afv:((prog).info? 299).bind (·.zero)=some (Value.map none):=ai
theorem agj:SlLaysW.n5 prog QI:={ mixed:=by kernel_rfl,f5:=afp,f7:=by kernel_rfl,t4:=by kernel_rfl,a4:=fun w=>(aC.mk UE).isAgg w,z4:=fun w=>(aC.mk UE).sizeOf w,v4:=C6 afw,t20:=by kernel_rfl,a20:=fun w=>(aC.mk UC).isAgg w,z20:=fun w=>(aC.mk UC).sizeOf w,v20:=C6 afu,t23:=by kernel_rfl,a23:=fun w=>(aC.mk UD).isAgg w,z23:=fun w=>(aC.mk UD).sizeOf w,v23:=C6 afv}
end Go.Proofs.YtoloaehmppcjoaaGreat.V
namespace Go.Proofs.YtoloaehmppcjoaaGreat.V.M
section
open Go.RowKit Go.Maps Go.Shelf
attribute [local irreducible] GX GO
attribute [local irreducible] aB aq aS aF fz star
theorem VR {ρ:Ren}(L:SlLaysW.n5 prog ρ){κ ν:Type}{kv:κ→Value}{vv:ν→Value}{M:List (κ×ν)}{o:Og}{w:World}{b:Nat}(hs:Start o w [fz (aS b kv vv M)]) :
  aj prog (ρ.f 5) [.map (some b)].toArray w (aX o (fun c:Nat => .map (some c)) (fun _=>True) (fun c=>[aS c kv vv M])):=by
 have hH:=hs.sh;obtain⟨E,clock,h1,h2,h3,h4⟩:=hH.ms .fz;refine aj.Ay ((AnyW.maps_Clone L b E.toArray clock w h1).mono ?_);rintro e w' ⟨rfl,rfl⟩;exact⟨_,rfl,_,rfl,trivial,(SH.Oi hH (Ext.alloc w _) rfl ⟨E,clock,heap_alloc_new w _,h2,h3,h4⟩).to⟩
def nE (r:Nat)(L:List Nat):It:=star fun x:{ M:eE // Ring M L}=>[pf r x.1]
instance {r:Nat}{L:List Nat}:Zf (nE r L):=Zf.star fun _=>inferInstance
theorem JW {o:Og}{w:World}{l t:List It}{r:Nat}{M:eE}{L:List Nat}(h:SH o w l)(hM:Ring M L)(hp:Pk l [pf r M] t:=by repeat(first|exact Pk.nil|(apply Pk.cons;repeat(first|exact az.here|apply az.there)))):SH o w (nE r L::t):=SH.fold (f:=fun x:{ M:eE // Ring M L}=>[pf r x.1]) ⟨M,hM⟩ h hp
theorem Ring.none {M:eE}{L:List Nat}(h:Ring M L){x:Nat}(hx:x∉L):ay M (x:Int)=none:=by
 cases hm:ay M (x:Int) with
 |none=>rfl
 |some v=>
  rcases(h.key x).1 (by rw[hm];rfl) with e|⟨n,hn,e⟩
  ·omega
  ·exact absurd (by rwa [Int.ofNat.inj e]) hx
theorem abw {L:List Nat}{x:Nat}(h:x∈L):∃L1 L2,L=L1++x::L2∧L.erase x=L1++L2:=by
 obtain⟨L1,L2,h1,h2,h3⟩:=List.exists_erase_eq h;exact⟨L1,L2,h2,h3⟩
theorem aiT {o:Og}{w:World}(hs:Start o w []):aj prog 106 ([]:List Value).toArray w (aX o ak (fun _=>True) (fun r=>[nE r []])):=by
 have hH:=hs.sh;refine aj.enter func106 rfl ntmps106 rfl (gh ?_);refine GX.yD iV yC (h:=fun m w hH=>gh ?_);refine GX.Fx (v:=((-1,-1):Int×Int)) (h:=fun w hH=>gh ?_);refine GX.cI (h:=fun r w hH=>gh ?_);have hR:Ring (bC ([]:eE) (-1) (-1,-1)) []:=⟨fun k=>by simp[bC,ay],lP,by simp[CL,fk,bC,eI,ay],rfl,by simp[bC]⟩
 exact⟨r,rfl,trivial,(JW (Fu (M:=bC ([]:eE) (-1) (-1,-1)) hH) hR).to⟩
theorem WQ {o:Og}{w:World}{r:Nat}{L:List Nat}(x:Nat)(hx:x<1048576)(hn:x∉L)(hs:Start o w [nE r L]):aj prog 255 [ak r,iV x].toArray w (Po o (iV 0) [nE r (L++[x])]):=by
 obtain⟨⟨M,hM⟩,hs⟩:=Start.un hs;refine(aip x hx (hM.none hn) hs).mono fun v w' ⟨h1,h2⟩=>⟨h1,(JW h2 (hM.add hn)).to⟩
theorem WR {o:Og}{w:World}{r:Nat}{L:List Nat}(x:Nat)(hx:x<1048576)(hn:x∈L)(hs:Start o w [nE r L]):aj prog 200 [ak r,iV x].toArray w (Po o (iV 0) [nE r (L.erase x)]):=by
 obtain⟨⟨M,hM⟩,hs⟩:=Start.un hs;obtain⟨L1,L2,rfl,e⟩:=abw hn;refine(aiW x hx ((hM.key x).2 (.inr ⟨x,hn,rfl⟩)) hs).mono fun v w' ⟨h1,h2⟩=>⟨h1,by rw[e];exact(JW h2 hM.remove).to⟩
theorem WS {o:Og}{w:World}{r:Nat}{L:List Nat}(bT:L.Nodup)(x:Nat)(hx:x<1048576)(hn:x∈L)(hs:Start o w [nE r L]):aj prog 260 [ak r,iV x].toArray w (Po o (iV 0) [nE r (L.erase x++[x])]):=by
 have hH:=hs.sh;refine aj.enter func260 rfl ntmps260 rfl (gh ?_);refine GX.bF (hc:=fun _ hs=>WR x hx hn hs) (h:=fun w hH=>gh ?_);refine GX.bF (hc:=fun _ hs=>WQ x hx (fun h=>(List.Nodup.mem_erase_iff bT).1 h |>.1 rfl) hs) (h:=fun w hH=>gh ?_);exact⟨rfl,hH.to⟩
def OE:List Nat→Int×Int
 | []=>(0,9)
 |x::_=>(x,0)
theorem aio {o:Og}{w:World}{r:Nat}{L:List Nat}(hl:L.length<2^30)(hs:Start o w [fz (nE r L)]):aj prog 252 [ak r].toArray w (Po o (.tuple #[iV (OE L).1,iV (OE L).2]) []):=by
 have hH:=hs.sh;obtain⟨⟨M,hM⟩,hH⟩:=SH.dV hH;replace hH:=SH.ed hH;dsimp only at hH;refine aj.enter func252 rfl ntmps252 rfl (gh ?_);refine GX.aM (hc:=fun _ hs=>FR hs) (h:=fun w hE hH=>gh ?_);refine GX.aM (hc:=fun _ hs=>aiP (M:=M) (by have:=hM.len;omega) hs) (h:=fun w hE hH=>gh ?_);refine ifs (fun h1=>?_) (fun h1=>?_)<;>refine gh ?_
 ·have e:L=[]:=gu (by have:=hM.len;omega);rw[e];exact⟨rfl,hH.to⟩
 ·obtain⟨x,T,e⟩:∃x T,L=x::T:=List.exists_cons_of_length_pos (by have:=hM.len;omega);rw[e] at hM ⊢;obtain⟨b,hH⟩:=SH.dV hH;replace hH:=SH.ed hH;refine gh ?_;refine GX.mN (hV:=Fw M (-1)) (h:=gh ?_);refine⟨?_,hH.to⟩;rw[hM.first];rfl
theorem aak {M:eE}{o:Og}{w:World}{b:Nat}(hs:Start o w [fz (aS b iV yC M)]):aj prog 224 [.map (some b)].toArray w (aX o (fun c:Nat => .map (some c)) (fun _=>True) (fun c=>[aS c iV yC M])):=
 VR agi hs
theorem ain {o:Og}{w:World}{r:Nat}{L:List Nat}(hs:Start o w [fz (nE r L)]):aj prog 143 [ak r].toArray w (aX o ak (fun _=>True) (fun c=>[nE c L])):=by
 have hH:=hs.sh;obtain⟨⟨M,hM⟩,hH⟩:=SH.dV hH;replace hH:=SH.ed hH;dsimp only at hH;refine aj.enter func143 rfl ntmps143 rfl (gh ?_);refine GX.aM (hc:=fun _ hs=>FR hs) (h:=fun w hE hH=>gh ?_);obtain⟨b,hH⟩:=SH.dV hH;replace hH:=SH.ed hH;refine gh ?_;refine GX.ef (hc:=fun _ hs=>aak hs) (h:=?_);rintro c w _ hE hH;replace hH:=SH.ap hH;refine gh ?_;refine GX.cI (h:=fun d w hH=>gh ?_);exact⟨d,rfl,trivial,(JW (Fu (M:=M) hH) hM).to⟩
end
section
attribute [local irreducible] GO GX
def bf (s:Bs):Bool:=decide (0<s.length∧s.length≤250)
def eV (s:Bs):Bool:=decide (0<s.length∧s.length≤64)
theorem sr (s:Bs)(w:World):aj prog 45 [str s].toArray w fun v w'=>v = .bool (bf s)∧w'=w:=by
 refine aj.enter func45 rfl ntmps45 rfl (go ?_);refine dq (fun h=>?_) (fun h=>?_)<;>refine go ?_<;>exact⟨by first|exact Gi ah|exact xr ah,rfl⟩
theorem Jg (s:Bs)(w:World):aj prog 74 [str s].toArray w fun v w'=>v = .bool (eV s)∧w'=w:=by
 refine aj.enter func74 rfl ntmps74 rfl (go ?_);refine dq (fun h=>?_) (fun h=>?_)<;>refine go ?_<;>exact⟨by first|exact Gi ah|exact xr ah,rfl⟩
theorem Fq (s:Bs)(w:World):aj prog 75 [str s].toArray w fun v w'=>v = .bool (decide (s.length≤250))∧w'=w:=by
 refine aj.enter func75 rfl ntmps75 rfl (go ?_);exact⟨congrArg _ (vw.2 ah),rfl⟩
def never:Nat:=18446744073709551615
def lL (t n:Nat):Nat:=if never - t≤n then never else t+n
def due (d now:Nat):Bool:=decide (d≠never∧d≤now)
def u6 (now d soft dK:Nat):Nat:=if due d now then 0 else if !due soft now then 1 else if due (lL soft dK) now then 0 else 2
theorem DC (a b:Nat)(w:World):aj prog 78 [uV a,uV b].toArray w fun v w'=>v=uV (max a b)∧w'=w:=by
 refine aj.enter func78 rfl ntmps78 rfl (go ?_);refine⟨congrArg (Value.int .u64) ?_,rfl⟩;split<;>omega
theorem Dz (d now:Nat)(w:World):aj prog 197 [uV d,uV now].toArray w fun v w'=>v = .bool (due d now)∧w'=w:=by
 refine aj.enter func197 rfl ntmps197 rfl (go ?_);refine dq (fun h=>?_) (fun h=>?_)<;>refine go ?_<;>exact⟨by first|exact Gi (by simp only[never];omega)|exact xr (by simp only[never];omega),rfl⟩
theorem Ha (t k:Nat)(ht:t≤never)(hk:k≤never)(w:World):aj prog 174 [uV t,uV k].toArray w fun v w'=>v=uV (lL t k)∧w'=w:=by
 simp only[never] at ht hk;refine aj.enter func174 rfl ntmps174 rfl (go ?_);refine dq (fun h=>?_) (fun h=>?_)<;>refine go ?_
 ·exact⟨congrArg (Value.int .u64) (by rw[lL,if_pos (by simp only[never];omega)];rfl),rfl⟩
 ·exact⟨congrArg (Value.int .u64) (by rw[lL,if_neg (by simp only[never];omega)];rfl),rfl⟩
theorem Ye {t k:Nat}:lL t k≤never:=by
 simp only[lL];split<;>omega
theorem aah (now d s g:Nat)(hs:s≤never)(hg:g≤never)(w:World):aj prog 163 [uV now,uV d,uV s,uV g].toArray w fun v w'=>v=iV (u6 now d s g)∧w'=w:=by
 refine aj.enter func163 rfl ntmps163 rfl (go ?_);refine GX.call (Dz d now w) rfl rfl rfl rfl rfl rfl ?_;rintro _ _ ⟨rfl,rfl⟩;refine go ?_;refine dq (fun h=>?_) (fun h=>?_)<;>refine go ?_
 ·simp[u6,due,h]
 refine GX.call (Dz s now _) rfl rfl rfl rfl rfl rfl ?_;rintro _ _ ⟨rfl,rfl⟩;refine go ?_;refine dq (fun h1=>?_) (fun h1=>?_)<;>refine go ?_
 ·simp[u6,due,h,h1]
 refine GX.call (Ha s g hs hg _) rfl rfl rfl rfl rfl rfl ?_;rintro _ _ ⟨rfl,rfl⟩;refine go ?_;refine GX.call (Dz (lL s g) now _) rfl rfl rfl rfl rfl rfl ?_;rintro _ _ ⟨rfl,rfl⟩;refine go ?_;refine dq (fun h2=>?_) (fun h2=>?_)<;>refine go ?_
 ·simp[u6,due,h,h1,h2]
 ·simp[u6,due,h,h1,h2]
end
end Go.Proofs.YtoloaehmppcjoaaGreat.V.M
namespace Go.Proofs.YtoloaehmppcjoaaGreat.V
open Go.Shelf
theorem mV {P:Program}{t:TypeId}{z:Value}(h:(P.info? t).bind (·.zero)=some z)(w:World):(zeroValue t).run P w = .ok z w:=by
 cases hi:P.info? t with
 |none=>rw[hi] at h;cases h
 |some i=>
  rw[hi] at h;have hz:i.zero=some z:=h;simp[zeroValue,typeInfo,hi,hz]
def jJ:Ren:=⟨fun|6=>248|8=>140|9=>321|19=>218|20=>219|21=>364|22=>365|23=>366|24=>367|25=>368|26=>369|27=>370|28=>371|29=>372|31=>301|32=>302|36=>390|37=>391|38=>392|39=>206|41=>403|_=>0,fun|0=>0|3=>3|4=>4|5=>5|9=>9|26=>22|27=>22|29=>9|32=>246|35=>340|36=>341|41=>345|44=>348|46=>38|53=>414|57=>395|63=>455|64=>222|_=>0,fun _=>0⟩
theorem akw:Bears prog 248 (SlBodyM.n6 jJ):=⟨"slices.Sort[[]string,string]",by decide,by kernel_rfl⟩
theorem akx:(prog).funcs[140]?=some (SlBodyM.n8 jJ):=ai
theorem aky:Bears prog 321 (SlBodyM.n9 jJ):=⟨"slices.pdqsortOrdered[string]",by decide,by kernel_rfl⟩
theorem ake:(prog).funcs[218]?=some (SlBodyM.n19 jJ):=ai
theorem akf:(prog).funcs[219]?=some (SlBodyM.n20 jJ):=ai
theorem akg:Bears prog 364 (SlBodyM.n21 jJ):=⟨"slices.insertionSortOrdered[string]",by decide,by kernel_rfl⟩
theorem akh:Bears prog 365 (SlBodyM.n22 jJ):=⟨"slices.heapSortOrdered[string]",by decide,by kernel_rfl⟩
theorem aki:Bears prog 366 (SlBodyM.n23 jJ):=⟨"slices.breakPatternsOrdered[string]",by decide,by kernel_rfl⟩
theorem akj:Bears prog 367 (SlBodyM.n24 jJ):=⟨"slices.choosePivotOrdered[string]",by decide,by kernel_rfl⟩
theorem akk:Bears prog 368 (SlBodyM.n25 jJ):=⟨"slices.reverseRangeOrdered[string]",by decide,by kernel_rfl⟩
theorem akl:Bears prog 369 (SlBodyM.n26 jJ):=⟨"slices.partialInsertionSortOrdered[string]",by decide,by kernel_rfl⟩
theorem akm:Bears prog 370 (SlBodyM.n27 jJ):=⟨"cmp.Less[string]",by decide,by kernel_rfl⟩
theorem akn:Bears prog 371 (SlBodyM.n28 jJ):=⟨"slices.partitionEqualOrdered[string]",by decide,by kernel_rfl⟩
theorem ako:Bears prog 372 (SlBodyM.n29 jJ):=⟨"slices.partitionOrdered[string]",by decide,by kernel_rfl⟩
theorem akp:(prog).funcs[301]?=some (SlBodyM.n31 jJ):=ai
theorem akq:(prog).funcs[302]?=some (SlBodyM.n32 jJ):=ai
theorem akr:Bears prog 390 (SlBodyM.n36 jJ):=⟨"slices.siftDownOrdered[string]",by decide,by kernel_rfl⟩
theorem aks:Bears prog 391 (SlBodyM.n37 jJ):=⟨"slices.medianAdjacentOrdered[string]",by decide,by kernel_rfl⟩
theorem akt:Bears prog 392 (SlBodyM.n38 jJ):=⟨"slices.medianOrdered[string]",by decide,by kernel_rfl⟩
theorem aku:Bears prog 206 (SlBodyM.n39 jJ):=⟨"cmp.isNaN[string]",by decide,by kernel_rfl⟩
theorem akv:Bears prog 403 (SlBodyM.n41 jJ):=⟨"slices.order2Ordered[string]",by decide,by kernel_rfl⟩
theorem UX:cD prog 0=some (false,1):=ai
theorem afO:((prog).info? 0).bind (·.zero)=some ((Value.tuple #[])):=ai
theorem UY:cD prog 3=some (false,1):=ai
theorem afP:((prog).info? 3).bind (·.zero)=some ((Value.int IntKind.i64 0)):=ai
theorem U9:cD prog 4=some (false,1):=ai
theorem afW:((prog).info? 4).bind (·.zero)=some ((Value.bool false)):=ai
theorem U':cD prog 5=some (false,1):=ai
theorem afX:((prog).info? 5).bind (·.zero)=some ((Value.int IntKind.u8 0)):=ai
theorem Jj:cD prog 9=some (false,1):=ai
theorem Ve:((prog).info? 9).bind (·.zero)=some ((Value.string { data:=#[]})):=ai
theorem Jk:cD prog 22=some (false,1):=ai
theorem Vf:((prog).info? 22).bind (·.zero)=some ((Value.slice none 0 0)):=ai
theorem Va:cD prog 246=some (false,1):=ai
theorem afY:((prog).info? 246).bind (·.zero)=some ((Value.int IntKind.u64 0)):=ai
theorem Vb:cD prog 340=some (false,1):=ai
theorem afZ:((prog).info? 340).bind (·.zero)=some ((Value.int IntKind.i64 0)):=ai
theorem Vc:cD prog 341=some (false,1):=ai
theorem af0:((prog).info? 341).bind (·.zero)=some ((Value.tuple #[Value.int IntKind.i64 0,Value.int IntKind.i64 0])):=ai
theorem Vd:cD prog 345=some (false,1):=ai
theorem af1:((prog).info? 345).bind (·.zero)=some ((Value.tuple #[Value.int IntKind.i64 0,Value.bool false])):=ai
theorem UZ:cD prog 348=some (false,1):=ai
theorem afQ:((prog).info? 348).bind (·.zero)=some ((Value.int IntKind.u32 0)):=ai
theorem U0:cD prog 38=some (false,1):=ai
theorem afR:((prog).info? 38).bind (·.zero)=some ((Value.int IntKind.u64 0)):=ai
theorem U2:cD prog 414=some (false,1):=ai
theorem afS:((prog).info? 414).bind (·.zero)=some ((Value.int IntKind.u64 0)):=ai
theorem U3:cD prog 395=some (false,1):=ai
theorem afT:((prog).info? 395).bind (·.zero)=some ((Value.pointer none)):=ai
theorem U6:cD prog 455=some (false,1):=ai
theorem afU:((prog).info? 455).bind (·.zero)=some ((Value.pointer none)):=ai
theorem U7:cD prog 222=some (false,1):=ai
theorem afV:((prog).info? 222).bind (·.zero)=some ((Value.tuple #[Value.int IntKind.i64 0,Value.int IntKind.i64 0])):=ai
theorem XS:SlLaysM.n6 prog jJ:={ mixed:=by kernel_rfl,f6:=akw,f8:=akx,f9:=aky,f19:=ake,f20:=akf,f21:=akg,f22:=akh,f23:=aki,f24:=akj,f25:=akk,f26:=akl,f27:=akm,f28:=akn,f29:=ako,f31:=akp,f32:=akq,f36:=akr,f37:=aks,f38:=akt,f39:=aku,f41:=akv,t0:=by kernel_rfl,a0:=fun w=>(aC.mk UX).isAgg w,z0:=fun w=>(aC.mk UX).sizeOf w,v0:=mV afO,t3:=by kernel_rfl,a3:=fun w=>(aC.mk UY).isAgg w,z3:=fun w=>(aC.mk UY).sizeOf w,v3:=mV afP,t4:=by kernel_rfl,a4:=fun w=>(aC.mk U9).isAgg w,z4:=fun w=>(aC.mk U9).sizeOf w,v4:=mV afW,t5:=by kernel_rfl,a5:=fun w=>(aC.mk U').isAgg w,z5:=fun w=>(aC.mk U').sizeOf w,v5:=mV afX,t9:=by kernel_rfl,a9:=fun w=>(aC.mk Jj).isAgg w,z9:=fun w=>(aC.mk Jj).sizeOf w,v9:=mV Ve,t26:=by kernel_rfl,a26:=fun w=>(aC.mk Jk).isAgg w,z26:=fun w=>(aC.mk Jk).sizeOf w,v26:=mV Vf,t27:=by kernel_rfl,a27:=fun w=>(aC.mk Jk).isAgg w,z27:=fun w=>(aC.mk Jk).sizeOf w,v27:=mV Vf,t29:=by kernel_rfl,a29:=fun w=>(aC.mk Jj).isAgg w,z29:=fun w=>(aC.mk Jj).sizeOf w,v29:=mV Ve,t32:=by kernel_rfl,a32:=fun w=>(aC.mk Va).isAgg w,z32:=fun w=>(aC.mk Va).sizeOf w,v32:=mV afY,t35:=by kernel_rfl,a35:=fun w=>(aC.mk Vb).isAgg w,z35:=fun w=>(aC.mk Vb).sizeOf w,v35:=mV afZ,t36:=by kernel_rfl,a36:=fun w=>(aC.mk Vc).isAgg w,z36:=fun w=>(aC.mk Vc).sizeOf w,v36:=mV af0,t41:=by kernel_rfl,a41:=fun w=>(aC.mk Vd).isAgg w,z41:=fun w=>(aC.mk Vd).sizeOf w,v41:=mV af1,t44:=by kernel_rfl,a44:=fun w=>(aC.mk UZ).isAgg w,z44:=fun w=>(aC.mk UZ).sizeOf w,v44:=mV afQ,t46:=by kernel_rfl,a46:=fun w=>(aC.mk U0).isAgg w,z46:=fun w=>(aC.mk U0).sizeOf w,v46:=mV afR,t53:=by kernel_rfl,a53:=fun w=>(aC.mk U2).isAgg w,z53:=fun w=>(aC.mk U2).sizeOf w,v53:=mV afS,t57:=by kernel_rfl,a57:=fun w=>(aC.mk U3).isAgg w,z57:=fun w=>(aC.mk U3).sizeOf w,v57:=mV afT,t63:=by kernel_rfl,a63:=fun w=>(aC.mk U6).isAgg w,z63:=fun w=>(aC.mk U6).sizeOf w,v63:=mV afU,t64:=by kernel_rfl,a64:=fun w=>(aC.mk U7).isAgg w,z64:=fun w=>(aC.mk U7).sizeOf w,v64:=mV afV}
end Go.Proofs.YtoloaehmppcjoaaGreat.V
namespace Go.Proofs.YtoloaehmppcjoaaGreat.V.M
section
open Go.RowKit Go.Shelf Go.Sort
attribute [local irreducible] GX GO
def uY (x:Bs)(out:List Bs):List Bs:=out.takeWhile (fun y=>decide (y<x))++x::out.dropWhile (fun y=>decide (y<x))
def fj (l:List Bs):List Bs:=l.foldl (fun out x=>uY x out) []
theorem Ue (x:Bs)(out:List Bs):(uY x out).Perm (x::out):=by
 unfold uY;have h:=List.takeWhile_append_dropWhile (p:=fun y=>decide (y<x)) (l:=out);refine(List.perm_middle).trans ?_;rw[h]
theorem aj6 (l:List Bs):∀out:List Bs,(l.foldl (fun out x=>uY x out) out).Perm (out++l):=by
 induction l with
 |nil=>intro out;simp
 |cons x l ih=>
  intro out;simp only[pL];refine(ih _).trans ?_;refine((Ue x out).append_right l).trans ?_;exact(List.perm_middle (l₁:=out) (a:=x) (l₂:=l)).symm
theorem lJ (l:List Bs):(fj l).Perm l:=by
 have:=aj6 l [];simpa[fj] using this
def oQ (l:List Bs):Prop:=l.Pairwise (fun x y=>x≤y)
theorem aeI (x:Bs)(out:List Bs)(h:oQ out):oQ (uY x out):=by
 induction out with
 |nil=>simp[uY,oQ]
 |cons y r ih=>
  unfold oQ at h;have h':=lN.1 h;unfold uY
  by_cases hy:y<x
  ·simp only[List.takeWhile_cons,hy,decide_true,if_true,List.dropWhile_cons,jK];have T7:=ih h'.2;unfold uY oQ at T7;refine lN.2 ⟨fun z hz=>?_,T7⟩;have:=(Ue x r).mem_iff (a:=z);unfold uY at this
   rcases bU.1 (this.1 hz) with rfl|hz
   ·exact List.le_of_lt hy
   ·exact h'.1 z hz
  ·simp only[List.takeWhile_cons,hy,decide_false,if_false,List.dropWhile_cons,kC,vA];refine lN.2 ⟨fun z hz=>?_,h⟩;have TX:x≤y:=List.not_lt.1 hy
   rcases bU.1 hz with rfl|hz
   ·exact TX
   ·exact List.le_trans TX (h'.1 z hz)
theorem aj7 (l:List Bs):∀out:List Bs,oQ out→oQ (l.foldl (fun out x=>uY x out) out):=by
 induction l with
 |nil=>intro out h;exact h
 |cons x l ih=>intro out h;exact ih _ (aeI x out h)
theorem CR (l:List Bs):oQ (fj l):=aj7 l [] (by simp[oQ])
theorem agX (l:List Bs):oQ (l.mergeSort fun x y=>decide (x≤y)):=by
 have:=List.pairwise_mergeSort (le:=fun x y:Bs=>decide (x≤y)) (fun a b c h1 h2=>by
  simp only[oO] at *;exact List.le_trans h1 h2) (fun a b=>by
  simp only[Bool.or_eq_true,oO];exact List.le_total a b) l
 unfold oQ;simpa using this
theorem akX (l:List Bs):(l.mergeSort fun x y=>decide (x≤y))=fj l:=by
 have hp:(l.mergeSort fun x y=>decide (x≤y)).Perm (fj l):=(List.mergeSort_perm l _).trans (lJ l).symm;exact hp.eq_of_pairwise (fun a b _ _ h1 h2=>List.le_antisymm h1 h2) (agX l) (CR l)
def aK (l:List Bs):List Value:=l.map str
@[simp] theorem VE (l:List Bs):(aK l).length=l.length:=by simp[aK]
theorem yU (l:List Bs):∀u∈aK l,u.oneCell'=true:=by
 intro u hu;obtain⟨x,_,rfl⟩:=bG.1 hu;rfl
theorem Gc {w:World}{a:Option Addr}{l:List Bs}(h:bN w a (aK l)){i:Nat}(hi:i<l.length):∃b o,a=some ⟨b,o,none⟩∧∀j:Int,j.toNat=i→At w b (o+j.toNat*1) [str l[i]]:=by
 obtain⟨b,o,rfl,hA⟩:=h.sC (by simp;omega);refine⟨b,o,rfl,fun j hj=>?_⟩;rw[hj];have:=At.one hA (show(aK l)[i]?=some (str l[i]) by simp[aK,hi]);simpa using this
theorem XT (g cap n:Nat)(zs:List Bs)(hn:zs.length=n)(w:World)(hO:aH w 9 1 (some g) (some ⟨g,0,none⟩) n cap (aK zs))(hz:zs.length≤100000) :
  aj prog 248 [.slice (some ⟨g,0,none⟩) n cap].toArray w fun _ w'=>aH w' 9 1 (some g) (some ⟨g,0,none⟩) n cap (aK (fj zs))∧Mod (· = g) w w':=by
 subst hn;obtain⟨cur,hg,r1,r2,r3,r4⟩:=rm hO;have hH:=holds_of_block (ss:=zs) hg (by rw[mj] at r4;exact r4);refine aj.Ay ((AnyM.slices_Sort_string (ρ:=jJ) XS g 0 cap zs w hH (rA.1 hg).1 ah).mono ?_);rintro e w' ⟨rfl,n,os,rfl⟩;refine⟨_,rfl,?_,?_⟩
 ·have h:=ownsRow_sorted (n:=n) (os:=os) (ts:=zs.mergeSort fun x y=>decide (x≤y)) (ss:=zs) (base:=0) (by simp) (bh _) hg r1 r2 (by simpa using r3);rw[akX] at h ⊢;exact⟨by rw[VE,(lJ zs).length_eq,mj], .inr ⟨g,rfl,rfl,h⟩⟩
 ·exact(Mod.OB (grownBy_sorted _)).weaken fun k _ hk=>by cases hk;rfl
end
section
attribute [local irreducible] GO GX
def Pw (_:Unit):Value := .agg [].toArray
def setOf (l:List Bs):List (Bs×Unit):=l.foldl (fun M s=>bC M s ()) []
theorem ajx (l:List Bs)(s:Bs):setOf (l++[s])=bC (setOf l) s ():=by simp[setOf]
theorem O8 (l:List Bs):∀M:List (Bs×Unit),(M.map (·.1)).Nodup→((l.foldl (fun M s=>bC M s ()) M).map (·.1)).Nodup∧∀x,x∈(l.foldl (fun M s=>bC M s ()) M).map (·.1)↔x∈M.map (·.1)∨x∈l:=by
 induction l with
 |nil=>intro M h;exact⟨h,by simp⟩
 |cons s l ih=>
  intro M h;obtain⟨h1,h2⟩:=ih (bC M s ()) (sB h s ());refine⟨h1,fun x=>?_⟩;simp only[pL];rw[h2,Jh];split
  ·rename_i hs
   simp only[bU];constructor
   ·rintro(h|h)<;>simp[h]
   ·rintro(h|rfl|h)
    ·exact .inl h
    ·exact .inl hs
    ·exact .inr h
  ·simp only[cx,bU,uc,or_false,or_assoc]
def bY (l:List Bs):List Bs×Int:=if l.all eV=false then([],2) else if 16<(setOf l).length then([],5) else(fj ((setOf l).map (·.1)),0)
theorem akV {l m:List Bs}(h:l.Perm m):fj l=fj m:=
 ((lJ l).trans (h.trans (lJ m).symm)).eq_of_pairwise (fun a b _ _ h1 h2=>List.le_antisymm h1 h2) (CR l) (CR m)
def iF (w w':World)(el:TypeId)(sz:Nat)(a:Option Addr)(n c:Nat)(cs:List Value):Prop:=
 ∃ob,aH w' el sz ob a n c cs∧(∀x,ob=some x→w.heap.size≤x)∧∀x,a=some x→ob=some x.block
theorem iF.nil (w w':World)(el:TypeId)(sz:Nat):iF w w' el sz none 0 0 []:=⟨none,aH.nil _ _ _,(fun _ h=>nomatch h),(fun _ h=>nomatch h)⟩
theorem iF.bL {w w':World}{el:TypeId}{sz:Nat}{a:Option Addr}{n c:Nat}{cs:List Value}(h:iF w w' el sz a n c cs):bN w' a cs:=h.choose_spec.1.bL
theorem iF.new {w w':World}{el:TypeId}{sz:Nat}{a:Option Addr}{n c:Nat}{cs:List Value}(h:iF w w' el sz a n c cs){x:Addr}(hx:a=some x):w.heap.size≤x.block:=let⟨_,_,h1,h2⟩:=h;h1 _ (h2 _ hx)
theorem iF.mod {S:Nat→Prop}{w w1 w2:World}{el:TypeId}{sz:Nat}{a:Option Addr}{n c:Nat}{cs:List Value}(h:iF w w1 el sz a n c cs)(hm:Mod S w1 w2)(hn:∀x,w.heap.size≤x→¬S x):iF w w2 el sz a n c cs:=
 let⟨ob,h1,h2,h3⟩:=h;⟨ob,h1.mod hm (fun x hx=>hn _ (h2 _ (h3 x hx))),h2,h3⟩
theorem iF.ext {w w1 w2:World}{el:TypeId}{sz:Nat}{a:Option Addr}{n c:Nat}{cs:List Value}(h:iF w w1 el sz a n c cs)(hm:Ext w1 w2):iF w w2 el sz a n c cs:=h.mod hm fun _ _ h=>h
theorem iF.sD {w0 w w':World}{el:TypeId}{sz:Nat}{a:Option Addr}{n c:Nat}{cs:List Value}(h:iF w w' el sz a n c cs)(hs:w0.heap.size≤w.heap.size):iF w0 w' el sz a n c cs:=
 let⟨ob,h1,h2,h3⟩:=h;⟨ob,h1,fun x hx=>dF hs (h2 x hx),h3⟩
theorem Lk {w w1 w2:World}{b:Nat}(h:Ext w w1)(hb:w.heap.size≤b)(hm:Mod (· = b) w1 w2):Ext w w2:=h.then hm fun i hi e=>by subst e;omega
theorem Lj {w w1 w2:World}{ob:Option Nat}(h:Ext w w1)(hb:∀x,ob=some x→w.heap.size≤x)(hm:Mod (fun k=>some k=ob) w1 w2):Ext w w2:=h.then hm fun i hi e=>by have:=hb i e.symm;omega
theorem Ya (l:List Bs)(n:Nat)(hn:l.length=n)(hl:n<2^40)(a:Option Addr)(c:Nat)(w:World)(hA:bN w a (aK l)) :
  aj prog 172 [.slice a n c].toArray w fun v w'=>(∃a' c',v = .tuple #[.slice a' (bY l).1.length c',iV (bY l).2]∧iF w w' 9 1 a' (bY l).1.length c' (aK (bY l).1))∧Ext w w':=by
 subst hn;refine aj.enter func172 rfl ntmps172 rfl (go ?_);refine GX.makeMap str Pw rfl rfl rfl fun m w1 rX vW cX=>go ?_
 have qX:w.heap.size≤m:=by omega
 refine GC.bR [4,10,11] (fun k:Nat=>[(12, .int .i64 k)]) (fun k w'=>k≤l.length∧(l.take k).all eV=true∧dY w' m str Pw (setOf (l.take k))∧Ext w w') (fun k=>l.length - k) 0 rfl rfl ⟨bh _,rfl,vW,cX⟩ ?_;rintro k w2 ⟨hk,gA,mC,dx⟩;refine go ?_;refine dq (fun hc=>?_) (fun hc=>?_)<;>refine go ?_
 ·have aN:k<l.length:=by omega
  obtain⟨b,o,e,gN⟩:=Gc (hA.ext dx) aN;subst e;refine GX.next rfl (GO.indexAddr rfl rfl rfl rfl ah ah rfl ?_);refine GX.lD (gN (k:Int) ah) rfl rfl rfl rfl ?_;refine go ?_;refine GX.call (Jg l[k] _) rfl rfl rfl rfl rfl rfl ?_;rintro _ _ ⟨rfl,rfl⟩;refine go ?_;refine dq (fun ht=>?_) (fun ht=>?_)<;>refine go ?_
  ·have hf:l.all eV=false:=by
    rw[List.all_eq_false];exact⟨l[k],pI aN,by simpa[eV] using ht⟩
   have hS:bY l=([],2):=by simp[bY,hf]
   rw[hS];exact⟨⟨none,0,rfl,iF.nil _ _ _ _⟩,dx⟩
  refine GX.mapUpdate (v:=()) mC ae0 rfl rfl rfl rfl rfl fun w3 rR x7=>go ?_
  refine GQ.bj (k+1) rfl ⟨aN,?_,?_,Lk dx qX x7⟩ ah
  ·rw[lh aN,List.all_append,gA];simpa[eV] using ht
  ·rw[lh aN,ajx];exact rR
 have kQ:k=l.length:=by omega
 subst kQ;rw[kD] at gA mC;refine GX.NU mC rfl rfl rfl rfl (go ?_);refine dq (fun pV=>?_) (fun pV=>?_)<;>refine go ?_
 ·have hS:bY l=([],5):=by simp[bY,gA];omega
  rw[hS];exact⟨⟨none,0,rfl,iF.nil _ _ _ _⟩,dx⟩
 have hS:bY l=(fj ((setOf l).map (·.1)),0):=by simp[bY,gA];omega
 refine GX.NU mC rfl rfl rfl rfl (go ?_);refine GX.makeSlice rfl rfl rfl rfl rfl rfl ah ah ah ah fun g w3 hg mD iK=>go ?_
 have BG:w.heap.size≤g:=by have:=dx.size;omega
 refine GX.range (mC.ext iK) rfl rfl rfl rfl fun it w4 Iq hI4 i'=>go ?_
 have his:w3.heap.size≤it:=by omega
 have hg3:g<w3.heap.size:=(mD.block).2;refine GC.bR [30] (fun x:List Bs×Option Nat×Option Addr×Nat×List (Bs×Unit)×Nat=>[(7, .slice x.2.2.1 x.2.2.2.2.2 x.2.2.2.1)])
  (fun x w'=>x.1.length=x.2.2.2.2.2∧aH w' 9 1 x.2.1 x.2.2.1 x.2.2.2.2.2 x.2.2.2.1 (aK x.1)∧(∃q,x.2.1=some q∧w.heap.size≤q∧q≠it∧q≠m)∧(x.1++x.2.2.2.2.1.map (·.1)).Perm ((setOf l).map (·.1))∧nN w' it m str Pw (setOf l) x.2.2.2.2.1∧Ext w w') (fun x=>x.2.2.2.2.1.length)
  ([],some g,some ⟨g,0,none⟩,(setOf l).length,setOf l,0) rfl rfl ⟨rfl,by simpa[aK] using mD.ext i',⟨g,rfl,BG,by omega,by have:=mC.lt;omega⟩,pD _,hI4,(dx.trans iK).trans i'⟩ ?_
 rintro⟨out,ob,a1,c1,R,nO⟩ w5 ⟨IK,hO,⟨q,hq,IV,M5,Tx⟩,hp,hI,DQ⟩;dsimp only at IK hO hq hp hI ⊢;subst hq;refine go ?_;refine GX.Wd hI rfl rfl rfl rfl (fun hR=>go ?_) fun y R1 R2 w6 hR hI6 zP qJ=>go ?_
 ·subst hR;rw[tW,fB] at hp;obtain⟨ha,hb⟩:=hO.block;subst ha;have hlen:out.length≤16:=by rw[hp.length_eq,fH];omega
  refine GX.call (XT q c1 nO out IK _ hO ah) rfl rfl rfl rfl rfl rfl ?_;rintro v w7 ⟨qL,x8⟩;refine go ?_;rw[hS];have hu:fj ((setOf l).map (·.1))=fj out:=akV hp.symm;have hle:nO=(fj out).length:=IK.symm.trans ((lJ out).length_eq).symm;refine⟨⟨some ⟨q,0,none⟩,c1,by rw[hu,hle],?_⟩,Lk DQ IV x8⟩;rw[hu,←hle];exact⟨some q,qL,fun x hx=>by cases hx;exact IV,fun x hx=>by cases hx;rfl⟩
 ·refine GX.yR rfl rfl rfl rfl rfl rfl rfl rfl rfl fun b7 w7 hb7 qL oZ=>go ?_
  have amN:Mod (fun k=>some k=some it) w5 w6:=zP.weaken fun k _ h=>congrArg some h
  have hOq:=(hO.mod zP (fun x hx=>by obtain⟨h1,_⟩:=hO.block;rw[h1] at hx;cases hx;exact M5)).ext oZ;have uH:out.length≤16:=by
   have:=hp.length_eq;simp only[bH,fH] at this;omega
  refine GX.append hOq qL.bL rfl rfl rfl rfl rfl rfl rfl (yU [y.1]) ah ah fun cQ a' c' w8 zH nr Ec Mg=>go ?_
  have BT:m<w5.heap.size:=hI.map.lt;have iv:Ext w w6:=Lk DQ (by have:=dx.size;have:=iK.size;omega) zP;have acT:∃q',cQ=some q'∧w.heap.size≤q'∧q'≠it∧q'≠m:=by
   cases di:cQ with
   |none=>
    exfalso;rw[di] at zH;obtain⟨uB,⟨_,_,_,h0⟩|⟨_,h1,_⟩⟩:=zH
    ·cases qP:a' with
     |none=>have:=h0 qP;omega
     |some x=>
      rcases Mg x qP with h|⟨_,h⟩
      ·rw[di] at h;cases h
      ·rw[di] at h;cases h
    ·cases h1
   |some q'=>
    rcases Ec q' di with h|h
    ·cases h;exact⟨q,rfl,IV,M5,Tx⟩
    ·have h1:=oZ.size;have h2:=zP.size;have h3:=hI.lt;have h4:=iv.size;exact⟨q',rfl,by omega,by omega,by omega⟩
  refine GQ.bj (out++[y.1],cQ,a',c',R1++R2,nO+1) rfl ⟨by simp[IK],by simpa[aK,Value.cells,str] using zH,acT,?_,?_,?_⟩ (by rw[hR];simp)
  ·refine List.Perm.trans ?_ hp;rw[hR];simp only[eA,cJ,cS,List.singleton_append];exact(List.Perm.append_left _ (List.perm_middle (l₁:=R1.map (·.1)) (a:=y.1) (l₂:=R2.map (·.1))).symm)
  ·exact(hI6.mod oZ id id).mod nr (fun e=>Tx (Option.some.inj e).symm) (fun e=>M5 (Option.some.inj e).symm)
  ·exact Lj (iv.trans oZ) (fun x hx=>by cases hx;exact IV) nr
def eu:Nat:=18446744073709551616
def ur (h:Nat)(s:Bs):Nat:=s.foldl (fun h c=>(31*h+c.toNat+1) % eu) h
def Ob (w:Nat):Nat:=
 let a:=w ^^^ (w*8192 % eu)
 let b:=a ^^^ (a / 128)
 b ^^^ (b*131072 % eu)
def bK (aJ:Nat)(s:Bs):Nat:=Ob (ur aJ s)
theorem Rl {h:Nat}(hh:h<eu)(s:Bs):ur h s<eu:=by
 induction s generalizing h with
 |nil=>exact hh
 |cons c s ih=>exact ih (e7 _ (by decide))
theorem Gn {a b:Nat}(ha:a<eu)(hb:b<eu):a ^^^ b<eu:=Nat.xor_lt_two_pow (n:=64) ha hb
theorem agZ {w:Nat}(hw:w<eu):Ob w<eu:=by
 have h1:w ^^^ (w*8192 % eu)<eu:=Gn hw (e7 _ (by decide));have h2:(w ^^^ (w*8192 % eu)) ^^^ ((w ^^^ (w*8192 % eu)) / 128)<eu:=Gn h1 (Nat.lt_of_le_of_lt (Nat.div_le_self _ _) h1);exact Gn h2 (e7 _ (by decide))
theorem Se {aJ:Nat}(hs:aJ<eu)(s:Bs):bK aJ s<eu:=agZ (Rl hs s)
theorem ag0 (x:Nat)(hx:x<eu)(w:World):aj prog 377 [uV x].toArray w fun v w'=>v=uV (Ob x)∧w'=w:=by
 have e1:IntKind.u64.wrap ((x:Int)*2^13)=((x*8192 % eu:Nat):Int):=XE x 13 13 rfl;have h1:x*8192 % eu<eu:=e7 _ (by decide);have ha:x ^^^ (x*8192 % eu)<eu:=Gn hx h1;have h2:(x ^^^ (x*8192 % eu)) / 128<eu:=Nat.lt_of_le_of_lt (Nat.div_le_self _ _) ha;have hb:(x ^^^ (x*8192 % eu)) ^^^ ((x ^^^ (x*8192 % eu)) / 128)<eu:=Gn ha h2;refine aj.enter func377 rfl ntmps377 rfl (go ?_);refine GX.next rfl (GO.shl rfl rfl rfl rfl rfl (by decide) e1 ?_);refine GX.next rfl (GO.bits rfl rfl rfl rfl rfl (fun w=>O2 .u64 rfl _ _ _ hx h1) ?_);refine go ?_;refine GX.next rfl (GO.shr (c:=(((x ^^^ (x*8192 % eu)) / 128:Nat):Int)) rfl rfl rfl rfl rfl (by decide) (by simp[IntKind.bits]) ?_);refine GX.next rfl (GO.bits rfl rfl rfl rfl rfl (fun w=>O2 .u64 rfl _ _ _ ha h2) ?_);refine go ?_;refine GX.next rfl (GO.shl rfl rfl rfl rfl rfl (by decide) (XE _ 17 17 rfl) ?_);refine GX.next rfl (GO.bits rfl rfl rfl rfl rfl (fun w=>O2 .u64 rfl _ _ _ hb (e7 _ (by decide))) ?_);refine go ?_;exact⟨rfl,rfl⟩
theorem abL (h0:Nat)(s:Bs)(hs:s.length<2^40)(w:World):aj prog 378 [uV h0,str s].toArray w fun v w'=>v=uV (ur h0 s)∧w'=w:=by
 refine aj.enter func378 rfl ntmps378 rfl (go ?_);refine GC.bR [1,7] (fun k:Nat=>[(0,uV (ur h0 (s.take k))),(8, .int .i64 k)]) (fun k w'=>k≤s.length∧w=w') (fun k=>s.length - k) 0 rfl rfl ⟨bh _,rfl⟩ ?_;rintro k _ ⟨hk,rfl⟩;refine go ?_;refine dq (fun hc=>?_) (fun hc=>?_)<;>refine go ?_
 ·have aN:k<s.length:=by omega
  refine GX.next rfl (GO.mul rfl rfl rfl rfl rfl rfl ?_);refine go ?_;refine GX.next rfl (GO.Am rfl rfl rfl rfl ah (u:=s[k]) (by simp[aN]) rfl ?_);have hu:s[k].toNat<256:=s[k].toNat_lt;refine go ?_;refine GX.next rfl (GO.add rfl rfl rfl rfl rfl rfl ?_);refine GX.next rfl (GO.add rfl rfl rfl rfl rfl rfl ?_);refine go ?_;have e:ur h0 (s.take (k+1))=(31*ur h0 (s.take k)+s[k].toNat+1) % eu:=by
   rw[lh aN];simp only[ur,vC,pL,List.foldl_nil]
  refine GQ.again (k+1) ?_ ⟨aN,rfl⟩ ah;have e2:IntKind.u64.wrap (IntKind.u64.wrap (IntKind.u64.wrap (31*(ur h0 (s.take k):Int))+(s[k].toNat:Int))+1)=((ur h0 (s.take (k+1)):Nat):Int):=by
   rw[e,Ky,Ky,Ky];simp only[eu];omega
  rw[e2];exact cR (l:=[0,8,1,7]) rfl
 have kQ:k=s.length:=by omega
 subst kQ;rw[kD];exact⟨rfl,rfl⟩
theorem Pg (aJ:Nat)(Ag:aJ<eu)(s:Bs)(hs:s.length<2^40)(w:World):aj prog 333 [uV aJ,str s].toArray w fun v w'=>v=uV (bK aJ s)∧w'=w:=by
 refine aj.enter func333 rfl ntmps333 rfl (go ?_);refine GX.call (abL aJ s hs w) rfl rfl rfl rfl rfl rfl ?_;rintro _ _ ⟨rfl,rfl⟩;refine go ?_;refine GX.call (ag0 (ur aJ s) (Rl Ag s) _) rfl rfl rfl rfl rfl rfl ?_;rintro _ _ ⟨rfl,rfl⟩;refine go ?_;exact⟨rfl,rfl⟩
end
section
abbrev Cs:=List (Option (Bs×Nat))
def filled (T:Cs):Nat:=T.countP (·.isSome)
structure fb (home:Bs→Nat)(T:Cs)(M:List (Bs×Nat)):Prop where
 mem:∀(p:Nat) (x:Bs×Nat),T[p]?=some (some x)→x∈M
 place:∀x∈M,∃d,T[(home x.1+d) % T.length]?=some (some x)∧∀e,e<d→∃y,T[(home x.1+e) % T.length]?=some (some y)∧y.1≠x.1
 nodup:(M.map (·.1)).Nodup
 count:filled T=M.length
 room:M.length<T.length
theorem least {p:Nat→Prop}:∀n,p n→∃m,p m∧∀e,e<m→¬p e:=by
 intro n
 induction n using Nat.strongRecOn with
 |ind n ih=>
  intro h
  by_cases hx:∃e,e<n∧p e
  ·obtain⟨e,h1,h2⟩:=hx;exact ih e h1 h2
  ·exact⟨n,h,fun e he hp=>hx ⟨e,he,hp⟩⟩
theorem QU {α:Type}{q:α→Bool}:∀{l:List α},(∀x∈l,q x=true)→l.countP q=l.length
 | [],_=>rfl
 |x::l,h=>by
  rw[List.countP_cons_of_pos (h x oK),QU fun y hy=>h y (fP _ hy),ek]
theorem fb.free {home:Bs→Nat}{T:Cs}{M:List (Bs×Nat)}(h:fb home T M):∃p,p<T.length∧T[p]?=some none:=by
 by_cases hx:∃p,p<T.length∧T[p]?=some none
 ·exact hx
 ·exfalso;have:filled T=T.length:=QU fun x ke=>by
   obtain⟨i,hi,rfl⟩:=List.getElem_of_mem ke;cases hc:T[i] with
   |some y=>rfl
   |none=>exact absurd ⟨i,hi,by rw[bO hi,hc]⟩ hx
  have h1:=h.count;have h2:=h.room;omega
theorem round {C a b:Nat}(hb:b<C):∃d,(a+d) % C=b:=by
 refine⟨C - a % C+b,?_⟩;have h1:a % C<C:=e7 _ ah;have h2:a=C*(a / C)+a % C:=(Nat.div_add_mod a C).symm;have h3:a+(C - a % C+b)=C*(a / C+1)+b:=by rw[Nat.mul_add,mj];omega
 rw[h3,Nat.mul_add_mod];exact rB hb
theorem fb.find {home:Bs→Nat}{T:Cs}{M:List (Bs×Nat)}(h:fb home T M)(k:Bs) :
  ∃d,(∀e,e<d→∃y,T[(home k+e) % T.length]?=some (some y)∧y.1≠k) ∧
   ((k∉M.map (·.1)∧T[(home k+d) % T.length]?=some none)∨∃n,(k,n)∈M∧T[(home k+d) % T.length]?=some (some (k,n))):=by
 by_cases hk:k∈M.map (·.1)
 ·obtain⟨x,hx,rfl⟩:=bG.1 hk;obtain⟨d,h1,h2⟩:=h.place x hx;exact⟨d,h2, .inr ⟨x.2,hx,h1⟩⟩
 ·obtain⟨p,hp,hf⟩:=h.free;obtain⟨d0,Ej⟩:=round (a:=home k) hp;obtain⟨d,h1,h2⟩:=least (p:=fun d=>T[(home k+d) % T.length]?=some none) d0 (by rw[Ej];exact hf);refine⟨d,fun e he=>?_, .inl ⟨hk,h1⟩⟩;have aN:(home k+e) % T.length<T.length:=e7 _ ah;cases hc:T[(home k+e) % T.length]? with
  |none=>rw[bO aN] at hc;cases hc
  |some o=>
   cases o with
   |none=>exact absurd hc (h2 e he)
   |some y=>exact⟨y,rfl,fun e'=>hk (by rw[←e'];exact bG.2 ⟨y,h.mem _ _ hc,rfl⟩)⟩
theorem abE {T:Cs}{p:Nat}{x:Bs×Nat}(h:T[p]?=some none):filled (T.set p (some x))=filled T+1:=by
 induction T generalizing p with
 |nil=>simp at h
 |cons c T ih=>
  cases p with
  |zero=>simp at h;subst h;simp[filled]
  |succ p=>
   have:=ih (p:=p) (by simpa using h);simp only[filled] at this ⊢;rw[AX,List.countP_cons,List.countP_cons,this];omega
theorem fb.put {home:Bs→Nat}{T:Cs}{M:List (Bs×Nat)}(h:fb home T M){k:Bs}{n d:Nat}(hk:k∉M.map (·.1))(hd:∀e,e<d→∃y,T[(home k+e) % T.length]?=some (some y)∧y.1≠k)
  (hf:T[(home k+d) % T.length]?=some none) (hr:M.length+1<T.length):fb home (T.set ((home k+d) % T.length) (some (k,n))) (M++[(k,n)]):=by
 have hq:(home k+d) % T.length<T.length:=e7 _ ah;have sD:∀(p:Nat) (y:Bs×Nat),T[p]?=some (some y)→(T.set ((home k+d) % T.length) (some (k,n)))[p]?=some (some y):=by
  intro p y hy;have:(home k+d) % T.length≠p:=fun e=>by subst e;rw[hf] at hy;cases hy
  rw[dv this];exact hy
 refine⟨fun p x hx=>?_,fun x hx=>?_,?_,by rw[abE hf,h.count,bH];rfl,by simpa using hr⟩
 ·by_cases hp:(home k+d) % T.length=p
  ·subst hp;rw[dE hq] at hx;cases hx;simp
  ·rw[dv hp] at hx;exact tZ _ (h.mem p x hx)
 ·rw[fQ]
  rcases cx.1 hx with hx|hx
  ·obtain⟨d',h1,h2⟩:=h.place x hx;exact⟨d',sD _ _ h1,fun e he=>let⟨y,q1,q2⟩:=h2 e he;⟨y,sD _ _ q1,q2⟩⟩
  ·simp at hx;subst hx;exact⟨d,dE hq,fun e he=>let⟨y,q1,q2⟩:=hd e he;⟨y,sD _ _ q1,q2⟩⟩
 ·rw[eA,ga];refine⟨h.nodup,by simp,fun a ha b hb e=>?_⟩;simp at hb;subst hb;subst e;exact hk ha
theorem fb.empty (home:Bs→Nat)(C:Nat)(hC:0<C):fb home (List.replicate C none) []:=by
 refine⟨fun p x hx=>?_,fun x hx=>(by cases hx),lP,?_,by simpa using hC⟩
 ·rw[List.getElem?_replicate] at hx;split at hx<;>simp at hx
 ·simp[filled,List.countP_replicate]
end
end Go.Proofs.YtoloaehmppcjoaaGreat.V.M
