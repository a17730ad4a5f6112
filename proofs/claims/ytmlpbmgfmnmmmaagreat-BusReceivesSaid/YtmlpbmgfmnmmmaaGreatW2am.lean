/-
  Parts of the proof. No condition.
-/
import Derived.Test.YtmlpbmgfmnmmmaaGreatW2al
import Derived.Shelf.SlMaps.Clone
import Derived.Test.YtmlpbmgfmnmmmaaGreatW2ah
import Derived.Test.YtmlpbmgfmnmmmaaGreatW2ad
import Derived.Shelf.SortM.Plain
import Derived.Shelf.SortM.SortNone
import Derived.Sort.OwnSorted
set_option linter.unusedVariables false
set_option linter.unusedSimpArgs false
set_option maxRecDepth 8000
set_option maxHeartbeats 8000000
open Go.Proofs.Tryz
namespace Go.Proofs.YtmlpbmgfmnmmmaaGreat.V
open Go.RowKit Go.Maps Go.Shelf
theorem xt {P:Program}{t:TypeId}{z:Value}(h:(P.info? t).bind (·.zero)=some z)(w:World):(zeroValue t).run P w = .ok z w:=by
 cases hi:P.info? t with
 |none=>rw[hi] at h;cases h
 |some i=>
  rw[hi] at h;have hz:i.zero=some z:=h;simp[zeroValue,typeInfo,hi,hz]
def QD:Ren:=⟨fun|5=>87|7=>143|_=>0,fun|3=>4|4=>4|20=>20|23=>91|25=>3|_=>0,fun _=>0⟩
theorem afh:Bears prog 87 (SlBodyW.n5 QD):=⟨"maps.Clone[map[int]bool,int,bool]",by decide,by kernel_rfl⟩
theorem Ux:cy prog 4=some (false,1):=ai
theorem afm:((prog).info? 4).bind (·.zero)=some (Value.bool false):=ai
theorem Uv:cy prog 20=some (false,1):=ai
theorem afk:((prog).info? 20).bind (·.zero)=some (Value.nilIface):=ai
theorem Uw:cy prog 91=some (false,1):=ai
theorem afl:((prog).info? 91).bind (·.zero)=some (Value.map none):=ai
theorem agh:SlLaysW.n5 prog QD:={ mixed:=by kernel_rfl,f5:=afh,f7:=by kernel_rfl,t4:=by kernel_rfl,a4:=fun w=>(aC.mk Ux).isAgg w,z4:=fun w=>(aC.mk Ux).sizeOf w,v4:=xt afm,t20:=by kernel_rfl,a20:=fun w=>(aC.mk Uv).isAgg w,z20:=fun w=>(aC.mk Uv).sizeOf w,v20:=xt afk,t23:=by kernel_rfl,a23:=fun w=>(aC.mk Uw).isAgg w,z23:=fun w=>(aC.mk Uw).sizeOf w,v23:=xt afl}
def QE:Ren:=⟨fun|5=>199|7=>143|_=>0,fun|3=>272|4=>4|20=>20|23=>273|25=>3|_=>0,fun _=>0⟩
theorem afi:Bears prog 199 (SlBodyW.n5 QE):=⟨"maps.Clone[map[int]tagcache/recent.link,int,tagcache/recent.link]",by decide,by kernel_rfl⟩
theorem UA:cy prog 4=some (false,1):=ai
theorem afp:((prog).info? 4).bind (·.zero)=some (Value.bool false):=ai
theorem Uy:cy prog 20=some (false,1):=ai
theorem afn:((prog).info? 20).bind (·.zero)=some (Value.nilIface):=ai
theorem Uz:cy prog 273=some (false,1):=ai
theorem afo:((prog).info? 273).bind (·.zero)=some (Value.map none):=ai
theorem age:SlLaysW.n5 prog QE:={ mixed:=by kernel_rfl,f5:=afi,f7:=by kernel_rfl,t4:=by kernel_rfl,a4:=fun w=>(aC.mk UA).isAgg w,z4:=fun w=>(aC.mk UA).sizeOf w,v4:=xt afp,t20:=by kernel_rfl,a20:=fun w=>(aC.mk Uy).isAgg w,z20:=fun w=>(aC.mk Uy).sizeOf w,v20:=xt afn,t23:=by kernel_rfl,a23:=fun w=>(aC.mk Uz).isAgg w,z23:=fun w=>(aC.mk Uz).sizeOf w,v23:=xt afo}
def QF:Ren:=⟨fun|5=>202|7=>143|_=>0,fun|3=>3|4=>4|20=>20|23=>276|25=>3|_=>0,fun _=>0⟩
theorem afj:Bears prog 202 (SlBodyW.n5 QF):=⟨"maps.Clone[map[int]int,int,int]",by decide,by kernel_rfl⟩
theorem UD:cy prog 4=some (false,1):=ai
theorem afs:((prog).info? 4).bind (·.zero)=some (Value.bool false):=ai
theorem UB:cy prog 20=some (false,1):=ai
theorem afq:((prog).info? 20).bind (·.zero)=some (Value.nilIface):=ai
theorem UC:cy prog 276=some (false,1):=ai
theorem afr:((prog).info? 276).bind (·.zero)=some (Value.map none):=ai
theorem agf:SlLaysW.n5 prog QF:={ mixed:=by kernel_rfl,f5:=afj,f7:=by kernel_rfl,t4:=by kernel_rfl,a4:=fun w=>(aC.mk UD).isAgg w,z4:=fun w=>(aC.mk UD).sizeOf w,v4:=xt afs,t20:=by kernel_rfl,a20:=fun w=>(aC.mk UB).isAgg w,z20:=fun w=>(aC.mk UB).sizeOf w,v20:=xt afq,t23:=by kernel_rfl,a23:=fun w=>(aC.mk UC).isAgg w,z23:=fun w=>(aC.mk UC).sizeOf w,v23:=xt afr}
end Go.Proofs.YtmlpbmgfmnmmmaaGreat.V
namespace Go.Proofs.YtmlpbmgfmnmmmaaGreat.V.M
section
open Go.RowKit Go.Maps Go.Shelf
attribute [local irreducible] GX GO
attribute [local irreducible] aA ao aQ aF fz star
theorem NX {ρ:Ren}(L:SlLaysW.n5 prog ρ){κ ν:Type}{kv:κ→Value}{vv:ν→Value}{M:List (κ×ν)}{o:Og}{w:World}{b:Nat}(hs:Start o w [fz (aQ b kv vv M)]) :
  aj prog (ρ.f 5) [.map (some b)].toArray w (aU o (fun c:Nat => .map (some c)) (fun _=>True) (fun c=>[aQ c kv vv M])):=by
 have hH:=hs.sh;obtain⟨E,clock,h1,h2,h3,h4⟩:=hH.ms .fz;refine aj.Az ((AnyW.maps_Clone L b E.toArray clock w h1).mono ?_);rintro e w' ⟨rfl,rfl⟩;exact⟨_,rfl,_,rfl,trivial,(SH.Od hH (Ext.alloc w _) rfl ⟨E,clock,heap_alloc_new w _,h2,h3,h4⟩).to⟩
def ni (r:Nat)(L:List Nat):It:=star fun x:{ M:eu // Ring M L}=>[oT r x.1]
instance {r:Nat}{L:List Nat}:Zf (ni r L):=Zf.star fun _=>inferInstance
theorem JM {o:Og}{w:World}{l t:List It}{r:Nat}{M:eu}{L:List Nat}(h:SH o w l)(hM:Ring M L)(hp:Pk l [oT r M] t:=by repeat(first|exact Pk.nil|(apply Pk.cons;repeat(first|exact aB.here|apply aB.there)))):SH o w (ni r L::t):=SH.fold (f:=fun x:{ M:eu // Ring M L}=>[oT r x.1]) ⟨M,hM⟩ h hp
theorem Ring.none {M:eu}{L:List Nat}(h:Ring M L){x:Nat}(hx:x∉L):az M (x:Int)=none:=by
 cases hm:az M (x:Int) with
 |none=>rfl
 |some v=>
  rcases(h.key x).1 (by rw[hm];rfl) with e|⟨n,hn,e⟩
  ·omega
  ·exact absurd (by rwa [Int.ofNat.inj e]) hx
theorem abr {L:List Nat}{x:Nat}(h:x∈L):∃L1 L2,L=L1++x::L2∧L.erase x=L1++L2:=by
 obtain⟨L1,L2,h1,h2,h3⟩:=List.exists_erase_eq h;exact⟨L1,L2,h2,h3⟩
theorem aiX {o:Og}{w:World}(hs:Start o w []):aj prog 80 ([]:List Value).toArray w (aU o ak (fun _=>True) (fun r=>[ni r []])):=by
 have hH:=hs.sh;refine aj.enter func80 rfl ntmps80 rfl (gh ?_);refine GX.yB iV yA (h:=fun m w hH=>gh ?_);refine GX.Fp (v:=((-1,-1):Int×Int)) (h:=fun w hH=>gh ?_);refine GX.cw (h:=fun r w hH=>gh ?_);have hR:Ring (bE ([]:eu) (-1) (-1,-1)) []:=⟨fun k=>by simp[bE,az],mF,by simp[CQ,eU,bE,eA,az],rfl,by simp[bE]⟩
 exact⟨r,rfl,trivial,(JM (Fk (M:=bE ([]:eu) (-1) (-1,-1)) hH) hR).to⟩
theorem WN {o:Og}{w:World}{r:Nat}{L:List Nat}(x:Nat)(hx:x<1048576)(hn:x∉L)(hs:Start o w [ni r L]):aj prog 227 [ak r,iV x].toArray w (Po o (iV 0) [ni r (L++[x])]):=by
 obtain⟨⟨M,hM⟩,hs⟩:=Start.un hs;refine(ais x hx (hM.none hn) hs).mono fun v w' ⟨h1,h2⟩=>⟨h1,(JM h2 (hM.add hn)).to⟩
theorem WO {o:Og}{w:World}{r:Nat}{L:List Nat}(x:Nat)(hx:x<1048576)(hn:x∈L)(hs:Start o w [ni r L]):aj prog 175 [ak r,iV x].toArray w (Po o (iV 0) [ni r (L.erase x)]):=by
 obtain⟨⟨M,hM⟩,hs⟩:=Start.un hs;obtain⟨L1,L2,rfl,e⟩:=abr hn;refine(aiZ x hx ((hM.key x).2 (.inr ⟨x,hn,rfl⟩)) hs).mono fun v w' ⟨h1,h2⟩=>⟨h1,by rw[e];exact(JM h2 hM.remove).to⟩
theorem WQ {o:Og}{w:World}{r:Nat}{L:List Nat}(bX:L.Nodup)(x:Nat)(hx:x<1048576)(hn:x∈L)(hs:Start o w [ni r L]):aj prog 232 [ak r,iV x].toArray w (Po o (iV 0) [ni r (L.erase x++[x])]):=by
 have hH:=hs.sh;refine aj.enter func232 rfl ntmps232 rfl (gh ?_);refine GX.bz (hc:=fun _ hs=>WO x hx hn hs) (h:=fun w hH=>gh ?_);refine GX.bz (hc:=fun _ hs=>WN x hx (fun h=>(List.Nodup.mem_erase_iff bX).1 h |>.1 rfl) hs) (h:=fun w hH=>gh ?_);exact⟨rfl,hH.to⟩
def Ow:List Nat→Int×Int
 | []=>(0,9)
 |x::_=>(x,0)
theorem air {o:Og}{w:World}{r:Nat}{L:List Nat}(hl:L.length<2^30)(hs:Start o w [fz (ni r L)]):aj prog 224 [ak r].toArray w (Po o (.tuple #[iV (Ow L).1,iV (Ow L).2]) []):=by
 have hH:=hs.sh;obtain⟨⟨M,hM⟩,hH⟩:=SH.dQ hH;replace hH:=SH.dW hH;dsimp only at hH;refine aj.enter func224 rfl ntmps224 rfl (gh ?_);refine GX.aL (hc:=fun _ hs=>FL hs) (h:=fun w hE hH=>gh ?_);refine GX.aL (hc:=fun _ hs=>aiT (M:=M) (by have:=hM.len;omega) hs) (h:=fun w hE hH=>gh ?_);refine ifs (fun h1=>?_) (fun h1=>?_)<;>refine gh ?_
 ·have e:L=[]:=ga (by have:=hM.len;omega);rw[e];exact⟨rfl,hH.to⟩
 ·obtain⟨x,T,e⟩:∃x T,L=x::T:=List.exists_cons_of_length_pos (by have:=hM.len;omega);rw[e] at hM ⊢;obtain⟨b,hH⟩:=SH.dQ hH;replace hH:=SH.dW hH;refine gh ?_;refine GX.lP (hV:=Fm M (-1)) (h:=gh ?_);refine⟨?_,hH.to⟩;rw[hM.first];rfl
theorem aal {M:eu}{o:Og}{w:World}{b:Nat}(hs:Start o w [fz (aQ b iV yA M)]):aj prog 199 [.map (some b)].toArray w (aU o (fun c:Nat => .map (some c)) (fun _=>True) (fun c=>[aQ c iV yA M])):=
 NX age hs
theorem aiq {o:Og}{w:World}{r:Nat}{L:List Nat}(hs:Start o w [fz (ni r L)]):aj prog 119 [ak r].toArray w (aU o ak (fun _=>True) (fun c=>[ni c L])):=by
 have hH:=hs.sh;obtain⟨⟨M,hM⟩,hH⟩:=SH.dQ hH;replace hH:=SH.dW hH;dsimp only at hH;refine aj.enter func119 rfl ntmps119 rfl (gh ?_);refine GX.aL (hc:=fun _ hs=>FL hs) (h:=fun w hE hH=>gh ?_);obtain⟨b,hH⟩:=SH.dQ hH;replace hH:=SH.dW hH;refine gh ?_;refine GX.dX (hc:=fun _ hs=>aal hs) (h:=?_);rintro c w _ hE hH;replace hH:=SH.ap hH;refine gh ?_;refine GX.cw (h:=fun d w hH=>gh ?_);exact⟨d,rfl,trivial,(JM (Fk (M:=M) hH) hM).to⟩
end
section
attribute [local irreducible] GO GX
def bI (s:Bs):Bool:=decide (0<s.length∧s.length≤250)
def fF (s:Bs):Bool:=decide (0<s.length∧s.length≤64)
theorem rO (s:Bs)(w:World):aj prog 34 [str s].toArray w fun v w'=>v = .bool (bI s)∧w'=w:=by
 refine aj.enter func34 rfl ntmps34 rfl (go ?_);refine dj (fun h=>?_) (fun h=>?_)<;>refine go ?_<;>exact⟨by first|exact Gg ah|exact xc ah,rfl⟩
theorem I5 (s:Bs)(w:World):aj prog 52 [str s].toArray w fun v w'=>v = .bool (fF s)∧w'=w:=by
 refine aj.enter func52 rfl ntmps52 rfl (go ?_);refine dj (fun h=>?_) (fun h=>?_)<;>refine go ?_<;>exact⟨by first|exact Gg ah|exact xc ah,rfl⟩
theorem Fg (s:Bs)(w:World):aj prog 53 [str s].toArray w fun v w'=>v = .bool (decide (s.length≤250))∧w'=w:=by
 refine aj.enter func53 rfl ntmps53 rfl (go ?_);exact⟨congrArg _ (tA.2 ah),rfl⟩
def never:Nat:=18446744073709551615
def nZ (t n:Nat):Nat:=if never - t≤n then never else t+n
def due (d now:Nat):Bool:=decide (d≠never∧d≤now)
def Cq (now d soft fX:Nat):Nat:=if due d now then 0 else if !due soft now then 1 else if due (nZ soft fX) now then 0 else 2
theorem Dy (a b:Nat)(w:World):aj prog 56 [uV a,uV b].toArray w fun v w'=>v=uV (max a b)∧w'=w:=by
 refine aj.enter func56 rfl ntmps56 rfl (go ?_);refine⟨congrArg (Value.int .u64) ?_,rfl⟩;split<;>omega
theorem Dw (d now:Nat)(w:World):aj prog 172 [uV d,uV now].toArray w fun v w'=>v = .bool (due d now)∧w'=w:=by
 refine aj.enter func172 rfl ntmps172 rfl (go ?_);refine dj (fun h=>?_) (fun h=>?_)<;>refine go ?_<;>exact⟨by first|exact Gg (by simp only[never];omega)|exact xc (by simp only[never];omega),rfl⟩
theorem G8 (t k:Nat)(ht:t≤never)(hk:k≤never)(w:World):aj prog 149 [uV t,uV k].toArray w fun v w'=>v=uV (nZ t k)∧w'=w:=by
 simp only[never] at ht hk;refine aj.enter func149 rfl ntmps149 rfl (go ?_);refine dj (fun h=>?_) (fun h=>?_)<;>refine go ?_
 ·exact⟨congrArg (Value.int .u64) (by rw[nZ,if_pos (by simp only[never];omega)];rfl),rfl⟩
 ·exact⟨congrArg (Value.int .u64) (by rw[nZ,if_neg (by simp only[never];omega)];rfl),rfl⟩
theorem Yd {t k:Nat}:nZ t k≤never:=by
 simp only[nZ];split<;>omega
theorem aah (now d s g:Nat)(hs:s≤never)(hg:g≤never)(w:World):aj prog 139 [uV now,uV d,uV s,uV g].toArray w fun v w'=>v=iV (Cq now d s g)∧w'=w:=by
 refine aj.enter func139 rfl ntmps139 rfl (go ?_);refine GX.call (Dw d now w) rfl rfl rfl rfl rfl rfl ?_;rintro _ _ ⟨rfl,rfl⟩;refine go ?_;refine dj (fun h=>?_) (fun h=>?_)<;>refine go ?_
 ·simp[Cq,due,h]
 refine GX.call (Dw s now _) rfl rfl rfl rfl rfl rfl ?_;rintro _ _ ⟨rfl,rfl⟩;refine go ?_;refine dj (fun h1=>?_) (fun h1=>?_)<;>refine go ?_
 ·simp[Cq,due,h,h1]
 refine GX.call (G8 s g hs hg _) rfl rfl rfl rfl rfl rfl ?_;rintro _ _ ⟨rfl,rfl⟩;refine go ?_;refine GX.call (Dw (nZ s g) now _) rfl rfl rfl rfl rfl rfl ?_;rintro _ _ ⟨rfl,rfl⟩;refine go ?_;refine dj (fun h2=>?_) (fun h2=>?_)<;>refine go ?_
 ·simp[Cq,due,h,h1,h2]
 ·simp[Cq,due,h,h1,h2]
end
end Go.Proofs.YtmlpbmgfmnmmmaaGreat.V.M
namespace Go.Proofs.YtmlpbmgfmnmmmaaGreat.V
open Go.Shelf
theorem mG {P:Program}{t:TypeId}{z:Value}(h:(P.info? t).bind (·.zero)=some z)(w:World):(zeroValue t).run P w = .ok z w:=by
 cases hi:P.info? t with
 |none=>rw[hi] at h;cases h
 |some i=>
  rw[hi] at h;have hz:i.zero=some z:=h;simp[zeroValue,typeInfo,hi,hz]
def jq:Ren:=⟨fun|6=>220|8=>116|9=>289|19=>193|20=>194|21=>325|22=>326|23=>327|24=>328|25=>329|26=>330|27=>331|28=>332|29=>333|31=>273|32=>274|36=>345|37=>346|38=>347|39=>181|41=>353|_=>0,fun|0=>0|3=>3|4=>4|5=>5|9=>9|26=>22|27=>22|29=>9|32=>224|35=>317|36=>318|41=>322|44=>325|46=>38|53=>386|57=>367|63=>420|64=>125|_=>0,fun _=>0⟩
theorem akE:Bears prog 220 (SlBodyM.n6 jq):=⟨"slices.Sort[[]string,string]",by decide,by kernel_rfl⟩
theorem akF:(prog).funcs[116]?=some (SlBodyM.n8 jq):=ai
theorem akG:Bears prog 289 (SlBodyM.n9 jq):=⟨"slices.pdqsortOrdered[string]",by decide,by kernel_rfl⟩
theorem akm:(prog).funcs[193]?=some (SlBodyM.n19 jq):=ai
theorem akn:(prog).funcs[194]?=some (SlBodyM.n20 jq):=ai
theorem ako:Bears prog 325 (SlBodyM.n21 jq):=⟨"slices.insertionSortOrdered[string]",by decide,by kernel_rfl⟩
theorem akp:Bears prog 326 (SlBodyM.n22 jq):=⟨"slices.heapSortOrdered[string]",by decide,by kernel_rfl⟩
theorem akq:Bears prog 327 (SlBodyM.n23 jq):=⟨"slices.breakPatternsOrdered[string]",by decide,by kernel_rfl⟩
theorem akr:Bears prog 328 (SlBodyM.n24 jq):=⟨"slices.choosePivotOrdered[string]",by decide,by kernel_rfl⟩
theorem aks:Bears prog 329 (SlBodyM.n25 jq):=⟨"slices.reverseRangeOrdered[string]",by decide,by kernel_rfl⟩
theorem akt:Bears prog 330 (SlBodyM.n26 jq):=⟨"slices.partialInsertionSortOrdered[string]",by decide,by kernel_rfl⟩
theorem aku:Bears prog 331 (SlBodyM.n27 jq):=⟨"cmp.Less[string]",by decide,by kernel_rfl⟩
theorem akv:Bears prog 332 (SlBodyM.n28 jq):=⟨"slices.partitionEqualOrdered[string]",by decide,by kernel_rfl⟩
theorem akw:Bears prog 333 (SlBodyM.n29 jq):=⟨"slices.partitionOrdered[string]",by decide,by kernel_rfl⟩
theorem akx:(prog).funcs[273]?=some (SlBodyM.n31 jq):=ai
theorem aky:(prog).funcs[274]?=some (SlBodyM.n32 jq):=ai
theorem akz:Bears prog 345 (SlBodyM.n36 jq):=⟨"slices.siftDownOrdered[string]",by decide,by kernel_rfl⟩
theorem akA:Bears prog 346 (SlBodyM.n37 jq):=⟨"slices.medianAdjacentOrdered[string]",by decide,by kernel_rfl⟩
theorem akB:Bears prog 347 (SlBodyM.n38 jq):=⟨"slices.medianOrdered[string]",by decide,by kernel_rfl⟩
theorem akC:Bears prog 181 (SlBodyM.n39 jq):=⟨"cmp.isNaN[string]",by decide,by kernel_rfl⟩
theorem akD:Bears prog 353 (SlBodyM.n41 jq):=⟨"slices.order2Ordered[string]",by decide,by kernel_rfl⟩
theorem UW:cy prog 0=some (false,1):=ai
theorem afL:((prog).info? 0).bind (·.zero)=some ((Value.tuple #[])):=ai
theorem UX:cy prog 3=some (false,1):=ai
theorem afM:((prog).info? 3).bind (·.zero)=some ((Value.int IntKind.i64 0)):=ai
theorem U7:cy prog 4=some (false,1):=ai
theorem afT:((prog).info? 4).bind (·.zero)=some ((Value.bool false)):=ai
theorem U9:cy prog 5=some (false,1):=ai
theorem afU:((prog).info? 5).bind (·.zero)=some ((Value.int IntKind.u8 0)):=ai
theorem I9:cy prog 9=some (false,1):=ai
theorem Vd:((prog).info? 9).bind (·.zero)=some ((Value.string { data:=#[]})):=ai
theorem I':cy prog 22=some (false,1):=ai
theorem Ve:((prog).info? 22).bind (·.zero)=some ((Value.slice none 0 0)):=ai
theorem U':cy prog 224=some (false,1):=ai
theorem afV:((prog).info? 224).bind (·.zero)=some ((Value.int IntKind.u64 0)):=ai
theorem Va:cy prog 317=some (false,1):=ai
theorem afW:((prog).info? 317).bind (·.zero)=some ((Value.int IntKind.i64 0)):=ai
theorem Vb:cy prog 318=some (false,1):=ai
theorem afX:((prog).info? 318).bind (·.zero)=some ((Value.tuple #[Value.int IntKind.i64 0,Value.int IntKind.i64 0])):=ai
theorem Vc:cy prog 322=some (false,1):=ai
theorem afY:((prog).info? 322).bind (·.zero)=some ((Value.tuple #[Value.int IntKind.i64 0,Value.bool false])):=ai
theorem UY:cy prog 325=some (false,1):=ai
theorem afN:((prog).info? 325).bind (·.zero)=some ((Value.int IntKind.u32 0)):=ai
theorem UZ:cy prog 38=some (false,1):=ai
theorem afO:((prog).info? 38).bind (·.zero)=some ((Value.int IntKind.u64 0)):=ai
theorem U0:cy prog 386=some (false,1):=ai
theorem afP:((prog).info? 386).bind (·.zero)=some ((Value.int IntKind.u64 0)):=ai
theorem U2:cy prog 367=some (false,1):=ai
theorem afQ:((prog).info? 367).bind (·.zero)=some ((Value.pointer none)):=ai
theorem U3:cy prog 420=some (false,1):=ai
theorem afR:((prog).info? 420).bind (·.zero)=some ((Value.pointer none)):=ai
theorem U6:cy prog 125=some (false,1):=ai
theorem afS:((prog).info? 125).bind (·.zero)=some ((Value.tuple #[Value.int IntKind.i64 0,Value.int IntKind.i64 0])):=ai
theorem XR:SlLaysM.n6 prog jq:={ mixed:=by kernel_rfl,f6:=akE,f8:=akF,f9:=akG,f19:=akm,f20:=akn,f21:=ako,f22:=akp,f23:=akq,f24:=akr,f25:=aks,f26:=akt,f27:=aku,f28:=akv,f29:=akw,f31:=akx,f32:=aky,f36:=akz,f37:=akA,f38:=akB,f39:=akC,f41:=akD,t0:=by kernel_rfl,a0:=fun w=>(aC.mk UW).isAgg w,z0:=fun w=>(aC.mk UW).sizeOf w,v0:=mG afL,t3:=by kernel_rfl,a3:=fun w=>(aC.mk UX).isAgg w,z3:=fun w=>(aC.mk UX).sizeOf w,v3:=mG afM,t4:=by kernel_rfl,a4:=fun w=>(aC.mk U7).isAgg w,z4:=fun w=>(aC.mk U7).sizeOf w,v4:=mG afT,t5:=by kernel_rfl,a5:=fun w=>(aC.mk U9).isAgg w,z5:=fun w=>(aC.mk U9).sizeOf w,v5:=mG afU,t9:=by kernel_rfl,a9:=fun w=>(aC.mk I9).isAgg w,z9:=fun w=>(aC.mk I9).sizeOf w,v9:=mG Vd,t26:=by kernel_rfl,a26:=fun w=>(aC.mk I').isAgg w,z26:=fun w=>(aC.mk I').sizeOf w,v26:=mG Ve,t27:=by kernel_rfl,a27:=fun w=>(aC.mk I').isAgg w,z27:=fun w=>(aC.mk I').sizeOf w,v27:=mG Ve,t29:=by kernel_rfl,a29:=fun w=>(aC.mk I9).isAgg w,z29:=fun w=>(aC.mk I9).sizeOf w,v29:=mG Vd,t32:=by kernel_rfl,a32:=fun w=>(aC.mk U').isAgg w,z32:=fun w=>(aC.mk U').sizeOf w,v32:=mG afV,t35:=by kernel_rfl,a35:=fun w=>(aC.mk Va).isAgg w,z35:=fun w=>(aC.mk Va).sizeOf w,v35:=mG afW,t36:=by kernel_rfl,a36:=fun w=>(aC.mk Vb).isAgg w,z36:=fun w=>(aC.mk Vb).sizeOf w,v36:=mG afX,t41:=by kernel_rfl,a41:=fun w=>(aC.mk Vc).isAgg w,z41:=fun w=>(aC.mk Vc).sizeOf w,v41:=mG afY,t44:=by kernel_rfl,a44:=fun w=>(aC.mk UY).isAgg w,z44:=fun w=>(aC.mk UY).sizeOf w,v44:=mG afN,t46:=by kernel_rfl,a46:=fun w=>(aC.mk UZ).isAgg w,z46:=fun w=>(aC.mk UZ).sizeOf w,v46:=mG afO,t53:=by kernel_rfl,a53:=fun w=>(aC.mk U0).isAgg w,z53:=fun w=>(aC.mk U0).sizeOf w,v53:=mG afP,t57:=by kernel_rfl,a57:=fun w=>(aC.mk U2).isAgg w,z57:=fun w=>(aC.mk U2).sizeOf w,v57:=mG afQ,t63:=by kernel_rfl,a63:=fun w=>(aC.mk U3).isAgg w,z63:=fun w=>(aC.mk U3).sizeOf w,v63:=mG afR,t64:=by kernel_rfl,a64:=fun w=>(aC.mk U6).isAgg w,z64:=fun w=>(aC.mk U6).sizeOf w,v64:=mG afS}
end Go.Proofs.YtmlpbmgfmnmmmaaGreat.V
namespace Go.Proofs.YtmlpbmgfmnmmmaaGreat.V.M
open Go.RowKit Go.Shelf Go.Sort
attribute [local irreducible] GX GO
def uI (x:Bs)(out:List Bs):List Bs:=out.takeWhile (fun y=>decide (y<x))++x::out.dropWhile (fun y=>decide (y<x))
def fj (l:List Bs):List Bs:=l.foldl (fun out x=>uI x out) []
theorem Ub (x:Bs)(out:List Bs):(uI x out).Perm (x::out):=by
 unfold uI;have h:=List.takeWhile_append_dropWhile (p:=fun y=>decide (y<x)) (l:=out);refine(List.perm_middle).trans ?_;rw[h]
theorem ake (l:List Bs):∀out:List Bs,(l.foldl (fun out x=>uI x out) out).Perm (out++l):=by
 induction l with
 |nil=>intro out;simp
 |cons x l ih=>
  intro out;simp only[ph];refine(ih _).trans ?_;refine((Ub x out).append_right l).trans ?_;exact(List.perm_middle (l₁:=out) (a:=x) (l₂:=l)).symm
theorem lV (l:List Bs):(fj l).Perm l:=by
 have:=ake l [];simpa[fj] using this
def oz (l:List Bs):Prop:=l.Pairwise (fun x y=>x≤y)
theorem aez (x:Bs)(out:List Bs)(h:oz out):oz (uI x out):=by
 induction out with
 |nil=>simp[uI,oz]
 |cons y r ih=>
  unfold oz at h;have h':=lB.1 h;unfold uI
  by_cases hy:y<x
  ·simp only[List.takeWhile_cons,hy,decide_true,if_true,List.dropWhile_cons,iQ];have T4:=ih h'.2;unfold uI oz at T4;refine lB.2 ⟨fun z hz=>?_,T4⟩;have:=(Ub x r).mem_iff (a:=z);unfold uI at this
   rcases bY.1 (this.1 hz) with rfl|hz
   ·exact List.le_of_lt hy
   ·exact h'.1 z hz
  ·simp only[List.takeWhile_cons,hy,decide_false,if_false,List.dropWhile_cons,jF,vn];refine lB.2 ⟨fun z hz=>?_,h⟩;have Al:x≤y:=List.not_lt.1 hy
   rcases bY.1 hz with rfl|hz
   ·exact Al
   ·exact List.le_trans Al (h'.1 z hz)
theorem akf (l:List Bs):∀out:List Bs,oz out→oz (l.foldl (fun out x=>uI x out) out):=by
 induction l with
 |nil=>intro out h;exact h
 |cons x l ih=>intro out h;exact ih _ (aez x out h)
theorem CU (l:List Bs):oz (fj l):=akf l [] (by simp[oz])
theorem agZ (l:List Bs):oz (l.mergeSort fun x y=>decide (x≤y)):=by
 have:=List.pairwise_mergeSort (le:=fun x y:Bs=>decide (x≤y)) (fun a b c h1 h2=>by
  simp only[mE] at *;exact List.le_trans h1 h2) (fun a b=>by
  simp only[Bool.or_eq_true,mE];exact List.le_total a b) l
 unfold oz;simpa using this
theorem ak5 (l:List Bs):(l.mergeSort fun x y=>decide (x≤y))=fj l:=by
 have hp:(l.mergeSort fun x y=>decide (x≤y)).Perm (fj l):=(List.mergeSort_perm l _).trans (lV l).symm;exact hp.eq_of_pairwise (fun a b _ _ h1 h2=>List.le_antisymm h1 h2) (agZ l) (CU l)
def aM (l:List Bs):List Value:=l.map str
@[simp] theorem VE (l:List Bs):(aM l).length=l.length:=by simp[aM]
theorem yW (l:List Bs):∀u∈aM l,u.oneCell'=true:=by
 intro u hu;obtain⟨x,_,rfl⟩:=bK.1 hu;rfl
theorem F9 {w:World}{a:Option Addr}{l:List Bs}(h:bM w a (aM l)){i:Nat}(hi:i<l.length):∃b o,a=some ⟨b,o,none⟩∧∀j:Int,j.toNat=i→At w b (o+j.toNat*1) [str l[i]]:=by
 obtain⟨b,o,rfl,hA⟩:=h.rV (by simp;omega);refine⟨b,o,rfl,fun j hj=>?_⟩;rw[hj];have:=At.one hA (show(aM l)[i]?=some (str l[i]) by simp[aM,hi]);simpa using this
theorem XS (g cap n:Nat)(zs:List Bs)(hn:zs.length=n)(w:World)(hO:aG w 9 1 (some g) (some ⟨g,0,none⟩) n cap (aM zs))(hz:zs.length≤100000) :
  aj prog 220 [.slice (some ⟨g,0,none⟩) n cap].toArray w fun _ w'=>aG w' 9 1 (some g) (some ⟨g,0,none⟩) n cap (aM (fj zs))∧Mod (· = g) w w':=by
 subst hn;obtain⟨cur,hg,r1,r2,r3,r4⟩:=qV hO;have hH:=holds_of_block (ss:=zs) hg (by rw[kO] at r4;exact r4);refine aj.Az ((AnyM.slices_Sort_string (ρ:=jq) XR g 0 cap zs w hH (re.1 hg).1 ah).mono ?_);rintro e w' ⟨rfl,n,os,rfl⟩;refine⟨_,rfl,?_,?_⟩
 ·have h:=ownsRow_sorted (n:=n) (os:=os) (ts:=zs.mergeSort fun x y=>decide (x≤y)) (ss:=zs) (base:=0) (by simp) (bh _) hg r1 r2 (by simpa using r3);rw[ak5] at h ⊢;exact⟨by rw[VE,(lV zs).length_eq,kO], .inr ⟨g,rfl,rfl,h⟩⟩
 ·exact(Mod.Ot (grownBy_sorted _)).weaken fun k _ hk=>by cases hk;rfl
end Go.Proofs.YtmlpbmgfmnmmmaaGreat.V.M
