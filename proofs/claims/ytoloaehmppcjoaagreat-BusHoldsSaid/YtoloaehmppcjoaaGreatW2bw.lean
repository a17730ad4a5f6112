/-
  Parts of the proof. No condition.
-/
import Derived.Test.YtoloaehmppcjoaaGreatW2bv
import Derived.Test.YtoloaehmppcjoaaGreatW2ad
import Derived.Test.YtoloaehmppcjoaaGreatW2bf
import Derived.Shelf.SlIterI.Sorted
import Derived.Maps.Keyed
set_option linter.unusedVariables false
set_option linter.unusedSimpArgs false
set_option maxRecDepth 8000
set_option maxHeartbeats 8000000
open Go.Proofs.Tryz
namespace Go.Proofs.YtoloaehmppcjoaaGreat.V.M
theorem SH.ag6 {o:Og}{w:World}{l t:List It}{κ ν:Type}{kv:κ→Value}{vv:ν→Value}{M:List (κ×ν)}{b m:Nat}{ca:List Value}(h:SH o w l)(hp:Pk l [aB b ca,aS m kv vv M] t:=by repeat(first|exact Pk.nil|(apply Pk.cons;repeat(first|exact az.here|apply az.there)))):b≠m:=by
 obtain⟨_,_,_,⟨_,rfl⟩,⟨_,rfl⟩,hd,_⟩:=SH.nodup (h.perm hp.perm);exact fun e=>hd b rfl e
attribute [local irreducible] GX
section
variable {P:Program}{ops:Array Oper}{Q:Exit→Act→World→Prop}{n:Nat}
variable {i:Nat}{e:Env}{w:World}{dst:Option Tmp}{ty:TypeId}{pos:String}{an:Array Edge}{g:Option (Nat×Bool)}
variable {og:Og}{l l':List It}{b:Nat}
theorem GX.agM [Fr]{κ ν:Type}[DecidableEq κ]{T:Nat→Prop}{w0:World}{p:b6}{kv:κ→Value}{vv:ν→Value}{M:List (κ×ν)}{t kt el:TypeId}{x y:Operand}{t2:TypeId}{a:κ}(hH:SH og w l:=by assumption)(hT:T b)
  (ho:ops[i]?=some ⟨dst, .call ⟨.builtin .delete,#[x,y],#[t,t2]⟩,ty,pos,an,g⟩:=by rfl) (hu:bI P t (.map kt el):=by infer_instance) (hw:aI ops e ⟨dst, .call ⟨.builtin .delete,#[x,y],#[t,t2]⟩,ty,pos,an,g⟩=some true:=by rfl) (hx:ev e x=some (.map (some b)):=by rfl) (hr:bA (aS b kv vv M) (aS b kv vv (bB M a)) l l':=by repeat(first|exact bA.here|apply bA.there)) (hk:kE P kv kt:=by infer_instance) (hy:ev e y=some (kv a):=by rfl) (hd:fits n dst=true:=by rfl)
  (h:∀w',SH og w' l'→GX P ops Q (Mod T w0) n p (e.put dst (.tuple #[])) w'):GX P ops Q (Mod T w0) n (.aw i p) e w:=by
 obtain⟨_,hs,_⟩:=hr.perm;have hM:dY w b kv vv M:=let⟨_,_,h,_⟩:=(hH.perm hs).head;h;obtain⟨w1,h1,h2,h3⟩:=Xb hM hu.out hk (ts:=#[t,t2]) rfl ty a;refine GX.aw ho (GO.run (R:=fun u w'=>u = .tuple #[]∧w'=w1) hw hd (fun ac ha=>⟨_,_,w1,by simp[execOp,resolve,invoke,builtin,bE ha hx,bE ha hy,h1], .inl rfl,rfl,rfl⟩) ?_);rintro _ _ ⟨rfl,rfl⟩;exact⟨fun _ hS=>hS.trans (h3.weaken fun k _ hk=>by subst hk;exact hT),h _ (hH.vi hr h2 h3)⟩
end
attribute [local irreducible] GO
attribute [local irreducible] aB aq aS aF fz star eX
structure nP (E:ao)(up:Nat)(R:List Nat)(n:Nat):Prop where
 w:de E n
 r:A2 up R
 l:up+R.length≤n
 b:∀x∈R,x≤n+1000
theorem nP.vo {E:ao}{up:Nat}{R:List Nat}{n m:Nat}(h:nP E up R n)(hm:n≤m):nP E up R m:=
 ⟨h.w.up hm,h.r,dF h.l hm,fun x hx=>dF (h.b x hx) ah⟩
structure PH where
 E:ao
 up:Nat
 R:List Nat
noncomputable def eC (E:ao)(up:Nat)(R:List Nat)(t:Nat)(n k:Int)(nm:Bs):PH×Bool×Int:=
 if mP k nm=false∨n<1 then(⟨E,up,R⟩,false,2) else if 1000<n - up then(⟨E,up,R⟩,false,3) else if n≤up∨yu R n=true then(⟨E,up,R⟩,false,0)
 else(⟨(E.cU t (eK k nm)).1,(oD up R n.toNat).1,(oD up R n.toNat).2⟩,true,0)
theorem NL {n:Nat}{R:List Nat}(h:yu R (n:Int)≠true):n∉R:=fun hn=>h (vD.2 ⟨n,hn,b8 rfl⟩)
theorem ahl {up x:Nat}{R:List Nat}(h:x∈(nC up R).2):x∈R:=by
 induction R generalizing up with
 |nil=>exact h
 |cons y r ih=>
  unfold nC at h;split at h
  ·exact fP _ (ih h)
  ·exact h
theorem aiy {E:ao}{up:Nat}{R:List Nat}{m:Nat}(h:nP E up R m)(t:Nat)(n k:Int)(nm:Bs)(hE:de (E.cU t (eK k nm)).1 (m+2)):nP (eC E up R t n k nm).1.E (eC E up R t n k nm).1.up (eC E up R t n k nm).1.R (m+2):=by
 unfold eC;split
 ·exact h.vo ah
 split
 ·exact h.vo ah
 split
 ·exact h.vo ah
 rename_i h1 h2 h3
 obtain⟨N,rfl⟩:∃N:Nat,n=N:=⟨n.toNat,by omega⟩
 have hN:up<N:=by omega
 have MY:N∉R:=NL fun h=>h3 (.inr h)
 obtain⟨k1,_,k3⟩:=WX h.r hN MY;have hl:=h.l;refine⟨hE,k1,?_,fun x hx=>?_⟩
 ·show(oD up R N).1+(oD up R N).2.length≤m+2;omega
 ·have fh:=ahl hx
  rcases yv.1 fh with rfl|fh
  ·omega
  ·have:=h.b x fh;omega
theorem oP.put {R:List Nat}{A:List (Int×Bool)}(h:oP R A)(n:Nat):oP (iz n R) (bC A (n:Int) true):=by
 refine⟨sB h.nd _ _,fun k hk=>?_,fun z hz=>?_⟩
 ·rw[kU];split
  ·rfl
  ·rename_i aP
   rcases yv.1 hk with rfl|hk
   ·exact absurd rfl aP
   ·exact h.yes k hk
 ·rw[kU,if_neg (fun e=>hz n (yv.2 (.inl rfl)) e.symm)];exact h.no z fun k hk=>hz k (yv.2 (.inr hk))
theorem oP.del {R:List Nat}{A:List (Int×Bool)}{n:Nat}(h:oP (n::R) A)(hn:n∉R):oP R (bB A (n:Int)):=by
 refine⟨h.nd.sublist ((xm A _).map _),fun k hk=>?_,fun z hz=>?_⟩
 ·rw[iS h.nd,if_neg (fun e=>by have:=Int.ofNat.inj e;exact hn (this▸hk))];exact h.yes k (fP _ hk)
 ·rw[iS h.nd];split
  ·rfl
  ·rename_i aP
   exact h.no z fun k hk=>by
    rcases bU.1 hk with rfl|hk
    ·exact fun e=>aP e.symm
    ·exact hz k hk
theorem aey {x up:Nat}{r:List Nat}(hs:(x::r).Pairwise (· < ·))(hg:∀y∈x::r,up<y):yu (x::r) ((up:Int)+1)=decide (x=up+1):=by
 by_cases hx:x=up+1
 ·rw[b8 hx];exact vD.2 ⟨x,by simp,b8 ah⟩
 ·rw[bQ hx];refine Bool.eq_false_iff.2 fun h=>?_
  obtain⟨k,hk,he⟩:=vD.1 h;have he:=dM he;have h1:=hg x (by simp)
  rcases bU.1 hk with rfl|hk
  ·omega
  ·have:=(lN.1 hs).1 k hk;omega
theorem aii (k:Int){nm:Bs}(y:jX:=zo):ug (eK k nm) zo:=by
 unfold eK
 (repeat' split)<;>exact⟨by simp[gx],by simp[gx],by simp[gx],by simp[gx],by simp[gx],fun _=>rfl⟩
theorem SH.aaq {o:Og}{w:World}{l:List It}(hH:SH o w l)(k:Int)(nm:Bs):SH o w (Ds (eK k nm) zo++l):=by
 unfold eK
 (repeat' split)<;>exact hH.nh.nh.nh
theorem WW {o:Og}{w:World}{b up m:Nat}{E:ao}{R:List Nat}(hW:nP E up R m)(hm:m<6000)(t:Nat)(ht:t≤never)(n k:Int)(nm:Bs)(hn:n<9223372036854775808)(hs:Start o w [oC b E up R]) :
  aj prog 13 [ak b,uV t,iV n, .agg #[iV k,str nm]].toArray w (aX o (fun _:Unit => .tuple #[.bool (eC E up R t n k nm).2.1,iV (eC E up R t n k nm).2.2]) (fun _=>nP (eC E up R t n k nm).1.E (eC E up R t n k nm).1.up (eC E up R t n k nm).1.R (m+2)) (fun _=>[oC b (eC E up R t n k nm).1.E (eC E up R t n k nm).1.up (eC E up R t n k nm).1.R])):=by
 have hH:=hs.sh;have hl:=hW.l;have hF:=fun hE=>aiy hW t n k nm hE
 generalize hr:eC E up R t n k nm=r at hF ⊢;unfold eC at hr;obtain⟨⟨X,hX⟩,hH⟩:=SH.un hH;replace hH:=SH.ap hH;dsimp only at hH;refine aj.enter func13 rfl ntmps13 rfl (gh ?_);refine GX.cI (h:=fun z w hH=>gh ?_);refine GX.aM (hc:=fun _ hs=>FK hs) (h:=fun w hE hH=>gh ?_);refine gh ?_;refine GX.aM (hc:=fun _ hs=>Qf k nm hs) (h:=fun w hE hH=>gh ?_);refine GX.cA (h:=fun c w hH=>gh ?_);refine GX.bt (h:=fun w hH=>gh ?_);cases aU:mP k nm with
 |false=>
  rw[if_pos (.inl aU)] at hr;subst hr;refine gh ?_;exact⟨(),rfl,hW.vo ah,(sJ (X:=X) hX hH).to⟩
 |true=>
 refine gh ?_
 by_cases h1:n<1
 ·rw[if_pos (.inr h1)] at hr;subst hr;rw[show decide (n<1)=true from b8 h1];refine gh ?_;exact⟨(),rfl,hW.vo ah,(sJ (X:=X) hX hH).to⟩
 rw[if_neg (by rw[aU];simpa using h1)] at hr;rw[show decide (n<1)=false from bQ h1];refine gh ?_
 by_cases h2:(up:Int)<n
 case neg=>
  rw[if_neg ah,if_pos (.inl ah)] at hr;subst hr;rw[show decide ((up:Int)<n)=false from bQ h2];refine gh ?_;rw[show decide (n≤(up:Int))=true from b8 ah];refine gh ?_;exact⟨(),rfl,hW.vo ah,(sJ (X:=X) hX hH).to⟩
 rw[show decide ((up:Int)<n)=true from b8 h2];refine gh ?_
 by_cases h3:1000<n - up
 ·rw[if_pos h3] at hr;subst hr;rw[show decide (1000<n - (up:Int))=true from b8 h3];refine gh ?_;exact⟨(),rfl,hW.vo ah,(sJ (X:=X) hX hH).to⟩
 rw[if_neg h3] at hr;rw[show decide (1000<n - (up:Int))=false from bQ h3];refine gh ?_;rw[show decide (n≤(up:Int))=false from bQ ah];refine gh ?_;refine GX.mN (hV:=hX.look n) (h:=gh ?_);cases jd:yu R n with
 |true=>
  rw[if_pos (.inr jd)] at hr;subst hr;refine gh ?_;exact⟨(),rfl,hW.vo ah,(sJ (X:=X) hX hH).to⟩
 |false=>
 rw[if_neg (by rw[jd];simp;omega)] at hr;refine gh ?_;have Mk:KZ k nm=eK k nm:=if_pos aU;rw[Mk] at hH;replace hH:=hH.aaq k nm;obtain⟨N,rfl⟩:∃N:Nat,n=N:=⟨n.toNat,by omega⟩
 simp only[qB] at hr;have MY:N∉R:=NL (by rw[jd];simp);refine GC.br (pl:=(bg [0,3,6,12,10,16,20])) (T:=dt [b,c]) (hm:=mixed) (h:=fun w hE hH=>gh ?_);refine GX.kL (hc:=fun _ hs=>Q3 hW.w hm t ht (eK k nm) zo (aii k) hs) (h:=?_);rintro x w ⟨_,hE⟩ hS hH;replace hF:=hF hE;generalize (E.cU t (eK k nm)).1=E2 at hH hr hF;generalize (E.cU t (eK k nm)).2=rs at hH ⊢;replace hH:=SH.ap hH;refine gh ?_;refine GX.Fy (v:=true) (h:=fun w hH=>gh ?_);have gy:=hX.put N;have o4:(iz N R).Pairwise (· < ·)∧∀x∈iz N R,up<x:=⟨Ug hW.r.so MY,fun x hx=>by
  rcases yv.1 hx with rfl|hx
  ·omega
  ·have:=hW.r.gt x hx;omega⟩
 have o5:(iz N R).length=R.length+1:=by
  rw[Uf,bH,ek,dI,ml];have:AF N R≤R.length:=by unfold AF;exact(List.takeWhile_sublist _).length_le
  omega
 obtain⟨Xe,Xm,A⟩:=X;dsimp only at gy hH hX;refine GC.bR [0] (fun _:Nat×List Nat×List (Int×Bool)=>[]) (fun y w'=>nC y.1 y.2.1=oD up R N∧y.2.1.Pairwise (· < ·)∧(∀x∈y.2.1,y.1<x)∧y.1+y.2.1.length≤up+R.length+1∧oP y.2.1 y.2.2∧SH o w' [aB b [ak Xe,iV y.1, .map (some Xm)],cB Xe E2,aS Xm iV bV y.2.2]) (fun y=>y.2.1.length) (up,iz N R,bC A (N:Int) true) rfl rfl ⟨rfl,o4.1,o4.2,by dsimp only;omega,gy,hH.to⟩ ?_;rintro⟨u,T,A3⟩ w ⟨bz,si,SK,uS,vQ,hH⟩;dsimp only at bz si SK uS vQ hH ⊢;refine gh ?_;refine GC.br (pl:=(bg [0,3,6,12,15,18,10,22,24,28])) (T:=fun _=>False) (hm:=mixed) (h:=fun w hE hH=>gh ?_);refine GX.read rfl (GO.NZ (hV:=vQ.look _) (h:=gh ?_));cases T with
 |nil=>
  have EO:oD up R N=(u,[]):=bz.symm;rw[EO] at hr;subst hr;refine gh ?_;exact⟨(),rfl,hF,(sJ (R:=[]) (X:=⟨Xe,Xm,A3⟩) vQ hH).to⟩
 |cons x T=>
  rw[aey si SK]
  by_cases hx:x=u+1
  ·subst hx;have EO:nC (u+1) T=oD up R N:=by rw[←bz];exact(if_pos rfl).symm
   rw[ek] at uS;rw[b8 rfl];refine gh ?_;refine GX.dC (h:=fun w hH=>gh ?_);rw[show(Value.int IntKind.i64 ((u:Int)+1))=iV ((u+1:Nat):Int) from rfl] at hH;have nj:=hH.ag6 (b:=b) (m:=Xm);refine GC.br (pl:=(bg [0,3,6,12,15,18,10,22,26])) (T:=dt [b]) (hm:=mixed) (h:=fun w hE hH=>gh ?_);refine GX.agM (a:=((u+1:Nat):Int)) (hT:=show¬Xm∈[b] by simpa using fun e=>nj e.symm) (h:=fun w hH=>gh ?_);refine GQ.bj (u+1,T,bB A3 ((u+1:Nat):Int)) rfl ⟨EO,(lN.1 si).2,fun y hy=>(lN.1 si).1 y hy,by dsimp only;omega,vQ.del (fun h=>by have:=(lN.1 si).1 _ h;omega),hH.to⟩ (by simp)
  ·have EO:oD up R N=(u,x::T):=by rw[←bz];exact if_neg hx
   rw[EO] at hr;subst hr;rw[bQ hx];refine gh ?_;exact⟨(),rfl,hF,(sJ (R:=x::T) (X:=⟨Xe,Xm,A3⟩) vQ hH).to⟩
end Go.Proofs.YtoloaehmppcjoaaGreat.V.M
namespace Go.Proofs.YtoloaehmppcjoaaGreat.V
open Go.RowKit Go.Shelf Go.Sort
def An:Ren:=⟨fun|6=>40|8=>83|9=>84|10=>85|11=>138|_=>0,fun|0=>0|3=>4|4=>4|23=>102|24=>105|26=>3|28=>108|33=>77|_=>0,fun _=>0⟩
theorem ae7:Bears prog 40 (SlBodyZ.n6 An):=⟨"slices.Sorted[int]",by decide,by kernel_rfl⟩
theorem ae8:Bears prog 83 (SlBodyZ.n8 An):=⟨"slices.Collect[int]",by decide,by kernel_rfl⟩
theorem ae6:Bears prog 138 (SlBodyZ.n11 An):=⟨"slices.AppendSeq[[]int,int]",by decide,by kernel_rfl⟩
theorem Vm:cD prog 108=some (false,1):=ai
theorem af8:((prog).info? 108).bind (·.zero)=some ((Value.nilFunc)):=ai
theorem ae9:SlLaysZI.n6 prog An:={ mixed:=by kernel_rfl,f6:=ae7,f8:=ae8,f11:=ae6,t0:=by kernel_rfl,a0:=fun w=>(aC.mk Ck).isAgg w,z0:=fun w=>(aC.mk Ck).sizeOf w,v0:=iE NR,t24:=by kernel_rfl,a24:=fun w=>(aC.mk Cm).isAgg w,z24:=fun w=>(aC.mk Cm).sizeOf w,v24:=iE NS,t26:=by kernel_rfl,a26:=fun w=>(aC.mk yA).isAgg w,z26:=fun w=>(aC.mk yA).sizeOf w,v26:=iE Jm,t28:=by kernel_rfl,a28:=fun w=>(aC.mk Vm).isAgg w,z28:=fun w=>(aC.mk Vm).sizeOf w,v28:=iE af8,i26:=by kernel_rfl}
theorem afa:Bears prog 85 (SlBodyZ.n10 An):=⟨"maps.Keys[map[int]bool,int,bool]$1",by decide,by kernel_rfl⟩
theorem Vn:cD prog 102=some (false,1):=ai
theorem af9:((prog).info? 102).bind (·.zero)=some ((Value.map none)):=ai
theorem Vo:cD prog 77=some (false,1):=ai
theorem aga:((prog).info? 77).bind (·.zero)=some ((Value.nilFunc)):=ai
theorem afb:SlLaysZI.n10 prog An:={ mixed:=by kernel_rfl,f10:=afa,t0:=by kernel_rfl,a0:=fun w=>(aC.mk Ck).isAgg w,z0:=fun w=>(aC.mk Ck).sizeOf w,v0:=iE NR,t4:=by kernel_rfl,a4:=fun w=>(aC.mk Jl).isAgg w,z4:=fun w=>(aC.mk Jl).sizeOf w,v4:=iE Vx,t23:=by kernel_rfl,a23:=fun w=>(aC.mk Vn).isAgg w,z23:=fun w=>(aC.mk Vn).sizeOf w,v23:=iE af9,t26:=by kernel_rfl,a26:=fun w=>(aC.mk yA).isAgg w,z26:=fun w=>(aC.mk yA).sizeOf w,v26:=iE Jm,t33:=by kernel_rfl,a33:=fun w=>(aC.mk Vo).isAgg w,z33:=fun w=>(aC.mk Vo).sizeOf w,v33:=iE aga}
theorem akZ (m:Nat):AnyZI.SortsIn prog An Fence.wide m:=
 ⟨fun kK off cap ss W hH hblk jR=>callsIn_wide.2 (AnyM.slices_Sort_int (ρ:=jj) FY kK off cap ss W hH hblk jR),
  fun p cap W=>callsIn_wide.2 (AnyM.slices_Sort_int_none (ρ:=jj) FY p cap W)⟩
theorem abi (args:Array Value)(w:World):(callFunc 84 args).run prog w = .ok (.enter 84 args) w:=(FY).f5.enters rfl args w
end Go.Proofs.YtoloaehmppcjoaaGreat.V
namespace Go.Proofs.YtoloaehmppcjoaaGreat.V.M
open Go.RowKit Go.Maps Go.Shelf Go.Sort Go.WideShapes
attribute [local irreducible] GX GO
attribute [local irreducible] aB aq aS aF fz star eX
def vd:Value→Option (DataW Unit×List MemPlace):=fun _=>some (.nil,[])
section
variable {P:Program}{ρ:Ren}
theorem akY (L6:SlLaysZI.n6 P ρ)(PG:SlLaysZI.n10 P ρ)(Nf:∀m,AnyZI.SortsIn P ρ Fence.wide m)(e9:∀args w,(callFunc (ρ.f 9) args).run P w = .ok (.enter (ρ.f 9) args) w)
  (Bm b nn:Nat) (D0:DataW Unit) (w:World) (hBm:Bm<w.heap.size) (hm:w.cell? ⟨Bm,0,none⟩=some (.map (some b))) (iy:w.ownsMap P (ρ.t 26) vd b nn D0)
  (MT:Maps.size D0≤maxLen) (acV:Maps.size D0*8≤140737488355328) :
  aj P (ρ.f 6) #[.func (.func (ρ.f 10)) #[] #[.pointer (some ⟨Bm,0,none⟩)]] w fun v w'=>∃ss:List Int,ss.Perm (intKeys D0)∧w'.ownsRow w.heap.size (ρ.t 26) 1 v ss.length ((ss.mergeSort (fun x y=>decide (x≤y))).map encZ)∧(v = .slice none 0 0↔ss=[])∧Ext w w':=by
 have ad5:SeqGives Fence.wide 1 P (ρ.f 10) #[.pointer (some ⟨Bm,0,none⟩)] encZ (fun ss=>ss.Perm (intKeys D0)) (Maps.size D0) w:=
  AnyZI.keys_gives PG Fence.wide 1 trivial rfl (aY _) Bm b nn D0 w hBm hm iy
 have hc:=AnyZI.sorted_in L6 Fence.wide 4 trivial trivial trivial trivial rfl ah (Nf _) e9 (ρ.f 10) #[.pointer (some ⟨Bm,0,none⟩)] trivial (PG.f10.enters rfl) _ (Maps.size D0) MT acV w ad5;unfold aj;refine Calls.mono (callsIn_wide.1 hc) ?_;rintro e w' ⟨v,ss,rfl,hS,IX,Tk,hb⟩;exact⟨v,rfl,ss,hS,IX,Tk,⟨hb.os,hb.tape,hb.output,hb.size,fun k hk _=>hb.block k hk⟩⟩
theorem EM.Us {ν:Type}{vv:ν→Value}:∀{E:List MapEntry}{A:List (Int×ν)},EM iV vv E A→E.map (·.key)=A.map fun y=>iV y.1
 | [],[],_=>rfl
 |x::E,y::A,⟨h1,_,h3⟩=>by simp only[cJ,h1,EM.Us h3]
 | [],_::_,h=>h.elim
 |_::_,[],h=>h.elim
theorem ae1 {ν:Type}{vv:ν→Value}{w:World}{m:Nat}{A:List (Int×ν)}(hM:dY w m iV vv A)(bT:(A.map (·.1)).Nodup)(hb:∀x∈A,-9223372036854775808≤x.1∧x.1<9223372036854775808)(hl:A.length≤100000){k:TypeId}(hk:P.underlying k=some (.int .i64)) :
  ∃D:DataW Unit,w.ownsMap P k vd m A.length D∧Maps.size D=A.length∧(intKeys D).Perm (A.map (·.1)):=by
 obtain⟨E,clock,hB,hE,mE,iM⟩:=hM;have rV:=hE.Us;have LF:E.length=A.length:=hE.length;have zV:(E.map (·.key)).Nodup:=by
  rw[rV];unfold List.Nodup at bT ⊢;rw[rD] at bT ⊢;exact bT.imp fun h e=>h (by simpa using e)
 have Ty:∀x∈E,∃n,x.key = .int .i64 n∧Go.keyOf P k x.key=some (.int .i64 n):=fun x hx=>by
  have:x.key∈E.map (·.key):=bG.2 ⟨x,hx,rfl⟩;rw[rV] at this;obtain⟨y,hy,he⟩:=bG.1 this;have Nu:(Lit.int .i64 y.1).wf=true:=by
   have:=hb y hy;simp[Lit.wf,IntKind.min,IntKind.max,IntKind.signed,IntKind.bits];omega
  exact⟨y.1,he.symm,by rw[←he];exact keyOf_int_mk hk Nu⟩
 have uO:=sorted_perm (E.map (WideElems.rg P k vd));refine⟨.map ((E.map (WideElems.rg P k vd)).foldr DataW.insert []),⟨E.toArray,clock,hB,⟨by simp[LF,maxLen];omega,⟨fun x hx=>iM x (by simpa using hx),by simpa using mE,by simpa using zV⟩,fun x hx=>?_⟩,by simp[LF],by simp⟩,?_,?_⟩
 ·obtain⟨n,_,hl⟩:=Ty x (by simpa using hx);exact⟨_,by simp[WideElems.rd,hl,vd];rfl⟩
 ·simp only[Maps.size];rw[uO.length_eq];simp[LF]
 ·have h1:(intKeys (.map ((E.map (WideElems.rg P k vd)).foldr DataW.insert []))).Perm ((E.map (WideElems.rg P k vd)).map fun p=>Go.intOf p.1):=uO.map _;refine h1.trans ?_;have h2:((E.map (WideElems.rg P k vd)).map fun p=>Go.intOf p.1)=A.map (·.1):=by
   have:((E.map (WideElems.rg P k vd)).map fun p=>Go.intOf p.1)=(E.map (·.key)).map fun v=>Go.intOf ((Go.keyOf P k v).getD (.bool false)):=by
    simp only[nK];refine rC fun x hx=>?_
    obtain⟨n,_,hl⟩:=Ty x hx;simp[WideElems.rg,WideElems.rd,hl,vd]
   rw[this,rV,nK];refine rC fun y hy=>?_
   have Nu:(Lit.int .i64 y.1).wf=true:=by
    have:=hb y hy;simp[Lit.wf,IntKind.min,IntKind.max,IntKind.signed,IntKind.bits];omega
   simp[keyOf_int_mk hk Nu,Go.intOf]
  rw[h2]
end
theorem oP.perm {R:List Nat}{A:List (Int×Bool)}(h:oP R A)(hn:R.Nodup):(A.map (·.1)).Perm (R.map fun n:Nat=>(n:Int)):=by
 refine(List.perm_ext_iff_of_nodup h.nd ?_).2 fun z=>?_
 ·unfold List.Nodup at hn ⊢;rw[rD];exact hn.imp fun h e=>h ah
 ·constructor
  ·intro hz
   by_cases hh:∃k∈R,(k:Int)=z
   ·obtain⟨k,hk,rfl⟩:=hh;exact bG.2 ⟨k,hk,rfl⟩
   ·exact absurd hz (wM.1 (h.no z fun k hk e=>hh ⟨k,hk,e⟩))
  ·intro hz;obtain⟨k,hk,rfl⟩:=bG.1 hz;exact bG.2 ⟨_,V1 (h.yes k hk),rfl⟩
theorem akW {o:Og}{w:World}{m bx:Nat}{A:List (Int×Bool)}{R:List Nat}(hA:oP R A)(si:R.Pairwise (· < ·))(hl:R.length≤100000)(hb:∀x∈R,x<2^62)(hs:Start o w [fz (aB bx [.map (some m)]),fz (aS m iV bV A)]) :
  aj prog 40 [.func (.func 85) #[] #[ak bx]].toArray w (aX o (fun q:Option Nat×Nat => .slice (aA q.1) R.length q.2) (fun _=>True) (fun q=>[aq 3 1 q.1 R.length q.2 (aG R)])):=by
 have hH:=hs.sh;have hM:dY w m iV bV A:=hH.ms (.there .fz);have hB:cE w bx [.map (some m)]:=hH.um bP;have hn:R.Nodup:=si.imp fun h e=>by omega
 have hp:=hA.perm hn;have lV:A.length=R.length:=by simpa using hp.length_eq
 obtain⟨D,iy,jR,B2⟩:=ae1 (P:=prog) (k:=3) hM hA.nd (fun x hx=>by
  have:x.1∈A.map (·.1):=bG.2 ⟨x,hx,rfl⟩;obtain⟨y,hy,e⟩:=bG.1 (hp.mem_iff.1 this);have:=hb y hy;omega) ah ai
 refine(akY ae9 afb akZ abi bx m _ D w hB.lt (hB.at 0 _ rfl) iy (by rw[jR];simp[maxLen];omega) (by rw[jR];omega)).mono ?_;rintro v w' ⟨ss,B7,IX,Tk,hE⟩;have z7:ss.Perm (R.map fun n:Nat=>(n:Int)):=(B7.trans B2).trans hp;have ep:ss.length=R.length:=by simpa using z7.length_eq
 have adW:(R.map fun n:Nat=>(n:Int)).Pairwise (· < ·):=by
  rw[rD];exact si.imp fun h=>by omega
 have qX:ss.mergeSort (fun x y=>decide (x≤y))=R.map fun n:Nat=>(n:Int):=by
  have tr:∀a b c:Int,decide (a≤b)=true→decide (b≤c)=true→decide (a≤c)=true:=fun a b c h1 h2=>by simp only[oO] at *;omega
  have to:∀a b:Int,(decide (a≤b)||decide (b≤a))=true:=fun a b=>by simp only[Bool.or_eq_true,oO];omega
  refine List.Perm.eq_of_pairwise (le:=fun a b=>decide (a≤b)=true) (fun a b _ _ h1 h2=>?_) (List.pairwise_mergeSort tr to _) (adW.imp fun h=>?_) ((List.mergeSort_perm _ _).trans z7)
  ·simp only[oO] at h1 h2;omega
  ·simp only[oO];omega
 rw[qX,ep,nK] at IX;have hN:∃a c,v = .slice a R.length c∧iF w w' 3 1 a R.length c (aG R):=by
  obtain⟨rW,⟨rfl,h0⟩|⟨g,cap,cur,rfl,h1,h2,h3,h4,h5,h6⟩⟩:=IX
  ·have hR:R=[]:=gu h0;subst hR;exact⟨none,0,rfl,iF.nil _ _ _ _⟩
  ·exact⟨_,cap,rfl,some g,⟨by simp[aG], .inr ⟨g,rfl,rfl,by simp[aG], .inr ⟨g,cap,cur,rfl,bh _,h2,h3,h4,h5,h6⟩⟩⟩,fun x hx=>by cases hx;exact h1,fun x hx=>by cases hx;rfl⟩
 obtain⟨a,c,rfl,hN⟩:=hN;obtain⟨q,rfl,aQ⟩:=hN.sl hH hE;exact⟨(q,c),rfl,trivial,aQ.to⟩
end Go.Proofs.YtoloaehmppcjoaaGreat.V.M
