/-
  Parts of the proof. No condition.
-/
import Derived.Test.YtmlpbmgfmnmmmaaGreatW2bw
set_option linter.unusedVariables false
set_option linter.unusedSimpArgs false
set_option maxRecDepth 8000
set_option maxHeartbeats 8000000
open Go.Proofs.Tryz
namespace Go.Proofs.YtmlpbmgfmnmmmaaGreat.V.M
section
attribute [local irreducible] GX
section
variable {P:Program}{ops:Array Oper}{Q:Exit→Act→World→Prop}{n:Nat}
variable {i:Nat}{e:Env}{w:World}{dst:Option Tmp}{ty:TypeId}{pos:String}{an:Array Edge}{g:Option (Nat×Bool)}
variable {og:Og}{l:List It}
theorem GX.Gu [Fr]{T:Nat→Prop}{w0:World}{p:bZ}{t:TypeId}{cs:List Value}(hH:SH og w l:=by assumption)
  (ho:ops[i]?=some ⟨dst, .alloc t,ty,pos,an,g⟩:=by rfl) (hz:eQ P t cs:=by infer_instance) (hw:aH ops e ⟨dst, .alloc t,ty,pos,an,g⟩=some true:=by rfl) (hd:fits n dst=true:=by rfl) (hT:Mod T w0 w:=by first|assumption|exact Ext.mod (by assumption))
  (h:∀b w',Mod T w0 w'→SH og w' (aA b cs::l)→GX P ops Q (Mod T w0) n p (e.put dst (.pointer (some ⟨b,0,none⟩))) w'):GX P ops Q (Mod T w0) n (.ax i p) e w:=
 GX.ax ho (GO.alloc hw hd fun b w' h1 h2 h3=>⟨fun _ hS=>hS.trans h3.mod,h b w' (hT.trans h3.mod) (hH.Jp h3 h1 h2)⟩)
end
attribute [local irreducible] GO
attribute [local irreducible] aA ao aQ aF fz star eo
instance:aC prog 127 false 1:=⟨ai⟩
structure tP where
 L:List gx
 q:Option Nat×Nat
 nq:Option Nat×Nat
def wT:tP:=⟨[],(none,0),(none,0)⟩
abbrev yN (r:Bc)(x:tP):List Value:=[iV r.op,iV r.err, .slice (ay x.q.1) x.L.length x.q.2,uV r.bf,iV r.n, .slice (ay x.nq.1) r.uT.length x.nq.2]
abbrev yM (r:Bc)(x:tP):List It:=[ao 64 4 x.q.1 x.L.length x.q.2 (aK jA x.L),bB (lz x.L),ao 38 1 x.nq.1 r.uT.length x.nq.2 (lY r.uT)]
theorem SH.wS {o:Og}{w:World}{l:List It}(hH:SH o w l):SH o w (ao 64 4 none 0 0 []::bB []::ao 38 1 none 0 0 []::l):=by
 have h1:=SH.cE (el:=38) (sz:=1) (q:=none) (n:=0) (c:=0) (cs:=[]) hH (Mod.refl w) (fun _ h=>by cases h) (aG.nil _ _ _);exact SH.cE (el:=64) (sz:=4) (q:=none) (n:=0) (c:=0) (cs:=[]) h1.pz (Mod.refl w) (fun _ h=>by cases h) (aG.nil _ _ _)
theorem SH.aht {o:Og}{w:World}{l:List It}(hH:SH o w l):SH o w (ao 38 1 none 0 0 []::l):=
 SH.cE (el:=38) (sz:=1) (q:=none) (n:=0) (c:=0) (cs:=[]) hH (Mod.refl w) (fun _ h=>by cases h) (aG.nil _ _ _)
theorem SH.aiS {o:Og}{w:World}{l:List It}(hH:SH o w l):SH o w (ao 64 4 none 0 0 []::bB []::l):=
 SH.cE (el:=64) (sz:=4) (q:=none) (n:=0) (c:=0) (cs:=[]) hH.pz (Mod.refl w) (fun _ h=>by cases h) (aG.nil _ _ _)
structure tL (c:dh)(y:iR):Prop where
 k:c.k.length<2^20
 v:c.v.length<2^20
 t:c.t.length<2^20
 ks:c.ks.length<2^20
 d:c.d≤never
 v0:y.v.1=none→c.v.length=0
theorem tL.keys {c:dh}{y:iR}(h:tL c y):c.keys.length<2^20:=by
 unfold dh.keys;split
 ·simp
 ·exact h.ks
theorem aif {cb:Nat}{c:dh}(h:qW cb 160 c=0):c.pre.length≤250:=by
 unfold qW at h;split at h
 ·cases h
 split at h
 ·cases h
 split at h
 ·cases h
 split at h
 ·cases h
 split at h
 ·cases h
 rename_i hn
 rw[show hasB 160 32=true from rfl] at hn;simpa using hn
theorem amg {E:aq}{t:Nat}{c:dh}(h:E.eT t (nW c.op) c=0)(dG:c.op=10):c.pre.length≤250:=by
 have e:nW c.op=160:=by rw[dG];rfl
 rw[e] at h;unfold aq.eT at h
 by_cases hp:qW E.cb 160 c=0
 ·exact aif hp
 ·rw[if_pos hp] at h;exact absurd h hp
theorem Ny (p:Prop)[Decidable p]:(if p then iV 1 else iV 0)=iV ((if p then 1 else 0:Nat):Int):=by split<;>rfl
theorem cU.jV {E:aq}{n:Nat}(h:cU E n)(op:Int)(L:List l8)(m:Nat):cU (E.jV op L m) n:=h.note op _ m
theorem aa3 {o:Og}{w:World}{b n:Nat}{E:aq}(hW:cU E n)(t:Nat)(c:dh)(y:iR)(dG:¬(1≤c.op∧c.op<16))(hs:Start o w (bU b E::vE c y)) :
  aj prog 28 [ak b,uV t, .agg (jH c y).toArray].toArray w (aU o (fun x:tP => .tuple #[.agg (yN (E.cI t c).2.1 x).toArray,iV (E.cI t c).2.2]) (fun x=>x.L.map (·.i)=(E.cI t c).2.1.L∧cU (E.cI t c).1 (n+2)) (fun x=>bU b (E.cI t c).1::yM (E.cI t c).2.1 x)):=by
 have hH:=hs.sh;have hd:E.cI t c=(E,OV,2):=if_neg dG;rw[hd];obtain⟨X,hH⟩:=SH.un hH;replace hH:=SH.ap hH;dsimp only[eK] at hH;refine aj.enter func28 rfl ntmps28 rfl (gh ?_);refine GX.cw (h:=fun z w hH=>gh ?_);refine GX.cm (h:=fun r6 w hH=>gh ?_);refine GX.aL (hc:=fun _ hs=>Bp hs) (h:=fun w hE hH=>gh ?_);refine gh ?_;refine GX.aL (hc:=fun _ hs=>by have:=Q3 c.op hs;rw[show Bf c.op = .agg #[.nilFunc, .int .u8 0] from if_neg dG,bt dG] at this;exact this) (h:=fun w hE hH=>gh ?_);refine GX.cm (h:=fun a w hH=>gh ?_);refine GX.bc (h:=fun w hH=>gh ?_);refine GX.bc (h:=fun w hH=>gh ?_);exact⟨wT,rfl,⟨rfl,hW.up ah⟩,(SH.wS (cV (X:=X) (E:=E) hH)).to⟩
theorem aa4 {o:Og}{w:World}{b n:Nat}{E:aq}(hW:cU E n)(hn:n<6000)(t:Nat)(ht:t≤never)(c:dh)(y:iR)(hc:tL c y)(dG:1≤c.op∧c.op<16)(hs:Start o w (bU b E::vE c y)) :
  aj prog 28 [ak b,uV t, .agg (jH c y).toArray].toArray w (aU o (fun x:tP => .tuple #[.agg (yN (E.cI t c).2.1 x).toArray,iV (E.cI t c).2.2]) (fun x=>x.L.map (·.i)=(E.cI t c).2.1.L∧cU (E.cI t c).1 (n+2)) (fun x=>bU b (E.cI t c).1::yM (E.cI t c).2.1 x)):=by
 have hH:=hs.sh;replace hH:=SH.xH (a:=y.k.1) (cs:=aM c.ks) hH bL;replace hH:=SH.xH (a:=y.t.1) (cs:=aM c.t) hH bL;obtain⟨hk,hv,qK,ff,Ed,kG⟩:=hc;have rG:c.keys.length<2^20:=tL.keys (y:=y) ⟨hk,hv,qK,ff,Ed,kG⟩;have hG:=hW.ok;have BH:=hW.gK;have uB:=hW.sK;have MJ:max E.now t≤never:=Nat.max_le.2 ⟨hG.now,ht⟩;have hd:E.cI t c=_:=if_pos dG;obtain⟨X,hH⟩:=SH.un hH;replace hH:=SH.ap hH;dsimp only[eK] at hH;refine aj.enter func28 rfl ntmps28 rfl (gh ?_);refine GX.cw (h:=fun z w hH=>gh ?_);refine GX.cm (h:=fun r6 w hH=>gh ?_);refine GX.aL (hc:=fun _ hs=>Bp hs) (h:=fun w hE hH=>gh ?_);refine gh ?_;refine GX.aL (hc:=fun _ hs=>by have:=Q3 c.op hs;rw[Y6 dG,bQ dG] at this;exact this) (h:=fun w hE hH=>gh ?_);refine GX.cm (h:=fun a w hH=>gh ?_);refine GX.bc (h:=fun w hH=>gh ?_);replace hH:=cV (X:=X) (E:=E) hH;generalize IZ:E.eT t (nW c.op) c=e at hd;refine GC.cut (X:=Nat) (fun r=>[(0,ak b),(1,uV t),(5,ak z),(6,ak r6),(8,ak a),(10,ak r)]) (fun r w'=>SH o w' [bU b E,aA z (jH c y),aA r6 [iV 0,iV 0, .slice none 0 0,uV 0,iV 0, .slice none 0 0],aA a [.func (.func (kf c.op)) #[] #[], .int .u8 (nW c.op)],aA r [iV c.op,iV e, .slice none 0 0,uV 0,iV 0, .slice none 0 0],aF y.k.1 (aM c.ks),aF y.v.1 (Lib.byteCells c.v),aF y.t.1 (aM c.t)]) ?_ ?_
 ·refine GC.bq (pl:=(.pure 0 (.pure 2 (.pure 3 (.pure 5 (.read 1 (.read 4 (.read 6 (.alt (.ax 7 (.pure 8 (.ax 9 (.ax 10 .done)))) (.ax 9 (.ax 7 (.pure 8 (.ax 10 .done))))))))))))) (T:=cS [z,a]) (hm:=mixed) (h:=fun w hE hH=>gh ?_);refine GX.alt (gh ?_) (gh ?_)
  ·refine GX.gz (hc:=fun _ hs=>Ra hG t (V8 c.op) c y ah ah ah ah ah hs) (h:=fun w hS hH=>gh ?_);rw[IZ];refine GX.Gu (h:=fun AJ w hS hH=>gh ?_);refine GX.CX (h:=fun w hH=>gh ?_);exact GQ.dx AJ (cZ (l:=[0,1,5,6,8,10]) rfl) hH.to
  ·refine GX.Gu (h:=fun AJ w hS hH=>gh ?_);refine GX.gz (hc:=fun _ hs=>Ra hG t (V8 c.op) c y ah ah ah ah ah hs) (h:=fun w hS hH=>gh ?_);rw[IZ];refine GX.CX (h:=fun w hH=>gh ?_);exact GQ.dx AJ (cZ (l:=[0,1,5,6,8,10]) rfl) hH.to
 rintro AJ w hH;refine gh ?_
 by_cases he:e=0
 ·subst he;rw[if_pos rfl] at hd;refine gh ?_;obtain⟨X,hH⟩:=SH.un hH;replace hH:=SH.ap hH;dsimp only[eK] at hH;refine gh ?_;refine GX.da (Dy E.now t _) rfl rfl rfl rfl rfl rfl (gh ?_);refine GX.dw (h:=fun w hH=>gh ?_);refine GC.bq (pl:=(aZ [0,3,6,12,15,18,10,22,26])) (T:=cS [b]) (hm:=mixed) (h:=fun w hE hH=>gh ?_);refine GX.gz (hc:=fun _ hs=>ajx (S:=E.a) (max E.now t) MJ hs) (h:=fun w hS hH=>gh ?_);refine GC.bq (pl:=(aZ [0,3,6,12,15,18,30,10,22,26,27])) (T:=cS [b]) (hm:=mixed) (h:=fun w hE hH=>gh ?_);refine GX.gT (hc:=fun _ hs=>alb (s:=E.s) (max E.now t) ah hs) (h:=?_);rintro⟨gs,gq,gc⟩ w BI hS hH;replace hH:=SH.ap hH;dsimp only at BI hH ⊢;have Lw:=hW.mz ht;have iz:=hW.start ah ht;have dt:E.start t=(E.mz t).fh (E.s.gone (max E.now t)):=rfl;have hK0:(E.mz t).r.K=E.r.K:=rfl;have Tu:=hW.lx;have IY:=hW.bf;have lK:gs.length=(E.s.gone (max E.now t)).length:=by rw[←BI,fk]
  have ade:(E.s.gone (max E.now t)).length≤E.s.E.length:=by
   show(AS _).length≤_;rw[(FR _).length_eq];exact rh _ _
  replace hH:=cV (X:=X) (E:=E.mz t) hH;generalize E.s.gone (max E.now t)=gn at BI lK ade dt;generalize E.mz t=E0 at Lw dt hK0 hH;refine gh ?_;refine GC.bP [0,5,6,8,10,63,64] (fun i:Nat=>[(65,iV i)]) (fun i w'=>i≤gs.length∧SH o w' [bU b (E0.fh (gn.take i)),ao 138 6 gq gs.length gc (aK eB gs),aA z (jH c y),aA r6 [iV 0,iV 0, .slice none 0 0,uV 0,iV 0, .slice none 0 0],aA a [.func (.func (kf c.op)) #[] #[], .int .u8 (nW c.op)],aA AJ [iV c.op,iV 0, .slice none 0 0,uV 0,iV 0, .slice none 0 0],aF y.k.1 (aM c.ks),aF y.v.1 (Lib.byteCells c.v),aF y.t.1 (aM c.t)]) (fun i=>gs.length - i) 0 rfl rfl ⟨bh _,hH.to⟩ ?_;rintro i w ⟨hi,hH⟩;have DR:=Lw.fh (gn.take i);have gi:=fun x=>@aq.VM E0 gn i x
  have aP:(gn.take i).length≤gn.length:=by rw[dE];omega
  generalize gV:E0.fh (gn.take i)=E6 at hH DR gi;obtain⟨iK,v1,v2,v3,v4,v5,v6,v7⟩:=DR;refine gh ?_;refine ifs (fun h1=>?_) (fun h1=>?_)<;>refine gh ?_
  ·obtain⟨x,hx⟩:∃x,gs[i]?=some x:=⟨_,bO ah⟩
   have ey:gn[i]?=some x.e:=by rw[←BI,gb,hx];rfl
   have ES:=gi x.e ey;obtain⟨qb,rfl⟩:=hH.pos (el:=138) (sz:=6) (q:=gq) (n:=gs.length);refine gh ?_;refine GX.next rfl (GO.jz (hv:=jj o9 hx) (h:=gh ?_));refine GX.cm (h:=fun f w hH=>gh ?_);refine GX.bc (h:=fun w hH=>gh ?_);refine GX.bz (hc:=fun _ hs=>K3 iK x.e.k _ _ x.e.d x.e.n x.e.st ah hs) (h:=fun w hH=>gh ?_);refine gh ?_;refine GQ.br (i+1) rfl ⟨by omega,?_⟩ ah;rw[ES];exact hH.to
  obtain rfl:i=gs.length:=by omega
  rw[lK,eO (bj _),←dt] at gV;rw[gV] at hd iz;clear gi dt Lw aP v1 v2 v3 v4 v5 v6 v7;have amY:=iz.lx;have am8:=iz.bf;have am2:=iz.sK;have amx:=iz.gK;have amX:=iz.pK;have adf:(c.op=1∨c.op=2∨c.op=3)∨(c.op=4∨c.op=5)∨c.op=6∨c.op=7∨(c.op=8∨c.op=9)∨(c.op=10∨c.op=14)∨(c.op=11∨c.op=12)∨c.op=13∨c.op=15:=by omega
  rcases adf with h|h|h|h|h|h|h|h|h
  ·rw[Gt h] at hd;have hA:=iz.act ah c rG;rw[Gt h] at hA;rw[YV h];refine GX.bS (hc:=fun _ hs=>abi iz.ok c y ah ah ah Ed kG ah iz.lx ah ah hs) (h:=?_);rintro⟨⟩ w hb hH;replace hH:=SH.ap hH;replace hA:=hA (fun _=>hb);dsimp only at hA;replace hH:=SH.wS hH;refine gh ?_;refine GX.bz (hc:=fun _ hs=>vH hA.ok c.op dG [] none 0 ((cR E6.g.E c.k).length) (by decide) ah _ _ hs) (h:=fun w hH=>gh ?_);refine GX.bc (h:=fun w hH=>gh ?_);rw[hd];rw[wI (l:=[]) (L:=[]) _ _ rfl] at hH;exact⟨wT,rfl,⟨rfl,hA.jV _ _ _⟩,hH.to⟩
  ·rw[Ky h] at hd;have hA:=iz.act ah c rG (fun h=>by omega);rw[Ky h] at hA;rw[YW h];have adb:=(iz.ok.gU c.keys).2.2.2;refine GX.bS (hc:=fun _ hs=>aa5 iz.ok c y ah ah ah hs) (h:=?_);rintro⟨L,q,cc⟩ w hL hH;replace hH:=SH.ap hH;dsimp only at hA hL hH ⊢;have LH:=congrArg List.length hL;rw[fk] at LH;replace hH:=SH.aht hH;refine gh ?_;refine GX.bz (hc:=fun _ hs=>vH hA.ok c.op dG L q cc 0 ah (by decide) _ _ hs) (h:=fun w hH=>gh ?_);refine GX.bc (h:=fun w hH=>gh ?_);rw[hd];rw[wI _ _ hL] at hH;exact⟨⟨L,(q,cc),(none,0)⟩,rfl,⟨hL,hA.jV _ _ _⟩,hH.to⟩
  ·rw[PO h] at hd;have hA:=iz.act ah c rG;rw[PO h] at hA;rw[YX h];refine GX.bz (hc:=fun _ hs=>by have:=abf (b:=b) (rb:=AJ) (r0:=iV c.op) (r1:=iV 0) (r2 := .slice none 0 0) (r3:=uV 0) (r4:=iV 0) (r5 := .slice none 0 0) (E:=E6) iz.ok c y Ed ah ah hs;rw[Ny] at this;exact this) (h:=fun w hH=>gh ?_);replace hA:=hA (fun h=>by omega);dsimp only at hA;replace hH:=SH.wS hH;refine gh ?_;refine GX.bz (hc:=fun _ hs=>vH hA.ok c.op dG [] none 0 (if E6.live c.k=true then 1 else 0) (by decide) (by split<;>decide) _ _ hs) (h:=fun w hH=>gh ?_);refine GX.bc (h:=fun w hH=>gh ?_);rw[hd];rw[wI (l:=[]) (L:=[]) _ _ rfl] at hH;exact⟨wT,rfl,⟨rfl,hA.jV _ _ _⟩,hH.to⟩
  ·rw[PQ h] at hd;have hA:=iz.act ah c rG;rw[PQ h] at hA;rw[YY h];refine GX.bS (hc:=fun _ hs=>aa1 (E:=E6) iz.ok c y ah ah ah hs) (h:=?_);rintro⟨⟩ w hb hH;replace hH:=SH.ap hH;rw[Ny] at hH;replace hA:=hA (fun hx=>by rcases hx with hx|hx|hx<;>first|omega|exact hb hx.2);dsimp only at hA;replace hH:=SH.wS hH;refine gh ?_;refine GX.bz (hc:=fun _ hs=>vH hA.ok c.op dG [] none 0 (if E6.live c.k=true then 1 else 0) (by decide) (by split<;>decide) _ _ hs) (h:=fun w hH=>gh ?_);refine GX.bc (h:=fun w hH=>gh ?_);rw[hd];rw[wI (l:=[]) (L:=[]) _ _ rfl] at hH;exact⟨wT,rfl,⟨rfl,hA.jV _ _ _⟩,hH.to⟩
  ·rw[PR h] at hd;have hA:=iz.act ah c rG;rw[PR h] at hA;rw[YZ h];refine GX.bz (hc:=fun _ hs=>abb (op:=c.op) (E:=E6) iz.ok c y hs) (h:=fun w hH=>gh ?_);replace hA:=hA (fun h=>by omega);dsimp only at hA;replace hH:=SH.wS hH;refine gh ?_;refine GX.bz (hc:=fun _ hs=>vH hA.ok c.op dG [] none 0 (0) (by decide) ah _ _ hs) (h:=fun w hH=>gh ?_);refine GX.bc (h:=fun w hH=>gh ?_);rw[hd];rw[wI (l:=[]) (L:=[]) _ _ rfl] at hH;exact⟨wT,rfl,⟨rfl,hA.jV _ _ _⟩,hH.to⟩
  ·rw[Kz h] at hd;have hA:=iz.act ah c rG;rw[Kz h] at hA;rw[Y0 h];refine GX.bz (hc:=fun _ hs=>aba (op:=c.op) (E:=E6) iz.ok c y (fun aR=>amg IZ ah) ah hs) (h:=fun w hH=>gh ?_);replace hA:=hA (fun h=>by omega);dsimp only at hA;replace hH:=SH.wS hH;refine gh ?_;refine GX.bz (hc:=fun _ hs=>vH hA.ok c.op dG [] none 0 (0) (by decide) ah _ _ hs) (h:=fun w hH=>gh ?_);refine GX.bc (h:=fun w hH=>gh ?_);rw[hd];rw[wI (l:=[]) (L:=[]) _ _ rfl] at hH;exact⟨wT,rfl,⟨rfl,hA.jV _ _ _⟩,hH.to⟩
  ·rw[PS h] at hd;have hA:=iz.act ah c rG;rw[PS h] at hA;rw[Y1 h];refine GX.bz (hc:=fun _ hs=>by have:=aa2 (b:=b) (rb:=AJ) (r0:=iV c.op) (r1:=iV 0) (r2 := .slice none 0 0) (r3:=uV 0) (r4:=iV 0) (r5 := .slice none 0 0) (E:=E6) c y ah hs;rw[Ny] at this;exact this) (h:=fun w hH=>gh ?_);replace hA:=hA (fun h=>by omega);dsimp only at hA;replace hH:=SH.wS hH;refine gh ?_;refine GX.bz (hc:=fun _ hs=>vH hA.ok c.op dG [] none 0 (if E6.Du c.op c.k c.ch=true then 1 else 0) (by decide) (by split<;>decide) _ _ hs) (h:=fun w hH=>gh ?_);refine GX.bc (h:=fun w hH=>gh ?_);rw[hd];rw[wI (l:=[]) (L:=[]) _ _ rfl] at hH;exact⟨wT,rfl,⟨rfl,hA.jV _ _ _⟩,hH.to⟩
  ·rw[PT h] at hd;have hA:=iz.act ah c rG;rw[PT h] at hA;rw[Y2 h];refine GX.bS (hc:=fun _ hs=>aa6 (E:=E6) iz.ok c y ah ah ah hs) (h:=?_);rintro⟨⟩ w hb hH;replace hH:=SH.ap hH;replace hA:=hA (fun _=>hb);dsimp only at hA;replace hH:=SH.wS hH;refine gh ?_;refine GX.bz (hc:=fun _ hs=>vH hA.ok c.op dG [] none 0 ((cR E6.g.E c.k).length) (by decide) ah _ _ hs) (h:=fun w hH=>gh ?_);refine GX.bc (h:=fun w hH=>gh ?_);rw[hd];rw[wI (l:=[]) (L:=[]) _ _ rfl] at hH;exact⟨wT,rfl,⟨rfl,hA.jV _ _ _⟩,hH.to⟩
  ·rw[Y4 h] at hd;have hA:=iz;have pF:=iz.ok.dC.1;rw[Y3 h];refine GX.bS (hc:=fun _ hs=>abc iz.ok c y hs) (h:=?_);rintro⟨q,cc⟩ w _ hH;replace hH:=SH.ap hH;dsimp only at hH;replace hH:=SH.aiS hH;refine gh ?_;refine GX.bz (hc:=fun _ hs=>vH hA.ok c.op dG [] none 0 0 (by decide) (by decide) _ _ hs) (h:=fun w hH=>gh ?_);refine GX.bc (h:=fun w hH=>gh ?_);rw[hd];rw[wI (l:=[]) (L:=[]) _ _ rfl] at hH;refine⟨⟨[],(none,0),(q,cc)⟩,?_,⟨rfl,(hA.jV _ _ _).up ah⟩,?_⟩
   ·show _=Value.tuple #[.agg #[iV c.op,iV 0, .slice none 0 0,uV 0,iV 0, .slice (ay q) E6.dC.length cc],iV 0];rw[pF]
   ·show SH o w [bU b (E6.jV c.op [] 0),ao 64 4 none 0 0 [],bB [],ao 38 1 q E6.dC.length cc (lY E6.dC)];rw[pF];exact hH.to
 ·rw[if_neg he] at hd;rw[hd,show decide (e=0)=false from bt he];refine gh ?_;refine GX.bz (hc:=fun _ hs=>aa8 hG c.op e he _ _ _ _ hs) (h:=fun w hH=>gh ?_);refine GX.bc (h:=fun w hH=>gh ?_);exact⟨wT,rfl,⟨rfl,(hW.raise 1 1 (by decide)).up ah⟩,(SH.wS hH).to⟩
theorem Bo {o:Og}{w:World}{b n:Nat}{E:aq}(hW:cU E n)(hn:n<6000)(t:Nat)(ht:t≤never)(c:dh)(y:iR)(hc:tL c y)(hs:Start o w (bU b E::vE c y)) :
  aj prog 28 [ak b,uV t, .agg (jH c y).toArray].toArray w (aU o (fun x:tP => .tuple #[.agg (yN (E.cI t c).2.1 x).toArray,iV (E.cI t c).2.2]) (fun x=>x.L.map (·.i)=(E.cI t c).2.1.L∧cU (E.cI t c).1 (n+2)) (fun x=>bU b (E.cI t c).1::yM (E.cI t c).2.1 x)):=by
 by_cases dG:1≤c.op∧c.op<16
 ·exact aa4 hW hn t ht c y hc dG hs
 ·exact aa3 hW t c y dG hs
end
section
attribute [local irreducible] GO GX aA eo fz aF aQ ao star
variable {o:Og}{w:World}
theorem ZF {a1 a2:Option Addr}{n c1 c2:Nat}(l:Bs)(hn:l.length=n)(hs:Start o w [aF a1 (Lib.byteCells l),aF a2 (Lib.byteCells l)]):aj prog 142 [.slice a1 n c1, .slice a2 n c2].toArray w (Po o (.bool true) []):=by
 have hH:=hs.sh;subst hn;have h1:bM w a1 (nK l):=hH.bR (x:=aF a1 (Lib.byteCells l)) (a:=a1) (cs:=Lib.byteCells l) bL;have h2:bM w a2 (nK l):=hH.bR (x:=aF a2 (Lib.byteCells l)) (a:=a2) (cs:=Lib.byteCells l) bL;refine aj.enter func142 rfl ntmps142 rfl (gh ?_);refine GX.next rfl (GO.toStr h1 rfl rfl rfl (gh ?_));refine GX.next rfl (GO.toStr h2 rfl rfl rfl (gh ?_));refine⟨?_,hH.to⟩;simp
theorem aeJ (i:l8)(q1 q2:Option Nat×Nat)(hs:Start o w [aF (ay q1.1) (Lib.byteCells i.v),aF (ay q2.1) (Lib.byteCells i.v)]):aj prog 85 [.agg (yv i q1).toArray, .agg (yv i q2).toArray].toArray w (Po o (.bool true) []):=by
 have hH:=hs.sh;dsimp only[yv];refine aj.enter func85 rfl ntmps85 rfl (gh ?_);refine GX.cw (h:=fun x w hH=>gh ?_);refine GX.cw (h:=fun y w hH=>gh ?_);rw[show decide (i.m=i.m)=true from bQ rfl];refine gh ?_;refine GX.aL (hc:=fun _ hs=>ZF (a1:=ay q1.1) (a2:=ay q2.1) i.v rfl hs) (h:=fun w hE hH=>gh ?_);rw[show decide ((i.n:Int)=(i.n:Int))=true from bQ rfl];refine gh ?_;refine⟨?_,hH.to⟩;simp
theorem W3 (r:gx)(L:List gx):lz (r::L)=FG r++lz L:=by simp[lz]
theorem aeK (L M:List gx)(h:L.map (·.i)=M.map (·.i))(hL:L.length<2^40){q1 q2:Option Nat}{c1 c2:Nat}(hs:Start o w [ao 64 4 q1 L.length c1 (aK jA L),bB (lz L),ao 64 4 q2 M.length c2 (aK jA M),bB (lz M)]) :
  aj prog 84 [.slice (ay q1) L.length c1, .slice (ay q2) M.length c2, .func (.func 85) #[] #[]].toArray w (Po o (.bool true) []):=by
 have hH:=hs.sh;have hlen:L.length=M.length:=by simpa using congrArg List.length h
 refine aj.enter func84 rfl ntmps84 rfl (gh ?_);rw[show decide ((L.length:Int)≠(M.length:Int))=false from bt ah];refine gh ?_;refine GC.bP [1,2,15,16] (fun k:Nat=>[(17,iV k)]) (fun k w'=>k≤L.length∧SH o w' [ao 64 4 q1 L.length c1 (aK jA L),bB (lz (L.drop k)),ao 64 4 q2 M.length c2 (aK jA M),bB (lz (M.drop k))]) (fun k=>L.length - k) 0 rfl rfl ⟨bh _,hH.to⟩ ?_;rintro k w ⟨hk,hH⟩;refine gh ?_;refine ifs (fun h1=>?_) (fun h1=>?_)<;>refine gh ?_
 ·obtain⟨x,hx⟩:∃x,L[k]?=some x:=⟨_,bO ah⟩
  obtain⟨y,hy⟩:∃y,M[k]?=some y:=⟨_,bO ah⟩
  have Al:x.i=y.i:=by
   have:=congrArg (fun l:List l8=>l[k]?) h;simp only[gb,hx,hy,jr] at this;exact Option.some.inj this
  have zL:L.drop k=x::L.drop (k+1):=by rw[p7 ah];congr 1;exact(aV.1 hx).2
  have hdy:M.drop k=y::M.drop (k+1):=by rw[p7 ah];congr 1;exact(aV.1 hy).2
  obtain⟨b1,rfl⟩:=hH.pos (el:=64) (sz:=4) (q:=q1) (n:=L.length);obtain⟨b2,rfl⟩:=hH.pos (el:=64) (sz:=4) (q:=q2) (n:=M.length);rw[zL,hdy,W3,W3] at hH;replace hH:=hH.oF (FG x) (lz (L.drop (k+1))) (mC _) bL;replace hH:=hH.oF (FG y) (lz (M.drop (k+1))) (mC _) bL;obtain⟨xi,qx⟩:=x;obtain⟨yi,qy⟩:=y;dsimp only at Al;subst Al;replace hH:SH o w [ao 5 1 qy.1 xi.v.length qy.2 (Lib.byteCells xi.v),bB (lz (M.drop (k+1))),ao 5 1 qx.1 xi.v.length qx.2 (Lib.byteCells xi.v),bB (lz (L.drop (k+1))),ao 64 4 (some b1) L.length c1 (aK jA L),ao 64 4 (some b2) M.length c2 (aK jA M)]:=hH;replace hH:=SH.freeze (el:=5) (sz:=1) (q:=qx.1) (n:=xi.v.length) (c:=qx.2) (cs:=Lib.byteCells xi.v) hH bL;replace hH:=SH.freeze (el:=5) (sz:=1) (q:=qy.1) (n:=xi.v.length) (c:=qy.2) (cs:=Lib.byteCells xi.v) hH bL;refine gh ?_;refine GX.next rfl (GO.jz (hv:=jj OR hx) (h:=gh ?_));refine GX.cm (h:=fun f w hH=>gh ?_);refine GX.bc (h:=fun w hH=>gh ?_);refine GX.next rfl (GO.jz (hv:=jj OR hy) (h:=gh ?_));refine GX.cm (h:=fun g w hH=>gh ?_);refine GX.bc (h:=fun w hH=>gh ?_);refine GX.aL (hc:=fun _ hs=>aeJ xi qx qy hs) (h:=fun w hE hH=>gh ?_);exact GQ.br (k+1) rfl ⟨by omega,hH.to⟩ ah
 ·refine gh ?_;exact⟨rfl,hH.to⟩
theorem ahu (l:List Nat){n:Nat}(hn:l.length=n)(hl:l.length<2^40){q1 q2:Option Nat}{c1 c2:Nat}(hs:Start o w [ao 38 1 q1 n c1 (lY l),ao 38 1 q2 n c2 (lY l)]) :
  aj prog 86 [.slice (ay q1) n c1, .slice (ay q2) n c2].toArray w (Po o (.bool true) []):=by
 have hH:=hs.sh;subst hn;refine aj.enter func86 rfl ntmps86 rfl (gh ?_);rw[show decide ((l.length:Int)≠(l.length:Int))=false from bt ah];refine gh ?_;refine GC.bP [0,1,12] (fun k:Nat=>[(13,iV k)]) (fun k w'=>k≤l.length∧SH o w' [ao 38 1 q1 l.length c1 (lY l),ao 38 1 q2 l.length c2 (lY l)]) (fun k=>l.length - k) 0 rfl rfl ⟨bh _,hH.to⟩ ?_;rintro k w ⟨hk,hH⟩;refine gh ?_;refine ifs (fun h1=>?_) (fun h1=>?_)<;>refine gh ?_
 ·obtain⟨x,hx⟩:∃x,l[k]?=some x:=⟨_,bO ah⟩
  obtain⟨b1,rfl⟩:=hH.pos (el:=38) (sz:=1) (q:=q1) (n:=l.length);obtain⟨b2,rfl⟩:=hH.pos (el:=38) (sz:=1) (q:=q2) (n:=l.length);have hv:(lY l)[k]?=some (uV x):=by simp[lY,hx]
  refine gh ?_;refine GC.bq (pl:=(aZ [0,3,6,12,15,18,10,22,24])) (T:=fun _=>False) (hm:=mixed) (h:=fun w hE hH=>gh ?_);refine GX.read rfl (GO.jU (hv:=hv) (h:=gh ?_));refine GX.read rfl (GO.jU (hv:=hv) (h:=gh ?_));rw[show decide ((x:Int)≠(x:Int))=false from bt ah];refine gh ?_;exact GQ.br (k+1) rfl ⟨by omega,hH.to⟩ ah
 ·refine gh ?_;exact⟨rfl,hH.to⟩
theorem ai0 (r:Bc)(x y:tP)(hx:x.L.map (·.i)=r.L)(hy:y.L.map (·.i)=r.L)(hr:r.L.length<2^40∧r.uT.length<2^40)(hs:Start o w (yM r x++yM r y)) :
  aj prog 44 [.agg (yN r x).toArray, .agg (yN r y).toArray].toArray w (Po o (.bool true) []):=by
 have hH:SH o w [ao 64 4 x.q.1 x.L.length x.q.2 (aK jA x.L),bB (lz x.L),ao 38 1 x.nq.1 r.uT.length x.nq.2 (lY r.uT),ao 64 4 y.q.1 y.L.length y.q.2 (aK jA y.L),bB (lz y.L),ao 38 1 y.nq.1 r.uT.length y.nq.2 (lY r.uT)]:=hs.sh;have Al:=hx.trans hy.symm;have wv:x.L.length<2^40:=by have:=congrArg List.length hx;rw[fk] at this;omega
 refine aj.enter func44 rfl ntmps44 rfl (gh ?_);refine GX.cw (h:=fun p w hH=>gh ?_);refine GX.cw (h:=fun q w hH=>gh ?_);rw[show decide (r.op=r.op)=true from bQ rfl];refine gh ?_;rw[show decide (r.err=r.err)=true from bQ rfl];refine gh ?_;refine GX.bz (hc:=fun _ hs=>aeK x.L y.L Al wv hs) (h:=fun w hH=>gh ?_);rw[show decide ((r.bf:Int)=(r.bf:Int))=true from bQ rfl];refine gh ?_;rw[show decide ((r.n:Int)=(r.n:Int))=true from bQ rfl];refine gh ?_;refine GX.bz (hc:=fun _ hs=>ahu r.uT rfl hr.2 hs) (h:=fun w hH=>gh ?_);exact⟨rfl,hH.to⟩
theorem aaQ {E:aq}{n:Nat}(h:cU E n)(hn:n<8000){t:Nat}(ht:t≤never)(c:dh)(hk:c.keys.length<2^20):(E.cI t c).2.1.L.length<2^40∧(E.cI t c).2.1.uT.length<2^40:=by
 have hs:=h.start hn ht;unfold aq.cI;split
 ·split
  ·dsimp only;unfold aq.act
   (repeat' split)<;>first|(simp;done)|skip
   ·dsimp only;rw[(hs.ok.gU c.keys).2.2.2];simp;omega
   ·dsimp only;rw[hs.ok.dC.1];simp
  ·simp
 ·simp[OV]
end
section
structure y9 (up:Nat)(R:List Nat):Prop where
 so:R.Pairwise (· < ·)
 gt:∀x∈R,up+1<x
def dg (up:Nat)(R:List Nat):List Nat:=List.range' 1 up++R
def ja (n:Nat):List Nat→List Nat
 | []=>[n]
 |x::r=>if x<n then x::ja n r else n::x::r
def oY:Nat→List Nat→Nat×List Nat
 |up,[]=>(up,[])
 |up,x::r=>if x=up+1 then oY (up+1) r else(up,x::r)
def pW (up:Nat)(R:List Nat)(n:Nat):Nat×List Nat:=oY up (ja n R)
theorem An {n x:Nat}{R:List Nat}:x∈ja n R↔x=n∨x∈R:=by
 induction R with
 |nil=>simp[ja]
 |cons y r ih=>
  unfold ja;split
  ·simp only[bY,ih];exact⟨fun h=>by rcases h with h|h|h<;>simp[h],fun h=>by rcases h with h|h|h<;>simp[h]⟩
  ·simp
theorem Uc {n:Nat}{R:List Nat}(h:R.Pairwise (· < ·))(hn:n∉R):(ja n R).Pairwise (· < ·):=by
 induction R with
 |nil=>simp[ja]
 |cons y r ih=>
  rw[lB] at h;obtain⟨h1,h2⟩:=h;simp only[bY,not_or] at hn;unfold ja;split
  ·rw[lB];refine⟨fun z hz=>?_,ih h2 hn.2⟩
   rcases An.1 hz with rfl|hz
   ·assumption
   ·exact h1 z hz
  ·rw[lB,lB];refine⟨fun z hz=>?_,h1,h2⟩
   rcases bY.1 hz with rfl|hz
   ·omega
   ·have:=h1 z hz;omega
theorem ahp {up:Nat}{R:List Nat}(h:R.Pairwise (· < ·))(hg:∀x∈R,up<x):y9 (oY up R).1 (oY up R).2∧dg up R=dg (oY up R).1 (oY up R).2∧(oY up R).1+(oY up R).2.length=up+R.length:=by
 induction R generalizing up with
 |nil=>exact⟨⟨List.Pairwise.nil,fun _ h=>by cases h⟩,rfl,rfl⟩
 |cons x r ih=>
  rw[lB] at h;obtain⟨h1,h2⟩:=h;unfold oY;split
  ·rename_i hx
   obtain⟨k1,k2,k3⟩:=ih (up:=up+1) h2 (fun z hz=>by have:=h1 z hz;omega);refine⟨k1,?_,by rw[k3,dR];omega⟩;rw[←k2];unfold dg;rw[List.range'_concat,cP,hx];simp[Nat.add_comm]
  ·rename_i hx
   refine⟨⟨lB.2 ⟨h1,h2⟩,fun z hz=>?_⟩,rfl,rfl⟩;have ey:=hg x (by simp)
   rcases bY.1 hz with rfl|hz
   ·omega
   ·have:=h1 z hz;omega
def gM:Nat→List Nat→List (Nat×Nat)
 |_,[]=>[]
 |f,x::r=>(if f<x then[(f,x)] else[])++gM (x+1) r
theorem abU (up k:Nat)(R:List Nat):gM k (List.range' k up++R)=gM (k+up) R:=by
 induction up generalizing k with
 |zero=>rfl
 |succ up ih=>
  rw[List.range'_succ,iQ];show(if k<k then[(k,k)] else[])++gM (k+1) (List.range' (k+1) up++R)=_;rw[if_neg ah,jF,ih,show k+1+up=k+(up+1) by omega]
theorem Ry (up:Nat)(R:List Nat):gM 1 (dg up R)=gM (up+1) R:=by
 unfold dg;rw[abU,Nat.add_comm]
theorem abV {L:List Nat}{f i x:Nat}(h:L[i]?=some x):∃g,(∀s,s=f→gM s (L.take (i+1))=gM s (L.take i)++(if g<x then[(g,x)] else[]))∧(i=0→g=f)∧(∀y,0<i→L[i - 1]?=some y→g=y+1):=by
 induction L generalizing f i with
 |nil=>simp at h
 |cons y L ih=>
  cases i with
  |zero=>
   simp at h;subst h;exact⟨f,fun s hs=>by subst hs;simp[gM],fun _=>rfl,fun _ h=>by omega⟩
  |succ i=>
   simp at h;obtain⟨g,h1,h2,h3⟩:=ih (f:=y+1) h;refine⟨g,fun s hs=>?_,by omega,fun z _ hz=>?_⟩
   ·have:=h1 (y+1) rfl;simp only[List.take_succ_cons,gM];rw[this,cP]
   ·cases i with
    |zero=>
     simp at hz;subst hz;exact h2 rfl
    |succ i=>
     simp only[Nat.add_sub_cancel] at hz h3;rw[List.getElem?_cons_succ] at hz;exact h3 z ah hz
theorem ajB {up i:Nat}{R:List Nat}(h:i<up):(dg up R)[i]?=some (i+1):=by
 unfold dg;rw[gr (by simpa using h),List.getElem?_range' h];congr 1;omega
theorem ajC {up i:Nat}{R:List Nat}(h:up≤i):(dg up R)[i]?=R[i - up]?:=by
 unfold dg;rw[ia (by simpa using h)];simp
theorem O3 (up:Nat)(R:List Nat):(dg up R).length=up+R.length:=by
 unfold dg;simp
theorem JW {up n:Nat}{R:List Nat}:n∈dg up R↔(1≤n∧n≤up)∨n∈R:=by
 unfold dg;rw[cJ,List.mem_range'_1];exact⟨fun h=>h.imp (fun h=>by omega) id,fun h=>h.imp (fun h=>by omega) id⟩
def o4 (n:Nat)(L:List Nat):Nat:=(L.takeWhile fun x=>decide (x<n)).length
theorem ND (n:Nat)(L:List Nat):ja n L=L.take (o4 n L)++n::L.drop (o4 n L):=by
 induction L with
 |nil=>rfl
 |cons x r ih=>
  unfold ja o4
  by_cases h:x<n
  ·rw[if_pos h,List.takeWhile_cons_of_pos (by simpa using h)];simp only[dR,List.take_succ_cons,List.drop_succ_cons,iQ];rw[ih];rfl
  ·rw[if_neg h,List.takeWhile_cons_of_neg (by simpa using h)];rfl
theorem aeA {n up:Nat}(R:List Nat)(h:up<n):ja n (dg up R)=dg up (ja n R):=by
 unfold dg
 suffices hh:∀k,k+up≤n→ja n (List.range' k up++R)=List.range' k up++ja n R from hh 1 ah
 intro k hk;clear h
 induction up generalizing k with
 |zero=>rfl
 |succ up ih=>
  rw[List.range'_succ,iQ,iQ]
  conv=>lhs;unfold ja
  rw[if_pos ah,ih (k+1) ah]
theorem WV {up n:Nat}{R:List Nat}(h:y9 up R)(hn:up<n)(hR:n∉R):y9 (pW up R n).1 (pW up R n).2∧ja n (dg up R)=dg (pW up R n).1 (pW up R n).2∧(pW up R n).1+(pW up R n).2.length=up+R.length+1:=by
 obtain⟨h1,h2,h3⟩:=ahp (Uc h.so hR) (fun x hx=>by
  rcases An.1 hx with rfl|hx
  ·exact hn
  ·have:=h.gt x hx;omega)
 refine⟨h1,by rw[aeA R hn];exact h2,?_⟩;show(oY up (ja n R)).1+(oY up (ja n R)).2.length=_;rw[h3];have:(ja n R).length=R.length+1:=by
  rw[ND,bJ,dR,dE,lZ];have:o4 n R≤R.length:=by unfold o4;exact(List.takeWhile_sublist _).length_le
  omega
 omega
end
section
attribute [local irreducible] GO GX aA eo fz aF aQ ao star
variable {o:Og}{w:World}
theorem aly {b:Nat}{s:bw}(hs:Start o w [fz (jD b s)]) :
  aj prog 88 [ak b].toArray w (Po o (.tuple #[iV (dL s.E),iV s.E.length]) []):=by
 have hH:=hs.sh;obtain⟨⟨X,hX⟩,hH⟩:=SH.dQ hH;replace hH:=SH.dW hH;dsimp only at hH;refine aj.enter func88 rfl ntmps88 rfl (gh ?_);refine GX.aL (hc:=fun _ hs=>FX hs) (h:=fun w hE hH=>gh ?_);refine gh ?_;refine GX.aL (hc:=fun _ hs=>QT hX.bytes.1 hs) (h:=fun w hE hH=>gh ?_);exact⟨rfl,hH.to⟩
theorem Q' {b:Nat}{E:aq}(hs:Start o w [bU b E]) :
  aj prog 51 [ak b].toArray w (Po o (.tuple #[iV (dL E.s.E),iV E.s.E.length]) [bU b E]):=by
 have hH:=hs.sh;obtain⟨X,hH⟩:=SH.un hH;replace hH:=SH.ap hH;dsimp only[eK] at hH;refine aj.enter func51 rfl ntmps51 rfl (gh ?_);refine GX.aL (hc:=fun _ hs=>Bp hs) (h:=fun w hE hH=>gh ?_);refine gh ?_;refine GX.aL (hc:=fun _ hs=>aly (s:=E.s) hs) (h:=fun w hE hH=>gh ?_);exact⟨rfl,(cV (X:=X) (E:=E) hH).to⟩
def qf:dh:=⟨0,[],[],[],[],0,0,[],[],[]⟩
def tW:iR:=⟨(none,0),(none,0),(none,0)⟩
def rW (k:Int)(nm:Bs):Bool:=if k=1∨k=2 then fF nm else if k=3 then decide (nm.length≤250) else decide (k=4∧nm=[])
def fZ (k:Int)(nm:Bs):dh:=if k=1 then { qf with op:=8,tag:=nm} else if k=2 then { qf with op:=9,tag:=nm} else if k=3 then { qf with op:=10,pre:=nm} else { qf with op:=14}
def KO (k:Int)(nm:Bs):dh:=if rW k nm=true then fZ k nm else qf
theorem ahy (nm:Bs):fF nm=(decide ((1:Int)≤(nm.length:Int))&&decide ((nm.length:Int)≤64)):=by
 unfold fF
 by_cases h1:0<nm.length
 ·by_cases h2:nm.length≤64
  ·rw[bQ ⟨h1,h2⟩,bQ ah,bQ ah];rfl
  ·rw[bt ah,bQ ah,bt ah];rfl
 ·rw[bt ah,bt ah];rfl
theorem Qc (k:Int)(nm:Bs)(hs:Start o w []) :
  aj prog 26 [.agg #[iV k,str nm]].toArray w (Po o (.tuple #[.agg (jH (KO k nm) tW).toArray,iV (if rW k nm=true then 0 else 2)]) []):=by
 have hH:=hs.sh;unfold KO rW fZ;refine aj.enter func26 rfl ntmps26 rfl (gh ?_);refine GX.cw (h:=fun z w hH=>gh ?_);refine GX.cm (h:=fun c w hH=>gh ?_)
 by_cases h1:k=1
 ·subst h1;refine gh ?_;refine GX.da (I5 nm _) rfl rfl rfl rfl rfl rfl (gh ?_);cases hk:fF nm with
  |true=>
   refine gh ?_;refine GX.bc (h:=fun w hH=>gh ?_);exact⟨rfl,hH.to⟩
  |false=>
   refine gh ?_;refine GX.bc (h:=fun w hH=>gh ?_);exact⟨rfl,hH.to⟩
 rw[show decide (k=1)=false from bt h1];refine gh ?_
 by_cases h2:k=2
 ·subst h2;refine gh ?_;refine GX.da (I5 nm _) rfl rfl rfl rfl rfl rfl (gh ?_);cases hk:fF nm with
  |true=>
   refine gh ?_;refine GX.bc (h:=fun w hH=>gh ?_);exact⟨rfl,hH.to⟩
  |false=>
   refine gh ?_;refine GX.bc (h:=fun w hH=>gh ?_);exact⟨rfl,hH.to⟩
 rw[show decide (k=2)=false from bt h2];refine gh ?_;rw[if_neg (show¬(k=1∨k=2) by omega),if_neg h1,if_neg h2]
 by_cases h3:k=3
 ·subst h3;refine gh ?_;refine GX.da (Fg nm _) rfl rfl rfl rfl rfl rfl (gh ?_);cases hk:decide (nm.length≤250) with
  |true=>
   refine gh ?_;refine GX.bc (h:=fun w hH=>gh ?_);exact⟨rfl,hH.to⟩
  |false=>
   refine gh ?_;refine GX.bc (h:=fun w hH=>gh ?_);exact⟨rfl,hH.to⟩
 rw[show decide (k=3)=false from bt h3,if_neg h3,if_neg h3];refine gh ?_
 by_cases h4:k=4
 ·subst h4;refine gh ?_;cases hk:decide (nm=[]) with
  |true=>
   rw[show decide ((4:Int)=4∧nm=[])=true from bQ ⟨rfl,eN hk⟩];refine gh ?_;refine GX.bc (h:=fun w hH=>gh ?_);exact⟨rfl,hH.to⟩
  |false=>
   rw[show decide ((4:Int)=4∧nm=[])=false from bt (fun h=>y6 hk h.2)];refine gh ?_;refine GX.bc (h:=fun w hH=>gh ?_);exact⟨rfl,hH.to⟩
 rw[show decide (k=4)=false from bt h4,show decide (k=4∧nm=[])=false from bt (fun h=>h4 h.1)];refine gh ?_;refine GX.bc (h:=fun w hH=>gh ?_);exact⟨rfl,hH.to⟩
theorem afg (k:Int)(nm:Bs)(hs:Start o w []) :
  aj prog 83 [.agg #[iV k,str nm]].toArray w (Po o (.tuple #[.agg (jH (fZ k nm) tW).toArray, .bool (rW k nm)]) []):=by
 have hH:=hs.sh;unfold rW fZ;rw[ahy];refine aj.enter func83 rfl ntmps83 rfl (gh ?_);refine GX.cw (h:=fun z w hH=>gh ?_);refine GX.cm (h:=fun c w hH=>gh ?_)
 by_cases h1:k=1
 ·subst h1;refine gh ?_;cases hk:decide ((1:Int)≤(nm.length:Int)) with
  |true=>
   refine gh ?_;refine GX.bc (h:=fun w hH=>gh ?_);exact⟨rfl,hH.to⟩
  |false=>
   refine gh ?_;refine GX.bc (h:=fun w hH=>gh ?_);exact⟨rfl,hH.to⟩
 rw[show decide (k=1)=false from bt h1];refine gh ?_
 by_cases h2:k=2
 ·subst h2;refine gh ?_;cases hk:decide ((1:Int)≤(nm.length:Int)) with
  |true=>
   refine gh ?_;refine GX.bc (h:=fun w hH=>gh ?_);exact⟨rfl,hH.to⟩
  |false=>
   refine gh ?_;refine GX.bc (h:=fun w hH=>gh ?_);exact⟨rfl,hH.to⟩
 rw[show decide (k=2)=false from bt h2];refine gh ?_;rw[if_neg (show¬(k=1∨k=2) by omega),if_neg h1,if_neg h2]
 by_cases h3:k=3
 ·subst h3;refine gh ?_;refine GX.bc (h:=fun w hH=>gh ?_);refine⟨?_,hH.to⟩;rw[show decide ((nm.length:Int)≤250)=decide (nm.length≤250) from tA.2 ah];rfl
 rw[show decide (k=3)=false from bt h3,if_neg h3,if_neg h3];refine gh ?_
 by_cases h4:k=4
 ·subst h4;refine gh ?_;refine GX.bc (h:=fun w hH=>gh ?_);refine⟨?_,hH.to⟩;rw[show decide ((4:Int)=4∧nm=[])=decide ((nm.length:Int)=0) from tA.2 ⟨fun h=>by rw[h.2];rfl,fun h=>⟨rfl,ga ah⟩⟩];rfl
 rw[show decide (k=4)=false from bt h4,show decide (k=4∧nm=[])=false from bt (fun h=>h4 h.1)];refine gh ?_;refine GX.bc (h:=fun w hH=>gh ?_);exact⟨rfl,hH.to⟩
end
end Go.Proofs.YtmlpbmgfmnmmmaaGreat.V.M
