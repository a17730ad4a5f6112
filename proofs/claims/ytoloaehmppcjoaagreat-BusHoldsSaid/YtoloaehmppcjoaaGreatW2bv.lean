/-
  Parts of the proof. No condition.
-/
import Derived.Test.YtoloaehmppcjoaaGreatW2bu
set_option linter.unusedVariables false
set_option linter.unusedSimpArgs false
set_option maxRecDepth 8000
set_option maxHeartbeats 8000000
open Go.Proofs.Tryz
namespace Go.Proofs.YtoloaehmppcjoaaGreat.V.M
section
attribute [local irreducible] GX
section
variable {P:Program}{ops:Array Oper}{Q:Exit→Act→World→Prop}{n:Nat}
variable {i:Nat}{e:Env}{w:World}{dst:Option Tmp}{ty:TypeId}{pos:String}{an:Array Edge}{g:Option (Nat×Bool)}
variable {og:Og}{l:List It}
theorem GX.P0 [Fr]{T:Nat→Prop}{w0:World}{p:b6}{t:TypeId}{cs:List Value}(hH:SH og w l:=by assumption)
  (ho:ops[i]?=some ⟨dst, .alloc t,ty,pos,an,g⟩:=by rfl) (hz:ff P t cs:=by infer_instance) (hw:aI ops e ⟨dst, .alloc t,ty,pos,an,g⟩=some true:=by rfl) (hd:fits n dst=true:=by rfl) (hT:Mod T w0 w:=by first|assumption|exact Ext.mod (by assumption))
  (h:∀b w',Mod T w0 w'→SH og w' (aB b cs::l)→GX P ops Q (Mod T w0) n p (e.put dst (.pointer (some ⟨b,0,none⟩))) w'):GX P ops Q (Mod T w0) n (.aw i p) e w:=
 GX.aw ho (GO.alloc hw hd fun b w' h1 h2 h3=>⟨fun _ hS=>hS.trans h3.mod,h b w' (hT.trans h3.mod) (hH.Jz h3 h1 h2)⟩)
end
attribute [local irreducible] GO
attribute [local irreducible] aB aq aS aF fz star eX
instance:aC prog 148 false 1:=⟨ai⟩
structure xI where
 L:List gI
 q:Option Nat×Nat
 nq:Option Nat×Nat
def xc:xI:=⟨[],(none,0),(none,0)⟩
abbrev J3 (r:Dc)(x:xI):List Value:=[iV r.op,iV r.err, .slice (aA x.q.1) x.L.length x.q.2,uV r.aR,iV r.n, .slice (aA x.nq.1) r.Oy.length x.nq.2]
abbrev J2 (r:Dc)(x:xI):List It:=[aq 64 4 x.q.1 x.L.length x.q.2 (aL py x.L),bJ (AL x.L),aq 38 1 x.nq.1 r.Oy.length x.nq.2 (tT r.Oy)]
theorem SH.wZ {o:Og}{w:World}{l:List It}(hH:SH o w l):SH o w (aq 64 4 none 0 0 []::bJ []::aq 38 1 none 0 0 []::l):=by
 have h1:=SH.cF (el:=38) (sz:=1) (q:=none) (n:=0) (c:=0) (cs:=[]) hH (Mod.refl w) (fun _ h=>by cases h) (aH.nil _ _ _);exact SH.cF (el:=64) (sz:=4) (q:=none) (n:=0) (c:=0) (cs:=[]) h1.pR (Mod.refl w) (fun _ h=>by cases h) (aH.nil _ _ _)
theorem SH.ahs {o:Og}{w:World}{l:List It}(hH:SH o w l):SH o w (aq 38 1 none 0 0 []::l):=
 SH.cF (el:=38) (sz:=1) (q:=none) (n:=0) (c:=0) (cs:=[]) hH (Mod.refl w) (fun _ h=>by cases h) (aH.nil _ _ _)
theorem SH.aiO {o:Og}{w:World}{l:List It}(hH:SH o w l):SH o w (aq 64 4 none 0 0 []::bJ []::l):=
 SH.cF (el:=64) (sz:=4) (q:=none) (n:=0) (c:=0) (cs:=[]) hH.pR (Mod.refl w) (fun _ h=>by cases h) (aH.nil _ _ _)
structure ug (c:dd)(y:jX):Prop where
 k:c.k.length<2^20
 v:c.v.length<2^20
 t:c.t.length<2^20
 ks:c.ks.length<2^20
 d:c.d≤never
 v0:y.v.1=none→c.v.length=0
theorem ug.keys {c:dd}{y:jX}(h:ug c y):c.keys.length<2^20:=by
 unfold dd.keys;split
 ·simp
 ·exact h.ks
theorem aie {cb:Nat}{c:dd}(h:iB cb 160 c=0):c.pre.length≤250:=by
 unfold iB at h;split at h
 ·cases h
 split at h
 ·cases h
 split at h
 ·cases h
 split at h
 ·cases h
 split at h
 ·cases h
 rename_i hn
 rw[show hasB 160 32=true from rfl] at hn;simpa using hn
theorem amd {E:ao}{t:Nat}{c:dd}(h:E.dW t (iA c.op) c=0)(dA:c.op=10):c.pre.length≤250:=by
 have e:iA c.op=160:=by rw[dA];rfl
 rw[e] at h;unfold ao.dW at h
 by_cases hp:iB E.cb 160 c=0
 ·exact aie hp
 ·rw[if_pos hp] at h;exact absurd h hp
theorem NH (p:Prop)[Decidable p]:(if p then iV 1 else iV 0)=iV ((if p then 1 else 0:Nat):Int):=by split<;>rfl
theorem de.jD {E:ao}{n:Nat}(h:de E n)(op:Int)(L:List mX)(m:Nat):de (E.jD op L m) n:=h.note op _ m
theorem aa5 {o:Og}{w:World}{b n:Nat}{E:ao}(hW:de E n)(t:Nat)(c:dd)(y:jX)(dA:¬(1≤c.op∧c.op<16))(hs:Start o w (cB b E::Ds c y)) :
  aj prog 39 [ak b,uV t, .agg (lp c y).toArray].toArray w (aX o (fun x:xI => .tuple #[.agg (J3 (E.cU t c).2.1 x).toArray,iV (E.cU t c).2.2]) (fun x=>x.L.map (·.i)=(E.cU t c).2.1.L∧de (E.cU t c).1 (n+2)) (fun x=>cB b (E.cU t c).1::J2 (E.cU t c).2.1 x)):=by
 have hH:=hs.sh;have hd:E.cU t c=(E,W7,2):=if_neg dA;rw[hd];obtain⟨X,hH⟩:=SH.un hH;replace hH:=SH.ap hH;dsimp only[fo] at hH;refine aj.enter func39 rfl ntmps39 rfl (gh ?_);refine GX.cI (h:=fun z w hH=>gh ?_);refine GX.cA (h:=fun r6 w hH=>gh ?_);refine GX.aM (hc:=fun _ hs=>Hq hs) (h:=fun w hE hH=>gh ?_);refine gh ?_;refine GX.aM (hc:=fun _ hs=>by have:=Q4 c.op hs;rw[show Bf c.op = .agg #[.nilFunc, .int .u8 0] from if_neg dA,bQ dA] at this;exact this) (h:=fun w hE hH=>gh ?_);refine GX.cA (h:=fun a w hH=>gh ?_);refine GX.bt (h:=fun w hH=>gh ?_);refine GX.bt (h:=fun w hH=>gh ?_);exact⟨xc,rfl,⟨rfl,hW.up ah⟩,(SH.wZ (df (X:=X) (E:=E) hH)).to⟩
theorem aa6 {o:Og}{w:World}{b n:Nat}{E:ao}(hW:de E n)(hn:n<6000)(t:Nat)(ht:t≤never)(c:dd)(y:jX)(hc:ug c y)(dA:1≤c.op∧c.op<16)(hs:Start o w (cB b E::Ds c y)) :
  aj prog 39 [ak b,uV t, .agg (lp c y).toArray].toArray w (aX o (fun x:xI => .tuple #[.agg (J3 (E.cU t c).2.1 x).toArray,iV (E.cU t c).2.2]) (fun x=>x.L.map (·.i)=(E.cU t c).2.1.L∧de (E.cU t c).1 (n+2)) (fun x=>cB b (E.cU t c).1::J2 (E.cU t c).2.1 x)):=by
 have hH:=hs.sh;replace hH:=SH.DA (a:=y.k.1) (cs:=aK c.ks) hH bP;replace hH:=SH.DA (a:=y.t.1) (cs:=aK c.t) hH bP;obtain⟨hk,hv,re,fy,Ej,kT⟩:=hc;have rV:c.keys.length<2^20:=ug.keys (y:=y) ⟨hk,hv,re,fy,Ej,kT⟩;have hG:=hW.ok;have BF:=hW.gK;have uP:=hW.sK;have MT:max E.now t≤never:=Nat.max_le.2 ⟨hG.now,ht⟩;have hd:E.cU t c=_:=if_pos dA;obtain⟨X,hH⟩:=SH.un hH;replace hH:=SH.ap hH;dsimp only[fo] at hH;refine aj.enter func39 rfl ntmps39 rfl (gh ?_);refine GX.cI (h:=fun z w hH=>gh ?_);refine GX.cA (h:=fun r6 w hH=>gh ?_);refine GX.aM (hc:=fun _ hs=>Hq hs) (h:=fun w hE hH=>gh ?_);refine gh ?_;refine GX.aM (hc:=fun _ hs=>by have:=Q4 c.op hs;rw[Y6 dA,b8 dA] at this;exact this) (h:=fun w hE hH=>gh ?_);refine GX.cA (h:=fun a w hH=>gh ?_);refine GX.bt (h:=fun w hH=>gh ?_);replace hH:=df (X:=X) (E:=E) hH;generalize B':E.dW t (iA c.op) c=e at hd;refine GC.cut (X:=Nat) (fun r=>[(0,ak b),(1,uV t),(5,ak z),(6,ak r6),(8,ak a),(10,ak r)]) (fun r w'=>SH o w' [cB b E,aB z (lp c y),aB r6 [iV 0,iV 0, .slice none 0 0,uV 0,iV 0, .slice none 0 0],aB a [.func (.func (kJ c.op)) #[] #[], .int .u8 (iA c.op)],aB r [iV c.op,iV e, .slice none 0 0,uV 0,iV 0, .slice none 0 0],aF y.k.1 (aK c.ks),aF y.v.1 (Lib.byteCells c.v),aF y.t.1 (aK c.t)]) ?_ ?_
 ·refine GC.br (pl:=(.pure 0 (.pure 2 (.pure 3 (.pure 5 (.read 1 (.read 4 (.read 6 (.alt (.aw 7 (.pure 8 (.aw 9 (.aw 10 .done)))) (.aw 9 (.aw 7 (.pure 8 (.aw 10 .done))))))))))))) (T:=dt [z,a]) (hm:=mixed) (h:=fun w hE hH=>gh ?_);refine GX.alt (gh ?_) (gh ?_)
  ·refine GX.mZ (hc:=fun _ hs=>Q8 hG t (V' c.op) c y ah ah ah ah ah hs) (h:=fun w hS hH=>gh ?_);rw[B'];refine GX.P0 (h:=fun AI w hS hH=>gh ?_);refine GX.Ki (h:=fun w hH=>gh ?_);exact GQ.dm AI (cR (l:=[0,1,5,6,8,10]) rfl) hH.to
  ·refine GX.P0 (h:=fun AI w hS hH=>gh ?_);refine GX.mZ (hc:=fun _ hs=>Q8 hG t (V' c.op) c y ah ah ah ah ah hs) (h:=fun w hS hH=>gh ?_);rw[B'];refine GX.Ki (h:=fun w hH=>gh ?_);exact GQ.dm AI (cR (l:=[0,1,5,6,8,10]) rfl) hH.to
 rintro AI w hH;refine gh ?_
 by_cases he:e=0
 ·subst he;rw[if_pos rfl] at hd;refine gh ?_;obtain⟨X,hH⟩:=SH.un hH;replace hH:=SH.ap hH;dsimp only[fo] at hH;refine gh ?_;refine GX.da (DC E.now t _) rfl rfl rfl rfl rfl rfl (gh ?_);refine GX.dC (h:=fun w hH=>gh ?_);refine GC.br (pl:=(bg [0,3,6,12,15,18,10,22,26])) (T:=dt [b]) (hm:=mixed) (h:=fun w hE hH=>gh ?_);refine GX.mZ (hc:=fun _ hs=>ajs (S:=E.a) (max E.now t) MT hs) (h:=fun w hS hH=>gh ?_);refine GC.br (pl:=(bg [0,3,6,12,15,18,30,10,22,26,27])) (T:=dt [b]) (hm:=mixed) (h:=fun w hE hH=>gh ?_);refine GX.kL (hc:=fun _ hs=>ak3 (s:=E.s) (max E.now t) ah hs) (h:=?_);rintro⟨gs,gq,gc⟩ w BG hS hH;replace hH:=SH.ap hH;dsimp only at BG hH ⊢;have LG:=hW.lK ht;have iL:=hW.start ah ht;have dp:E.start t=(E.lK t).ft (E.s.gone (max E.now t)):=rfl;have hK0:(E.lK t).r.K=E.r.K:=rfl;have Tu:=hW.l9;have I9:=hW.aR;have oe:gs.length=(E.s.gone (max E.now t)).length:=by rw[←BG,fH]
  have adn:(E.s.gone (max E.now t)).length≤E.s.E.length:=by
   show(AS _).length≤_;rw[(CQ _).length_eq];exact pF _ _
  replace hH:=df (X:=X) (E:=E.lK t) hH;generalize E.s.gone (max E.now t)=gn at BG oe adn dp;generalize E.lK t=E0 at LG dp hK0 hH;refine gh ?_;refine GC.bR [0,5,6,8,10,63,64] (fun i:Nat=>[(65,iV i)]) (fun i w'=>i≤gs.length∧SH o w' [cB b (E0.ft (gn.take i)),aq 159 6 gq gs.length gc (aL eL gs),aB z (lp c y),aB r6 [iV 0,iV 0, .slice none 0 0,uV 0,iV 0, .slice none 0 0],aB a [.func (.func (kJ c.op)) #[] #[], .int .u8 (iA c.op)],aB AI [iV c.op,iV 0, .slice none 0 0,uV 0,iV 0, .slice none 0 0],aF y.k.1 (aK c.ks),aF y.v.1 (Lib.byteCells c.v),aF y.t.1 (aK c.t)]) (fun i=>gs.length - i) 0 rfl rfl ⟨bh _,hH.to⟩ ?_;rintro i w ⟨hi,hH⟩;have DU:=LG.ft (gn.take i);have gC:=fun x=>@ao.VN E0 gn i x
  have aN:(gn.take i).length≤gn.length:=by rw[dI];omega
  generalize iv:E0.ft (gn.take i)=E6 at hH DU gC;obtain⟨ja,v1,v2,v3,v4,v5,v6,v7⟩:=DU;refine gh ?_;refine ifs (fun h1=>?_) (fun h1=>?_)<;>refine gh ?_
  ·obtain⟨x,hx⟩:∃x,gs[i]?=some x:=⟨_,bO ah⟩
   have fh:gn[i]?=some x.e:=by rw[←BG,gG,hx];rfl
   have E5:=gC x.e fh;obtain⟨qb,rfl⟩:=hH.pos (el:=159) (sz:=6) (q:=gq) (n:=gs.length);refine gh ?_;refine GX.next rfl (GO.kg (hv:=ku pA hx) (h:=gh ?_));refine GX.cA (h:=fun f w hH=>gh ?_);refine GX.bt (h:=fun w hH=>gh ?_);refine GX.bF (hc:=fun _ hs=>Lg ja x.e.k _ _ x.e.d x.e.n x.e.st ah hs) (h:=fun w hH=>gh ?_);refine gh ?_;refine GQ.bj (i+1) rfl ⟨by omega,?_⟩ ah;rw[E5];exact hH.to
  obtain rfl:i=gs.length:=by omega
  rw[oe,fw (aY _),←dp] at iv;rw[iv] at hd iL;clear gC dp LG aN v1 v2 v3 v4 v5 v6 v7;have amU:=iL.l9;have am4:=iL.aR;have amY:=iL.sK;have amv:=iL.gK;have amT:=iL.pK;have ado:(c.op=1∨c.op=2∨c.op=3)∨(c.op=4∨c.op=5)∨c.op=6∨c.op=7∨(c.op=8∨c.op=9)∨(c.op=10∨c.op=14)∨(c.op=11∨c.op=12)∨c.op=13∨c.op=15:=by omega
  rcases ado with h|h|h|h|h|h|h|h|h
  ·rw[De h] at hd;have hA:=iL.act ah c rV;rw[De h] at hA;rw[YV h];refine GX.bZ (hc:=fun _ hs=>abm iL.ok c y ah ah ah Ej kT ah iL.l9 ah ah hs) (h:=?_);rintro⟨⟩ w hb hH;replace hH:=SH.ap hH;replace hA:=hA (fun _=>hb);dsimp only at hA;replace hH:=SH.wZ hH;refine gh ?_;refine GX.bF (hc:=fun _ hs=>vM hA.ok c.op dA [] none 0 ((cO E6.g.E c.k).length) (by decide) ah _ _ hs) (h:=fun w hH=>gh ?_);refine GX.bt (h:=fun w hH=>gh ?_);rw[hd];rw[wR (l:=[]) (L:=[]) _ _ rfl] at hH;exact⟨xc,rfl,⟨rfl,hA.jD _ _ _⟩,hH.to⟩
  ·rw[KL h] at hd;have hA:=iL.act ah c rV (fun h=>by omega);rw[KL h] at hA;rw[YW h];have adm:=(iL.ok.iJ c.keys).2.2.2;refine GX.bZ (hc:=fun _ hs=>aa7 iL.ok c y ah ah ah hs) (h:=?_);rintro⟨L,q,cc⟩ w hL hH;replace hH:=SH.ap hH;dsimp only at hA hL hH ⊢;have RP:=congrArg List.length hL;rw[fH] at RP;replace hH:=SH.ahs hH;refine gh ?_;refine GX.bF (hc:=fun _ hs=>vM hA.ok c.op dA L q cc 0 ah (by decide) _ _ hs) (h:=fun w hH=>gh ?_);refine GX.bt (h:=fun w hH=>gh ?_);rw[hd];rw[wR _ _ hL] at hH;exact⟨⟨L,(q,cc),(none,0)⟩,rfl,⟨hL,hA.jD _ _ _⟩,hH.to⟩
  ·rw[PO h] at hd;have hA:=iL.act ah c rV;rw[PO h] at hA;rw[YX h];refine GX.bF (hc:=fun _ hs=>by have:=abj (b:=b) (rb:=AI) (r0:=iV c.op) (r1:=iV 0) (r2 := .slice none 0 0) (r3:=uV 0) (r4:=iV 0) (r5 := .slice none 0 0) (E:=E6) iL.ok c y Ej ah ah hs;rw[NH] at this;exact this) (h:=fun w hH=>gh ?_);replace hA:=hA (fun h=>by omega);dsimp only at hA;replace hH:=SH.wZ hH;refine gh ?_;refine GX.bF (hc:=fun _ hs=>vM hA.ok c.op dA [] none 0 (if E6.live c.k=true then 1 else 0) (by decide) (by split<;>decide) _ _ hs) (h:=fun w hH=>gh ?_);refine GX.bt (h:=fun w hH=>gh ?_);rw[hd];rw[wR (l:=[]) (L:=[]) _ _ rfl] at hH;exact⟨xc,rfl,⟨rfl,hA.jD _ _ _⟩,hH.to⟩
  ·rw[PQ h] at hd;have hA:=iL.act ah c rV;rw[PQ h] at hA;rw[YY h];refine GX.bZ (hc:=fun _ hs=>aa3 (E:=E6) iL.ok c y ah ah ah hs) (h:=?_);rintro⟨⟩ w hb hH;replace hH:=SH.ap hH;rw[NH] at hH;replace hA:=hA (fun hx=>by rcases hx with hx|hx|hx<;>first|omega|exact hb hx.2);dsimp only at hA;replace hH:=SH.wZ hH;refine gh ?_;refine GX.bF (hc:=fun _ hs=>vM hA.ok c.op dA [] none 0 (if E6.live c.k=true then 1 else 0) (by decide) (by split<;>decide) _ _ hs) (h:=fun w hH=>gh ?_);refine GX.bt (h:=fun w hH=>gh ?_);rw[hd];rw[wR (l:=[]) (L:=[]) _ _ rfl] at hH;exact⟨xc,rfl,⟨rfl,hA.jD _ _ _⟩,hH.to⟩
  ·rw[Gw h] at hd;have hA:=iL.act ah c rV;rw[Gw h] at hA;rw[YZ h];refine GX.bF (hc:=fun _ hs=>abf (op:=c.op) (E:=E6) iL.ok c y hs) (h:=fun w hH=>gh ?_);replace hA:=hA (fun h=>by omega);dsimp only at hA;replace hH:=SH.wZ hH;refine gh ?_;refine GX.bF (hc:=fun _ hs=>vM hA.ok c.op dA [] none 0 (0) (by decide) ah _ _ hs) (h:=fun w hH=>gh ?_);refine GX.bt (h:=fun w hH=>gh ?_);rw[hd];rw[wR (l:=[]) (L:=[]) _ _ rfl] at hH;exact⟨xc,rfl,⟨rfl,hA.jD _ _ _⟩,hH.to⟩
  ·rw[Df h] at hd;have hA:=iL.act ah c rV;rw[Df h] at hA;rw[Y0 h];refine GX.bF (hc:=fun _ hs=>abe (op:=c.op) (E:=E6) iL.ok c y (fun aP=>amd B' ah) ah hs) (h:=fun w hH=>gh ?_);replace hA:=hA (fun h=>by omega);dsimp only at hA;replace hH:=SH.wZ hH;refine gh ?_;refine GX.bF (hc:=fun _ hs=>vM hA.ok c.op dA [] none 0 (0) (by decide) ah _ _ hs) (h:=fun w hH=>gh ?_);refine GX.bt (h:=fun w hH=>gh ?_);rw[hd];rw[wR (l:=[]) (L:=[]) _ _ rfl] at hH;exact⟨xc,rfl,⟨rfl,hA.jD _ _ _⟩,hH.to⟩
  ·rw[PR h] at hd;have hA:=iL.act ah c rV;rw[PR h] at hA;rw[Y1 h];refine GX.bF (hc:=fun _ hs=>by have:=aa4 (b:=b) (rb:=AI) (r0:=iV c.op) (r1:=iV 0) (r2 := .slice none 0 0) (r3:=uV 0) (r4:=iV 0) (r5 := .slice none 0 0) (E:=E6) c y ah hs;rw[NH] at this;exact this) (h:=fun w hH=>gh ?_);replace hA:=hA (fun h=>by omega);dsimp only at hA;replace hH:=SH.wZ hH;refine gh ?_;refine GX.bF (hc:=fun _ hs=>vM hA.ok c.op dA [] none 0 (if E6.Dx c.op c.k c.ch=true then 1 else 0) (by decide) (by split<;>decide) _ _ hs) (h:=fun w hH=>gh ?_);refine GX.bt (h:=fun w hH=>gh ?_);rw[hd];rw[wR (l:=[]) (L:=[]) _ _ rfl] at hH;exact⟨xc,rfl,⟨rfl,hA.jD _ _ _⟩,hH.to⟩
  ·rw[PS h] at hd;have hA:=iL.act ah c rV;rw[PS h] at hA;rw[Y2 h];refine GX.bZ (hc:=fun _ hs=>aa8 (E:=E6) iL.ok c y ah ah ah hs) (h:=?_);rintro⟨⟩ w hb hH;replace hH:=SH.ap hH;replace hA:=hA (fun _=>hb);dsimp only at hA;replace hH:=SH.wZ hH;refine gh ?_;refine GX.bF (hc:=fun _ hs=>vM hA.ok c.op dA [] none 0 ((cO E6.g.E c.k).length) (by decide) ah _ _ hs) (h:=fun w hH=>gh ?_);refine GX.bt (h:=fun w hH=>gh ?_);rw[hd];rw[wR (l:=[]) (L:=[]) _ _ rfl] at hH;exact⟨xc,rfl,⟨rfl,hA.jD _ _ _⟩,hH.to⟩
  ·rw[Y4 h] at hd;have hA:=iL;have pV:=iL.ok.cP.1;rw[Y3 h];refine GX.bZ (hc:=fun _ hs=>abg iL.ok c y hs) (h:=?_);rintro⟨q,cc⟩ w _ hH;replace hH:=SH.ap hH;dsimp only at hH;replace hH:=SH.aiO hH;refine gh ?_;refine GX.bF (hc:=fun _ hs=>vM hA.ok c.op dA [] none 0 0 (by decide) (by decide) _ _ hs) (h:=fun w hH=>gh ?_);refine GX.bt (h:=fun w hH=>gh ?_);rw[hd];rw[wR (l:=[]) (L:=[]) _ _ rfl] at hH;refine⟨⟨[],(none,0),(q,cc)⟩,?_,⟨rfl,(hA.jD _ _ _).up ah⟩,?_⟩
   ·show _=Value.tuple #[.agg #[iV c.op,iV 0, .slice none 0 0,uV 0,iV 0, .slice (aA q) E6.cP.length cc],iV 0];rw[pV]
   ·show SH o w [cB b (E6.jD c.op [] 0),aq 64 4 none 0 0 [],bJ [],aq 38 1 q E6.cP.length cc (tT E6.cP)];rw[pV];exact hH.to
 ·rw[if_neg he] at hd;rw[hd,show decide (e=0)=false from bQ he];refine gh ?_;refine GX.bF (hc:=fun _ hs=>abb hG c.op e he _ _ _ _ hs) (h:=fun w hH=>gh ?_);refine GX.bt (h:=fun w hH=>gh ?_);exact⟨xc,rfl,⟨rfl,(hW.raise 1 1 (by decide)).up ah⟩,(SH.wZ hH).to⟩
theorem Q3 {o:Og}{w:World}{b n:Nat}{E:ao}(hW:de E n)(hn:n<6000)(t:Nat)(ht:t≤never)(c:dd)(y:jX)(hc:ug c y)(hs:Start o w (cB b E::Ds c y)) :
  aj prog 39 [ak b,uV t, .agg (lp c y).toArray].toArray w (aX o (fun x:xI => .tuple #[.agg (J3 (E.cU t c).2.1 x).toArray,iV (E.cU t c).2.2]) (fun x=>x.L.map (·.i)=(E.cU t c).2.1.L∧de (E.cU t c).1 (n+2)) (fun x=>cB b (E.cU t c).1::J2 (E.cU t c).2.1 x)):=by
 by_cases dA:1≤c.op∧c.op<16
 ·exact aa6 hW hn t ht c y hc dA hs
 ·exact aa5 hW t c y dA hs
end
section
structure A2 (up:Nat)(R:List Nat):Prop where
 so:R.Pairwise (· < ·)
 gt:∀x∈R,up+1<x
def lI (up:Nat)(R:List Nat):List Nat:=List.range' 1 up++R
def iz (n:Nat):List Nat→List Nat
 | []=>[n]
 |x::r=>if x<n then x::iz n r else n::x::r
def nC:Nat→List Nat→Nat×List Nat
 |up,[]=>(up,[])
 |up,x::r=>if x=up+1 then nC (up+1) r else(up,x::r)
def oD (up:Nat)(R:List Nat)(n:Nat):Nat×List Nat:=nC up (iz n R)
theorem yv {n x:Nat}{R:List Nat}:x∈iz n R↔x=n∨x∈R:=by
 induction R with
 |nil=>simp[iz]
 |cons y r ih=>
  unfold iz;split
  ·simp only[bU,ih];exact⟨fun h=>by rcases h with h|h|h<;>simp[h],fun h=>by rcases h with h|h|h<;>simp[h]⟩
  ·simp
theorem Ug {n:Nat}{R:List Nat}(h:R.Pairwise (· < ·))(hn:n∉R):(iz n R).Pairwise (· < ·):=by
 induction R with
 |nil=>simp[iz]
 |cons y r ih=>
  rw[lN] at h;obtain⟨h1,h2⟩:=h;simp only[bU,not_or] at hn;unfold iz;split
  ·rw[lN];refine⟨fun z hz=>?_,ih h2 hn.2⟩
   rcases yv.1 hz with rfl|hz
   ·assumption
   ·exact h1 z hz
  ·rw[lN,lN];refine⟨fun z hz=>?_,h1,h2⟩
   rcases bU.1 hz with rfl|hz
   ·omega
   ·have:=h1 z hz;omega
theorem ahm {up:Nat}{R:List Nat}(h:R.Pairwise (· < ·))(hg:∀x∈R,up<x):A2 (nC up R).1 (nC up R).2∧lI up R=lI (nC up R).1 (nC up R).2∧(nC up R).1+(nC up R).2.length=up+R.length:=by
 induction R generalizing up with
 |nil=>exact⟨⟨List.Pairwise.nil,fun _ h=>by cases h⟩,rfl,rfl⟩
 |cons x r ih=>
  rw[lN] at h;obtain⟨h1,h2⟩:=h;unfold nC;split
  ·rename_i hx
   obtain⟨k1,k2,k3⟩:=ih (up:=up+1) h2 (fun z hz=>by have:=h1 z hz;omega);refine⟨k1,?_,by rw[k3,ek];omega⟩;rw[←k2];unfold lI;rw[List.range'_concat,cS,hx];simp[Nat.add_comm]
  ·rename_i hx
   refine⟨⟨lN.2 ⟨h1,h2⟩,fun z hz=>?_⟩,rfl,rfl⟩;have fh:=hg x (by simp)
   rcases bU.1 hz with rfl|hz
   ·omega
   ·have:=h1 z hz;omega
def nU:Nat→List Nat→List (Nat×Nat)
 |_,[]=>[]
 |f,x::r=>(if f<x then[(f,x)] else[])++nU (x+1) r
theorem ab4 {L:List Nat}{f i x:Nat}(h:L[i]?=some x):∃g,(∀s,s=f→nU s (L.take (i+1))=nU s (L.take i)++(if g<x then[(g,x)] else[]))∧(i=0→g=f)∧(∀y,0<i→L[i - 1]?=some y→g=y+1):=by
 induction L generalizing f i with
 |nil=>simp at h
 |cons y L ih=>
  cases i with
  |zero=>
   simp at h;subst h;exact⟨f,fun s hs=>by subst hs;simp[nU],fun _=>rfl,fun _ h=>by omega⟩
  |succ i=>
   simp at h;obtain⟨g,h1,h2,h3⟩:=ih (f:=y+1) h;refine⟨g,fun s hs=>?_,by omega,fun z _ hz=>?_⟩
   ·have:=h1 (y+1) rfl;simp only[List.take_succ_cons,nU];rw[this,cS]
   ·cases i with
    |zero=>
     simp at hz;subst hz;exact h2 rfl
    |succ i=>
     simp only[Nat.add_sub_cancel] at hz h3;rw[List.getElem?_cons_succ] at hz;exact h3 z ah hz
theorem CO {up n:Nat}{R:List Nat}:n∈lI up R↔(1≤n∧n≤up)∨n∈R:=by
 unfold lI;rw[cx,List.mem_range'_1];exact⟨fun h=>h.imp (fun h=>by omega) id,fun h=>h.imp (fun h=>by omega) id⟩
def AF (n:Nat)(L:List Nat):Nat:=(L.takeWhile fun x=>decide (x<n)).length
theorem Uf (n:Nat)(L:List Nat):iz n L=L.take (AF n L)++n::L.drop (AF n L):=by
 induction L with
 |nil=>rfl
 |cons x r ih=>
  unfold iz AF
  by_cases h:x<n
  ·rw[if_pos h,List.takeWhile_cons_of_pos (by simpa using h)];simp only[ek,List.take_succ_cons,List.drop_succ_cons,jK];rw[ih];rfl
  ·rw[if_neg h,List.takeWhile_cons_of_neg (by simpa using h)];rfl
theorem aeJ {n up:Nat}(R:List Nat)(h:up<n):iz n (lI up R)=lI up (iz n R):=by
 unfold lI
 suffices hh:∀k,k+up≤n→iz n (List.range' k up++R)=List.range' k up++iz n R from hh 1 ah
 intro k hk;clear h
 induction up generalizing k with
 |zero=>rfl
 |succ up ih=>
  rw[List.range'_succ,jK,jK]
  conv=>lhs;unfold iz
  rw[if_pos ah,ih (k+1) ah]
theorem WX {up n:Nat}{R:List Nat}(h:A2 up R)(hn:up<n)(hR:n∉R):A2 (oD up R n).1 (oD up R n).2∧iz n (lI up R)=lI (oD up R n).1 (oD up R n).2∧(oD up R n).1+(oD up R n).2.length=up+R.length+1:=by
 obtain⟨h1,h2,h3⟩:=ahm (Ug h.so hR) (fun x hx=>by
  rcases yv.1 hx with rfl|hx
  ·exact hn
  ·have:=h.gt x hx;omega)
 refine⟨h1,by rw[aeJ R hn];exact h2,?_⟩;show(nC up (iz n R)).1+(nC up (iz n R)).2.length=_;rw[h3];have:(iz n R).length=R.length+1:=by
  rw[Uf,bH,ek,dI,ml];have:AF n R≤R.length:=by unfold AF;exact(List.takeWhile_sublist _).length_le
  omega
 omega
end
section
attribute [local irreducible] GO GX aB eX fz aF aS aq star
variable {o:Og}{w:World}
def gx:dd:=⟨0,[],[],[],[],0,0,[],[],[]⟩
def zo:jX:=⟨(none,0),(none,0),(none,0)⟩
def mP (k:Int)(nm:Bs):Bool:=if k=1∨k=2 then eV nm else if k=3 then decide (nm.length≤250) else decide (k=4∧nm=[])
def eK (k:Int)(nm:Bs):dd:=if k=1 then { gx with op:=8,tag:=nm} else if k=2 then { gx with op:=9,tag:=nm} else if k=3 then { gx with op:=10,pre:=nm} else { gx with op:=14}
def KZ (k:Int)(nm:Bs):dd:=if mP k nm=true then eK k nm else gx
theorem Qf (k:Int)(nm:Bs)(hs:Start o w []) :
  aj prog 37 [.agg #[iV k,str nm]].toArray w (Po o (.tuple #[.agg (lp (KZ k nm) zo).toArray,iV (if mP k nm=true then 0 else 2)]) []):=by
 have hH:=hs.sh;unfold KZ mP eK;refine aj.enter func37 rfl ntmps37 rfl (gh ?_);refine GX.cI (h:=fun z w hH=>gh ?_);refine GX.cA (h:=fun c w hH=>gh ?_)
 by_cases h1:k=1
 ·subst h1;refine gh ?_;refine GX.da (Jg nm _) rfl rfl rfl rfl rfl rfl (gh ?_);cases hk:eV nm with
  |true=>
   refine gh ?_;refine GX.bt (h:=fun w hH=>gh ?_);exact⟨rfl,hH.to⟩
  |false=>
   refine gh ?_;refine GX.bt (h:=fun w hH=>gh ?_);exact⟨rfl,hH.to⟩
 rw[show decide (k=1)=false from bQ h1];refine gh ?_
 by_cases h2:k=2
 ·subst h2;refine gh ?_;refine GX.da (Jg nm _) rfl rfl rfl rfl rfl rfl (gh ?_);cases hk:eV nm with
  |true=>
   refine gh ?_;refine GX.bt (h:=fun w hH=>gh ?_);exact⟨rfl,hH.to⟩
  |false=>
   refine gh ?_;refine GX.bt (h:=fun w hH=>gh ?_);exact⟨rfl,hH.to⟩
 rw[show decide (k=2)=false from bQ h2];refine gh ?_;rw[if_neg (show¬(k=1∨k=2) by omega),if_neg h1,if_neg h2]
 by_cases h3:k=3
 ·subst h3;refine gh ?_;refine GX.da (Fq nm _) rfl rfl rfl rfl rfl rfl (gh ?_);cases hk:decide (nm.length≤250) with
  |true=>
   refine gh ?_;refine GX.bt (h:=fun w hH=>gh ?_);exact⟨rfl,hH.to⟩
  |false=>
   refine gh ?_;refine GX.bt (h:=fun w hH=>gh ?_);exact⟨rfl,hH.to⟩
 rw[show decide (k=3)=false from bQ h3,if_neg h3,if_neg h3];refine gh ?_
 by_cases h4:k=4
 ·subst h4;refine gh ?_;cases hk:decide (nm=[]) with
  |true=>
   rw[show decide ((4:Int)=4∧nm=[])=true from b8 ⟨rfl,dM hk⟩];refine gh ?_;refine GX.bt (h:=fun w hH=>gh ?_);exact⟨rfl,hH.to⟩
  |false=>
   rw[show decide ((4:Int)=4∧nm=[])=false from bQ (fun h=>xy hk h.2)];refine gh ?_;refine GX.bt (h:=fun w hH=>gh ?_);exact⟨rfl,hH.to⟩
 rw[show decide (k=4)=false from bQ h4,show decide (k=4∧nm=[])=false from bQ (fun h=>h4 h.1)];refine gh ?_;refine GX.bt (h:=fun w hH=>gh ?_);exact⟨rfl,hH.to⟩
abbrev bV (z:Bool):Value := .bool z
structure oP (R:List Nat)(A:List (Int×Bool)):Prop where
 nd:(A.map (·.1)).Nodup
 yes:∀k∈R,ay A (k:Int)=some true
 no:∀n:Int,(∀k∈R,(k:Int)≠n)→ay A n=none
def yu (R:List Nat)(n:Int):Bool:=R.any fun k=>decide ((k:Int)=n)
theorem oP.look {R:List Nat}{A:List (Int×Bool)}(h:oP R A)(n:Int):jA bV (.bool false) false (ay A n) = .bool (yu R n):=by
 cases hb:yu R n with
 |true=>
  obtain⟨k,hk,he⟩:=vD.1 hb;have he:=dM he;subst he;rw[h.yes k hk];rfl
 |false=>
  have:∀k∈R,(k:Int)≠n:=fun k hk he=>by
   have:yu R n=true:=vD.2 ⟨k,hk,b8 he⟩;rw[hb] at this;cases this
  rw[h.no n this];rfl
structure C7 where
 e:Nat
 m:Nat
 A:List (Int×Bool)
abbrev C7.dS (X:C7)(b:Nat)(E:ao)(up:Nat):List It:=[aB b [ak X.e,iV up, .map (some X.m)],cB X.e E,aS X.m iV bV X.A]
def oC (b:Nat)(E:ao)(up:Nat)(R:List Nat):It:=star fun X:{ X:C7 // oP R X.A}=>X.1.dS b E up
theorem sJ {l t:List It}{b:Nat}{X:C7}{E:ao}{up:Nat}{R:List Nat}(hA:oP R X.A)(hH:SH o w l)(hp:Pk l (X.dS b E up) t:=by repeat(first|exact Pk.nil|(apply Pk.cons;repeat(first|exact az.here|apply az.there)))):SH o w (oC b E up R::t):=
 SH.fold (f:=fun X:{ X:C7 // oP R X.A}=>X.1.dS b E up) ⟨X,hA⟩ hH hp
theorem FK {b e:Nat}{v1 v2:Value}(hs:Start o w [fz (aB b [ak e,v1,v2])]):aj prog 38 [ak b].toArray w (Po o (.bool false) []):=by
 have hH:=hs.sh;refine aj.enter func38 rfl ntmps38 rfl (gh ?_);exact⟨rfl,hH.to⟩
theorem FL {b up:Nat}{E:ao}{R:List Nat}(hs:Start o w [oC b E up R]):aj prog 14 [ak b].toArray w (Po o (iV up) [oC b E up R]):=by
 have hH:=hs.sh;obtain⟨⟨X,hX⟩,hH⟩:=SH.un hH;replace hH:=SH.ap hH;dsimp only at hH;refine aj.enter func14 rfl ntmps14 rfl (gh ?_);refine GX.aM (hc:=fun _ hs=>FK hs) (h:=fun w hE hH=>gh ?_);refine gh ?_;exact⟨rfl,(sJ (X:=X) hX hH).to⟩
theorem ais {b up n:Nat}{E:ao}{R:List Nat}(hW:de E n)(hn:n<6000)(hs:Start o w [oC b E up R]):aj prog 17 [ak b].toArray w (aX o ak (fun _=>True) (fun c=>[oC b E up R,cB c E])):=by
 have hH:=hs.sh;have h1:=hW.l9;have h2:=hW.aR;have h3:=hW.pK;obtain⟨⟨X,hX⟩,hH⟩:=SH.un hH;replace hH:=SH.ap hH;dsimp only at hH;refine aj.enter func17 rfl ntmps17 rfl (gh ?_);refine GX.aM (hc:=fun _ hs=>FK hs) (h:=fun w hE hH=>gh ?_);refine gh ?_;refine GX.bZ (hc:=fun _ hs=>aa2 (E:=E) hW.ok ah ah hs) (h:=?_);rintro c w _ hH;replace hH:=SH.ap hH;refine gh ?_;exact⟨c,rfl,trivial,(sJ (X:=X) hX hH).to⟩
theorem CK {b up n:Nat}{E:ao}{R:List Nat}(hW:de E n)(hn:n<6000)(t:Nat)(ht:t≤never)(c:dd)(y:jX)(hc:ug c y)(hs:Start o w (oC b E up R::Ds c y)) :
  aj prog 10 [ak b,uV t, .agg (lp c y).toArray].toArray w (aX o (fun x:xI => .tuple #[.agg (J3 (E.cU t c).2.1 x).toArray,iV (E.cU t c).2.2]) (fun x=>x.L.map (·.i)=(E.cU t c).2.1.L∧de (E.cU t c).1 (n+2)) (fun x=>oC b (E.cU t c).1 up R::J2 (E.cU t c).2.1 x)):=by
 have hH:=hs.sh;obtain⟨⟨X,hX⟩,hH⟩:=SH.un hH;replace hH:=SH.ap hH;dsimp only at hH;refine aj.enter func10 rfl ntmps10 rfl (gh ?_);refine GX.cI (h:=fun z w hH=>gh ?_);refine GX.cA (h:=fun r6 w hH=>gh ?_);refine GX.aM (hc:=fun _ hs=>FK hs) (h:=fun w hE hH=>gh ?_);refine gh ?_;refine GC.br (pl:=(bg [0,3,6,12,10,16,20,21,24,29,30])) (T:=dt [b,z]) (hm:=mixed) (h:=fun w hE hH=>gh ?_);refine GX.kL (hc:=fun _ hs=>Q3 hW hn t ht c y hc hs) (h:=?_);rintro x w hx hS hH;replace hH:=SH.ap hH;refine gh ?_;refine GX.Ki (h:=fun w hH=>gh ?_);exact⟨x,rfl,hx,(sJ (X:=X) hX hH).to⟩
theorem WV (c:rF)(hc:A4 c)(eH:c.s<18446744073709551616)(hs:Start o w []):aj prog 9 [.agg (G9 c).toArray].toArray w (aX o (fun b:Nat => .tuple #[ak b,iV 0]) (fun _=>True) (fun b=>[oC b (jT c) 0 []])):=by
 have hH:=hs.sh;refine aj.enter func9 rfl ntmps9 rfl (gh ?_);refine GX.cI (h:=fun z w hH=>gh ?_);refine GX.bZ (hc:=fun _ hs=>aba c hc eH hs) (h:=?_);rintro e w _ hH;replace hH:=SH.ap hH;refine gh ?_;refine GX.yD iV bV (h:=fun m w hH=>gh ?_);refine GX.cI (h:=fun b w hH=>gh ?_);exact⟨b,rfl,trivial,(sJ (R:=[]) (X:=⟨e,m,[]⟩) ⟨lP,fun _ h=>(by cases h),fun _ _=>rfl⟩ hH).to⟩
end
end Go.Proofs.YtoloaehmppcjoaaGreat.V.M
