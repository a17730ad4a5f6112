/-
  Parts of the proof. No condition.
-/
import Derived.Test.YtoloaehmppcjoaaGreatW2cb
import Derived.Test.YtoloaehmppcjoaaGreatW2cc
set_option linter.unusedVariables false
set_option linter.unusedSimpArgs false
set_option maxRecDepth 8000
set_option maxHeartbeats 8000000
open Go.Proofs.Tryz
namespace Go.Proofs.YtoloaehmppcjoaaGreat.busHolds
open Go.ChangeShapes Go.WideShapes Go.ChangeAt Go.RowKit Go.Proofs.YtoloaehmppcjoaaGreat.V Go.Proofs.YtoloaehmppcjoaaGreat.V.M
theorem own:ownKnob prog.godebug=none:=ai
theorem laidOut:laidOutB prog=true:=QA
instance:Inhabited (Int×Bs):=⟨(0,[])⟩
theorem ahB {H:Type}{enc:TypeId×Value→H}{W:World}{fuel:Nat}{cs:List Value}{x:DataW H×List MemPlace}(hl:cs.length=2)(h:sT enc prog W fuel 31 cs=some x):∃p:Int×Bs,cs=kr p∧True:=by
 match cs,hl with
 | [c0,c1],_=>
   obtain⟨_,_,_,u0,r0⟩:=Yk (i:=0) (o:=0) (d := .int .i64) ai h;obtain⟨_,_,_,u1,r1⟩:=Yk (i:=1) (o:=1) (d := .string) ai h;obtain⟨k,rfl,_⟩:=ahA u0 r0;obtain⟨nm,rfl⟩:=ahD u1 r1;exact⟨(k,nm),rfl,trivial⟩
set_option maxRecDepth 100000 in
theorem lifted (os:Os)(started:os.Started)(H:Type)(enc:TypeId×Value→H) :
  ReturnsInHanded {} Tryz.checked os 3 .any (Rows.busHoldsSpec.pre6 enc prog Tryz.f3 Rows.busHoldsRow.domain false) (Rows.busHoldsSpec.post enc prog Tryz.f3 false true false false):=by
 refine returnsInHanded_of_change (C:=Tryz.checked) own started ai func3
  (ChangeSpec.witness6 (enc:=enc) (C:=Tryz.checked) false ⟨#[],#[.slice none 0 0, .slice none 0 0, .slice none 0 0],[]⟩ 8 ai ai ai ai) ?_
 intro W base args ds gs before TR hW amr _;have uT:∀(j:Nat) t v,Tryz.f3.params[j]?=some t→args[j]?=some v→Value.okWide prog W .any base t v:=TR;have HU:=hW;obtain⟨p,q,HE,hV,rfl,hfz,bT⟩:=hW;have hA:DataW.TrodAll enc prog W 0 (fun _=>true) true Tryz.f3.params.toList args.toList ds p:=HE;rw[Tryz.params3] at hA uT;obtain⟨a0,vs0,d0,ds0,p0,q0,amm,rfl,rfl,h0,r0⟩:=trodAll_cons hA;obtain⟨a1,vs1,d1,ds1,p1,q1,rfl,rfl,rfl,h1,r1⟩:=trodAll_cons r0;obtain⟨a2,vs2,d2,ds2,p2,q2,rfl,rfl,rfl,h2,r2⟩:=trodAll_cons r1;obtain⟨rfl,rfl,rfl⟩:=trodAll_nil r2;obtain rfl:args=#[a0,a1,a2]:=by cases args;simp_all
 obtain⟨rfl,rfl⟩:=trodVars_none hV;have k0:=h0;have lt0:∀x∈p0,x.block<W.heap.size:=by obtain⟨m,hm⟩:=k0;exact DataW.trod_lt m _ _ _ hm
 have k1:=h1;have lt1:∀x∈p1,x.block<W.heap.size:=by obtain⟨m,hm⟩:=k1;exact DataW.trod_lt m _ _ _ hm
 have k2:=h2;have lt2:∀x∈p2,x.block<W.heap.size:=by obtain⟨m,hm⟩:=k2;exact DataW.trod_lt m _ _ _ hm
 have B9:prog.underlying 22=some (.slice 9):=ai;have uR:prog.underlying 23=some (.slice 31):=ai;have Ah:prog.underlying 24=some (.slice 5):=ai;obtain⟨s0,l0,c0,rfl⟩:=okWide_slice B9 (uT 0 22 a0 rfl rfl);obtain⟨s1,l1,c1,rfl⟩:=okWide_slice uR (uT 1 23 a1 rfl rfl);obtain⟨s2,l2,c2,rfl⟩:=okWide_slice Ah (uT 2 24 a2 rfl rfl);obtain⟨n0,BU⟩:=h0;obtain⟨n1,j9⟩:=h1;obtain⟨n2,ic⟩:=h2;obtain⟨ka,kc,K,hkv,hK⟩:=ahE B9 ai ai (by simpa[Value.cells] using BU);obtain⟨la,lc,L,x5,hL,_⟩:=ahC (f:=kr) (z:=2) (R:=fun _=>True) AH uR ai (fun _ _ _ e1 e2=>ahB e1 e2) (by simpa[Value.cells] using j9);obtain⟨oa,oc,O,ES,hO,_⟩:=ahz Ah ai ai (by simpa[Value.cells] using ic);rw[hkv] at k0 HU uT ⊢;rw[x5] at k1 HU uT ⊢;rw[ES] at k2 HU uT ⊢;clear HE TR;have dp:=ala (w:=W) (l:=[aF ka (aK K),aF la (aL kr L),aF oa (Lib.byteCells O)]) (by
  intro x hx
  rcases bU.1 hx with rfl|hx
  ·exact hK.fz
  rcases bU.1 hx with rfl|hx
  ·exact hL.fz
  ·obtain rfl:=jn.1 hx;exact hO.fz)
 have aej:=(adQ ka la oa kc lc oc K L O dp).calls;refine Calls.mono aej fun e W' ⟨v,he,hv,hS⟩=>?_
 subst he hv;have hE:Ext W W':=hS.mod;have GS:=hE.below;exact⟨_,rfl,_,_,_,[],_,[],HU,trodAll_mk1 (shut_bool ai _),(trodAll_cons_mk (Below.trod laidOut ai (dM ai) k0 GS lt0) (trodAll_cons_mk (Below.trod laidOut ai (dM ai) k1 GS lt1) (trodAll_cons_mk (Below.trod laidOut ai (dM ai) k2 GS lt2) trodAll_mk0))),rfl,GS.frame _,fun h=>by cases h⟩
theorem ahM:Rows.busHoldsRow.holds Tryz.pinned (OpenSpec.ofChange Rows.busHoldsSpec):=
 OpenClaim.holds_of_wide 3 Tryz.f3 rfl rfl rfl rfl rfl rfl rfl ⟨rfl,rfl,rfl,rfl,rfl⟩ rfl rfl rfl rfl rfl ai func3 closed
  (dM ai) (by unfold Func.isWrapper;first|(rw[if_pos (by decide +kernel)];kernel_rfl)|(rw[if_neg (by decide +kernel)];exact⟨rfl,rfl⟩))
  (fun os started H enc _=>lifted os started H enc)
theorem proved:Rows.BusHoldsSaid:=ahM
end Go.Proofs.YtoloaehmppcjoaaGreat.busHolds
