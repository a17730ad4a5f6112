/-
  Parts of the proof. No condition.
-/
import Derived.Test.YtmlpbmgfmnmmmaaGreatW2cb
import Derived.Test.YtmlpbmgfmnmmmaaGreatW2cc
set_option linter.unusedVariables false
set_option linter.unusedSimpArgs false
set_option maxRecDepth 8000
set_option maxHeartbeats 8000000
open Go.Proofs.Tryz
namespace Go.Proofs.YtmlpbmgfmnmmmaaGreat.busReceives
open Go.ChangeShapes Go.WideShapes Go.ChangeAt Go.RowKit Go.Proofs.YtmlpbmgfmnmmmaaGreat.V Go.Proofs.YtmlpbmgfmnmmmaaGreat.V.M
theorem own:ownKnob prog.godebug=none:=ai
theorem laidOut:laidOutB prog=true:=Qw
set_option maxRecDepth 100000 in
theorem lifted (os:Os)(started:os.Started)(H:Type)(enc:TypeId×Value→H) :
  ReturnsInHanded {} Tryz.checked os 4 .any (Rows.busReceivesSpec.pre6 enc prog Tryz.f4 Rows.busReceivesRow.domain false) (Rows.busReceivesSpec.post enc prog Tryz.f4 false true false false):=by
 refine returnsInHanded_of_change (C:=Tryz.checked) own started ai func4
  (ChangeSpec.witness6 (enc:=enc) (C:=Tryz.checked) false ⟨#[],#[.agg #[.int .i64 0, .int .i64 0, .int .i64 0, .int .i64 0, .int .i64 0, .int .u64 0, .int .u64 0], .slice none 0 0],[]⟩ 8 ai ai ai ai) ?_
 intro W base args ds gs before TO hW amr _;have Aj:∀(j:Nat) t v,Tryz.f4.params[j]?=some t→args[j]?=some v→Value.okWide prog W .any base t v:=TO;have Sa:=hW;obtain⟨p,q,HA,hV,rfl,hfz,bX⟩:=hW;have hA:DataW.TrodAll enc prog W 0 (fun _=>true) true Tryz.f4.params.toList args.toList ds p:=HA;rw[Tryz.params4] at hA Aj;obtain⟨a0,vs0,d0,ds0,p0,q0,amm,rfl,rfl,h0,r0⟩:=trodAll_cons hA;obtain⟨a1,vs1,d1,ds1,p1,q1,rfl,rfl,rfl,h1,r1⟩:=trodAll_cons r0;obtain⟨rfl,rfl,rfl⟩:=trodAll_nil r1;obtain rfl:args=#[a0,a1]:=by cases args;simp_all
 obtain⟨rfl,rfl⟩:=trodVars_none hV;have k0:=h0;have lt0:∀x∈p0,x.block<W.heap.size:=by obtain⟨m,hm⟩:=k0;exact DataW.trod_lt m _ _ _ hm
 have k1:=h1;have lt1:∀x∈p1,x.block<W.heap.size:=by obtain⟨m,hm⟩:=k1;exact DataW.trod_lt m _ _ _ hm
 have IV:prog.underlying 68=some (.slice 77):=ai;obtain⟨f0,Mm⟩:∃f,xJ prog 41 0=some f:=C7.1 ai;obtain⟨KX,rfl,adY,_⟩:=okWide_struct Mm (Aj 0 41 a0 rfl rfl);have adZ:KX.size=7:=adY.trans ai;obtain⟨sa,anh,ang,rfl⟩:=okWide_slice IV (Aj 1 68 a1 rfl rfl);obtain⟨n0,BV⟩:=h0;obtain⟨n1,lf⟩:=h1;obtain⟨c,zK,dN⟩:=ahD (cs:=KX.toList) (by simpa using adZ) (by simpa[Value.cells] using BV);obtain rfl:KX=(vC c).toArray:=by
  apply Array.toList_inj.1;simpa using zK
 obtain⟨la,lc,L,xW,hIn,uc⟩:=ahB IV (by simpa[Value.cells] using lf);rw[xW] at k1 Sa Aj ⊢;clear HA TO;have dt:=ali (w:=W) (l:=[aF la (aK qd L),bB (zi L)]) (by
  intro x hx
  rcases bY.1 hx with rfl|hx
  ·exact hIn.fz
  ·obtain rfl:=lC.1 hx;refine⟨(),O2 fun y hy=>?_⟩;obtain⟨l,hl,hy⟩:=List.mem_flatten.1 hy;obtain⟨a,ha,rfl⟩:=bK.1 hl;have hc:=(uc a ha).c
   rcases bY.1 hy with rfl|hy
   ·exact hc.k.fz
   rcases bY.1 hy with rfl|hy
   ·exact hc.v.fz
   ·obtain rfl:=lC.1 hy;exact hc.t.fz)
 have aea:=(aiH c dN la lc L (fun a ha=>⟨(uc a ha).T,(uc a ha).c.d,(uc a ha).n,(uc a ha).c.v0⟩) dt).calls;refine Calls.mono aea fun e W' ⟨v,he,hv,hS⟩=>?_
 subst he hv;have hE:Ext W W':=hS.mod;have KI:=hE.below;exact⟨_,rfl,_,_,_,[],_,[],Sa,trodAll_mk1 (shut_bool ai _),(trodAll_cons_mk (Below.trod laidOut ai (eN ai) k0 KI lt0) (trodAll_cons_mk (Below.trod laidOut ai (eN ai) k1 KI lt1) trodAll_mk0)),rfl,KI.frame _,fun h=>by cases h⟩
theorem ahN:Rows.busReceivesRow.holds Tryz.pinned (OpenSpec.ofChange Rows.busReceivesSpec):=
 OpenClaim.holds_of_wide 4 Tryz.f4 rfl rfl rfl rfl rfl rfl rfl ⟨rfl,rfl,rfl,rfl,rfl⟩ rfl rfl rfl rfl rfl ai func4 closed
  (eN ai) (by unfold Func.isWrapper;first|(rw[if_pos (by decide +kernel)];kernel_rfl)|(rw[if_neg (by decide +kernel)];exact⟨rfl,rfl⟩))
  (fun os started H enc _=>lifted os started H enc)
theorem proved:Rows.BusReceivesSaid:=ahN
end Go.Proofs.YtmlpbmgfmnmmmaaGreat.busReceives
