/-
  THE LAW EngineNew IS TRUE: for every argument the law returns true, and the arguments read as they did. No condition.
-/
import Derived.Test.YtmjjlhnddokppaaGreatNnb
import Derived.Test.YtmjjlhnddokppaaGreatFh
import Derived.Test.YtmjjlhnddokppaaGreatCn
namespace Go.Proofs.YtmjjlhnddokppaaGreat.engineNew
open Go.ChangeShapes Go.WideShapes Go.ChangeAt Go.RowKit Go.Proofs.YtmjjlhnddokppaaGreat.V
set_option linter.unusedVariables false

theorem own : ownKnob Tryz.prog.godebug = none := by kernel_rfl
theorem laidOut : laidOutB Tryz.prog = true := cg_laidOut

theorem open_cfg {H : Type} {enc : TypeId × Value → H} {W : World} {fuel : Nat} {cs : List Value} {x : DataW H × List MemPlace} (h : Rd enc Tryz.prog W fuel 25 cs = some x) (hl : cs.length = 7) :
    ∃ (b0 b1 b2 b3 b4 bg : Int) (bs : Nat), bs < 18446744073709551616 ∧ cs = [.int .i64 b0, .int .i64 b1, .int .i64 b2, .int .i64 b3, .int .i64 b4, .int .u64 bg, .int .u64 bs] := by
  match cs, hl with
  | [c0, c1, c2, c3, c4, c5, c6], _ =>
    obtain ⟨_, _, _, u0, r0⟩ := trod_cell (i := 0) (o := 0) (d := .int .i64) (by kernel_rfl) h
    obtain ⟨_, _, _, u1, r1⟩ := trod_cell (i := 1) (o := 1) (d := .int .i64) (by kernel_rfl) h
    obtain ⟨_, _, _, u2, r2⟩ := trod_cell (i := 2) (o := 2) (d := .int .i64) (by kernel_rfl) h
    obtain ⟨_, _, _, u3, r3⟩ := trod_cell (i := 3) (o := 3) (d := .int .i64) (by kernel_rfl) h
    obtain ⟨_, _, _, u4, r4⟩ := trod_cell (i := 4) (o := 4) (d := .int .i64) (by kernel_rfl) h
    obtain ⟨_, _, _, u5, r5⟩ := trod_cell (i := 5) (o := 5) (d := .int .u64) (by kernel_rfl) h
    obtain ⟨_, _, _, u6, r6⟩ := trod_cell (i := 6) (o := 6) (d := .int .u64) (by kernel_rfl) h
    obtain ⟨n0, rfl⟩ := open_intAt u0 r0
    obtain ⟨n1, rfl⟩ := open_intAt u1 r1
    obtain ⟨n2, rfl⟩ := open_intAt u2 r2
    obtain ⟨n3, rfl⟩ := open_intAt u3 r3
    obtain ⟨n4, rfl⟩ := open_intAt u4 r4
    obtain ⟨n5, rfl⟩ := open_intAt u5 r5
    obtain ⟨n6, rfl, hn6⟩ := open_u64At u6 r6
    exact ⟨n0, n1, n2, n3, n4, n5, n6, hn6, rfl⟩

set_option maxRecDepth 100000 in
theorem lifted (os : Os) (started : os.Started) (H : Type) (enc : TypeId × Value → H) :
    ReturnsInHanded {} Tryz.checked os 3 .any (Rows.engineNewSpec.pre6 enc Tryz.prog Tryz.f3 Rows.engineNewRow.domain false) (Rows.engineNewSpec.post enc Tryz.prog Tryz.f3 false true false false) := by
  refine returnsInHanded_of_change (C := Tryz.checked) own started (by kernel_rfl) Tryz.func3
    (ChangeSpec.witness6 (enc := enc) (C := Tryz.checked) false ⟨#[], #[.agg #[.int .i64 0, .int .i64 0, .int .i64 0, .int .i64 0, .int .i64 0, .int .u64 0, .int .u64 0]], []⟩ 8 (by kernel_rfl) (by kernel_rfl) (by kernel_rfl) (by kernel_rfl)) ?_
  intro W base args ds gs before hval0 hW hcnd _
  have hval : ∀ (j : Nat) t v, Tryz.f3.params[j]? = some t → args[j]? = some v → Value.okWide Tryz.prog W .any base t v := hval0
  have hW' := hW
  obtain ⟨p, q, hA0, hV, rfl, hfz, hnd⟩ := hW
  have hA : DataW.TrodAll enc Tryz.prog W 0 (fun _ => true) true Tryz.f3.params.toList args.toList ds p := hA0
  rw [Tryz.params3] at hA hval
  obtain ⟨a0, vs0, d0, ds0, p0, q0, hargs, rfl, rfl, h0, r0⟩ := trodAll_cons hA
  obtain ⟨rfl, rfl, rfl⟩ := trodAll_nil r0
  obtain rfl : args = #[a0] := by cases args; simp_all
  obtain ⟨rfl, rfl⟩ := trodVars_none hV
  have k0 := h0
  have lt0 : ∀ x ∈ p0, x.block < W.heap.size := by obtain ⟨m, hm⟩ := k0; exact DataW.trod_lt m _ _ _ hm
  obtain ⟨f0, hf0⟩ : ∃ f, fieldOf Tryz.prog 25 0 = some f := Option.isSome_iff_exists.1 (by kernel_rfl)
  obtain ⟨cs0, rfl, hsz0, _⟩ := okWide_struct hf0 (hval 0 25 a0 rfl rfl)
  have hsz0' : cs0.size = 7 := hsz0.trans (by kernel_rfl)
  obtain ⟨n0, hn0⟩ := h0
  obtain ⟨b0, b1, b2, b3, b4, bg, bs, hs, hcs0⟩ := open_cfg (cs := cs0.toList) (by simpa [Value.cells] using hn0) (by simpa using hsz0')
  obtain rfl : cs0 = [.int .i64 b0, .int .i64 b1, .int .i64 b2, .int .i64 b3, .int .i64 b4, .int .u64 bg, .int .u64 bs].toArray := by
    apply Array.toList_inj.1
    simpa using hcs0
  clear hA0 hval0
  have hwalk := (new_ret b0 b1 b2 b3 b4 bg bs hs W).calls
  refine Calls.mono hwalk fun e W' ⟨v, he, hv, hE⟩ => ?_
  subst he hv
  have bel := hE.below
  exact ⟨_, rfl, _, _, _, [], _, [], hW', trodAll_mk1 (shut_bool (by kernel_rfl) _), (trodAll_cons_mk (Below.trod laidOut (by kernel_rfl) (of_decide_eq_true (by kernel_rfl)) k0 bel lt0) trodAll_mk0), rfl, bel.frame _, fun h => by cases h⟩

theorem over : Rows.engineNewRow.holds Tryz.pinned (OpenSpec.ofChange Rows.engineNewSpec) :=
  OpenClaim.holds_of_wide 3 Tryz.f3 rfl rfl rfl rfl rfl rfl rfl ⟨rfl, rfl, rfl, rfl, rfl⟩ rfl rfl rfl rfl rfl (by kernel_rfl) Tryz.func3 closed
    (of_decide_eq_true (by kernel_rfl)) (by unfold Func.isWrapper; first | (rw [if_pos (by decide +kernel)]; kernel_rfl) | (rw [if_neg (by decide +kernel)]; exact ⟨rfl, rfl⟩))
    (fun os started H enc _ => lifted os started H enc)

theorem proved : Rows.EngineNewSaid := over
#print axioms proved
end Go.Proofs.YtmjjlhnddokppaaGreat.engineNew
