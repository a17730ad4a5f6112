/-
  THE LAW BusCommands IS TRUE: for every argument the law returns true, and the arguments read as they did. No condition.
-/
import Derived.Test.YtmhpkllajmepjaaGreatFi
import Derived.Test.YtmhpkllajmepjaaGreatFh
import Derived.Test.YtmhpkllajmepjaaGreatCm
namespace Go.Proofs.YtmhpkllajmepjaaGreat.busCommands
open Go.ChangeShapes Go.WideShapes Go.ChangeAt Go.RowKit Go.Proofs.YtmhpkllajmepjaaGreat.V
set_option linter.unusedVariables false

theorem own : ownKnob Tryz.prog.godebug = none := by kernel_rfl
theorem laidOut : laidOutB Tryz.prog = true := cg_laidOut

theorem open_pur {H : Type} {enc : TypeId × Value → H} {W : World} {fuel : Nat} {cs : List Value} {x : DataW H × List MemPlace} (h : Rd enc Tryz.prog W fuel 24 cs = some x) (hl : cs.length = 2) : ∃ k nm, cs = [.int .i64 k, str nm] := by
  match cs, hl with
  | [a, b], _ =>
    obtain ⟨_, _, _, u0, r0⟩ := trod_cell (i := 0) (o := 0) (d := .int .i64) (by kernel_rfl) h
    obtain ⟨_, _, _, u1, r1⟩ := trod_cell (i := 1) (o := 1) (d := .string) (by kernel_rfl) h
    obtain ⟨k, rfl⟩ := open_intAt u0 r0
    obtain ⟨nm, rfl⟩ := open_strAt u1 r1
    exact ⟨k, nm, rfl⟩

set_option maxRecDepth 100000 in
theorem lifted (os : Os) (started : os.Started) (H : Type) (enc : TypeId × Value → H) :
    ReturnsInHanded {} Tryz.checked os 3 .any (Rows.busCommandsSpec.pre6 enc Tryz.prog Tryz.f3 Rows.busCommandsRow.domain false) (Rows.busCommandsSpec.post enc Tryz.prog Tryz.f3 false true false false) := by
  refine returnsInHanded_of_change (C := Tryz.checked) own started (by kernel_rfl) Tryz.func3
    (ChangeSpec.witness6 (enc := enc) (C := Tryz.checked) false ⟨#[], #[.agg #[.int .i64 0, .string ⟨#[]⟩]], []⟩ 8 (by kernel_rfl) (by kernel_rfl) (by kernel_rfl) (by kernel_rfl)) ?_
  intro W base args ds gs before hval0 hW hcnd _
  have hval : ∀ (j : Nat) t v, Tryz.f3.params[j]? = some t → args[j]? = some v → Value.okWide Tryz.prog W .any base t v := hval0
  have hW' := hW
  obtain ⟨p, q, hA0, hV, rfl, hfz, hnd⟩ := hW
  have hA : DataW.TrodAll enc Tryz.prog W 0 (fun _ => true) true Tryz.f3.params.toList args.toList ds p := hA0
  rw [Tryz.params3] at hA hval
  obtain ⟨v0, vs0, d0, ds0, p0, q0, hargs, rfl, rfl, h0, r0⟩ := trodAll_cons hA
  obtain ⟨rfl, rfl, rfl⟩ := trodAll_nil r0
  obtain rfl : args = #[v0] := by cases args; simp_all
  obtain ⟨rfl, rfl⟩ := trodVars_none hV
  have k0 := h0
  have lt0 : ∀ x ∈ p0, x.block < W.heap.size := by obtain ⟨m, hm⟩ := k0; exact DataW.trod_lt m _ _ _ hm
  obtain ⟨f, hf⟩ : ∃ f, fieldOf Tryz.prog 24 0 = some f := Option.isSome_iff_exists.1 (by kernel_rfl)
  obtain ⟨cs, rfl, hsz, _⟩ := okWide_struct hf (hval 0 24 v0 rfl rfl)
  have hsz' : cs.size = 2 := hsz.trans (by kernel_rfl)
  obtain ⟨n0, hn0⟩ := h0
  obtain ⟨k, nm, hcs⟩ := open_pur hn0 (by simpa [Value.cells] using hsz')
  have hcs : cs = #[.int .i64 k, str nm] := by
    apply Array.toList_inj.1
    simpa [Value.cells] using hcs
  clear hA0 hval0
  subst hcs
  have hwalk := (cmds_ret k nm W).calls
  refine Calls.mono hwalk fun e W' ⟨v, he, hv, hE⟩ => ?_
  subst he hv
  have bel := hE.below
  exact ⟨_, rfl, _, _, _, [], _, [], hW', trodAll_mk1 (shut_bool (by kernel_rfl) _), (trodAll_cons_mk (Below.trod laidOut (by kernel_rfl) (of_decide_eq_true (by kernel_rfl)) k0 bel lt0) trodAll_mk0), rfl, bel.frame _, fun h => by cases h⟩

theorem over : Rows.busCommandsRow.holds Tryz.pinned (OpenSpec.ofChange Rows.busCommandsSpec) :=
  OpenClaim.holds_of_wide 3 Tryz.f3 rfl rfl rfl rfl rfl rfl rfl ⟨rfl, rfl, rfl, rfl, rfl⟩ rfl rfl rfl rfl rfl (by kernel_rfl) Tryz.func3 closed
    (of_decide_eq_true (by kernel_rfl)) (by unfold Func.isWrapper; first | (rw [if_pos (by decide +kernel)]; kernel_rfl) | (rw [if_neg (by decide +kernel)]; exact ⟨rfl, rfl⟩))
    (fun os started H enc _ => lifted os started H enc)

theorem proved : Rows.BusCommandsSaid := over
#print axioms proved
end Go.Proofs.YtmhpkllajmepjaaGreat.busCommands
