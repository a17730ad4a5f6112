/-
  THE LAW DumpEquals IS TRUE: for every argument the law returns true, and the arguments read as they did. No condition.
-/
import Derived.Test.YtbjomeonjlialaaGreatZcc
set_option linter.unusedVariables false
set_option linter.unusedSimpArgs false
namespace Go.Proofs.YtbjomeonjlialaaGreat.dumpEquals
open Go.ChangeShapes Go.WideShapes Go.ChangeAt Go.RowKit Go.Proofs.YtbjomeonjlialaaGreat.V
set_option linter.unusedVariables false
theorem own : ownKnob Tryz.prog.godebug = none := by kernel_rfl
theorem laidOut : laidOutB Tryz.prog = true := cg_laidOut
set_option maxRecDepth 100000 in
theorem lifted (os : Os) (started : os.Started) (H : Type) (enc : TypeId × Value → H) :
    ReturnsInHanded {} Tryz.checked os 4 .any (Rows.dumpEqualsSpec.pre6 enc Tryz.prog Tryz.f4 Rows.dumpEqualsRow.domain false) (Rows.dumpEqualsSpec.post enc Tryz.prog Tryz.f4 false true false false) := by
  refine returnsInHanded_of_change (C := Tryz.checked) own started (by kernel_rfl) Tryz.func4
    (ChangeSpec.witness6 (enc := enc) (C := Tryz.checked) false ⟨#[], #[.agg #[.int .i64 0, .int .i64 0, .int .i64 0, .int .i64 0, .int .i64 0, .int .u64 0, .int .u64 0, .int .u64 0, .int .u64 0, .int .u64 0, .int .u64 0, .slice none 0 0, .slice none 0 0, .slice none 0 0, .slice none 0 0, .slice none 0 0], .agg #[.int .i64 0, .int .i64 0, .int .i64 0, .int .i64 0, .int .i64 0, .int .u64 0, .int .u64 0, .int .u64 0, .int .u64 0, .int .u64 0, .int .u64 0, .slice none 0 0, .slice none 0 0, .slice none 0 0, .slice none 0 0, .slice none 0 0]], []⟩ 8 (by kernel_rfl) (by kernel_rfl) (by kernel_rfl) (by kernel_rfl)) ?_
  intro W base args ds gs before hval0 hW hcnd _
  have hval : ∀ (j : Nat) t v, Tryz.f4.params[j]? = some t → args[j]? = some v → Value.okWide Tryz.prog W .any base t v := hval0
  have hW' := hW
  obtain ⟨p, q, hA0, hV, rfl, hfz, hnd⟩ := hW
  have hA : DataW.TrodAll enc Tryz.prog W 0 (fun _ => true) true Tryz.f4.params.toList args.toList ds p := hA0
  rw [Tryz.params4] at hA hval
  obtain ⟨a0, vs0, d0, ds0, p0, q0, hargs, rfl, rfl, h0, r0⟩ := trodAll_cons hA
  obtain ⟨a1, vs1, d1, ds1, p1, q1, rfl, rfl, rfl, h1, r1⟩ := trodAll_cons r0
  obtain ⟨rfl, rfl, rfl⟩ := trodAll_nil r1
  obtain rfl : args = #[a0, a1] := by cases args; simp_all
  obtain ⟨rfl, rfl⟩ := trodVars_none hV
  have k0 := h0
  have lt0 : ∀ x ∈ p0, x.block < W.heap.size := by obtain ⟨m, hm⟩ := k0; exact DataW.trod_lt m _ _ _ hm
  have k1 := h1
  have lt1 : ∀ x ∈ p1, x.block < W.heap.size := by obtain ⟨m, hm⟩ := k1; exact DataW.trod_lt m _ _ _ hm
  obtain ⟨f0, hf0⟩ : ∃ f, fieldOf Tryz.prog 50 0 = some f := Option.isSome_iff_exists.1 (by kernel_rfl)
  obtain ⟨cs0, rfl, hsz0, _⟩ := okWide_struct hf0 (hval 0 50 a0 rfl rfl)
  obtain ⟨cs1, rfl, hsz1, _⟩ := okWide_struct hf0 (hval 1 50 a1 rfl rfl)
  have hsz0' : cs0.size = 16 := hsz0.trans (by kernel_rfl)
  have hsz1' : cs1.size = 16 := hsz1.trans (by kernel_rfl)
  obtain ⟨n0, hn0⟩ := h0
  obtain ⟨n1, hn1⟩ := h1
  have hk : V.S.tkinds Tryz.prog 6 50 = some V.S.stK := by kernel_rfl
  have hn0' : Rd enc Tryz.prog W n0 50 cs0.toList = some (d0, p0) := by simpa [Value.cells] using hn0
  have hn1' : Rd enc Tryz.prog W n1 50 cs1.toList = some (d1, p1) := by simpa [Value.cells] using hn1
  clear hA0 hval0
  have hwalk := (V.S.equals_ret W cs0.toList cs1.toList fun r hr => ⟨V.S.rd_kinds hr 6 hk hn0' (by rw [Array.length_toList]; exact hsz0'), V.S.rd_kinds hr 6 hk hn1' (by rw [Array.length_toList]; exact hsz1')⟩).calls
  rw [show cs0.toList.toArray = cs0 by simp, show cs1.toList.toArray = cs1 by simp] at hwalk
  refine Calls.mono hwalk fun e W' ⟨v, he, hv, hE⟩ => ?_
  subst he hv
  have bel := hE.below
  exact ⟨_, rfl, _, _, _, [], _, [], hW', trodAll_mk1 (shut_bool (by kernel_rfl) _), (trodAll_cons_mk (Below.trod laidOut (by kernel_rfl) (of_decide_eq_true (by kernel_rfl)) k0 bel lt0) (trodAll_cons_mk (Below.trod laidOut (by kernel_rfl) (of_decide_eq_true (by kernel_rfl)) k1 bel lt1) trodAll_mk0)), rfl, bel.frame _, fun h => by cases h⟩
theorem over : Rows.dumpEqualsRow.holds Tryz.pinned (OpenSpec.ofChange Rows.dumpEqualsSpec) :=
  OpenClaim.holds_of_wide 4 Tryz.f4 rfl rfl rfl rfl rfl rfl rfl ⟨rfl, rfl, rfl, rfl, rfl⟩ rfl rfl rfl rfl rfl (by kernel_rfl) Tryz.func4 closed
    (of_decide_eq_true (by kernel_rfl)) (by unfold Func.isWrapper; first | (rw [if_pos (by decide +kernel)]; kernel_rfl) | (rw [if_neg (by decide +kernel)]; exact ⟨rfl, rfl⟩))
    (fun os started H enc _ => lifted os started H enc)
theorem proved : Rows.DumpEqualsSaid := over
end Go.Proofs.YtbjomeonjlialaaGreat.dumpEquals
