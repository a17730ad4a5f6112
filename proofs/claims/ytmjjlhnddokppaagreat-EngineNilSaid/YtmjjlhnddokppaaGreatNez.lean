/-
  THE LAW EngineNil IS TRUE: for every argument the law returns true, and the arguments read as they did. No condition.
-/
import Derived.Test.YtmjjlhnddokppaaGreatNeb
import Derived.Test.YtmjjlhnddokppaaGreatFh
import Derived.Test.YtmjjlhnddokppaaGreatCe
namespace Go.Proofs.YtmjjlhnddokppaaGreat.engineNil
open Go.ChangeShapes Go.WideShapes Go.ChangeAt Go.RowKit Go.Proofs.YtmjjlhnddokppaaGreat.V
set_option linter.unusedVariables false

theorem own : ownKnob Tryz.prog.godebug = none := by kernel_rfl
theorem laidOut : laidOutB Tryz.prog = true := cg_laidOut

set_option maxRecDepth 100000 in
theorem lifted (os : Os) (started : os.Started) (H : Type) (enc : TypeId × Value → H) :
    ReturnsInHanded {} Tryz.checked os 4 .any (Rows.engineNilSpec.pre6 enc Tryz.prog Tryz.f4 Rows.engineNilRow.domain false) (Rows.engineNilSpec.post enc Tryz.prog Tryz.f4 false true false false) := by
  refine returnsInHanded_of_change (C := Tryz.checked) own started (by kernel_rfl) Tryz.func4
    (ChangeSpec.witness6 (enc := enc) (C := Tryz.checked) false ⟨#[], #[.int .u64 0, .agg #[.int .i64 0, .string ⟨#[]⟩, .slice none 0 0, .slice none 0 0, .slice none 0 0, .int .u64 0, .int .u64 0, .string ⟨#[]⟩, .string ⟨#[]⟩, .string ⟨#[]⟩], .int .i64 0], []⟩ 8 (by kernel_rfl) (by kernel_rfl) (by kernel_rfl) (by kernel_rfl)) ?_
  intro W base args ds gs before hval0 hW hcnd _
  have hval : ∀ (j : Nat) t v, Tryz.f4.params[j]? = some t → args[j]? = some v → Value.okWide Tryz.prog W .any base t v := hval0
  have hW' := hW
  obtain ⟨p, q, hA0, hV, rfl, hfz, hnd⟩ := hW
  have hA : DataW.TrodAll enc Tryz.prog W 0 (fun _ => true) true Tryz.f4.params.toList args.toList ds p := hA0
  rw [Tryz.params4] at hA hval
  obtain ⟨a0, vs0, d0, ds0, p0, q0, hargs, rfl, rfl, h0, r0⟩ := trodAll_cons hA
  obtain ⟨a1, vs1, d1, ds1, p1, q1, rfl, rfl, rfl, h1, r1⟩ := trodAll_cons r0
  obtain ⟨a2, vs2, d2, ds2, p2, q2, rfl, rfl, rfl, h2, r2⟩ := trodAll_cons r1
  obtain ⟨rfl, rfl, rfl⟩ := trodAll_nil r2
  obtain rfl : args = #[a0, a1, a2] := by cases args; simp_all
  obtain ⟨rfl, rfl⟩ := trodVars_none hV
  have k0 := h0
  have lt0 : ∀ x ∈ p0, x.block < W.heap.size := by obtain ⟨m, hm⟩ := k0; exact DataW.trod_lt m _ _ _ hm
  have k1 := h1
  have lt1 : ∀ x ∈ p1, x.block < W.heap.size := by obtain ⟨m, hm⟩ := k1; exact DataW.trod_lt m _ _ _ hm
  have k2 := h2
  have lt2 : ∀ x ∈ p2, x.block < W.heap.size := by obtain ⟨m, hm⟩ := k2; exact DataW.trod_lt m _ _ _ hm
  obtain ⟨n0, hn0⟩ := okWide_int (k := .u64) (by kernel_rfl) (hval 0 23 a0 rfl rfl)
  subst hn0
  obtain ⟨f1, hf1⟩ : ∃ f, fieldOf Tryz.prog 40 0 = some f := Option.isSome_iff_exists.1 (by kernel_rfl)
  obtain ⟨cs1, rfl, hsz1, _⟩ := okWide_struct hf1 (hval 1 40 a1 rfl rfl)
  have hsz1' : cs1.size = 10 := hsz1.trans (by kernel_rfl)
  obtain ⟨n1, hn1⟩ := h1
  obtain ⟨c, hC⟩ := open_cmd (cs := cs1.toList) (by simpa [Value.cells] using hn1) (by simpa using hsz1')
  have hone1 := hC.one
  obtain ⟨l, hl⟩ : ∃ l, l = cs1.toList := ⟨_, rfl⟩
  rw [← hl] at hC hone1
  obtain rfl : cs1 = l.toArray := by rw [hl]
  obtain ⟨n2, hn2⟩ := okWide_int (k := .i64) (by kernel_rfl) (hval 2 3 a2 rfl rfl)
  subst hn2
  clear hA0 hval0
  have hall : ∀ v ∈ ([(.int .u64 n0)] ++ l ++ [(.int .i64 n2)]), v.oneCell' = true := by
    intro v hv
    have := hone1 v
    simp [Value.cells, Value.oneCell', str] at hv this ⊢
    first | exact this hv | (rcases hv with h | h | h <;> first | (subst h; rfl) | exact this h | (rcases h with h | h <;> first | (subst h; rfl) | exact this h)) | (rcases hv with h | h <;> first | (subst h; rfl) | exact this h)
  have hwalk := (none_ret (.int .u64 n0) (.int .i64 n2)  c l W hC hall).calls
  refine Calls.mono hwalk fun e W' ⟨v, he, hv, hE⟩ => ?_
  subst he hv
  have bel := hE.below
  exact ⟨_, rfl, _, _, _, [], _, [], hW', trodAll_mk1 (shut_bool (by kernel_rfl) _), (trodAll_cons_mk (Below.trod laidOut (by kernel_rfl) (of_decide_eq_true (by kernel_rfl)) k0 bel lt0) (trodAll_cons_mk (Below.trod laidOut (by kernel_rfl) (of_decide_eq_true (by kernel_rfl)) k1 bel lt1) (trodAll_cons_mk (Below.trod laidOut (by kernel_rfl) (of_decide_eq_true (by kernel_rfl)) k2 bel lt2) trodAll_mk0))), rfl, bel.frame _, fun h => by cases h⟩

theorem over : Rows.engineNilRow.holds Tryz.pinned (OpenSpec.ofChange Rows.engineNilSpec) :=
  OpenClaim.holds_of_wide 4 Tryz.f4 rfl rfl rfl rfl rfl rfl rfl ⟨rfl, rfl, rfl, rfl, rfl⟩ rfl rfl rfl rfl rfl (by kernel_rfl) Tryz.func4 closed
    (of_decide_eq_true (by kernel_rfl)) (by unfold Func.isWrapper; first | (rw [if_pos (by decide +kernel)]; kernel_rfl) | (rw [if_neg (by decide +kernel)]; exact ⟨rfl, rfl⟩))
    (fun os started H enc _ => lifted os started H enc)

theorem proved : Rows.EngineNilSaid := over
#print axioms proved
end Go.Proofs.YtmjjlhnddokppaaGreat.engineNil
