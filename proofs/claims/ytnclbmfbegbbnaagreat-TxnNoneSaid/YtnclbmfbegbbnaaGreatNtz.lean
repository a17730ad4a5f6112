/-
  THE LAW TxnNone IS TRUE: for every argument the law returns true, and the arguments read as they did. No condition.
-/
import Derived.Test.YtnclbmfbegbbnaaGreatNtb
import Derived.Test.YtnclbmfbegbbnaaGreatFh
import Derived.Test.YtnclbmfbegbbnaaGreatCt
namespace Go.Proofs.YtnclbmfbegbbnaaGreat.txnNone
open Go.ChangeShapes Go.WideShapes Go.ChangeAt Go.RowKit Go.Proofs.YtnclbmfbegbbnaaGreat.V
set_option linter.unusedVariables false

theorem own : ownKnob Tryz.prog.godebug = none := by kernel_rfl
theorem laidOut : laidOutB Tryz.prog = true := cg_laidOut

theorem open_p0 {H : Type} {enc : TypeId × Value → H} {W : World} {fuel : Nat} {cs : List Value} {x : DataW H × List MemPlace} (h : Rd enc Tryz.prog W fuel 30 cs = some x) (hl : cs.length = 14) :
    ∃ v0 v1 v2 s3 c l, cs = (v0 :: v1 :: v2 :: (str s3) :: l) ∧ CmdW W l c ∧ ∀ v ∈ cs, v.oneCell' = true := by
  match cs, hl with
  | c0 :: c1 :: c2 :: c3 :: r, hl =>
    obtain ⟨_, _, _, u0, r0⟩ := trod_cell (i := 0) (o := 0) (d := .int .i64) (by kernel_rfl) h
    obtain ⟨_, _, _, u1, r1⟩ := trod_cell (i := 1) (o := 1) (d := .int .i64) (by kernel_rfl) h
    obtain ⟨_, _, _, u2, r2⟩ := trod_cell (i := 2) (o := 2) (d := .int .u64) (by kernel_rfl) h
    obtain ⟨_, _, _, u3, r3⟩ := trod_cell (i := 3) (o := 3) (d := .string) (by kernel_rfl) h
    have hfo : (fieldOf Tryz.prog 30 4).map (fun f => (f.offset, f.type, Tryz.prog.cellsOf f.type)) = some (4, 28, 10) := by kernel_rfl
    obtain ⟨g, hg, hge⟩ := Option.map_eq_some_iff.1 hfo
    simp only [Prod.mk.injEq] at hge
    obtain ⟨m, z, hz⟩ := trod_field hg h
    rw [hge.1, hge.2.2, hge.2.1] at hz
    have hr : r.length = 10 := by simpa using hl
    have hz' : Rd enc Tryz.prog W m 28 r = some z := by
      have e : ((c0 :: c1 :: c2 :: c3 :: r).drop 4).take 10 = r := by
        show r.take 10 = r
        exact List.take_of_length_le (Nat.le_of_eq hr)
      rwa [e] at hz
    obtain ⟨n0, rfl⟩ := open_intAt u0 r0
    obtain ⟨n1, rfl⟩ := open_intAt u1 r1
    obtain ⟨n2, rfl⟩ := open_intAt u2 r2
    obtain ⟨n3, rfl⟩ := open_strAt u3 r3
    obtain ⟨c, hc⟩ := open_cmd hz' hr
    refine ⟨_, _, _, n3, c, r, rfl, hc, ?_⟩
    have := hc.one
    simpa [Value.oneCell', str] using this

set_option maxRecDepth 100000 in
theorem lifted (os : Os) (started : os.Started) (H : Type) (enc : TypeId × Value → H) :
    ReturnsInHanded {} Tryz.checked os 3 .any (Rows.txnNoneSpec.pre6 enc Tryz.prog Tryz.f3 Rows.txnNoneRow.domain false) (Rows.txnNoneSpec.post enc Tryz.prog Tryz.f3 false true false false) := by
  refine returnsInHanded_of_change (C := Tryz.checked) own started (by kernel_rfl) Tryz.func3
    (ChangeSpec.witness6 (enc := enc) (C := Tryz.checked) false ⟨#[], #[.agg #[.int .i64 0, .int .i64 0, .int .u64 0, .string ⟨#[]⟩, .int .i64 0, .string ⟨#[]⟩, .slice none 0 0, .slice none 0 0, .slice none 0 0, .int .u64 0, .int .u64 0, .string ⟨#[]⟩, .string ⟨#[]⟩, .string ⟨#[]⟩]], []⟩ 8 (by kernel_rfl) (by kernel_rfl) (by kernel_rfl) (by kernel_rfl)) ?_
  intro W base args ds gs before hval0 hW hcnd _
  have hval : ∀ (j : Nat) t v, Tryz.f3.params[j]? = some t → args[j]? = some v → Value.okWide Tryz.prog W .any base t v := hval0
  have hW' := hW
  obtain ⟨p, q, hA0, hV, rfl, hfz, hnd⟩ := hW
  have hA : DataW.TrodAll enc Tryz.prog W 0 (fun _ => true) true Tryz.f3.params.toList args.toList ds p := hA0
  rw [Tryz.params3] at hA hval
  obtain ⟨a0, vs0, d0, ds0, p0, q0, hargs, rfl, rfl, h0, r0⟩ := trodAll_cons hA
  obtain ⟨rfl, rfl, rfl⟩ := trodAll_nil r0
  obtain rfl : args = #[a0] := by cases args; simp_all
  obtain ⟨rfl, rfl⟩ := trodVars_none hV
  have k0 := h0
  have lt0 : ∀ x ∈ p0, x.block < W.heap.size := by obtain ⟨m, hm⟩ := k0; exact DataW.trod_lt m _ _ _ hm
  obtain ⟨f0, hf0⟩ : ∃ f, fieldOf Tryz.prog 30 0 = some f := Option.isSome_iff_exists.1 (by kernel_rfl)
  obtain ⟨cs0, rfl, hsz0, _⟩ := okWide_struct hf0 (hval 0 30 a0 rfl rfl)
  have hsz0' : cs0.size = 14 := hsz0.trans (by kernel_rfl)
  obtain ⟨n0, hn0⟩ := h0
  obtain ⟨v0, v1, v2, s3, c, l, hcs0, hC, hone0⟩ := open_p0 hn0 (by simpa [Value.cells] using hsz0')
  obtain rfl : cs0 = (v0 :: v1 :: v2 :: (str s3) :: l).toArray := by
    apply Array.toList_inj.1
    simpa [Value.cells] using hcs0
  clear hA0 hval0
  have hall : ∀ v ∈ ([v0, v1, v2, str s3] ++ l), v.oneCell' = true := by
    intro v hv
    have := hone0 v
    simp [Value.cells, Value.oneCell', str] at hv this ⊢
    first | exact this hv | (rcases hv with h | h | h <;> first | (subst h; rfl) | exact this h | (rcases h with h | h <;> first | (subst h; rfl) | exact this h)) | (rcases hv with h | h <;> first | (subst h; rfl) | exact this h)
  have hwalk := (none_ret v0 v1 v2 s3 c l W hC hall).calls
  refine Calls.mono hwalk fun e W' ⟨v, he, hv, hE⟩ => ?_
  subst he hv
  have bel := hE.below
  exact ⟨_, rfl, _, _, _, [], _, [], hW', trodAll_mk1 (shut_bool (by kernel_rfl) _), (trodAll_cons_mk (Below.trod laidOut (by kernel_rfl) (of_decide_eq_true (by kernel_rfl)) k0 bel lt0) trodAll_mk0), rfl, bel.frame _, fun h => by cases h⟩

theorem over : Rows.txnNoneRow.holds Tryz.pinned (OpenSpec.ofChange Rows.txnNoneSpec) :=
  OpenClaim.holds_of_wide 3 Tryz.f3 rfl rfl rfl rfl rfl rfl rfl ⟨rfl, rfl, rfl, rfl, rfl⟩ rfl rfl rfl rfl rfl (by kernel_rfl) Tryz.func3 closed
    (of_decide_eq_true (by kernel_rfl)) (by unfold Func.isWrapper; first | (rw [if_pos (by decide +kernel)]; kernel_rfl) | (rw [if_neg (by decide +kernel)]; exact ⟨rfl, rfl⟩))
    (fun os started H enc _ => lifted os started H enc)

theorem proved : Rows.TxnNoneSaid := over
#print axioms proved
end Go.Proofs.YtnclbmfbegbbnaaGreat.txnNone
