/-
  THE LAW BusHubs IS TRUE: for every argument the law returns true, and the arguments read as they did. No condition.
-/
import Derived.Test.YtgmokaflgdmekaaGreatNhw
import Derived.Test.YtgmokaflgdmekaaGreatFh
import Derived.Test.YtgmokaflgdmekaaGreatCh
namespace Go.Proofs.YtgmokaflgdmekaaGreat.busHubs
open Go.ChangeShapes Go.WideShapes Go.ChangeAt Go.RowKit Go.Proofs.YtgmokaflgdmekaaGreat.V
set_option linter.unusedVariables false

theorem own : ownKnob Tryz.prog.godebug = none := by kernel_rfl
theorem laidOut : laidOutB Tryz.prog = true := cg_laidOut

theorem pursV_inv : ∀ {l : List Pur} {i : Nat} {v : Value}, (pursV l)[i]? = some v → ∃ j k, i = j * 2 + k ∧ k < 2 ∧ ∃ h : j < l.length, (purV l[j])[k]? = some v
  | [], i, v, h => by simp [pursV] at h
  | p :: l, i, v, h => by
    simp only [pursV] at h
    by_cases hi : i < 2
    · rw [List.getElem?_append_left (by simpa using hi)] at h
      exact ⟨0, i, by omega, hi, by simp, h⟩
    · rw [List.getElem?_append_right (by simp; omega)] at h
      obtain ⟨j, k, h1, h2, h3, h4⟩ := pursV_inv h
      simp at h1
      exact ⟨j + 1, k, by omega, h2, by simpa using h3, by simpa using h4⟩
theorem open_purs {H : Type} {enc : TypeId × Value → H} {W : World} {fuel : Nat} {t : TypeId} {v : Value} {x : DataW H × List MemPlace} (ht : Tryz.prog.underlying t = some (.slice 30))
    (h : Rd enc Tryz.prog W fuel t [v] = some x) : ∃ a l c, v = .slice a (List.length l) c ∧ SlA W a (pursV l) := by
  rcases Go.Deep.open_slice ht h with ⟨hv, _⟩ | ⟨a, len, cap, m, n, D, Pl, hv, _, hl, hm, hmm, _, hx⟩
  · simp at hv
    subst hv
    exact ⟨none, [], 0, rfl, rfl⟩
  · simp at hv
    subst hv
    simp at hmm
    have hc : Tryz.prog.cellsOf 30 = 2 := by kernel_rfl
    rw [hc] at hx
    have hz : ∀ i, i < len → ∃ p : Pur, ∀ k v, (purV p)[k]? = some v → W.cell? (a.add (i * 2 + k)) = some v := fun i hi => by
      obtain ⟨cs, h1, h2⟩ := hx i (by omega)
      obtain ⟨_, hlen, hcell⟩ := World.cells?_some h1
      obtain ⟨_, _, _, u0, r0⟩ := trod_cell (i := 0) (o := 0) (d := .int .i64) (by kernel_rfl) h2
      obtain ⟨_, _, _, u1, r1⟩ := trod_cell (i := 1) (o := 1) (d := .string) (by kernel_rfl) h2
      match cs, hlen with
      | [c0, c1], _ =>
        obtain ⟨k0, rfl⟩ := open_intAt u0 r0
        obtain ⟨s1, rfl⟩ := open_strAt u1 r1
        refine ⟨(k0, s1), fun k v hv => ?_⟩
        have hk : k < 2 := (List.getElem?_eq_some_iff.1 hv).1
        have := hcell k hk
        rw [Go.Deep.add_add] at this
        rw [this]
        exact hv
    obtain ⟨f, hf⟩ := Go.Deep.choose_lt (p := fun i (p : Pur) => ∀ k v, (purV p)[k]? = some v → W.cell? (a.add (i * 2 + k)) = some v) hz
    refine ⟨some a, (List.range len).map f, cap, by simp, (sla_of fun i v hv => ?_).1⟩
    obtain ⟨j, k, rfl, hk, hj, hv'⟩ := pursV_inv hv
    have hj' : j < len := by simpa using hj
    refine hf j hj' k v ?_
    simpa using hv'

set_option maxRecDepth 100000 in
theorem lifted (os : Os) (started : os.Started) (H : Type) (enc : TypeId × Value → H) :
    ReturnsInHanded {} Tryz.checked os 4 .any (Rows.busHubsSpec.pre6 enc Tryz.prog Tryz.f4 Rows.busHubsRow.domain false) (Rows.busHubsSpec.post enc Tryz.prog Tryz.f4 false true false false) := by
  refine returnsInHanded_of_change (C := Tryz.checked) own started (by kernel_rfl) Tryz.func4
    (ChangeSpec.witness6 (enc := enc) (C := Tryz.checked) false ⟨#[], #[.slice none 0 0, .int .i64 0], []⟩ 8 (by kernel_rfl) (by kernel_rfl) (by kernel_rfl) (by kernel_rfl)) ?_
  intro W base args ds gs before hval0 hW hcnd _
  have hval : ∀ (j : Nat) t v, Tryz.f4.params[j]? = some t → args[j]? = some v → Value.okWide Tryz.prog W .any base t v := hval0
  have hW' := hW
  obtain ⟨p, q, hA0, hV, rfl, hfz, hnd⟩ := hW
  have hA : DataW.TrodAll enc Tryz.prog W 0 (fun _ => true) true Tryz.f4.params.toList args.toList ds p := hA0
  rw [Tryz.params4] at hA hval
  obtain ⟨a0, vs0, d0, ds0, p0, q0, hargs, rfl, rfl, h0, r0⟩ := trodAll_cons hA
  obtain ⟨a1, vs1, d1, ds1, p1, q1, rfl, rfl, rfl, h1, r1⟩ := trodAll_cons r0
  obtain ⟨rfl, rfl, rfl⟩ := trodAll_nil r1
  obtain rfl : args = #[a0, a1] := by cases args; simp_all
  obtain ⟨rfl, rfl⟩ := trodVars_none hV
  have k0 := h0
  have lt0 : ∀ x ∈ p0, x.block < W.heap.size := by obtain ⟨m, hm⟩ := k0; exact DataW.trod_lt m _ _ _ hm
  have k1 := h1
  have lt1 : ∀ x ∈ p1, x.block < W.heap.size := by obtain ⟨m, hm⟩ := k1; exact DataW.trod_lt m _ _ _ hm
  have hu0 : Tryz.prog.underlying 24 = some (.slice 30) := by kernel_rfl
  obtain ⟨sa, slen, scap, rfl⟩ := okWide_slice hu0 (hval 0 24 a0 rfl rfl)
  obtain ⟨n0, hn0⟩ := h0
  obtain ⟨pa, pl, pc, hpv, hSl⟩ := open_purs hu0 (by simpa [Value.cells] using hn0)
  rw [hpv] at k0 hW' hval ⊢
  obtain ⟨n1, hn1⟩ := h1
  obtain ⟨m1, hm1⟩ := okWide_int (k := .i64) (by kernel_rfl) (hval 1 3 a1 rfl rfl)
  subst hm1
  obtain ⟨m2, hm2, hlo, hhi⟩ := open_i64At (t := 3) (v := .int .i64 m1) (by kernel_rfl) (by simpa [Value.cells] using hn1)
  cases hm2
  clear hA0 hval0
  have hwalk := (hubs_ret pl pa pc m1 hlo hhi W hSl).calls
  refine Calls.mono hwalk fun e W' ⟨v, he, hv, hE⟩ => ?_
  subst he hv
  have bel := hE.below
  exact ⟨_, rfl, _, _, _, [], _, [], hW', trodAll_mk1 (shut_bool (by kernel_rfl) _), (trodAll_cons_mk (Below.trod laidOut (by kernel_rfl) (of_decide_eq_true (by kernel_rfl)) k0 bel lt0) (trodAll_cons_mk (Below.trod laidOut (by kernel_rfl) (of_decide_eq_true (by kernel_rfl)) k1 bel lt1) trodAll_mk0)), rfl, bel.frame _, fun h => by cases h⟩

theorem over : Rows.busHubsRow.holds Tryz.pinned (OpenSpec.ofChange Rows.busHubsSpec) :=
  OpenClaim.holds_of_wide 4 Tryz.f4 rfl rfl rfl rfl rfl rfl rfl ⟨rfl, rfl, rfl, rfl, rfl⟩ rfl rfl rfl rfl rfl (by kernel_rfl) Tryz.func4 closed
    (of_decide_eq_true (by kernel_rfl)) (by unfold Func.isWrapper; first | (rw [if_pos (by decide +kernel)]; kernel_rfl) | (rw [if_neg (by decide +kernel)]; exact ⟨rfl, rfl⟩))
    (fun os started H enc _ => lifted os started H enc)

theorem proved : Rows.BusHubsSaid := over
#print axioms proved
end Go.Proofs.YtgmokaflgdmekaaGreat.busHubs
