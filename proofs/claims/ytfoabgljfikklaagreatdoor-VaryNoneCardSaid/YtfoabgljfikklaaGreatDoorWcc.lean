/-
  THE LAW VaryNone IS TRUE: for every argument the law returns true, and the arguments read as they did. No condition.
-/
import Derived.Test.YtfoabgljfikklaaGreatDoorWby
import Derived.Test.YtfoabgljfikklaaGreatDoorWcb
import Derived.Test.YtfoabgljfikklaaGreatDoorCards
import Derived.Test.YtfoabgljfikklaaGreatDoorTie
import Derived.ProofKit
import Derived.Lay
import Derived.LaidOnce
import Derived.OpenShut
import Derived.SevenTiedAt
import Derived.Stop.Joined
set_option linter.unusedVariables false
set_option linter.unusedSimpArgs false
namespace Go.Proofs.YtfoabgljfikklaaGreatDoor.varyNone
open Go.ChangeShapes Go.WideShapes Go.ChangeAt Go.RowKit Go.Proofs.YtfoabgljfikklaaGreatDoor.V
set_option linter.unusedVariables false
theorem own : ownKnob Tryz.prog.godebug = none := by kernel_rfl
theorem laidOut : laidOutB Tryz.prog = true := cg_laidOut
abbrev lds : List (String × DataW Unit) := [("unicode/utf8.acceptRanges", Rows.laid_unicode_utf8_acceptRanges), ("unicode/utf8.first", Rows.laid_unicode_utf8_first)]
theorem open_p0 {H : Type} {enc : TypeId × Value → H} {W : World} {fuel : Nat} {cs : List Value} {x : DataW H × List MemPlace} (h : Rd enc Tryz.prog W fuel 37 cs = some x) (hl : cs.length = 15) :
    ∃ nm names at_ c, ActV W cs nm names at_ c := by
  match cs, hl with
  | c0 :: c1 :: c2 :: c3 :: c4 :: r, hl =>
    obtain ⟨_, _, _, u0, r0⟩ := trod_cell (i := 0) (o := 0) (d := .int .i64) (by kernel_rfl) h
    obtain ⟨_, _, _, u1, r1⟩ := trod_cell (i := 1) (o := 1) (d := .int .u64) (by kernel_rfl) h
    obtain ⟨_, _, _, u2, r2⟩ := trod_cell (i := 2) (o := 2) (d := .string) (by kernel_rfl) h
    obtain ⟨_, _, _, u3, r3⟩ := trod_cell (i := 3) (o := 3) (d := .slice 9) (by kernel_rfl) h
    have hfa : (fieldOf Tryz.prog 37 4).map (fun f => (f.offset, f.type, Tryz.prog.cellsOf f.type)) = some (4, 23, 1) := by kernel_rfl
    obtain ⟨ga, hga, hgea⟩ := Option.map_eq_some_iff.1 hfa
    simp only [Prod.mk.injEq] at hgea
    obtain ⟨ma, za, hza⟩ := trod_field hga h
    rw [hgea.1, hgea.2.2, hgea.2.1] at hza
    have hfo : (fieldOf Tryz.prog 37 5).map (fun f => (f.offset, f.type, Tryz.prog.cellsOf f.type)) = some (5, 35, 10) := by kernel_rfl
    obtain ⟨g, hg, hge⟩ := Option.map_eq_some_iff.1 hfo
    simp only [Prod.mk.injEq] at hge
    obtain ⟨m, z, hz⟩ := trod_field hg h
    rw [hge.1, hge.2.2, hge.2.1] at hz
    have hr : r.length = 10 := by simpa using hl
    have hz' : Rd enc Tryz.prog W m 35 r = some z := by
      have e : ((c0 :: c1 :: c2 :: c3 :: c4 :: r).drop 5).take 10 = r := by
        show r.take 10 = r
        exact List.take_of_length_le (Nat.le_of_eq hr)
      rwa [e] at hz
    have hza' : Rd enc Tryz.prog W ma 23 [c4] = some za := hza
    obtain ⟨n0, rfl⟩ := open_intAt u0 r0
    obtain ⟨n1, rfl⟩ := open_intAt u1 r1
    obtain ⟨n2, rfl⟩ := open_strAt u2 r2
    obtain ⟨na, nc, names, rfl, hN⟩ := open_strsAt u3 (by kernel_rfl) (by kernel_rfl) r3
    obtain ⟨aa, ac, at_, rfl, hA⟩ := Ky.open_attrs (by kernel_rfl) hza'
    obtain ⟨c, hc⟩ := open_cmd hz' hr
    exact ⟨n2, names, at_, c, _, _, na, nc, aa, ac, r, rfl, hc, hN, hA, rfl, rfl⟩
set_option maxRecDepth 100000 in
theorem lifted (os : Os) (started : os.Started) (H : Type) (enc : TypeId × Value → H) :
    ReturnsInHanded {} Tryz.checked os 4 .any (fun w args => (Rows.varyNoneSpec.pre enc Tryz.prog Tryz.f4 [] false w args ∧ laidMetH Tryz.prog lds w) ∧ sizedMet enc Tryz.prog Tryz.f4 (OpenSpec.ofChange Rows.varyNoneSpec) false w args)
      (Rows.varyNoneSpec.post enc Tryz.prog Tryz.f4 false true false false) := by
  refine returnsInHanded_of_change_and (C := Tryz.checked) (X := fun w _ => laidMetH Tryz.prog lds w) (fun _ _ _ hh h => h.of_heap hh) own started (by kernel_rfl) Tryz.func4
    (ChangeSpec.witness_shaped (enc := enc) (C := Tryz.checked) (os := os) (X := fun w _ => laidMetH Tryz.prog lds w) false (World.laidAll Tryz.prog os lds) #[.agg #[.int .i64 0, .int .u64 0, .string ⟨#[]⟩, .slice none 0 0, .slice none 0 0, .int .i64 0, .string ⟨#[]⟩, .slice none 0 0, .slice none 0 0, .slice none 0 0, .int .u64 0, .int .u64 0, .string ⟨#[]⟩, .string ⟨#[]⟩, .string ⟨#[]⟩]] 8 (World.laidAll_os _ _ _)
      (World.shaped_of_ZipB (by kernel_rfl) (by kernel_rfl)) (by kernel_rfl) (by kernel_rfl) (by kernel_rfl)
      (by rw [MakeChecks.laidMetH_plain _ _ _ (by kernel_rfl)]; exact laidMet_laidAll _ (by kernel_rfl) (by kernel_rfl))) ?_
  intro W base args ds gs before hval0 hW _ _ hL _
  have hval : ∀ (j : Nat) t v, Tryz.f4.params[j]? = some t → args[j]? = some v → Value.okWide Tryz.prog W .any base t v := hval0
  have hW' := hW
  obtain ⟨p, q, hA0, hV, rfl, hfz, hnd⟩ := hW
  have hA : DataW.TrodAll enc Tryz.prog W 0 (fun _ => true) true Tryz.f4.params.toList args.toList ds p := hA0
  rw [Tryz.params4] at hA hval
  obtain ⟨a0, vs0, d0, ds0, p0, q0, hargs, rfl, rfl, h0, r0⟩ := trodAll_cons hA
  obtain ⟨rfl, rfl, rfl⟩ := trodAll_nil r0
  obtain rfl : args = #[a0] := by cases args; simp_all
  obtain ⟨rfl, rfl⟩ := trodVars_none hV
  have k0 := h0
  have lt0 : ∀ x ∈ p0, x.block < W.heap.size := by obtain ⟨m, hm⟩ := k0; exact DataW.trod_lt m _ _ _ hm
  obtain ⟨f0, hf0⟩ : ∃ f, fieldOf Tryz.prog 37 0 = some f := Option.isSome_iff_exists.1 (by kernel_rfl)
  obtain ⟨cs0, rfl, hsz0, _⟩ := okWide_struct hf0 (hval 0 37 a0 rfl rfl)
  have hsz0' : cs0.size = 15 := hsz0.trans (by kernel_rfl)
  obtain ⟨n0, hn0⟩ := h0
  obtain ⟨nm, names, at_, c, hC⟩ := open_p0 hn0 (by simpa [Value.cells] using hsz0')
  clear hA0 hval0
  have hwalk := (none_ret cs0.toList nm names at_ c W hC).calls
  refine Calls.mono hwalk fun e W' ⟨v, he, hv, hE⟩ => ?_
  subst he hv
  have bel := hE.below
  exact ⟨_, rfl, _, _, _, [], _, [], hW', trodAll_mk1 (shut_bool (by kernel_rfl) _), (trodAll_cons_mk (Below.trod laidOut (by kernel_rfl) (of_decide_eq_true (by kernel_rfl)) k0 bel lt0) trodAll_mk0), rfl, bel.frame _, fun h => by cases h⟩
theorem over : Rows.varyNoneRow.holds Tryz.pinned (OpenSpec.ofChange Rows.varyNoneSpec) :=
  OpenClaim.holds_of_wide 4 Tryz.f4 rfl rfl rfl rfl rfl rfl rfl ⟨rfl, rfl, rfl, rfl, rfl⟩ rfl rfl rfl rfl rfl (by kernel_rfl) Tryz.func4 closed
    (of_decide_eq_true (by kernel_rfl)) (by unfold Func.isWrapper; first | (rw [if_pos (by decide +kernel)]; kernel_rfl) | (rw [if_neg (by decide +kernel)]; exact ⟨rfl, rfl⟩))
    (fun os started H enc _ => lifted os started H enc)
end Go.Proofs.YtfoabgljfikklaaGreatDoor.varyNone
