/-
  THE LAW VaryNone IS TRUE, as a card: for every argument the law returns true, and the arguments read as they did; what the listed variables hold is tied to the program's text. No condition.
-/
import Derived.Test.YtfoabgljfikklaaGreatDoorWcc
set_option linter.unusedVariables false
set_option linter.unusedSimpArgs false
namespace Go.Proofs.YtfoabgljfikklaaGreatDoor.varyNone
open Go
theorem card_wf : Rows.varyNoneRow.wfByText (OpenSpec.ofChange Rows.varyNoneSpec) = true := by kernel_rfl
theorem card_main : Tryz.prog.mainIs = some (Rows.varyNoneCard.stood.harness.1, Rows.varyNoneCard.stood.harness.2.toList) := by kernel_rfl
theorem card_looks : true = Tryz.prog.looks [] := by kernel_rfl
theorem card_nogo : Tryz.prog.funcs.any Func.goes = false := by kernel_rfl
theorem goes_none {P : Program} (h : P.funcs.any Func.goes = false) (f : FuncId) : P.goes f = false := by
  unfold Program.goes
  rw [h, Bool.and_false, Bool.or_false, List.any_eq_false]
  intro g _
  cases hg : P.funcs[g]? with
  | none => simp
  | some fn =>
    have := Array.any_eq_false'.1 h fn (Array.mem_of_getElem? hg)
    simpa using this
theorem card_named : Tryz.prog.funcNamed "tagcache/tagcachelaw44.VaryNone" = some 4 := by kernel_rfl
theorem card_goes : false = Rows.varyNoneRow.goesBy Tryz.prog := by
  show false = ((Tryz.prog.funcNamed "tagcache/tagcachelaw44.VaryNone").any Tryz.prog.goes || false)
  rw [card_named, Option.any_some, goes_none card_nogo]
  rfl
theorem card_stand : ([37].all fun u => !Tryz.prog.wantsStandIn u) = true := by kernel_rfl
theorem proved : Rows.VaryNoneCardSaid :=
  Claim7.holds_tied_plain_at (c := Rows.varyNoneRow) .later [] [.data, .pinned] true _ true
    over (fun _ h => by cases h) card_wf (fun _ h => by cases h) varyNone_row_tie rfl ⟨rfl, rfl⟩ card_main rfl
    (fun f fn hf hfn => by
      obtain rfl : f = 4 := Option.some.inj (card_named.symm.trans hf) |>.symm
      obtain rfl : fn = Tryz.f4 := (Option.some.inj (Tryz.func4.symm.trans hfn)).symm
      exact ⟨card_looks, fun j t ht => by
        rw [Tryz.params4] at ht
        have hm : t ∈ [37] := by simpa using Array.mem_of_getElem? ht
        exact (show Tryz.prog.wantsStandIn t = false by simpa using List.all_eq_true.1 card_stand t hm)⟩)
    card_goes
end Go.Proofs.YtfoabgljfikklaaGreatDoor.varyNone
