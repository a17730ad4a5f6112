/-
  Closed facts that the row of VaryKeys asks; printed by a program. No condition.
-/
import Derived.Test.YtfoabgljfikklaaGreatDoorYca
set_option linter.unusedVariables false
set_option linter.unusedSimpArgs false
namespace Go.Proofs.YtfoabgljfikklaaGreatDoor.varyKeys
open Go.Proofs.YtfoabgljfikklaaGreatDoor.V
theorem c0 : Rows.varyKeysRow.wf (OpenSpec.ofChange Rows.varyKeysSpec) = true := by kernel_rfl
theorem c1 : laidOutB Tryz.checked.prog = true := cg_laidOut
theorem c2 : mapsRowed Tryz.checked.prog = true := cg_mapsRowed
theorem c3 : Tryz.f3.params.all (Tryz.checked.prog.readableRec ·) = true := by kernel_rfl
theorem c4 : namedTie Tryz.checked.prog Rows.varyKeysRow.named Rows.varyKeysSpec.vars = true := by kernel_rfl
theorem c5 : (Rows.varyKeysRow.stops == []) = true := by kernel_rfl
theorem c6 : (Tryz.checked.prog.stops == []) = true := cg_stops
theorem c7 : (Rows.varyKeysRow.knobs == []) = true := by kernel_rfl
theorem c8 : (Tryz.checked.prog.stopKnobs == []) = true := cg_stopKnobs
theorem c9 : (Rows.varyKeysRow.inPlace == Tryz.checked.prog.inPlace 3) = true := by kernel_rfl
theorem c10 : (Rows.varyKeysRow.unfollowed == Tryz.checked.prog.unfollowed 3) = true := by kernel_rfl
theorem c11 : (Rows.varyKeysRow.recurses == Tryz.checked.prog.recurses 3) = true := by kernel_rfl
theorem c12 : (Rows.varyKeysRow.named == Tryz.checked.prog.varsNamed 3) = true := by kernel_rfl
theorem c13 : (Rows.varyKeysRow.maps == (Tryz.f3.params.toList ++ Rows.varyKeysSpec.plain.varTypes Tryz.checked.prog).any (Tryz.checked.prog.mapsRec ·)) = true := by kernel_rfl
theorem c14 : (Rows.varyKeysRow.ifaces == (Tryz.f3.params.toList ++ Rows.varyKeysSpec.plain.varTypes Tryz.checked.prog).any (Tryz.checked.prog.ifacesRec ·)) = true := by kernel_rfl
theorem c15 : (Rows.varyKeysRow.mapsOut == Tryz.checked.prog.mapsAmong Tryz.f3.resultTypes.toList) = true := by kernel_rfl
theorem c16 : (Rows.varyKeysRow.loops == (Tryz.f3.params.toList ++ Rows.varyKeysSpec.plain.varTypes Tryz.checked.prog).any (Tryz.checked.prog.loopsFrom ·)) = true := by kernel_rfl
theorem c17 : (Rows.varyKeysRow.wideKeys == (Tryz.f3.params.toList ++ Rows.varyKeysSpec.plain.varTypes Tryz.checked.prog ++ Tryz.f3.resultTypes.toList).any (Tryz.checked.prog.wideKeysFrom ·)) = true := by kernel_rfl
theorem c18 : Rows.varyKeysSpec.vars.all (Tryz.checked.prog.varReadable ·) = true := by kernel_rfl
theorem c19 : Tryz.f3.resultTypes.all (fun t => Tryz.checked.prog.readableRec t && decide (t < Tryz.checked.prog.types.size)) = true := by kernel_rfl
theorem c20 : (Rows.varyKeysRow.ifacesOut == Tryz.f3.resultTypes.toList.any (Tryz.checked.prog.ifacesRec ·)) = true := by kernel_rfl
theorem c21 : (Rows.varyKeysRow.loopsOut == Tryz.f3.resultTypes.toList.any (Tryz.checked.prog.loopsFrom ·)) = true := by kernel_rfl
theorem c22 : (Rows.varyKeysRow.plainKeys == Tryz.checked.prog.plainKeys) = true := by kernel_rfl
theorem c23 : Rows.varyKeysRow.shortTexts.isNone = true := by kernel_rfl
theorem c24 : Tryz.checked.prog.stopsHeard = true := cg_stopsHeard
theorem c25 : Tryz.checked.prog.mayEnter = true := cg_mayEnter
theorem c26 : (Rows.varyKeysRow.lifted == Tryz.checked.prog.liftsFinal) = true := by kernel_rfl
theorem c27 : cMake Tryz.checked.prog Tryz.f3 Rows.varyKeysRow = true := by kernel_rfl
theorem c28 : cKinds Tryz.checked.prog Tryz.f3 Rows.varyKeysRow = true := by kernel_rfl
theorem c29 : (Rows.varyKeysRow.pinned == Rows.varyKeysRow.pinnedBy) = true := by kernel_rfl
theorem c30 : (Rows.varyKeysRow.veiled == (Tryz.f3.params.toList ++ Rows.varyKeysSpec.plain.varTypes Tryz.checked.prog ++ Tryz.f3.resultTypes.toList).any (Tryz.checked.prog.veiledRec ·)) = true := by kernel_rfl
theorem c31 : Rows.varyKeysRow.veiledFits Tryz.checked.prog Tryz.f3.params.toList (Tryz.f3.params.toList ++ Rows.varyKeysSpec.plain.varTypes Tryz.checked.prog ++ Tryz.f3.resultTypes.toList) = true := by kernel_rfl
theorem closed : joinedFacts Tryz.checked.prog 3 Tryz.f3 Rows.varyKeysSpec Rows.varyKeysRow = true := joinedFacts_of c0 c1 c2 c3 c4 c5 c6 c7 c8 c9 c10 c11 c12 c13 c14 c15 c16 c17 c18 c19 c20 c21 c22 c23 c24 c25 c26 c27 c28 c29 c30 c31
end Go.Proofs.YtfoabgljfikklaaGreatDoor.varyKeys
