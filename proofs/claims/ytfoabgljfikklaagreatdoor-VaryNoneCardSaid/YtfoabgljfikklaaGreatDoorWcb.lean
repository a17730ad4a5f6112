/-
  Closed facts that the row of VaryNone asks; printed by a program. No condition.
-/
import Derived.Test.YtfoabgljfikklaaGreatDoorWca
set_option linter.unusedVariables false
set_option linter.unusedSimpArgs false
namespace Go.Proofs.YtfoabgljfikklaaGreatDoor.varyNone
open Go.Proofs.YtfoabgljfikklaaGreatDoor.V
theorem c0 : Rows.varyNoneRow.wf (OpenSpec.ofChange Rows.varyNoneSpec) = true := by kernel_rfl
theorem c1 : laidOutB Tryz.checked.prog = true := cg_laidOut
theorem c2 : mapsRowed Tryz.checked.prog = true := cg_mapsRowed
theorem c3 : Tryz.f4.params.all (Tryz.checked.prog.readableRec ·) = true := by kernel_rfl
theorem c4 : namedTie Tryz.checked.prog Rows.varyNoneRow.named Rows.varyNoneSpec.vars = true := by kernel_rfl
theorem c5 : (Rows.varyNoneRow.stops == []) = true := by kernel_rfl
theorem c6 : (Tryz.checked.prog.stops == []) = true := cg_stops
theorem c7 : (Rows.varyNoneRow.knobs == []) = true := by kernel_rfl
theorem c8 : (Tryz.checked.prog.stopKnobs == []) = true := cg_stopKnobs
theorem c9 : (Rows.varyNoneRow.inPlace == Tryz.checked.prog.inPlace 4) = true := by kernel_rfl
theorem c10 : (Rows.varyNoneRow.unfollowed == Tryz.checked.prog.unfollowed 4) = true := by kernel_rfl
theorem c11 : (Rows.varyNoneRow.recurses == Tryz.checked.prog.recurses 4) = true := by kernel_rfl
theorem c12 : (Rows.varyNoneRow.named == Tryz.checked.prog.varsNamed 4) = true := by kernel_rfl
theorem c13 : (Rows.varyNoneRow.maps == (Tryz.f4.params.toList ++ Rows.varyNoneSpec.plain.varTypes Tryz.checked.prog).any (Tryz.checked.prog.mapsRec ·)) = true := by kernel_rfl
theorem c14 : (Rows.varyNoneRow.ifaces == (Tryz.f4.params.toList ++ Rows.varyNoneSpec.plain.varTypes Tryz.checked.prog).any (Tryz.checked.prog.ifacesRec ·)) = true := by kernel_rfl
theorem c15 : (Rows.varyNoneRow.mapsOut == Tryz.checked.prog.mapsAmong Tryz.f4.resultTypes.toList) = true := by kernel_rfl
theorem c16 : (Rows.varyNoneRow.loops == (Tryz.f4.params.toList ++ Rows.varyNoneSpec.plain.varTypes Tryz.checked.prog).any (Tryz.checked.prog.loopsFrom ·)) = true := by kernel_rfl
theorem c17 : (Rows.varyNoneRow.wideKeys == (Tryz.f4.params.toList ++ Rows.varyNoneSpec.plain.varTypes Tryz.checked.prog ++ Tryz.f4.resultTypes.toList).any (Tryz.checked.prog.wideKeysFrom ·)) = true := by kernel_rfl
theorem c18 : Rows.varyNoneSpec.vars.all (Tryz.checked.prog.varReadable ·) = true := by kernel_rfl
theorem c19 : Tryz.f4.resultTypes.all (fun t => Tryz.checked.prog.readableRec t && decide (t < Tryz.checked.prog.types.size)) = true := by kernel_rfl
theorem c20 : (Rows.varyNoneRow.ifacesOut == Tryz.f4.resultTypes.toList.any (Tryz.checked.prog.ifacesRec ·)) = true := by kernel_rfl
theorem c21 : (Rows.varyNoneRow.loopsOut == Tryz.f4.resultTypes.toList.any (Tryz.checked.prog.loopsFrom ·)) = true := by kernel_rfl
theorem c22 : (Rows.varyNoneRow.plainKeys == Tryz.checked.prog.plainKeys) = true := by kernel_rfl
theorem c23 : Rows.varyNoneRow.shortTexts.isNone = true := by kernel_rfl
theorem c24 : Tryz.checked.prog.stopsHeard = true := cg_stopsHeard
theorem c25 : Tryz.checked.prog.mayEnter = true := cg_mayEnter
theorem c26 : (Rows.varyNoneRow.lifted == Tryz.checked.prog.liftsFinal) = true := by kernel_rfl
theorem c27 : cMake Tryz.checked.prog Tryz.f4 Rows.varyNoneRow = true := by kernel_rfl
theorem c28 : cKinds Tryz.checked.prog Tryz.f4 Rows.varyNoneRow = true := by kernel_rfl
theorem c29 : (Rows.varyNoneRow.pinned == Rows.varyNoneRow.pinnedBy) = true := by kernel_rfl
theorem c30 : (Rows.varyNoneRow.veiled == (Tryz.f4.params.toList ++ Rows.varyNoneSpec.plain.varTypes Tryz.checked.prog ++ Tryz.f4.resultTypes.toList).any (Tryz.checked.prog.veiledRec ·)) = true := by kernel_rfl
theorem c31 : Rows.varyNoneRow.veiledFits Tryz.checked.prog Tryz.f4.params.toList (Tryz.f4.params.toList ++ Rows.varyNoneSpec.plain.varTypes Tryz.checked.prog ++ Tryz.f4.resultTypes.toList) = true := by kernel_rfl
theorem closed : joinedFacts Tryz.checked.prog 4 Tryz.f4 Rows.varyNoneSpec Rows.varyNoneRow = true := joinedFacts_of c0 c1 c2 c3 c4 c5 c6 c7 c8 c9 c10 c11 c12 c13 c14 c15 c16 c17 c18 c19 c20 c21 c22 c23 c24 c25 c26 c27 c28 c29 c30 c31
end Go.Proofs.YtfoabgljfikklaaGreatDoor.varyNone
