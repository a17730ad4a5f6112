/-
  Closed facts that the row of EngineNew asks; printed by a program. No condition.
-/
import Derived.Test.YtmjjlhnddokppaaGreatCg
namespace Go.Proofs.YtmjjlhnddokppaaGreat.engineNew
open Go.Proofs.YtmjjlhnddokppaaGreat.V
theorem c0 : Rows.engineNewRow.wf (OpenSpec.ofChange Rows.engineNewSpec) = true := by kernel_rfl
theorem c1 : laidOutB Tryz.checked.prog = true := cg_laidOut
theorem c2 : mapsRowed Tryz.checked.prog = true := cg_mapsRowed
theorem c3 : Tryz.f3.params.all (Tryz.checked.prog.readableRec ·) = true := by kernel_rfl
theorem c4 : namedTie Tryz.checked.prog Rows.engineNewRow.named Rows.engineNewSpec.vars = true := by kernel_rfl
theorem c5 : (Rows.engineNewRow.stops == []) = true := by kernel_rfl
theorem c6 : (Tryz.checked.prog.stops == []) = true := cg_stops
theorem c7 : (Rows.engineNewRow.knobs == []) = true := by kernel_rfl
theorem c8 : (Tryz.checked.prog.stopKnobs == []) = true := cg_stopKnobs
theorem c9 : (Rows.engineNewRow.inPlace == Tryz.checked.prog.inPlace 3) = true := by kernel_rfl
theorem c10 : (Rows.engineNewRow.unfollowed == Tryz.checked.prog.unfollowed 3) = true := by kernel_rfl
theorem c11 : (Rows.engineNewRow.recurses == Tryz.checked.prog.recurses 3) = true := by kernel_rfl
theorem c12 : (Rows.engineNewRow.named == Tryz.checked.prog.varsNamed 3) = true := by kernel_rfl
theorem c13 : (Rows.engineNewRow.maps == (Tryz.f3.params.toList ++ Rows.engineNewSpec.plain.varTypes Tryz.checked.prog).any (Tryz.checked.prog.mapsRec ·)) = true := by kernel_rfl
theorem c14 : (Rows.engineNewRow.ifaces == (Tryz.f3.params.toList ++ Rows.engineNewSpec.plain.varTypes Tryz.checked.prog).any (Tryz.checked.prog.ifacesRec ·)) = true := by kernel_rfl
theorem c15 : (Rows.engineNewRow.mapsOut == Tryz.checked.prog.mapsAmong Tryz.f3.resultTypes.toList) = true := by kernel_rfl
theorem c16 : (Rows.engineNewRow.loops == (Tryz.f3.params.toList ++ Rows.engineNewSpec.plain.varTypes Tryz.checked.prog).any (Tryz.checked.prog.loopsFrom ·)) = true := by kernel_rfl
theorem c17 : (Rows.engineNewRow.wideKeys == (Tryz.f3.params.toList ++ Rows.engineNewSpec.plain.varTypes Tryz.checked.prog ++ Tryz.f3.resultTypes.toList).any (Tryz.checked.prog.wideKeysFrom ·)) = true := by kernel_rfl
theorem c18 : Rows.engineNewSpec.vars.all (Tryz.checked.prog.varReadable ·) = true := by kernel_rfl
theorem c19 : Tryz.f3.resultTypes.all (fun t => Tryz.checked.prog.readableRec t && decide (t < Tryz.checked.prog.types.size)) = true := by kernel_rfl
theorem c20 : (Rows.engineNewRow.ifacesOut == Tryz.f3.resultTypes.toList.any (Tryz.checked.prog.ifacesRec ·)) = true := by kernel_rfl
theorem c21 : (Rows.engineNewRow.loopsOut == Tryz.f3.resultTypes.toList.any (Tryz.checked.prog.loopsFrom ·)) = true := by kernel_rfl
theorem c22 : (Rows.engineNewRow.plainKeys == Tryz.checked.prog.plainKeys) = true := by kernel_rfl
theorem c23 : Rows.engineNewRow.shortTexts.isNone = true := by kernel_rfl
theorem c24 : Tryz.checked.prog.stopsHeard = true := cg_stopsHeard
theorem c25 : Tryz.checked.prog.mayEnter = true := cg_mayEnter
theorem c26 : (Rows.engineNewRow.lifted == Tryz.checked.prog.liftsFinal) = true := by kernel_rfl
theorem c27 : cMake Tryz.checked.prog Tryz.f3 Rows.engineNewRow = true := by kernel_rfl
theorem c28 : cKinds Tryz.checked.prog Tryz.f3 Rows.engineNewRow = true := by kernel_rfl
theorem c29 : (Rows.engineNewRow.pinned == Rows.engineNewRow.pinnedBy) = true := by kernel_rfl
theorem c30 : (Rows.engineNewRow.veiled == (Tryz.f3.params.toList ++ Rows.engineNewSpec.plain.varTypes Tryz.checked.prog ++ Tryz.f3.resultTypes.toList).any (Tryz.checked.prog.veiledRec ·)) = true := by kernel_rfl
theorem c31 : Rows.engineNewRow.veiledFits Tryz.checked.prog Tryz.f3.params.toList (Tryz.f3.params.toList ++ Rows.engineNewSpec.plain.varTypes Tryz.checked.prog ++ Tryz.f3.resultTypes.toList) = true := by kernel_rfl
theorem closed : joinedFacts Tryz.checked.prog 3 Tryz.f3 Rows.engineNewSpec Rows.engineNewRow = true := joinedFacts_of c0 c1 c2 c3 c4 c5 c6 c7 c8 c9 c10 c11 c12 c13 c14 c15 c16 c17 c18 c19 c20 c21 c22 c23 c24 c25 c26 c27 c28 c29 c30 c31
end Go.Proofs.YtmjjlhnddokppaaGreat.engineNew
