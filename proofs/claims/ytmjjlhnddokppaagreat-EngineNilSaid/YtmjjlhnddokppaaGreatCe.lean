/-
  Closed facts that the row of EngineNil asks; printed by a program. No condition.
-/
import Derived.Test.YtmjjlhnddokppaaGreatCg
namespace Go.Proofs.YtmjjlhnddokppaaGreat.engineNil
open Go.Proofs.YtmjjlhnddokppaaGreat.V
theorem c0 : Rows.engineNilRow.wf (OpenSpec.ofChange Rows.engineNilSpec) = true := by kernel_rfl
theorem c1 : laidOutB Tryz.checked.prog = true := cg_laidOut
theorem c2 : mapsRowed Tryz.checked.prog = true := cg_mapsRowed
theorem c3 : Tryz.f4.params.all (Tryz.checked.prog.readableRec ·) = true := by kernel_rfl
theorem c4 : namedTie Tryz.checked.prog Rows.engineNilRow.named Rows.engineNilSpec.vars = true := by kernel_rfl
theorem c5 : (Rows.engineNilRow.stops == []) = true := by kernel_rfl
theorem c6 : (Tryz.checked.prog.stops == []) = true := cg_stops
theorem c7 : (Rows.engineNilRow.knobs == []) = true := by kernel_rfl
theorem c8 : (Tryz.checked.prog.stopKnobs == []) = true := cg_stopKnobs
theorem c9 : (Rows.engineNilRow.inPlace == Tryz.checked.prog.inPlace 4) = true := by kernel_rfl
theorem c10 : (Rows.engineNilRow.unfollowed == Tryz.checked.prog.unfollowed 4) = true := by kernel_rfl
theorem c11 : (Rows.engineNilRow.recurses == Tryz.checked.prog.recurses 4) = true := by kernel_rfl
theorem c12 : (Rows.engineNilRow.named == Tryz.checked.prog.varsNamed 4) = true := by kernel_rfl
theorem c13 : (Rows.engineNilRow.maps == (Tryz.f4.params.toList ++ Rows.engineNilSpec.plain.varTypes Tryz.checked.prog).any (Tryz.checked.prog.mapsRec ·)) = true := by kernel_rfl
theorem c14 : (Rows.engineNilRow.ifaces == (Tryz.f4.params.toList ++ Rows.engineNilSpec.plain.varTypes Tryz.checked.prog).any (Tryz.checked.prog.ifacesRec ·)) = true := by kernel_rfl
theorem c15 : (Rows.engineNilRow.mapsOut == Tryz.checked.prog.mapsAmong Tryz.f4.resultTypes.toList) = true := by kernel_rfl
theorem c16 : (Rows.engineNilRow.loops == (Tryz.f4.params.toList ++ Rows.engineNilSpec.plain.varTypes Tryz.checked.prog).any (Tryz.checked.prog.loopsFrom ·)) = true := by kernel_rfl
theorem c17 : (Rows.engineNilRow.wideKeys == (Tryz.f4.params.toList ++ Rows.engineNilSpec.plain.varTypes Tryz.checked.prog ++ Tryz.f4.resultTypes.toList).any (Tryz.checked.prog.wideKeysFrom ·)) = true := by kernel_rfl
theorem c18 : Rows.engineNilSpec.vars.all (Tryz.checked.prog.varReadable ·) = true := by kernel_rfl
theorem c19 : Tryz.f4.resultTypes.all (fun t => Tryz.checked.prog.readableRec t && decide (t < Tryz.checked.prog.types.size)) = true := by kernel_rfl
theorem c20 : (Rows.engineNilRow.ifacesOut == Tryz.f4.resultTypes.toList.any (Tryz.checked.prog.ifacesRec ·)) = true := by kernel_rfl
theorem c21 : (Rows.engineNilRow.loopsOut == Tryz.f4.resultTypes.toList.any (Tryz.checked.prog.loopsFrom ·)) = true := by kernel_rfl
theorem c22 : (Rows.engineNilRow.plainKeys == Tryz.checked.prog.plainKeys) = true := by kernel_rfl
theorem c23 : Rows.engineNilRow.shortTexts.isNone = true := by kernel_rfl
theorem c24 : Tryz.checked.prog.stopsHeard = true := cg_stopsHeard
theorem c25 : Tryz.checked.prog.mayEnter = true := cg_mayEnter
theorem c26 : (Rows.engineNilRow.lifted == Tryz.checked.prog.liftsFinal) = true := by kernel_rfl
theorem c27 : cMake Tryz.checked.prog Tryz.f4 Rows.engineNilRow = true := by kernel_rfl
theorem c28 : cKinds Tryz.checked.prog Tryz.f4 Rows.engineNilRow = true := by kernel_rfl
theorem c29 : (Rows.engineNilRow.pinned == Rows.engineNilRow.pinnedBy) = true := by kernel_rfl
theorem c30 : (Rows.engineNilRow.veiled == (Tryz.f4.params.toList ++ Rows.engineNilSpec.plain.varTypes Tryz.checked.prog ++ Tryz.f4.resultTypes.toList).any (Tryz.checked.prog.veiledRec ·)) = true := by kernel_rfl
theorem c31 : Rows.engineNilRow.veiledFits Tryz.checked.prog Tryz.f4.params.toList (Tryz.f4.params.toList ++ Rows.engineNilSpec.plain.varTypes Tryz.checked.prog ++ Tryz.f4.resultTypes.toList) = true := by kernel_rfl
theorem closed : joinedFacts Tryz.checked.prog 4 Tryz.f4 Rows.engineNilSpec Rows.engineNilRow = true := joinedFacts_of c0 c1 c2 c3 c4 c5 c6 c7 c8 c9 c10 c11 c12 c13 c14 c15 c16 c17 c18 c19 c20 c21 c22 c23 c24 c25 c26 c27 c28 c29 c30 c31
end Go.Proofs.YtmjjlhnddokppaaGreat.engineNil
