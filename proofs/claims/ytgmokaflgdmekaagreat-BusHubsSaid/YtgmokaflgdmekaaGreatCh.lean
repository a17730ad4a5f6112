/-
  Closed facts that the row of BusHubs asks; printed by a program. No condition.
-/
import Derived.Test.YtgmokaflgdmekaaGreatCg
namespace Go.Proofs.YtgmokaflgdmekaaGreat.busHubs
open Go.Proofs.YtgmokaflgdmekaaGreat.V
theorem c0 : Rows.busHubsRow.wf (OpenSpec.ofChange Rows.busHubsSpec) = true := by kernel_rfl
theorem c1 : laidOutB Tryz.checked.prog = true := cg_laidOut
theorem c2 : mapsRowed Tryz.checked.prog = true := cg_mapsRowed
theorem c3 : Tryz.f4.params.all (Tryz.checked.prog.readableRec ·) = true := by kernel_rfl
theorem c4 : namedTie Tryz.checked.prog Rows.busHubsRow.named Rows.busHubsSpec.vars = true := by kernel_rfl
theorem c5 : (Rows.busHubsRow.stops == []) = true := by kernel_rfl
theorem c6 : (Tryz.checked.prog.stops == []) = true := cg_stops
theorem c7 : (Rows.busHubsRow.knobs == []) = true := by kernel_rfl
theorem c8 : (Tryz.checked.prog.stopKnobs == []) = true := cg_stopKnobs
theorem c9 : (Rows.busHubsRow.inPlace == Tryz.checked.prog.inPlace 4) = true := by kernel_rfl
theorem c10 : (Rows.busHubsRow.unfollowed == Tryz.checked.prog.unfollowed 4) = true := by kernel_rfl
theorem c11 : (Rows.busHubsRow.recurses == Tryz.checked.prog.recurses 4) = true := by kernel_rfl
theorem c12 : (Rows.busHubsRow.named == Tryz.checked.prog.varsNamed 4) = true := by kernel_rfl
theorem c13 : (Rows.busHubsRow.maps == (Tryz.f4.params.toList ++ Rows.busHubsSpec.plain.varTypes Tryz.checked.prog).any (Tryz.checked.prog.mapsRec ·)) = true := by kernel_rfl
theorem c14 : (Rows.busHubsRow.ifaces == (Tryz.f4.params.toList ++ Rows.busHubsSpec.plain.varTypes Tryz.checked.prog).any (Tryz.checked.prog.ifacesRec ·)) = true := by kernel_rfl
theorem c15 : (Rows.busHubsRow.mapsOut == Tryz.checked.prog.mapsAmong Tryz.f4.resultTypes.toList) = true := by kernel_rfl
theorem c16 : (Rows.busHubsRow.loops == (Tryz.f4.params.toList ++ Rows.busHubsSpec.plain.varTypes Tryz.checked.prog).any (Tryz.checked.prog.loopsFrom ·)) = true := by kernel_rfl
theorem c17 : (Rows.busHubsRow.wideKeys == (Tryz.f4.params.toList ++ Rows.busHubsSpec.plain.varTypes Tryz.checked.prog ++ Tryz.f4.resultTypes.toList).any (Tryz.checked.prog.wideKeysFrom ·)) = true := by kernel_rfl
theorem c18 : Rows.busHubsSpec.vars.all (Tryz.checked.prog.varReadable ·) = true := by kernel_rfl
theorem c19 : Tryz.f4.resultTypes.all (fun t => Tryz.checked.prog.readableRec t && decide (t < Tryz.checked.prog.types.size)) = true := by kernel_rfl
theorem c20 : (Rows.busHubsRow.ifacesOut == Tryz.f4.resultTypes.toList.any (Tryz.checked.prog.ifacesRec ·)) = true := by kernel_rfl
theorem c21 : (Rows.busHubsRow.loopsOut == Tryz.f4.resultTypes.toList.any (Tryz.checked.prog.loopsFrom ·)) = true := by kernel_rfl
theorem c22 : (Rows.busHubsRow.plainKeys == Tryz.checked.prog.plainKeys) = true := by kernel_rfl
theorem c23 : Rows.busHubsRow.shortTexts.isNone = true := by kernel_rfl
theorem c24 : Tryz.checked.prog.stopsHeard = true := cg_stopsHeard
theorem c25 : Tryz.checked.prog.mayEnter = true := cg_mayEnter
theorem c26 : (Rows.busHubsRow.lifted == Tryz.checked.prog.liftsFinal) = true := by kernel_rfl
theorem c27 : cMake Tryz.checked.prog Tryz.f4 Rows.busHubsRow = true := by kernel_rfl
theorem c28 : cKinds Tryz.checked.prog Tryz.f4 Rows.busHubsRow = true := by kernel_rfl
theorem c29 : (Rows.busHubsRow.pinned == Rows.busHubsRow.pinnedBy) = true := by kernel_rfl
theorem c30 : (Rows.busHubsRow.veiled == (Tryz.f4.params.toList ++ Rows.busHubsSpec.plain.varTypes Tryz.checked.prog ++ Tryz.f4.resultTypes.toList).any (Tryz.checked.prog.veiledRec ·)) = true := by kernel_rfl
theorem c31 : Rows.busHubsRow.veiledFits Tryz.checked.prog Tryz.f4.params.toList (Tryz.f4.params.toList ++ Rows.busHubsSpec.plain.varTypes Tryz.checked.prog ++ Tryz.f4.resultTypes.toList) = true := by kernel_rfl
theorem closed : joinedFacts Tryz.checked.prog 4 Tryz.f4 Rows.busHubsSpec Rows.busHubsRow = true := joinedFacts_of c0 c1 c2 c3 c4 c5 c6 c7 c8 c9 c10 c11 c12 c13 c14 c15 c16 c17 c18 c19 c20 c21 c22 c23 c24 c25 c26 c27 c28 c29 c30 c31
end Go.Proofs.YtgmokaflgdmekaaGreat.busHubs
