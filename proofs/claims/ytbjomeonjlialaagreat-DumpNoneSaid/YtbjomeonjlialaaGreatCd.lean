/-
  Closed facts that the row of DumpNone asks; printed by a program. No condition.
-/
import Derived.Test.YtbjomeonjlialaaGreatCg
namespace Go.Proofs.YtbjomeonjlialaaGreat.dumpNone
open Go.Proofs.YtbjomeonjlialaaGreat.V
theorem c0 : Rows.dumpNoneRow.wf (OpenSpec.ofChange Rows.dumpNoneSpec) = true := by kernel_rfl
theorem c1 : laidOutB Tryz.checked.prog = true := cg_laidOut
theorem c2 : mapsRowed Tryz.checked.prog = true := cg_mapsRowed
theorem c3 : Tryz.f3.params.all (Tryz.checked.prog.readableRec ·) = true := by kernel_rfl
theorem c4 : namedTie Tryz.checked.prog Rows.dumpNoneRow.named Rows.dumpNoneSpec.vars = true := by kernel_rfl
theorem c5 : (Rows.dumpNoneRow.stops == []) = true := by kernel_rfl
theorem c6 : (Tryz.checked.prog.stops == []) = true := cg_stops
theorem c7 : (Rows.dumpNoneRow.knobs == []) = true := by kernel_rfl
theorem c8 : (Tryz.checked.prog.stopKnobs == []) = true := cg_stopKnobs
theorem c9 : (Rows.dumpNoneRow.inPlace == Tryz.checked.prog.inPlace 3) = true := by kernel_rfl
theorem c10 : (Rows.dumpNoneRow.unfollowed == Tryz.checked.prog.unfollowed 3) = true := by kernel_rfl
theorem c11 : (Rows.dumpNoneRow.recurses == Tryz.checked.prog.recurses 3) = true := by kernel_rfl
theorem c12 : (Rows.dumpNoneRow.named == Tryz.checked.prog.varsNamed 3) = true := by kernel_rfl
theorem c13 : (Rows.dumpNoneRow.maps == (Tryz.f3.params.toList ++ Rows.dumpNoneSpec.plain.varTypes Tryz.checked.prog).any (Tryz.checked.prog.mapsRec ·)) = true := by kernel_rfl
theorem c14 : (Rows.dumpNoneRow.ifaces == (Tryz.f3.params.toList ++ Rows.dumpNoneSpec.plain.varTypes Tryz.checked.prog).any (Tryz.checked.prog.ifacesRec ·)) = true := by kernel_rfl
theorem c15 : (Rows.dumpNoneRow.mapsOut == Tryz.checked.prog.mapsAmong Tryz.f3.resultTypes.toList) = true := by kernel_rfl
theorem c16 : (Rows.dumpNoneRow.loops == (Tryz.f3.params.toList ++ Rows.dumpNoneSpec.plain.varTypes Tryz.checked.prog).any (Tryz.checked.prog.loopsFrom ·)) = true := by kernel_rfl
theorem c17 : (Rows.dumpNoneRow.wideKeys == (Tryz.f3.params.toList ++ Rows.dumpNoneSpec.plain.varTypes Tryz.checked.prog ++ Tryz.f3.resultTypes.toList).any (Tryz.checked.prog.wideKeysFrom ·)) = true := by kernel_rfl
theorem c18 : Rows.dumpNoneSpec.vars.all (Tryz.checked.prog.varReadable ·) = true := by kernel_rfl
theorem c19 : Tryz.f3.resultTypes.all (fun t => Tryz.checked.prog.readableRec t && decide (t < Tryz.checked.prog.types.size)) = true := by kernel_rfl
theorem c20 : (Rows.dumpNoneRow.ifacesOut == Tryz.f3.resultTypes.toList.any (Tryz.checked.prog.ifacesRec ·)) = true := by kernel_rfl
theorem c21 : (Rows.dumpNoneRow.loopsOut == Tryz.f3.resultTypes.toList.any (Tryz.checked.prog.loopsFrom ·)) = true := by kernel_rfl
theorem c22 : (Rows.dumpNoneRow.plainKeys == Tryz.checked.prog.plainKeys) = true := by kernel_rfl
theorem c23 : Rows.dumpNoneRow.shortTexts.isNone = true := by kernel_rfl
theorem c24 : Tryz.checked.prog.stopsHeard = true := cg_stopsHeard
theorem c25 : Tryz.checked.prog.mayEnter = true := cg_mayEnter
theorem c26 : (Rows.dumpNoneRow.lifted == Tryz.checked.prog.liftsFinal) = true := by kernel_rfl
theorem c27 : cMake Tryz.checked.prog Tryz.f3 Rows.dumpNoneRow = true := by kernel_rfl
theorem c28 : cKinds Tryz.checked.prog Tryz.f3 Rows.dumpNoneRow = true := by kernel_rfl
theorem c29 : (Rows.dumpNoneRow.pinned == Rows.dumpNoneRow.pinnedBy) = true := by kernel_rfl
theorem c30 : (Rows.dumpNoneRow.veiled == (Tryz.f3.params.toList ++ Rows.dumpNoneSpec.plain.varTypes Tryz.checked.prog ++ Tryz.f3.resultTypes.toList).any (Tryz.checked.prog.veiledRec ·)) = true := by kernel_rfl
theorem c31 : Rows.dumpNoneRow.veiledFits Tryz.checked.prog Tryz.f3.params.toList (Tryz.f3.params.toList ++ Rows.dumpNoneSpec.plain.varTypes Tryz.checked.prog ++ Tryz.f3.resultTypes.toList) = true := by kernel_rfl
theorem closed : joinedFacts Tryz.checked.prog 3 Tryz.f3 Rows.dumpNoneSpec Rows.dumpNoneRow = true := joinedFacts_of c0 c1 c2 c3 c4 c5 c6 c7 c8 c9 c10 c11 c12 c13 c14 c15 c16 c17 c18 c19 c20 c21 c22 c23 c24 c25 c26 c27 c28 c29 c30 c31
end Go.Proofs.YtbjomeonjlialaaGreat.dumpNone
