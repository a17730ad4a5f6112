/-
  Closed facts that the row of CoalesceNone asks; printed by a program. No condition.
-/
import Derived.Test.YtmjjlhnddokppaaGreatCg
namespace Go.Proofs.YtmjjlhnddokppaaGreat.coalesceNone
open Go.Proofs.YtmjjlhnddokppaaGreat.V
theorem c0 : Rows.coalesceNoneRow.wf (OpenSpec.ofChange Rows.coalesceNoneSpec) = true := by kernel_rfl
theorem c1 : laidOutB Tryz.checked.prog = true := cg_laidOut
theorem c2 : mapsRowed Tryz.checked.prog = true := cg_mapsRowed
theorem c3 : Tryz.f5.params.all (Tryz.checked.prog.readableRec ·) = true := by kernel_rfl
theorem c4 : namedTie Tryz.checked.prog Rows.coalesceNoneRow.named Rows.coalesceNoneSpec.vars = true := by kernel_rfl
theorem c5 : (Rows.coalesceNoneRow.stops == []) = true := by kernel_rfl
theorem c6 : (Tryz.checked.prog.stops == []) = true := cg_stops
theorem c7 : (Rows.coalesceNoneRow.knobs == []) = true := by kernel_rfl
theorem c8 : (Tryz.checked.prog.stopKnobs == []) = true := cg_stopKnobs
theorem c9 : (Rows.coalesceNoneRow.inPlace == Tryz.checked.prog.inPlace 5) = true := by kernel_rfl
theorem c10 : (Rows.coalesceNoneRow.unfollowed == Tryz.checked.prog.unfollowed 5) = true := by kernel_rfl
theorem c11 : (Rows.coalesceNoneRow.recurses == Tryz.checked.prog.recurses 5) = true := by kernel_rfl
theorem c12 : (Rows.coalesceNoneRow.named == Tryz.checked.prog.varsNamed 5) = true := by kernel_rfl
theorem c13 : (Rows.coalesceNoneRow.maps == (Tryz.f5.params.toList ++ Rows.coalesceNoneSpec.plain.varTypes Tryz.checked.prog).any (Tryz.checked.prog.mapsRec ·)) = true := by kernel_rfl
theorem c14 : (Rows.coalesceNoneRow.ifaces == (Tryz.f5.params.toList ++ Rows.coalesceNoneSpec.plain.varTypes Tryz.checked.prog).any (Tryz.checked.prog.ifacesRec ·)) = true := by kernel_rfl
theorem c15 : (Rows.coalesceNoneRow.mapsOut == Tryz.checked.prog.mapsAmong Tryz.f5.resultTypes.toList) = true := by kernel_rfl
theorem c16 : (Rows.coalesceNoneRow.loops == (Tryz.f5.params.toList ++ Rows.coalesceNoneSpec.plain.varTypes Tryz.checked.prog).any (Tryz.checked.prog.loopsFrom ·)) = true := by kernel_rfl
theorem c17 : (Rows.coalesceNoneRow.wideKeys == (Tryz.f5.params.toList ++ Rows.coalesceNoneSpec.plain.varTypes Tryz.checked.prog ++ Tryz.f5.resultTypes.toList).any (Tryz.checked.prog.wideKeysFrom ·)) = true := by kernel_rfl
theorem c18 : Rows.coalesceNoneSpec.vars.all (Tryz.checked.prog.varReadable ·) = true := by kernel_rfl
theorem c19 : Tryz.f5.resultTypes.all (fun t => Tryz.checked.prog.readableRec t && decide (t < Tryz.checked.prog.types.size)) = true := by kernel_rfl
theorem c20 : (Rows.coalesceNoneRow.ifacesOut == Tryz.f5.resultTypes.toList.any (Tryz.checked.prog.ifacesRec ·)) = true := by kernel_rfl
theorem c21 : (Rows.coalesceNoneRow.loopsOut == Tryz.f5.resultTypes.toList.any (Tryz.checked.prog.loopsFrom ·)) = true := by kernel_rfl
theorem c22 : (Rows.coalesceNoneRow.plainKeys == Tryz.checked.prog.plainKeys) = true := by kernel_rfl
theorem c23 : Rows.coalesceNoneRow.shortTexts.isNone = true := by kernel_rfl
theorem c24 : Tryz.checked.prog.stopsHeard = true := cg_stopsHeard
theorem c25 : Tryz.checked.prog.mayEnter = true := cg_mayEnter
theorem c26 : (Rows.coalesceNoneRow.lifted == Tryz.checked.prog.liftsFinal) = true := by kernel_rfl
theorem c27 : cMake Tryz.checked.prog Tryz.f5 Rows.coalesceNoneRow = true := by kernel_rfl
theorem c28 : cKinds Tryz.checked.prog Tryz.f5 Rows.coalesceNoneRow = true := by kernel_rfl
theorem c29 : (Rows.coalesceNoneRow.pinned == Rows.coalesceNoneRow.pinnedBy) = true := by kernel_rfl
theorem c30 : (Rows.coalesceNoneRow.veiled == (Tryz.f5.params.toList ++ Rows.coalesceNoneSpec.plain.varTypes Tryz.checked.prog ++ Tryz.f5.resultTypes.toList).any (Tryz.checked.prog.veiledRec ·)) = true := by kernel_rfl
theorem c31 : Rows.coalesceNoneRow.veiledFits Tryz.checked.prog Tryz.f5.params.toList (Tryz.f5.params.toList ++ Rows.coalesceNoneSpec.plain.varTypes Tryz.checked.prog ++ Tryz.f5.resultTypes.toList) = true := by kernel_rfl
theorem closed : joinedFacts Tryz.checked.prog 5 Tryz.f5 Rows.coalesceNoneSpec Rows.coalesceNoneRow = true := joinedFacts_of c0 c1 c2 c3 c4 c5 c6 c7 c8 c9 c10 c11 c12 c13 c14 c15 c16 c17 c18 c19 c20 c21 c22 c23 c24 c25 c26 c27 c28 c29 c30 c31
end Go.Proofs.YtmjjlhnddokppaaGreat.coalesceNone
