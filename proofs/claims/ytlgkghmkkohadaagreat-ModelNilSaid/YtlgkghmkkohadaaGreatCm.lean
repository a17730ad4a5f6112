/-
  Closed facts that the row of ModelNil asks; printed by a program. No condition.
-/
import Derived.Test.YtlgkghmkkohadaaGreatCg
namespace Go.Proofs.YtlgkghmkkohadaaGreat.modelNil
open Go.Proofs.YtlgkghmkkohadaaGreat.V
theorem c0 : Rows.modelNilRow.wf (OpenSpec.ofChange Rows.modelNilSpec) = true := by kernel_rfl
theorem c1 : laidOutB Tryz.checked.prog = true := cg_laidOut
theorem c2 : mapsRowed Tryz.checked.prog = true := cg_mapsRowed
theorem c3 : Tryz.f4.params.all (Tryz.checked.prog.readableRec ·) = true := by kernel_rfl
theorem c4 : namedTie Tryz.checked.prog Rows.modelNilRow.named Rows.modelNilSpec.vars = true := by kernel_rfl
theorem c5 : (Rows.modelNilRow.stops == []) = true := by kernel_rfl
theorem c6 : (Tryz.checked.prog.stops == []) = true := cg_stops
theorem c7 : (Rows.modelNilRow.knobs == []) = true := by kernel_rfl
theorem c8 : (Tryz.checked.prog.stopKnobs == []) = true := cg_stopKnobs
theorem c9 : (Rows.modelNilRow.inPlace == Tryz.checked.prog.inPlace 4) = true := by kernel_rfl
theorem c10 : (Rows.modelNilRow.unfollowed == Tryz.checked.prog.unfollowed 4) = true := by kernel_rfl
theorem c11 : (Rows.modelNilRow.recurses == Tryz.checked.prog.recurses 4) = true := by kernel_rfl
theorem c12 : (Rows.modelNilRow.named == Tryz.checked.prog.varsNamed 4) = true := by kernel_rfl
theorem c13 : (Rows.modelNilRow.maps == (Tryz.f4.params.toList ++ Rows.modelNilSpec.plain.varTypes Tryz.checked.prog).any (Tryz.checked.prog.mapsRec ·)) = true := by kernel_rfl
theorem c14 : (Rows.modelNilRow.ifaces == (Tryz.f4.params.toList ++ Rows.modelNilSpec.plain.varTypes Tryz.checked.prog).any (Tryz.checked.prog.ifacesRec ·)) = true := by kernel_rfl
theorem c15 : (Rows.modelNilRow.mapsOut == Tryz.checked.prog.mapsAmong Tryz.f4.resultTypes.toList) = true := by kernel_rfl
theorem c16 : (Rows.modelNilRow.loops == (Tryz.f4.params.toList ++ Rows.modelNilSpec.plain.varTypes Tryz.checked.prog).any (Tryz.checked.prog.loopsFrom ·)) = true := by kernel_rfl
theorem c17 : (Rows.modelNilRow.wideKeys == (Tryz.f4.params.toList ++ Rows.modelNilSpec.plain.varTypes Tryz.checked.prog ++ Tryz.f4.resultTypes.toList).any (Tryz.checked.prog.wideKeysFrom ·)) = true := by kernel_rfl
theorem c18 : Rows.modelNilSpec.vars.all (Tryz.checked.prog.varReadable ·) = true := by kernel_rfl
theorem c19 : Tryz.f4.resultTypes.all (fun t => Tryz.checked.prog.readableRec t && decide (t < Tryz.checked.prog.types.size)) = true := by kernel_rfl
theorem c20 : (Rows.modelNilRow.ifacesOut == Tryz.f4.resultTypes.toList.any (Tryz.checked.prog.ifacesRec ·)) = true := by kernel_rfl
theorem c21 : (Rows.modelNilRow.loopsOut == Tryz.f4.resultTypes.toList.any (Tryz.checked.prog.loopsFrom ·)) = true := by kernel_rfl
theorem c22 : (Rows.modelNilRow.plainKeys == Tryz.checked.prog.plainKeys) = true := by kernel_rfl
theorem c23 : Rows.modelNilRow.shortTexts.isNone = true := by kernel_rfl
theorem c24 : Tryz.checked.prog.stopsHeard = true := cg_stopsHeard
theorem c25 : Tryz.checked.prog.mayEnter = true := cg_mayEnter
theorem c26 : (Rows.modelNilRow.lifted == Tryz.checked.prog.liftsFinal) = true := by kernel_rfl
theorem c27 : cMake Tryz.checked.prog Tryz.f4 Rows.modelNilRow = true := by kernel_rfl
theorem c28 : cKinds Tryz.checked.prog Tryz.f4 Rows.modelNilRow = true := by kernel_rfl
theorem c29 : (Rows.modelNilRow.pinned == Rows.modelNilRow.pinnedBy) = true := by kernel_rfl
theorem c30 : (Rows.modelNilRow.veiled == (Tryz.f4.params.toList ++ Rows.modelNilSpec.plain.varTypes Tryz.checked.prog ++ Tryz.f4.resultTypes.toList).any (Tryz.checked.prog.veiledRec ·)) = true := by kernel_rfl
theorem c31 : Rows.modelNilRow.veiledFits Tryz.checked.prog Tryz.f4.params.toList (Tryz.f4.params.toList ++ Rows.modelNilSpec.plain.varTypes Tryz.checked.prog ++ Tryz.f4.resultTypes.toList) = true := by kernel_rfl
theorem closed : joinedFacts Tryz.checked.prog 4 Tryz.f4 Rows.modelNilSpec Rows.modelNilRow = true := joinedFacts_of c0 c1 c2 c3 c4 c5 c6 c7 c8 c9 c10 c11 c12 c13 c14 c15 c16 c17 c18 c19 c20 c21 c22 c23 c24 c25 c26 c27 c28 c29 c30 c31
end Go.Proofs.YtlgkghmkkohadaaGreat.modelNil
