/- A part of the proof. -/
import Derived.Test.YthknocapablpaaaGreatDoorAh47
/- Closed facts of the row of IngestAgain, one by one. -/
namespace Go.Proofs.YthknocapablpaaaGreatDoor.lawIngestAgain
theorem c1 : (Rows.ingestAgainRow.wf (OpenSpec.ofChange Rows.ingestAgainSpec)) = true := by kernel_rfl
theorem c4 : (Tryz.f4.params.all (Tryz.prog.readableRec ·)) = true := by kernel_rfl
theorem c5 : (namedTie Tryz.prog Rows.ingestAgainRow.named Rows.ingestAgainSpec.vars) = true := by kernel_rfl
theorem c6 : ((Rows.ingestAgainRow.stops == [])) = true := by kernel_rfl
theorem c8 : ((Rows.ingestAgainRow.knobs == [])) = true := by kernel_rfl
theorem c10 : (Rows.ingestAgainRow.inPlace == Tryz.prog.inPlace 4) = true := by unfold Program.inPlace; rw [clo4_is]; kernel_rfl
theorem c11 : (Rows.ingestAgainRow.unfollowed == Tryz.prog.unfollowed 4) = true := by unfold Program.unfollowed; rw [clo4_is]; kernel_rfl
theorem unf : Tryz.prog.unfollowed 4 = true := by unfold Program.unfollowed; rw [clo4_is]; kernel_rfl
theorem c12 : (Rows.ingestAgainRow.recurses == Tryz.prog.recurses 4) = true := by
 unfold Program.recurses; rw [unf]; rfl
theorem c13 : (Rows.ingestAgainRow.named == Tryz.prog.varsNamed 4) = true := by unfold Program.varsNamed; rw [clo4_is]; kernel_rfl
theorem c14 : ((Rows.ingestAgainRow.maps == (Tryz.f4.params.toList ++ Rows.ingestAgainSpec.plain.varTypes Tryz.prog).any (Tryz.prog.mapsRec ·))) = true := by kernel_rfl
theorem c15 : ((Rows.ingestAgainRow.ifaces == (Tryz.f4.params.toList ++ Rows.ingestAgainSpec.plain.varTypes Tryz.prog).any (Tryz.prog.ifacesRec ·))) = true := by kernel_rfl
theorem c16 : ((Rows.ingestAgainRow.mapsOut == Tryz.prog.mapsAmong Tryz.f4.resultTypes.toList)) = true := by kernel_rfl
theorem c17 : ((Rows.ingestAgainRow.loops == (Tryz.f4.params.toList ++ Rows.ingestAgainSpec.plain.varTypes Tryz.prog).any (Tryz.prog.loopsFrom ·))) = true := by kernel_rfl
theorem c18 : ((Rows.ingestAgainRow.wideKeys == (Tryz.f4.params.toList ++ Rows.ingestAgainSpec.plain.varTypes Tryz.prog ++ Tryz.f4.resultTypes.toList).any (Tryz.prog.wideKeysFrom ·))) = true := by kernel_rfl
theorem c19 : (Rows.ingestAgainSpec.vars.all (Tryz.prog.varReadable ·)) = true := by kernel_rfl
theorem c20 : (Tryz.f4.resultTypes.all (fun t => Tryz.prog.readableRec t && decide (t < Tryz.prog.types.size))) = true := by kernel_rfl
theorem c21 : ((Rows.ingestAgainRow.ifacesOut == Tryz.f4.resultTypes.toList.any (Tryz.prog.ifacesRec ·))) = true := by kernel_rfl
theorem c22 : ((Rows.ingestAgainRow.loopsOut == Tryz.f4.resultTypes.toList.any (Tryz.prog.loopsFrom ·))) = true := by kernel_rfl
theorem c23 : ((Rows.ingestAgainRow.plainKeys == Tryz.prog.plainKeys)) = true := by kernel_rfl
theorem c24 : (Rows.ingestAgainRow.shortTexts.isNone) = true := by kernel_rfl
theorem c27 : ((Rows.ingestAgainRow.lifted == Tryz.prog.liftsFinal)) = true := by kernel_rfl
theorem c28 : ((Tryz.prog.make == some Rows.ingestAgainRow.make)) = true := by kernel_rfl
theorem c30 : ((Rows.ingestAgainRow.pinned == Rows.ingestAgainRow.pinnedBy)) = true := by kernel_rfl
theorem c31 : ((Rows.ingestAgainRow.veiled == (Tryz.f4.params.toList ++ Rows.ingestAgainSpec.plain.varTypes Tryz.prog ++ Tryz.f4.resultTypes.toList).any (Tryz.prog.veiledRec ·))) = true := by kernel_rfl
theorem c32 : (Rows.ingestAgainRow.veiledFits Tryz.prog Tryz.f4.params.toList (Tryz.f4.params.toList ++ Rows.ingestAgainSpec.plain.varTypes Tryz.prog ++ Tryz.f4.resultTypes.toList)) = true := by kernel_rfl
theorem closed : joinedFacts Tryz.prog 4 Tryz.f4 Rows.ingestAgainSpec Rows.ingestAgainRow = true := by
 unfold joinedFacts
 refine (band (band (band (band (band (band (band (band (band (band (band (band (band (band (band (band (band (band (band (band (band (band (band (band (band (band (band (band (band (band (band c1 fac2) fac3) c4) c5) c6) fac7) c8) fac9) c10) c11) c12) c13) c14) c15) c16) c17) c18) c19) c20) c21) c22) c23) c24) fac25) fac26) c27) c28) ?_) c30) c31) c32)
 kernel_rfl
theorem named : Tryz.prog.funcNamed Rows.ingestAgainRow.func = some 4 := by kernel_rfl
end Go.Proofs.YthknocapablpaaaGreatDoor.lawIngestAgain
