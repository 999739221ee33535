/- A part of the proof. -/
import Derived.Test.YthkcicilmhpfjaaGreatDoorDp8

/- Closed facts of the row of DepotNone, one by one. -/
namespace Go.Proofs.YthkcicilmhpfjaaGreatDoor.lawDepotNone
theorem c1 : (Rows.depotNoneRow.wf (OpenSpec.ofChange Rows.depotNoneSpec)) = true := by kernel_rfl
theorem c4 : (Tryz.f5.params.all (Tryz.prog.readableRec ·)) = true := by kernel_rfl
theorem c5 : (namedTie Tryz.prog Rows.depotNoneRow.named Rows.depotNoneSpec.vars) = true := by kernel_rfl
theorem c6 : ((Rows.depotNoneRow.stops == [])) = true := by kernel_rfl
theorem c8 : ((Rows.depotNoneRow.knobs == [])) = true := by kernel_rfl
theorem c10 : (Rows.depotNoneRow.inPlace == Tryz.prog.inPlace 5) = true := by unfold Program.inPlace; rw [clo5_is]; kernel_rfl
theorem c11 : (Rows.depotNoneRow.unfollowed == Tryz.prog.unfollowed 5) = true := by unfold Program.unfollowed; rw [clo5_is]; kernel_rfl
theorem unf : Tryz.prog.unfollowed 5 = true := by unfold Program.unfollowed; rw [clo5_is]; kernel_rfl
theorem c12 : (Rows.depotNoneRow.recurses == Tryz.prog.recurses 5) = true := by
  unfold Program.recurses; rw [unf]; rfl
theorem c13 : (Rows.depotNoneRow.named == Tryz.prog.varsNamed 5) = true := by unfold Program.varsNamed; rw [clo5_is]; kernel_rfl
theorem c14 : ((Rows.depotNoneRow.maps == (Tryz.f5.params.toList ++ Rows.depotNoneSpec.plain.varTypes Tryz.prog).any (Tryz.prog.mapsRec ·))) = true := by kernel_rfl
theorem c15 : ((Rows.depotNoneRow.ifaces == (Tryz.f5.params.toList ++ Rows.depotNoneSpec.plain.varTypes Tryz.prog).any (Tryz.prog.ifacesRec ·))) = true := by kernel_rfl
theorem c16 : ((Rows.depotNoneRow.mapsOut == Tryz.prog.mapsAmong Tryz.f5.resultTypes.toList)) = true := by kernel_rfl
theorem c17 : ((Rows.depotNoneRow.loops == (Tryz.f5.params.toList ++ Rows.depotNoneSpec.plain.varTypes Tryz.prog).any (Tryz.prog.loopsFrom ·))) = true := by kernel_rfl
theorem c18 : ((Rows.depotNoneRow.wideKeys == (Tryz.f5.params.toList ++ Rows.depotNoneSpec.plain.varTypes Tryz.prog ++ Tryz.f5.resultTypes.toList).any (Tryz.prog.wideKeysFrom ·))) = true := by kernel_rfl
theorem c19 : (Rows.depotNoneSpec.vars.all (Tryz.prog.varReadable ·)) = true := by kernel_rfl
theorem c20 : (Tryz.f5.resultTypes.all (fun t => Tryz.prog.readableRec t && decide (t < Tryz.prog.types.size))) = true := by kernel_rfl
theorem c21 : ((Rows.depotNoneRow.ifacesOut == Tryz.f5.resultTypes.toList.any (Tryz.prog.ifacesRec ·))) = true := by kernel_rfl
theorem c22 : ((Rows.depotNoneRow.loopsOut == Tryz.f5.resultTypes.toList.any (Tryz.prog.loopsFrom ·))) = true := by kernel_rfl
theorem c23 : ((Rows.depotNoneRow.plainKeys == Tryz.prog.plainKeys)) = true := by kernel_rfl
theorem c24 : (Rows.depotNoneRow.shortTexts.isNone) = true := by kernel_rfl
theorem c27 : ((Rows.depotNoneRow.lifted == Tryz.prog.liftsFinal)) = true := by kernel_rfl
theorem c28 : ((Tryz.prog.make == some Rows.depotNoneRow.make)) = true := by kernel_rfl
theorem c30 : ((Rows.depotNoneRow.pinned == Rows.depotNoneRow.pinnedBy)) = true := by kernel_rfl
theorem c31 : ((Rows.depotNoneRow.veiled == (Tryz.f5.params.toList ++ Rows.depotNoneSpec.plain.varTypes Tryz.prog ++ Tryz.f5.resultTypes.toList).any (Tryz.prog.veiledRec ·))) = true := by kernel_rfl
theorem c32 : (Rows.depotNoneRow.veiledFits Tryz.prog Tryz.f5.params.toList (Tryz.f5.params.toList ++ Rows.depotNoneSpec.plain.varTypes Tryz.prog ++ Tryz.f5.resultTypes.toList)) = true := by kernel_rfl
theorem closed : joinedFacts Tryz.prog 5 Tryz.f5 Rows.depotNoneSpec Rows.depotNoneRow = true := by
  unfold joinedFacts
  refine (band (band (band (band (band (band (band (band (band (band (band (band (band (band (band (band (band (band (band (band (band (band (band (band (band (band (band (band (band (band (band c1 fac2) fac3) c4) c5) c6) fac7) c8) fac9) c10) c11) c12) c13) c14) c15) c16) c17) c18) c19) c20) c21) c22) c23) c24) fac25) fac26) c27) c28) ?_) c30) c31) c32)
  kernel_rfl
theorem named : Tryz.prog.funcNamed Rows.depotNoneRow.func = some 5 := by kernel_rfl
end Go.Proofs.YthkcicilmhpfjaaGreatDoor.lawDepotNone

