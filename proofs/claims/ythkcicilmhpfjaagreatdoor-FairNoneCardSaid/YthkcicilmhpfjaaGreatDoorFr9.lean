/- A part of the proof. -/
import Derived.Test.YthkcicilmhpfjaaGreatDoorFr8

/- Closed facts of the row of FairNone, one by one. -/
namespace Go.Proofs.YthkcicilmhpfjaaGreatDoor.lawFairNone
theorem c1 : (Rows.fairNoneRow.wf (OpenSpec.ofChange Rows.fairNoneSpec)) = true := by kernel_rfl
theorem c4 : (Tryz.f8.params.all (Tryz.prog.readableRec ·)) = true := by kernel_rfl
theorem c5 : (namedTie Tryz.prog Rows.fairNoneRow.named Rows.fairNoneSpec.vars) = true := by kernel_rfl
theorem c6 : ((Rows.fairNoneRow.stops == [])) = true := by kernel_rfl
theorem c8 : ((Rows.fairNoneRow.knobs == [])) = true := by kernel_rfl
theorem c10 : (Rows.fairNoneRow.inPlace == Tryz.prog.inPlace 8) = true := by unfold Program.inPlace; rw [clo8_is]; kernel_rfl
theorem c11 : (Rows.fairNoneRow.unfollowed == Tryz.prog.unfollowed 8) = true := by unfold Program.unfollowed; rw [clo8_is]; kernel_rfl
theorem unf : Tryz.prog.unfollowed 8 = true := by unfold Program.unfollowed; rw [clo8_is]; kernel_rfl
theorem c12 : (Rows.fairNoneRow.recurses == Tryz.prog.recurses 8) = true := by
  unfold Program.recurses; rw [unf]; rfl
theorem c13 : (Rows.fairNoneRow.named == Tryz.prog.varsNamed 8) = true := by unfold Program.varsNamed; rw [clo8_is]; kernel_rfl
theorem c14 : ((Rows.fairNoneRow.maps == (Tryz.f8.params.toList ++ Rows.fairNoneSpec.plain.varTypes Tryz.prog).any (Tryz.prog.mapsRec ·))) = true := by kernel_rfl
theorem c15 : ((Rows.fairNoneRow.ifaces == (Tryz.f8.params.toList ++ Rows.fairNoneSpec.plain.varTypes Tryz.prog).any (Tryz.prog.ifacesRec ·))) = true := by kernel_rfl
theorem c16 : ((Rows.fairNoneRow.mapsOut == Tryz.prog.mapsAmong Tryz.f8.resultTypes.toList)) = true := by kernel_rfl
theorem c17 : ((Rows.fairNoneRow.loops == (Tryz.f8.params.toList ++ Rows.fairNoneSpec.plain.varTypes Tryz.prog).any (Tryz.prog.loopsFrom ·))) = true := by kernel_rfl
theorem c18 : ((Rows.fairNoneRow.wideKeys == (Tryz.f8.params.toList ++ Rows.fairNoneSpec.plain.varTypes Tryz.prog ++ Tryz.f8.resultTypes.toList).any (Tryz.prog.wideKeysFrom ·))) = true := by kernel_rfl
theorem c19 : (Rows.fairNoneSpec.vars.all (Tryz.prog.varReadable ·)) = true := by kernel_rfl
theorem c20 : (Tryz.f8.resultTypes.all (fun t => Tryz.prog.readableRec t && decide (t < Tryz.prog.types.size))) = true := by kernel_rfl
theorem c21 : ((Rows.fairNoneRow.ifacesOut == Tryz.f8.resultTypes.toList.any (Tryz.prog.ifacesRec ·))) = true := by kernel_rfl
theorem c22 : ((Rows.fairNoneRow.loopsOut == Tryz.f8.resultTypes.toList.any (Tryz.prog.loopsFrom ·))) = true := by kernel_rfl
theorem c23 : ((Rows.fairNoneRow.plainKeys == Tryz.prog.plainKeys)) = true := by kernel_rfl
theorem c24 : (Rows.fairNoneRow.shortTexts.isNone) = true := by kernel_rfl
theorem c27 : ((Rows.fairNoneRow.lifted == Tryz.prog.liftsFinal)) = true := by kernel_rfl
theorem c28 : ((Tryz.prog.make == some Rows.fairNoneRow.make)) = true := by kernel_rfl
theorem c30 : ((Rows.fairNoneRow.pinned == Rows.fairNoneRow.pinnedBy)) = true := by kernel_rfl
theorem c31 : ((Rows.fairNoneRow.veiled == (Tryz.f8.params.toList ++ Rows.fairNoneSpec.plain.varTypes Tryz.prog ++ Tryz.f8.resultTypes.toList).any (Tryz.prog.veiledRec ·))) = true := by kernel_rfl
theorem c32 : (Rows.fairNoneRow.veiledFits Tryz.prog Tryz.f8.params.toList (Tryz.f8.params.toList ++ Rows.fairNoneSpec.plain.varTypes Tryz.prog ++ Tryz.f8.resultTypes.toList)) = true := by kernel_rfl
theorem closed : joinedFacts Tryz.prog 8 Tryz.f8 Rows.fairNoneSpec Rows.fairNoneRow = true := by
  unfold joinedFacts
  refine (band (band (band (band (band (band (band (band (band (band (band (band (band (band (band (band (band (band (band (band (band (band (band (band (band (band (band (band (band (band (band c1 fac2) fac3) c4) c5) c6) fac7) c8) fac9) c10) c11) c12) c13) c14) c15) c16) c17) c18) c19) c20) c21) c22) c23) c24) fac25) fac26) c27) c28) ?_) c30) c31) c32)
  kernel_rfl
theorem named : Tryz.prog.funcNamed Rows.fairNoneRow.func = some 8 := by kernel_rfl
end Go.Proofs.YthkcicilmhpfjaaGreatDoor.lawFairNone

