/- A part of the proof. -/
import Derived.Test.YtelhdbkkigehgaaGreatDoorZs32

/- Closed facts of the row of DeskStep, one by one. -/
namespace Go.Proofs.YtelhdbkkigehgaaGreatDoor.lawDeskStep
theorem c1 : (Rows.deskStepRow.wf (OpenSpec.ofChange Rows.deskStepSpec)) = true := by kernel_rfl
theorem c4 : (Tryz.f4.params.all (Tryz.prog.readableRec ·)) = true := by kernel_rfl
theorem c5 : (namedTie Tryz.prog Rows.deskStepRow.named Rows.deskStepSpec.vars) = true := by kernel_rfl
theorem c6 : ((Rows.deskStepRow.stops == [])) = true := by kernel_rfl
theorem c8 : ((Rows.deskStepRow.knobs == [])) = true := by kernel_rfl
theorem c10 : (Rows.deskStepRow.inPlace == Tryz.prog.inPlace 4) = true := by unfold Program.inPlace; rw [clo4_is]; kernel_rfl
theorem c11 : (Rows.deskStepRow.unfollowed == Tryz.prog.unfollowed 4) = true := by unfold Program.unfollowed; rw [clo4_is]; kernel_rfl
theorem unf : Tryz.prog.unfollowed 4 = true := by unfold Program.unfollowed; rw [clo4_is]; kernel_rfl
theorem c12 : (Rows.deskStepRow.recurses == Tryz.prog.recurses 4) = true := by
  unfold Program.recurses; rw [unf]; rfl
theorem c13 : (Rows.deskStepRow.named == Tryz.prog.varsNamed 4) = true := by unfold Program.varsNamed; rw [clo4_is]; kernel_rfl
theorem c14 : ((Rows.deskStepRow.maps == (Tryz.f4.params.toList ++ Rows.deskStepSpec.plain.varTypes Tryz.prog).any (Tryz.prog.mapsRec ·))) = true := by kernel_rfl
theorem c15 : ((Rows.deskStepRow.ifaces == (Tryz.f4.params.toList ++ Rows.deskStepSpec.plain.varTypes Tryz.prog).any (Tryz.prog.ifacesRec ·))) = true := by kernel_rfl
theorem c16 : ((Rows.deskStepRow.mapsOut == Tryz.prog.mapsAmong Tryz.f4.resultTypes.toList)) = true := by kernel_rfl
theorem c17 : ((Rows.deskStepRow.loops == (Tryz.f4.params.toList ++ Rows.deskStepSpec.plain.varTypes Tryz.prog).any (Tryz.prog.loopsFrom ·))) = true := by kernel_rfl
theorem c18 : ((Rows.deskStepRow.wideKeys == (Tryz.f4.params.toList ++ Rows.deskStepSpec.plain.varTypes Tryz.prog ++ Tryz.f4.resultTypes.toList).any (Tryz.prog.wideKeysFrom ·))) = true := by kernel_rfl
theorem c19 : (Rows.deskStepSpec.vars.all (Tryz.prog.varReadable ·)) = true := by kernel_rfl
theorem c20 : (Tryz.f4.resultTypes.all (fun t => Tryz.prog.readableRec t && decide (t < Tryz.prog.types.size))) = true := by kernel_rfl
theorem c21 : ((Rows.deskStepRow.ifacesOut == Tryz.f4.resultTypes.toList.any (Tryz.prog.ifacesRec ·))) = true := by kernel_rfl
theorem c22 : ((Rows.deskStepRow.loopsOut == Tryz.f4.resultTypes.toList.any (Tryz.prog.loopsFrom ·))) = true := by kernel_rfl
theorem c23 : ((Rows.deskStepRow.plainKeys == Tryz.prog.plainKeys)) = true := by kernel_rfl
theorem c24 : (Rows.deskStepRow.shortTexts.isNone) = true := by kernel_rfl
theorem c27 : ((Rows.deskStepRow.lifted == Tryz.prog.liftsFinal)) = true := by kernel_rfl
theorem c28 : ((Tryz.prog.make == some Rows.deskStepRow.make)) = true := by kernel_rfl
theorem c30 : ((Rows.deskStepRow.pinned == Rows.deskStepRow.pinnedBy)) = true := by kernel_rfl
theorem c31 : ((Rows.deskStepRow.veiled == (Tryz.f4.params.toList ++ Rows.deskStepSpec.plain.varTypes Tryz.prog ++ Tryz.f4.resultTypes.toList).any (Tryz.prog.veiledRec ·))) = true := by kernel_rfl
theorem c32 : (Rows.deskStepRow.veiledFits Tryz.prog Tryz.f4.params.toList (Tryz.f4.params.toList ++ Rows.deskStepSpec.plain.varTypes Tryz.prog ++ Tryz.f4.resultTypes.toList)) = true := by kernel_rfl
theorem closed : joinedFacts Tryz.prog 4 Tryz.f4 Rows.deskStepSpec Rows.deskStepRow = true := by
  unfold joinedFacts
  refine (band (band (band (band (band (band (band (band (band (band (band (band (band (band (band (band (band (band (band (band (band (band (band (band (band (band (band (band (band (band (band c1 fac2) fac3) c4) c5) c6) fac7) c8) fac9) c10) c11) c12) c13) c14) c15) c16) c17) c18) c19) c20) c21) c22) c23) c24) fac25) fac26) c27) c28) ?_) c30) c31) c32)
  kernel_rfl
theorem named : Tryz.prog.funcNamed Rows.deskStepRow.func = some 4 := by kernel_rfl
end Go.Proofs.YtelhdbkkigehgaaGreatDoor.lawDeskStep

