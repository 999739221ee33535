/- A part of the proof. -/
import Derived.Test.YtelhdbkkigehgaaGreatDoorDs23

/- Closed facts of the row of DeskNone, one by one. -/
namespace Go.Proofs.YtelhdbkkigehgaaGreatDoor.lawDeskNone
theorem c1 : (Rows.deskNoneRow.wf (OpenSpec.ofChange Rows.deskNoneSpec)) = true := by kernel_rfl
theorem c4 : (Tryz.f3.params.all (Tryz.prog.readableRec ·)) = true := by kernel_rfl
theorem c5 : (namedTie Tryz.prog Rows.deskNoneRow.named Rows.deskNoneSpec.vars) = true := by kernel_rfl
theorem c6 : ((Rows.deskNoneRow.stops == [])) = true := by kernel_rfl
theorem c8 : ((Rows.deskNoneRow.knobs == [])) = true := by kernel_rfl
theorem c10 : (Rows.deskNoneRow.inPlace == Tryz.prog.inPlace 3) = true := by unfold Program.inPlace; rw [clo3_is]; kernel_rfl
theorem c11 : (Rows.deskNoneRow.unfollowed == Tryz.prog.unfollowed 3) = true := by unfold Program.unfollowed; rw [clo3_is]; kernel_rfl
theorem unf : Tryz.prog.unfollowed 3 = true := by unfold Program.unfollowed; rw [clo3_is]; kernel_rfl
theorem c12 : (Rows.deskNoneRow.recurses == Tryz.prog.recurses 3) = true := by
  unfold Program.recurses; rw [unf]; rfl
theorem c13 : (Rows.deskNoneRow.named == Tryz.prog.varsNamed 3) = true := by unfold Program.varsNamed; rw [clo3_is]; kernel_rfl
theorem c14 : ((Rows.deskNoneRow.maps == (Tryz.f3.params.toList ++ Rows.deskNoneSpec.plain.varTypes Tryz.prog).any (Tryz.prog.mapsRec ·))) = true := by kernel_rfl
theorem c15 : ((Rows.deskNoneRow.ifaces == (Tryz.f3.params.toList ++ Rows.deskNoneSpec.plain.varTypes Tryz.prog).any (Tryz.prog.ifacesRec ·))) = true := by kernel_rfl
theorem c16 : ((Rows.deskNoneRow.mapsOut == Tryz.prog.mapsAmong Tryz.f3.resultTypes.toList)) = true := by kernel_rfl
theorem c17 : ((Rows.deskNoneRow.loops == (Tryz.f3.params.toList ++ Rows.deskNoneSpec.plain.varTypes Tryz.prog).any (Tryz.prog.loopsFrom ·))) = true := by kernel_rfl
theorem c18 : ((Rows.deskNoneRow.wideKeys == (Tryz.f3.params.toList ++ Rows.deskNoneSpec.plain.varTypes Tryz.prog ++ Tryz.f3.resultTypes.toList).any (Tryz.prog.wideKeysFrom ·))) = true := by kernel_rfl
theorem c19 : (Rows.deskNoneSpec.vars.all (Tryz.prog.varReadable ·)) = true := by kernel_rfl
theorem c20 : (Tryz.f3.resultTypes.all (fun t => Tryz.prog.readableRec t && decide (t < Tryz.prog.types.size))) = true := by kernel_rfl
theorem c21 : ((Rows.deskNoneRow.ifacesOut == Tryz.f3.resultTypes.toList.any (Tryz.prog.ifacesRec ·))) = true := by kernel_rfl
theorem c22 : ((Rows.deskNoneRow.loopsOut == Tryz.f3.resultTypes.toList.any (Tryz.prog.loopsFrom ·))) = true := by kernel_rfl
theorem c23 : ((Rows.deskNoneRow.plainKeys == Tryz.prog.plainKeys)) = true := by kernel_rfl
theorem c24 : (Rows.deskNoneRow.shortTexts.isNone) = true := by kernel_rfl
theorem c27 : ((Rows.deskNoneRow.lifted == Tryz.prog.liftsFinal)) = true := by kernel_rfl
theorem c28 : ((Tryz.prog.make == some Rows.deskNoneRow.make)) = true := by kernel_rfl
theorem c30 : ((Rows.deskNoneRow.pinned == Rows.deskNoneRow.pinnedBy)) = true := by kernel_rfl
theorem c31 : ((Rows.deskNoneRow.veiled == (Tryz.f3.params.toList ++ Rows.deskNoneSpec.plain.varTypes Tryz.prog ++ Tryz.f3.resultTypes.toList).any (Tryz.prog.veiledRec ·))) = true := by kernel_rfl
theorem c32 : (Rows.deskNoneRow.veiledFits Tryz.prog Tryz.f3.params.toList (Tryz.f3.params.toList ++ Rows.deskNoneSpec.plain.varTypes Tryz.prog ++ Tryz.f3.resultTypes.toList)) = true := by kernel_rfl
theorem closed : joinedFacts Tryz.prog 3 Tryz.f3 Rows.deskNoneSpec Rows.deskNoneRow = true := by
  unfold joinedFacts
  refine (band (band (band (band (band (band (band (band (band (band (band (band (band (band (band (band (band (band (band (band (band (band (band (band (band (band (band (band (band (band (band c1 fac2) fac3) c4) c5) c6) fac7) c8) fac9) c10) c11) c12) c13) c14) c15) c16) c17) c18) c19) c20) c21) c22) c23) c24) fac25) fac26) c27) c28) ?_) c30) c31) c32)
  kernel_rfl
theorem named : Tryz.prog.funcNamed Rows.deskNoneRow.func = some 3 := by kernel_rfl
end Go.Proofs.YtelhdbkkigehgaaGreatDoor.lawDeskNone

