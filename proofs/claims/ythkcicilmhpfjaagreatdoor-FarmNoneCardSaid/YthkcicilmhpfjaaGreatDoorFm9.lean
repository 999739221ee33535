/- A part of the proof. -/
import Derived.Test.YthkcicilmhpfjaaGreatDoorFm8

/- Closed facts of the row of FarmNone, one by one. -/
namespace Go.Proofs.YthkcicilmhpfjaaGreatDoor.lawFarmNone
theorem c1 : (Rows.farmNoneRow.wf (OpenSpec.ofChange Rows.farmNoneSpec)) = true := by kernel_rfl
theorem c4 : (Tryz.f7.params.all (Tryz.prog.readableRec ·)) = true := by kernel_rfl
theorem c5 : (namedTie Tryz.prog Rows.farmNoneRow.named Rows.farmNoneSpec.vars) = true := by kernel_rfl
theorem c6 : ((Rows.farmNoneRow.stops == [])) = true := by kernel_rfl
theorem c8 : ((Rows.farmNoneRow.knobs == [])) = true := by kernel_rfl
theorem c10 : (Rows.farmNoneRow.inPlace == Tryz.prog.inPlace 7) = true := by unfold Program.inPlace; rw [clo7_is]; kernel_rfl
theorem c11 : (Rows.farmNoneRow.unfollowed == Tryz.prog.unfollowed 7) = true := by unfold Program.unfollowed; rw [clo7_is]; kernel_rfl
theorem unf : Tryz.prog.unfollowed 7 = true := by unfold Program.unfollowed; rw [clo7_is]; kernel_rfl
theorem c12 : (Rows.farmNoneRow.recurses == Tryz.prog.recurses 7) = true := by
  unfold Program.recurses; rw [unf]; rfl
theorem c13 : (Rows.farmNoneRow.named == Tryz.prog.varsNamed 7) = true := by unfold Program.varsNamed; rw [clo7_is]; kernel_rfl
theorem c14 : ((Rows.farmNoneRow.maps == (Tryz.f7.params.toList ++ Rows.farmNoneSpec.plain.varTypes Tryz.prog).any (Tryz.prog.mapsRec ·))) = true := by kernel_rfl
theorem c15 : ((Rows.farmNoneRow.ifaces == (Tryz.f7.params.toList ++ Rows.farmNoneSpec.plain.varTypes Tryz.prog).any (Tryz.prog.ifacesRec ·))) = true := by kernel_rfl
theorem c16 : ((Rows.farmNoneRow.mapsOut == Tryz.prog.mapsAmong Tryz.f7.resultTypes.toList)) = true := by kernel_rfl
theorem c17 : ((Rows.farmNoneRow.loops == (Tryz.f7.params.toList ++ Rows.farmNoneSpec.plain.varTypes Tryz.prog).any (Tryz.prog.loopsFrom ·))) = true := by kernel_rfl
theorem c18 : ((Rows.farmNoneRow.wideKeys == (Tryz.f7.params.toList ++ Rows.farmNoneSpec.plain.varTypes Tryz.prog ++ Tryz.f7.resultTypes.toList).any (Tryz.prog.wideKeysFrom ·))) = true := by kernel_rfl
theorem c19 : (Rows.farmNoneSpec.vars.all (Tryz.prog.varReadable ·)) = true := by kernel_rfl
theorem c20 : (Tryz.f7.resultTypes.all (fun t => Tryz.prog.readableRec t && decide (t < Tryz.prog.types.size))) = true := by kernel_rfl
theorem c21 : ((Rows.farmNoneRow.ifacesOut == Tryz.f7.resultTypes.toList.any (Tryz.prog.ifacesRec ·))) = true := by kernel_rfl
theorem c22 : ((Rows.farmNoneRow.loopsOut == Tryz.f7.resultTypes.toList.any (Tryz.prog.loopsFrom ·))) = true := by kernel_rfl
theorem c23 : ((Rows.farmNoneRow.plainKeys == Tryz.prog.plainKeys)) = true := by kernel_rfl
theorem c24 : (Rows.farmNoneRow.shortTexts.isNone) = true := by kernel_rfl
theorem c27 : ((Rows.farmNoneRow.lifted == Tryz.prog.liftsFinal)) = true := by kernel_rfl
theorem c28 : ((Tryz.prog.make == some Rows.farmNoneRow.make)) = true := by kernel_rfl
theorem c30 : ((Rows.farmNoneRow.pinned == Rows.farmNoneRow.pinnedBy)) = true := by kernel_rfl
theorem c31 : ((Rows.farmNoneRow.veiled == (Tryz.f7.params.toList ++ Rows.farmNoneSpec.plain.varTypes Tryz.prog ++ Tryz.f7.resultTypes.toList).any (Tryz.prog.veiledRec ·))) = true := by kernel_rfl
theorem c32 : (Rows.farmNoneRow.veiledFits Tryz.prog Tryz.f7.params.toList (Tryz.f7.params.toList ++ Rows.farmNoneSpec.plain.varTypes Tryz.prog ++ Tryz.f7.resultTypes.toList)) = true := by kernel_rfl
theorem closed : joinedFacts Tryz.prog 7 Tryz.f7 Rows.farmNoneSpec Rows.farmNoneRow = true := by
  unfold joinedFacts
  refine (band (band (band (band (band (band (band (band (band (band (band (band (band (band (band (band (band (band (band (band (band (band (band (band (band (band (band (band (band (band (band c1 fac2) fac3) c4) c5) c6) fac7) c8) fac9) c10) c11) c12) c13) c14) c15) c16) c17) c18) c19) c20) c21) c22) c23) c24) fac25) fac26) c27) c28) ?_) c30) c31) c32)
  kernel_rfl
theorem named : Tryz.prog.funcNamed Rows.farmNoneRow.func = some 7 := by kernel_rfl
end Go.Proofs.YthkcicilmhpfjaaGreatDoor.lawFarmNone

