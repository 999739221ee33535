/- A part of the proof. -/
import Derived.Test.YthkcicilmhpfjaaGreatDoorRn8

/- Closed facts of the row of RepoNone, one by one. -/
namespace Go.Proofs.YthkcicilmhpfjaaGreatDoor.lawRepoNone
theorem c1 : (Rows.repoNoneRow.wf (OpenSpec.ofChange Rows.repoNoneSpec)) = true := by kernel_rfl
theorem c4 : (Tryz.f6.params.all (Tryz.prog.readableRec ·)) = true := by kernel_rfl
theorem c5 : (namedTie Tryz.prog Rows.repoNoneRow.named Rows.repoNoneSpec.vars) = true := by kernel_rfl
theorem c6 : ((Rows.repoNoneRow.stops == [])) = true := by kernel_rfl
theorem c8 : ((Rows.repoNoneRow.knobs == [])) = true := by kernel_rfl
theorem c10 : (Rows.repoNoneRow.inPlace == Tryz.prog.inPlace 6) = true := by unfold Program.inPlace; rw [clo6_is]; kernel_rfl
theorem c11 : (Rows.repoNoneRow.unfollowed == Tryz.prog.unfollowed 6) = true := by unfold Program.unfollowed; rw [clo6_is]; kernel_rfl
theorem unf : Tryz.prog.unfollowed 6 = true := by unfold Program.unfollowed; rw [clo6_is]; kernel_rfl
theorem c12 : (Rows.repoNoneRow.recurses == Tryz.prog.recurses 6) = true := by
  unfold Program.recurses; rw [unf]; rfl
theorem c13 : (Rows.repoNoneRow.named == Tryz.prog.varsNamed 6) = true := by unfold Program.varsNamed; rw [clo6_is]; kernel_rfl
theorem c14 : ((Rows.repoNoneRow.maps == (Tryz.f6.params.toList ++ Rows.repoNoneSpec.plain.varTypes Tryz.prog).any (Tryz.prog.mapsRec ·))) = true := by kernel_rfl
theorem c15 : ((Rows.repoNoneRow.ifaces == (Tryz.f6.params.toList ++ Rows.repoNoneSpec.plain.varTypes Tryz.prog).any (Tryz.prog.ifacesRec ·))) = true := by kernel_rfl
theorem c16 : ((Rows.repoNoneRow.mapsOut == Tryz.prog.mapsAmong Tryz.f6.resultTypes.toList)) = true := by kernel_rfl
theorem c17 : ((Rows.repoNoneRow.loops == (Tryz.f6.params.toList ++ Rows.repoNoneSpec.plain.varTypes Tryz.prog).any (Tryz.prog.loopsFrom ·))) = true := by kernel_rfl
theorem c18 : ((Rows.repoNoneRow.wideKeys == (Tryz.f6.params.toList ++ Rows.repoNoneSpec.plain.varTypes Tryz.prog ++ Tryz.f6.resultTypes.toList).any (Tryz.prog.wideKeysFrom ·))) = true := by kernel_rfl
theorem c19 : (Rows.repoNoneSpec.vars.all (Tryz.prog.varReadable ·)) = true := by kernel_rfl
theorem c20 : (Tryz.f6.resultTypes.all (fun t => Tryz.prog.readableRec t && decide (t < Tryz.prog.types.size))) = true := by kernel_rfl
theorem c21 : ((Rows.repoNoneRow.ifacesOut == Tryz.f6.resultTypes.toList.any (Tryz.prog.ifacesRec ·))) = true := by kernel_rfl
theorem c22 : ((Rows.repoNoneRow.loopsOut == Tryz.f6.resultTypes.toList.any (Tryz.prog.loopsFrom ·))) = true := by kernel_rfl
theorem c23 : ((Rows.repoNoneRow.plainKeys == Tryz.prog.plainKeys)) = true := by kernel_rfl
theorem c24 : (Rows.repoNoneRow.shortTexts.isNone) = true := by kernel_rfl
theorem c27 : ((Rows.repoNoneRow.lifted == Tryz.prog.liftsFinal)) = true := by kernel_rfl
theorem c28 : ((Tryz.prog.make == some Rows.repoNoneRow.make)) = true := by kernel_rfl
theorem c30 : ((Rows.repoNoneRow.pinned == Rows.repoNoneRow.pinnedBy)) = true := by kernel_rfl
theorem c31 : ((Rows.repoNoneRow.veiled == (Tryz.f6.params.toList ++ Rows.repoNoneSpec.plain.varTypes Tryz.prog ++ Tryz.f6.resultTypes.toList).any (Tryz.prog.veiledRec ·))) = true := by kernel_rfl
theorem c32 : (Rows.repoNoneRow.veiledFits Tryz.prog Tryz.f6.params.toList (Tryz.f6.params.toList ++ Rows.repoNoneSpec.plain.varTypes Tryz.prog ++ Tryz.f6.resultTypes.toList)) = true := by kernel_rfl
theorem closed : joinedFacts Tryz.prog 6 Tryz.f6 Rows.repoNoneSpec Rows.repoNoneRow = true := by
  unfold joinedFacts
  refine (band (band (band (band (band (band (band (band (band (band (band (band (band (band (band (band (band (band (band (band (band (band (band (band (band (band (band (band (band (band (band c1 fac2) fac3) c4) c5) c6) fac7) c8) fac9) c10) c11) c12) c13) c14) c15) c16) c17) c18) c19) c20) c21) c22) c23) c24) fac25) fac26) c27) c28) ?_) c30) c31) c32)
  kernel_rfl
theorem named : Tryz.prog.funcNamed Rows.repoNoneRow.func = some 6 := by kernel_rfl
end Go.Proofs.YthkcicilmhpfjaaGreatDoor.lawRepoNone

