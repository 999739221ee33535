/- A part of the proof. -/
import Derived.Test.YthknocapablpaaaGreatDoorAi46
namespace Go.Proofs.YthknocapablpaaaGreatDoor.lawIngestTakes
/- Closed facts of the row of IngestTakes, one by one. -/
section
theorem c1:(Rows.ingestTakesRow.wf (OpenSpec.ofChange Rows.ingestTakesSpec))=true:=by kernel_rfl
theorem c4:(Tryz.f3.params.all (Tryz.prog.readableRec ·))=true:=by kernel_rfl
theorem c5:(namedTie Tryz.prog Rows.ingestTakesRow.named Rows.ingestTakesSpec.vars)=true:=by kernel_rfl
theorem c6:((Rows.ingestTakesRow.stops == []))=true:=by kernel_rfl
theorem c8:((Rows.ingestTakesRow.knobs == []))=true:=by kernel_rfl
theorem c10:(Rows.ingestTakesRow.inPlace == Tryz.prog.inPlace 3)=true:=by unfold Program.inPlace;rw [clo3_is];kernel_rfl
theorem c11:(Rows.ingestTakesRow.unfollowed == Tryz.prog.unfollowed 3)=true:=by unfold Program.unfollowed;rw [clo3_is];kernel_rfl
theorem unf:Tryz.prog.unfollowed 3=true:=by unfold Program.unfollowed;rw [clo3_is];kernel_rfl
theorem c12:(Rows.ingestTakesRow.recurses == Tryz.prog.recurses 3)=true:=by
 unfold Program.recurses;rw [unf];rfl
theorem c13:(Rows.ingestTakesRow.named == Tryz.prog.varsNamed 3)=true:=by unfold Program.varsNamed;rw [clo3_is];kernel_rfl
theorem c14:((Rows.ingestTakesRow.maps == (Tryz.f3.params.toList++Rows.ingestTakesSpec.plain.varTypes Tryz.prog).any (Tryz.prog.mapsRec ·)))=true:=by kernel_rfl
theorem c15:((Rows.ingestTakesRow.ifaces == (Tryz.f3.params.toList++Rows.ingestTakesSpec.plain.varTypes Tryz.prog).any (Tryz.prog.ifacesRec ·)))=true:=by kernel_rfl
theorem c16:((Rows.ingestTakesRow.mapsOut == Tryz.prog.mapsAmong Tryz.f3.resultTypes.toList))=true:=by kernel_rfl
theorem c17:((Rows.ingestTakesRow.loops == (Tryz.f3.params.toList++Rows.ingestTakesSpec.plain.varTypes Tryz.prog).any (Tryz.prog.loopsFrom ·)))=true:=by kernel_rfl
theorem c18:((Rows.ingestTakesRow.wideKeys == (Tryz.f3.params.toList++Rows.ingestTakesSpec.plain.varTypes Tryz.prog++Tryz.f3.resultTypes.toList).any (Tryz.prog.wideKeysFrom ·)))=true:=by kernel_rfl
theorem c19:(Rows.ingestTakesSpec.vars.all (Tryz.prog.varReadable ·))=true:=by kernel_rfl
theorem c20:(Tryz.f3.resultTypes.all (fun t=>Tryz.prog.readableRec t && decide (t<Tryz.prog.types.size)))=true:=by kernel_rfl
theorem c21:((Rows.ingestTakesRow.ifacesOut == Tryz.f3.resultTypes.toList.any (Tryz.prog.ifacesRec ·)))=true:=by kernel_rfl
theorem c22:((Rows.ingestTakesRow.loopsOut == Tryz.f3.resultTypes.toList.any (Tryz.prog.loopsFrom ·)))=true:=by kernel_rfl
theorem c23:((Rows.ingestTakesRow.plainKeys == Tryz.prog.plainKeys))=true:=by kernel_rfl
theorem c24:(Rows.ingestTakesRow.shortTexts.isNone)=true:=by kernel_rfl
theorem c27:((Rows.ingestTakesRow.lifted == Tryz.prog.liftsFinal))=true:=by kernel_rfl
theorem c28:((Tryz.prog.make == some Rows.ingestTakesRow.make))=true:=by kernel_rfl
theorem c30:((Rows.ingestTakesRow.pinned == Rows.ingestTakesRow.pinnedBy))=true:=by kernel_rfl
theorem c31:((Rows.ingestTakesRow.veiled == (Tryz.f3.params.toList++Rows.ingestTakesSpec.plain.varTypes Tryz.prog++Tryz.f3.resultTypes.toList).any (Tryz.prog.veiledRec ·)))=true:=by kernel_rfl
theorem c32:(Rows.ingestTakesRow.veiledFits Tryz.prog Tryz.f3.params.toList (Tryz.f3.params.toList++Rows.ingestTakesSpec.plain.varTypes Tryz.prog++Tryz.f3.resultTypes.toList))=true:=by kernel_rfl
theorem closed:joinedFacts Tryz.prog 3 Tryz.f3 Rows.ingestTakesSpec Rows.ingestTakesRow=true:=by
 unfold joinedFacts
 refine (band (band (band (band (band (band (band (band (band (band (band (band (band (band (band (band (band (band (band (band (band (band (band (band (band (band (band (band (band (band (band c1 fac2) fac3) c4) c5) c6) fac7) c8) fac9) c10) c11) c12) c13) c14) c15) c16) c17) c18) c19) c20) c21) c22) c23) c24) fac25) fac26) c27) c28) ?_) c30) c31) c32)
 kernel_rfl
theorem named:Tryz.prog.funcNamed Rows.ingestTakesRow.func=some 3:=by kernel_rfl
end
end Go.Proofs.YthknocapablpaaaGreatDoor.lawIngestTakes
