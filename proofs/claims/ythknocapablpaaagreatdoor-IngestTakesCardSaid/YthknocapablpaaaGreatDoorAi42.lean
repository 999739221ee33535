/- A part of the proof. -/
import Derived.Test.YthknocapablpaaaGreatDoorAi40
import Derived.Test.YthknocapablpaaaGreatDoorAi41
namespace Go.Proofs.YthknocapablpaaaGreatDoor
/- The run of 22, whole: it returns true, and nothing that was there has turned. -/
section
open Go.Eng Go.RowKit

set_option maxRecDepth 1000000 in
theorem lives22_any {η:Env}{w:World}(h0:RoHeap Tryz.prog η h22_0 w):Calls Tryz.prog 10 #[] w fun e w'=>e = .returned (.bool true)∧Eng.Kept (fun _=>False) w w':=by
 have hk:∀ n o,h22_0.get n=some o→∃ t cs,h22_2.get n=some (.ro t cs):=fun n o hn=>by
  have hb:=ro_names (h0 n o hn).1 hn (by decide +kernel:roSame Tryz.prog.globals.size h22_0 h22_2=true)
  exact hb
 refine calls_of_wp Tryz.func10 (c:=_) rfl (wp_flat (w:=w) ?_)
 have hp:flat _ []=p22:=rfl
 rw [hp]
 have s0:=start_ok h0
 rw [show Tryz.prog.globals.size=6 by kernel_rfl] at s0
 rw [show p22=p22.drop 0 by simp]
 refine piece (l:=p22) mixed noGo (smAll_ok (η:=η)) (by decide) r22_1 s0 noArgs rfl fun s1 a1 x1 d1 t1 w1=>?_
 refine last_piece (l:=p22) mixed noGo (smAll_ok (η:=η)) (by decide) r22_2 w1.rel t1 d1 (v:=.bool true) (by rfl) fun s u x hu W=>?_
 rw [conc_bool] at hu
 subst hu
 exact ⟨rfl,end_ok h0 (by rw [show Tryz.prog.globals.size=6 by kernel_rfl];exact (w1.trans W)) hk⟩
end
end Go.Proofs.YthknocapablpaaaGreatDoor
