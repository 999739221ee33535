/- A part of the proof. -/
import Derived.Test.YthknocapablpaaaGreatDoorAi38
namespace Go.Proofs.YthknocapablpaaaGreatDoor
/- The run of 22: piece 2. -/
section
open Go.Eng

set_option maxRecDepth 1000000 in
theorem r22_2:cdEq (codeK Tryz.prog smAll 100000 91 [1] (p22.drop 6) m22_1 [] h22_1 635) (.mk .ret m22_2 [] h22_2 1189)=true:=by decide +kernel
end
end Go.Proofs.YthknocapablpaaaGreatDoor
