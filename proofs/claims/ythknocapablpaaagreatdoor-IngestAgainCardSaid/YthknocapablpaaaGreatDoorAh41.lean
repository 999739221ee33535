/- A part of the proof. -/
import Derived.Test.YthknocapablpaaaGreatDoorAh35
/- The run of 22: piece 4. -/
namespace Go.Proofs.YthknocapablpaaaGreatDoor
open Go.Eng

set_option maxRecDepth 1000000 in
theorem r22_4 : cdEq (codeK Tryz.prog smAll 100000 91 [1] (p22.drop 7) m22_3 [] h22_3 986) (.mk .ret m22_4 [] h22_4 1189) = true := by decide +kernel
end Go.Proofs.YthknocapablpaaaGreatDoor
