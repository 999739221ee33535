/- A part of the proof. -/
import Derived.Test.YthknocapablpaaaGreatDoorAh35
/- The run of 22: piece 2. -/
namespace Go.Proofs.YthknocapablpaaaGreatDoor
open Go.Eng

set_option maxRecDepth 1000000 in
theorem r22_2 : cdEq (codeK Tryz.prog smAll 100000 91 [1, 6, 7, 12, 13, 67, 76, 77, 89, 91, 128, 129, 513, 633, 634] ((p22.drop 2).take 4) m22_1 [] h22_1 128) (.mk .norm m22_2 [] h22_2 635) = true := by decide +kernel
end Go.Proofs.YthknocapablpaaaGreatDoor
