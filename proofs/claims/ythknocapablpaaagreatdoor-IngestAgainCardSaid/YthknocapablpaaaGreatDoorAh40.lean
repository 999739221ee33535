/- A part of the proof. -/
import Derived.Test.YthknocapablpaaaGreatDoorAh35
/- The run of 22: piece 3. -/
namespace Go.Proofs.YthknocapablpaaaGreatDoor
open Go.Eng

set_option maxRecDepth 1000000 in
theorem r22_3 : cdEq (codeK Tryz.prog smAll 100000 91 [1, 6, 7, 12, 13, 67, 76, 77, 89, 91, 513, 633, 634, 985] ((p22.drop 6).take 1) m22_2 [] h22_2 635) (.mk .norm m22_3 [] h22_3 986) = true := by decide +kernel
end Go.Proofs.YthknocapablpaaaGreatDoor
