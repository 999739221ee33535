/- A part of the proof. -/
import Derived.Test.YthknocapablpaaaGreatDoorAi38
namespace Go.Proofs.YthknocapablpaaaGreatDoor
/- The run of 22: piece 1. -/
section
open Go.Eng

set_option maxRecDepth 1000000 in
theorem r22_1:cdEq (codeK Tryz.prog smAll 100000 91 [1,6,7,12,13,67,76,77,89,91,128,129,513,633,634] ((p22.drop 0).take 6) m22_0 [] h22_0 6) (.mk .norm m22_1 [] h22_1 635)=true:=by decide +kernel
end
end Go.Proofs.YthknocapablpaaaGreatDoor
