/- A part of the proof. -/
import Derived.Test.YthknocapablpaaaGreatDoorAi38
namespace Go.Proofs.YthknocapablpaaaGreatDoor
/- The run of Opened. -/
section
open Go.Eng

set_option maxRecDepth 1000000 in
theorem rOp:cdEq (codeK Tryz.prog smAll 100000 21 [1,6,7,12,13,67,76,77,89,91] (pOp.drop 0) N [] hOp0 6) (.mk .ret mOp [] hOp 128)=true:=by decide +kernel
end
end Go.Proofs.YthknocapablpaaaGreatDoor
