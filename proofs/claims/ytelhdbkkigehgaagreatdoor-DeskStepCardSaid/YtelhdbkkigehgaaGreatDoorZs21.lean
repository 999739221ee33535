/- A part of the proof. -/
import Derived.Test.YtelhdbkkigehgaaGreatDoorZs20

/- works(): its parts, 0. -/
namespace Go.Proofs.YtelhdbkkigehgaaGreatDoor
open Go.Eng

set_option maxRecDepth 1000000 in
theorem w13 : (memoRun Tryz.prog (smMore exB) 6 e13).isSome = true := by decide +kernel
set_option maxRecDepth 1000000 in
theorem w24 : (memoRun Tryz.prog (smMore exA) 152 e24).isSome = true := by decide +kernel
set_option maxRecDepth 1000000 in
theorem w31 : (memoRun Tryz.prog smAll 117 e31).isSome = true := by decide +kernel
set_option maxRecDepth 1000000 in
theorem w37 : (memoRun Tryz.prog (smMore exA) 115 e37).isSome = true := by decide +kernel
end Go.Proofs.YtelhdbkkigehgaaGreatDoor

