/- A part of the proof. -/
import Derived.Test.YtelhdbkkigehgaaGreatDoorZs20

/- works(): its parts, 6. -/
namespace Go.Proofs.YtelhdbkkigehgaaGreatDoor
open Go.Eng

set_option maxRecDepth 1000000 in
theorem w12 : (memoRun Tryz.prog (smMore exB) 6 e12).isSome = true := by decide +kernel
set_option maxRecDepth 1000000 in
theorem w22 : (memoRun Tryz.prog smAll 245 e22).isSome = true := by decide +kernel
set_option maxRecDepth 1000000 in
theorem w23 : (memoRun Tryz.prog smAll 201 e23).isSome = true := by decide +kernel
set_option maxRecDepth 1000000 in
theorem w27 : (memoRun Tryz.prog (smMore exB) 6 e27).isSome = true := by decide +kernel
set_option maxRecDepth 1000000 in
theorem w39 : (memoRun Tryz.prog (smMore exB) 6 e39).isSome = true := by decide +kernel
end Go.Proofs.YtelhdbkkigehgaaGreatDoor

