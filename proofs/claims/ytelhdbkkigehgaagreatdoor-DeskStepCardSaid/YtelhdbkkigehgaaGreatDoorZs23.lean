/- A part of the proof. -/
import Derived.Test.YtelhdbkkigehgaaGreatDoorZs20

/- works(): its parts, 2. -/
namespace Go.Proofs.YtelhdbkkigehgaaGreatDoor
open Go.Eng

set_option maxRecDepth 1000000 in
theorem w25 : (memoRun Tryz.prog (smMore exB) 6 e25).isSome = true := by decide +kernel
set_option maxRecDepth 1000000 in
theorem w26 : (memoRun Tryz.prog smAll 87 e26).isSome = true := by decide +kernel
set_option maxRecDepth 1000000 in
theorem w28 : (memoRun Tryz.prog smAll 123 e28).isSome = true := by decide +kernel
set_option maxRecDepth 1000000 in
theorem w34 : (memoRun Tryz.prog (smMore exB) 6 e34).isSome = true := by decide +kernel
set_option maxRecDepth 1000000 in
theorem w38 : (memoRun Tryz.prog (smMore exB) 6 e38).isSome = true := by decide +kernel
end Go.Proofs.YtelhdbkkigehgaaGreatDoor

