/- A part of the proof. -/
import Derived.Test.YtelhdbkkigehgaaGreatDoorZs20

/- works(): its parts, 4. -/
namespace Go.Proofs.YtelhdbkkigehgaaGreatDoor
open Go.Eng

set_option maxRecDepth 1000000 in
theorem w6 : (memoRun Tryz.prog (smMore exB) 6 e6).isSome = true := by decide +kernel
set_option maxRecDepth 1000000 in
theorem w15 : (memoRun Tryz.prog smAll 123 e15).isSome = true := by decide +kernel
set_option maxRecDepth 1000000 in
theorem w20 : (memoRun Tryz.prog (smMore exB) 6 e20).isSome = true := by decide +kernel
set_option maxRecDepth 1000000 in
theorem w29 : (memoRun Tryz.prog smAll 117 e29).isSome = true := by decide +kernel
set_option maxRecDepth 1000000 in
theorem w33 : (memoRun Tryz.prog (smMore exB) 6 e33).isSome = true := by decide +kernel
end Go.Proofs.YtelhdbkkigehgaaGreatDoor

