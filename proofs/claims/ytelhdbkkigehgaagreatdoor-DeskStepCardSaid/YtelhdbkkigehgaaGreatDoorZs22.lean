/- A part of the proof. -/
import Derived.Test.YtelhdbkkigehgaaGreatDoorZs20

/- works(): its parts, 1. -/
namespace Go.Proofs.YtelhdbkkigehgaaGreatDoor
open Go.Eng

set_option maxRecDepth 1000000 in
theorem w1 : (memoRun Tryz.prog (smMore exB) 6 e1).isSome = true := by decide +kernel
set_option maxRecDepth 1000000 in
theorem w3 : (memoRun Tryz.prog (smMore exA) 115 e3).isSome = true := by decide +kernel
set_option maxRecDepth 1000000 in
theorem w9 : (memoRun Tryz.prog (smMore exB) 6 e9).isSome = true := by decide +kernel
set_option maxRecDepth 1000000 in
theorem w10 : (memoRun Tryz.prog smAll 349 e10).isSome = true := by decide +kernel
set_option maxRecDepth 1000000 in
theorem w18 : (memoRun Tryz.prog (smMore exB) 6 e18).isSome = true := by decide +kernel
set_option maxRecDepth 1000000 in
theorem w30 : (memoRun Tryz.prog smAll 123 e30).isSome = true := by decide +kernel
end Go.Proofs.YtelhdbkkigehgaaGreatDoor

