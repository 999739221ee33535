/- A part of the proof. -/
import Derived.Test.YtelhdbkkigehgaaGreatDoorZs20

/- works(): its parts, 3. -/
namespace Go.Proofs.YtelhdbkkigehgaaGreatDoor
open Go.Eng

set_option maxRecDepth 1000000 in
theorem w2 : (memoRun Tryz.prog smAll 197 e2).isSome = true := by decide +kernel
set_option maxRecDepth 1000000 in
theorem w4 : (memoRun Tryz.prog (smMore exB) 6 e4).isSome = true := by decide +kernel
set_option maxRecDepth 1000000 in
theorem w5 : (memoRun Tryz.prog (smMore exB) 6 e5).isSome = true := by decide +kernel
set_option maxRecDepth 1000000 in
theorem w11 : (memoRun Tryz.prog (smMore exA) 145 e11).isSome = true := by decide +kernel
set_option maxRecDepth 1000000 in
theorem w19 : (memoRun Tryz.prog smAll 117 e19).isSome = true := by decide +kernel
end Go.Proofs.YtelhdbkkigehgaaGreatDoor

