/- A part of the proof. -/
import Derived.Test.YtelhdbkkigehgaaGreatDoorZs20

/- works(): its parts, 5. -/
namespace Go.Proofs.YtelhdbkkigehgaaGreatDoor
open Go.Eng

set_option maxRecDepth 1000000 in
theorem w0 : (memoRun Tryz.prog (smMore exB) 6 e0).isSome = true := by decide +kernel
set_option maxRecDepth 1000000 in
theorem w7 : (memoRun Tryz.prog (smMore exB) 6 e7).isSome = true := by decide +kernel
set_option maxRecDepth 1000000 in
theorem w17 : (memoRun Tryz.prog smAll 123 e17).isSome = true := by decide +kernel
set_option maxRecDepth 1000000 in
theorem w32 : (memoRun Tryz.prog (smMore exB) 6 e32).isSome = true := by decide +kernel
set_option maxRecDepth 1000000 in
theorem w35 : (memoRun Tryz.prog smAll 197 e35).isSome = true := by decide +kernel
set_option maxRecDepth 1000000 in
theorem w40 : (memoRun Tryz.prog (smMore exB) 6 e40).isSome = true := by decide +kernel
end Go.Proofs.YtelhdbkkigehgaaGreatDoor

