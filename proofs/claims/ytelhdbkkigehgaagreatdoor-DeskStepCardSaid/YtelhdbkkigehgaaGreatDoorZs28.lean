/- A part of the proof. -/
import Derived.Test.YtelhdbkkigehgaaGreatDoorZs20

/- works(): its parts, 7. -/
namespace Go.Proofs.YtelhdbkkigehgaaGreatDoor
open Go.Eng

set_option maxRecDepth 1000000 in
theorem w8 : (memoRun Tryz.prog (smMore exB) 6 e8).isSome = true := by decide +kernel
set_option maxRecDepth 1000000 in
theorem w14 : (memoRun Tryz.prog (smMore exB) 6 e14).isSome = true := by decide +kernel
set_option maxRecDepth 1000000 in
theorem w16 : (memoRun Tryz.prog (smMore exB) 6 e16).isSome = true := by decide +kernel
set_option maxRecDepth 1000000 in
theorem w21 : (memoRun Tryz.prog (smMore exB) 6 e21).isSome = true := by decide +kernel
set_option maxRecDepth 1000000 in
theorem w36 : (memoRun Tryz.prog smAll 201 e36).isSome = true := by decide +kernel
end Go.Proofs.YtelhdbkkigehgaaGreatDoor

