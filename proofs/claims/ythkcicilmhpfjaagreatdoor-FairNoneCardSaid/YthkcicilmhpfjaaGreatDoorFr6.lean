/- A part of the proof. -/
import Derived.Test.YthkcicilmhpfjaaGreatDoorRows
import Derived.LaidByTextLater
import Derived.SevenTiedAt
import Derived.Test.YthkcicilmhpfjaaGreatDoorFr5

/- The listed variables hold, behind the program's own start, what the rows list: the closed facts one by one. -/
namespace Go.Proofs.YthkcicilmhpfjaaGreatDoor
open Go

def lstF : List (String × DataW Unit) := [("internal/strconv.uint64pow10", Rows.laid_internal_strconv_uint64pow10), ("math/bits.deBruijn32tab", Rows.laid_math_bits_deBruijn32tab), ("math/bits.deBruijn64tab", Rows.laid_math_bits_deBruijn64tab), ("strconv.ErrSyntax", Rows.laid_strconv_ErrSyntax), ("strconv.ErrRange", Rows.laid_strconv_ErrRange)]
theorem tj1 : Tryz.prog.worded (varsWordLater true) = true := by kernel_rfl
theorem tj2 : Tryz.prog.worded (varsWordLater !true) = false := by kernel_rfl
theorem tj3 : Tryz.prog.worded rootWordLater = true := by kernel_rfl
theorem tj4 : lstF.map (fun x => Tryz.prog.kindOfLater x.1) = [LaidKind.data, .data, .data, .sentinel, .sentinel].map some := by kernel_rfl
theorem tj5 : (Tryz.prog.funcNamed "gosem.cut.vars").isSome = true := by kernel_rfl
theorem tj6 : varsNamedLaterB Tryz.prog (varsId Tryz.prog) lstF = true := by kernel_rfl
theorem tj7 (os : Os) (tape : Nat → Question → Nat) : varsDone Tryz.prog 400 (varsId Tryz.prog) os tape = true := by kernel_rfl
theorem tj8 (os : Os) (tape : Nat → Question → Nat) : (DataW.laidRun Tryz.prog (varsWorld Tryz.prog 400 (varsId Tryz.prog) os tape).memory 8 (lstF.map (·.1))).map (·.1) = some lstF := by kernel_rfl
theorem tj9 (os : Os) (tape : Nat → Question → Nat) : (DataW.laidRun Tryz.prog (varsWorld Tryz.prog 400 (varsId Tryz.prog) os tape).memory 8 (lstF.map (·.1))).map (fun x => decide x.2.Nodup && laidRowsB Tryz.prog (varsWorld Tryz.prog 400 (varsId Tryz.prog) os tape).memory x.2) = some true := by kernel_rfl
theorem ownF : Tryz.pinned.checked.prog.headLifts.contains "ownunsafe" = false := by kernel_rfl
theorem tiedF : Tryz.prog.laidByTextLater lstF [.data, .data, .data, .sentinel, .sentinel] true :=
  Program.laidByTextLater_by_run 400 8 tj1 tj2 tj3 tj4 tj5 tj6 tj7 tj8 tj9
end Go.Proofs.YthkcicilmhpfjaaGreatDoor

