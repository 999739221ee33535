/-
  NARROWER THAN 'FOR EVERY INPUT', by the rows' own cells (each row's printed sentence says how): TreesFlat: loops.
  DERIVED. THE GIVEN ROWS OF THIS SEAT. 6 by the template 'for every input the law returns true; each argument reads behind the call as it read before'; 0 by the template 'total and deterministic' (their statements: YtjidldbolbjdpaaTotals.lean).
  GIVEN WITH THE SEED: the statements are not yours to turn. If you find one false, say at which input.
  Laid BY PROGRAM, IN A SANDBOX (cutbox-rows.mjs): the forced cells as the released guide's own fill.sh prints them over the translation 55c940c51ed1e32c… (all of the seat's roots in one cut). By AI agents, Wed Nov 11 2026. No macro, syntax, notation, axiom, sorry.
-/
import Derived.Test.YtjidldbolbjdpaaChecked
import GoSem.Claim
import GoSem.ClaimJoined
import GoSem.ClaimMapViews
import Derived.JoinedTies
import Derived.KernelRfl
namespace Go.Proofs.Ytjidldbolbjdpaa
/- THE CELL 'sum', in the pinned program and in every row, IS THE sha256 OF THE DUMP (.gsa) THAT YtjidldbolbjdpaaProg.lean LOADS. Nothing in Lean hashes anything: it is a label: what it is worth is what the hold of that sum in a sandbox is worth. -/
noncomputable def Try.pinned : Pinned := { name := "ytjidldbolbjdpaa", sum := "55c940c51ed1e32c817d4c5c66c514ff3214774a8fd2d192cb66e74a18bdc2d8", checked := Try.checked }
namespace Rows
def none {H : Type} : Left H := { results := [], args := [] }

/-- 'spoorlaw14.TreesOf': WHATEVER THE INPUT: true; the input reads as it did. -/
def treesOfSpec : ChangeSpec := { name := "treesOf", fn := fun _ => fun
  | [d] => { results := [.lit (.bool true)], args := [d] }
  | _ => none }
def treesOfRow : OpenClaim := { program := "ytjidldbolbjdpaa", sum := "55c940c51ed1e32c817d4c5c66c514ff3214774a8fd2d192cb66e74a18bdc2d8", func := "spoor/spoorlaw14.TreesOf", spec := "treesOf", unfollowed := true, recurses := true, apart := false }
def TreesOfSaid : Prop := treesOfRow.holds Try.pinned (OpenSpec.ofChange treesOfSpec)

/-- ITS FALSE NEIGHBOUR: 'it returns false'. Refute it at one input. -/
def treesOfWrong : ChangeSpec := { name := "treesOf", fn := fun _ => fun
  | [d] => { results := [.lit (.bool false)], args := [d] }
  | _ => none }
def TreesOfWrongFalsely : Prop := treesOfRow.holds Try.pinned (OpenSpec.ofChange treesOfWrong)

/-- 'spoorlaw14.TreesFlat': WHATEVER THE INPUT: true; the input reads as it did. -/
def treesFlatSpec : ChangeSpec := { name := "treesFlat", fn := fun _ => fun
  | [d] => { results := [.lit (.bool true)], args := [d] }
  | _ => none }
def treesFlatRow : OpenClaim := { program := "ytjidldbolbjdpaa", sum := "55c940c51ed1e32c817d4c5c66c514ff3214774a8fd2d192cb66e74a18bdc2d8", func := "spoor/spoorlaw14.TreesFlat", spec := "treesFlat", unfollowed := true, recurses := true, loops := true, apart := false }
def TreesFlatSaid : Prop := treesFlatRow.holds Try.pinned (OpenSpec.ofChange treesFlatSpec)

/-- ITS FALSE NEIGHBOUR: 'it returns false'. Refute it at one input. -/
def treesFlatWrong : ChangeSpec := { name := "treesFlat", fn := fun _ => fun
  | [d] => { results := [.lit (.bool false)], args := [d] }
  | _ => none }
def TreesFlatWrongFalsely : Prop := treesFlatRow.holds Try.pinned (OpenSpec.ofChange treesFlatWrong)

/-- 'spoorlaw14.TreesOnce': WHATEVER THE INPUT: true; the input reads as it did. -/
def treesOnceSpec : ChangeSpec := { name := "treesOnce", fn := fun _ => fun
  | [d] => { results := [.lit (.bool true)], args := [d] }
  | _ => none }
def treesOnceRow : OpenClaim := { program := "ytjidldbolbjdpaa", sum := "55c940c51ed1e32c817d4c5c66c514ff3214774a8fd2d192cb66e74a18bdc2d8", func := "spoor/spoorlaw14.TreesOnce", spec := "treesOnce", unfollowed := true, recurses := true, apart := false }
def TreesOnceSaid : Prop := treesOnceRow.holds Try.pinned (OpenSpec.ofChange treesOnceSpec)

/-- ITS FALSE NEIGHBOUR: 'it returns false'. Refute it at one input. -/
def treesOnceWrong : ChangeSpec := { name := "treesOnce", fn := fun _ => fun
  | [d] => { results := [.lit (.bool false)], args := [d] }
  | _ => none }
def TreesOnceWrongFalsely : Prop := treesOnceRow.holds Try.pinned (OpenSpec.ofChange treesOnceWrong)

/-- 'spoorlaw14.TreesKids': WHATEVER THE INPUT: true; the input reads as it did. -/
def treesKidsSpec : ChangeSpec := { name := "treesKids", fn := fun _ => fun
  | [d] => { results := [.lit (.bool true)], args := [d] }
  | _ => none }
def treesKidsRow : OpenClaim := { program := "ytjidldbolbjdpaa", sum := "55c940c51ed1e32c817d4c5c66c514ff3214774a8fd2d192cb66e74a18bdc2d8", func := "spoor/spoorlaw14.TreesKids", spec := "treesKids", unfollowed := true, recurses := true, apart := false }
def TreesKidsSaid : Prop := treesKidsRow.holds Try.pinned (OpenSpec.ofChange treesKidsSpec)

/-- ITS FALSE NEIGHBOUR: 'it returns false'. Refute it at one input. -/
def treesKidsWrong : ChangeSpec := { name := "treesKids", fn := fun _ => fun
  | [d] => { results := [.lit (.bool false)], args := [d] }
  | _ => none }
def TreesKidsWrongFalsely : Prop := treesKidsRow.holds Try.pinned (OpenSpec.ofChange treesKidsWrong)

/-- 'spoorlaw14.TreesOrder': WHATEVER THE INPUT: true; the input reads as it did. -/
def treesOrderSpec : ChangeSpec := { name := "treesOrder", fn := fun _ => fun
  | [d1, d2, d3] => { results := [.lit (.bool true)], args := [d1, d2, d3] }
  | _ => none }
def treesOrderRow : OpenClaim := { program := "ytjidldbolbjdpaa", sum := "55c940c51ed1e32c817d4c5c66c514ff3214774a8fd2d192cb66e74a18bdc2d8", func := "spoor/spoorlaw14.TreesOrder", spec := "treesOrder", unfollowed := true, recurses := true, apart := false }
def TreesOrderSaid : Prop := treesOrderRow.holds Try.pinned (OpenSpec.ofChange treesOrderSpec)

/-- ITS FALSE NEIGHBOUR: 'it returns false'. Refute it at one input. -/
def treesOrderWrong : ChangeSpec := { name := "treesOrder", fn := fun _ => fun
  | [d1, d2, d3] => { results := [.lit (.bool false)], args := [d1, d2, d3] }
  | _ => none }
def TreesOrderWrongFalsely : Prop := treesOrderRow.holds Try.pinned (OpenSpec.ofChange treesOrderWrong)

/-- 'spoorlaw14.TreesWhole': WHATEVER THE INPUT: true; the input reads as it did. -/
def treesWholeSpec : ChangeSpec := { name := "treesWhole", fn := fun _ => fun
  | [d1, d2] => { results := [.lit (.bool true)], args := [d1, d2] }
  | _ => none }
def treesWholeRow : OpenClaim := { program := "ytjidldbolbjdpaa", sum := "55c940c51ed1e32c817d4c5c66c514ff3214774a8fd2d192cb66e74a18bdc2d8", func := "spoor/spoorlaw14.TreesWhole", spec := "treesWhole", unfollowed := true, recurses := true, apart := false }
def TreesWholeSaid : Prop := treesWholeRow.holds Try.pinned (OpenSpec.ofChange treesWholeSpec)

/-- ITS FALSE NEIGHBOUR: 'it returns false'. Refute it at one input. -/
def treesWholeWrong : ChangeSpec := { name := "treesWhole", fn := fun _ => fun
  | [d1, d2] => { results := [.lit (.bool false)], args := [d1, d2] }
  | _ => none }
def TreesWholeWrongFalsely : Prop := treesWholeRow.holds Try.pinned (OpenSpec.ofChange treesWholeWrong)

/- THE SECOND FORM. 'bulk': how many values and letters a reading holds, each counted each time it is reached (what is shared counts as often as it is met; a slice's spare places count too). A statement '..UptoSaid' is the law's where the arguments, and the package variables that the reading takes, are together of bulk at most 1048576: NARROWER than '..Said'. Prove '..Said' where nothing that the law and all that it calls make is longer than what came in: it says more and counts as full. Else prove '..UptoSaid'. A law counts once. -/
mutual
def uptoBulk {H : Type} : DataW H → Nat
  | .lit (.string bytes) => bytes.length + 1
  | .lit _ => 1
  | .nil => 1
  | .ptr d => uptoBulk d + 1
  | .slice elems spare => uptoBulkAll elems + uptoBulkAll spare + 1
  | .agg parts => uptoBulkAll parts + 1
  | .iface _ d => uptoBulk d + 1
  | .map entries => uptoBulkEntries entries + 1
  | .held _ => 1
def uptoBulkAll {H : Type} : List (DataW H) → Nat
  | [] => 0
  | d :: r => uptoBulk d + uptoBulkAll r
def uptoBulkEntries {H : Type} : List (Lit × DataW H) → Nat
  | [] => 0
  | x :: r => uptoBulkEntry x + uptoBulkEntries r
def uptoBulkEntry {H : Type} : Lit × DataW H → Nat
  | (.string bytes, d) => bytes.length + uptoBulk d + 1
  | (_, d) => uptoBulk d + 1
 end
def uptoSmall : (H : Type) → List (DataW H) → Bool := fun _ ds => decide (uptoBulkAll ds ≤ 1048576)
def OpenSpec.upto (s : _root_.Go.ChangeSpec) : _root_.Go.OpenSpec := { _root_.Go.OpenSpec.ofChange s with cond := some uptoSmall }

/-- 'spoorlaw14.TreesOf', WHERE WHAT IT READS IS OF BULK AT MOST 1048576: true; the input reads as it did. -/
def treesOfUptoRow : OpenClaim := { program := "ytjidldbolbjdpaa", sum := "55c940c51ed1e32c817d4c5c66c514ff3214774a8fd2d192cb66e74a18bdc2d8", func := "spoor/spoorlaw14.TreesOf", spec := "treesOf", unfollowed := true, recurses := true, apart := false, narrowed := true }
def TreesOfUptoSaid : Prop := treesOfUptoRow.holds Try.pinned (OpenSpec.upto treesOfSpec)

/-- 'spoorlaw14.TreesFlat', WHERE WHAT IT READS IS OF BULK AT MOST 1048576: true; the input reads as it did. -/
def treesFlatUptoRow : OpenClaim := { program := "ytjidldbolbjdpaa", sum := "55c940c51ed1e32c817d4c5c66c514ff3214774a8fd2d192cb66e74a18bdc2d8", func := "spoor/spoorlaw14.TreesFlat", spec := "treesFlat", unfollowed := true, recurses := true, loops := true, apart := false, narrowed := true }
def TreesFlatUptoSaid : Prop := treesFlatUptoRow.holds Try.pinned (OpenSpec.upto treesFlatSpec)

/-- 'spoorlaw14.TreesOnce', WHERE WHAT IT READS IS OF BULK AT MOST 1048576: true; the input reads as it did. -/
def treesOnceUptoRow : OpenClaim := { program := "ytjidldbolbjdpaa", sum := "55c940c51ed1e32c817d4c5c66c514ff3214774a8fd2d192cb66e74a18bdc2d8", func := "spoor/spoorlaw14.TreesOnce", spec := "treesOnce", unfollowed := true, recurses := true, apart := false, narrowed := true }
def TreesOnceUptoSaid : Prop := treesOnceUptoRow.holds Try.pinned (OpenSpec.upto treesOnceSpec)

/-- 'spoorlaw14.TreesKids', WHERE WHAT IT READS IS OF BULK AT MOST 1048576: true; the input reads as it did. -/
def treesKidsUptoRow : OpenClaim := { program := "ytjidldbolbjdpaa", sum := "55c940c51ed1e32c817d4c5c66c514ff3214774a8fd2d192cb66e74a18bdc2d8", func := "spoor/spoorlaw14.TreesKids", spec := "treesKids", unfollowed := true, recurses := true, apart := false, narrowed := true }
def TreesKidsUptoSaid : Prop := treesKidsUptoRow.holds Try.pinned (OpenSpec.upto treesKidsSpec)

/-- 'spoorlaw14.TreesOrder', WHERE WHAT IT READS IS OF BULK AT MOST 1048576: true; the input reads as it did. -/
def treesOrderUptoRow : OpenClaim := { program := "ytjidldbolbjdpaa", sum := "55c940c51ed1e32c817d4c5c66c514ff3214774a8fd2d192cb66e74a18bdc2d8", func := "spoor/spoorlaw14.TreesOrder", spec := "treesOrder", unfollowed := true, recurses := true, apart := false, narrowed := true }
def TreesOrderUptoSaid : Prop := treesOrderUptoRow.holds Try.pinned (OpenSpec.upto treesOrderSpec)

/-- 'spoorlaw14.TreesWhole', WHERE WHAT IT READS IS OF BULK AT MOST 1048576: true; the input reads as it did. -/
def treesWholeUptoRow : OpenClaim := { program := "ytjidldbolbjdpaa", sum := "55c940c51ed1e32c817d4c5c66c514ff3214774a8fd2d192cb66e74a18bdc2d8", func := "spoor/spoorlaw14.TreesWhole", spec := "treesWhole", unfollowed := true, recurses := true, apart := false, narrowed := true }
def TreesWholeUptoSaid : Prop := treesWholeUptoRow.holds Try.pinned (OpenSpec.upto treesWholeSpec)

end Rows
end Go.Proofs.Ytjidldbolbjdpaa
