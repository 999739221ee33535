/-
  No cell of these rows narrows 'for every input' (looked for: loops, veiled, ifaces, maps, wideKeys, modest, calm, conditions, laid).
  DERIVED. THE GIVEN ROWS OF THIS SEAT. 6 by the template 'for every input the law returns true; each argument reads behind the call as it read before'; 0 by the template 'total and deterministic' (their statements: YtfhpjopdndnmgaaTotals.lean).
  GIVEN WITH THE SEED: the statements are not yours to turn. If you find one false, say at which input.
  Laid BY PROGRAM, IN A SANDBOX (cutbox-rows.mjs): the forced cells as the released guide's own fill.sh prints them over the translation 5dfc0e7df4b9a7dc… (all of the seat's roots in one cut). By AI agents, Wed Nov 11 2026. No macro, syntax, notation, axiom, sorry.
-/
import Derived.Test.YtfhpjopdndnmgaaChecked
import GoSem.Claim
import GoSem.ClaimJoined
import GoSem.ClaimMapViews
import Derived.JoinedTies
import Derived.KernelRfl
namespace Go.Proofs.Ytfhpjopdndnmgaa
/- THE CELL 'sum', in the pinned program and in every row, IS THE sha256 OF THE DUMP (.gsa) THAT YtfhpjopdndnmgaaProg.lean LOADS. Nothing in Lean hashes anything: it is a label: what it is worth is what the hold of that sum in a sandbox is worth. -/
noncomputable def Try.pinned : Pinned := { name := "ytfhpjopdndnmgaa", sum := "5dfc0e7df4b9a7dccd7c6de6c681ef0541a6040e765abab8261b2cfe76b59981", checked := Try.checked }
namespace Rows
def none {H : Type} : Left H := { results := [], args := [] }

/-- 'spoorlaw11.MergesAll': WHATEVER THE INPUT: true; the input reads as it did. -/
def mergesAllSpec : ChangeSpec := { name := "mergesAll", fn := fun _ => fun
  | [d] => { results := [.lit (.bool true)], args := [d] }
  | _ => none }
def mergesAllRow : OpenClaim := { program := "ytfhpjopdndnmgaa", sum := "5dfc0e7df4b9a7dccd7c6de6c681ef0541a6040e765abab8261b2cfe76b59981", func := "spoor/spoorlaw11.MergesAll", spec := "mergesAll", unfollowed := true, recurses := true, apart := false }
def MergesAllSaid : Prop := mergesAllRow.holds Try.pinned (OpenSpec.ofChange mergesAllSpec)

/-- ITS FALSE NEIGHBOUR: 'it returns false'. Refute it at one input. -/
def mergesAllWrong : ChangeSpec := { name := "mergesAll", fn := fun _ => fun
  | [d] => { results := [.lit (.bool false)], args := [d] }
  | _ => none }
def MergesAllWrongFalsely : Prop := mergesAllRow.holds Try.pinned (OpenSpec.ofChange mergesAllWrong)

/-- 'spoorlaw11.MergesNext': WHATEVER THE INPUT: true; the input reads as it did. -/
def mergesNextSpec : ChangeSpec := { name := "mergesNext", fn := fun _ => fun
  | [d] => { results := [.lit (.bool true)], args := [d] }
  | _ => none }
def mergesNextRow : OpenClaim := { program := "ytfhpjopdndnmgaa", sum := "5dfc0e7df4b9a7dccd7c6de6c681ef0541a6040e765abab8261b2cfe76b59981", func := "spoor/spoorlaw11.MergesNext", spec := "mergesNext", unfollowed := true, recurses := true, apart := false }
def MergesNextSaid : Prop := mergesNextRow.holds Try.pinned (OpenSpec.ofChange mergesNextSpec)

/-- ITS FALSE NEIGHBOUR: 'it returns false'. Refute it at one input. -/
def mergesNextWrong : ChangeSpec := { name := "mergesNext", fn := fun _ => fun
  | [d] => { results := [.lit (.bool false)], args := [d] }
  | _ => none }
def MergesNextWrongFalsely : Prop := mergesNextRow.holds Try.pinned (OpenSpec.ofChange mergesNextWrong)

/-- 'spoorlaw11.MergesCount': WHATEVER THE INPUT: true; the input reads as it did. -/
def mergesCountSpec : ChangeSpec := { name := "mergesCount", fn := fun _ => fun
  | [d] => { results := [.lit (.bool true)], args := [d] }
  | _ => none }
def mergesCountRow : OpenClaim := { program := "ytfhpjopdndnmgaa", sum := "5dfc0e7df4b9a7dccd7c6de6c681ef0541a6040e765abab8261b2cfe76b59981", func := "spoor/spoorlaw11.MergesCount", spec := "mergesCount", unfollowed := true, recurses := true, apart := false }
def MergesCountSaid : Prop := mergesCountRow.holds Try.pinned (OpenSpec.ofChange mergesCountSpec)

/-- ITS FALSE NEIGHBOUR: 'it returns false'. Refute it at one input. -/
def mergesCountWrong : ChangeSpec := { name := "mergesCount", fn := fun _ => fun
  | [d] => { results := [.lit (.bool false)], args := [d] }
  | _ => none }
def MergesCountWrongFalsely : Prop := mergesCountRow.holds Try.pinned (OpenSpec.ofChange mergesCountWrong)

/-- 'spoorlaw11.MergesNewest': WHATEVER THE INPUT: true; the input reads as it did. -/
def mergesNewestSpec : ChangeSpec := { name := "mergesNewest", fn := fun _ => fun
  | [d] => { results := [.lit (.bool true)], args := [d] }
  | _ => none }
def mergesNewestRow : OpenClaim := { program := "ytfhpjopdndnmgaa", sum := "5dfc0e7df4b9a7dccd7c6de6c681ef0541a6040e765abab8261b2cfe76b59981", func := "spoor/spoorlaw11.MergesNewest", spec := "mergesNewest", unfollowed := true, recurses := true, apart := false }
def MergesNewestSaid : Prop := mergesNewestRow.holds Try.pinned (OpenSpec.ofChange mergesNewestSpec)

/-- ITS FALSE NEIGHBOUR: 'it returns false'. Refute it at one input. -/
def mergesNewestWrong : ChangeSpec := { name := "mergesNewest", fn := fun _ => fun
  | [d] => { results := [.lit (.bool false)], args := [d] }
  | _ => none }
def MergesNewestWrongFalsely : Prop := mergesNewestRow.holds Try.pinned (OpenSpec.ofChange mergesNewestWrong)

/-- 'spoorlaw11.MergesOrder': WHATEVER THE INPUT: true; the input reads as it did. -/
def mergesOrderSpec : ChangeSpec := { name := "mergesOrder", fn := fun _ => fun
  | [d1, d2] => { results := [.lit (.bool true)], args := [d1, d2] }
  | _ => none }
def mergesOrderRow : OpenClaim := { program := "ytfhpjopdndnmgaa", sum := "5dfc0e7df4b9a7dccd7c6de6c681ef0541a6040e765abab8261b2cfe76b59981", func := "spoor/spoorlaw11.MergesOrder", spec := "mergesOrder", unfollowed := true, recurses := true, apart := false }
def MergesOrderSaid : Prop := mergesOrderRow.holds Try.pinned (OpenSpec.ofChange mergesOrderSpec)

/-- ITS FALSE NEIGHBOUR: 'it returns false'. Refute it at one input. -/
def mergesOrderWrong : ChangeSpec := { name := "mergesOrder", fn := fun _ => fun
  | [d1, d2] => { results := [.lit (.bool false)], args := [d1, d2] }
  | _ => none }
def MergesOrderWrongFalsely : Prop := mergesOrderRow.holds Try.pinned (OpenSpec.ofChange mergesOrderWrong)

/-- 'spoorlaw11.MergesParts': WHATEVER THE INPUT: true; the input reads as it did. -/
def mergesPartsSpec : ChangeSpec := { name := "mergesParts", fn := fun _ => fun
  | [d1, d2] => { results := [.lit (.bool true)], args := [d1, d2] }
  | _ => none }
def mergesPartsRow : OpenClaim := { program := "ytfhpjopdndnmgaa", sum := "5dfc0e7df4b9a7dccd7c6de6c681ef0541a6040e765abab8261b2cfe76b59981", func := "spoor/spoorlaw11.MergesParts", spec := "mergesParts", unfollowed := true, recurses := true, apart := false }
def MergesPartsSaid : Prop := mergesPartsRow.holds Try.pinned (OpenSpec.ofChange mergesPartsSpec)

/-- ITS FALSE NEIGHBOUR: 'it returns false'. Refute it at one input. -/
def mergesPartsWrong : ChangeSpec := { name := "mergesParts", fn := fun _ => fun
  | [d1, d2] => { results := [.lit (.bool false)], args := [d1, d2] }
  | _ => none }
def MergesPartsWrongFalsely : Prop := mergesPartsRow.holds Try.pinned (OpenSpec.ofChange mergesPartsWrong)

/- THE SECOND FORM. 'bulk': how many values and letters a reading holds, each counted each time it is reached (what is shared counts as often as it is met; a slice's spare places count too). A statement '..UptoSaid' is the law's where the arguments, and the package variables that the reading takes, are together of bulk at most 1048576: NARROWER than '..Said'. Prove '..Said' where nothing that the law and all that it calls make is longer than what came in: it says more and counts as full. Else prove '..UptoSaid'. A law counts once. -/
mutual
def uptoBulk {H : Type} : DataW H → Nat
  | .lit (.string bytes) => bytes.length + 1
  | .lit _ => 1
  | .nil => 1
  | .ptr d => uptoBulk d + 1
  | .slice elems spare => uptoBulkAll elems + uptoBulkAll spare + 1
  | .agg parts => uptoBulkAll parts + 1
  | .iface _ d => uptoBulk d + 1
  | .map entries => uptoBulkEntries entries + 1
  | .held _ => 1
def uptoBulkAll {H : Type} : List (DataW H) → Nat
  | [] => 0
  | d :: r => uptoBulk d + uptoBulkAll r
def uptoBulkEntries {H : Type} : List (Lit × DataW H) → Nat
  | [] => 0
  | x :: r => uptoBulkEntry x + uptoBulkEntries r
def uptoBulkEntry {H : Type} : Lit × DataW H → Nat
  | (.string bytes, d) => bytes.length + uptoBulk d + 1
  | (_, d) => uptoBulk d + 1
 end
def uptoSmall : (H : Type) → List (DataW H) → Bool := fun _ ds => decide (uptoBulkAll ds ≤ 1048576)
def OpenSpec.upto (s : _root_.Go.ChangeSpec) : _root_.Go.OpenSpec := { _root_.Go.OpenSpec.ofChange s with cond := some uptoSmall }

/-- 'spoorlaw11.MergesAll', WHERE WHAT IT READS IS OF BULK AT MOST 1048576: true; the input reads as it did. -/
def mergesAllUptoRow : OpenClaim := { program := "ytfhpjopdndnmgaa", sum := "5dfc0e7df4b9a7dccd7c6de6c681ef0541a6040e765abab8261b2cfe76b59981", func := "spoor/spoorlaw11.MergesAll", spec := "mergesAll", unfollowed := true, recurses := true, apart := false, narrowed := true }
def MergesAllUptoSaid : Prop := mergesAllUptoRow.holds Try.pinned (OpenSpec.upto mergesAllSpec)

/-- 'spoorlaw11.MergesNext', WHERE WHAT IT READS IS OF BULK AT MOST 1048576: true; the input reads as it did. -/
def mergesNextUptoRow : OpenClaim := { program := "ytfhpjopdndnmgaa", sum := "5dfc0e7df4b9a7dccd7c6de6c681ef0541a6040e765abab8261b2cfe76b59981", func := "spoor/spoorlaw11.MergesNext", spec := "mergesNext", unfollowed := true, recurses := true, apart := false, narrowed := true }
def MergesNextUptoSaid : Prop := mergesNextUptoRow.holds Try.pinned (OpenSpec.upto mergesNextSpec)

/-- 'spoorlaw11.MergesCount', WHERE WHAT IT READS IS OF BULK AT MOST 1048576: true; the input reads as it did. -/
def mergesCountUptoRow : OpenClaim := { program := "ytfhpjopdndnmgaa", sum := "5dfc0e7df4b9a7dccd7c6de6c681ef0541a6040e765abab8261b2cfe76b59981", func := "spoor/spoorlaw11.MergesCount", spec := "mergesCount", unfollowed := true, recurses := true, apart := false, narrowed := true }
def MergesCountUptoSaid : Prop := mergesCountUptoRow.holds Try.pinned (OpenSpec.upto mergesCountSpec)

/-- 'spoorlaw11.MergesNewest', WHERE WHAT IT READS IS OF BULK AT MOST 1048576: true; the input reads as it did. -/
def mergesNewestUptoRow : OpenClaim := { program := "ytfhpjopdndnmgaa", sum := "5dfc0e7df4b9a7dccd7c6de6c681ef0541a6040e765abab8261b2cfe76b59981", func := "spoor/spoorlaw11.MergesNewest", spec := "mergesNewest", unfollowed := true, recurses := true, apart := false, narrowed := true }
def MergesNewestUptoSaid : Prop := mergesNewestUptoRow.holds Try.pinned (OpenSpec.upto mergesNewestSpec)

/-- 'spoorlaw11.MergesOrder', WHERE WHAT IT READS IS OF BULK AT MOST 1048576: true; the input reads as it did. -/
def mergesOrderUptoRow : OpenClaim := { program := "ytfhpjopdndnmgaa", sum := "5dfc0e7df4b9a7dccd7c6de6c681ef0541a6040e765abab8261b2cfe76b59981", func := "spoor/spoorlaw11.MergesOrder", spec := "mergesOrder", unfollowed := true, recurses := true, apart := false, narrowed := true }
def MergesOrderUptoSaid : Prop := mergesOrderUptoRow.holds Try.pinned (OpenSpec.upto mergesOrderSpec)

/-- 'spoorlaw11.MergesParts', WHERE WHAT IT READS IS OF BULK AT MOST 1048576: true; the input reads as it did. -/
def mergesPartsUptoRow : OpenClaim := { program := "ytfhpjopdndnmgaa", sum := "5dfc0e7df4b9a7dccd7c6de6c681ef0541a6040e765abab8261b2cfe76b59981", func := "spoor/spoorlaw11.MergesParts", spec := "mergesParts", unfollowed := true, recurses := true, apart := false, narrowed := true }
def MergesPartsUptoSaid : Prop := mergesPartsUptoRow.holds Try.pinned (OpenSpec.upto mergesPartsSpec)

end Rows
end Go.Proofs.Ytfhpjopdndnmgaa
