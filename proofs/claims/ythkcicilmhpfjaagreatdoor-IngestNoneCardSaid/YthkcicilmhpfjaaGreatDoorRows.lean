/-
  NARROWER THAN 'FOR EVERY INPUT', by the rows' own cells (each row's printed sentence says how): IngestNone: laid · StoreNone: laid · DepotNone: laid · RepoNone: laid · FarmNone: laid · FairNone: laid.
  DERIVED. THE GIVEN ROWS OF THIS SEAT. 6 by the template 'for every input the law returns true; each argument reads behind the call as it read before'; 0 by the template 'total and deterministic' (their statements: YthkcicilmhpfjaaGreatDoorTotals.lean).
  GIVEN WITH THE SEED: the statements are not yours to turn. If you find one false, say at which input.
  Laid BY PROGRAM, IN A SANDBOX (cutbox-rows.mjs): the forced cells as the released guide's own fill.sh prints them over the translation 505e5a8d9abb3d83… (all of the seat's roots in one cut). By AI agents, Wed Nov 11 2026. No macro, syntax, notation, axiom, sorry.
-/
import Derived.Test.YthkcicilmhpfjaaGreatDoorChecked
import GoSem.Claim
import GoSem.ClaimJoined
import GoSem.ClaimMapViews
import Derived.JoinedTies
import Derived.KernelRfl
namespace Go.Proofs.YthkcicilmhpfjaaGreatDoor
/- THE CELL 'sum', in the pinned program and in every row, IS THE sha256 OF THE DUMP (.gsa) THAT YthkcicilmhpfjaaGreatDoorProg.lean LOADS. Nothing in Lean hashes anything: it is a label: what it is worth is what the hold of that sum in a sandbox is worth. -/
noncomputable def Tryz.pinned : Pinned := { name := "ythkcicilmhpfjaagreatdoor", sum := "505e5a8d9abb3d83946ba4f7322bf572ce9176235b402cc4cc419718fe9df6a7", checked := Tryz.checked }
namespace Rows
def none {H : Type} : Left H := { results := [], args := [] }

/- WHAT THE LISTED PACKAGE-LEVEL VARIABLES READ AS WHEN THE CALL BEGINS. Each datum BY PROGRAM (the guide's laid-datum.mjs) off the statement by which the dump's own 'gosem.cut.vars' lays the variable. In a bare row this is a premise. The card (YthkcicilmhpfjaaGreatDoorCards.lean) ties it to the program's text. -/
def laid_strconv_ErrSyntax {H : Type} : DataW H := .iface "*errors.errorString" (.ptr (.agg [.lit (.string [105, 110, 118, 97, 108, 105, 100, 32, 115, 121, 110, 116, 97, 120])]))
def laid_strconv_ErrRange {H : Type} : DataW H := .iface "*errors.errorString" (.ptr (.agg [.lit (.string [118, 97, 108, 117, 101, 32, 111, 117, 116, 32, 111, 102, 32, 114, 97, 110, 103, 101])]))
def laid_internal_strconv_uint64pow10 {H : Type} : DataW H := .agg [.lit (.int .u64 1), .lit (.int .u64 10), .lit (.int .u64 100), .lit (.int .u64 1000), .lit (.int .u64 10000), .lit (.int .u64 100000), .lit (.int .u64 1000000), .lit (.int .u64 10000000), .lit (.int .u64 100000000), .lit (.int .u64 1000000000), .lit (.int .u64 10000000000), .lit (.int .u64 100000000000), .lit (.int .u64 1000000000000), .lit (.int .u64 10000000000000), .lit (.int .u64 100000000000000), .lit (.int .u64 1000000000000000), .lit (.int .u64 10000000000000000), .lit (.int .u64 100000000000000000), .lit (.int .u64 1000000000000000000), .lit (.int .u64 10000000000000000000)]
def laid_math_bits_deBruijn32tab {H : Type} : DataW H := .agg [.lit (.int .u8 0), .lit (.int .u8 1), .lit (.int .u8 28), .lit (.int .u8 2), .lit (.int .u8 29), .lit (.int .u8 14), .lit (.int .u8 24), .lit (.int .u8 3), .lit (.int .u8 30), .lit (.int .u8 22), .lit (.int .u8 20), .lit (.int .u8 15), .lit (.int .u8 25), .lit (.int .u8 17), .lit (.int .u8 4), .lit (.int .u8 8), .lit (.int .u8 31), .lit (.int .u8 27), .lit (.int .u8 13), .lit (.int .u8 23), .lit (.int .u8 21), .lit (.int .u8 19), .lit (.int .u8 16), .lit (.int .u8 7), .lit (.int .u8 26), .lit (.int .u8 12), .lit (.int .u8 18), .lit (.int .u8 6), .lit (.int .u8 11), .lit (.int .u8 5), .lit (.int .u8 10), .lit (.int .u8 9)]
def laid_math_bits_deBruijn64tab {H : Type} : DataW H := .agg [.lit (.int .u8 0), .lit (.int .u8 1), .lit (.int .u8 56), .lit (.int .u8 2), .lit (.int .u8 57), .lit (.int .u8 49), .lit (.int .u8 28), .lit (.int .u8 3), .lit (.int .u8 61), .lit (.int .u8 58), .lit (.int .u8 42), .lit (.int .u8 50), .lit (.int .u8 38), .lit (.int .u8 29), .lit (.int .u8 17), .lit (.int .u8 4), .lit (.int .u8 62), .lit (.int .u8 47), .lit (.int .u8 59), .lit (.int .u8 36), .lit (.int .u8 45), .lit (.int .u8 43), .lit (.int .u8 51), .lit (.int .u8 22), .lit (.int .u8 53), .lit (.int .u8 39), .lit (.int .u8 33), .lit (.int .u8 30), .lit (.int .u8 24), .lit (.int .u8 18), .lit (.int .u8 12), .lit (.int .u8 5), .lit (.int .u8 63), .lit (.int .u8 55), .lit (.int .u8 48), .lit (.int .u8 27), .lit (.int .u8 60), .lit (.int .u8 41), .lit (.int .u8 37), .lit (.int .u8 16), .lit (.int .u8 46), .lit (.int .u8 35), .lit (.int .u8 44), .lit (.int .u8 21), .lit (.int .u8 52), .lit (.int .u8 32), .lit (.int .u8 23), .lit (.int .u8 11), .lit (.int .u8 54), .lit (.int .u8 26), .lit (.int .u8 40), .lit (.int .u8 15), .lit (.int .u8 34), .lit (.int .u8 20), .lit (.int .u8 31), .lit (.int .u8 10), .lit (.int .u8 25), .lit (.int .u8 14), .lit (.int .u8 19), .lit (.int .u8 9), .lit (.int .u8 13), .lit (.int .u8 8), .lit (.int .u8 7), .lit (.int .u8 6)]

/-- 'spoorlaw22.IngestNone': WHATEVER THE INPUT: true; the input reads as it did. -/
def ingestNoneSpec : ChangeSpec := { name := "ingestNone", fn := fun _ => fun
  | [d1, d2] => { results := [.lit (.bool true)], args := [d1, d2] }
  | _ => none }
def ingestNoneRow : OpenClaim := { program := "ythkcicilmhpfjaagreatdoor", sum := "505e5a8d9abb3d83946ba4f7322bf572ce9176235b402cc4cc419718fe9df6a7", func := "spoor/spoorlaw22.IngestNone", spec := "ingestNone", inPlace := ["slices.overlaps[spoor/api.Tablet]", "slices.overlaps[spoor/api.Cell]", "slices.overlaps[spoor/memory.page]", "internal/abi.NoEscape", "internal/bytealg.IndexByteString", "internal/bytealg.IndexString"], unfollowed := true, recurses := true, named := ["strconv.ErrSyntax", "strconv.ErrRange", "internal/strconv.uint64pow10", "math/bits.deBruijn32tab", "math/bits.deBruijn64tab", "internal/bytealg.MaxLen"], apart := false, laid := [("strconv.ErrSyntax", laid_strconv_ErrSyntax), ("strconv.ErrRange", laid_strconv_ErrRange), ("internal/strconv.uint64pow10", laid_internal_strconv_uint64pow10), ("math/bits.deBruijn32tab", laid_math_bits_deBruijn32tab), ("math/bits.deBruijn64tab", laid_math_bits_deBruijn64tab)] }
def IngestNoneSaid : Prop := ingestNoneRow.holds Tryz.pinned (OpenSpec.ofChange ingestNoneSpec)

/-- ITS FALSE NEIGHBOUR: 'it returns false'. Refute it at one input. -/
def ingestNoneWrong : ChangeSpec := { name := "ingestNone", fn := fun _ => fun
  | [d1, d2] => { results := [.lit (.bool false)], args := [d1, d2] }
  | _ => none }
def IngestNoneWrongFalsely : Prop := ingestNoneRow.holds Tryz.pinned (OpenSpec.ofChange ingestNoneWrong)

/-- 'spoorlaw20.StoreNone': WHATEVER THE INPUT: true; the input reads as it did. -/
def storeNoneSpec : ChangeSpec := { name := "storeNone", fn := fun _ => fun
  | [d1, d2, d3] => { results := [.lit (.bool true)], args := [d1, d2, d3] }
  | _ => none }
def storeNoneRow : OpenClaim := { program := "ythkcicilmhpfjaagreatdoor", sum := "505e5a8d9abb3d83946ba4f7322bf572ce9176235b402cc4cc419718fe9df6a7", func := "spoor/spoorlaw20.StoreNone", spec := "storeNone", inPlace := ["slices.overlaps[spoor/api.Tablet]", "slices.overlaps[spoor/api.Cell]", "slices.overlaps[spoor/memory.page]", "internal/abi.NoEscape", "internal/bytealg.IndexByteString", "internal/bytealg.IndexString", "slices.overlaps[*spoor/memory.Memory]"], unfollowed := true, recurses := true, named := ["strconv.ErrSyntax", "strconv.ErrRange", "internal/strconv.uint64pow10", "math/bits.deBruijn32tab", "math/bits.deBruijn64tab", "internal/bytealg.MaxLen"], apart := false, laid := [("strconv.ErrSyntax", laid_strconv_ErrSyntax), ("strconv.ErrRange", laid_strconv_ErrRange), ("internal/strconv.uint64pow10", laid_internal_strconv_uint64pow10), ("math/bits.deBruijn32tab", laid_math_bits_deBruijn32tab), ("math/bits.deBruijn64tab", laid_math_bits_deBruijn64tab)] }
def StoreNoneSaid : Prop := storeNoneRow.holds Tryz.pinned (OpenSpec.ofChange storeNoneSpec)

/-- ITS FALSE NEIGHBOUR: 'it returns false'. Refute it at one input. -/
def storeNoneWrong : ChangeSpec := { name := "storeNone", fn := fun _ => fun
  | [d1, d2, d3] => { results := [.lit (.bool false)], args := [d1, d2, d3] }
  | _ => none }
def StoreNoneWrongFalsely : Prop := storeNoneRow.holds Tryz.pinned (OpenSpec.ofChange storeNoneWrong)

/-- 'spoorlaw23.DepotNone': WHATEVER THE INPUT: true; the input reads as it did. -/
def depotNoneSpec : ChangeSpec := { name := "depotNone", fn := fun _ => fun
  | [d] => { results := [.lit (.bool true)], args := [d] }
  | _ => none }
def depotNoneRow : OpenClaim := { program := "ythkcicilmhpfjaagreatdoor", sum := "505e5a8d9abb3d83946ba4f7322bf572ce9176235b402cc4cc419718fe9df6a7", func := "spoor/spoorlaw23.DepotNone", spec := "depotNone", inPlace := ["slices.overlaps[spoor/api.Tablet]", "slices.overlaps[spoor/api.Cell]", "slices.overlaps[spoor/memory.page]", "internal/abi.NoEscape", "internal/bytealg.IndexByteString", "internal/bytealg.IndexString"], unfollowed := true, recurses := true, named := ["strconv.ErrSyntax", "strconv.ErrRange", "internal/strconv.uint64pow10", "math/bits.deBruijn32tab", "math/bits.deBruijn64tab", "internal/bytealg.MaxLen"], apart := false, laid := [("strconv.ErrSyntax", laid_strconv_ErrSyntax), ("strconv.ErrRange", laid_strconv_ErrRange), ("internal/strconv.uint64pow10", laid_internal_strconv_uint64pow10), ("math/bits.deBruijn32tab", laid_math_bits_deBruijn32tab), ("math/bits.deBruijn64tab", laid_math_bits_deBruijn64tab)] }
def DepotNoneSaid : Prop := depotNoneRow.holds Tryz.pinned (OpenSpec.ofChange depotNoneSpec)

/-- ITS FALSE NEIGHBOUR: 'it returns false'. Refute it at one input. -/
def depotNoneWrong : ChangeSpec := { name := "depotNone", fn := fun _ => fun
  | [d] => { results := [.lit (.bool false)], args := [d] }
  | _ => none }
def DepotNoneWrongFalsely : Prop := depotNoneRow.holds Tryz.pinned (OpenSpec.ofChange depotNoneWrong)

/-- 'spoorlaw26.RepoNone': WHATEVER THE INPUT: true; the input reads as it did. -/
def repoNoneSpec : ChangeSpec := { name := "repoNone", fn := fun _ => fun
  | [d1, d2] => { results := [.lit (.bool true)], args := [d1, d2] }
  | _ => none }
def repoNoneRow : OpenClaim := { program := "ythkcicilmhpfjaagreatdoor", sum := "505e5a8d9abb3d83946ba4f7322bf572ce9176235b402cc4cc419718fe9df6a7", func := "spoor/spoorlaw26.RepoNone", spec := "repoNone", inPlace := ["slices.overlaps[spoor/api.Tablet]", "slices.overlaps[spoor/api.Cell]", "slices.overlaps[spoor/memory.page]", "internal/abi.NoEscape", "internal/bytealg.IndexByteString", "internal/bytealg.IndexString", "slices.overlaps[*spoor/memory.Memory]"], unfollowed := true, recurses := true, named := ["strconv.ErrSyntax", "strconv.ErrRange", "internal/strconv.uint64pow10", "math/bits.deBruijn32tab", "math/bits.deBruijn64tab", "internal/bytealg.MaxLen"], apart := false, laid := [("strconv.ErrSyntax", laid_strconv_ErrSyntax), ("strconv.ErrRange", laid_strconv_ErrRange), ("internal/strconv.uint64pow10", laid_internal_strconv_uint64pow10), ("math/bits.deBruijn32tab", laid_math_bits_deBruijn32tab), ("math/bits.deBruijn64tab", laid_math_bits_deBruijn64tab)] }
def RepoNoneSaid : Prop := repoNoneRow.holds Tryz.pinned (OpenSpec.ofChange repoNoneSpec)

/-- ITS FALSE NEIGHBOUR: 'it returns false'. Refute it at one input. -/
def repoNoneWrong : ChangeSpec := { name := "repoNone", fn := fun _ => fun
  | [d1, d2] => { results := [.lit (.bool false)], args := [d1, d2] }
  | _ => none }
def RepoNoneWrongFalsely : Prop := repoNoneRow.holds Tryz.pinned (OpenSpec.ofChange repoNoneWrong)

/-- 'spoorlaw28.FarmNone': WHATEVER THE INPUT: true; the input reads as it did. -/
def farmNoneSpec : ChangeSpec := { name := "farmNone", fn := fun _ => fun
  | [d1, d2] => { results := [.lit (.bool true)], args := [d1, d2] }
  | _ => none }
def farmNoneRow : OpenClaim := { program := "ythkcicilmhpfjaagreatdoor", sum := "505e5a8d9abb3d83946ba4f7322bf572ce9176235b402cc4cc419718fe9df6a7", func := "spoor/spoorlaw28.FarmNone", spec := "farmNone", inPlace := ["slices.overlaps[spoor/api.Tablet]", "slices.overlaps[spoor/api.Cell]", "slices.overlaps[spoor/memory.page]", "slices.overlaps[spoor/hostlog.segment]", "slices.overlaps[string]", "internal/abi.NoEscape", "internal/bytealg.IndexByteString", "internal/bytealg.IndexString", "slices.overlaps[*spoor/memory.Memory]"], unfollowed := true, recurses := true, named := ["strconv.ErrSyntax", "strconv.ErrRange", "internal/strconv.uint64pow10", "math/bits.deBruijn32tab", "math/bits.deBruijn64tab", "internal/bytealg.MaxLen"], apart := false, laid := [("strconv.ErrSyntax", laid_strconv_ErrSyntax), ("strconv.ErrRange", laid_strconv_ErrRange), ("internal/strconv.uint64pow10", laid_internal_strconv_uint64pow10), ("math/bits.deBruijn32tab", laid_math_bits_deBruijn32tab), ("math/bits.deBruijn64tab", laid_math_bits_deBruijn64tab)] }
def FarmNoneSaid : Prop := farmNoneRow.holds Tryz.pinned (OpenSpec.ofChange farmNoneSpec)

/-- ITS FALSE NEIGHBOUR: 'it returns false'. Refute it at one input. -/
def farmNoneWrong : ChangeSpec := { name := "farmNone", fn := fun _ => fun
  | [d1, d2] => { results := [.lit (.bool false)], args := [d1, d2] }
  | _ => none }
def FarmNoneWrongFalsely : Prop := farmNoneRow.holds Tryz.pinned (OpenSpec.ofChange farmNoneWrong)

/-- 'spoorlaw30.FairNone': WHATEVER THE INPUT: true; the input reads as it did. -/
def fairNoneSpec : ChangeSpec := { name := "fairNone", fn := fun _ => fun
  | [d] => { results := [.lit (.bool true)], args := [d] }
  | _ => none }
def fairNoneRow : OpenClaim := { program := "ythkcicilmhpfjaagreatdoor", sum := "505e5a8d9abb3d83946ba4f7322bf572ce9176235b402cc4cc419718fe9df6a7", func := "spoor/spoorlaw30.FairNone", spec := "fairNone", inPlace := ["slices.overlaps[spoor/api.Tablet]", "internal/abi.NoEscape", "internal/bytealg.IndexByteString", "internal/bytealg.IndexString", "slices.overlaps[spoor/api.Cell]", "slices.overlaps[spoor/memory.page]", "slices.overlaps[*spoor/memory.Memory]", "slices.overlaps[spoor/hostlog.segment]", "slices.overlaps[string]"], unfollowed := true, recurses := true, named := ["internal/strconv.uint64pow10", "math/bits.deBruijn32tab", "math/bits.deBruijn64tab", "internal/bytealg.MaxLen", "strconv.ErrSyntax", "strconv.ErrRange"], apart := false, laid := [("internal/strconv.uint64pow10", laid_internal_strconv_uint64pow10), ("math/bits.deBruijn32tab", laid_math_bits_deBruijn32tab), ("math/bits.deBruijn64tab", laid_math_bits_deBruijn64tab), ("strconv.ErrSyntax", laid_strconv_ErrSyntax), ("strconv.ErrRange", laid_strconv_ErrRange)] }
def FairNoneSaid : Prop := fairNoneRow.holds Tryz.pinned (OpenSpec.ofChange fairNoneSpec)

/-- ITS FALSE NEIGHBOUR: 'it returns false'. Refute it at one input. -/
def fairNoneWrong : ChangeSpec := { name := "fairNone", fn := fun _ => fun
  | [d] => { results := [.lit (.bool false)], args := [d] }
  | _ => none }
def FairNoneWrongFalsely : Prop := fairNoneRow.holds Tryz.pinned (OpenSpec.ofChange fairNoneWrong)

/- THE SECOND FORM. 'bulk': how many values and letters a reading holds, each counted each time it is reached (what is shared counts as often as it is met; a slice's spare places count too). A statement '..UptoSaid' is the law's where the arguments, and the package variables that the reading takes, are together of bulk at most 1048576: NARROWER than '..Said'. Prove '..Said' where nothing that the law and all that it calls make is longer than what came in: it says more and counts as full. Else prove '..UptoSaid'. A law counts once. -/
mutual
def uptoBulk {H : Type} : DataW H → Nat
  | .lit (.string bytes) => bytes.length + 1
  | .lit _ => 1
  | .nil => 1
  | .ptr d => uptoBulk d + 1
  | .slice elems spare => uptoBulkAll elems + uptoBulkAll spare + 1
  | .agg parts => uptoBulkAll parts + 1
  | .iface _ d => uptoBulk d + 1
  | .map entries => uptoBulkEntries entries + 1
  | .held _ => 1
def uptoBulkAll {H : Type} : List (DataW H) → Nat
  | [] => 0
  | d :: r => uptoBulk d + uptoBulkAll r
def uptoBulkEntries {H : Type} : List (Lit × DataW H) → Nat
  | [] => 0
  | x :: r => uptoBulkEntry x + uptoBulkEntries r
def uptoBulkEntry {H : Type} : Lit × DataW H → Nat
  | (.string bytes, d) => bytes.length + uptoBulk d + 1
  | (_, d) => uptoBulk d + 1
 end
def uptoSmall : (H : Type) → List (DataW H) → Bool := fun _ ds => decide (uptoBulkAll ds ≤ 1048576)
def OpenSpec.upto (s : _root_.Go.ChangeSpec) : _root_.Go.OpenSpec := { _root_.Go.OpenSpec.ofChange s with cond := some uptoSmall }

/-- 'spoorlaw22.IngestNone', WHERE WHAT IT READS IS OF BULK AT MOST 1048576: true; the input reads as it did. -/
def ingestNoneUptoRow : OpenClaim := { program := "ythkcicilmhpfjaagreatdoor", sum := "505e5a8d9abb3d83946ba4f7322bf572ce9176235b402cc4cc419718fe9df6a7", func := "spoor/spoorlaw22.IngestNone", spec := "ingestNone", inPlace := ["slices.overlaps[spoor/api.Tablet]", "slices.overlaps[spoor/api.Cell]", "slices.overlaps[spoor/memory.page]", "internal/abi.NoEscape", "internal/bytealg.IndexByteString", "internal/bytealg.IndexString"], unfollowed := true, recurses := true, named := ["strconv.ErrSyntax", "strconv.ErrRange", "internal/strconv.uint64pow10", "math/bits.deBruijn32tab", "math/bits.deBruijn64tab", "internal/bytealg.MaxLen"], apart := false, laid := [("strconv.ErrSyntax", laid_strconv_ErrSyntax), ("strconv.ErrRange", laid_strconv_ErrRange), ("internal/strconv.uint64pow10", laid_internal_strconv_uint64pow10), ("math/bits.deBruijn32tab", laid_math_bits_deBruijn32tab), ("math/bits.deBruijn64tab", laid_math_bits_deBruijn64tab)], narrowed := true }
def IngestNoneUptoSaid : Prop := ingestNoneUptoRow.holds Tryz.pinned (OpenSpec.upto ingestNoneSpec)

/-- 'spoorlaw20.StoreNone', WHERE WHAT IT READS IS OF BULK AT MOST 1048576: true; the input reads as it did. -/
def storeNoneUptoRow : OpenClaim := { program := "ythkcicilmhpfjaagreatdoor", sum := "505e5a8d9abb3d83946ba4f7322bf572ce9176235b402cc4cc419718fe9df6a7", func := "spoor/spoorlaw20.StoreNone", spec := "storeNone", inPlace := ["slices.overlaps[spoor/api.Tablet]", "slices.overlaps[spoor/api.Cell]", "slices.overlaps[spoor/memory.page]", "internal/abi.NoEscape", "internal/bytealg.IndexByteString", "internal/bytealg.IndexString", "slices.overlaps[*spoor/memory.Memory]"], unfollowed := true, recurses := true, named := ["strconv.ErrSyntax", "strconv.ErrRange", "internal/strconv.uint64pow10", "math/bits.deBruijn32tab", "math/bits.deBruijn64tab", "internal/bytealg.MaxLen"], apart := false, laid := [("strconv.ErrSyntax", laid_strconv_ErrSyntax), ("strconv.ErrRange", laid_strconv_ErrRange), ("internal/strconv.uint64pow10", laid_internal_strconv_uint64pow10), ("math/bits.deBruijn32tab", laid_math_bits_deBruijn32tab), ("math/bits.deBruijn64tab", laid_math_bits_deBruijn64tab)], narrowed := true }
def StoreNoneUptoSaid : Prop := storeNoneUptoRow.holds Tryz.pinned (OpenSpec.upto storeNoneSpec)

/-- 'spoorlaw23.DepotNone', WHERE WHAT IT READS IS OF BULK AT MOST 1048576: true; the input reads as it did. -/
def depotNoneUptoRow : OpenClaim := { program := "ythkcicilmhpfjaagreatdoor", sum := "505e5a8d9abb3d83946ba4f7322bf572ce9176235b402cc4cc419718fe9df6a7", func := "spoor/spoorlaw23.DepotNone", spec := "depotNone", inPlace := ["slices.overlaps[spoor/api.Tablet]", "slices.overlaps[spoor/api.Cell]", "slices.overlaps[spoor/memory.page]", "internal/abi.NoEscape", "internal/bytealg.IndexByteString", "internal/bytealg.IndexString"], unfollowed := true, recurses := true, named := ["strconv.ErrSyntax", "strconv.ErrRange", "internal/strconv.uint64pow10", "math/bits.deBruijn32tab", "math/bits.deBruijn64tab", "internal/bytealg.MaxLen"], apart := false, laid := [("strconv.ErrSyntax", laid_strconv_ErrSyntax), ("strconv.ErrRange", laid_strconv_ErrRange), ("internal/strconv.uint64pow10", laid_internal_strconv_uint64pow10), ("math/bits.deBruijn32tab", laid_math_bits_deBruijn32tab), ("math/bits.deBruijn64tab", laid_math_bits_deBruijn64tab)], narrowed := true }
def DepotNoneUptoSaid : Prop := depotNoneUptoRow.holds Tryz.pinned (OpenSpec.upto depotNoneSpec)

/-- 'spoorlaw26.RepoNone', WHERE WHAT IT READS IS OF BULK AT MOST 1048576: true; the input reads as it did. -/
def repoNoneUptoRow : OpenClaim := { program := "ythkcicilmhpfjaagreatdoor", sum := "505e5a8d9abb3d83946ba4f7322bf572ce9176235b402cc4cc419718fe9df6a7", func := "spoor/spoorlaw26.RepoNone", spec := "repoNone", inPlace := ["slices.overlaps[spoor/api.Tablet]", "slices.overlaps[spoor/api.Cell]", "slices.overlaps[spoor/memory.page]", "internal/abi.NoEscape", "internal/bytealg.IndexByteString", "internal/bytealg.IndexString", "slices.overlaps[*spoor/memory.Memory]"], unfollowed := true, recurses := true, named := ["strconv.ErrSyntax", "strconv.ErrRange", "internal/strconv.uint64pow10", "math/bits.deBruijn32tab", "math/bits.deBruijn64tab", "internal/bytealg.MaxLen"], apart := false, laid := [("strconv.ErrSyntax", laid_strconv_ErrSyntax), ("strconv.ErrRange", laid_strconv_ErrRange), ("internal/strconv.uint64pow10", laid_internal_strconv_uint64pow10), ("math/bits.deBruijn32tab", laid_math_bits_deBruijn32tab), ("math/bits.deBruijn64tab", laid_math_bits_deBruijn64tab)], narrowed := true }
def RepoNoneUptoSaid : Prop := repoNoneUptoRow.holds Tryz.pinned (OpenSpec.upto repoNoneSpec)

/-- 'spoorlaw28.FarmNone', WHERE WHAT IT READS IS OF BULK AT MOST 1048576: true; the input reads as it did. -/
def farmNoneUptoRow : OpenClaim := { program := "ythkcicilmhpfjaagreatdoor", sum := "505e5a8d9abb3d83946ba4f7322bf572ce9176235b402cc4cc419718fe9df6a7", func := "spoor/spoorlaw28.FarmNone", spec := "farmNone", inPlace := ["slices.overlaps[spoor/api.Tablet]", "slices.overlaps[spoor/api.Cell]", "slices.overlaps[spoor/memory.page]", "slices.overlaps[spoor/hostlog.segment]", "slices.overlaps[string]", "internal/abi.NoEscape", "internal/bytealg.IndexByteString", "internal/bytealg.IndexString", "slices.overlaps[*spoor/memory.Memory]"], unfollowed := true, recurses := true, named := ["strconv.ErrSyntax", "strconv.ErrRange", "internal/strconv.uint64pow10", "math/bits.deBruijn32tab", "math/bits.deBruijn64tab", "internal/bytealg.MaxLen"], apart := false, laid := [("strconv.ErrSyntax", laid_strconv_ErrSyntax), ("strconv.ErrRange", laid_strconv_ErrRange), ("internal/strconv.uint64pow10", laid_internal_strconv_uint64pow10), ("math/bits.deBruijn32tab", laid_math_bits_deBruijn32tab), ("math/bits.deBruijn64tab", laid_math_bits_deBruijn64tab)], narrowed := true }
def FarmNoneUptoSaid : Prop := farmNoneUptoRow.holds Tryz.pinned (OpenSpec.upto farmNoneSpec)

/-- 'spoorlaw30.FairNone', WHERE WHAT IT READS IS OF BULK AT MOST 1048576: true; the input reads as it did. -/
def fairNoneUptoRow : OpenClaim := { program := "ythkcicilmhpfjaagreatdoor", sum := "505e5a8d9abb3d83946ba4f7322bf572ce9176235b402cc4cc419718fe9df6a7", func := "spoor/spoorlaw30.FairNone", spec := "fairNone", inPlace := ["slices.overlaps[spoor/api.Tablet]", "internal/abi.NoEscape", "internal/bytealg.IndexByteString", "internal/bytealg.IndexString", "slices.overlaps[spoor/api.Cell]", "slices.overlaps[spoor/memory.page]", "slices.overlaps[*spoor/memory.Memory]", "slices.overlaps[spoor/hostlog.segment]", "slices.overlaps[string]"], unfollowed := true, recurses := true, named := ["internal/strconv.uint64pow10", "math/bits.deBruijn32tab", "math/bits.deBruijn64tab", "internal/bytealg.MaxLen", "strconv.ErrSyntax", "strconv.ErrRange"], apart := false, laid := [("internal/strconv.uint64pow10", laid_internal_strconv_uint64pow10), ("math/bits.deBruijn32tab", laid_math_bits_deBruijn32tab), ("math/bits.deBruijn64tab", laid_math_bits_deBruijn64tab), ("strconv.ErrSyntax", laid_strconv_ErrSyntax), ("strconv.ErrRange", laid_strconv_ErrRange)], narrowed := true }
def FairNoneUptoSaid : Prop := fairNoneUptoRow.holds Tryz.pinned (OpenSpec.upto fairNoneSpec)

end Rows
end Go.Proofs.YthkcicilmhpfjaaGreatDoor
