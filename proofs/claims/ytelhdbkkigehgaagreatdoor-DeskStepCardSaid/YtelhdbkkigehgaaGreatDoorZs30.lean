/- A part of the proof. -/
import Derived.ChangeSame
import Derived.ChangeVars
import Derived.JoinedOf
import Derived.RowKit
import Derived.RowKitTokens
import Derived.LaidLaws
import Derived.Stop.LaidErr
import Derived.Stop.ErrReads
import Derived.Test.YtelhdbkkigehgaaGreatDoorZs18
import Derived.Test.YtelhdbkkigehgaaGreatDoorZs29

/- What the rows list of the variables: the two variables that the runs read, and a world in which they all hold what is listed. -/
namespace Go.Proofs.YtelhdbkkigehgaaGreatDoor
open Go.ChangeShapes Go.WideShapes Go.RowKit Go.Eng

theorem ownT : ownKnob Tryz.prog.godebug = none := by kernel_rfl
theorem starT : "*" ++ "errors.errorString" = "*errors.errorString" := by decide
theorem row499 (u : TypeId) (h : Tryz.prog.typeName? 3 u = some "*errors.errorString") : u = 499 :=
  typeName_ptr_named (nm := "errors.errorString") (by rw [starT]; kernel_rfl) (by kernel_rfl) (by decide) u (by rw [starT]; exact h)
theorem int_of_trod {H : Type} {enc : TypeId × Value → H} {P : Program} {w : World} {base : Nat} {sp : Nat → Bool} {held : Bool} {fuel : Nat} {t : TypeId} {k : IntKind} {c : Value} {y : DataW H × List MemPlace}
    (ht : P.underlying t = some (.int k)) (h : DataW.trod enc P w base sp held fuel t [c] = some y) : ∃ n, c = .int k n ∧ y = (.lit (.int k n), []) := by
  cases fuel with
  | zero => simp [DataW.trod] at h
  | succ fuel =>
    cases c <;> simp [DataW.trod, ht] at h
    rename_i k' n
    obtain ⟨⟨rfl, _⟩, rfl⟩ := h
    exact ⟨n, rfl, rfl⟩
def powV : List Value := [.int .u64 1, .int .u64 10, .int .u64 100, .int .u64 1000, .int .u64 10000, .int .u64 100000, .int .u64 1000000, .int .u64 10000000, .int .u64 100000000, .int .u64 1000000000, .int .u64 10000000000, .int .u64 100000000000, .int .u64 1000000000000, .int .u64 10000000000000, .int .u64 100000000000000, .int .u64 1000000000000000, .int .u64 10000000000000000, .int .u64 100000000000000000, .int .u64 1000000000000000000, .int .u64 10000000000000000000]
theorem cells496 : Tryz.prog.cellsOf 496 = 20 := by kernel_rfl
theorem cells376 : Tryz.prog.cellsOf 376 = 1 := by kernel_rfl
set_option maxHeartbeats 4000000 in
set_option maxRecDepth 100000 in
theorem pow_of_laid {W : World} {r : List (String × DataW Unit)} (h : laidMet Tryz.prog (("internal/strconv.uint64pow10", Rows.laid_internal_strconv_uint64pow10) :: r) W) : W.var? Tryz.prog "internal/strconv.uint64pow10" = some powV.toArray := by
  obtain ⟨ps, ⟨g, t, cs, fuel, p, q, hg, ht, hvar, hd, _, _⟩, _⟩ := h
  obtain rfl := Option.some.inj ((show Tryz.prog.globalNamed "internal/strconv.uint64pow10" = some 5 by kernel_rfl).symm.trans hg)
  obtain rfl := Option.some.inj ((show (Tryz.prog.globals[5]?).map (·.type) = some 496 by kernel_rfl).symm.trans ht)
  rw [hvar]
  congr 1
  obtain ⟨l⟩ := cs
  cases fuel with
  | zero => simp [DataW.trod] at hd
  | succ fuel =>
    simp only [DataW.trod, Tryz.underlying496, cells496, cells376] at hd
    split at hd
    · rename_i hl
      obtain ⟨c0, c1, c2, c3, c4, c5, c6, c7, c8, c9, c10, c11, c12, c13, c14, c15, c16, c17, c18, c19, rfl⟩ : ∃ c0 c1 c2 c3 c4 c5 c6 c7 c8 c9 c10 c11 c12 c13 c14 c15 c16 c17 c18 c19, l = [c0, c1, c2, c3, c4, c5, c6, c7, c8, c9, c10, c11, c12, c13, c14, c15, c16, c17, c18, c19] := by
        match l, hl with
        | [a0, a1, a2, a3, a4, a5, a6, a7, a8, a9, a10, a11, a12, a13, a14, a15, a16, a17, a18, a19], _ => exact ⟨a0, a1, a2, a3, a4, a5, a6, a7, a8, a9, a10, a11, a12, a13, a14, a15, a16, a17, a18, a19, rfl⟩
      have e : List.range 20 = [0, 1, 2, 3, 4, 5, 6, 7, 8, 9, 10, 11, 12, 13, 14, 15, 16, 17, 18, 19] := rfl
      rw [e] at hd
      simp only [Option.map_eq_some_iff, List.mapM_cons, List.mapM_nil, Option.bind_eq_bind, Option.bind_eq_some_iff, Option.pure_def, Option.some.injEq] at hd
      obtain ⟨xs, ⟨y0, h0, _, ⟨y1, h1, _, ⟨y2, h2, _, ⟨y3, h3, _, ⟨y4, h4, _, ⟨y5, h5, _, ⟨y6, h6, _, ⟨y7, h7, _, ⟨y8, h8, _, ⟨y9, h9, _, ⟨y10, h10, _, ⟨y11, h11, _, ⟨y12, h12, _, ⟨y13, h13, _, ⟨y14, h14, _, ⟨y15, h15, _, ⟨y16, h16, _, ⟨y17, h17, _, ⟨y18, h18, _, ⟨y19, h19, _, rfl, rfl⟩, rfl⟩, rfl⟩, rfl⟩, rfl⟩, rfl⟩, rfl⟩, rfl⟩, rfl⟩, rfl⟩, rfl⟩, rfl⟩, rfl⟩, rfl⟩, rfl⟩, rfl⟩, rfl⟩, rfl⟩, rfl⟩, rfl⟩, hx⟩ := hd
      obtain ⟨n0, rfl, rfl⟩ := int_of_trod Tryz.underlying376 h0
      obtain ⟨n1, rfl, rfl⟩ := int_of_trod Tryz.underlying376 h1
      obtain ⟨n2, rfl, rfl⟩ := int_of_trod Tryz.underlying376 h2
      obtain ⟨n3, rfl, rfl⟩ := int_of_trod Tryz.underlying376 h3
      obtain ⟨n4, rfl, rfl⟩ := int_of_trod Tryz.underlying376 h4
      obtain ⟨n5, rfl, rfl⟩ := int_of_trod Tryz.underlying376 h5
      obtain ⟨n6, rfl, rfl⟩ := int_of_trod Tryz.underlying376 h6
      obtain ⟨n7, rfl, rfl⟩ := int_of_trod Tryz.underlying376 h7
      obtain ⟨n8, rfl, rfl⟩ := int_of_trod Tryz.underlying376 h8
      obtain ⟨n9, rfl, rfl⟩ := int_of_trod Tryz.underlying376 h9
      obtain ⟨n10, rfl, rfl⟩ := int_of_trod Tryz.underlying376 h10
      obtain ⟨n11, rfl, rfl⟩ := int_of_trod Tryz.underlying376 h11
      obtain ⟨n12, rfl, rfl⟩ := int_of_trod Tryz.underlying376 h12
      obtain ⟨n13, rfl, rfl⟩ := int_of_trod Tryz.underlying376 h13
      obtain ⟨n14, rfl, rfl⟩ := int_of_trod Tryz.underlying376 h14
      obtain ⟨n15, rfl, rfl⟩ := int_of_trod Tryz.underlying376 h15
      obtain ⟨n16, rfl, rfl⟩ := int_of_trod Tryz.underlying376 h16
      obtain ⟨n17, rfl, rfl⟩ := int_of_trod Tryz.underlying376 h17
      obtain ⟨n18, rfl, rfl⟩ := int_of_trod Tryz.underlying376 h18
      obtain ⟨n19, rfl, rfl⟩ := int_of_trod Tryz.underlying376 h19
      simp [Rows.laid_internal_strconv_uint64pow10] at hx
      obtain ⟨⟨rfl, rfl, rfl, rfl, rfl, rfl, rfl, rfl, rfl, rfl, rfl, rfl, rfl, rfl, rfl, rfl, rfl, rfl, rfl, rfl⟩, _⟩ := hx
      rfl
    · cases hd

/-- The values that the runs' names stand for, in a world: the variable's, and the arguments. -/
noncomputable def envW (W : World) (ys : List Value) : Env := ⟨fun i => match i with
  | 3 => (W.cell? ⟨3, 0, none⟩).getD undef
  | i => ys.getD (i - 8) undef, fun n => W.heap[n]?⟩
theorem pow_conc {σ : Sig} {η : Env} : concs σ η pow10 = some powV := by
  unfold pow10
  simp only [concs, conc]
  rfl
theorem laid_ro {W : World} (h : laidMet Tryz.prog lstAll W) (ys : List Value) : RoHeap Tryz.prog (envW W ys) hW W := by
  have hg : Tryz.prog.globals.size = 8 := by kernel_rfl
  obtain ⟨a, s, hv, _⟩ := laid_sentinel h.tail.tail (g := 3) (ti := 79) (tp := 499) (te := 501) (ts := 9) (by kernel_rfl) (by kernel_rfl) Tryz.underlying79 row499 Tryz.underlying499 Tryz.underlying501 rfl rfl Tryz.underlying9 (by kernel_rfl) (by kernel_rfl)
  have hg3 : Tryz.prog.globalNamed "strconv.ErrSyntax" = some 3 := by kernel_rfl
  have hc : W.cell? ⟨3, 0, none⟩ = some (.iface 499 (.pointer (some a))) := by simpa using World.var?_cell hg3 hv 0
  have hv5 := pow_of_laid h.tail.tail.tail.tail
  have hg5 : Tryz.prog.globalNamed "internal/strconv.uint64pow10" = some 5 := by kernel_rfl
  unfold World.var? at hv hv5
  rw [hg3] at hv
  rw [hg5] at hv5
  simp only [Option.bind_some] at hv hv5
  intro n o hn
  rcases hW_get hn with ⟨rfl, rfl⟩ | ⟨rfl, rfl⟩
  · split at hv
    · rename_i cs t fr e
      cases hv
      refine ⟨by rw [hg]; decide, 79, _, rfl, _, fr, [.iface 499 (.pointer (some a))], t, e, fun σ => ?_, fun i v hi => by simpa using hi, rfl, e⟩
      have : (envW W ys).val 3 = .iface 499 (.pointer (some a)) := by show (W.cell? ⟨3, 0, none⟩).getD undef = _; rw [hc]; rfl
      refine concs_cons.2 ⟨_, [], ?_, rfl, rfl⟩
      simp only [conc, this]
      rfl
    · cases hv
  · split at hv5
    · rename_i cs t fr e
      cases hv5
      exact ⟨by rw [hg]; decide, 496, _, rfl, _, fr, powV, t, e, fun σ => pow_conc, fun i v hi => by simpa using hi, rfl, e⟩
    · cases hv5

/-! ### a world that holds what is listed -/
abbrev synS : ByteArray := { data := #[105, 110, 118, 97, 108, 105, 100, 32, 115, 121, 110, 116, 97, 120] }
abbrev rngS : ByteArray := { data := #[118, 97, 108, 117, 101, 32, 111, 117, 116, 32, 111, 102, 32, 114, 97, 110, 103, 101] }
noncomputable def low : Nat := (World.holding Tryz.prog default ⟨#[], #[], []⟩).heap.size
def litOf (k : IntKind) : DataW Unit → List Value
  | .lit (.int _ n) => [.int k n]
  | .agg l => (l.map fun | .lit (.int _ n) => Value.int k n | _ => undef)
  | _ => []
def litsOf (k : IntKind) : DataW Unit → Array Value
  | .agg l => (l.flatMap (litOf k)).toArray
  | _ => #[]
def withCells (cs : Array Value) : Obj → Obj
  | .cells _ t frozen => .cells cs t frozen
  | o => o
noncomputable def laidWorld (os : Os) : World :=
  let w0 := World.holding Tryz.prog os ⟨#[.cells #[.string synS] 501, .cells #[.string rngS] 501], #[], []⟩
  { w0 with heap := ((((((w0.heap.modify 1 (withCells (litsOf .u8 Rows.laid_unicode_utf8_first))).modify 2 (withCells (litsOf .u8 Rows.laid_unicode_utf8_acceptRanges))).modify 3 (withCells #[.iface 499 (.pointer (some ⟨low, 0, none⟩))])).modify 4 (withCells #[.iface 499 (.pointer (some ⟨low + 1, 0, none⟩))])).modify 5 (withCells (litsOf .u64 Rows.laid_internal_strconv_uint64pow10))).modify 6 (withCells (litsOf .u8 Rows.laid_math_bits_deBruijn32tab))).modify 7 (withCells (litsOf .u8 Rows.laid_math_bits_deBruijn64tab)) }
theorem laidWorld_met (os : Os) (args : Array Value) : laidMet Tryz.prog lstAll ((laidWorld os).forCall (fun _ _ => 0) ⟨#[], args, []⟩).memory :=
  laidMet_of_run' 8 (by kernel_rfl) (by kernel_rfl)
end Go.Proofs.YtelhdbkkigehgaaGreatDoor

