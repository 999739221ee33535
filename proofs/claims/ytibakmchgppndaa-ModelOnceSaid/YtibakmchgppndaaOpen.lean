/- How a list of acts reads as an argument. -/
import Derived.Test.YtibakmchgppndaaOnce
namespace Go.Proofs.Ytibakmchgppndaa
open Go.ChangeShapes Go.WideShapes Go.ChangeAt Go.RowKit Go.Deep

theorem cellsOf5 : Try.prog.cellsOf 5 = 1 := by kernel_rfl
theorem cellsOf27 : Try.prog.cellsOf 27 = 1 := by kernel_rfl
theorem cellsOf29 : Try.prog.cellsOf 29 = 3 := by kernel_rfl
theorem cellsOf31 : Try.prog.cellsOf 31 = 4 := by kernel_rfl
instance : Inhabited ActP := ⟨⟨[], 0⟩⟩
theorem u8_bounds {k : Int} (h : (Lit.int .u8 k).wf = true) : 0 ≤ k ∧ k < 256 := by
  simp [Lit.wf, IntKind.min, IntKind.max, IntKind.signed, IntKind.bits] at h
  omega
section
variable {H : Type} {enc : TypeId × Value → H} {w : World} {spare : Nat → Bool} {held : Bool} {fuel : Nat} {cs : List Value} {x : DataW H × List MemPlace}
def GoodA (w : World) (sv : Value) (a : ActP) : Prop := ReadsS w sv a.spans ∧ a.spans.length ≤ maxLen ∧ (∀ y ∈ a.spans, y.se.size ≤ maxLen ∧ y.ho.size ≤ maxLen ∧ y.no.size ≤ maxLen) ∧ 0 ≤ a.ticks ∧ a.ticks ≤ 255
set_option maxRecDepth 100000 in
theorem batch_cells (h : DataW.trod enc Try.prog w 0 spare held fuel 29 cs = some x) : ∃ (a b : Int) (sv : Value), cs = [.int .i64 a, .int .i64 b, sv] ∧ ∃ R : List Spn, ReadsS w sv R ∧ R.length ≤ maxLen ∧ ∀ y ∈ R, y.se.size ≤ maxLen ∧ y.ho.size ≤ maxLen ∧ y.no.size ≤ maxLen := by
  obtain ⟨xs, n, _, rfl, hl, hlen, hf⟩ := DataW.trod_struct Try.underlying29 h
  rw [cellsOf29] at hl
  match xs, hlen, cs, hl with
  | [y0, y1, y2], _, [c0, c1, c2], _ =>
    have h0 := hf 0 _ rfl
    have h1 := hf 1 _ rfl
    have h2 := hf 2 _ rfl
    simp [cellsOf3] at h0
    simp [cellsOf3] at h1
    simp [cellsOf27] at h2
    obtain ⟨a0, e0, _, _⟩ := DataW.trod_int Try.underlying3 h0
    obtain ⟨a1, e1, _, _⟩ := DataW.trod_int Try.underlying3 h1
    obtain ⟨v, e2, R, hR⟩ := spans_open h2
    simp only [List.cons.injEq, and_true] at e0 e1 e2
    exact ⟨a0, a1, v, by rw [e0, e1, e2], R, hR⟩
set_option maxRecDepth 100000 in
theorem act_cells (h : DataW.trod enc Try.prog w 0 spare held fuel 31 cs = some x) : ∃ (a b : Int) (sv : Value) (p : ActP), cs = [.int .i64 a, .int .i64 b, sv, .int .u8 p.ticks] ∧ GoodA w sv p := by
  obtain ⟨xs, n, _, rfl, hl, hlen, hf⟩ := DataW.trod_struct Try.underlying31 h
  rw [cellsOf31] at hl
  match xs, hlen, cs, hl with
  | [y0, y1], _, [c0, c1, c2, c3], _ =>
    have h0 := hf 0 _ rfl
    have h1 := hf 1 _ rfl
    simp [cellsOf29] at h0
    simp [cellsOf5] at h1
    obtain ⟨a, b, sv, e0, R, r1, r2, r3⟩ := batch_cells h0
    obtain ⟨t, e1, _, hw⟩ := DataW.trod_int Try.underlying5 h1
    have ht := u8_bounds hw
    simp only [List.cons.injEq, and_true] at e0 e1
    obtain ⟨rfl, rfl, rfl⟩ := e0
    subst e1
    exact ⟨a, b, c2, ⟨R, t⟩, rfl, r1, r2, r3, ht.1, by have := ht.2; show t ≤ 255; omega⟩
theorem acts_open {a : Option Addr} {len cap : Nat} (h : DataW.trod enc Try.prog w 0 spare held fuel 22 [.slice a len cap] = some x) : ∃ A : List ActP, ReadsA w (.slice a len cap) A ∧ FitsA A := by
  rcases open_slice Try.underlying22 h with ⟨hcs, _⟩ | ⟨b, len, cap, m, n, D, Pl, hcs, _, hl, hm, hmm, _, hel⟩
  · obtain ⟨rfl, rfl, rfl⟩ : a = none ∧ len = 0 ∧ cap = 0 := by simpa using hcs
    exact ⟨[], ⟨none, 0, rfl, .inl rfl⟩, ⟨by simp, fun y hy => (by cases hy), fun y hy => (by cases hy), fun y hy => (by cases hy)⟩⟩
  · obtain ⟨rfl, rfl, rfl⟩ : a = some b ∧ _ = len ∧ _ = cap := by simpa using hcs
    have hlm : len ≤ m := by rw [hmm]; split <;> omega
    rw [cellsOf31] at hel
    obtain ⟨f, hf⟩ := choose_lt (n := len) (p := fun i (y : ActP) => ∃ (c d : Int) (sv : Value), w.cells? 0 (b.add (i * 4)) 4 = some [.int .i64 c, .int .i64 d, sv, .int .u8 y.ticks] ∧ GoodA w sv y) (fun i hi => by
      obtain ⟨cs', h1, h2⟩ := hel i (by omega)
      obtain ⟨c, d, sv, y, e, hb⟩ := act_cells h2
      exact ⟨y, c, d, sv, by rw [h1, e], hb⟩)
    refine ⟨(List.range len).map f, ⟨some b, cap, by simp, ?_⟩, ?_⟩
    · by_cases h0 : len = 0
      · left; subst h0; rfl
      · right
        obtain ⟨c, d, sv, h1, _⟩ := hf 0 (by omega)
        obtain ⟨_, hg⟩ := cells_get h1
        have hspot : b.spot = none := by
          have := hg 0 (.int .i64 c) rfl
          have := World.cell?_spot this
          simpa [Addr.add] using this
        obtain ⟨bb, bo, bs⟩ := b
        simp at hspot; subst hspot
        refine ⟨bb, bo, rfl, fun i y hy => ?_⟩
        have hi : i < len := by have := (List.getElem?_eq_some_iff.1 hy).1; simpa using this
        have ey : y = f i := by simpa [hi] using hy.symm
        subst ey
        obtain ⟨c, d, sv, h1, g⟩ := hf i hi
        obtain ⟨_, hg⟩ := cells_get h1
        refine ⟨sv, ?_, g.1, ?_⟩
        · have := hg 2 _ rfl
          rwa [add_mid, add_mid] at this
        · have := hg 3 _ rfl
          rwa [add_mid, add_mid] at this
    · have hall : ∀ y ∈ (List.range len).map f, ∃ sv, GoodA w sv y := fun y hy => by
        obtain ⟨i, hi, rfl⟩ := List.mem_map.1 hy
        obtain ⟨c, d, sv, _, g⟩ := hf i (by simpa using hi)
        exact ⟨sv, g⟩
      refine ⟨?_, fun y hy => ?_, fun y hy => ?_, fun y hy m hm => ?_⟩
      · simp; unfold maxLen at *; omega
      · obtain ⟨sv, g⟩ := hall y hy; exact g.2.2.2
      · obtain ⟨sv, g⟩ := hall y hy; have := g.2.1; unfold maxLen at this; omega
      · obtain ⟨sv, g⟩ := hall y hy; have := g.2.2.1 m hm; unfold maxLen at this; exact this
end
end Go.Proofs.Ytibakmchgppndaa
