/- How the arguments of the laws read: rows of cells in memory, from what is known of a reading of them as data. -/
import Derived.Test.YtfhpjopdndnmgaaLawA
import Derived.ProofKit
import Derived.Deep.Slices
import Derived.Deep.Strs
namespace Go.Proofs.Ytfhpjopdndnmgaa
open Go.ChangeShapes Go.WideShapes Go.ChangeAt Go.RowKit Go.Deep

theorem own : ownKnob Try.prog.godebug = none := by kernel_rfl
theorem laidOut : laidOutB Try.prog = true := by kernel_rfl
theorem cells3 : Try.prog.cellsOf 3 = 1 := by kernel_rfl
theorem cells9 : Try.prog.cellsOf 9 = 1 := by kernel_rfl
theorem cells25 : Try.prog.cellsOf 25 = 1 := by kernel_rfl
theorem cells36 : Try.prog.cellsOf 36 = 3 := by kernel_rfl

section
variable {H : Type} {enc : TypeId × Value → H} {w : World} {base : Nat} {spare : Nat → Bool} {held : Bool} {fuel : Nat} {cs : List Value} {x : DataW H × List MemPlace}

/-- A cell's cells. -/
theorem cel_cells (h : DataW.trod enc Try.prog w base spare held fuel 36 cs = some x) : ∃ m : Cel, cs = [.string m.k, .int .i64 m.s, .string m.v] ∧ m.k.size ≤ maxLen ∧ m.v.size ≤ maxLen := by
  obtain ⟨y0, y1, y2, n, _, hl, h0, h1, h2⟩ := trod_struct3 Try.underlying36 h
  rw [cells36] at hl
  match cs, hl with
  | [c0, c1, c2], _ =>
    simp only [cells3, cells9, List.drop_zero, List.take_succ_cons, List.take_zero, List.drop_succ_cons] at h0 h1 h2
    obtain ⟨f, e0, _, hf⟩ := DataW.trod_string Try.underlying9 h0
    obtain ⟨t, e1, _, _⟩ := DataW.trod_int Try.underlying3 h1
    obtain ⟨d, e2, _, hd⟩ := DataW.trod_string Try.underlying9 h2
    simp only [List.cons.injEq, and_true] at e0 e1 e2
    exact ⟨⟨f, t, d⟩, by rw [e0, e1, e2], hf, hd⟩

/-- What 'cells?' tells, cell by cell. -/
theorem mapM_get {α β : Type} {f : α → Option β} : ∀ {l : List α} {r : List β}, l.mapM f = some r → r.length = l.length ∧ ∀ (i : Nat) (y : β), r[i]? = some y → ∃ z, l[i]? = some z ∧ f z = some y
  | [], r, h => by simp at h; subst h; exact ⟨rfl, fun i y hy => by simp at hy⟩
  | z :: l, r, h => by
    rw [List.mapM_cons] at h
    cases h1 : f z with
    | none => simp [h1] at h
    | some y0 =>
      cases h2 : l.mapM f with
      | none => simp [h1, h2] at h
      | some r0 =>
        simp [h1, h2] at h
        subst h
        obtain ⟨e, ih⟩ := mapM_get h2
        refine ⟨by simp [e], fun i y hy => ?_⟩
        cases i with
        | zero => simp at hy; subst hy; exact ⟨z, rfl, h1⟩
        | succ i => simpa using ih i y (by simpa using hy)
theorem cells_get {a : Addr} {n : Nat} {cs' : List Value} (h : w.cells? base a n = some cs') : cs'.length = n ∧ ∀ r u, cs'[r]? = some u → w.cell? (a.add r) = some u := by
  unfold World.cells? at h
  split at h
  · obtain ⟨e, hg⟩ := mapM_get h
    refine ⟨by simpa using e, fun r u hu => ?_⟩
    obtain ⟨z, hz, hf⟩ := hg r u hu
    have hr : r < n := by have := (List.getElem?_eq_some_iff.1 hu).1; simp at e; omega
    rw [List.getElem?_range hr] at hz
    cases hz; exact hf
  · cases h


theorem cellsC_map (f : Nat → Cel) : ∀ (n : Nat) (j : Nat) (u : Value), (cellsC ((List.range n).map f))[j]? = some u → j / 3 < n ∧ [Value.string (f (j / 3)).k, Value.int .i64 (f (j / 3)).s, .string (f (j / 3)).v][j % 3]? = some u := by
  intro n j u hu
  have hl := (List.getElem?_eq_some_iff.1 hu).1
  rw [cellsC_length] at hl
  simp at hl
  have hq : j / 3 < n := by omega
  refine ⟨hq, ?_⟩
  have hg : ((List.range n).map f)[j / 3]? = some (f (j / 3)) := by simp [hq]
  obtain ⟨g0, g1, g2⟩ := cellsC_get _ _ _ hg
  have hj : j = j / 3 * 3 + j % 3 := by omega
  have hr : j % 3 < 3 := Nat.mod_lt _ (by omega)
  generalize j % 3 = r at *
  generalize j / 3 = q at *
  subst hj
  rcases r with _ | _ | _ | r
  · rw [Nat.add_zero, g0] at hu; exact hu
  · rw [g1] at hu; exact hu
  · rw [g2] at hu; exact hu
  · omega

/-- A row that came in. -/
theorem row_open (h : DataW.trod enc Try.prog w 0 spare held fuel 25 cs = some x) :
    ∃ v, cs = [v] ∧ ∃ R : List Cel, ReadsC w v R ∧ R.length ≤ maxLen ∧ ∀ y ∈ R, y.k.size ≤ maxLen ∧ y.v.size ≤ maxLen := by
  rcases open_slice Try.underlying25 h with ⟨hcs, _⟩ | ⟨b, len, cap, m, n, D, Pl, hcs, _, hl, hm, hmm, _, hel⟩
  · exact ⟨_, hcs, [], ⟨none, 0, rfl, .inl rfl⟩, by simp, fun y hy => by cases hy⟩
  · have hlm : len ≤ m := by rw [hmm]; split <;> omega
    rw [cells36] at hel
    obtain ⟨f, hf⟩ := choose_lt (n := len) (p := fun i (y : Cel) => (∃ cs', w.cells? 0 (b.add (i * 3)) 3 = some cs' ∧ cs' = [.string y.k, .int .i64 y.s, .string y.v]) ∧ y.k.size ≤ maxLen ∧ y.v.size ≤ maxLen) (fun i hi => by
      obtain ⟨cs', h1, h2⟩ := hel i (by omega)
      obtain ⟨y, e, hb⟩ := cel_cells h2
      exact ⟨y, ⟨cs', h1, e⟩, hb⟩)
    refine ⟨_, hcs, (List.range len).map f, ⟨some b, cap, by simp, ?_⟩, by simp; omega, fun y hy => ?_⟩
    · by_cases h0 : len = 0
      · left; subst h0; rfl
      · right
        obtain ⟨⟨cs', h1, h2⟩, _⟩ := hf 0 (by omega)
        obtain ⟨_, hg⟩ := cells_get h1
        have hspot : b.spot = none := by
          have := hg 0 (.string (f 0).k) (by rw [h2]; rfl)
          have := World.cell?_spot this
          simpa [Addr.add] using this
        obtain ⟨bb, bo, bs⟩ := b
        simp at hspot; subst hspot
        refine ⟨bb, bo, rfl, fun j u hu => ?_⟩
        obtain ⟨hq, hu'⟩ := cellsC_map f len j u hu
        obtain ⟨⟨cs', h1, h2⟩, _⟩ := hf (j / 3) hq
        obtain ⟨_, hg⟩ := cells_get h1
        have := hg (j % 3) u (by rw [h2]; exact hu')
        rw [add_mid, add_mid] at this
        rw [show bo + j = bo + j / 3 * 3 + j % 3 by omega]
        exact this
    · obtain ⟨i, hi, rfl⟩ := List.mem_map.1 hy
      exact (hf i (by simpa using hi)).2

/-- Rows that came in. -/
theorem rows_open {a : Option Addr} {len cap : Nat} (h : DataW.trod enc Try.prog w 0 spare held fuel 22 [.slice a len cap] = some x) :
    ∃ L : List (List Cel), ReadsR w (.slice a len cap) L ∧ L.length = len ∧ len ≤ maxLen ∧ ∀ R ∈ L, R.length ≤ maxLen ∧ ∀ y ∈ R, y.k.size ≤ maxLen ∧ y.v.size ≤ maxLen := by
  rcases open_slice Try.underlying22 h with ⟨hcs, _⟩ | ⟨b, len', cap', m, n, D, Pl, hcs, _, hl, hm, hmm, _, hel⟩
  · simp at hcs
    obtain ⟨rfl, rfl, rfl⟩ := hcs
    exact ⟨[], ⟨none, 0, rfl, .inl rfl⟩, rfl, by simp [maxLen], fun y hy => by cases hy⟩
  · simp at hcs
    obtain ⟨rfl, rfl, rfl⟩ := hcs
    have hlm : len ≤ m := by rw [hmm]; split <;> omega
    rw [cells25] at hel
    obtain ⟨f, hf⟩ := choose_lt (n := len) (p := fun i (y : Value × List Cel) => (∃ cs', w.cells? 0 (b.add (i * 1)) 1 = some cs' ∧ cs' = [y.1]) ∧ ReadsC w y.1 y.2 ∧ y.2.length ≤ maxLen ∧ ∀ c ∈ y.2, c.k.size ≤ maxLen ∧ c.v.size ≤ maxLen) (fun i hi => by
      obtain ⟨cs', h1, h2⟩ := hel i (by omega)
      obtain ⟨u, e, R, h3⟩ := row_open h2
      exact ⟨(u, R), ⟨cs', h1, e⟩, h3⟩)
    refine ⟨(List.range len).map (fun i => (f i).2), ⟨some b, cap, by simp, ?_⟩, by simp, by omega, fun y hy => ?_⟩
    · by_cases h0 : len = 0
      · left; subst h0; rfl
      · right
        obtain ⟨⟨cs', h1, h2⟩, _⟩ := hf 0 (by omega)
        obtain ⟨_, hg⟩ := cells_get h1
        have hspot : b.spot = none := by
          have := hg 0 (f 0).1 (by rw [h2]; rfl)
          have := World.cell?_spot this
          simpa [Addr.add] using this
        obtain ⟨bb, bo, bs⟩ := b
        simp at hspot; subst hspot
        refine ⟨bb, bo, rfl, fun k R hk => ?_⟩
        have hkl : k < len := by have := (List.getElem?_eq_some_iff.1 hk).1; simpa using this
        simp [hkl] at hk
        subst hk
        obtain ⟨⟨cs', h1, h2⟩, h3, _⟩ := hf k hkl
        obtain ⟨_, hg⟩ := cells_get h1
        have := hg 0 (f k).1 (by rw [h2]; rfl)
        rw [add_mid, add_mid] at this
        exact ⟨(f k).1, by rw [show bo + k = bo + k * 1 + 0 by omega]; exact this, h3⟩
    · obtain ⟨i, hi, rfl⟩ := List.mem_map.1 hy
      exact (hf i (by simpa using hi)).2.2

theorem rows_shape {a : Option Addr} {len cap : Nat} (h : DataW.trod enc Try.prog w 0 spare held fuel 22 [.slice a len cap] = some x) : (a = none → len = 0 ∧ cap = 0) ∧ len ≤ cap := by
  rcases open_slice Try.underlying22 h with ⟨hcs, _⟩ | ⟨b, len', cap', m, n, D, Pl, hcs, _, hl, hm, hmm, _, hel⟩
  · simp at hcs
    obtain ⟨rfl, rfl, rfl⟩ := hcs
    exact ⟨fun _ => ⟨rfl, rfl⟩, Nat.le_refl _⟩
  · simp at hcs
    obtain ⟨rfl, rfl, rfl⟩ := hcs
    exact ⟨fun e => (by cases e), by omega⟩
end
end Go.Proofs.Ytfhpjopdndnmgaa
