/- A part of the proof. -/
import Derived.Test.YtelhdbkkigehgaaGreatDoorZs16
import Derived.Test.YtelhdbkkigehgaaGreatDoorZs7

/- How a step reads as an argument. -/
namespace Go.Proofs.YtelhdbkkigehgaaGreatDoor
open Go.ChangeShapes Go.WideShapes Go.ChangeAt Go.RowKit Go.Deep

theorem cellsOf36 : Tryz.prog.cellsOf 36 = 1 := by kernel_rfl
theorem cellsOf38 : Tryz.prog.cellsOf 38 = 12 := by kernel_rfl
theorem in_of_wf {n : Int} (h : (Lit.int .i64 n).wf = true) : In64 n := by
  have : IntKind.i64.min = -9223372036854775808 ∧ IntKind.i64.max = 9223372036854775807 := by decide
  simp [Lit.wf] at h
  unfold In64
  omega
section
variable {H : Type} {enc : TypeId × Value → H} {w : World} {spare : Nat → Bool} {held : Bool} {fuel : Nat} {cs : List Value} {x : DataW H × List MemPlace}
set_option maxRecDepth 100000 in
theorem spn_in (h : DataW.trod enc Tryz.prog w 0 spare held fuel 35 cs = some x) : ∃ m : Spn, cs = m.cells ∧ In64 m.tr ∧ In64 m.id ∧ In64 m.pa ∧ In64 m.st ∧ In64 m.du := by
  obtain ⟨xs, n, _, rfl, hl, hlen, hf⟩ := DataW.trod_struct Tryz.underlying35 h
  rw [cellsOf35] at hl
  match xs, hlen, cs, hl with
  | [y0, y1, y2, y3, y4, y5, y6, y7], _, [c0, c1, c2, c3, c4, c5, c6, c7], _ =>
    have h0 := hf 0 _ rfl
    have h1 := hf 1 _ rfl
    have h2 := hf 2 _ rfl
    have h3 := hf 3 _ rfl
    have h4 := hf 4 _ rfl
    have h5 := hf 5 _ rfl
    have h6 := hf 6 _ rfl
    have h7 := hf 7 _ rfl
    simp [cellsOf3] at h0
    simp [cellsOf3] at h1
    simp [cellsOf3] at h2
    simp [cellsOf9] at h3
    simp [cellsOf9] at h4
    simp [cellsOf3] at h5
    simp [cellsOf3] at h6
    simp [cellsOf9] at h7
    obtain ⟨a0, e0, _, b0⟩ := DataW.trod_int Tryz.underlying3 h0
    obtain ⟨a1, e1, _, b1⟩ := DataW.trod_int Tryz.underlying3 h1
    obtain ⟨a2, e2, _, b2⟩ := DataW.trod_int Tryz.underlying3 h2
    obtain ⟨a3, e3, _, _⟩ := DataW.trod_string Tryz.underlying9 h3
    obtain ⟨a4, e4, _, _⟩ := DataW.trod_string Tryz.underlying9 h4
    obtain ⟨a5, e5, _, b5⟩ := DataW.trod_int Tryz.underlying3 h5
    obtain ⟨a6, e6, _, b6⟩ := DataW.trod_int Tryz.underlying3 h6
    obtain ⟨a7, e7, _, _⟩ := DataW.trod_string Tryz.underlying9 h7
    simp only [List.cons.injEq, and_true] at e0 e1 e2 e3 e4 e5 e6 e7
    exact ⟨⟨a0, a1, a2, a3, a4, a5, a6, a7⟩, by rw [e0, e1, e2, e3, e4, e5, e6, e7]; rfl, in_of_wf b0, in_of_wf b1, in_of_wf b2, in_of_wf b5, in_of_wf b6⟩
theorem ints_open (h : DataW.trod enc Tryz.prog w 0 spare held fuel 36 cs = some x) :
    ∃ ka kc, ∃ ks : List Int, cs = [.slice ka ks.length kc] ∧ KeepR w 0 (.slice ka ks.length kc) ks ∧ ∀ n ∈ ks, In64 n := by
  rcases open_slice Tryz.underlying36 h with ⟨hcs, _⟩ | ⟨b, len, cap, m, n, D, Pl, hcs, _, hl, hm, hmm, _, hel⟩
  · exact ⟨none, 0, [], hcs, ⟨none, 0, rfl, .inl rfl⟩, fun y hy => by cases hy⟩
  · have hlm : len ≤ m := by rw [hmm]; split <;> omega
    rw [cellsOf3] at hel
    obtain ⟨f, hf⟩ := choose_lt (n := len) (p := fun i (y : Int) => (∃ cs', w.cells? 0 (b.add (i * 1)) 1 = some cs' ∧ cs' = [.int .i64 y]) ∧ In64 y) (fun i hi => by
      obtain ⟨cs', h1, h2⟩ := hel i (by omega)
      obtain ⟨y, e, _, hb⟩ := DataW.trod_int Tryz.underlying3 h2
      exact ⟨y, ⟨cs', h1, e⟩, in_of_wf hb⟩)
    have hlen : ((List.range len).map f).length = len := by simp
    refine ⟨some b, cap, (List.range len).map f, by rw [hlen]; exact hcs, ⟨some b, cap, rfl, ?_⟩, fun y hy => ?_⟩
    · by_cases h0 : len = 0
      · left; subst h0; rfl
      · right
        obtain ⟨⟨cs', h1, h2⟩, _⟩ := hf 0 (by omega)
        obtain ⟨_, hg⟩ := cells_get h1
        have hspot : b.spot = none := by
          have := hg 0 (.int .i64 (f 0)) (by rw [h2]; rfl)
          have := World.cell?_spot this
          simpa [Addr.add] using this
        obtain ⟨bb, bo, bs⟩ := b
        simp at hspot; subst hspot
        refine ⟨bb, bo, rfl, Nat.zero_le _, fun j u hu => ?_⟩
        have hq : j < len := by have := (List.getElem?_eq_some_iff.1 hu).1; simpa using this
        simp [hq] at hu
        subst hu
        obtain ⟨⟨cs', h1, h2⟩, _⟩ := hf j hq
        obtain ⟨_, hg⟩ := cells_get h1
        have := hg 0 (.int .i64 (f j)) (by rw [h2]; rfl)
        rw [add_mid, add_mid] at this
        simpa using this
    · obtain ⟨i, hi, rfl⟩ := List.mem_map.1 hy
      exact (hf i (by simpa using hi)).2
set_option maxRecDepth 100000 in
theorem stp_open (h : DataW.trod enc Tryz.prog w 0 spare held fuel 38 cs = some x) : ∃ (ki nd nn : Int) (sp : Spn) (ka : Option Addr) (kc : Nat) (ks : List Int), cs = Stp.cells ⟨ki, nd, nn, sp, ka, ks.length, kc⟩ ∧ KeepR w 0 (.slice ka ks.length kc) ks ∧ In64 nd ∧ In64 nn ∧ (∀ n ∈ ks, In64 n) ∧ In64 sp.tr ∧ In64 sp.id ∧ In64 sp.pa ∧ In64 sp.st ∧ In64 sp.du := by
  obtain ⟨xs, n, _, rfl, hl, hlen, hf⟩ := DataW.trod_struct Tryz.underlying38 h
  rw [cellsOf38] at hl
  match xs, hlen, cs, hl with
  | [y0, y1, y2, y3, y4], _, [c0, c1, c2, c3, c4, c5, c6, c7, c8, c9, c10, c11], _ =>
    have h0 := hf 0 _ rfl
    have h1 := hf 1 _ rfl
    have h2 := hf 2 _ rfl
    have h3 := hf 3 _ rfl
    have h4 := hf 4 _ rfl
    simp [cellsOf3] at h0
    simp [cellsOf3] at h1
    simp [cellsOf3] at h2
    simp [cellsOf35] at h3
    simp [cellsOf36] at h4
    obtain ⟨a0, e0, _, _⟩ := DataW.trod_int Tryz.underlying3 h0
    obtain ⟨a1, e1, _, b1⟩ := DataW.trod_int Tryz.underlying3 h1
    obtain ⟨a2, e2, _, b2⟩ := DataW.trod_int Tryz.underlying3 h2
    obtain ⟨m, e3, i1, i2, i3, i4, i5⟩ := spn_in h3
    obtain ⟨ka, kc, ks, e4, hk, hin⟩ := ints_open h4
    simp only [List.cons.injEq, and_true] at e0 e1 e2 e4
    refine ⟨a0, a1, a2, m, ka, kc, ks, ?_, hk, in_of_wf b1, in_of_wf b2, hin, i1, i2, i3, i4, i5⟩
    rw [e0, e1, e2, e4]
    show .int .i64 a0 :: .int .i64 a1 :: .int .i64 a2 :: ([c3, c4, c5, c6, c7, c8, c9, c10] ++ [.slice ka ks.length kc]) = _
    rw [e3]
    rfl
end
end Go.Proofs.YtelhdbkkigehgaaGreatDoor

