/- Spans in memory, and how lists of them read as arguments. -/
import Derived.Test.YtibakmchgppndaaNones
import Derived.ProofKit
import Derived.Deep.Slices
import Derived.Deep.Strs
namespace Go.Proofs.Ytibakmchgppndaa
open Go.ChangeShapes Go.WideShapes Go.ChangeAt Go.RowKit Go.Deep

structure Spn where
  tr : Int
  id : Int
  pa : Int
  se : ByteArray
  ho : ByteArray
  st : Int
  du : Int
  no : ByteArray
  deriving Inhabited
def Spn.cells (m : Spn) : List Value := [.int .i64 m.tr, .int .i64 m.id, .int .i64 m.pa, .string m.se, .string m.ho, .int .i64 m.st, .int .i64 m.du, .string m.no]
def cellsS : List Spn → List Value
  | [] => []
  | m :: t => m.cells ++ cellsS t
theorem cellsS_length : ∀ L, (cellsS L).length = L.length * 8
  | [] => rfl
  | m :: t => by simp [cellsS, cellsS_length t, Spn.cells]; omega
theorem cellsS_append : ∀ a b, cellsS (a ++ b) = cellsS a ++ cellsS b
  | [], b => rfl
  | m :: t, b => by simp [cellsS, cellsS_append t b]
theorem cellsS_at : ∀ (L : List Spn) (i : Nat) (m : Spn), L[i]? = some m → ∀ k, k < 8 → (cellsS L)[i * 8 + k]? = m.cells[k]?
  | [], i, m, h, _, _ => by simp at h
  | x :: t, 0, m, h, k, hk => by
    simp at h; subst h
    rw [cellsS, List.getElem?_append_left (by simp [Spn.cells]; omega)]; simp
  | x :: t, i + 1, m, h, k, hk => by
    have := cellsS_at t i m (by simpa using h) k hk
    rw [cellsS, List.getElem?_append_right (by simp [Spn.cells]; omega)]
    rw [← this]; congr 1; simp [Spn.cells]; omega
theorem cellsS_one : ∀ (L : List Spn), ∀ u ∈ cellsS L, u.oneCell' = true
  | [], u, h => by simp [cellsS] at h
  | m :: t, u, h => by
    rcases List.mem_append.1 h with h | h
    · simp [Spn.cells] at h
      rcases h with rfl | rfl | rfl | rfl | rfl | rfl | rfl | rfl <;> rfl
    · exact cellsS_one t u h
/-- A list of spans, as it lies. -/
def ReadsS (w : World) (v : Value) (L : List Spn) : Prop :=
  ∃ ao cap, v = .slice ao L.length cap ∧ (L = [] ∨ ∃ g o, ao = some ⟨g, o, none⟩ ∧ ∀ j u, (cellsS L)[j]? = some u → w.cell? ⟨g, o + j, none⟩ = some u)
theorem ReadsS.kept {S : Nat → Prop} {w w' : World} {v : Value} {L : List Spn} (h : ReadsS w v L) (hK : Kept S w w') (hS : ∀ k, v.ownBlock = some k → ¬ S k) (ho : ∀ g o n c, v = .slice (some ⟨g, o, none⟩) n c → ¬ S g) : ReadsS w' v L := by
  obtain ⟨ao, cap, rfl, h⟩ := h
  refine ⟨ao, cap, rfl, ?_⟩
  rcases h with h | ⟨g, o, rfl, hc⟩
  · exact .inl h
  · exact .inr ⟨g, o, rfl, fun j u hu => hK.cell (hc j u hu) (ho g o _ _ rfl)⟩
theorem ReadsS.keptF {w w' : World} {v : Value} {L : List Spn} (h : ReadsS w v L) (hK : Kept (fun _ => False) w w') : ReadsS w' v L := h.kept hK (fun _ _ f => f) (fun _ _ _ _ _ f => f)
theorem ReadsS.at {w : World} {L : List Spn} {g o : Nat} (hc : ∀ j u, (cellsS L)[j]? = some u → w.cell? ⟨g, o + j, none⟩ = some u) {i : Nat} {m : Spn} (hm : L[i]? = some m) :
    w.cell? ⟨g, o + i * 8, none⟩ = some (.int .i64 m.tr) ∧ w.cell? ⟨g, o + i * 8 + 1, none⟩ = some (.int .i64 m.id) ∧ w.cell? ⟨g, o + i * 8 + 2, none⟩ = some (.int .i64 m.pa) ∧ w.cell? ⟨g, o + i * 8 + 3, none⟩ = some (.string m.se) ∧ w.cell? ⟨g, o + i * 8 + 4, none⟩ = some (.string m.ho) ∧ w.cell? ⟨g, o + i * 8 + 5, none⟩ = some (.int .i64 m.st) ∧ w.cell? ⟨g, o + i * 8 + 6, none⟩ = some (.int .i64 m.du) ∧ w.cell? ⟨g, o + i * 8 + 7, none⟩ = some (.string m.no) := by
  have h := fun k hk u (hu : m.cells[k]? = some u) => hc _ u ((cellsS_at L i m hm k hk).trans hu)
  refine ⟨by have := h 0 (by omega) _ rfl; simpa [Nat.add_assoc] using this, by have := h 1 (by omega) _ rfl; simpa [Nat.add_assoc] using this, by have := h 2 (by omega) _ rfl; simpa [Nat.add_assoc] using this, by have := h 3 (by omega) _ rfl; simpa [Nat.add_assoc] using this, by have := h 4 (by omega) _ rfl; simpa [Nat.add_assoc] using this, by have := h 5 (by omega) _ rfl; simpa [Nat.add_assoc] using this, by have := h 6 (by omega) _ rfl; simpa [Nat.add_assoc] using this, by have := h 7 (by omega) _ rfl; simpa [Nat.add_assoc] using this⟩

theorem own : ownKnob Try.prog.godebug = none := by kernel_rfl
theorem laidOut : laidOutB Try.prog = true := by kernel_rfl
theorem cellsOf3 : Try.prog.cellsOf 3 = 1 := by kernel_rfl
theorem cellsOf9 : Try.prog.cellsOf 9 = 1 := by kernel_rfl
theorem cellsOf37 : Try.prog.cellsOf 37 = 8 := by kernel_rfl

section
variable {H : Type} {enc : TypeId × Value → H} {w : World} {base : Nat} {spare : Nat → Bool} {held : Bool} {fuel : Nat} {cs : List Value} {x : DataW H × List MemPlace}
set_option maxRecDepth 100000 in
theorem spn_cells (h : DataW.trod enc Try.prog w base spare held fuel 37 cs = some x) : ∃ m : Spn, cs = m.cells ∧ m.se.size ≤ maxLen ∧ m.ho.size ≤ maxLen ∧ m.no.size ≤ maxLen := by
  obtain ⟨xs, n, _, rfl, hl, hlen, hf⟩ := DataW.trod_struct Try.underlying37 h
  rw [cellsOf37] at hl
  match xs, hlen, cs, hl with
  | [y0, y1, y2, y3, y4, y5, y6, y7], _, [c0, c1, c2, c3, c4, c5, c6, c7], _ =>
    have h0 := hf 0 _ rfl
    have h1 := hf 1 _ rfl
    have h2 := hf 2 _ rfl
    have h3 := hf 3 _ rfl
    have h4 := hf 4 _ rfl
    have h5 := hf 5 _ rfl
    have h6 := hf 6 _ rfl
    have h7 := hf 7 _ rfl
    simp [cellsOf3] at h0
    simp [cellsOf3] at h1
    simp [cellsOf3] at h2
    simp [cellsOf9] at h3
    simp [cellsOf9] at h4
    simp [cellsOf3] at h5
    simp [cellsOf3] at h6
    simp [cellsOf9] at h7
    obtain ⟨a0, e0, _, _⟩ := DataW.trod_int Try.underlying3 h0
    obtain ⟨a1, e1, _, _⟩ := DataW.trod_int Try.underlying3 h1
    obtain ⟨a2, e2, _, _⟩ := DataW.trod_int Try.underlying3 h2
    obtain ⟨a3, e3, _, b3⟩ := DataW.trod_string Try.underlying9 h3
    obtain ⟨a4, e4, _, b4⟩ := DataW.trod_string Try.underlying9 h4
    obtain ⟨a5, e5, _, _⟩ := DataW.trod_int Try.underlying3 h5
    obtain ⟨a6, e6, _, _⟩ := DataW.trod_int Try.underlying3 h6
    obtain ⟨a7, e7, _, b7⟩ := DataW.trod_string Try.underlying9 h7
    simp only [List.cons.injEq, and_true] at e0 e1 e2 e3 e4 e5 e6 e7
    exact ⟨⟨a0, a1, a2, a3, a4, a5, a6, a7⟩, by rw [e0, e1, e2, e3, e4, e5, e6, e7]; rfl, b3, b4, b7⟩
theorem mapM_get {α β : Type} {f : α → Option β} : ∀ {l : List α} {r : List β}, l.mapM f = some r → r.length = l.length ∧ ∀ (i : Nat) (y : β), r[i]? = some y → ∃ z, l[i]? = some z ∧ f z = some y
  | [], r, h => by simp at h; subst h; exact ⟨rfl, fun i y hy => by simp at hy⟩
  | z :: l, r, h => by
    rw [List.mapM_cons] at h
    cases h1 : f z with
    | none => simp [h1] at h
    | some y0 =>
      cases h2 : l.mapM f with
      | none => simp [h1, h2] at h
      | some r0 =>
        simp [h1, h2] at h
        subst h
        obtain ⟨e, ih⟩ := mapM_get h2
        refine ⟨by simp [e], fun i y hy => ?_⟩
        cases i with
        | zero => simp at hy; subst hy; exact ⟨z, rfl, h1⟩
        | succ i => simpa using ih i y (by simpa using hy)
theorem cells_get {a : Addr} {n : Nat} {cs' : List Value} (h : w.cells? base a n = some cs') : cs'.length = n ∧ ∀ r u, cs'[r]? = some u → w.cell? (a.add r) = some u := by
  unfold World.cells? at h
  split at h
  · obtain ⟨e, hg⟩ := mapM_get h
    refine ⟨by simpa using e, fun r u hu => ?_⟩
    obtain ⟨z, hz, hf⟩ := hg r u hu
    have hr : r < n := by have := (List.getElem?_eq_some_iff.1 hu).1; simp at e; omega
    rw [List.getElem?_range hr] at hz
    cases hz; exact hf
  · cases h
theorem spans_open (h : DataW.trod enc Try.prog w 0 spare held fuel 27 cs = some x) :
    ∃ v, cs = [v] ∧ ∃ R : List Spn, ReadsS w v R ∧ R.length ≤ maxLen ∧ ∀ y ∈ R, y.se.size ≤ maxLen ∧ y.ho.size ≤ maxLen ∧ y.no.size ≤ maxLen := by
  rcases open_slice Try.underlying27 h with ⟨hcs, _⟩ | ⟨b, len, cap, m, n, D, Pl, hcs, _, hl, hm, hmm, _, hel⟩
  · exact ⟨_, hcs, [], ⟨none, 0, rfl, .inl rfl⟩, by simp, fun y hy => by cases hy⟩
  · have hlm : len ≤ m := by rw [hmm]; split <;> omega
    rw [cellsOf37] at hel
    obtain ⟨f, hf⟩ := choose_lt (n := len) (p := fun i (y : Spn) => (∃ cs', w.cells? 0 (b.add (i * 8)) 8 = some cs' ∧ cs' = y.cells) ∧ y.se.size ≤ maxLen ∧ y.ho.size ≤ maxLen ∧ y.no.size ≤ maxLen) (fun i hi => by
      obtain ⟨cs', h1, h2⟩ := hel i (by omega)
      obtain ⟨y, e, hb⟩ := spn_cells h2
      exact ⟨y, ⟨cs', h1, e⟩, hb⟩)
    refine ⟨_, hcs, (List.range len).map f, ⟨some b, cap, by simp, ?_⟩, by simp; omega, fun y hy => ?_⟩
    · by_cases h0 : len = 0
      · left; subst h0; rfl
      · right
        obtain ⟨⟨cs', h1, h2⟩, _⟩ := hf 0 (by omega)
        obtain ⟨_, hg⟩ := cells_get h1
        have hspot : b.spot = none := by
          have := hg 0 (.int .i64 (f 0).tr) (by rw [h2]; rfl)
          have := World.cell?_spot this
          simpa [Addr.add] using this
        obtain ⟨bb, bo, bs⟩ := b
        simp at hspot; subst hspot
        refine ⟨bb, bo, rfl, fun j u hu => ?_⟩
        have hl2 := (List.getElem?_eq_some_iff.1 hu).1
        rw [cellsS_length] at hl2
        simp at hl2
        have hq : j / 8 < len := by omega
        have hj : j = j / 8 * 8 + j % 8 := by omega
        have hgm : ((List.range len).map f)[j / 8]? = some (f (j / 8)) := by simp [hq]
        rw [hj, cellsS_at _ _ _ hgm _ (Nat.mod_lt _ (by omega))] at hu
        obtain ⟨⟨cs', h1, h2⟩, _⟩ := hf (j / 8) hq
        obtain ⟨_, hg⟩ := cells_get h1
        have := hg (j % 8) u (by rw [h2]; exact hu)
        rw [add_mid, add_mid] at this
        rw [show bo + j = bo + j / 8 * 8 + j % 8 by omega]
        exact this
    · obtain ⟨i, hi, rfl⟩ := List.mem_map.1 hy
      exact (hf i (by simpa using hi)).2
end
end Go.Proofs.Ytibakmchgppndaa
