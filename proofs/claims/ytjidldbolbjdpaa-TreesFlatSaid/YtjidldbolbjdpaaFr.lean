/- Forests, how they lie in memory, and lists of nodes that grow. -/
import Derived.Test.YtjidldbolbjdpaaOf1
namespace Go.Proofs.Ytjidldbolbjdpaa
open Go.RowKit

/-- A list of nodes, each with the list of its kids. -/
inductive Fr where
  | nil
  | cons (s : Spn) (kids rest : Fr)
  deriving Inhabited
def Fr.len : Fr → Nat
  | .nil => 0
  | .cons _ _ r => r.len + 1
def Fr.app : Fr → Fr → Fr
  | .nil, b => b
  | .cons s k r, b => .cons s k (r.app b)
def Fr.flat : Fr → List Spn
  | .nil => []
  | .cons s k r => s :: (k.flat ++ r.flat)
/-- As it lies from an address on; all blocks that it has meet S. -/
def RowF (S : Nat → Prop) (w : World) (g o : Nat) : Fr → Prop
  | .nil => True
  | .cons s k r => S g ∧ (∀ j u, s.cells[j]? = some u → w.cell? ⟨g, o + j, none⟩ = some u) ∧
      (∃ ao cap, w.cell? ⟨g, o + 8, none⟩ = some (.slice ao k.len cap) ∧ (k = .nil ∨ ∃ g' o', ao = some ⟨g', o', none⟩ ∧ RowF S w g' o' k)) ∧ RowF S w g (o + 9) r
def ReadsF (S : Nat → Prop) (w : World) (v : Value) (f : Fr) : Prop := ∃ ao cap, v = .slice ao f.len cap ∧ (f = .nil ∨ ∃ g o, ao = some ⟨g, o, none⟩ ∧ RowF S w g o f)
theorem RowF.kept {S T S' : Nat → Prop} {w w' : World} (K : Kept T w w') (h1 : ∀ k, k < w.heap.size → S k → ¬ T k) (h2 : ∀ k, k < w.heap.size → S k → S' k) : ∀ (f : Fr) {g o : Nat}, RowF S w g o f → RowF S' w' g o f
  | .nil, _, _, _ => trivial
  | .cons s k r, g, o, h => by
    obtain ⟨a, b, ⟨ao, cap, c, d⟩, e⟩ := h
    have hg : g < w.heap.size := World.block_lt_of_cell? _ _ c
    refine ⟨h2 g hg a, fun j u hu => K.cell (b j u hu) (h1 g hg a), ⟨ao, cap, K.cell c (h1 g hg a), d.imp id ?_⟩, RowF.kept K h1 h2 r e⟩
    rintro ⟨g', o', e1, d1⟩
    exact ⟨g', o', e1, RowF.kept K h1 h2 k d1⟩
theorem ReadsF.keptS {S T S' : Nat → Prop} {w w' : World} {v : Value} {f : Fr} (h : ReadsF S w v f) (K : Kept T w w') (h1 : ∀ k, k < w.heap.size → S k → ¬ T k) (h2 : ∀ k, k < w.heap.size → S k → S' k) : ReadsF S' w' v f := by
  obtain ⟨ao, cap, rfl, h⟩ := h
  refine ⟨ao, cap, rfl, h.imp id ?_⟩
  rintro ⟨g, o, e1, h3⟩
  exact ⟨g, o, e1, RowF.kept K h1 h2 f h3⟩
theorem ReadsF.kept {S : Nat → Prop} {w w' : World} {v : Value} {f : Fr} (h : ReadsF S w v f) (K : Kept (fun _ => False) w w') : ReadsF S w' v f := h.keptS K (fun _ _ _ f => f) (fun _ _ h => h)

/-- A node in a list that grows: its span, its kids' value, and what that reads as. -/
structure NR where
  s : Spn
  v : Value
  f : Fr
def cellsN : List NR → List Value
  | [] => []
  | x :: t => (x.s.cells ++ [x.v]) ++ cellsN t
theorem cellsN_append : ∀ a b, cellsN (a ++ b) = cellsN a ++ cellsN b
  | [], _ => rfl
  | x :: t, b => by simp [cellsN, cellsN_append t b]
theorem cellsN_length : ∀ l, (cellsN l).length = l.length * 9
  | [] => rfl
  | x :: t => by simp [cellsN, cellsN_length t, Spn.cells]; omega
def frN : List NR → Fr
  | [] => .nil
  | x :: t => .cons x.s x.f (frN t)
theorem frN_len : ∀ l, (frN l).len = l.length
  | [] => rfl
  | x :: t => by simp [frN, Fr.len, frN_len t]
structure Grown (b0 : Nat) (A : Nat → Prop) (w : World) (kv : Value) (l : List NR) : Prop where
  row : w.ownsRow b0 39 9 kv l.length (cellsN l)
  own : ∀ k, kv.ownBlock = some k → A k
  kids : ∀ x ∈ l, ReadsF (fun k => b0 ≤ k ∧ ¬ A k) w x.v x.f
theorem Grown.nil (b0 : Nat) (A : Nat → Prop) (w : World) : Grown b0 A w (.slice none 0 0) [] := ⟨own_nil _ _ _ _, fun _ h => (by cases h), fun _ h => (by cases h)⟩
theorem Grown.keep {b0 : Nat} {A T : Nat → Prop} {w w' : World} {kv : Value} {l : List NR} (h : Grown b0 A w kv l) (K : Kept T w w') (hT : ∀ k, k < w.heap.size → T k → k < b0) : Grown b0 A w' kv l :=
  ⟨own_keptS h.row K (fun b hb t => by have := own_lt h.row hb; have := hT b this.2 t; omega), h.own, fun x hx => (h.kids x hx).keptS K (fun k hk hs t => by have := hT k hk t; omega) (fun _ _ h => h)⟩
theorem Grown.push {b0 : Nat} {A : Nat → Prop} {w w5 w6 : World} {kv nv v : Value} {l : List NR} {s : Spn} {f : Fr} (h : Grown b0 A w kv l) (hA : ∀ k, A k → k < w.heap.size) (hb : b0 ≤ w.heap.size) (k5 : Kept (fun _ => False) w w5)
    (hv : ReadsF (fun k => w.heap.size ≤ k) w5 v f) (h6 : Kept (fun k => kv.ownBlock = some k) w5 w6) (hown : w6.ownsRow b0 39 9 nv (l.length + 1) (cellsN l ++ (s.cells ++ [v]))) (hat : nv.ownBlock = kv.ownBlock ∨ ∃ b, nv.ownBlock = some b ∧ w5.heap.size ≤ b) :
    Grown b0 (fun k => A k ∨ nv.ownBlock = some k) w6 nv (l ++ [⟨s, v, f⟩]) := by
  refine ⟨by rw [cellsN_append]; simpa [cellsN] using hown, fun k hk => .inr hk, fun x hx => ?_⟩
  rw [List.mem_append] at hx
  rcases hx with hx | hx
  · refine ((h.kids x hx).keptS k5 (fun _ _ _ f => f) (S' := fun k => b0 ≤ k ∧ ¬ A k ∧ k < w.heap.size) (fun k hk hs => ⟨hs.1, hs.2, hk⟩)).keptS h6 (fun k _ hs e => hs.2.1 (h.own k e)) (fun k _ hs => ⟨hs.1, fun hn => ?_⟩)
    rcases hn with hn | hn
    · exact hs.2.1 hn
    · rcases hat with e | ⟨b, e, hb'⟩
      · exact hs.2.1 (h.own k (e ▸ hn))
      · rw [e] at hn; cases hn
        have := k5.size; omega
  · obtain rfl := List.mem_singleton.1 hx
    refine hv.keptS h6 (fun k _ hs e => by have := hA k (h.own k e); omega) (fun k hk hs => ⟨by omega, fun hn => ?_⟩)
    rcases hn with hn | hn
    · have := hA k hn; omega
    · rcases hat with e | ⟨b, e, hb'⟩
      · have := hA k (h.own k (e ▸ hn)); omega
      · rw [e] at hn; cases hn; omega
/-- Another list, while one grows. -/
theorem Grown.beside {b0 : Nat} {A : Nat → Prop} {w w5 w6 : World} {kv nv ov : Value} {l : List NR} (h : Grown b0 A w ov l) (k5 : Kept (fun _ => False) w w5)
    (h6 : Kept (fun k => kv.ownBlock = some k) w5 w6) (hk : ∀ k, kv.ownBlock = some k → A k ∧ ov.ownBlock ≠ some k) (hat : nv.ownBlock = kv.ownBlock ∨ ∃ b, nv.ownBlock = some b ∧ w5.heap.size ≤ b) :
    Grown b0 (fun k => A k ∨ nv.ownBlock = some k) w6 ov l := by
  refine ⟨own_keptS (own_keptS h.row k5 (fun _ _ f => f)) h6 (fun b hb e => (hk b e).2 hb), fun k hk => .inl (h.own k hk), fun x hx => ?_⟩
  refine ((h.kids x hx).keptS k5 (fun _ _ _ f => f) (S' := fun k => b0 ≤ k ∧ ¬ A k ∧ k < w.heap.size) (fun k hk hs => ⟨hs.1, hs.2, hk⟩)).keptS h6 (fun k _ hs e => hs.2.1 (hk k e).1) (fun k _ hs => ⟨hs.1, fun hn => ?_⟩)
  rcases hn with hn | hn
  · exact hs.2.1 hn
  · rcases hat with e | ⟨b, e, hb'⟩
    · exact hs.2.1 (hk k (e ▸ hn)).1
    · rw [e] at hn; cases hn
      have := k5.size; omega
theorem cellsN_at : ∀ (l : List NR) (i : Nat) (x : NR), l[i]? = some x → ∀ k, k < 9 → (cellsN l)[i * 9 + k]? = (x.s.cells ++ [x.v])[k]?
  | [], i, m, h, _, _ => by simp at h
  | x :: t, 0, m, h, k, hk => by
    simp at h; subst h
    rw [cellsN, List.getElem?_append_left (by simp [Spn.cells]; omega)]; simp
  | x :: t, i + 1, m, h, k, hk => by
    have := cellsN_at t i m (by simpa using h) k hk
    rw [cellsN, List.getElem?_append_right (by simp [Spn.cells]; omega), ← this]
    congr 1; simp [Spn.cells]; omega
theorem rowF_of {S : Nat → Prop} {w : World} {g : Nat} (hg : S g) : ∀ (l : List NR) (o : Nat), (∀ x ∈ l, ReadsF S w x.v x.f) → (∀ j u, (cellsN l)[j]? = some u → w.cell? ⟨g, o + j, none⟩ = some u) → RowF S w g o (frN l)
  | [], _, _, _ => trivial
  | x :: t, o, hk, hc => by
    have h9 : (x.s.cells ++ [x.v]).length = 9 := by simp [Spn.cells]
    have hx : ∀ j u, (x.s.cells ++ [x.v])[j]? = some u → w.cell? ⟨g, o + j, none⟩ = some u := fun j u hu => hc j u (by
      have hj := (List.getElem?_eq_some_iff.1 hu).1
      rw [cellsN, List.getElem?_append_left (by omega)]; exact hu)
    obtain ⟨ao, cap, e, hr⟩ := hk x (by simp)
    refine ⟨hg, fun j u hu => hx j u ?_, ⟨ao, cap, ?_, hr⟩, rowF_of hg t (o + 9) (fun y hy => hk y (by simp [hy])) (fun j u hu => ?_)⟩
    · have hj := (List.getElem?_eq_some_iff.1 hu).1
      rw [List.getElem?_append_left hj]; exact hu
    · rw [← e]; exact hx 8 _ rfl
    · have := hc (9 + j) u (by rw [cellsN, List.getElem?_append_right (by omega), show 9 + j - (x.s.cells ++ [x.v]).length = j by omega]; exact hu)
      rwa [← Nat.add_assoc] at this
/-- What has grown reads as a forest. -/
theorem Grown.reads {b0 : Nat} {A : Nat → Prop} {w : World} {kv : Value} {l : List NR} (h : Grown b0 A w kv l) : ReadsF (fun k => b0 ≤ k) w kv (frN l) := by
  rcases row_form h.row with ⟨e1, e2⟩ | ⟨g, c, e1, _, hb, _, hc⟩
  · obtain rfl := List.eq_nil_of_length_eq_zero e2
    exact ⟨none, 0, e1, .inl rfl⟩
  · refine ⟨_, c, by rw [e1, frN_len], .inr ⟨g, 0, rfl, rowF_of hb l 0 (fun x hx => ?_) (fun j u hu => by rw [Nat.zero_add]; exact hc j u hu)⟩⟩
    obtain ⟨ao, cap, e, hr⟩ := h.kids x hx
    refine ReadsF.keptS (h.kids x hx) (Kept.refl (fun _ => False) w) (fun _ _ _ f => f) (fun k _ hs => hs.1)
end Go.Proofs.Ytjidldbolbjdpaa
