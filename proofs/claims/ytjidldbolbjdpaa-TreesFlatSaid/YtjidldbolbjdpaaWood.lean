/- What trees.of lays in memory. -/
import Derived.Test.YtjidldbolbjdpaaCycles
namespace Go.Proofs.Ytjidldbolbjdpaa
open Go.RowKit

/-- The place of the parent of the one at x. -/
def pF (R : List Spn) (x : Nat) : Option Nat := plF R (nth R x).pa
def lostF (R : List Spn) (x : Nat) : Bool := ((nth R x).pa != 0) && (pInt (pF R x) == -1)
open Classical in
noncomputable def hdF (R : List Spn) (x : Nat) : Bool := decide (lostF R x = true ∨ Least (pF R) x)
open Classical in
noncomputable def kidF (R : List Spn) (m x : Nat) : List Nat := (List.range m).filter (fun k => decide (pF R k = some x ∧ hdF R k = false))
theorem pF_lt {R : List Spn} {x y : Nat} (h : pF R x = some y) : y < R.length := (plF_spec h).1
theorem lostF_none {R : List Spn} {x : Nat} (h : lostF R x = true) : pF R x = none := by
  unfold lostF at h
  cases e : pF R x with
  | none => rfl
  | some y => rw [e] at h; simp [pInt] at h
def ReadsN (b : Nat) (w : World) (v : Value) (l : List Nat) : Prop := ∃ ao cap, v = .slice ao l.length cap ∧ (l = [] ∨ ∃ g o, ao = some ⟨g, o, none⟩ ∧ b ≤ g ∧ ∀ j u, (nats l)[j]? = some u → w.cell? ⟨g, o + j, none⟩ = some u)
structure Wood (b : Nat) (w : World) (wb : Nat) (R : List Spn) : Prop where
  new : b ≤ wb
  spans : ∃ v, w.cell? ⟨wb, 0, none⟩ = some v ∧ ReadsSb b w v R
  head : ∃ gh, b ≤ gh ∧ w.cell? ⟨wb, 2, none⟩ = some (.slice (some ⟨gh, 0, none⟩) R.length R.length) ∧ ∀ x, x < R.length → w.cell? ⟨gh, x, none⟩ = some (.bool (hdF R x))
  kids : ∃ gk, b ≤ gk ∧ w.cell? ⟨wb, 3, none⟩ = some (.slice (some ⟨gk, 0, none⟩) R.length R.length) ∧ ∀ x, x < R.length → ∃ v, w.cell? ⟨gk, x, none⟩ = some v ∧ ReadsN b w v (kidF R R.length x)
theorem ReadsN.keptT {b : Nat} {T : Nat → Prop} {w w' : World} {v : Value} {l : List Nat} (h : ReadsN b w v l) (K : Kept T w w') (hT : ∀ k, T k → k < b) : ReadsN b w' v l := by
  obtain ⟨ao, cap, e, h⟩ := h
  exact ⟨ao, cap, e, h.imp id (fun ⟨g, o, e, hb, c⟩ => ⟨g, o, e, hb, fun j u hu => K.cell (c j u hu) (fun t => by have := hT _ t; simp only at this; omega)⟩)⟩
theorem Wood.keptT {b : Nat} {T : Nat → Prop} {w w' : World} {wb : Nat} {R : List Spn} (h : Wood b w wb R) (k : Kept T w w') (hT : ∀ k, T k → k < b) : Wood b w' wb R := by
  obtain ⟨h0, ⟨v, a, r⟩, ⟨gh, h1, c, d⟩, ⟨gk, h2, e, f⟩⟩ := h
  refine ⟨h0, ⟨v, k.cell a (fun t => ?_), r.keptT k hT⟩, ⟨gh, h1, k.cell c (fun t => ?_), fun x hx => k.cell (d x hx) (fun t => ?_)⟩, ⟨gk, h2, k.cell e (fun t => ?_), fun x hx => ?_⟩⟩
  · have := hT _ t; simp only at this; omega
  · have := hT _ t; simp only at this; omega
  · have := hT _ t; simp only at this; omega
  · have := hT _ t; simp only at this; omega
  · obtain ⟨v, h3, h4⟩ := f x hx
    exact ⟨v, k.cell h3 (fun t => by have := hT _ t; simp only at this; omega), h4.keptT k hT⟩
theorem Wood.kept {b : Nat} {w w' : World} {wb : Nat} {R : List Spn} (h : Wood b w wb R) (k : Kept (fun _ => False) w w') : Wood b w' wb R := h.keptT k (fun _ f => f.elim)
theorem kidF_snoc (R : List Spn) (j x : Nat) : kidF R (j + 1) x = kidF R j x ++ (if pF R j = some x ∧ hdF R j = false then [j] else []) := by
  simp only [kidF, List.range_succ, List.filter_append]
  congr 1
  by_cases h : pF R j = some x ∧ hdF R j = false
  · rw [if_pos h]; simp [h]
  · rw [if_neg h]; simp; simpa using h
theorem kidF_skip {R : List Spn} {j : Nat} (h : pF R j = none ∨ hdF R j = true) (x : Nat) : kidF R (j + 1) x = kidF R j x := by
  rw [kidF_snoc, if_neg, List.append_nil]
  rintro ⟨a, b⟩
  rcases h with h | h
  · rw [h] at a; cases a
  · rw [h] at b; cases b
theorem kidF_other {R : List Spn} {j q x : Nat} (h : pF R j = some q) (hx : x ≠ q) : kidF R (j + 1) x = kidF R j x := by
  rw [kidF_snoc, if_neg, List.append_nil]
  rintro ⟨a, _⟩
  rw [h] at a; exact hx (Option.some.inj a).symm
theorem kidF_here {R : List Spn} {j q : Nat} (h : pF R j = some q) (hh : hdF R j = false) : kidF R (j + 1) q = kidF R j q ++ [j] := by
  rw [kidF_snoc, if_pos ⟨h, hh⟩]
theorem kidF_zero (R : List Spn) (x : Nat) : kidF R 0 x = [] := rfl
theorem own_lt {w : World} {base e size : Nat} {v : Value} {n : Nat} {xs : List Value} (h : w.ownsRow base e size v n xs) {k : Nat} (hk : v.ownBlock = some k) : base ≤ k ∧ k < w.heap.size := by
  rcases row_form h with ⟨rfl, _⟩ | ⟨g, c, rfl, _, hb, hlt, _⟩
  · cases hk
  · cases hk; exact ⟨hb, hlt⟩
theorem map_upd (kv : Nat → Value) (n q : Nat) (v : Value) : ((List.range n).map kv).set q v = (List.range n).map (fun x => if x = q then v else kv x) := by
  apply List.ext_getElem?
  intro k
  rw [List.getElem?_set, List.getElem?_map, List.getElem?_map]
  by_cases hk : k < n
  · rw [List.getElem?_eq_getElem (by simpa using hk)]
    by_cases c : q = k
    · subst c; simp [hk]
    · simp [c, Ne.symm c]
  · rw [List.getElem?_eq_none (by simpa using hk)]
    split
    · simp; omega
    · simp
/-- The kids' rows, behind so many rounds. -/
structure KidsAt (R : List Spn) (B b0 gk n j : Nat) (kv : Nat → Value) (w : World) : Prop where
  top : w.ownsRow B 49 1 (.slice (some ⟨gk, 0, none⟩) n n) n ((List.range n).map kv)
  each : ∀ x, x < n → w.ownsRow b0 3 1 (kv x) (kidF R j x).length (nats (kidF R j x))
  apart : ∀ x y b, x < n → y < n → x ≠ y → (kv x).ownBlock = some b → (kv y).ownBlock ≠ some b
  old : gk < b0
theorem KidsAt.kept {R : List Spn} {B b0 gk n j : Nat} {kv : Nat → Value} {w w' : World} (h : KidsAt R B b0 gk n j kv w) (k : Kept (fun _ => False) w w') : KidsAt R B b0 gk n j kv w' :=
  ⟨own_keptS h.top k (fun _ _ f => f), fun x hx => own_keptS (h.each x hx) k (fun _ _ f => f), h.apart, h.old⟩
theorem KidsAt.skip {R : List Spn} {B b0 gk n j : Nat} {kv : Nat → Value} {w : World} (h : KidsAt R B b0 gk n j kv w) (hs : pF R j = none ∨ hdF R j = true) : KidsAt R B b0 gk n (j + 1) kv w :=
  ⟨h.top, fun x hx => by rw [kidF_skip hs]; exact h.each x hx, h.apart, h.old⟩
theorem KidsAt.push {R : List Spn} {B b0 gk n j : Nat} {kv : Nat → Value} {w w6 W2 : World} (h : KidsAt R B b0 gk n j kv w) {q : Nat} (hq : q < n) (hp : pF R j = some q) (hh : hdF R j = false) {nv : Value}
    (hw : Kept (fun k => (kv q).ownBlock = some k) w w6) (hown : w6.ownsRow b0 3 1 nv ((kidF R j q).length + 1) (nats (kidF R j q) ++ [.int .i64 ((j : Nat) : Int)])) (hat : nv.ownBlock = (kv q).ownBlock ∨ ∃ b, nv.ownBlock = some b ∧ w.heap.size ≤ b)
    (hW : W2 = w6.setCell ⟨gk, q, none⟩ nv) : KidsAt R B b0 gk n (j + 1) (fun x => if x = q then nv else kv x) W2 := by
  have hK : Kept (fun k => k = gk) w6 W2 := by rw [hW]; exact kept_put w6 gk q nv
  have hkq : ∀ b, (kv q).ownBlock = some b → b0 ≤ b := fun b hb => (own_lt (h.each q hq) hb).1
  refine ⟨?_, fun x hx => ?_, fun x y b hx hy hne hb => ?_, h.old⟩
  · rw [← map_upd, hW]
    refine own_put (own_keptS h.top hw (fun b hb e => ?_)) q nv
    have := hkq b e; cases hb; have := h.old; simp only at *; omega
  · by_cases c : x = q
    · subst c
      rw [if_pos rfl, kidF_here hp hh]
      simp only [List.length_append, List.length_cons, List.length_nil, Nat.zero_add, nats, List.map_append, List.map_cons, List.map_nil]
      exact own_keptS hown hK (fun b hb e => by have := own_lt hown hb; have := h.old; omega)
    · rw [if_neg c, kidF_other hp c]
      refine own_keptS (own_keptS (h.each x hx) hw (fun b hb e => h.apart x q b hx hq c hb e)) hK (fun b hb e => ?_)
      have := own_lt (h.each x hx) hb; have := h.old; omega
  · by_cases c : x = q
    · rw [if_pos c] at hb
      rw [if_neg (fun e => hne (c.trans e.symm))]
      rcases hat with e | ⟨b', e, hb'⟩
      · rw [e] at hb; exact h.apart q y b hq hy (fun e => hne (c.trans e)) hb
      · rw [e] at hb; cases hb
        intro e2
        have := own_lt (h.each y hy) e2; omega
    · rw [if_neg c] at hb
      by_cases d : y = q
      · rw [if_pos d]
        rcases hat with e | ⟨b', e, hb'⟩
        · rw [e]; exact h.apart x q b hx hq c hb
        · rw [e]; intro e2; cases e2
          have := own_lt (h.each x hx) hb; omega
      · rw [if_neg d]; exact h.apart x y b hx hy hne hb
theorem kidF_len (R : List Spn) (m x : Nat) : (kidF R m x).length ≤ m := by
  unfold kidF
  exact Nat.le_trans (List.length_filter_le _ _) (by simp)
open Classical in
theorem hdF_iff (R : List Spn) (x : Nat) : hdF R x = true ↔ lostF R x = true ∨ Least (pF R) x := by
  unfold hdF
  exact decide_eq_true_iff
theorem nils_map (n : Nat) : (List.range n).map (fun _ => Value.slice none 0 0) = List.replicate n (.slice none 0 0) := by
  rw [List.map_const', List.length_range]
end Go.Proofs.Ytjidldbolbjdpaa
