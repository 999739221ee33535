/- The order of cells, and of rows by their first cells: plain laws. -/
import Derived.Test.YtfhpjopdndnmgaaClone
import Derived.Sort.Walk0
namespace Go.Proofs.Ytfhpjopdndnmgaa
open Go.RowKit

structure IsCmp {α : Type} (c : α → α → Int) : Prop where
  anti : ∀ a b, c a b < 0 ↔ 0 < c b a
  tr : ∀ a b d, c a b ≤ 0 → c b d ≤ 0 → c a d ≤ 0

theorem IsCmp.zero {α : Type} {c : α → α → Int} (h : IsCmp c) (a b : α) : c a b = 0 ↔ c b a = 0 := by
  have h1 := h.anti a b
  have h2 := h.anti b a
  constructor <;> intro e <;> omega
theorem IsCmp.le {α : Type} {c : α → α → Int} (h : IsCmp c) (a b : α) : c a b ≤ 0 ↔ 0 ≤ c b a := by
  have h2 := h.anti b a
  omega
theorem IsCmp.lt_le {α : Type} {c : α → α → Int} (h : IsCmp c) {a b d : α} (h1 : c a b < 0) (h2 : c b d ≤ 0) : c a d < 0 := by
  have h3 := h.tr a b d (by omega) h2
  by_cases e : c a d = 0
  · have e2 := (h.zero a d).1 e
    have h4 := h.tr b d a h2 (by omega)
    have h5 := (h.anti a b).1 h1
    omega
  · omega
theorem IsCmp.le_lt {α : Type} {c : α → α → Int} (h : IsCmp c) {a b d : α} (h1 : c a b ≤ 0) (h2 : c b d < 0) : c a d < 0 := by
  have h3 := h.tr a b d h1 (by omega)
  by_cases e : c a d = 0
  · have e2 := (h.zero a d).1 e
    have h4 := h.tr d a b (by omega) h1
    have h5 := (h.anti b d).1 h2
    omega
  · omega
theorem IsCmp.or {α : Type} {c d : α → α → Int} (h : IsCmp c) (k : IsCmp d) : IsCmp (fun a b => or2 (c a b) (d a b)) := by
  refine ⟨fun a b => ?_, fun a b e => ?_⟩
  · have h1 := h.anti a b; have h2 := h.anti b a; have h3 := h.zero a b; have h4 := k.anti a b
    simp only [or2]
    split <;> split <;> omega
  · intro h1 h2
    simp only [or2] at *
    by_cases e1 : c a b = 0
    · rw [if_pos e1] at h1
      by_cases e2 : c b e = 0
      · rw [if_pos e2] at h2
        have e3 : c a e = 0 := by
          have q1 := h.tr a b e (by omega) (by omega)
          have q2 := h.tr e b a (by have := (h.zero b e).1 e2; omega) (by have := (h.zero a b).1 e1; omega)
          have q3 := (h.le e a).1 q2
          omega
        rw [if_pos e3]; exact k.tr _ _ _ h1 h2
      · rw [if_neg e2] at h2
        have := h.le_lt (a := a) (b := b) (d := e) (by omega) (by omega)
        rw [if_neg (by omega)]; omega
    · rw [if_neg e1] at h1
      by_cases e2 : c b e = 0
      · have := h.lt_le (a := a) (b := b) (d := e) (by omega) (by omega)
        rw [if_neg (by omega)]; omega
      · rw [if_neg e2] at h2
        have := h.lt_le (a := a) (b := b) (d := e) (by omega) (by omega)
        rw [if_neg (by omega)]; omega

theorem cmpI_is : IsCmp cmpI := by
  refine ⟨fun a b => ?_, fun a b d => ?_⟩
  · simp only [cmpI]; repeat' split
    all_goals omega
  · simp only [cmpI]; repeat' split
    all_goals omega
theorem cmpI_zero (a b : Int) : cmpI a b = 0 ↔ a = b := by
  simp only [cmpI]; repeat' split
  all_goals omega

theorem sLt_iff (x y : ByteArray) : sLt x y = true ↔ x.toList < y.toList := by
  unfold sLt; rw [bytesLess_eq]; simp
theorem sEq_iff (x y : ByteArray) : sEq x y = true ↔ x.toList = y.toList := by unfold sEq; simp
theorem cmpS_lt (x y : ByteArray) : cmpS x y < 0 ↔ x.toList < y.toList := by
  rw [← sLt_iff]; unfold cmpS
  cases h : sLt x y
  · cases sEq x y <;> simp
  · simp
theorem cmpS_zero (x y : ByteArray) : cmpS x y = 0 ↔ x = y := by
  unfold cmpS
  cases h : sLt x y with
  | true =>
    simp
    rintro rfl
    have := (sLt_iff x x).1 h
    exact absurd this (List.lt_irrefl _)
  | false =>
    cases h2 : sEq x y with
    | true => simp; exact bytes_eq ((sEq_iff x y).1 h2)
    | false =>
      simp
      rintro rfl
      rw [(sEq_iff x x).2 rfl] at h2; cases h2
theorem cmpS_gt (x y : ByteArray) : 0 < cmpS x y ↔ y.toList < x.toList := by
  have h1 := cmpS_lt x y
  have h0 := cmpS_zero x y
  have h3 : cmpS x y = -1 ∨ cmpS x y = 0 ∨ cmpS x y = 1 := by
    unfold cmpS; split
    · exact .inl rfl
    · split
      · exact .inr (.inl rfl)
      · exact .inr (.inr rfl)
  constructor
  · intro h
    have n1 : ¬ x.toList < y.toList := fun f => by have := h1.2 f; omega
    have n2 : ¬ x.toList = y.toList := fun f => by have := h0.2 (bytes_eq f); omega
    have n3 : y.toList ≤ x.toList := List.not_lt.1 n1
    rcases List.le_iff_lt_or_eq.1 n3 with f | f
    · exact f
    · exact absurd f.symm n2
  · intro h
    rcases h3 with e | e | e
    · have := h1.1 (by omega)
      exact absurd this (List.lt_asymm h)
    · have := h0.1 e
      subst this; exact absurd h (List.lt_irrefl _)
    · omega
theorem cmpS_is : IsCmp cmpS := by
  refine ⟨fun a b => by rw [cmpS_lt, cmpS_gt], fun a b d h1 h2 => ?_⟩
  have n1 : ¬ b.toList < a.toList := fun f => by have := (cmpS_gt a b).2 f; omega
  have n2 : ¬ d.toList < b.toList := fun f => by have := (cmpS_gt b d).2 f; omega
  have n3 : a.toList ≤ d.toList := List.le_trans (List.not_lt.1 n1) (List.not_lt.1 n2)
  have n4 : ¬ 0 < cmpS a d := fun f => absurd ((cmpS_gt a d).1 f) (List.not_lt.2 n3)
  omega
theorem IsCmp.on {α β : Type} {c : β → β → Int} (h : IsCmp c) (f : α → β) : IsCmp (fun a b => c (f a) (f b)) := ⟨fun _ _ => h.anti _ _, fun _ _ _ => h.tr _ _ _⟩
theorem IsCmp.flip {α : Type} {c : α → α → Int} (h : IsCmp c) : IsCmp (fun a b => c b a) := ⟨fun _ _ => h.anti _ _, fun _ _ _ h1 h2 => h.tr _ _ _ h2 h1⟩
theorem cmpC_is : IsCmp cmpC := ((cmpS_is.on Cel.k).or ((cmpI_is.on Cel.s).flip))
theorem cmpC_zero (a b : Cel) : cmpC a b = 0 ↔ a.k = b.k ∧ a.s = b.s := by
  unfold cmpC or2
  have h1 := cmpS_zero a.k b.k
  have h2 := cmpI_zero b.s a.s
  split
  · rename_i h; rw [h2]; constructor
    · intro e; exact ⟨h1.1 h, e.symm⟩
    · intro e; exact e.2.symm
  · rename_i h; constructor
    · intro e; exact absurd e h
    · intro e; exact absurd (h1.2 e.1) h
/-- Rows by their first cells, then by their places. -/
def cmpR (a b : Rw) : Int := or2 (cmpC (nth a.xs 0) (nth b.xs 0)) (cmpI a.place b.place)
theorem cmpR_is : IsCmp cmpR := (cmpC_is.on (fun r : Rw => nth r.xs 0)).or (cmpI_is.on (fun r : Rw => (r.place : Int)))
theorem ltR_iff (a b : Rw) : ltR a b = true ↔ cmpR a b < 0 := by unfold ltR cmpR; simp
theorem ltR_false (a b : Rw) : ltR a b = false ↔ 0 ≤ cmpR a b := by
  rw [← Bool.not_eq_true, ltR_iff]; omega
theorem ltR_ord : Ordr ltR := by
  refine ⟨fun a b h => ?_, fun a b d h1 h2 => ?_⟩
  · rw [ltR_iff] at h; rw [ltR_false]; have := (cmpR_is.anti a b).1 h; omega
  · rw [ltR_false] at *
    have q1 := (cmpR_is.le a b).2 h1
    have q2 := (cmpR_is.le b d).2 h2
    have := cmpR_is.tr a b d q1 q2
    exact (cmpR_is.le a d).1 this
end Go.Proofs.Ytfhpjopdndnmgaa
