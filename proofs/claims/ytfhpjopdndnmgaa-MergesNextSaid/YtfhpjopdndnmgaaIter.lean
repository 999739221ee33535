/- Next, wherever an iterator stands, or where there is none; rows whose cells are written over. -/
import Derived.Test.YtfhpjopdndnmgaaLawAll
namespace Go.Proofs.Ytfhpjopdndnmgaa
open Go.RowKit

set_option maxHeartbeats 2000000 in
theorem next_nil (w : World) :
    Calls Try.prog 19 #[.pointer none] w fun e w' => e = .returned (.tuple #[.agg #[.string ⟨#[]⟩, .int .i64 0, .string ⟨#[]⟩], .bool false]) ∧ Kept (fun _ => False) w w' := by
  go_enter Try.func19, Try.ntmps19
  go_wp2
  refine bodyPost_ret (v := _) (by simp [results, Try.results19, go_sem]; try rfl) rfl ?_
  refine ⟨rfl, ?_⟩
  repeat (first | exact Kept.refl _ _ | apply Kept.alloc | apply Kept.drew | (refine Kept.setAt (fun hh => absurd hh (by simp)) ?_))

/-- Where an iterator stands, or none: what is left. -/
def IterAt (w : World) (base nA nB : Nat) (x : Option Addr) (rest : List Cel) : Prop :=
  (x = none ∧ rest = []) ∨ ∃ p v l, x = some ⟨p, 0, none⟩ ∧ ItAt w base p v l ∧ (∀ b, mine p v b → base ≤ b ∧ (b < nA ∨ nB ≤ b)) ∧ drainL (sumL l) l = rest
theorem IterAt.keptS {S : Nat → Prop} {w w' : World} {base nA nB : Nat} {x : Option Addr} {rest : List Cel} (h : IterAt w base nA nB x rest) (hK : Kept S w w') (hS : ∀ b, base ≤ b → ¬ S b) : IterAt w' base nA nB x rest := by
  rcases h with h | ⟨p, v, l, rfl, hi, hm, hd⟩
  · exact .inl h
  · exact .inr ⟨p, v, l, rfl, hi.keptS hK (fun b hb => hS b (hi.ownI_ge b hb)), hm, hd⟩
theorem next_law {w : World} {base nA nB : Nat} {x : Option Addr} {rest : List Cel} (h : IterAt w base nA nB x rest) (hb : base ≤ w.heap.size) (hn : nB ≤ w.heap.size) :
    Calls Try.prog 19 #[.pointer x] w fun e w' =>
      (rest = [] ∧ e = .returned (.tuple #[.agg #[.string ⟨#[]⟩, .int .i64 0, .string ⟨#[]⟩], .bool false]) ∧ Kept (fun _ => False) w w') ∨
      (∃ c t, rest = c :: t ∧ e = .returned (.tuple #[.agg #[.string c.k, .int .i64 c.s, .string c.v], .bool true]) ∧ IterAt w' base nA nB x t ∧ Kept (fun b => base ≤ b ∧ (b < nA ∨ nB ≤ b)) w w') := by
  rcases h with ⟨rfl, rfl⟩ | ⟨p, v, l, rfl, hi, hm, hd⟩
  · exact (next_nil w).mono fun e w' h => .inl ⟨rfl, h⟩
  · refine (next_any hi hb).mono fun e w' h => ?_
    rcases h with ⟨h1, h2⟩ | ⟨h1, h2, v', i', k', o'⟩
    · left; exact ⟨by rw [← hd, drain_nil _ h1], h2⟩
    · right
      have hne : l ≠ [] := fun e => by rw [e] at h1; simp at h1
      have hp : ∀ r ∈ l, 0 < r.xs.length := fun r hr => (hi.heap.good r hr).ne
      refine ⟨_, _, by rw [← hd, drain_step hne hp], h2, .inr ⟨p, v', nextL l, rfl, i', ?_, rfl⟩, k'.mono fun b _ hb => hm b hb⟩
      rintro b (rfl | e)
      · exact hm _ (.inl rfl)
      · rcases o' with o' | o'
        · exact hm b (.inr (o' ▸ e))
        · have := o' b e; exact ⟨by omega, .inr (by omega)⟩

/-- Rows in memory of their own, whose cells may be any. -/
def Hulls (W : World) (n0 n1 gt : Nat) (L : List (List Cel)) : Prop :=
  ∀ i R, L[i]? = some R → ∃ b cap, W.cell? ⟨gt, i, none⟩ = some (.slice (some ⟨b, 0, none⟩) R.length cap) ∧ b ≠ gt ∧ n0 ≤ b ∧ b < n1 ∧ (∀ j, j < R.length * 3 → ∃ v, W.cell? ⟨b, j, none⟩ = some v) ∧ ∀ j, W.frozen? ⟨b, j, none⟩ = false
theorem Hulls.store {W : World} {n0 n1 gt : Nat} {L : List (List Cel)} (h : Hulls W n0 n1 gt L) {b j : Nat} (hb : b ≠ gt) (u : Value) : Hulls (W.setCell ⟨b, j, none⟩ u) n0 n1 gt L := by
  intro i R hi
  obtain ⟨b', cap, h1, h2, h3, h4, h5, h6⟩ := h i R hi
  refine ⟨b', cap, ?_, h2, h3, h4, fun j hj => ?_, fun j => by simpa using h6 j⟩
  · exact (Kept.setAt (S := fun k => k = b) (fun _ => rfl) (Kept.refl _ W)).cell h1 (fun e => hb e.symm)
  · obtain ⟨v, hv⟩ := h5 j hj
    exact cell?_setCell_some hv
theorem Hulls.drew {W : World} {n0 n1 gt : Nat} {L : List (List Cel)} (h : Hulls W n0 n1 gt L) : Hulls W.drew n0 n1 gt L := by
  intro i R hi
  obtain ⟨b', cap, h1, h2, h3, h4, h5, h6⟩ := h i R hi
  exact ⟨b', cap, h1, h2, h3, h4, h5, h6⟩
theorem hulls_of {W : World} {n0 gt : Nat} {L : List (List Cel)} {us : List Value} (hT : TwinsAt W n0 L us) (hg : ∀ j u, us[j]? = some u → W.cell? ⟨gt, j, none⟩ = some u) : Hulls W n0 W.heap.size gt L := by
  intro i R hi
  obtain ⟨u, h1, b, cap, rfl, h2, h3, h4, h5, h6⟩ := hT.2 i R hi
  refine ⟨b, cap, hg i _ h1, ?_, h3, h4, fun j hj => ?_, h6⟩
  · rintro rfl
    have hL : 0 < L.length := by have := (List.getElem?_eq_some_iff.1 hi).1; omega
    obtain ⟨u0, g1, b0, c0, rfl, _⟩ := hT.2 0 _ (List.getElem?_eq_getElem hL)
    have e1 := hg 0 _ g1
    have hx : ∃ s, (cellsC (R ++ [mark]))[0]? = some (.string s) := by
      cases R with
      | nil => exact ⟨mark.k, (cellsC_get ([] ++ [mark]) 0 mark (by simp)).1⟩
      | cons x t => exact ⟨x.k, (cellsC_get (x :: t ++ [mark]) 0 x (by simp)).1⟩
    obtain ⟨s, hs⟩ := hx
    have e2 := h5 0 _ hs
    rw [e1] at e2
    cases e2
  · have hl : j < (cellsC (R ++ [mark])).length := by rw [cellsC_length]; simp; omega
    exact ⟨_, h5 j _ (List.getElem?_eq_getElem hl)⟩
theorem Hulls.keptF {W W' : World} {n0 n1 gt : Nat} {L : List (List Cel)} (h : Hulls W n0 n1 gt L) (hK : Kept (fun _ => False) W W') (hn : n1 ≤ W.heap.size) : Hulls W' n0 n1 gt L := by
  intro i R hi
  obtain ⟨b', cap, h1, h2, h3, h4, h5, h6⟩ := h i R hi
  refine ⟨b', cap, hK.cell h1 (fun f => f), h2, h3, h4, fun j hj => ?_, fun j => hK.frozen (h6 j) (by simp only; omega) (fun f => f)⟩
  obtain ⟨v, hv⟩ := h5 j hj
  exact ⟨v, hK.cell hv (fun f => f)⟩
end Go.Proofs.Ytfhpjopdndnmgaa
