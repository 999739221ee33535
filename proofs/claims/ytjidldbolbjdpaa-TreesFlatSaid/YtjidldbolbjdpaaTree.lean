/- The tree of a wood: which node is below which, and that nothing is below itself. Nothing of the program is run here. -/
import Derived.Test.YtjidldbolbjdpaaFr
namespace Go.Proofs.Ytjidldbolbjdpaa

def forF (g : Nat → Fr) (R : List Spn) : List Nat → Fr
  | [] => .nil
  | k :: t => .cons (nth R k) (g k) (forF g R t)
noncomputable def subF (R : List Spn) : Nat → Nat → Fr
  | 0, _ => .nil
  | d + 1, i => forF (subF R d) R (kidF R R.length i)
def Low (R : List Spn) : Nat → Nat → Prop
  | 0, _ => False
  | d + 1, i => ∀ k ∈ kidF R R.length i, Low R d k
theorem mem_kidF {R : List Spn} {m x k : Nat} : k ∈ kidF R m x ↔ k < m ∧ pF R k = some x ∧ hdF R k = false := by
  simp [kidF]
theorem forF_len (g : Nat → Fr) (R : List Spn) : ∀ l, (forF g R l).len = l.length
  | [] => rfl
  | _ :: t => by simp [forF, Fr.len, forF_len g R t]
theorem forF_app (g : Nat → Fr) (R : List Spn) : ∀ a b, forF g R (a ++ b) = (forF g R a).app (forF g R b)
  | [], _ => rfl
  | _ :: t, b => by simp [forF, Fr.app, forF_app g R t b]
theorem frN_app : ∀ a b, frN (a ++ b) = (frN a).app (frN b)
  | [], _ => rfl
  | _ :: t, b => by simp [frN, Fr.app, frN_app t b]

section
variable {p : Nat → Option Nat}
/-- Of each cycle there is a least. -/
theorem cyc_least {x : Nat} (h : OnCyc p x) : ∃ r y, it p r x = some y ∧ Least p y := by
  have hmin : ∀ y, (∃ r, it p r x = some y) → ∃ z, (∃ r, it p r x = some z) ∧ ∀ u, (∃ r, it p r x = some u) → z ≤ u := by
    intro y
    induction y using Nat.strongRecOn with
    | _ y ih =>
      intro hy
      by_cases c : ∃ u, u < y ∧ ∃ r, it p r x = some u
      · obtain ⟨u, a, b⟩ := c; exact ih u a b
      · exact ⟨y, hy, fun u hu => Nat.le_of_not_lt fun l => c ⟨u, l, hu⟩⟩
  obtain ⟨z, ⟨r, hr⟩, hz⟩ := hmin x ⟨0, rfl⟩
  exact ⟨r, z, hr, cyc_along h hr, fun s y hy => hz y ⟨r + s, by rw [it_add' hr]; exact hy⟩⟩
end
/-- Who goes up and up meets a head. -/
theorem no_end (R : List Spn) {x : Nat} (hx : x < R.length) (h : ∀ t, ∃ y, it (pF R) t x = some y ∧ hdF R y = false) : False := by
  have hp : ∀ x y, x < R.length → pF R x = some y → y < R.length := fun _ _ _ h => pF_lt h
  have hex : ∃ s s', s < s' ∧ it (pF R) s x = it (pF R) s' x := by
    refine Classical.byContradiction fun hno => ?_
    have := inj_le (n := R.length) (t := R.length + 1) (fun s => (it (pF R) s x).getD 0) (fun s _ => by
      obtain ⟨y, hy, _⟩ := h s
      simp only [hy, Option.getD_some]; exact it_lt hp hx hy) (fun s s' a b e => hno ⟨s, s', a, by
      obtain ⟨y, hy, _⟩ := h s
      obtain ⟨z, hz, _⟩ := h s'
      simp only [hy, hz, Option.getD_some] at e
      rw [hy, hz, e]⟩)
    omega
  obtain ⟨s, s', a, e⟩ := hex
  obtain ⟨y, hy, _⟩ := h s
  have hc : OnCyc (pF R) y := ⟨s' - s, by omega, by rw [← it_add' hy, show s + (s' - s) = s' by omega, ← e]; exact hy⟩
  obtain ⟨r, z, hr, hz⟩ := cyc_least hc
  obtain ⟨u, hu, hh⟩ := h (s + r)
  rw [it_add' hy, hr] at hu
  cases hu
  rw [(hdF_iff R z).2 (.inr hz)] at hh
  cases hh
/-- Nothing is below itself: so many levels are enough. -/
theorem low_all (R : List Spn) {i : Nat} (hi : i < R.length) : Low R (R.length + 1) i := by
  refine Classical.byContradiction fun hno => ?_
  have hch : ∀ m i, i < R.length → ¬ Low R m i → ∃ c : Nat → Nat, c 0 = i ∧ (∀ t, t ≤ m → c t < R.length) ∧ ∀ t, t < m → pF R (c (t + 1)) = some (c t) ∧ hdF R (c (t + 1)) = false := by
    intro m
    induction m with
    | zero => intro i hi _; exact ⟨fun _ => i, rfl, fun _ _ => hi, fun t h => by omega⟩
    | succ m ih =>
      intro i hi hl
      have : ∃ k, k ∈ kidF R R.length i ∧ ¬ Low R m k := Classical.byContradiction fun hn => hl (fun k hk => Classical.byContradiction fun h => hn ⟨k, hk, h⟩)
      obtain ⟨k, hk, hl2⟩ := this
      obtain ⟨a, b, d⟩ := mem_kidF.1 hk
      obtain ⟨c, h0, h1, h2⟩ := ih k a hl2
      refine ⟨fun t => if t = 0 then i else c (t - 1), rfl, fun t ht => ?_, fun t ht => ?_⟩
      · by_cases z : t = 0
        · simp [z, hi]
        · simp only [z, if_false]; exact h1 _ (by omega)
      · by_cases z : t = 0
        · subst z; simp [h0, b, d]
        · have := h2 (t - 1) (by omega)
          rw [show t - 1 + 1 = t by omega] at this
          simpa [z] using this
  obtain ⟨c, _, h1, h2⟩ := hch _ i hi hno
  have hex : ∃ s s', s < s' ∧ s' ≤ R.length ∧ c s = c s' := by
    refine Classical.byContradiction fun hn => ?_
    have := inj_le (n := R.length) (t := R.length + 1) c (fun s hs => h1 s (by omega)) (fun s s' a b e => hn ⟨s, s', a, by omega, e⟩)
    omega
  obtain ⟨s, s', a, b, e⟩ := hex
  refine no_end R (h1 s' (by omega)) (fun t => ?_)
  have : ∃ j, s < j ∧ j ≤ s' ∧ it (pF R) t (c s') = some (c j) := by
    induction t with
    | zero => exact ⟨s', a, Nat.le_refl _, rfl⟩
    | succ t ih =>
      obtain ⟨j, j1, j2, j3⟩ := ih
      have h3 := (h2 (j - 1) (by omega)).1
      rw [show j - 1 + 1 = j by omega] at h3
      by_cases z : s < j - 1
      · exact ⟨j - 1, z, by omega, by simp only [it, j3]; exact h3⟩
      · refine ⟨s', a, Nat.le_refl _, ?_⟩
        simp only [it, j3]
        rw [← e, show s = j - 1 by omega]; exact h3
  obtain ⟨j, j1, j2, j3⟩ := this
  have h3 := (h2 (j - 1) (by omega)).2
  rw [show j - 1 + 1 = j by omega] at h3
  exact ⟨c j, j3, h3⟩
end Go.Proofs.Ytjidldbolbjdpaa
