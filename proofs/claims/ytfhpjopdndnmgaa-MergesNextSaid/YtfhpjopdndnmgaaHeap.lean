/- Plain laws on heaps that lie in lists: up, down, push, pop. Nothing of the program is run here. -/
import Derived.Test.YtfhpjopdndnmgaaKit
namespace Go.Proofs.Ytfhpjopdndnmgaa

section heap
variable {α : Type} [Inhabited α] (lt : α → α → Bool)

def nth (l : List α) (i : Nat) : α := l.getD i default
def swapL (l : List α) (i j : Nat) : List α := (l.set i (nth l j)).set j (nth l i)

def upL (l : List α) (j : Nat) : List α :=
  if _h : j = 0 then l else if lt (nth l j) (nth l ((j - 1) / 2)) = true then upL (swapL l ((j - 1) / 2) j) ((j - 1) / 2) else l
termination_by j
decreasing_by omega

def kidL (n : Nat) (l : List α) (i : Nat) : Nat := if (decide (2 * i + 2 < n) && lt (nth l (2 * i + 2)) (nth l (2 * i + 1))) = true then 2 * i + 2 else 2 * i + 1

theorem kidL_gt (n : Nat) (l : List α) (i : Nat) : i < kidL lt n l i := by unfold kidL; split <;> omega
theorem kidL_lt {n : Nat} {l : List α} {i : Nat} (h : 2 * i + 1 < n) : kidL lt n l i < n := by
  unfold kidL; split
  · rename_i h2; simp at h2; omega
  · exact h
theorem kidL_par (n : Nat) (l : List α) (i : Nat) : (kidL lt n l i - 1) / 2 = i := by unfold kidL; split <;> omega

def downL (n : Nat) (l : List α) (i : Nat) : List α :=
  if _h : 2 * i + 1 < n then (if lt (nth l (kidL lt n l i)) (nth l i) = true then downL n (swapL l i (kidL lt n l i)) (kidL lt n l i) else l) else l
termination_by n - i
decreasing_by have := kidL_gt lt n l i; omega

@[simp] theorem length_swapL (l : List α) (i j : Nat) : (swapL l i j).length = l.length := by simp [swapL]

theorem nth_set (l : List α) (i k : Nat) (x : α) (hi : i < l.length) : nth (l.set i x) k = if k = i then x else nth l k := by
  unfold nth
  simp only [List.getD_eq_getElem?_getD, List.getElem?_set]
  by_cases h : k = i
  · subst h; simp [hi]
  · simp [h, Ne.symm h]

theorem nth_swap (l : List α) {i j : Nat} (hi : i < l.length) (hj : j < l.length) (k : Nat) : nth (swapL l i j) k = if k = j then nth l i else if k = i then nth l j else nth l k := by
  unfold swapL
  rw [nth_set _ _ _ _ (by simpa using hj), nth_set _ _ _ _ hi]

omit [Inhabited α] in
theorem set_eq_take_drop (l : List α) (i : Nat) (x : α) (hi : i < l.length) : l.set i x = l.take i ++ x :: l.drop (i + 1) := by
  rw [List.set_eq_take_append_cons_drop]; simp [hi]

theorem perm_set (l : List α) (i : Nat) (x : α) (hi : i < l.length) : (nth l i :: l.set i x).Perm (x :: l) := by
  have h1 : l = l.take i ++ nth l i :: l.drop (i + 1) := by
    have : nth l i = l[i] := by simp [nth, hi]
    rw [this, List.getElem_cons_drop]; simp
  rw [set_eq_take_drop l i x hi]
  conv => rhs; rw [h1]
  refine (List.Perm.cons _ List.perm_middle).trans ?_
  refine (List.Perm.swap _ _ _).trans (List.Perm.cons _ ?_)
  exact List.perm_middle.symm

theorem perm_swap (l : List α) {i j : Nat} (hi : i < l.length) (hj : j < l.length) : (swapL l i j).Perm l := by
  unfold swapL
  have h1 := perm_set l i (nth l j) hi
  have h2 := perm_set (l.set i (nth l j)) j (nth l i) (by simpa using hj)
  have e : nth (l.set i (nth l j)) j = nth l j := by rw [nth_set _ _ _ _ hi]; split <;> rfl
  rw [e] at h2
  exact (List.perm_cons _).1 (h2.trans h1)

theorem upL_perm : ∀ (j : Nat) (l : List α), j < l.length → (upL lt l j).Perm l := by
  intro j
  induction j using Nat.strongRecOn with
  | _ j ih =>
    intro l hj
    rw [upL]
    split
    · exact .refl _
    · split
      · exact (ih _ (by omega) _ (by simp; omega)).trans (perm_swap l (by omega) hj)
      · exact .refl _

theorem downL_perm (n : Nat) : ∀ (m i : Nat) (l : List α), n - i = m → n ≤ l.length → i < l.length → (downL lt n l i).Perm l := by
  intro m
  induction m using Nat.strongRecOn with
  | _ m ih =>
    intro i l hm hn hi
    rw [downL]
    split
    · rename_i h
      split
      · have h1 := kidL_gt lt n l i
        have h2 := kidL_lt lt (l := l) h
        exact (ih (n - kidL lt n l i) (by omega) _ _ rfl (by simpa using hn) (by simp; omega)).trans (perm_swap l hi (by omega))
      · exact .refl _
    · exact .refl _

theorem downL_above (n : Nat) : ∀ (m i : Nat) (l : List α), n - i = m → n ≤ l.length → i < n → ∀ k, n ≤ k → nth (downL lt n l i) k = nth l k := by
  intro m
  induction m using Nat.strongRecOn with
  | _ m ih =>
    intro i l hm hn hi k hk
    rw [downL]
    split
    · rename_i h
      split
      · have h1 := kidL_gt lt n l i
        have h2 := kidL_lt lt (l := l) h
        rw [ih (n - kidL lt n l i) (by omega) _ _ rfl (by simpa using hn) h2 k hk, nth_swap _ (by omega) (by omega), if_neg (by omega), if_neg (by omega)]
      · rfl
    · rfl

theorem length_upL (j : Nat) (l : List α) (h : j < l.length) : (upL lt l j).length = l.length := (upL_perm lt j l h).length_eq
theorem length_downL (n i : Nat) (l : List α) (hn : n ≤ l.length) (h : i < l.length) : (downL lt n l i).length = l.length := (downL_perm lt n _ i l rfl hn h).length_eq

structure Ordr : Prop where
  asym : ∀ a b, lt a b = true → lt b a = false
  tr : ∀ a b c, lt b a = false → lt c b = false → lt c a = false

def Heap (n : Nat) (l : List α) : Prop := ∀ k, 0 < k → k < n → lt (nth l k) (nth l ((k - 1) / 2)) = false

theorem up_heap (o : Ordr lt) : ∀ (j : Nat) (l : List α), j < l.length →
    (∀ k, 0 < k → k < l.length → k ≠ j → lt (nth l k) (nth l ((k - 1) / 2)) = false) →
    (∀ k, 0 < k → k < l.length → (k - 1) / 2 = j → 0 < j → lt (nth l k) (nth l ((j - 1) / 2)) = false) → Heap lt l.length (upL lt l j) := by
  intro j
  induction j using Nat.strongRecOn with
  | _ j ih =>
    intro l hj h1 h2
    rw [upL]
    split
    · rename_i h0
      intro k hk hk2; exact h1 k hk hk2 (by omega)
    · rename_i h0
      obtain ⟨p, hp⟩ : ∃ p, (j - 1) / 2 = p := ⟨_, rfl⟩
      rw [hp]
      have hpj : p < j := by omega
      split
      · rename_i hlt
        have := ih p hpj (swapL l p j) (by simp; omega) ?_ ?_
        · simpa using this
        · intro k hk hk2 hkp
          rw [length_swapL] at hk2
          rw [nth_swap _ (by omega) hj, nth_swap _ (by omega) hj]
          by_cases hkj : k = j
          · subst hkj
            rw [if_pos rfl, hp, if_neg (by omega), if_pos rfl]
            exact o.asym _ _ hlt
          · rw [if_neg hkj, if_neg hkp]
            by_cases hq : (k - 1) / 2 = j
            · rw [if_pos hq]
              have := h2 k hk hk2 hq (by omega)
              rwa [hp] at this
            · rw [if_neg hq]
              have h3 := h1 k hk hk2 hkj
              by_cases hq2 : (k - 1) / 2 = p
              · rw [if_pos hq2]; rw [hq2] at h3
                exact o.tr _ _ _ (o.asym _ _ hlt) h3
              · rw [if_neg hq2]; exact h3
        · intro k hk hk2 hkp h0p
          rw [length_swapL] at hk2
          rw [nth_swap _ (by omega) hj, nth_swap _ (by omega) hj]
          rw [if_neg (show ¬ (p - 1) / 2 = j by omega), if_neg (show ¬ (p - 1) / 2 = p by omega)]
          have h3 := h1 p h0p (by omega) (by omega)
          by_cases hkj : k = j
          · rw [if_pos hkj]; exact h3
          · rw [if_neg hkj, if_neg (by omega)]
            have h4 := h1 k hk hk2 hkj
            rw [hkp] at h4
            exact o.tr _ _ _ h3 h4
      · rename_i hlt
        intro k hk hk2
        by_cases hkj : k = j
        · subst hkj; rw [hp]; simpa using hlt
        · exact h1 k hk hk2 hkj

theorem down_heap (o : Ordr lt) (n : Nat) : ∀ (m i : Nat) (l : List α), n - i = m → n ≤ l.length → i < l.length →
    (∀ k, 0 < k → k < n → (k - 1) / 2 ≠ i → lt (nth l k) (nth l ((k - 1) / 2)) = false) →
    (∀ k, 0 < k → k < n → (k - 1) / 2 = i → 0 < i → lt (nth l k) (nth l ((i - 1) / 2)) = false) → Heap lt n (downL lt n l i) := by
  intro m
  induction m using Nat.strongRecOn with
  | _ m ih =>
    intro i l hm hn hi h1 h2
    rw [downL]
    have hg := kidL_gt lt n l i
    have hpr := kidL_par lt n l i
    split
    · rename_i h
      have hln := kidL_lt lt (l := l) h
      have hmin : ∀ k, 0 < k → k < n → (k - 1) / 2 = i → lt (nth l k) (nth l (kidL lt n l i)) = false := by
        intro k hk hkn hki
        have hself : ∀ a : α, lt a a = false := fun a => by
          cases ha : lt a a with
          | false => rfl
          | true => exact absurd (o.asym _ _ ha) (by rw [ha]; simp)
        have hkk : k = 2 * i + 1 ∨ k = 2 * i + 2 := by omega
        unfold kidL
        split
        · rename_i hc; simp only [Bool.and_eq_true, decide_eq_true_eq] at hc
          rcases hkk with rfl | rfl
          · exact o.asym _ _ hc.2
          · exact hself _
        · rename_i hc
          rcases hkk with rfl | rfl
          · exact hself _
          · simp only [Bool.and_eq_true, decide_eq_true_eq, not_and, Bool.not_eq_true] at hc
            exact hc hkn
      obtain ⟨j, hj⟩ : ∃ j, kidL lt n l i = j := ⟨_, rfl⟩
      rw [hj] at hg hpr hln hmin ⊢
      split
      · rename_i hlt
        refine ih (n - j) (by omega) j (swapL l i j) rfl (by simpa using hn) (by simp; omega) ?_ ?_
        · intro k hk hkn hkj
          rw [nth_swap _ hi (by omega), nth_swap _ hi (by omega), if_neg hkj]
          by_cases hk1 : k = j
          · subst hk1
            rw [if_pos rfl, hpr, if_pos rfl]
            exact o.asym _ _ hlt
          · rw [if_neg hk1]
            by_cases hk2 : k = i
            · subst hk2
              rw [if_pos rfl, if_neg (by omega)]
              exact h2 j (by omega) hln hpr hk
            · rw [if_neg hk2]
              by_cases hki : (k - 1) / 2 = i
              · rw [if_pos hki]; exact hmin k hk hkn hki
              · rw [if_neg hki]; exact h1 k hk hkn hki
        · intro k hk hkn hkj h0
          rw [nth_swap _ hi (by omega), nth_swap _ hi (by omega), if_neg (by omega), if_neg (by omega), if_neg (by omega), hpr, if_pos rfl]
          have := h1 k hk hkn (by omega)
          rwa [hkj] at this
      · rename_i hlt
        intro k hk hkn
        by_cases hki : (k - 1) / 2 = i
        · rw [hki]
          exact o.tr _ _ _ (by simpa using hlt) (hmin k hk hkn hki)
        · exact h1 k hk hkn hki
    · rename_i h
      intro k hk hkn
      exact h1 k hk hkn (by omega)

theorem heap_root (o : Ordr lt) {n : Nat} {l : List α} (h : Heap lt n l) : ∀ k, k < n → lt (nth l k) (nth l 0) = false := by
  intro k
  induction k using Nat.strongRecOn with
  | _ k ih =>
    intro hk
    by_cases h0 : k = 0
    · subst h0
      cases ha : lt (nth l 0) (nth l 0) with
      | false => rfl
      | true => exact absurd (o.asym _ _ ha) (by rw [ha]; simp)
    · exact o.tr _ _ _ (ih ((k - 1) / 2) (by omega) (by omega)) (h k (by omega) hk)

def pushL (l : List α) (x : α) : List α := upL lt (l ++ [x]) l.length
/-- What is behind the swap and the way down; the last one is the one that goes. -/
def sunkL (l : List α) : List α := downL lt (l.length - 1) (swapL l 0 (l.length - 1)) 0
def popL (l : List α) : List α := (sunkL lt l).take (l.length - 1)

theorem nth_append (l : List α) (x : α) (k : Nat) (h : k < l.length) : nth (l ++ [x]) k = nth l k := by simp [nth, List.getElem?_append_left h]

theorem push_perm (l : List α) (x : α) : (pushL lt l x).Perm (x :: l) := (upL_perm lt _ _ (by simp)).trans (List.perm_append_singleton x l)
theorem length_push (l : List α) (x : α) : (pushL lt l x).length = l.length + 1 := by rw [(push_perm lt l x).length_eq]; rfl
theorem push_heap (o : Ordr lt) {l : List α} (x : α) (h : Heap lt l.length l) : Heap lt (pushL lt l x).length (pushL lt l x) := by
  rw [length_push]
  have := up_heap lt o l.length (l ++ [x]) (by simp) ?_ ?_
  · rw [List.length_append] at this; exact this
  · intro k hk hk2 hne
    simp at hk2
    rw [nth_append _ _ _ (by omega), nth_append _ _ _ (by omega)]
    exact h k hk (by omega)
  · intro k hk hk2 hp
    simp at hk2; omega

theorem length_sunk {l : List α} (h : l ≠ []) : (sunkL lt l).length = l.length := by
  have := List.length_pos_iff.2 h
  unfold sunkL; rw [length_downL _ _ _ _ (by simp) (by simpa using this)]; simp
theorem sunk_perm {l : List α} (h : l ≠ []) : (sunkL lt l).Perm l := by
  have := List.length_pos_iff.2 h
  exact (downL_perm lt _ _ 0 _ rfl (by simp) (by simpa using this)).trans (perm_swap l (by omega) (by omega))
theorem sunk_last {l : List α} (h : l ≠ []) : nth (sunkL lt l) (l.length - 1) = nth l 0 := by
  have := List.length_pos_iff.2 h
  unfold sunkL
  by_cases h1 : l.length = 1
  · rw [downL, dif_neg (by omega), nth_swap _ (by omega) (by omega), if_pos rfl]
  · rw [downL_above lt _ _ 0 _ rfl (by simp) (by omega) _ (Nat.le_refl _), nth_swap _ (by omega) (by omega), if_pos rfl]
theorem pop_perm {l : List α} (h : l ≠ []) : (nth l 0 :: popL lt l).Perm l := by
  have hl := List.length_pos_iff.2 h
  refine .trans ?_ (sunk_perm lt h)
  have e : sunkL lt l = popL lt l ++ [nth l 0] := by
    unfold popL
    have h2 := length_sunk lt h
    have h3 : (sunkL lt l).take (l.length - 1 + 1) = sunkL lt l := List.take_of_length_le (by omega)
    rw [List.take_add_one] at h3
    rw [← sunk_last lt h]
    have h4 : (sunkL lt l)[l.length - 1]? = some (nth (sunkL lt l) (l.length - 1)) := by
      have h5 : l.length - 1 < (sunkL lt l).length := by omega
      rw [List.getElem?_eq_getElem h5]; unfold nth; rw [List.getD_eq_getElem?_getD, List.getElem?_eq_getElem h5]; rfl
    rw [h4] at h3
    simpa using h3.symm
  rw [e]
  exact (List.perm_append_singleton _ _).symm
theorem length_pop {l : List α} (h : l ≠ []) : (popL lt l).length = l.length - 1 := by
  unfold popL; rw [List.length_take, length_sunk lt h]; omega
theorem pop_heap (o : Ordr lt) {l : List α} (hne : l ≠ []) (h : Heap lt l.length l) : Heap lt (popL lt l).length (popL lt l) := by
  have hl := List.length_pos_iff.2 hne
  rw [length_pop lt hne]
  have h1 : Heap lt (l.length - 1) (sunkL lt l) := by
    by_cases h1 : l.length = 1
    · intro k hk hk2; omega
    · refine down_heap lt o _ _ 0 _ rfl (by simp) (by simp; omega) ?_ (by intro k _ _ _ h; omega)
      intro k hk hk2 hne
      rw [nth_swap _ (by omega) (by omega), nth_swap _ (by omega) (by omega), if_neg (by omega), if_neg (by omega), if_neg (by omega), if_neg hne]
      exact h k hk (by omega)
  intro k hk hk2
  have e : ∀ i, i < l.length - 1 → nth (popL lt l) i = nth (sunkL lt l) i := by
    intro i hi; unfold popL nth; simp [hi]
  rw [e _ hk2, e _ (by omega)]
  exact h1 k hk hk2
end heap
end Go.Proofs.Ytfhpjopdndnmgaa
