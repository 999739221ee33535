/- Plain laws on the pieces of a stable sort: what a rotation does, what keeps the order of those of one ID. Nothing of the program is run here. -/
import Derived.Test.YtjidldbolbjdpaaRotate
namespace Go.Proofs.Ytjidldbolbjdpaa

theorem srF_nth (a b m : Nat) (hab : a + m ≤ b) : ∀ (n k : Nat) (L : List Spn), m - k = n → b + m ≤ L.length → ∀ t,
    nth (srF a b m k L) t = if a + k ≤ t ∧ t < a + m then nth L (t - a + b) else if b + k ≤ t ∧ t < b + m then nth L (t - b + a) else nth L t
  | 0, k, L, h, hl, t => by
    unfold srF
    rw [dif_neg (by omega)]
    rw [if_neg (by omega), if_neg (by omega)]
  | n + 1, k, L, h, hl, t => by
    unfold srF
    rw [dif_pos (by omega), srF_nth a b m hab n (k + 1) _ (by omega) (by simpa using hl)]
    have hi : a + k < L.length := by omega
    have hj : b + k < L.length := by omega
    simp only [nth_swap L hi hj]
    by_cases h1 : t = a + k
    · subst h1
      rw [if_neg (by omega), if_neg (by omega), if_neg (by omega), if_pos rfl, if_pos (by omega)]
      congr 1; omega
    · by_cases h2 : t = b + k
      · subst h2
        rw [if_neg (by omega), if_neg (by omega), if_pos rfl, if_neg (by omega), if_pos (by omega)]
        congr 1; omega
      · by_cases h3 : a + k ≤ t ∧ t < a + m
        · rw [if_pos (by omega), if_pos h3, if_neg (by omega), if_neg (by omega)]
        · rw [if_neg (by omega), if_neg h3]
          by_cases h4 : b + k ≤ t ∧ t < b + m
          · rw [if_pos (by omega), if_pos h4, if_neg (by omega), if_neg (by omega)]
          · rw [if_neg (by omega), if_neg h4, if_neg h2, if_neg h1]

theorem rotF_nth (m : Nat) : ∀ (s i j : Nat) (L : List Spn), i + j = s → 0 < i → 0 < j → i ≤ m → m + j ≤ L.length → ∀ t,
    nth (rotF m i j L) t = if m - i ≤ t ∧ t < m - i + j then nth L (t + i) else if m - i + j ≤ t ∧ t < m + j then nth L (t - j) else nth L t := by
  intro s
  induction s using Nat.strongRecOn with
  | _ s ih =>
    intro i j L hs hi hj him hl t
    unfold rotF
    by_cases hij : i = j
    · subst hij
      rw [dif_neg (by omega), srF_nth _ _ _ (by omega) _ _ _ rfl (by omega)]
      by_cases h1 : m - i ≤ t ∧ t < m - i + i
      · rw [if_pos (by omega), if_pos h1]; congr 1; omega
      · rw [if_neg (by omega), if_neg h1]
        by_cases h2 : m - i + i ≤ t ∧ t < m + i
        · rw [if_pos (by omega), if_pos h2]; congr 1; omega
        · rw [if_neg (by omega), if_neg h2]
    · rw [dif_pos ⟨hi, hj, hij⟩]
      by_cases hlt : j < i
      · rw [if_pos hlt]
        have hL1 : (srF (m - i) m j 0 L).length = L.length := srF_length _ _ _ _ _ _ rfl
        rw [ih (i - j + j) (by omega) (i - j) j _ rfl (by omega) hj (by omega) (by omega)]
        simp only [srF_nth (m - i) m j (by omega) _ 0 L rfl (by omega)]
        by_cases h1 : m - i ≤ t ∧ t < m - i + j
        · rw [if_neg (by omega), if_neg (by omega), if_pos (by omega), if_pos h1]; congr 1; omega
        · rw [if_neg h1]
          by_cases h2 : m - i + j ≤ t ∧ t < m + j
          · rw [if_pos h2]
            by_cases h3 : t < m - i + j + j
            · rw [if_pos (by omega), if_neg (by omega), if_pos (by omega)]; congr 1; omega
            · rw [if_neg (by omega), if_pos (by omega), if_neg (by omega), if_neg (by omega)]
          · rw [if_neg h2, if_neg (by omega), if_neg (by omega), if_neg (by omega), if_neg (by omega)]
      · rw [if_neg hlt]
        have hL1 : (srF (m - i) (m + j - i) i 0 L).length = L.length := srF_length _ _ _ _ _ _ rfl
        rw [ih (i + (j - i)) (by omega) i (j - i) _ rfl hi (by omega) him (by omega)]
        simp only [srF_nth (m - i) (m + j - i) i (by omega) _ 0 L rfl (by omega)]
        by_cases h1 : m - i ≤ t ∧ t < m - i + j
        · rw [if_pos h1]
          by_cases h3 : t < m - i + (j - i)
          · rw [if_pos (by omega), if_neg (by omega), if_neg (by omega)]
          · rw [if_neg (by omega), if_pos (by omega), if_pos (by omega)]; congr 1; omega
        · rw [if_neg h1]
          by_cases h2 : m - i + j ≤ t ∧ t < m + j
          · rw [if_pos h2, if_neg (by omega), if_neg (by omega), if_neg (by omega), if_pos (by omega)]; congr 1; omega
          · rw [if_neg h2, if_neg (by omega), if_neg (by omega), if_neg (by omega), if_neg (by omega)]

/-- Those of each ID come in the same order. -/
def Stab (A B : List Spn) : Prop := ∀ i, B.filter (fun x => x.id == i) = A.filter (fun x => x.id == i)
theorem Stab.refl (A : List Spn) : Stab A A := fun _ => rfl
theorem Stab.trans {A B C : List Spn} (h : Stab A B) (k : Stab B C) : Stab A C := fun i => (k i).trans (h i)
theorem Stab.mem {A B : List Spn} (h : Stab A B) {x : Spn} (hx : x ∈ B) : x ∈ A := by
  have h1 : x ∈ B.filter (fun y => y.id == x.id) := List.mem_filter.2 ⟨hx, by simp⟩
  rw [h x.id] at h1
  exact (List.mem_filter.1 h1).1
theorem Stab.symm {A B : List Spn} (h : Stab A B) : Stab B A := fun i => (h i).symm
/-- Two blocks that have no ID in common change places. -/
theorem stab_blocks {A X Y B : List Spn} (h : ∀ x ∈ X, ∀ y ∈ Y, x.id ≠ y.id) : Stab (A ++ X ++ Y ++ B) (A ++ Y ++ X ++ B) := by
  intro i
  simp only [List.filter_append]
  have hz : X.filter (fun x => x.id == i) = [] ∨ Y.filter (fun x => x.id == i) = [] := by
    by_cases hx : X.filter (fun x => x.id == i) = []
    · exact .inl hx
    · right
      obtain ⟨x, hx⟩ := List.exists_mem_of_ne_nil _ hx
      obtain ⟨hx1, hx2⟩ := List.mem_filter.1 hx
      apply List.filter_eq_nil_iff.2
      intro y hy hy2
      exact h x hx1 y hy ((by simpa using hx2 : x.id = i).trans (by simpa using hy2 : y.id = i).symm)
  rcases hz with hz | hz <;> simp [hz]
theorem ext_nth {A B : List Spn} (hl : A.length = B.length) (h : ∀ k, k < A.length → nth A k = nth B k) : A = B := by
  apply List.ext_getElem? 
  intro k
  by_cases hk : k < A.length
  · rw [nth_get hk, nth_get (show k < B.length by omega), h k hk]
  · rw [List.getElem?_eq_none (by omega), List.getElem?_eq_none (by omega)]
theorem nth_take {A : List Spn} {k t : Nat} (h : t < k) (_ : k ≤ A.length) : nth (A.take k) t = nth A t := by
  unfold nth; simp [List.getD_eq_getElem?_getD, h]
theorem nth_drop {A : List Spn} {k t : Nat} : nth (A.drop k) t = nth A (k + t) := by
  unfold nth; simp [List.getD_eq_getElem?_getD, List.getElem?_drop]
theorem nth_app1 {A B : List Spn} {t : Nat} (h : t < A.length) : nth (A ++ B) t = nth A t := by
  unfold nth; simp [List.getD_eq_getElem?_getD, List.getElem?_append_left h]
theorem nth_app2 {A B : List Spn} {t : Nat} (h : A.length ≤ t) : nth (A ++ B) t = nth B (t - A.length) := by
  unfold nth; simp [List.getD_eq_getElem?_getD, List.getElem?_append_right h]
/-- What a list comes to whose blocks [p, m) and [m, e) change places. -/
theorem rot_blocks {L : List Spn} {p m e : Nat} (h1 : p < m) (h2 : m < e) (h3 : e ≤ L.length) :
    L = L.take p ++ (L.take m).drop p ++ (L.take e).drop m ++ L.drop e ∧ rotF m (m - p) (e - m) L = L.take p ++ (L.take e).drop m ++ (L.take m).drop p ++ L.drop e := by
  have l1 : (L.take p).length = p := by rw [List.length_take]; omega
  have l2 : ((L.take m).drop p).length = m - p := by rw [List.length_drop, List.length_take]; omega
  have l3 : ((L.take e).drop m).length = e - m := by rw [List.length_drop, List.length_take]; omega
  have l4 : (L.drop e).length = L.length - e := by rw [List.length_drop]
  constructor
  · apply ext_nth
    · simp only [List.length_append, l1, l2, l3, l4]; omega
    · intro k hk
      by_cases a1 : k < p
      · rw [nth_app1 (by simp only [List.length_append, l1, l2, l3]; omega), nth_app1 (by simp only [List.length_append, l1, l2]; omega), nth_app1 (by omega), nth_take a1 (by omega)]
      · by_cases a2 : k < m
        · rw [nth_app1 (by simp only [List.length_append, l1, l2, l3]; omega), nth_app1 (by simp only [List.length_append, l1, l2]; omega), nth_app2 (by omega), nth_drop, nth_take (by omega) (by omega)]
          congr 1; omega
        · by_cases a3 : k < e
          · rw [nth_app1 (by simp only [List.length_append, l1, l2, l3]; omega), nth_app2 (by simp only [List.length_append, l1, l2]; omega), nth_drop, nth_take (by simp only [List.length_append, l1, l2]; omega) (by omega)]
            simp only [List.length_append, l1, l2]; congr 1; omega
          · rw [nth_app2 (by simp only [List.length_append, l1, l2, l3]; omega), nth_drop]
            simp only [List.length_append, l1, l2, l3]; congr 1; omega
  · apply ext_nth
    · rw [rotF_length _ _ _ _ _ rfl]; simp only [List.length_append, l1, l2, l3, l4]; omega
    · intro k hk
      rw [rotF_length _ _ _ _ _ rfl] at hk
      rw [rotF_nth m _ (m - p) (e - m) L rfl (by omega) (by omega) (by omega) (by omega)]
      by_cases a1 : k < p
      · rw [if_neg (by omega), if_neg (by omega), nth_app1 (by simp only [List.length_append, l1, l2, l3]; omega), nth_app1 (by simp only [List.length_append, l1, l3]; omega), nth_app1 (by omega), nth_take a1 (by omega)]
      · by_cases a2 : k < p + (e - m)
        · rw [if_pos (by omega), nth_app1 (by simp only [List.length_append, l1, l2, l3]; omega), nth_app1 (by simp only [List.length_append, l1, l3]; omega), nth_app2 (by omega), nth_drop, nth_take (by omega) (by omega)]
          congr 1; omega
        · by_cases a3 : k < e
          · rw [if_neg (by omega), if_pos (by omega), nth_app1 (by simp only [List.length_append, l1, l2, l3]; omega), nth_app2 (by simp only [List.length_append, l1, l3]; omega), nth_drop, nth_take (by simp only [List.length_append, l1, l3]; omega) (by omega)]
            simp only [List.length_append, l1, l3]; congr 1; omega
          · rw [if_neg (by omega), if_neg (by omega), nth_app2 (by simp only [List.length_append, l1, l2, l3]; omega), nth_drop]
            simp only [List.length_append, l1, l2, l3]; congr 1; omega
end Go.Proofs.Ytjidldbolbjdpaa
