/- Plain laws of a merge in place: what its cuts and rotations come to. Nothing of the program is run here. -/
import Derived.Test.YtjidldbolbjdpaaPlain
namespace Go.Proofs.Ytjidldbolbjdpaa

def SortedOn (L : List Spn) (a b : Nat) : Prop := ∀ i j, a ≤ i → i ≤ j → j < b → (nth L i).id ≤ (nth L j).id
/-- Only what lies in [a, b) has moved, within it, and those of each ID keep their order. -/
structure Moved (a b : Nat) (L L' : List Spn) : Prop where
  len : L'.length = L.length
  out : ∀ k, k < a ∨ b ≤ k → nth L' k = nth L k
  inn : ∀ k, a ≤ k → k < b → ∃ k', a ≤ k' ∧ k' < b ∧ nth L' k = nth L k'
  stab : Stab L L'
theorem Moved.refl (a b : Nat) (L : List Spn) : Moved a b L L := ⟨rfl, fun _ _ => rfl, fun k h1 h2 => ⟨k, h1, h2, rfl⟩, Stab.refl L⟩
theorem Moved.trans {a b : Nat} {A B C : List Spn} (h : Moved a b A B) (k : Moved a b B C) : Moved a b A C := by
  refine ⟨k.len.trans h.len, fun t ht => (k.out t ht).trans (h.out t ht), fun t h1 h2 => ?_, h.stab.trans k.stab⟩
  obtain ⟨t1, a1, a2, a3⟩ := k.inn t h1 h2
  obtain ⟨t2, b1, b2, b3⟩ := h.inn t1 a1 a2
  exact ⟨t2, b1, b2, a3.trans b3⟩
theorem Moved.wider {a b a' b' : Nat} {A B : List Spn} (h : Moved a b A B) (ha : a' ≤ a) (hb : b ≤ b') : Moved a' b' A B := by
  refine ⟨h.len, fun t ht => h.out t (by omega), fun t h1 h2 => ?_, h.stab⟩
  by_cases hi : a ≤ t ∧ t < b
  · obtain ⟨t', x1, x2, x3⟩ := h.inn t hi.1 hi.2
    exact ⟨t', by omega, by omega, x3⟩
  · exact ⟨t, h1, h2, h.out t (by omega)⟩
theorem mem_block {L : List Spn} {p e : Nat} (he : e ≤ L.length) {x : Spn} (h : x ∈ (L.take e).drop p) : ∃ t, p ≤ t ∧ t < e ∧ nth L t = x := by
  obtain ⟨i, hi, rfl⟩ := List.getElem_of_mem h
  have hl : ((L.take e).drop p).length = e - p := by rw [List.length_drop, List.length_take]; omega
  refine ⟨p + i, by omega, by omega, ?_⟩
  have h1 : nth ((L.take e).drop p) i = ((L.take e).drop p)[i] := by
    have h2 := nth_get hi
    rw [List.getElem?_eq_getElem hi] at h2
    exact (Option.some.inj h2).symm
  rw [← h1, nth_drop, nth_take (by omega) he]
theorem moved_rot {L : List Spn} {a b p m e : Nat} (h1 : p < m) (h2 : m < e) (h3 : e ≤ L.length) (ha : a ≤ p) (hb : e ≤ b) (hne : ∀ x y, p ≤ x → x < m → m ≤ y → y < e → (nth L x).id ≠ (nth L y).id) : Moved a b L (rotF m (m - p) (e - m) L) := by
  have hn := rotF_nth m _ (m - p) (e - m) L rfl (by omega) (by omega) (by omega) (by omega)
  refine ⟨rotF_length _ _ _ _ _ rfl, fun k hk => ?_, fun k hk1 hk2 => ?_, ?_⟩
  · rw [hn, if_neg (by omega), if_neg (by omega)]
  · rw [hn]
    by_cases c1 : m - (m - p) ≤ k ∧ k < m - (m - p) + (e - m)
    · rw [if_pos c1]; exact ⟨k + (m - p), by omega, by omega, rfl⟩
    · rw [if_neg c1]
      by_cases c2 : m - (m - p) + (e - m) ≤ k ∧ k < m + (e - m)
      · rw [if_pos c2]; exact ⟨k - (e - m), by omega, by omega, rfl⟩
      · rw [if_neg c2]; exact ⟨k, hk1, hk2, rfl⟩
  · obtain ⟨e1, e2⟩ := rot_blocks h1 h2 h3
    have hs := stab_blocks (A := L.take p) (X := (L.take m).drop p) (Y := (L.take e).drop m) (B := L.drop e) (fun x hx y hy => by
      obtain ⟨i, i1, i2, rfl⟩ := mem_block (by omega) hx
      obtain ⟨j, j1, j2, rfl⟩ := mem_block h3 hy
      exact hne i j i1 i2 j1 j2)
    rw [← e2, ← e1] at hs
    exact hs
theorem swap_rot (L : List Spn) (k : Nat) : swapL L k (k + 1) = rotF (k + 1) 1 1 L := by
  unfold rotF
  rw [dif_neg (by omega)]
  unfold srF
  rw [dif_pos (by omega)]
  unfold srF
  rw [dif_neg (by omega)]
  simp
theorem swap_comm (L : List Spn) (i j : Nat) : swapL L i j = swapL L j i := by
  unfold swapL
  by_cases h : i = j
  · subst h; rfl
  · exact List.set_comm _ _ h
theorem moved_swap {L : List Spn} {a b k : Nat} (ha : a ≤ k) (hk : k + 1 < b) (hb : b ≤ L.length) (hne : (nth L k).id ≠ (nth L (k + 1)).id) : Moved a b L (swapL L k (k + 1)) := by
  rw [swap_rot]
  have := moved_rot (L := L) (a := a) (b := b) (p := k) (m := k + 1) (e := k + 2) (by omega) (by omega) (by omega) ha (by omega) (fun x y h1 h2 h3 h4 => by
    obtain rfl : x = k := by omega
    obtain rfl : y = x + 1 := by omega
    exact hne)
  rwa [show k + 1 - k = 1 by omega, show k + 2 - (k + 1) = 1 by omega] at this

/-- The cut of the third case: which rotation, and what it leaves. -/
def cutF (L : List Spn) (start m e : Nat) : List Spn := if start < m ∧ m < e then rotF m (m - start) (e - m) L else L
theorem cut_facts {L : List Spn} {a m b start mid e : Nat} (hs : SortedOn L a m) (hs2 : SortedOn L m b) (hb : b ≤ L.length) (h1 : a ≤ start) (h2 : start ≤ m) (h3 : start ≤ mid) (hm : a < m)
    (he : e + start = mid + m) (heb : e ≤ b) (F1 : ∀ x y, a ≤ x → x < start → e ≤ y → y < b → (nth L x).id ≤ (nth L y).id) (F2 : ∀ x y, start ≤ x → x < m → m ≤ y → y < e → (nth L y).id < (nth L x).id) :
    Moved a b L (cutF L start m e) ∧ SortedOn (cutF L start m e) a start ∧ SortedOn (cutF L start m e) start mid ∧ SortedOn (cutF L start m e) mid e ∧ SortedOn (cutF L start m e) e b ∧
      ∀ x y, a ≤ x → x < mid → mid ≤ y → y < b → (nth (cutF L start m e) x).id ≤ (nth (cutF L start m e) y).id := by
  have hn : ∀ t, nth (cutF L start m e) t = if start ≤ t ∧ t < mid then nth L (t + (m - start)) else if mid ≤ t ∧ t < e then nth L (t - (e - m)) else nth L t := by
    intro t
    unfold cutF
    by_cases hc : start < m ∧ m < e
    · rw [if_pos hc, rotF_nth m _ (m - start) (e - m) L rfl (by omega) (by omega) (by omega) (by omega)]
      by_cases c1 : start ≤ t ∧ t < mid
      · rw [if_pos (by omega), if_pos c1]
      · rw [if_neg (by omega), if_neg c1]
        by_cases c2 : mid ≤ t ∧ t < e
        · rw [if_pos (by omega), if_pos c2]
        · rw [if_neg (by omega), if_neg c2]
    · rw [if_neg hc]
      by_cases c1 : start ≤ t ∧ t < mid
      · rw [if_pos c1]; congr 1; omega
      · rw [if_neg c1]
        by_cases c2 : mid ≤ t ∧ t < e
        · rw [if_pos c2]; congr 1; omega
        · rw [if_neg c2]
  have lo : ∀ t, t < start → nth (cutF L start m e) t = nth L t := fun t ht => by rw [hn, if_neg (by omega), if_neg (by omega)]
  have m1 : ∀ t, start ≤ t → t < mid → nth (cutF L start m e) t = nth L (t + (m - start)) := fun t x y => by rw [hn, if_pos ⟨x, y⟩]
  have m2 : ∀ t, mid ≤ t → t < e → nth (cutF L start m e) t = nth L (t - (e - m)) := fun t x y => by rw [hn, if_neg (by omega), if_pos ⟨x, y⟩]
  have hi : ∀ t, e ≤ t → nth (cutF L start m e) t = nth L t := fun t ht => by rw [hn, if_neg (by omega), if_neg (by omega)]
  refine ⟨?_, ?_, ?_, ?_, ?_, ?_⟩
  · unfold cutF
    by_cases hc : start < m ∧ m < e
    · rw [if_pos hc]
      exact moved_rot hc.1 hc.2 (by omega) h1 heb (fun x y a1 a2 a3 a4 => by have := F2 x y a1 a2 a3 a4; omega)
    · rw [if_neg hc]; exact Moved.refl _ _ _
  · intro i j a1 a2 a3
    rw [lo i (by omega), lo j a3]; exact hs i j a1 a2 (by omega)
  · intro i j a1 a2 a3
    rw [m1 i a1 (by omega), m1 j (by omega) a3]; exact hs2 _ _ (by omega) (by omega) (by omega)
  · intro i j a1 a2 a3
    rw [m2 i a1 (by omega), m2 j (by omega) a3]; exact hs _ _ (by omega) (by omega) (by omega)
  · intro i j a1 a2 a3
    rw [hi i a1, hi j (by omega)]; exact hs2 _ _ (by omega) a2 a3
  · intro x y a1 a2 a3 a4
    by_cases c1 : x < start
    · rw [lo x c1]
      by_cases c2 : y < e
      · rw [m2 y a3 c2]; exact hs _ _ a1 (by omega) (by omega)
      · rw [hi y (by omega)]; exact F1 x y a1 c1 (by omega) a4
    · rw [m1 x (by omega) a2]
      by_cases c2 : y < e
      · rw [m2 y a3 c2]
        exact Int.le_of_lt (F2 _ _ (by omega) (by omega) (by omega) (by omega))
      · rw [hi y (by omega)]; exact hs2 _ _ (by omega) (by omega) a4
theorem join_sorted {A B C : List Spn} {a mid b : Nat} (h1 : a ≤ mid) (h2 : mid ≤ b) (hB : Moved a mid A B) (sB : SortedOn B a mid) (hC : Moved mid b B C) (sC : SortedOn C mid b) (hA : ∀ x y, a ≤ x → x < mid → mid ≤ y → y < b → (nth A x).id ≤ (nth A y).id) :
    Moved a b A C ∧ SortedOn C a b := by
  refine ⟨(hB.wider (Nat.le_refl _) h2).trans (hC.wider h1 (Nat.le_refl _)), fun i j a1 a2 a3 => ?_⟩
  by_cases c1 : j < mid
  · rw [hC.out i (by omega), hC.out j (by omega)]; exact sB i j a1 a2 c1
  · by_cases c2 : mid ≤ i
    · exact sC i j c2 a2 a3
    · rw [hC.out i (by omega)]
      obtain ⟨x, x1, x2, x3⟩ := hB.inn i a1 (by omega)
      obtain ⟨y, y1, y2, y3⟩ := hC.inn j (by omega) a3
      rw [x3, y3, hB.out y (by omega)]
      exact hA x y x1 x2 y1 y2
/-- One element goes into a sorted stretch behind it. -/
theorem up_sorted {L L1 : List Spn} {a b i : Nat} {x : Spn} (hi : a + 1 ≤ i) (hib : i ≤ b) (hs : SortedOn L (a + 1) b) (lo : ∀ k, a + 1 ≤ k → k < i → (nth L k).id < x.id) (hi2 : ∀ k, i ≤ k → k < b → x.id ≤ (nth L k).id)
    (p1 : nth L1 (i - 1) = x) (p2 : ∀ t, a ≤ t → t < i - 1 → nth L1 t = nth L (t + 1)) (p3 : ∀ t, i - 1 < t → nth L1 t = nth L t) : SortedOn L1 a b := by
  intro s t a1 a2 a3
  by_cases c1 : t < i - 1
  · rw [p2 s a1 (by omega), p2 t (by omega) c1]; exact hs _ _ (by omega) (by omega) (by omega)
  · by_cases c2 : t = i - 1
    · subst c2
      rw [p1]
      by_cases c3 : s = i - 1
      · subst c3; rw [p1]; exact Int.le_refl _
      · rw [p2 s a1 (by omega)]; exact Int.le_of_lt (lo _ (by omega) (by omega))
    · rw [p3 t (by omega)]
      by_cases c3 : s < i - 1
      · rw [p2 s a1 c3]; exact hs _ _ (by omega) (by omega) a3
      · by_cases c4 : s = i - 1
        · subst c4; rw [p1]; exact hi2 t (by omega) a3
        · rw [p3 s (by omega)]; exact hs _ _ (by omega) a2 a3
/-- One element goes into a sorted stretch ahead of it. -/
theorem down_sorted {L L1 : List Spn} {a m i : Nat} {y : Spn} (hai : a ≤ i) (him : i ≤ m) (hs : SortedOn L a m) (lo : ∀ k, a ≤ k → k < i → (nth L k).id ≤ y.id) (hi2 : ∀ k, i ≤ k → k < m → y.id < (nth L k).id)
    (p1 : nth L1 i = y) (p2 : ∀ t, i < t → t ≤ m → nth L1 t = nth L (t - 1)) (p3 : ∀ t, t < i → nth L1 t = nth L t) : SortedOn L1 a (m + 1) := by
  intro s t a1 a2 a3
  by_cases c1 : t < i
  · rw [p3 s (by omega), p3 t c1]; exact hs _ _ a1 a2 (by omega)
  · by_cases c2 : t = i
    · subst c2
      rw [p1]
      by_cases c3 : s = t
      · subst c3; rw [p1]; exact Int.le_refl _
      · rw [p3 s (by omega)]; exact lo _ a1 (by omega)
    · rw [p2 t (by omega) (by omega)]
      by_cases c3 : s < i
      · rw [p3 s c3]; exact hs _ _ a1 (by omega) (by omega)
      · by_cases c4 : s = i
        · subst c4; rw [p1]; exact Int.le_of_lt (hi2 _ (by omega) (by omega))
        · rw [p2 s (by omega) (by omega)]; exact hs _ _ (by omega) (by omega) (by omega)
end Go.Proofs.Ytjidldbolbjdpaa
