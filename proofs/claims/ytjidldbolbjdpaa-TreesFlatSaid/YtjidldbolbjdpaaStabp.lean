/- Plain laws of the stable sort: what insertion leaves, and how blocks of doubling width come to one. Nothing of the program is run here. -/
import Derived.Test.YtjidldbolbjdpaaSymp
namespace Go.Proofs.Ytjidldbolbjdpaa

theorem sorted_one {L : List Spn} {a b : Nat} (h : b ≤ a + 1) : SortedOn L a b := fun x y x1 x2 x3 => by
  obtain rfl : x = y := by omega
  exact Int.le_refl _
theorem sinkF_facts (a b i : Nat) (hib : i < b) : ∀ (j : Nat) (L : List Spn), a ≤ j → j ≤ i → b ≤ L.length → SortedOn L a j → SortedOn L j (i + 1) → (∀ x y, a ≤ x → x < j → j < y → y ≤ i → (nth L x).id ≤ (nth L y).id) →
    Moved a b L (sinkF a j L) ∧ SortedOn (sinkF a j L) a (i + 1)
  | j, L, haj, hji, hb, s1, s2, hx => by
    unfold sinkF
    by_cases h : a < j
    · rw [dif_pos h]
      by_cases hlt : (nth L j).id < (nth L (j - 1)).id
      · rw [if_pos hlt]
        have hj : j < L.length := by omega
        have hj1 : j - 1 < L.length := by omega
        have sn := nth_swap L hj hj1
        have hm := moved_swap (L := L) (a := a) (b := b) (k := j - 1) (by omega) (by omega) hb (by rw [show j - 1 + 1 = j by omega]; omega)
        rw [show j - 1 + 1 = j by omega, swap_comm] at hm
        have ih := sinkF_facts a b i hib (j - 1) (swapL L j (j - 1)) (by omega) (by omega) (by simpa using hb)
          (fun x y x1 x2 x3 => by rw [sn, sn, if_neg (by omega), if_neg (by omega), if_neg (by omega), if_neg (by omega)]; exact s1 x y x1 x2 (by omega))
          (fun x y x1 x2 x3 => by
            by_cases c1 : y = j - 1
            · obtain rfl : x = y := by omega
              exact Int.le_refl _
            · by_cases c2 : y = j
              · subst c2
                by_cases c3 : x = y
                · subst c3; exact Int.le_refl _
                · have c4 : x = y - 1 := by omega
                  rw [sn, if_pos c4, sn, if_neg (by omega), if_pos rfl]; omega
              · rw [sn y, if_neg c1, if_neg c2]
                by_cases c3 : x = j - 1
                · rw [sn, if_pos c3]; exact s2 j y (Nat.le_refl _) (by omega) x3
                · by_cases c4 : x = j
                  · rw [sn, if_neg c3, if_pos c4]; exact hx (j - 1) y (by omega) (by omega) (by omega) (by omega)
                  · rw [sn, if_neg c3, if_neg c4]; exact s2 x y (by omega) x2 x3)
          (fun x y x1 x2 x3 x4 => by
            rw [sn x, if_neg (by omega), if_neg (by omega)]
            by_cases c1 : y = j
            · rw [sn, if_neg (by omega), if_pos c1]; exact s1 x (j - 1) x1 (by omega) (by omega)
            · rw [sn, if_neg (by omega), if_neg c1]; exact hx x y x1 (by omega) (by omega) x4)
        exact ⟨hm.trans ih.1, ih.2⟩
      · rw [if_neg hlt]
        refine ⟨Moved.refl _ _ _, fun x y x1 x2 x3 => ?_⟩
        by_cases c1 : y < j
        · exact s1 x y x1 x2 c1
        · by_cases c2 : j ≤ x
          · exact s2 x y c2 x2 x3
          · have h1 := s1 x (j - 1) x1 (by omega) (by omega)
            have h2 := s2 j y (Nat.le_refl _) (by omega) x3
            omega
    · rw [dif_neg h]
      obtain rfl : a = j := by omega
      exact ⟨Moved.refl _ _ _, s2⟩
termination_by j => j
decreasing_by omega
theorem insF_facts (a b : Nat) : ∀ (n i : Nat) (L : List Spn), b - i = n → a ≤ i → b ≤ L.length → SortedOn L a i → Moved a b L (insF a b i L) ∧ SortedOn (insF a b i L) a b
  | 0, i, L, h, _, _, s => by
    unfold insF
    rw [dif_neg (by omega)]
    exact ⟨Moved.refl _ _ _, fun x y x1 x2 x3 => s x y x1 x2 (by omega)⟩
  | n + 1, i, L, h, ha, hb, s => by
    unfold insF
    rw [dif_pos (by omega)]
    have h1 := sinkF_facts a b i (by omega) i L ha (Nat.le_refl _) hb s (sorted_one (by omega)) (fun x y x1 x2 x3 x4 => by omega)
    have h2 := insF_facts a b n (i + 1) (sinkF a i L) (by omega) (by omega) (by rw [sinkF_length]; exact hb) h1.2
    exact ⟨h1.1.trans h2.1, h2.2⟩
theorem insert_facts {L : List Spn} {a b : Nat} (hb : b ≤ L.length) : Moved a b L (insF a b (a + 1) L) ∧ SortedOn (insF a b (a + 1) L) a b :=
  insF_facts a b _ (a + 1) L rfl (by omega) hb (sorted_one (by omega))
theorem Moved.sorted {a b x y : Nat} {A B : List Spn} (h : Moved a b A B) (hs : SortedOn A x y) (hd : y ≤ a ∨ b ≤ x) : SortedOn B x y := fun i j h1 h2 h3 => by
  rw [h.out i (by omega), h.out j (by omega)]; exact hs i j h1 h2 h3
theorem dvd_gap {B s a : Nat} (h1 : B ∣ s) (h2 : B ∣ a) (h : s < a) : s + B ≤ a := by
  have h3 : B ∣ a - s := Nat.dvd_sub h2 h1
  have := Nat.le_of_dvd (by omega) h3
  omega
/-- Ahead of a, blocks of the width C are sorted; from a on, blocks of the width B. -/
def Blk (C B n a : Nat) (L : List Spn) : Prop := C ∣ a ∧ (∀ s, C ∣ s → s < a → SortedOn L s (s + C)) ∧ (∀ s, B ∣ s → a ≤ s → SortedOn L s (min (s + B) n))
/-- All blocks of the width B are sorted. -/
def Blks (B n : Nat) (L : List Spn) : Prop := ∀ s, B ∣ s → SortedOn L s (min (s + B) n)
theorem Blks.start {B n : Nat} {L : List Spn} (h : Blks B n L) : Blk (2 * B) B n 0 L := ⟨Nat.dvd_zero _, fun s _ h => by omega, fun s hs _ => h s hs⟩
theorem Blk.halves {B n a : Nat} {L : List Spn} (h : Blk (2 * B) B n a L) {e : Nat} (he : a + B < e) (hn : e ≤ n) (h2 : e ≤ a + 2 * B) : SortedOn L a (a + B) ∧ SortedOn L (a + B) e := by
  have hB : B ∣ a := Nat.dvd_trans (Nat.dvd_mul_left B 2) h.1
  have h3 := h.2.2 a hB (Nat.le_refl _)
  have h4 := h.2.2 (a + B) (Nat.dvd_add hB (Nat.dvd_refl _)) (by omega)
  exact ⟨fun i j x1 x2 x3 => h3 i j x1 x2 (by omega), fun i j x1 x2 x3 => h4 i j x1 x2 (by omega)⟩
theorem Blk.next {B n a : Nat} {L L' : List Spn} (h : Blk (2 * B) B n a L) (hm : Moved a (a + 2 * B) L L') (hs : SortedOn L' a (a + 2 * B)) (hB : 0 < B) : Blk (2 * B) B n (a + 2 * B) L' := by
  refine ⟨Nat.dvd_add h.1 (Nat.dvd_refl _), fun s s1 s2 => ?_, fun s s1 s2 => hm.sorted (h.2.2 s s1 (by omega)) (.inr s2)⟩
  by_cases c : s < a
  · have := dvd_gap s1 h.1 c
    exact hm.sorted (h.2.1 s s1 c) (.inl this)
  · by_cases c2 : s = a
    · subst c2; exact hs
    · have := dvd_gap h.1 s1 (by omega)
      omega
theorem Blk.done {B n a : Nat} {L L' : List Spn} (h : Blk (2 * B) B n a L) (hn : n < a + 2 * B) (hm : Moved a n L L') (hs : SortedOn L' a n) : Blks (2 * B) n L' := by
  intro s s1
  by_cases c : s < a
  · have := dvd_gap s1 h.1 c
    exact fun i j x1 x2 x3 => hm.sorted (h.2.1 s s1 c) (.inl this) i j x1 x2 (by omega)
  · by_cases c2 : s = a
    · subst c2; exact fun i j x1 x2 x3 => hs i j x1 x2 (by omega)
    · have := dvd_gap h.1 s1 (by omega)
      exact fun i j x1 x2 x3 => by omega
theorem Blk.last {B n a : Nat} {L : List Spn} (h : Blk (2 * B) B n a L) (hn : n ≤ a + B) : SortedOn L a n := by
  have hB : B ∣ a := Nat.dvd_trans (Nat.dvd_mul_left B 2) h.1
  exact fun i j x1 x2 x3 => h.2.2 a hB (Nat.le_refl _) i j x1 x2 (by omega)
theorem Blks.all {B n : Nat} {L : List Spn} (h : Blks B n L) (hn : n ≤ B) : SortedOn L 0 n := fun i j x1 x2 x3 => h 0 (Nat.dvd_zero _) i j x1 x2 (by omega)
/-- Insertion goes block by block. -/
def Ins (B a : Nat) (L : List Spn) : Prop := B ∣ a ∧ ∀ s, B ∣ s → s < a → SortedOn L s (s + B)
theorem Ins.start (B : Nat) (L : List Spn) : Ins B 0 L := ⟨Nat.dvd_zero _, fun s _ h => by omega⟩
theorem Ins.next {B a : Nat} {L L' : List Spn} (h : Ins B a L) (hm : Moved a (a + B) L L') (hs : SortedOn L' a (a + B)) : Ins B (a + B) L' := by
  refine ⟨Nat.dvd_add h.1 (Nat.dvd_refl _), fun s s1 s2 => ?_⟩
  by_cases c : s < a
  · have := dvd_gap s1 h.1 c
    exact hm.sorted (h.2 s s1 c) (.inl this)
  · by_cases c2 : s = a
    · subst c2; exact hs
    · have := dvd_gap h.1 s1 (by omega)
      omega
theorem Ins.done {B a n : Nat} {L L' : List Spn} (h : Ins B a L) (hn : n < a + B) (hm : Moved a n L L') (hs : SortedOn L' a n) : Blks B n L' := by
  intro s s1
  by_cases c : s < a
  · have := dvd_gap s1 h.1 c
    exact fun i j x1 x2 x3 => hm.sorted (h.2 s s1 c) (.inl this) i j x1 x2 (by omega)
  · by_cases c2 : s = a
    · subst c2; exact fun i j x1 x2 x3 => hs i j x1 x2 (by omega)
    · have := dvd_gap h.1 s1 (by omega)
      exact fun i j x1 x2 x3 => by omega
end Go.Proofs.Ytjidldbolbjdpaa
