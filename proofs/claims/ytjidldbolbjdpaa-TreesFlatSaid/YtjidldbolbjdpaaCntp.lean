/- Plain laws of what counts: of each ID the first span, rising by ID. Nothing of the program is run here. -/
import Derived.Test.YtjidldbolbjdpaaCompact
namespace Go.Proofs.Ytjidldbolbjdpaa

abbrev Rise (R : List Spn) : Prop := R.Pairwise (fun x y => x.id < y.id)
/-- Of each ID in L the first one, rising. -/
structure Cnt (L R : List Spn) : Prop where
  rise : Rise R
  first : ∀ x ∈ R, (L.filter (fun y => y.id == x.id)).head? = some x
  all : ∀ x ∈ L, ∃ y ∈ R, y.id = x.id
theorem Cnt.mem {L R : List Spn} (h : Cnt L R) {x : Spn} (hx : x ∈ R) : x ∈ L := (List.mem_filter.1 (List.mem_of_mem_head? (h.first x hx))).1
theorem rise_unique : ∀ {R S : List Spn}, Rise R → Rise S → (∀ x, x ∈ R ↔ x ∈ S) → R = S
  | [], [], _, _, _ => rfl
  | [], y :: t, _, _, h => absurd ((h y).2 (by simp)) (by simp)
  | x :: t, [], _, _, h => absurd ((h x).1 (by simp)) (by simp)
  | x :: t, y :: u, h1, h2, h => by
    have a1 := List.pairwise_cons.1 h1
    have a2 := List.pairwise_cons.1 h2
    have exy : x = y := by
      rcases List.mem_cons.1 ((h x).1 (by simp)) with e | e
      · exact e
      · rcases List.mem_cons.1 ((h y).2 (by simp)) with f | f
        · exact f.symm
        · have := a2.1 x e; have := a1.1 y f; omega
    subst exy
    congr 1
    refine rise_unique a1.2 a2.2 (fun z => ⟨fun hz => ?_, fun hz => ?_⟩)
    · rcases List.mem_cons.1 ((h z).1 (by simp [hz])) with e | e
      · subst e; have := a1.1 z hz; omega
      · exact e
    · rcases List.mem_cons.1 ((h z).2 (by simp [hz])) with e | e
      · subst e; have := a2.1 z hz; omega
      · exact e
theorem Cnt.unique {L R S : List Spn} (h : Cnt L R) (k : Cnt L S) : R = S := by
  have aux : ∀ {R S : List Spn}, Cnt L R → Cnt L S → ∀ x, x ∈ R → x ∈ S := by
    intro R S h k x hx
    obtain ⟨y, hy, e⟩ := k.all x (h.mem hx)
    have h1 := h.first x hx
    have h2 := k.first y hy
    rw [e, h1] at h2
    obtain rfl := Option.some.inj h2
    exact hy
  exact rise_unique h.rise k.rise (fun x => ⟨aux h k x, aux k h x⟩)
theorem Cnt.stab {L M R : List Spn} (h : Cnt M R) (hs : Stab L M) : Cnt L R := by
  refine ⟨h.rise, fun x hx => by rw [← hs]; exact h.first x hx, fun x hx => h.all x (hs.symm.mem hx)⟩
theorem head_first {L : List Spn} {t : Nat} (ht : t < L.length) (h : ∀ s, s < t → (nth L s).id ≠ (nth L t).id) : (L.filter (fun y => y.id == (nth L t).id)).head? = some (nth L t) := by
  have hsplit : L = L.take t ++ nth L t :: L.drop (t + 1) := by
    conv => lhs; rw [← List.take_append_drop t L]
    congr 1
    rw [List.drop_eq_getElem_cons ht]
    congr 1
    have h1 := nth_get ht
    rw [List.getElem?_eq_getElem ht] at h1
    exact Option.some.inj h1
  have hz : (L.take t).filter (fun y => y.id == (nth L t).id) = [] := by
    apply List.filter_eq_nil_iff.2
    intro y hy
    obtain ⟨s, _, h2, rfl⟩ := mem_block (L := L) (p := 0) (e := t) (by omega) (by simpa using hy)
    simpa using h s h2
  generalize hv : nth L t = v at *
  rw [hsplit, List.filter_append, hz]
  simp
/-- What is known of what counts among the first j. -/
structure CntI (L : List Spn) (j : Nat) (R : List Spn) : Prop where
  rise : Rise R
  first : ∀ x ∈ R, ∃ t, t < j ∧ x = nth L t ∧ ∀ s, s < t → (nth L s).id ≠ (nth L t).id
  all : ∀ t, t < j → ∃ x ∈ R, x.id = (nth L t).id
theorem CntI.cnt {L R : List Spn} (h : CntI L L.length R) : Cnt L R := by
  refine ⟨h.rise, fun x hx => ?_, fun x hx => ?_⟩
  · obtain ⟨t, h1, rfl, h2⟩ := h.first x hx
    exact head_first h1 h2
  · obtain ⟨i, hi, rfl⟩ := List.getElem_of_mem hx
    obtain ⟨y, hy, e⟩ := h.all i hi
    refine ⟨y, hy, ?_⟩
    rw [e]
    have h2 := nth_get hi
    rw [List.getElem?_eq_getElem hi] at h2
    rw [← Option.some.inj h2]
theorem ddF_cnt {L : List Spn} (hs : SortedOn L 0 L.length) : ∀ j, j ≤ L.length → CntI L j (ddF L j)
  | 0, _ => ⟨List.Pairwise.nil, fun x hx => by simp [ddF] at hx, fun t ht => by omega⟩
  | j + 1, hj => by
    have ih := ddF_cnt hs j (by omega)
    by_cases hk : j = 0 ∨ (nth L j).id ≠ (nth L (j - 1)).id
    · rw [ddF_keep hk]
      have hlow : ∀ s, s < j → (nth L s).id < (nth L j).id := by
        intro s hsj
        have h1 := hs s (j - 1) (by omega) (by omega) (by omega)
        have h2 := hs (j - 1) j (by omega) (by omega) (by omega)
        rcases hk with hk | hk
        · omega
        · omega
      refine ⟨?_, ?_, ?_⟩
      · rw [Rise, List.pairwise_append]
        refine ⟨ih.rise, by simp, fun x hx y hy => ?_⟩
        obtain ⟨t, h1, rfl, _⟩ := ih.first x hx
        simp at hy; subst hy
        exact hlow t h1
      · intro x hx
        rcases List.mem_append.1 hx with hx | hx
        · obtain ⟨t, h1, h2, h3⟩ := ih.first x hx
          exact ⟨t, by omega, h2, h3⟩
        · simp at hx
          exact ⟨j, by omega, hx, fun s hsj => by have := hlow s hsj; omega⟩
      · intro t ht
        by_cases c : t = j
        · subst c; exact ⟨nth L t, by simp, rfl⟩
        · obtain ⟨x, h1, h2⟩ := ih.all t (by omega)
          exact ⟨x, by simp [h1], h2⟩
    · have h0 : j ≠ 0 := fun e => hk (.inl e)
      have h1 : (nth L j).id = (nth L (j - 1)).id := Classical.byContradiction fun e => hk (.inr e)
      rw [ddF_skip h0 h1]
      refine ⟨ih.rise, fun x hx => ?_, fun t ht => ?_⟩
      · obtain ⟨t, h1, h2, h3⟩ := ih.first x hx
        exact ⟨t, by omega, h2, h3⟩
      · by_cases c : t = j
        · subst c
          obtain ⟨x, h2, h3⟩ := ih.all (t - 1) (by omega)
          exact ⟨x, h2, h3.trans h1.symm⟩
        · exact ih.all t (by omega)

/-- One more span: it goes where it belongs, if its ID is new. -/
def insS : List Spn → Spn → List Spn
  | [], s => [s]
  | x :: t, s => if x.id < s.id then x :: insS t s else if x.id = s.id then x :: t else s :: x :: t
theorem insS_sub : ∀ (l : List Spn) (s : Spn) {x : Spn}, x ∈ l → x ∈ insS l s
  | [], _, _, h => by simp at h
  | y :: t, s, x, h => by
    unfold insS
    split
    · rcases List.mem_cons.1 h with e | e
      · simp [e]
      · simp [insS_sub t s e]
    · split
      · exact h
      · simp at h; simp; exact .inr h
theorem insS_has : ∀ (l : List Spn) (s : Spn), ∃ x ∈ insS l s, x.id = s.id
  | [], s => ⟨s, by simp [insS], rfl⟩
  | y :: t, s => by
    unfold insS
    split
    · obtain ⟨x, h1, h2⟩ := insS_has t s
      exact ⟨x, by simp [h1], h2⟩
    · split
      · rename_i e; exact ⟨y, by simp, e⟩
      · exact ⟨s, by simp, rfl⟩
theorem insS_mem : ∀ (l : List Spn) (s : Spn), Rise l → ∀ x ∈ insS l s, x ∈ l ∨ (x = s ∧ ∀ y ∈ l, y.id ≠ s.id)
  | [], s, _, x, h => by simp [insS] at h; exact .inr ⟨h, by simp⟩
  | y :: t, s, hr, x, h => by
    have a1 := List.pairwise_cons.1 hr
    unfold insS at h
    split at h
    · rename_i hlt
      rcases List.mem_cons.1 h with e | e
      · exact .inl (by simp [e])
      · rcases insS_mem t s a1.2 x e with f | ⟨f, g⟩
        · exact .inl (by simp [f])
        · refine .inr ⟨f, fun z hz => ?_⟩
          rcases List.mem_cons.1 hz with e | e
          · subst e; omega
          · exact g z e
    · split at h
      · exact .inl h
      · rename_i h1 h2
        rcases List.mem_cons.1 h with e | e
        · refine .inr ⟨e, fun z hz => ?_⟩
          rcases List.mem_cons.1 hz with f | f
          · subst f; exact h2
          · have := a1.1 z f; omega
        · exact .inl e
theorem insS_rise : ∀ (l : List Spn) (s : Spn), Rise l → Rise (insS l s)
  | [], s, _ => by simp [insS]
  | y :: t, s, hr => by
    have a1 := List.pairwise_cons.1 hr
    unfold insS
    split
    · rename_i hlt
      refine List.pairwise_cons.2 ⟨fun z hz => ?_, insS_rise t s a1.2⟩
      rcases insS_mem t s a1.2 z hz with f | ⟨f, _⟩
      · exact a1.1 z f
      · subst f; exact hlt
    · split
      · exact hr
      · rename_i h1 h2
        refine List.pairwise_cons.2 ⟨fun z hz => ?_, hr⟩
        rcases List.mem_cons.1 hz with f | f
        · subst f; omega
        · have := a1.1 z f; omega
/-- The loop's place: what it comes to. -/
theorem insS_at : ∀ (l : List Spn) (s : Spn) (k : Nat), k ≤ l.length → (∀ t, t < k → (nth l t).id < s.id) → (k = l.length ∨ ¬ (nth l k).id < s.id) →
    insS l s = if k = l.length ∨ (nth l k).id ≠ s.id then l.take k ++ s :: l.drop k else l
  | [], s, k, h, _, _ => by obtain rfl : k = 0 := by simpa using h
                            rfl
  | x :: t, s, 0, h, _, h2 => by
    have h3 : ¬ x.id < s.id := by rcases h2 with h2 | h2
                                  · simp at h2
                                  · exact h2
    unfold insS
    rw [if_neg h3]
    by_cases e : x.id = s.id
    · rw [if_pos e, if_neg (by simp [nth, e])]
    · rw [if_neg e, if_pos (by simp [nth, e])]; rfl
  | x :: t, s, k + 1, h, h1, h2 => by
    have h3 : x.id < s.id := h1 0 (by omega)
    unfold insS
    rw [if_pos h3, insS_at t s k (by simpa using h) (fun i hi => h1 (i + 1) (by omega)) (by simpa [nth] using h2)]
    have e : (nth (x :: t) (k + 1)) = nth t k := by simp [nth]
    rw [e]
    by_cases c : k = t.length ∨ (nth t k).id ≠ s.id
    · rw [if_pos c, if_pos (by simpa using c)]; rfl
    · rw [if_neg c, if_neg (by simpa using c)]
def cntN (L : List Spn) : Nat → List Spn
  | 0 => []
  | j + 1 => insS (cntN L j) (nth L j)
theorem cntN_cnt (L : List Spn) : ∀ j, CntI L j (cntN L j)
  | 0 => ⟨List.Pairwise.nil, fun x hx => by simp [cntN] at hx, fun t ht => by omega⟩
  | j + 1 => by
    have ih := cntN_cnt L j
    refine ⟨insS_rise _ _ ih.rise, fun x hx => ?_, fun t ht => ?_⟩
    · rcases insS_mem _ _ ih.rise x hx with f | ⟨f, g⟩
      · obtain ⟨t, h1, h2, h3⟩ := ih.first x f
        exact ⟨t, by omega, h2, h3⟩
      · refine ⟨j, by omega, f, fun s hs e => ?_⟩
        obtain ⟨y, hy, e2⟩ := ih.all s hs
        exact g y hy (e2.trans e)
    · by_cases c : t = j
      · subst c; exact insS_has _ _
      · obtain ⟨x, h1, h2⟩ := ih.all t (by omega)
        exact ⟨x, insS_sub _ _ h1, h2⟩
theorem cntN_len (L : List Spn) : ∀ j, (cntN L j).length ≤ j
  | 0 => Nat.le_refl _
  | j + 1 => by
    have ih := cntN_len L j
    have : ∀ (l : List Spn) (s : Spn), (insS l s).length ≤ l.length + 1 := by
      intro l s
      induction l with
      | nil => simp [insS]
      | cons x t ih => unfold insS; split <;> (try split) <;> simp <;> omega
    have := this (cntN L j) (nth L j)
    unfold cntN; omega
/-- What counts. -/
def cntF (L : List Spn) : List Spn := cntN L L.length
theorem cntF_len (L : List Spn) : (cntF L).length ≤ L.length := cntN_len _ _
theorem cntF_cnt (L : List Spn) : Cnt L (cntF L) := (cntN_cnt L L.length).cnt
theorem kept_plain {L M : List Spn} (hm : Moved 0 L.length L M) (hs : SortedOn M 0 L.length) : ddF M L.length = cntF L := by
  have h := ddF_cnt (L := M) (by rw [hm.len]; exact hs) M.length (Nat.le_refl _)
  have h2 := h.cnt.stab hm.stab
  rw [hm.len] at h2
  exact h2.unique (cntF_cnt L)
theorem cntF_nil : cntF [] = [] := rfl
end Go.Proofs.Ytjidldbolbjdpaa
