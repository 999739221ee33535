/- Each span that counts is in its tree once: in plain Lean. -/
import Derived.Test.YtjidldbolbjdpaaRhead
namespace Go.Proofs.Ytjidldbolbjdpaa

def idxF (h : Nat → List Nat) : List Nat → List Nat
  | [] => []
  | k :: t => k :: (h k ++ idxF h t)
noncomputable def subI (R : List Spn) : Nat → Nat → List Nat
  | 0, _ => []
  | d + 1, i => idxF (subI R d) (kidF R R.length i)
theorem flat_idx (g : Nat → Fr) (h : Nat → List Nat) (R : List Spn) : ∀ l : List Nat, (∀ k ∈ l, (g k).flat = (h k).map (nth R)) → (forF g R l).flat = (idxF h l).map (nth R)
  | [], _ => rfl
  | k :: t, H => by
    rw [forF, Fr.flat, idxF, H k (by simp), flat_idx g h R t (fun q hq => H q (by simp [hq]))]
    simp
theorem sub_flat (R : List Spn) : ∀ d i, (subF R d i).flat = (subI R d i).map (nth R)
  | 0, _ => rfl
  | d + 1, i => by rw [subF, subI]; exact flat_idx _ _ _ _ (fun k _ => sub_flat R d k)
theorem count_idx (h : Nat → List Nat) (k : Nat) : ∀ l : List Nat, (idxF h l).count k = l.count k + (l.map (fun j => (h j).count k)).sum
  | [] => rfl
  | j :: t => by
    rw [idxF, List.count_cons, List.count_append, count_idx h k t, List.count_cons, List.map_cons, List.sum_cons]
    omega
theorem sum_ite (q : Nat) (f : Nat → Nat) : ∀ l : List Nat, (l.map (fun j => (if q = j then 1 else 0) + f j)).sum = l.count q + (l.map f).sum
  | [] => rfl
  | j :: t => by
    rw [List.map_cons, List.sum_cons, sum_ite q f t, List.count_cons, List.map_cons, List.sum_cons]
    by_cases e : q = j
    · subst e; simp; omega
    · have : (j == q) = false := by simp; exact fun h => e h.symm
      simp [e, this]; omega
theorem count_range_filter (P : Nat → Bool) (m k : Nat) : ((List.range m).filter P).count k = if k < m ∧ P k = true then 1 else 0 := by
  have hnd : ((List.range m).filter P).Nodup := List.nodup_range.filter _
  by_cases h : k ∈ (List.range m).filter P
  · rw [hnd.count, if_pos h, if_pos (by simpa using h)]
  · rw [hnd.count, if_neg h, if_neg (by simpa using h)]
theorem count_kid (R : List Spn) (i k : Nat) : (kidF R R.length i).count k = if k < R.length ∧ pF R k = some i ∧ hdF R k = false then 1 else 0 := by
  unfold kidF
  rw [count_range_filter]
  simp
theorem sub_kid (R : List Spn) {k q : Nat} (hk : k < R.length) (hp : pF R k = some q) (hh : hdF R k = false) : ∀ d i, Low R (d + 1) i → (subI R (d + 1) i).count k = (if q = i then 1 else 0) + (subI R (d + 1) i).count q := by
  intro d
  induction d with
  | zero =>
    intro i hl
    have hnil : kidF R R.length i = [] := List.eq_nil_iff_forall_not_mem.2 (fun j hj => hl j hj)
    have hq : q ≠ i := fun e => by
      have := mem_kidF.2 ⟨hk, by rw [hp, e], hh⟩
      rw [hnil] at this; cases this
    rw [subI, hnil, if_neg hq]; rfl
  | succ d ih =>
    intro i hl
    rw [subI, count_idx, count_idx, count_kid]
    have h1 : ((kidF R R.length i).map (fun j => (subI R (d + 1) j).count k)) = (kidF R R.length i).map (fun j => (if q = j then 1 else 0) + (subI R (d + 1) j).count q) :=
      List.map_congr_left (fun j hj => ih j (hl j hj))
    rw [h1, sum_ite]
    have h2 : (k < R.length ∧ pF R k = some i ∧ hdF R k = false) ↔ q = i := by
      rw [hp]
      exact ⟨fun h => Option.some.inj h.2.1, fun h => ⟨hk, by rw [h], hh⟩⟩
    simp only [h2]
theorem mem_idx (h : Nat → List Nat) (k : Nat) : ∀ l : List Nat, k ∈ idxF h l → k ∈ l ∨ ∃ j ∈ l, k ∈ h j
  | [], hm => by cases hm
  | j :: t, hm => by
    rw [idxF] at hm
    rcases List.mem_cons.1 hm with e | e
    · exact .inl (by simp [e])
    · rcases List.mem_append.1 e with e | e
      · exact .inr ⟨j, by simp, e⟩
      · rcases mem_idx h k t e with f | ⟨x, f, g⟩
        · exact .inl (by simp [f])
        · exact .inr ⟨x, by simp [f], g⟩
theorem mem_sub (R : List Spn) {k : Nat} : ∀ d i, k ∈ subI R d i → k < R.length ∧ (∃ q, pF R k = some q) ∧ hdF R k = false
  | 0, _, h => by cases h
  | d + 1, i, h => by
    rw [subI] at h
    rcases mem_idx _ _ _ h with h | ⟨j, _, h⟩
    · obtain ⟨a, b, c⟩ := mem_kidF.1 h; exact ⟨a, ⟨i, b⟩, c⟩
    · exact mem_sub R d j h
noncomputable def allI (R : List Spn) : List Nat := idxF (subI R (R.length + 1)) (rootsL R R.length) ++ idxF (subI R (R.length + 1)) (orphL R R.length)
theorem all_flat (R : List Spn) : (rootsF R).flat ++ (orphF R).flat = (allI R).map (nth R) := by
  rw [allI, List.map_append, rootsF, orphF, flat_idx _ _ _ _ (fun k _ => sub_flat R _ k), flat_idx _ _ _ _ (fun k _ => sub_flat R _ k)]
theorem count_roots (R : List Spn) (k : Nat) : (rootsL R R.length).count k = if k < R.length ∧ hdF R k = false ∧ (nth R k).pa = 0 then 1 else 0 := by
  unfold rootsL; rw [count_range_filter]; simp
theorem count_orph (R : List Spn) (k : Nat) : (orphL R R.length).count k = if k < R.length ∧ hdF R k = true then 1 else 0 := by
  unfold orphL; rw [count_range_filter]
theorem sub_zero (R : List Spn) {k : Nat} (h : ¬ ((∃ q, pF R k = some q) ∧ hdF R k = false)) (d i : Nat) : (subI R d i).count k = 0 :=
  List.count_eq_zero.2 (fun hm => h (mem_sub R d i hm).2)
theorem all_up (R : List Spn) {k q : Nat} (hk : k < R.length) (hp : pF R k = some q) (hh : hdF R k = false) : (allI R).count k = (allI R).count q := by
  have hpa : (nth R k).pa ≠ 0 := (plF_spec hp).2.2
  have hl : ∀ l : List Nat, (∀ i ∈ l, i < R.length) → l.count k = 0 → (idxF (subI R (R.length + 1)) l).count k = (idxF (subI R (R.length + 1)) l).count q := by
    intro l hl h0
    rw [count_idx, count_idx, h0, Nat.zero_add]
    have h1 : (l.map (fun j => (subI R (R.length + 1) j).count k)) = l.map (fun j => (if q = j then 1 else 0) + (subI R (R.length + 1) j).count q) :=
      List.map_congr_left (fun j hj => sub_kid R hk hp hh _ j (low_all R (hl j hj)))
    rw [h1, sum_ite]
  rw [allI, List.count_append, List.count_append, hl _ (fun i hi => by simp [rootsL] at hi; exact hi.1) (by rw [count_roots, if_neg (fun h => hpa h.2.2)]),
    hl _ (fun i hi => by simp [orphL] at hi; exact hi.1) (by rw [count_orph, if_neg (fun h => by rw [hh] at h; cases h.2)])]
theorem all_top (R : List Spn) {k : Nat} (hk : k < R.length) (h : ¬ ((∃ q, pF R k = some q) ∧ hdF R k = false)) : (allI R).count k = 1 := by
  have h0 : ∀ l : List Nat, (l.map (fun j => (subI R (R.length + 1) j).count k)).sum = 0 := by
    intro l
    induction l with
    | nil => rfl
    | cons j t ih => rw [List.map_cons, List.sum_cons, ih, sub_zero R h]
  rw [allI, List.count_append, count_idx, count_idx, h0, h0, count_roots, count_orph]
  cases hh : hdF R k with
  | true => simp [hk]
  | false =>
    have hn : pF R k = none := by
      cases hp : pF R k with
      | none => rfl
      | some q => exact absurd ⟨⟨q, hp⟩, hh⟩ h
    have hpa := hdF_none hn
    rw [hh] at hpa
    have : (nth R k).pa = 0 := by simpa using hpa.symm
    simp [hk, this]
theorem all_one (R : List Spn) {k : Nat} (hk : k < R.length) : (allI R).count k = 1 := by
  refine Classical.byContradiction fun hne => no_end R hk (fun t => ?_)
  have : ∃ y, it (pF R) t k = some y ∧ y < R.length ∧ (allI R).count y ≠ 1 := by
    induction t with
    | zero => exact ⟨k, rfl, hk, hne⟩
    | succ t ih =>
      obtain ⟨y, h1, h2, h3⟩ := ih
      have h4 : (∃ q, pF R y = some q) ∧ hdF R y = false := Classical.byContradiction fun h => h3 (all_top R h2 h)
      obtain ⟨⟨q, hq⟩, hh⟩ := h4
      exact ⟨q, by simp only [it, h1]; exact hq, pF_lt hq, by rw [← all_up R h2 hq hh]; exact h3⟩
  obtain ⟨y, h1, h2, h3⟩ := this
  have h4 : (∃ q, pF R y = some q) ∧ hdF R y = false := Classical.byContradiction fun h => h3 (all_top R h2 h)
  exact ⟨y, h1, h4.2⟩
theorem all_lt (R : List Spn) {k : Nat} (h : k ∈ allI R) : k < R.length := by
  have hs : ∀ l : List Nat, (∀ i ∈ l, i < R.length) → k ∈ idxF (subI R (R.length + 1)) l → k < R.length := by
    intro l hl hm
    rcases mem_idx _ _ _ hm with h | ⟨j, _, h⟩
    · exact hl k h
    · exact (mem_sub R _ j h).1
  rcases List.mem_append.1 h with h | h
  · exact hs _ (fun i hi => by simp [rootsL] at hi; exact hi.1) h
  · exact hs _ (fun i hi => by simp [orphL] at hi; exact hi.1) h
theorem all_perm (R : List Spn) : (allI R).Perm (List.range R.length) := by
  rw [List.perm_iff_count]
  intro a
  by_cases h : a < R.length
  · rw [all_one R h, List.nodup_range.count, if_pos (List.mem_range.2 h)]
  · rw [List.count_eq_zero.2 (fun hm => h (all_lt R hm)), List.count_eq_zero.2 (fun hm => h (List.mem_range.1 hm))]
theorem map_nth (R : List Spn) : (List.range R.length).map (nth R) = R := by
  apply List.ext_getElem?
  intro k
  by_cases hk : k < R.length
  · rw [List.getElem?_map, List.getElem?_range hk, Option.map_some, nth_get hk]
  · rw [List.getElem?_eq_none (by simpa using hk), List.getElem?_eq_none (by simpa using hk)]
/-- THE STAGE'S THEOREM: in its tree is each span that counts, once, and no other one. -/
theorem flat_perm (R : List Spn) : ((rootsF R).flat ++ (orphF R).flat).Perm R := by
  rw [all_flat]
  have := (all_perm R).map (nth R)
  rwa [map_nth] at this
theorem flat_size (R : List Spn) : (rootsF R).flat.length + (orphF R).flat.length = R.length := by
  have := (flat_perm R).length_eq
  rwa [List.length_append] at this
def cntB (L : List Spn) (i : Nat) : Bool := (List.range i).all (fun k => (nth L k).id != (nth L i).id)
theorem cntB_iff {L : List Spn} {i : Nat} : cntB L i = true ↔ ∀ k, k < i → (nth L k).id ≠ (nth L i).id := by
  simp [cntB]
theorem insS_new : ∀ (l : List Spn) (s : Spn), (∀ x ∈ l, x.id ≠ s.id) → (insS l s).length = l.length + 1 ∧ s ∈ insS l s
  | [], s, _ => ⟨rfl, by simp [insS]⟩
  | x :: t, s, h => by
    unfold insS
    split
    · have := insS_new t s (fun y hy => h y (by simp [hy]))
      exact ⟨by simp [this.1], by simp [this.2]⟩
    · rw [if_neg (h x (by simp))]; exact ⟨rfl, by simp⟩
theorem insS_old : ∀ (l : List Spn) (s : Spn), Rise l → (∃ x ∈ l, x.id = s.id) → (insS l s).length = l.length
  | [], s, _, h => by obtain ⟨x, hx, _⟩ := h; cases hx
  | x :: t, s, hr, h => by
    have a1 := List.pairwise_cons.1 hr
    unfold insS
    split
    · rename_i hlt
      have := insS_old t s a1.2 (by
        obtain ⟨y, hy, e⟩ := h
        rcases List.mem_cons.1 hy with f | f
        · subst f; omega
        · exact ⟨y, f, e⟩)
      simp [this]
    · split
      · rfl
      · rename_i h1 h2
        obtain ⟨y, hy, e⟩ := h
        rcases List.mem_cons.1 hy with f | f
        · subst f; exact absurd e h2
        · have := a1.1 y f; omega
theorem cntN_step {L : List Spn} {i : Nat} : (cntN L (i + 1)).length = (cntN L i).length + (if cntB L i then 1 else 0) ∧ (cntB L i = true → nth L i ∈ cntN L (i + 1)) := by
  have hc := cntN_cnt L i
  cases h : cntB L i with
  | true =>
    have h1 := cntB_iff.1 h
    have := insS_new (cntN L i) (nth L i) (fun x hx => by
      obtain ⟨t, ht, e, _⟩ := hc.first x hx
      rw [e]; exact h1 t ht)
    exact ⟨by rw [cntN, this.1]; simp, fun _ => this.2⟩
  | false =>
    have h1 : ∃ k, k < i ∧ (nth L k).id = (nth L i).id := by
      refine Classical.byContradiction fun hn => ?_
      have : cntB L i = true := cntB_iff.2 (fun k hk e => hn ⟨k, hk, e⟩)
      rw [h] at this; cases this
    obtain ⟨k, hk, e⟩ := h1
    obtain ⟨x, hx, e2⟩ := hc.all k hk
    exact ⟨by rw [cntN, insS_old _ _ hc.rise ⟨x, hx, e2.trans e⟩]; simp, fun h => by cases h⟩
theorem cntN_sub {L : List Spn} {i : Nat} {x : Spn} (h : x ∈ cntN L i) : ∀ j, i ≤ j → x ∈ cntN L j
  | 0, hj => by obtain rfl : i = 0 := by omega
                exact h
  | j + 1, hj => by
    by_cases e : i = j + 1
    · subst e; exact h
    · rw [cntN]; exact insS_sub _ _ (cntN_sub h j (by omega))
end Go.Proofs.Ytjidldbolbjdpaa
