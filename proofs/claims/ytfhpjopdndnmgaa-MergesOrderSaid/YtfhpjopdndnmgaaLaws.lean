/- What a merge is, and what its newest are: plain laws on lists. -/
import Derived.Test.YtfhpjopdndnmgaaNewest
namespace Go.Proofs.Ytfhpjopdndnmgaa
open Go.RowKit

def Strict (A : List Cel) : Prop := A.Pairwise (fun a b => cmpC a b < 0)
def Weak (A : List Cel) : Prop := A.Pairwise (fun a b => cmpC a b ≤ 0)
theorem Strict.weak {A : List Cel} (h : Strict A) : Weak A := List.Pairwise.imp (fun h => Int.le_of_lt h) h
theorem nth_elem {α : Type} [Inhabited α] {l : List α} {i : Nat} (h : i < l.length) : nth l i = l[i] := by
  have h1 := nth_get l h
  rw [List.getElem?_eq_getElem h] at h1
  exact (Option.some.inj h1).symm
theorem cmpC_self (a : Cel) : cmpC a a = 0 := (cmpC_zero a a).2 ⟨rfl, rfl⟩

theorem sorted_iff (A : List Cel) : sortedB A = true ↔ (∀ c ∈ A, mayC c = true) ∧ Strict A := by
  rw [sortedB_true]
  constructor
  · intro h
    refine ⟨fun c hc => ?_, ?_⟩
    · obtain ⟨i, hi, rfl⟩ := List.getElem_of_mem hc
      have h1 := h i hi
      unfold goodAt at h1
      simp only [Bool.and_eq_true] at h1
      have e : nth A i = A[i] := by simp [nth, hi]
      rw [e] at h1; exact h1.1
    · have step : ∀ k, k + 1 < A.length → cmpC (nth A k) (nth A (k + 1)) < 0 := by
        intro k hk
        have h1 := h (k + 1) hk
        unfold goodAt at h1
        simp only [Bool.and_eq_true, Bool.or_eq_true, decide_eq_true_eq, Nat.add_sub_cancel] at h1
        rcases h1.2 with h2 | h2
        · omega
        · exact (aheadC_iff _ _).1 h2
      have all : ∀ d i, i + d + 1 < A.length → cmpC (nth A i) (nth A (i + d + 1)) < 0 := by
        intro d
        induction d with
        | zero => intro i hi; exact step i hi
        | succ d ih =>
          intro i hi
          have h1 := ih i (by omega)
          have h2 := step (i + d + 1) (by omega)
          rw [show i + (d + 1) + 1 = i + d + 1 + 1 by omega]
          exact cmpC_is.lt_le h1 (Int.le_of_lt h2)
      unfold Strict
      rw [List.pairwise_iff_getElem]
      intro i j hi hj hij
      have h1 := all (j - i - 1) i (by omega)
      rw [show i + (j - i - 1) + 1 = j by omega] at h1
      simpa [nth, hi, hj] using h1
  · rintro ⟨h1, h2⟩ k hk
    unfold goodAt
    have e : nth A k = A[k] := by simp [nth, hk]
    rw [e, h1 _ (List.getElem_mem hk)]
    simp only [Bool.true_and, Bool.or_eq_true, decide_eq_true_eq]
    by_cases h0 : k = 0
    · exact .inl h0
    · right
      rw [aheadC_iff]
      have h3 := (List.pairwise_iff_getElem.1 h2) (k - 1) k (by omega) hk (by omega)
      have e2 : nth A (k - 1) = A[k - 1] := by simp [nth, show k - 1 < A.length by omega]
      rw [e2]; exact h3

/-- Sorted lists of the same cells are the same. -/
theorem weak_unique : ∀ (A B : List Cel), Strict A → Weak B → A.Perm B → A = B
  | [], B, _, _, h => (List.nil_perm.1 h).symm
  | a :: A, [], _, _, h => absurd h.length_eq (by simp)
  | a :: A, b :: B, hA, hB, h => by
    have ha := List.pairwise_cons.1 hA
    have hb := List.pairwise_cons.1 hB
    by_cases e : a = b
    · subst e
      rw [weak_unique A B ha.2 hb.2 ((List.perm_cons a).1 h)]
    · have h1 : a ∈ B := by
        rcases List.mem_cons.1 (h.mem_iff.1 (List.mem_cons_self)) with h1 | h1
        · exact absurd h1 e
        · exact h1
      have h2 : b ∈ A := by
        rcases List.mem_cons.1 (h.mem_iff.2 (List.mem_cons_self)) with h1 | h1
        · exact absurd h1.symm e
        · exact h1
      have h3 := ha.1 b h2
      have h4 := hb.1 a h1
      have := (cmpC_is.anti a b).1 h3
      omega
theorem strict_unique : ∀ (A B : List Cel), Strict A → Strict B → (∀ x, x ∈ A ↔ x ∈ B) → A = B
  | [], [], _, _, _ => rfl
  | [], b :: B, _, _, h => by have := (h b).2 (by simp); cases this
  | a :: A, [], _, _, h => by have := (h a).1 (by simp); cases this
  | a :: A, b :: B, hA, hB, h => by
    have ha := List.pairwise_cons.1 hA
    have hb := List.pairwise_cons.1 hB
    have e : a = b := by
      have h1 := (h a).1 (List.mem_cons_self)
      have h2 := (h b).2 (List.mem_cons_self)
      rcases List.mem_cons.1 h1 with h1 | h1
      · exact h1
      · rcases List.mem_cons.1 h2 with h2 | h2
        · exact h2.symm
        · have h3 := ha.1 b h2
          have h4 := hb.1 a h1
          have := (cmpC_is.anti a b).1 h3
          omega
    subst e
    have e2 := strict_unique A B ha.2 hb.2 (fun x => by
      constructor
      · intro hx
        rcases List.mem_cons.1 ((h x).1 (List.mem_cons_of_mem _ hx)) with e | e
        · subst e; have := ha.1 x hx; rw [cmpC_self] at this; omega
        · exact e
      · intro hx
        rcases List.mem_cons.1 ((h x).2 (List.mem_cons_of_mem _ hx)) with e | e
        · subst e; have := hb.1 x hx; rw [cmpC_self] at this; omega
        · exact e)
    rw [e2]

theorem best_some_of {rs : List (List Cel)} {n : Nat} (h : total rs = n + 1) : ∃ i, bestUp rs rs.length = some i := by
  cases hb : bestUp rs rs.length with
  | some i => exact ⟨i, rfl⟩
  | none =>
    have h0 := best_none rs _ hb
    have : ∀ (rs : List (List Cel)), (∀ j, j < rs.length → (nth rs j).length = 0) → total rs = 0 := by
      intro rs
      induction rs with
      | nil => intro _; rfl
      | cons r t ih =>
        intro hz
        have h1 := hz 0 (by simp)
        have h2 := ih (fun j hj => by have := hz (j + 1) (by simpa using hj); simpa [nth] using this)
        simp [nth] at h1
        simp [total] at h2 ⊢
        simp [h1]; exact h2
    rw [this rs h0] at h; omega
theorem mem_flat {rs : List (List Cel)} {x : Cel} : x ∈ rs.flatten ↔ ∃ R ∈ rs, x ∈ R := List.mem_flatten
theorem step_perm {rs : List (List Cel)} {i : Nat} (hi : i < rs.length) (hp : 0 < (nth rs i).length) : (hdR rs i :: (rs.set i (nth rs i).tail).flatten).Perm rs.flatten := by
  have h1 := set_eq_take_drop rs i (nth rs i).tail hi
  have h2 := nth_split hi
  have h3 : nth rs i = hdR rs i :: (nth rs i).tail := by
    unfold hdR
    cases h : nth rs i with
    | nil => rw [h] at hp; simp at hp
    | cons c t => simp [nth]
  rw [h1]
  conv => rhs; rw [h2, h3]
  simp only [List.flatten_append, List.flatten_cons, List.cons_append]
  exact List.perm_middle.symm
theorem total_step {rs : List (List Cel)} {i : Nat} (hi : i < rs.length) (hp : 0 < (nth rs i).length) : total (rs.set i (nth rs i).tail) + 1 = total rs := by
  have h := (step_perm hi hp).length_eq
  rw [List.length_cons, List.length_flatten, List.length_flatten] at h
  exact h
theorem mergeF_perm : ∀ (n : Nat) (rs : List (List Cel)), total rs = n → (mergeF n rs).Perm rs.flatten
  | 0, rs, h => by
    have : rs.flatten = [] := by
      apply List.eq_nil_of_length_eq_zero
      rw [List.length_flatten]; exact h
    rw [this, mergeF]
  | n + 1, rs, h => by
    obtain ⟨i, hb⟩ := best_some_of h
    obtain ⟨h1, h2, _⟩ := best_some rs _ i hb
    have h3 := total_step h1 h2
    rw [mergeF, hb]
    exact ((mergeF_perm n _ (by omega)).cons _).trans (step_perm h1 h2)
theorem merge_perm (L : List (List Cel)) : (mergeL L).Perm L.flatten := mergeF_perm _ _ rfl

theorem mem_set_tail {rs : List (List Cel)} {i : Nat} {R : List Cel} (h : R ∈ rs.set i (nth rs i).tail) : R ∈ rs ∨ R = (nth rs i).tail := List.mem_or_eq_of_mem_set h
theorem mergeF_weak : ∀ (n : Nat) (rs : List (List Cel)), total rs = n → (∀ R ∈ rs, Weak R) → Weak (mergeF n rs)
  | 0, _, _, _ => List.Pairwise.nil
  | n + 1, rs, h, hw => by
    obtain ⟨i, hb⟩ := best_some_of h
    obtain ⟨h1, h2, h3⟩ := best_some rs _ i hb
    have h4 := total_step h1 h2
    have hmi := nth_mem h1
    have hwt : ∀ R ∈ rs.set i (nth rs i).tail, Weak R := by
      intro R hR
      rcases mem_set_tail hR with h | rfl
      · exact hw R h
      · exact List.Pairwise.sublist (List.tail_sublist _) (hw _ hmi)
    have ih := mergeF_weak n _ (by omega) hwt
    have hle : ∀ x ∈ rs.flatten, cmpC (hdR rs i) x ≤ 0 := by
      intro x hx
      obtain ⟨R, hR, hxR⟩ := mem_flat.1 hx
      obtain ⟨j, hj, rfl⟩ := List.getElem_of_mem hR
      have ej : nth rs j = rs[j] := by simp [nth, hj]
      have hhd : cmpC (hdR rs i) (hdR rs j) ≤ 0 := by
        by_cases e : j = i
        · subst e; rw [cmpC_self]; exact Int.le_refl _
        · have h5 := h3 j hj e (by rw [ej]; exact List.length_pos_of_mem hxR)
          unfold front or2 at h5
          split at h5 <;> omega
      have hx2 : cmpC (hdR rs j) x ≤ 0 := by
        unfold hdR
        rw [ej]
        cases hr : rs[j] with
        | nil => rw [hr] at hxR; cases hxR
        | cons c t =>
          rw [hr] at hxR
          have hwr := hw _ hR
          rw [hr] at hwr
          have e0 : nth (c :: t) 0 = c := by simp [nth]
          rw [e0]
          rcases List.mem_cons.1 hxR with rfl | hxt
          · rw [cmpC_self]; exact Int.le_refl _
          · exact (List.pairwise_cons.1 hwr).1 x hxt
      exact cmpC_is.tr _ _ _ hhd hx2
    rw [mergeF, hb]
    refine List.pairwise_cons.2 ⟨fun x hx => ?_, ih⟩
    have hx1 := (mergeF_perm n _ (by omega)).mem_iff.1 hx
    exact hle x ((step_perm h1 h2).mem_iff.1 (List.mem_cons_of_mem _ hx1))
theorem merge_weak {L : List (List Cel)} (h : L.all sortedB = true) : Weak (mergeL L) :=
  mergeF_weak _ _ rfl (fun R hR => ((sorted_iff R).1 (List.all_eq_true.1 h R hR)).2.weak)
theorem merge_may {L : List (List Cel)} (h : L.all sortedB = true) : ∀ c ∈ mergeL L, mayC c = true := by
  intro c hc
  obtain ⟨R, hR, hcR⟩ := mem_flat.1 ((merge_perm L).mem_iff.1 hc)
  exact ((sorted_iff R).1 (List.all_eq_true.1 h R hR)).1 c hcR

/-- Of each key the first one: which ones these are. -/
theorem first_facts : ∀ (n : Nat) (X : List Cel), X.length = n → Weak X →
    (firstF X).Sublist X ∧ (∀ y ∈ X, ∃ x ∈ firstF X, x.k = y.k ∧ cmpC x y ≤ 0) ∧ (firstF X).Pairwise (fun a b => cmpS a.k b.k < 0) ∧ (0 < X.length → 0 < (firstF X).length)
  | 0, X, h, _ => by
    have : X = [] := List.eq_nil_of_length_eq_zero h
    subst this
    exact ⟨List.Sublist.refl _, by simp, List.Pairwise.nil, by simp⟩
  | n + 1, X, h, hw => by
    obtain ⟨Y, x, rfl⟩ : ∃ Y x, X = Y ++ [x] := by
      refine ⟨X.dropLast, X.getLast (fun e => by rw [e] at h; simp at h), (List.dropLast_concat_getLast _).symm⟩
    have hYl : Y.length = n := by simpa using h
    have hp := List.pairwise_append.1 hw
    obtain ⟨i1, i2, i3, i4⟩ := first_facts n Y hYl hp.1
    have hle : ∀ a ∈ Y, cmpC a x ≤ 0 := fun a ha => hp.2.2 a ha x (by simp)
    rw [firstF_snoc]
    unfold addF
    by_cases hst : stays (firstF Y) x = true
    · rw [if_pos hst]
      refine ⟨i1.append (List.Sublist.refl _), ?_, ?_, by simp⟩
      · intro y hy
        rcases List.mem_append.1 hy with hy | hy
        · obtain ⟨z, hz, h1, h2⟩ := i2 y hy
          exact ⟨z, List.mem_append_left _ hz, h1, h2⟩
        · have : y = x := by simpa using hy
          subst this
          exact ⟨y, by simp, rfl, by rw [cmpC_self]; exact Int.le_refl _⟩
      · refine List.pairwise_append.2 ⟨i3, by simp, fun a ha b hb => ?_⟩
        have : b = x := by simpa using hb
        subst this
        have hal : 0 < (firstF Y).length := List.length_pos_of_mem ha
        obtain ⟨z, hz⟩ : ∃ z, nth (firstF Y) ((firstF Y).length - 1) = z := ⟨_, rfl⟩
        have hzm : z ∈ firstF Y := by rw [← hz]; exact nth_mem (by omega)
        have hzx : cmpS z.k b.k < 0 := by
          have h1 := hle z (i1.subset hzm)
          have h2 : cmpS z.k b.k ≤ 0 := by unfold cmpC or2 at h1; split at h1 <;> omega
          have h3 : ¬ cmpS z.k b.k = 0 := by
            intro e
            have e2 := (cmpS_zero _ _).1 e
            unfold stays at hst
            rw [hz, (sEq_iff _ _).2 (by rw [e2])] at hst
            simp at hst
            rw [hst] at hal; simp at hal
          omega
        obtain ⟨j, hj, hje⟩ := List.getElem_of_mem ha
        by_cases e : j = (firstF Y).length - 1
        · have : a = z := by rw [← hz, ← hje]; subst e; exact (nth_elem _).symm
          rw [this]; exact hzx
        · have h5 := (List.pairwise_iff_getElem.1 i3) j ((firstF Y).length - 1) hj (by omega) (by omega)
          have e2 : (firstF Y)[(firstF Y).length - 1] = z := by rw [← hz]; exact (nth_elem _).symm
          rw [e2, hje] at h5
          exact (cmpS_is.lt_le h5 (Int.le_of_lt hzx))
    · rw [if_neg hst]
      have hst2 : stays (firstF Y) x = false := by cases h : stays (firstF Y) x with
        | false => rfl
        | true => exact absurd h hst
      unfold stays at hst2
      simp only [Bool.or_eq_false_iff, decide_eq_false_iff_not, Bool.not_eq_false'] at hst2
      obtain ⟨hl0, hk⟩ := hst2
      have hk2 := bytes_eq ((sEq_iff _ _).1 hk)
      obtain ⟨z, hz⟩ : ∃ z, nth (firstF Y) ((firstF Y).length - 1) = z := ⟨_, rfl⟩
      have hzm : z ∈ firstF Y := by rw [← hz]; exact nth_mem (by omega)
      rw [hz] at hk2
      refine ⟨i1.trans (List.sublist_append_left _ _), ?_, i3, fun _ => by omega⟩
      intro y hy
      rcases List.mem_append.1 hy with hy | hy
      · exact i2 y hy
      · have : y = x := by simpa using hy
        subst this
        exact ⟨z, hzm, hk2, hle z (i1.subset hzm)⟩

theorem cmpC_of_key {a b : Cel} (h : cmpS a.k b.k < 0) : cmpC a b < 0 := by unfold cmpC or2; rw [if_neg (by omega)]; exact h
theorem first_strict {X : List Cel} (h : Weak X) : Strict (firstF X) := List.Pairwise.imp (fun h => cmpC_of_key h) (first_facts _ X rfl h).2.2.1
theorem first_key {X : List Cel} (h : Weak X) {a b : Cel} (ha : a ∈ firstF X) (hb : b ∈ firstF X) (hk : a.k = b.k) : a = b := by
  have h3 := (first_facts _ X rfl h).2.2.1
  obtain ⟨i, hi, rfl⟩ := List.getElem_of_mem ha
  obtain ⟨j, hj, rfl⟩ := List.getElem_of_mem hb
  by_cases e : i = j
  · subst e; rfl
  · rcases Nat.lt_or_gt_of_ne e with e | e
    · have := (List.pairwise_iff_getElem.1 h3) i j hi hj e
      rw [hk, (cmpS_zero _ _).2 rfl] at this; omega
    · have := (List.pairwise_iff_getElem.1 h3) j i hj hi e
      rw [hk, (cmpS_zero _ _).2 rfl] at this; omega
theorem first_mem {X : List Cel} (h : Strict X) (x : Cel) : x ∈ firstF X ↔ x ∈ X ∧ ∀ y ∈ X, y.k = x.k → cmpC x y ≤ 0 := by
  obtain ⟨f1, f2, f3, _⟩ := first_facts _ X rfl h.weak
  constructor
  · intro hx
    refine ⟨f1.subset hx, fun y hy hk => ?_⟩
    obtain ⟨z, hz, h1, h2⟩ := f2 y hy
    have : z = x := first_key h.weak hz hx (by rw [h1, hk])
    subst this; exact h2
  · rintro ⟨hx, hall⟩
    obtain ⟨z, hz, h1, h2⟩ := f2 x hx
    have h3 := hall z (f1.subset hz) h1
    have h4 : cmpC z x = 0 := by
      have := (cmpC_is.le x z).1 h3
      omega
    have : z = x := by
      obtain ⟨i, hi, rfl⟩ := List.getElem_of_mem (f1.subset hz)
      obtain ⟨j, hj, rfl⟩ := List.getElem_of_mem hx
      by_cases e : i = j
      · subst e; rfl
      · rcases Nat.lt_or_gt_of_ne e with e | e
        · have := (List.pairwise_iff_getElem.1 h) i j hi hj e; omega
        · have := (List.pairwise_iff_getElem.1 h) j i hj hi e
          have := (cmpC_is.zero _ _).1 h4
          omega
    rw [← this]; exact hz
end Go.Proofs.Ytfhpjopdndnmgaa
