/- The merge by definition, and that the heap's cells come so: plain laws. -/
import Derived.Test.YtfhpjopdndnmgaaCollect
namespace Go.Proofs.Ytfhpjopdndnmgaa
open Go.RowKit

def hdR (rs : List (List Cel)) (i : Nat) : Cel := nth (nth rs i) 0
/-- Which row's first cell comes first, of the first k. -/
def bestUp (rs : List (List Cel)) : Nat → Option Nat
  | 0 => none
  | k + 1 => if 0 < (nth rs k).length then (match bestUp rs k with
    | none => some k
    | some b => if aheadC (hdR rs k) (hdR rs b) = true then some k else some b) else bestUp rs k
def mergeF : Nat → List (List Cel) → List Cel
  | 0, _ => []
  | n + 1, rs => match bestUp rs rs.length with
    | none => []
    | some i => hdR rs i :: mergeF n (rs.set i (nth rs i).tail)
def total (L : List (List Cel)) : Nat := (L.map List.length).sum
def mergeL (L : List (List Cel)) : List Cel := mergeF (total L) L

/-- Row i, at its place, stands ahead of row j. -/
def front (rs : List (List Cel)) (i j : Nat) : Int := or2 (cmpC (hdR rs i) (hdR rs j)) (cmpI i j)

theorem best_none (rs : List (List Cel)) : ∀ k, bestUp rs k = none → ∀ j, j < k → (nth rs j).length = 0
  | 0, _, j, h => by omega
  | k + 1, h, j, hj => by
    rw [bestUp] at h
    split at h
    · split at h
      · cases h
      · split at h <;> cases h
    · rename_i h0
      by_cases e : j = k
      · subst e; omega
      · exact best_none rs k h j (by omega)

theorem best_some (rs : List (List Cel)) : ∀ k i, bestUp rs k = some i → i < k ∧ 0 < (nth rs i).length ∧ ∀ j, j < k → j ≠ i → 0 < (nth rs j).length → front rs i j < 0
  | 0, i, h => by simp [bestUp] at h
  | k + 1, i, h => by
    rw [bestUp] at h
    split at h
    · rename_i hk
      split at h
      · rename_i hn
        cases h
        refine ⟨by omega, hk, fun j hj hji hjp => ?_⟩
        have := best_none rs k hn j (by omega); omega
      · rename_i b hb
        obtain ⟨b1, b2, b3⟩ := best_some rs k b hb
        split at h
        · rename_i ha
          cases h
          have ha' := (aheadC_iff _ _).1 ha
          refine ⟨by omega, hk, fun j hj hji hjp => ?_⟩
          have hlt : cmpC (hdR rs k) (hdR rs j) < 0 := by
            by_cases e : j = b
            · subst e; exact ha'
            · have h3 := b3 j (by omega) e hjp
              have h4 : cmpC (hdR rs b) (hdR rs j) ≤ 0 := by unfold front or2 at h3; split at h3 <;> omega
              exact cmpC_is.lt_le ha' h4
          unfold front or2; rw [if_neg (by omega)]; exact hlt
        · rename_i ha
          cases h
          have ha' : ¬ cmpC (hdR rs k) (hdR rs i) < 0 := fun e => ha ((aheadC_iff _ _).2 e)
          refine ⟨by omega, b2, fun j hj hji hjp => ?_⟩
          by_cases e : j = k
          · subst e
            have h1 : cmpC (hdR rs i) (hdR rs j) ≤ 0 := (cmpC_is.le _ _).2 (by omega)
            unfold front or2
            split
            · unfold cmpI; rw [if_pos (by omega)]; omega
            · omega
          · exact b3 j (by omega) hji hjp
    · rename_i h0
      obtain ⟨b1, b2, b3⟩ := best_some rs k i h
      refine ⟨by omega, b2, fun j hj hji hjp => ?_⟩
      by_cases e : j = k
      · subst e; omega
      · exact b3 j (by omega) hji hjp

theorem aliveF_mid : ∀ (k : Nat) (A : List (List Cel)) (x : List Cel) (B : List (List Cel)), aliveF k (A ++ x :: B) = aliveF k A ++ ((if x.length = 0 then [] else [(k + A.length, x)]) ++ aliveF (k + A.length + 1) B)
  | k, [], x, B => by simp only [List.nil_append, aliveF]; split <;> simp
  | k, y :: A, x, B => by
    have h := aliveF_mid (k + 1) A x B
    simp only [List.cons_append, aliveF, h, List.length_cons]
    have e1 : k + 1 + A.length = k + (A.length + 1) := by omega
    rw [e1]
    split <;> simp
theorem alive_mem : ∀ (k : Nat) (L : List (List Cel)) (i : Nat) (x : List Cel), (i, x) ∈ aliveF k L ↔ k ≤ i ∧ i < k + L.length ∧ nth L (i - k) = x ∧ 0 < x.length
  | k, [], i, x => by simp [aliveF]; omega
  | k, y :: t, i, x => by
    have h := alive_mem (k + 1) t i x
    have hn : ∀ j, nth (y :: t) (j + 1) = nth t j := fun j => by simp [nth]
    have h0 : nth (y :: t) 0 = y := by simp [nth]
    simp only [aliveF]
    split
    · rename_i hy
      rw [h]
      constructor
      · rintro ⟨a, b, c, d⟩
        refine ⟨by omega, by simp only [List.length_cons]; omega, ?_, d⟩
        rw [show i - k = (i - (k + 1)) + 1 by omega, hn]; exact c
      · rintro ⟨a, b, c, d⟩
        simp only [List.length_cons] at b
        by_cases e : i = k
        · subst e; rw [Nat.sub_self, h0] at c; subst c; omega
        · rw [show i - k = (i - (k + 1)) + 1 by omega, hn] at c
          exact ⟨by omega, by omega, c, d⟩
    · rename_i hy
      rw [List.mem_cons, h]
      constructor
      · rintro (e | ⟨a, b, c, d⟩)
        · simp only [Prod.mk.injEq] at e
          obtain ⟨rfl, rfl⟩ := e
          exact ⟨Nat.le_refl _, by simp, by rw [Nat.sub_self, h0], by omega⟩
        · refine ⟨by omega, by simp only [List.length_cons]; omega, ?_, d⟩
          rw [show i - k = (i - (k + 1)) + 1 by omega, hn]; exact c
      · rintro ⟨a, b, c, d⟩
        simp only [List.length_cons] at b
        by_cases e : i = k
        · left; subst e; rw [Nat.sub_self, h0] at c; rw [c]
        · right
          rw [show i - k = (i - (k + 1)) + 1 by omega, hn] at c
          exact ⟨by omega, by omega, c, d⟩

theorem nth_split {L : List (List Cel)} {i : Nat} (h : i < L.length) : L = L.take i ++ nth L i :: L.drop (i + 1) := by
  have : nth L i = L[i] := by simp [nth, h]
  rw [this, List.getElem_cons_drop]; simp

theorem total_perm (l : List Rw) (rs : List (List Cel)) (h : (l.map Rw.key).Perm (aliveF 0 rs)) : sumL l = total rs := by
  have h1 : sumL l = ((l.map Rw.key).map (fun q => q.2.length)).sum := by unfold sumL; rw [List.map_map]; rfl
  rw [h1, (h.map _).sum_nat]
  have : ∀ (k : Nat) (rs : List (List Cel)), ((aliveF k rs).map (fun q => q.2.length)).sum = (rs.map List.length).sum := by
    intro k rs
    induction rs generalizing k with
    | nil => rfl
    | cons y t ih =>
      simp only [aliveF]
      split
      · rename_i hy; rw [ih, List.map_cons, List.sum_cons, hy]; omega
      · rw [List.map_cons, List.sum_cons, ih, List.map_cons, List.sum_cons]
  exact this 0 rs

/-- The heap's least row is the one that the definition picks. -/
theorem root_best {l : List Rw} {rs : List (List Cel)} (hh : Heap ltR l.length l) (hp : (l.map Rw.key).Perm (aliveF 0 rs)) (hl : 0 < l.length) :
    bestUp rs rs.length = some (nth l 0).place ∧ nth rs (nth l 0).place = (nth l 0).xs ∧ (nth l 0).place < rs.length := by
  have hroot := heap_root ltR ltR_ord hh
  have hm : ((nth l 0).place, (nth l 0).xs) ∈ aliveF 0 rs := hp.mem_iff.1 (List.mem_map.2 ⟨nth l 0, nth_mem hl, rfl⟩)
  obtain ⟨_, m2, m3, m4⟩ := (alive_mem 0 rs _ _).1 hm
  simp only [Nat.zero_add, Nat.sub_zero] at m2 m3
  refine ⟨?_, m3, m2⟩
  cases hb : bestUp rs rs.length with
  | none => have := best_none rs _ hb _ m2; rw [m3] at this; omega
  | some i =>
    obtain ⟨b1, b2, b3⟩ := best_some rs _ i hb
    by_cases e : (nth l 0).place = i
    · rw [e]
    · have hmi : (i, nth rs i) ∈ l.map Rw.key := hp.mem_iff.2 ((alive_mem 0 rs _ _).2 ⟨Nat.zero_le _, by omega, by simp, b2⟩)
      obtain ⟨x, hx, hxk⟩ := List.mem_map.1 hmi
      have hx1 : x.place = i := congrArg Prod.fst hxk
      have hx2 : x.xs = nth rs i := congrArg Prod.snd hxk
      obtain ⟨k, hk, hxe⟩ := List.getElem_of_mem hx
      have h1 := hroot k hk
      have hnk : nth l k = x := by simp [nth, hk, hxe]
      rw [hnk, ltR_false] at h1
      have h2 := b3 _ m2 e (by rw [m3]; exact m4)
      have h3 : cmpR x (nth l 0) = front rs i (nth l 0).place := by
        unfold cmpR front hdR; rw [hx1, hx2, m3]
      omega

theorem drain_merge : ∀ (n : Nat) (l : List Rw) (rs : List (List Cel)), Heap ltR l.length l → (∀ r ∈ l, 0 < r.xs.length) → (l.map Rw.key).Perm (aliveF 0 rs) → drainL n l = mergeF n rs
  | 0, _, _, _, _, _ => rfl
  | n + 1, l, rs, hh, hpos, hp => by
    rw [drainL, mergeF]
    by_cases hl : l.length = 0
    · rw [if_pos hl]
      have hnil : aliveF 0 rs = [] := by
        have := hp.length_eq
        rw [List.length_map, hl] at this
        exact List.eq_nil_of_length_eq_zero this.symm
      cases hb : bestUp rs rs.length with
      | none => rfl
      | some i =>
        obtain ⟨b1, b2, _⟩ := best_some rs _ i hb
        have : (i, nth rs i) ∈ aliveF 0 rs := (alive_mem 0 rs _ _).2 ⟨Nat.zero_le _, by omega, by simp, b2⟩
        rw [hnil] at this; cases this
    · rw [if_neg hl]
      have hl0 : 0 < l.length := by omega
      have hne : l ≠ [] := fun e => by rw [e] at hl; simp at hl
      obtain ⟨r1, r2, r3⟩ := root_best hh hp hl0
      rw [r1]
      show _ = hdR rs (nth l 0).place :: _
      have e1 : hdR rs (nth l 0).place = nth (nth l 0).xs 0 := by unfold hdR; rw [r2]
      rw [e1, r2]
      obtain ⟨i, hi⟩ : ∃ i, (nth l 0).place = i := ⟨_, rfl⟩
      have hpop := pop_perm ltR hne
      have hphp := pop_heap ltR ltR_ord hne hh
      have h0 : 0 < (nth l 0).xs.length := hpos _ (nth_mem hl0)
      rw [hi] at r1 r2 r3 ⊢
      -- what is left beside the least row
      have hsplit := nth_split r3
      have hal : aliveF 0 rs = aliveF 0 (rs.take i) ++ ([(i, (nth l 0).xs)] ++ aliveF (i + 1) (rs.drop (i + 1))) := by
        conv => lhs; rw [hsplit, aliveF_mid]
        rw [r2, if_neg (by omega), List.length_take, Nat.min_eq_left (by omega), Nat.zero_add]
      have hrest : ((popL ltR l).map Rw.key).Perm (aliveF 0 (rs.take i) ++ aliveF (i + 1) (rs.drop (i + 1))) := by
        have q1 := (hpop.map Rw.key).trans hp
        rw [hal] at q1
        have e2 : Rw.key (nth l 0) = (i, (nth l 0).xs) := by unfold Rw.key; rw [hi]
        rw [List.map_cons, e2] at q1
        exact (List.perm_cons _).1 (q1.trans List.perm_middle)
      have hset : rs.set i (nth l 0).xs.tail = rs.take i ++ (nth l 0).xs.tail :: rs.drop (i + 1) := set_eq_take_drop rs i _ r3
      have hals : aliveF 0 (rs.set i (nth l 0).xs.tail) = aliveF 0 (rs.take i) ++ ((if (nth l 0).xs.tail.length = 0 then [] else [(i, (nth l 0).xs.tail)]) ++ aliveF (i + 1) (rs.drop (i + 1))) := by
        rw [hset, aliveF_mid, List.length_take, Nat.min_eq_left (by omega), Nat.zero_add]
      congr 1
      refine drain_merge n (nextL l) _ ?_ ?_ ?_
      · unfold nextL
        split
        · exact push_heap ltR ltR_ord _ hphp
        · exact hphp
      · intro x hx
        unfold nextL at hx
        split at hx
        · rename_i h1
          rcases List.mem_cons.1 ((push_perm ltR _ _).mem_iff.1 hx) with rfl | hx
          · show 0 < (nth l 0).xs.tail.length; rw [List.length_tail]; omega
          · exact hpos x (hpop.mem_iff.1 (List.mem_cons_of_mem _ hx))
        · exact hpos x (hpop.mem_iff.1 (List.mem_cons_of_mem _ hx))
      · rw [hals]
        unfold nextL
        split
        · rename_i h1
          rw [if_neg (by rw [List.length_tail]; omega)]
          have q1 := (push_perm ltR (popL ltR l) (nth l 0).tl).map Rw.key
          have e2 : Rw.key (nth l 0).tl = (i, (nth l 0).xs.tail) := by show ((nth l 0).place, (nth l 0).xs.tail) = _; rw [hi]
          rw [List.map_cons, e2] at q1
          exact q1.trans ((hrest.cons _).trans (by simpa using List.perm_middle.symm))
        · rename_i h1
          rw [if_pos (by rw [List.length_tail]; omega), List.nil_append]
          exact hrest
end Go.Proofs.Ytfhpjopdndnmgaa
