/- TRotate, TPlain, TSymp, TStabp -/
import Derived.Test.YtibakmchgppndaaP3
/- slices.rotateCmpFunc over spans. -/
namespace Go.Proofs.Ytibakmchgppndaa
open Go.RowKit

/-- Rotates, block by block: i are left ahead of m, j from m on. -/
def rotF (m i j : Nat) (L : List Spn) : List Spn :=
 if _h : 0 < i ∧ 0 < j ∧ i ≠ j then (if j < i then rotF m (i - j) j (srF (m - i) m j 0 L) else rotF m i (j - i) (srF (m - i) (m + j - i) i 0 L)) else srF (m - i) m i 0 L
termination_by i + j
decreasing_by all_goals omega
theorem rotF_length (m : Nat) : ∀ (s i j : Nat) (L : List Spn), i + j = s → (rotF m i j L).length = L.length := by
 intro s
 induction s using Nat.strongRecOn with
 | _ s ih =>
  intro i j L h
  unfold rotF
  split
  ·split
   ·rw [ih (i - j + j) (by omega) _ _ _ rfl, srF_length _ _ _ _ _ _ rfl]
   ·rw [ih (i + (j - i)) (by omega) _ _ _ rfl, srF_length _ _ _ _ _ _ rfl]
  ·rw [srF_length _ _ _ _ _ _ rfl]

set_option maxHeartbeats 8000000 in
set_option maxRecDepth 100000 in
theorem rotate_any {w : World} {base g n cap : Nat} {L : List Spn} (f : Value) (a m b : Nat) (ho : w.ownsRow base 37 8 (.slice (some ⟨g, 0, none⟩) n cap) n (cellsS L)) (hl : L.length = n) (ham : a < m) (hmb : m < b) (hb : b ≤ n) (hn : n ≤ 1000) :
  Calls Try.prog 94 #[.slice (some ⟨g, 0, none⟩) n cap, .int .i64 a, .int .i64 m, .int .i64 b, f] w fun e w' => e = .returned (.tuple #[]) ∧ w'.ownsRow base 37 8 (.slice (some ⟨g, 0, none⟩) n cap) n (cellsS (rotF m (m - a) (b - m) L)) ∧ Kept (fun k => k = g) w w' := by
 have HO0 := Lib.hid ho
 obtain ⟨i0, hi0⟩ : ∃ i, m - a = i := ⟨_, rfl⟩
 obtain ⟨j0, hj0⟩ : ∃ j, b - m = j := ⟨_, rfl⟩
 have e1 : IntKind.i64.wrap ((m : Int) - (a : Int)) = (i0 : Int) := by rw [show (m : Int) - (a : Int) = (i0 : Int) by omega]; exact IntWalk.i64_in _ (by omega)
 have e2 : IntKind.i64.wrap ((b : Int) - (m : Int)) = (j0 : Int) := by rw [show (b : Int) - (m : Int) = (j0 : Int) by omega]; exact IntWalk.i64_in _ (by omega)
 have hi1 : i0 ≤ m := by omega
 have hj1 : m + j0 ≤ n := by omega
 have hip : 0 < i0 := by omega
 have hjp : 0 < j0 := by omega
 rw [hi0, hj0]
 clear ho hi0 hj0
 go_enter Try.func94, Try.ntmps94
 go_wp2
 clear e1 e2
 go_loopg [10, 11] (i0 + j0) (fun gh s t wr => ∃ (i j : Nat) (L1 : List Spn), i + j ≤ gh ∧ 0 < i ∧ 0 < j ∧ i ≤ m ∧ m + j ≤ n ∧ s = .int .i64 i ∧ t = .int .i64 j ∧ L1.length = n ∧ wr.ownsRow base 37 8 (.slice (some ⟨g, 0, none⟩) n cap) n (cellsS L1) ∧ rotF m i j L1 = rotF m i0 j0 L ∧ Kept (fun k => k = g) w wr)
 case atStart => exact ⟨i0, j0, L, by omega, hip, hjp, hi1, hj1, rfl, rfl, hl, HO0.out, rfl, Kept.refl _ _⟩
 case round =>
  obtain ⟨i, j, L1, hg, hi, hj, him, hjn, rfl, rfl, hl1, ho1, ht1, k1⟩ := hrel
  have HG := Lib.hid hg
  have HO1 := Lib.hid ho1; have HT1 := Lib.hid ht1; have K1 := Lib.hid k1
  clear ho1 ht1 k1 hg
  obtain ⟨p, hp⟩ : ∃ p, m - i = p := ⟨_, rfl⟩
  have e3 : IntKind.i64.wrap ((m : Int) - (i : Int)) = (p : Int) := by rw [show (m : Int) - (i : Int) = (p : Int) by omega]; exact IntWalk.i64_in _ (by omega)
  have HP := Lib.hid hp
  clear hp
  by_cases hij : i = j
  ·subst hij
   have hq : ((i : Int) == (i : Int)) = true := by simp
   have hend : rotF m i i L1 = srF p m i 0 L1 := by rw [rotF, dif_neg (by omega), HP.out]
   have EN := Lib.hid (hend.symm.trans HT1.out)
   clear hend
   go_wp2_with fail
   refine (swaprange_any f p m i HO1.out hl1 (by have := HP.out; omega) hjn hn).mono ?_
   rintro e w5 ⟨rfl, o5, k5⟩
   have O5 := Lib.hid o5; have K5 := Lib.hid (K1.out.trans k5 (fun _ _ h => h) (fun _ _ h => h) : Kept (fun k => k = g) w w5)
   clear o5 k5
   go_wp2
   go_end0
   exact ⟨rfl, by rw [← EN.out]; exact O5.out, K5.out⟩
  ·have hq : ¬ (i : Int) = (j : Int) := by omega
   by_cases hlt : j < i
   ·have e5 : (j : Int) < (i : Int) := by omega
    obtain ⟨r, hr⟩ : ∃ r, i - j = r := ⟨_, rfl⟩
    have e6 : IntKind.i64.wrap ((i : Int) - (j : Int)) = (r : Int) := by rw [show (i : Int) - (j : Int) = (r : Int) by omega]; exact IntWalk.i64_in _ (by omega)
    have hstep : rotF m i j L1 = rotF m r j (srF p m j 0 L1) := by rw [rotF, dif_pos ⟨hi, hj, hij⟩, if_pos hlt, HP.out, hr]
    have ST := Lib.hid (hstep.symm.trans HT1.out)
    have RR := Lib.hid hr
    clear hstep hr
    go_wp2_with fail
    refine (swaprange_any f p m j HO1.out hl1 (by have := HP.out; omega) hjn hn).mono ?_
    rintro e w5 ⟨rfl, o5, k5⟩
    have O5 := Lib.hid o5; have K5 := Lib.hid (K1.out.trans k5 (fun _ _ h => h) (fun _ _ h => h) : Kept (fun k => k = g) w w5)
    clear o5 k5
    go_wp2
    go_roundg (gk - 1)
    case measure => have := HG.out; omega
    case rel => exact ⟨r, j, srF p m j 0 L1, by have := HG.out; have := RR.out; omega, by have := RR.out; omega, hj, by have := RR.out; omega, hjn, by go_num, rfl, by rw [srF_length _ _ _ _ _ _ rfl]; exact hl1, O5.out, ST.out, K5.out⟩
   ·have e5 : ¬ (j : Int) < (i : Int) := by omega
    obtain ⟨r, hr⟩ : ∃ r, j - i = r := ⟨_, rfl⟩
    obtain ⟨q, hq2⟩ : ∃ q, m + j - i = q := ⟨_, rfl⟩
    obtain ⟨u, hu⟩ : ∃ u, m + j = u := ⟨_, rfl⟩
    have e6 : IntKind.i64.wrap ((j : Int) - (i : Int)) = (r : Int) := by rw [show (j : Int) - (i : Int) = (r : Int) by omega]; exact IntWalk.i64_in _ (by omega)
    have e7 : IntKind.i64.wrap ((m : Int) + (j : Int)) = (u : Int) := by rw [show (m : Int) + (j : Int) = (u : Int) by omega]; exact IntWalk.i64_in _ (by omega)
    have e8 : IntKind.i64.wrap ((u : Int) - (i : Int)) = (q : Int) := by rw [show (u : Int) - (i : Int) = (q : Int) by omega]; exact IntWalk.i64_in _ (by omega)
    have hstep : rotF m i j L1 = rotF m i r (srF p q i 0 L1) := by rw [rotF, dif_pos ⟨hi, hj, hij⟩, if_neg hlt, HP.out, hr, hq2]
    have ST := Lib.hid (hstep.symm.trans HT1.out)
    have RR := Lib.hid hr; have QQ := Lib.hid hq2
    clear hstep hr hq2 hu
    go_wp2_with fail
    refine (swaprange_any f p q i HO1.out hl1 (by have := HP.out; omega) (by have := QQ.out; omega) hn).mono ?_
    rintro e w5 ⟨rfl, o5, k5⟩
    have O5 := Lib.hid o5; have K5 := Lib.hid (K1.out.trans k5 (fun _ _ h => h) (fun _ _ h => h) : Kept (fun k => k = g) w w5)
    clear o5 k5
    go_wp2
    go_roundg (gk - 1)
    case measure => have := HG.out; omega
    case rel => exact ⟨i, r, srF p q i 0 L1, by have := HG.out; have := RR.out; omega, hi, by have := RR.out; omega, him, by have := RR.out; omega, rfl, by go_num, by rw [srF_length _ _ _ _ _ _ rfl]; exact hl1, O5.out, ST.out, K5.out⟩
end Go.Proofs.Ytibakmchgppndaa
/- Plain laws on the pieces of a stable sort: what a rotation does, what keeps the order of those of one ID. Nothing of the program is run here. -/
namespace Go.Proofs.Ytibakmchgppndaa

theorem srF_nth (a b m : Nat) (hab : a + m ≤ b) : ∀ (n k : Nat) (L : List Spn), m - k = n → b + m ≤ L.length → ∀ t,
  nth (srF a b m k L) t = if a + k ≤ t ∧ t < a + m then nth L (t - a + b) else if b + k ≤ t ∧ t < b + m then nth L (t - b + a) else nth L t
 | 0, k, L, h, hl, t => by
  unfold srF
  rw [dif_neg (by omega)]
  rw [if_neg (by omega), if_neg (by omega)]
 | n + 1, k, L, h, hl, t => by
  unfold srF
  rw [dif_pos (by omega), srF_nth a b m hab n (k + 1) _ (by omega) (by simpa using hl)]
  have hi : a + k < L.length := by omega
  have hj : b + k < L.length := by omega
  simp only [nth_swap L hi hj]
  by_cases h1 : t = a + k
  ·subst h1
   rw [if_neg (by omega), if_neg (by omega), if_neg (by omega), if_pos rfl, if_pos (by omega)]
   congr 1; omega
  ·by_cases h2 : t = b + k
   ·subst h2
    rw [if_neg (by omega), if_neg (by omega), if_pos rfl, if_neg (by omega), if_pos (by omega)]
    congr 1; omega
   ·by_cases h3 : a + k ≤ t ∧ t < a + m
    ·rw [if_pos (by omega), if_pos h3, if_neg (by omega), if_neg (by omega)]
    ·rw [if_neg (by omega), if_neg h3]
     by_cases h4 : b + k ≤ t ∧ t < b + m
     ·rw [if_pos (by omega), if_pos h4, if_neg (by omega), if_neg (by omega)]
     ·rw [if_neg (by omega), if_neg h4, if_neg h2, if_neg h1]

theorem rotF_nth (m : Nat) : ∀ (s i j : Nat) (L : List Spn), i + j = s → 0 < i → 0 < j → i ≤ m → m + j ≤ L.length → ∀ t,
  nth (rotF m i j L) t = if m - i ≤ t ∧ t < m - i + j then nth L (t + i) else if m - i + j ≤ t ∧ t < m + j then nth L (t - j) else nth L t := by
 intro s
 induction s using Nat.strongRecOn with
 | _ s ih =>
  intro i j L hs hi hj him hl t
  unfold rotF
  by_cases hij : i = j
  ·subst hij
   rw [dif_neg (by omega), srF_nth _ _ _ (by omega) _ _ _ rfl (by omega)]
   by_cases h1 : m - i ≤ t ∧ t < m - i + i
   ·rw [if_pos (by omega), if_pos h1]; congr 1; omega
   ·rw [if_neg (by omega), if_neg h1]
    by_cases h2 : m - i + i ≤ t ∧ t < m + i
    ·rw [if_pos (by omega), if_pos h2]; congr 1; omega
    ·rw [if_neg (by omega), if_neg h2]
  ·rw [dif_pos ⟨hi, hj, hij⟩]
   by_cases hlt : j < i
   ·rw [if_pos hlt]
    have hL1 : (srF (m - i) m j 0 L).length = L.length := srF_length _ _ _ _ _ _ rfl
    rw [ih (i - j + j) (by omega) (i - j) j _ rfl (by omega) hj (by omega) (by omega)]
    simp only [srF_nth (m - i) m j (by omega) _ 0 L rfl (by omega)]
    by_cases h1 : m - i ≤ t ∧ t < m - i + j
    ·rw [if_neg (by omega), if_neg (by omega), if_pos (by omega), if_pos h1]; congr 1; omega
    ·rw [if_neg h1]
     by_cases h2 : m - i + j ≤ t ∧ t < m + j
     ·rw [if_pos h2]
      by_cases h3 : t < m - i + j + j
      ·rw [if_pos (by omega), if_neg (by omega), if_pos (by omega)]; congr 1; omega
      ·rw [if_neg (by omega), if_pos (by omega), if_neg (by omega), if_neg (by omega)]
     ·rw [if_neg h2, if_neg (by omega), if_neg (by omega), if_neg (by omega), if_neg (by omega)]
   ·rw [if_neg hlt]
    have hL1 : (srF (m - i) (m + j - i) i 0 L).length = L.length := srF_length _ _ _ _ _ _ rfl
    rw [ih (i + (j - i)) (by omega) i (j - i) _ rfl hi (by omega) him (by omega)]
    simp only [srF_nth (m - i) (m + j - i) i (by omega) _ 0 L rfl (by omega)]
    by_cases h1 : m - i ≤ t ∧ t < m - i + j
    ·rw [if_pos h1]
     by_cases h3 : t < m - i + (j - i)
     ·rw [if_pos (by omega), if_neg (by omega), if_neg (by omega)]
     ·rw [if_neg (by omega), if_pos (by omega), if_pos (by omega)]; congr 1; omega
    ·rw [if_neg h1]
     by_cases h2 : m - i + j ≤ t ∧ t < m + j
     ·rw [if_pos h2, if_neg (by omega), if_neg (by omega), if_neg (by omega), if_pos (by omega)]; congr 1; omega
     ·rw [if_neg h2, if_neg (by omega), if_neg (by omega), if_neg (by omega), if_neg (by omega)]

/-- Those of each ID come in the same order. -/
def Stab (A B : List Spn) : Prop := ∀ i, B.filter (fun x => x.id == i) = A.filter (fun x => x.id == i)
theorem Stab.refl (A : List Spn) : Stab A A := fun _ => rfl
theorem Stab.trans {A B C : List Spn} (h : Stab A B) (k : Stab B C) : Stab A C := fun i => (k i).trans (h i)
theorem Stab.mem {A B : List Spn} (h : Stab A B) {x : Spn} (hx : x ∈ B) : x ∈ A := by
 have h1 : x ∈ B.filter (fun y => y.id == x.id) := List.mem_filter.2 ⟨hx, by simp⟩
 rw [h x.id] at h1
 exact (List.mem_filter.1 h1).1
theorem Stab.symm {A B : List Spn} (h : Stab A B) : Stab B A := fun i => (h i).symm
/-- Two blocks that have no ID in common change places. -/
theorem stab_blocks {A X Y B : List Spn} (h : ∀ x ∈ X, ∀ y ∈ Y, x.id ≠ y.id) : Stab (A ++ X ++ Y ++ B) (A ++ Y ++ X ++ B) := by
 intro i
 simp only [List.filter_append]
 have hz : X.filter (fun x => x.id == i) = [] ∨ Y.filter (fun x => x.id == i) = [] := by
  by_cases hx : X.filter (fun x => x.id == i) = []
  ·exact .inl hx
  ·right
   obtain ⟨x, hx⟩ := List.exists_mem_of_ne_nil _ hx
   obtain ⟨hx1, hx2⟩ := List.mem_filter.1 hx
   apply List.filter_eq_nil_iff.2
   intro y hy hy2
   exact h x hx1 y hy ((by simpa using hx2 : x.id = i).trans (by simpa using hy2 : y.id = i).symm)
 rcases hz with hz | hz <;> simp [hz]
theorem ext_nth {A B : List Spn} (hl : A.length = B.length) (h : ∀ k, k < A.length → nth A k = nth B k) : A = B := by
 apply List.ext_getElem? 
 intro k
 by_cases hk : k < A.length
 ·rw [nth_get hk, nth_get (show k < B.length by omega), h k hk]
 ·rw [List.getElem?_eq_none (by omega), List.getElem?_eq_none (by omega)]
theorem nth_take {A : List Spn} {k t : Nat} (h : t < k) (_ : k ≤ A.length) : nth (A.take k) t = nth A t := by
 unfold nth; simp [List.getD_eq_getElem?_getD, h]
theorem nth_drop {A : List Spn} {k t : Nat} : nth (A.drop k) t = nth A (k + t) := by
 unfold nth; simp [List.getD_eq_getElem?_getD, List.getElem?_drop]
theorem nth_app1 {A B : List Spn} {t : Nat} (h : t < A.length) : nth (A ++ B) t = nth A t := by
 unfold nth; simp [List.getD_eq_getElem?_getD, List.getElem?_append_left h]
theorem nth_app2 {A B : List Spn} {t : Nat} (h : A.length ≤ t) : nth (A ++ B) t = nth B (t - A.length) := by
 unfold nth; simp [List.getD_eq_getElem?_getD, List.getElem?_append_right h]
/-- What a list comes to whose blocks [p, m) and [m, e) change places. -/
theorem rot_blocks {L : List Spn} {p m e : Nat} (h1 : p < m) (h2 : m < e) (h3 : e ≤ L.length) :
  L = L.take p ++ (L.take m).drop p ++ (L.take e).drop m ++ L.drop e ∧ rotF m (m - p) (e - m) L = L.take p ++ (L.take e).drop m ++ (L.take m).drop p ++ L.drop e := by
 have l1 : (L.take p).length = p := by rw [List.length_take]; omega
 have l2 : ((L.take m).drop p).length = m - p := by rw [List.length_drop, List.length_take]; omega
 have l3 : ((L.take e).drop m).length = e - m := by rw [List.length_drop, List.length_take]; omega
 have l4 : (L.drop e).length = L.length - e := by rw [List.length_drop]
 constructor
 ·apply ext_nth
  ·simp only [List.length_append, l1, l2, l3, l4]; omega
  ·intro k hk
   by_cases a1 : k < p
   ·rw [nth_app1 (by simp only [List.length_append, l1, l2, l3]; omega), nth_app1 (by simp only [List.length_append, l1, l2]; omega), nth_app1 (by omega), nth_take a1 (by omega)]
   ·by_cases a2 : k < m
    ·rw [nth_app1 (by simp only [List.length_append, l1, l2, l3]; omega), nth_app1 (by simp only [List.length_append, l1, l2]; omega), nth_app2 (by omega), nth_drop, nth_take (by omega) (by omega)]
     congr 1; omega
    ·by_cases a3 : k < e
     ·rw [nth_app1 (by simp only [List.length_append, l1, l2, l3]; omega), nth_app2 (by simp only [List.length_append, l1, l2]; omega), nth_drop, nth_take (by simp only [List.length_append, l1, l2]; omega) (by omega)]
      simp only [List.length_append, l1, l2]; congr 1; omega
     ·rw [nth_app2 (by simp only [List.length_append, l1, l2, l3]; omega), nth_drop]
      simp only [List.length_append, l1, l2, l3]; congr 1; omega
 ·apply ext_nth
  ·rw [rotF_length _ _ _ _ _ rfl]; simp only [List.length_append, l1, l2, l3, l4]; omega
  ·intro k hk
   rw [rotF_length _ _ _ _ _ rfl] at hk
   rw [rotF_nth m _ (m - p) (e - m) L rfl (by omega) (by omega) (by omega) (by omega)]
   by_cases a1 : k < p
   ·rw [if_neg (by omega), if_neg (by omega), nth_app1 (by simp only [List.length_append, l1, l2, l3]; omega), nth_app1 (by simp only [List.length_append, l1, l3]; omega), nth_app1 (by omega), nth_take a1 (by omega)]
   ·by_cases a2 : k < p + (e - m)
    ·rw [if_pos (by omega), nth_app1 (by simp only [List.length_append, l1, l2, l3]; omega), nth_app1 (by simp only [List.length_append, l1, l3]; omega), nth_app2 (by omega), nth_drop, nth_take (by omega) (by omega)]
     congr 1; omega
    ·by_cases a3 : k < e
     ·rw [if_neg (by omega), if_pos (by omega), nth_app1 (by simp only [List.length_append, l1, l2, l3]; omega), nth_app2 (by simp only [List.length_append, l1, l3]; omega), nth_drop, nth_take (by simp only [List.length_append, l1, l3]; omega) (by omega)]
      simp only [List.length_append, l1, l3]; congr 1; omega
     ·rw [if_neg (by omega), if_neg (by omega), nth_app2 (by simp only [List.length_append, l1, l2, l3]; omega), nth_drop]
      simp only [List.length_append, l1, l2, l3]; congr 1; omega
end Go.Proofs.Ytibakmchgppndaa
/- Plain laws of a merge in place: what its cuts and rotations come to. Nothing of the program is run here. -/
namespace Go.Proofs.Ytibakmchgppndaa

def SortedOn (L : List Spn) (a b : Nat) : Prop := ∀ i j, a ≤ i → i ≤ j → j < b → (nth L i).id ≤ (nth L j).id
/-- Only what lies in [a, b) has moved, within it, and those of each ID keep their order. -/
structure Moved (a b : Nat) (L L' : List Spn) : Prop where
 len : L'.length = L.length
 out : ∀ k, k < a ∨ b ≤ k → nth L' k = nth L k
 inn : ∀ k, a ≤ k → k < b → ∃ k', a ≤ k' ∧ k' < b ∧ nth L' k = nth L k'
 stab : Stab L L'
theorem Moved.refl (a b : Nat) (L : List Spn) : Moved a b L L := ⟨rfl, fun _ _ => rfl, fun k h1 h2 => ⟨k, h1, h2, rfl⟩, Stab.refl L⟩
theorem Moved.trans {a b : Nat} {A B C : List Spn} (h : Moved a b A B) (k : Moved a b B C) : Moved a b A C := by
 refine ⟨k.len.trans h.len, fun t ht => (k.out t ht).trans (h.out t ht), fun t h1 h2 => ?_, h.stab.trans k.stab⟩
 obtain ⟨t1, a1, a2, a3⟩ := k.inn t h1 h2
 obtain ⟨t2, b1, b2, b3⟩ := h.inn t1 a1 a2
 exact ⟨t2, b1, b2, a3.trans b3⟩
theorem Moved.wider {a b a' b' : Nat} {A B : List Spn} (h : Moved a b A B) (ha : a' ≤ a) (hb : b ≤ b') : Moved a' b' A B := by
 refine ⟨h.len, fun t ht => h.out t (by omega), fun t h1 h2 => ?_, h.stab⟩
 by_cases hi : a ≤ t ∧ t < b
 ·obtain ⟨t', x1, x2, x3⟩ := h.inn t hi.1 hi.2
  exact ⟨t', by omega, by omega, x3⟩
 ·exact ⟨t, h1, h2, h.out t (by omega)⟩
theorem mem_block {L : List Spn} {p e : Nat} (he : e ≤ L.length) {x : Spn} (h : x ∈ (L.take e).drop p) : ∃ t, p ≤ t ∧ t < e ∧ nth L t = x := by
 obtain ⟨i, hi, rfl⟩ := List.getElem_of_mem h
 have hl : ((L.take e).drop p).length = e - p := by rw [List.length_drop, List.length_take]; omega
 refine ⟨p + i, by omega, by omega, ?_⟩
 have h1 : nth ((L.take e).drop p) i = ((L.take e).drop p)[i] := by
  have h2 := nth_get hi
  rw [List.getElem?_eq_getElem hi] at h2
  exact (Option.some.inj h2).symm
 rw [← h1, nth_drop, nth_take (by omega) he]
theorem moved_rot {L : List Spn} {a b p m e : Nat} (h1 : p < m) (h2 : m < e) (h3 : e ≤ L.length) (ha : a ≤ p) (hb : e ≤ b) (hne : ∀ x y, p ≤ x → x < m → m ≤ y → y < e → (nth L x).id ≠ (nth L y).id) : Moved a b L (rotF m (m - p) (e - m) L) := by
 have hn := rotF_nth m _ (m - p) (e - m) L rfl (by omega) (by omega) (by omega) (by omega)
 refine ⟨rotF_length _ _ _ _ _ rfl, fun k hk => ?_, fun k hk1 hk2 => ?_, ?_⟩
 ·rw [hn, if_neg (by omega), if_neg (by omega)]
 ·rw [hn]
  by_cases c1 : m - (m - p) ≤ k ∧ k < m - (m - p) + (e - m)
  ·rw [if_pos c1]; exact ⟨k + (m - p), by omega, by omega, rfl⟩
  ·rw [if_neg c1]
   by_cases c2 : m - (m - p) + (e - m) ≤ k ∧ k < m + (e - m)
   ·rw [if_pos c2]; exact ⟨k - (e - m), by omega, by omega, rfl⟩
   ·rw [if_neg c2]; exact ⟨k, hk1, hk2, rfl⟩
 ·obtain ⟨e1, e2⟩ := rot_blocks h1 h2 h3
  have hs := stab_blocks (A := L.take p) (X := (L.take m).drop p) (Y := (L.take e).drop m) (B := L.drop e) (fun x hx y hy => by
   obtain ⟨i, i1, i2, rfl⟩ := mem_block (by omega) hx
   obtain ⟨j, j1, j2, rfl⟩ := mem_block h3 hy
   exact hne i j i1 i2 j1 j2)
  rw [← e2, ← e1] at hs
  exact hs
theorem swap_rot (L : List Spn) (k : Nat) : swapL L k (k + 1) = rotF (k + 1) 1 1 L := by
 unfold rotF
 rw [dif_neg (by omega)]
 unfold srF
 rw [dif_pos (by omega)]
 unfold srF
 rw [dif_neg (by omega)]
 simp
theorem swap_comm (L : List Spn) (i j : Nat) : swapL L i j = swapL L j i := by
 unfold swapL
 by_cases h : i = j
 ·subst h; rfl
 ·exact List.set_comm _ _ h
theorem moved_swap {L : List Spn} {a b k : Nat} (ha : a ≤ k) (hk : k + 1 < b) (hb : b ≤ L.length) (hne : (nth L k).id ≠ (nth L (k + 1)).id) : Moved a b L (swapL L k (k + 1)) := by
 rw [swap_rot]
 have := moved_rot (L := L) (a := a) (b := b) (p := k) (m := k + 1) (e := k + 2) (by omega) (by omega) (by omega) ha (by omega) (fun x y h1 h2 h3 h4 => by
  obtain rfl : x = k := by omega
  obtain rfl : y = x + 1 := by omega
  exact hne)
 rwa [show k + 1 - k = 1 by omega, show k + 2 - (k + 1) = 1 by omega] at this

/-- The cut of the third case: which rotation, and what it leaves. -/
def cutF (L : List Spn) (start m e : Nat) : List Spn := if start < m ∧ m < e then rotF m (m - start) (e - m) L else L
theorem cut_facts {L : List Spn} {a m b start mid e : Nat} (hs : SortedOn L a m) (hs2 : SortedOn L m b) (hb : b ≤ L.length) (h1 : a ≤ start) (h2 : start ≤ m) (h3 : start ≤ mid) (hm : a < m)
  (he : e + start = mid + m) (heb : e ≤ b) (F1 : ∀ x y, a ≤ x → x < start → e ≤ y → y < b → (nth L x).id ≤ (nth L y).id) (F2 : ∀ x y, start ≤ x → x < m → m ≤ y → y < e → (nth L y).id < (nth L x).id) :
  Moved a b L (cutF L start m e) ∧ SortedOn (cutF L start m e) a start ∧ SortedOn (cutF L start m e) start mid ∧ SortedOn (cutF L start m e) mid e ∧ SortedOn (cutF L start m e) e b ∧
   ∀ x y, a ≤ x → x < mid → mid ≤ y → y < b → (nth (cutF L start m e) x).id ≤ (nth (cutF L start m e) y).id := by
 have hn : ∀ t, nth (cutF L start m e) t = if start ≤ t ∧ t < mid then nth L (t + (m - start)) else if mid ≤ t ∧ t < e then nth L (t - (e - m)) else nth L t := by
  intro t
  unfold cutF
  by_cases hc : start < m ∧ m < e
  ·rw [if_pos hc, rotF_nth m _ (m - start) (e - m) L rfl (by omega) (by omega) (by omega) (by omega)]
   by_cases c1 : start ≤ t ∧ t < mid
   ·rw [if_pos (by omega), if_pos c1]
   ·rw [if_neg (by omega), if_neg c1]
    by_cases c2 : mid ≤ t ∧ t < e
    ·rw [if_pos (by omega), if_pos c2]
    ·rw [if_neg (by omega), if_neg c2]
  ·rw [if_neg hc]
   by_cases c1 : start ≤ t ∧ t < mid
   ·rw [if_pos c1]; congr 1; omega
   ·rw [if_neg c1]
    by_cases c2 : mid ≤ t ∧ t < e
    ·rw [if_pos c2]; congr 1; omega
    ·rw [if_neg c2]
 have lo : ∀ t, t < start → nth (cutF L start m e) t = nth L t := fun t ht => by rw [hn, if_neg (by omega), if_neg (by omega)]
 have m1 : ∀ t, start ≤ t → t < mid → nth (cutF L start m e) t = nth L (t + (m - start)) := fun t x y => by rw [hn, if_pos ⟨x, y⟩]
 have m2 : ∀ t, mid ≤ t → t < e → nth (cutF L start m e) t = nth L (t - (e - m)) := fun t x y => by rw [hn, if_neg (by omega), if_pos ⟨x, y⟩]
 have hi : ∀ t, e ≤ t → nth (cutF L start m e) t = nth L t := fun t ht => by rw [hn, if_neg (by omega), if_neg (by omega)]
 refine ⟨?_, ?_, ?_, ?_, ?_, ?_⟩
 ·unfold cutF
  by_cases hc : start < m ∧ m < e
  ·rw [if_pos hc]
   exact moved_rot hc.1 hc.2 (by omega) h1 heb (fun x y a1 a2 a3 a4 => by have := F2 x y a1 a2 a3 a4; omega)
  ·rw [if_neg hc]; exact Moved.refl _ _ _
 ·intro i j a1 a2 a3
  rw [lo i (by omega), lo j a3]; exact hs i j a1 a2 (by omega)
 ·intro i j a1 a2 a3
  rw [m1 i a1 (by omega), m1 j (by omega) a3]; exact hs2 _ _ (by omega) (by omega) (by omega)
 ·intro i j a1 a2 a3
  rw [m2 i a1 (by omega), m2 j (by omega) a3]; exact hs _ _ (by omega) (by omega) (by omega)
 ·intro i j a1 a2 a3
  rw [hi i a1, hi j (by omega)]; exact hs2 _ _ (by omega) a2 a3
 ·intro x y a1 a2 a3 a4
  by_cases c1 : x < start
  ·rw [lo x c1]
   by_cases c2 : y < e
   ·rw [m2 y a3 c2]; exact hs _ _ a1 (by omega) (by omega)
   ·rw [hi y (by omega)]; exact F1 x y a1 c1 (by omega) a4
  ·rw [m1 x (by omega) a2]
   by_cases c2 : y < e
   ·rw [m2 y a3 c2]
    exact Int.le_of_lt (F2 _ _ (by omega) (by omega) (by omega) (by omega))
   ·rw [hi y (by omega)]; exact hs2 _ _ (by omega) (by omega) a4
theorem join_sorted {A B C : List Spn} {a mid b : Nat} (h1 : a ≤ mid) (h2 : mid ≤ b) (hB : Moved a mid A B) (sB : SortedOn B a mid) (hC : Moved mid b B C) (sC : SortedOn C mid b) (hA : ∀ x y, a ≤ x → x < mid → mid ≤ y → y < b → (nth A x).id ≤ (nth A y).id) :
  Moved a b A C ∧ SortedOn C a b := by
 refine ⟨(hB.wider (Nat.le_refl _) h2).trans (hC.wider h1 (Nat.le_refl _)), fun i j a1 a2 a3 => ?_⟩
 by_cases c1 : j < mid
 ·rw [hC.out i (by omega), hC.out j (by omega)]; exact sB i j a1 a2 c1
 ·by_cases c2 : mid ≤ i
  ·exact sC i j c2 a2 a3
  ·rw [hC.out i (by omega)]
   obtain ⟨x, x1, x2, x3⟩ := hB.inn i a1 (by omega)
   obtain ⟨y, y1, y2, y3⟩ := hC.inn j (by omega) a3
   rw [x3, y3, hB.out y (by omega)]
   exact hA x y x1 x2 y1 y2
/-- One element goes into a sorted stretch behind it. -/
theorem up_sorted {L L1 : List Spn} {a b i : Nat} {x : Spn} (hi : a + 1 ≤ i) (hib : i ≤ b) (hs : SortedOn L (a + 1) b) (lo : ∀ k, a + 1 ≤ k → k < i → (nth L k).id < x.id) (hi2 : ∀ k, i ≤ k → k < b → x.id ≤ (nth L k).id)
  (p1 : nth L1 (i - 1) = x) (p2 : ∀ t, a ≤ t → t < i - 1 → nth L1 t = nth L (t + 1)) (p3 : ∀ t, i - 1 < t → nth L1 t = nth L t) : SortedOn L1 a b := by
 intro s t a1 a2 a3
 by_cases c1 : t < i - 1
 ·rw [p2 s a1 (by omega), p2 t (by omega) c1]; exact hs _ _ (by omega) (by omega) (by omega)
 ·by_cases c2 : t = i - 1
  ·subst c2
   rw [p1]
   by_cases c3 : s = i - 1
   ·subst c3; rw [p1]; exact Int.le_refl _
   ·rw [p2 s a1 (by omega)]; exact Int.le_of_lt (lo _ (by omega) (by omega))
  ·rw [p3 t (by omega)]
   by_cases c3 : s < i - 1
   ·rw [p2 s a1 c3]; exact hs _ _ (by omega) (by omega) a3
   ·by_cases c4 : s = i - 1
    ·subst c4; rw [p1]; exact hi2 t (by omega) a3
    ·rw [p3 s (by omega)]; exact hs _ _ (by omega) a2 a3
/-- One element goes into a sorted stretch ahead of it. -/
theorem down_sorted {L L1 : List Spn} {a m i : Nat} {y : Spn} (hai : a ≤ i) (him : i ≤ m) (hs : SortedOn L a m) (lo : ∀ k, a ≤ k → k < i → (nth L k).id ≤ y.id) (hi2 : ∀ k, i ≤ k → k < m → y.id < (nth L k).id)
  (p1 : nth L1 i = y) (p2 : ∀ t, i < t → t ≤ m → nth L1 t = nth L (t - 1)) (p3 : ∀ t, t < i → nth L1 t = nth L t) : SortedOn L1 a (m + 1) := by
 intro s t a1 a2 a3
 by_cases c1 : t < i
 ·rw [p3 s (by omega), p3 t c1]; exact hs _ _ a1 a2 (by omega)
 ·by_cases c2 : t = i
  ·subst c2
   rw [p1]
   by_cases c3 : s = t
   ·subst c3; rw [p1]; exact Int.le_refl _
   ·rw [p3 s (by omega)]; exact lo _ a1 (by omega)
  ·rw [p2 t (by omega) (by omega)]
   by_cases c3 : s < i
   ·rw [p3 s c3]; exact hs _ _ a1 (by omega) (by omega)
   ·by_cases c4 : s = i
    ·subst c4; rw [p1]; exact Int.le_of_lt (hi2 _ (by omega) (by omega))
    ·rw [p2 s (by omega) (by omega)]; exact hs _ _ (by omega) (by omega) (by omega)
end Go.Proofs.Ytibakmchgppndaa
/- Plain laws of the stable sort: what insertion leaves, and how blocks of doubling width come to one. Nothing of the program is run here. -/
namespace Go.Proofs.Ytibakmchgppndaa

theorem sorted_one {L : List Spn} {a b : Nat} (h : b ≤ a + 1) : SortedOn L a b := fun x y x1 x2 x3 => by
 obtain rfl : x = y := by omega
 exact Int.le_refl _
theorem sinkF_facts (a b i : Nat) (hib : i < b) : ∀ (j : Nat) (L : List Spn), a ≤ j → j ≤ i → b ≤ L.length → SortedOn L a j → SortedOn L j (i + 1) → (∀ x y, a ≤ x → x < j → j < y → y ≤ i → (nth L x).id ≤ (nth L y).id) →
  Moved a b L (sinkF a j L) ∧ SortedOn (sinkF a j L) a (i + 1)
 | j, L, haj, hji, hb, s1, s2, hx => by
  unfold sinkF
  by_cases h : a < j
  ·rw [dif_pos h]
   by_cases hlt : (nth L j).id < (nth L (j - 1)).id
   ·rw [if_pos hlt]
    have hj : j < L.length := by omega
    have hj1 : j - 1 < L.length := by omega
    have sn := nth_swap L hj hj1
    have hm := moved_swap (L := L) (a := a) (b := b) (k := j - 1) (by omega) (by omega) hb (by rw [show j - 1 + 1 = j by omega]; omega)
    rw [show j - 1 + 1 = j by omega, swap_comm] at hm
    have ih := sinkF_facts a b i hib (j - 1) (swapL L j (j - 1)) (by omega) (by omega) (by simpa using hb)
     (fun x y x1 x2 x3 => by rw [sn, sn, if_neg (by omega), if_neg (by omega), if_neg (by omega), if_neg (by omega)]; exact s1 x y x1 x2 (by omega))
     (fun x y x1 x2 x3 => by
      by_cases c1 : y = j - 1
      ·obtain rfl : x = y := by omega
       exact Int.le_refl _
      ·by_cases c2 : y = j
       ·subst c2
        by_cases c3 : x = y
        ·subst c3; exact Int.le_refl _
        ·have c4 : x = y - 1 := by omega
         rw [sn, if_pos c4, sn, if_neg (by omega), if_pos rfl]; omega
       ·rw [sn y, if_neg c1, if_neg c2]
        by_cases c3 : x = j - 1
        ·rw [sn, if_pos c3]; exact s2 j y (Nat.le_refl _) (by omega) x3
        ·by_cases c4 : x = j
         ·rw [sn, if_neg c3, if_pos c4]; exact hx (j - 1) y (by omega) (by omega) (by omega) (by omega)
         ·rw [sn, if_neg c3, if_neg c4]; exact s2 x y (by omega) x2 x3)
     (fun x y x1 x2 x3 x4 => by
      rw [sn x, if_neg (by omega), if_neg (by omega)]
      by_cases c1 : y = j
      ·rw [sn, if_neg (by omega), if_pos c1]; exact s1 x (j - 1) x1 (by omega) (by omega)
      ·rw [sn, if_neg (by omega), if_neg c1]; exact hx x y x1 (by omega) (by omega) x4)
    exact ⟨hm.trans ih.1, ih.2⟩
   ·rw [if_neg hlt]
    refine ⟨Moved.refl _ _ _, fun x y x1 x2 x3 => ?_⟩
    by_cases c1 : y < j
    ·exact s1 x y x1 x2 c1
    ·by_cases c2 : j ≤ x
     ·exact s2 x y c2 x2 x3
     ·have h1 := s1 x (j - 1) x1 (by omega) (by omega)
      have h2 := s2 j y (Nat.le_refl _) (by omega) x3
      omega
  ·rw [dif_neg h]
   obtain rfl : a = j := by omega
   exact ⟨Moved.refl _ _ _, s2⟩
termination_by j => j
decreasing_by omega
theorem insF_facts (a b : Nat) : ∀ (n i : Nat) (L : List Spn), b - i = n → a ≤ i → b ≤ L.length → SortedOn L a i → Moved a b L (insF a b i L) ∧ SortedOn (insF a b i L) a b
 | 0, i, L, h, _, _, s => by
  unfold insF
  rw [dif_neg (by omega)]
  exact ⟨Moved.refl _ _ _, fun x y x1 x2 x3 => s x y x1 x2 (by omega)⟩
 | n + 1, i, L, h, ha, hb, s => by
  unfold insF
  rw [dif_pos (by omega)]
  have h1 := sinkF_facts a b i (by omega) i L ha (Nat.le_refl _) hb s (sorted_one (by omega)) (fun x y x1 x2 x3 x4 => by omega)
  have h2 := insF_facts a b n (i + 1) (sinkF a i L) (by omega) (by omega) (by rw [sinkF_length]; exact hb) h1.2
  exact ⟨h1.1.trans h2.1, h2.2⟩
theorem insert_facts {L : List Spn} {a b : Nat} (hb : b ≤ L.length) : Moved a b L (insF a b (a + 1) L) ∧ SortedOn (insF a b (a + 1) L) a b :=
 insF_facts a b _ (a + 1) L rfl (by omega) hb (sorted_one (by omega))
theorem Moved.sorted {a b x y : Nat} {A B : List Spn} (h : Moved a b A B) (hs : SortedOn A x y) (hd : y ≤ a ∨ b ≤ x) : SortedOn B x y := fun i j h1 h2 h3 => by
 rw [h.out i (by omega), h.out j (by omega)]; exact hs i j h1 h2 h3
theorem dvd_gap {B s a : Nat} (h1 : B ∣ s) (h2 : B ∣ a) (h : s < a) : s + B ≤ a := by
 have h3 : B ∣ a - s := Nat.dvd_sub h2 h1
 have := Nat.le_of_dvd (by omega) h3
 omega
/-- Ahead of a, blocks of the width C are sorted; from a on, blocks of the width B. -/
def Blk (C B n a : Nat) (L : List Spn) : Prop := C ∣ a ∧ (∀ s, C ∣ s → s < a → SortedOn L s (s + C)) ∧ (∀ s, B ∣ s → a ≤ s → SortedOn L s (min (s + B) n))
/-- All blocks of the width B are sorted. -/
def Blks (B n : Nat) (L : List Spn) : Prop := ∀ s, B ∣ s → SortedOn L s (min (s + B) n)
theorem Blks.start {B n : Nat} {L : List Spn} (h : Blks B n L) : Blk (2 * B) B n 0 L := ⟨Nat.dvd_zero _, fun s _ h => by omega, fun s hs _ => h s hs⟩
theorem Blk.halves {B n a : Nat} {L : List Spn} (h : Blk (2 * B) B n a L) {e : Nat} (he : a + B < e) (hn : e ≤ n) (h2 : e ≤ a + 2 * B) : SortedOn L a (a + B) ∧ SortedOn L (a + B) e := by
 have hB : B ∣ a := Nat.dvd_trans (Nat.dvd_mul_left B 2) h.1
 have h3 := h.2.2 a hB (Nat.le_refl _)
 have h4 := h.2.2 (a + B) (Nat.dvd_add hB (Nat.dvd_refl _)) (by omega)
 exact ⟨fun i j x1 x2 x3 => h3 i j x1 x2 (by omega), fun i j x1 x2 x3 => h4 i j x1 x2 (by omega)⟩
theorem Blk.next {B n a : Nat} {L L' : List Spn} (h : Blk (2 * B) B n a L) (hm : Moved a (a + 2 * B) L L') (hs : SortedOn L' a (a + 2 * B)) (hB : 0 < B) : Blk (2 * B) B n (a + 2 * B) L' := by
 refine ⟨Nat.dvd_add h.1 (Nat.dvd_refl _), fun s s1 s2 => ?_, fun s s1 s2 => hm.sorted (h.2.2 s s1 (by omega)) (.inr s2)⟩
 by_cases c : s < a
 ·have := dvd_gap s1 h.1 c
  exact hm.sorted (h.2.1 s s1 c) (.inl this)
 ·by_cases c2 : s = a
  ·subst c2; exact hs
  ·have := dvd_gap h.1 s1 (by omega)
   omega
theorem Blk.done {B n a : Nat} {L L' : List Spn} (h : Blk (2 * B) B n a L) (hn : n < a + 2 * B) (hm : Moved a n L L') (hs : SortedOn L' a n) : Blks (2 * B) n L' := by
 intro s s1
 by_cases c : s < a
 ·have := dvd_gap s1 h.1 c
  exact fun i j x1 x2 x3 => hm.sorted (h.2.1 s s1 c) (.inl this) i j x1 x2 (by omega)
 ·by_cases c2 : s = a
  ·subst c2; exact fun i j x1 x2 x3 => hs i j x1 x2 (by omega)
  ·have := dvd_gap h.1 s1 (by omega)
   exact fun i j x1 x2 x3 => by omega
theorem Blk.last {B n a : Nat} {L : List Spn} (h : Blk (2 * B) B n a L) (hn : n ≤ a + B) : SortedOn L a n := by
 have hB : B ∣ a := Nat.dvd_trans (Nat.dvd_mul_left B 2) h.1
 exact fun i j x1 x2 x3 => h.2.2 a hB (Nat.le_refl _) i j x1 x2 (by omega)
theorem Blks.all {B n : Nat} {L : List Spn} (h : Blks B n L) (hn : n ≤ B) : SortedOn L 0 n := fun i j x1 x2 x3 => h 0 (Nat.dvd_zero _) i j x1 x2 (by omega)
/-- Insertion goes block by block. -/
def Ins (B a : Nat) (L : List Spn) : Prop := B ∣ a ∧ ∀ s, B ∣ s → s < a → SortedOn L s (s + B)
theorem Ins.start (B : Nat) (L : List Spn) : Ins B 0 L := ⟨Nat.dvd_zero _, fun s _ h => by omega⟩
theorem Ins.next {B a : Nat} {L L' : List Spn} (h : Ins B a L) (hm : Moved a (a + B) L L') (hs : SortedOn L' a (a + B)) : Ins B (a + B) L' := by
 refine ⟨Nat.dvd_add h.1 (Nat.dvd_refl _), fun s s1 s2 => ?_⟩
 by_cases c : s < a
 ·have := dvd_gap s1 h.1 c
  exact hm.sorted (h.2 s s1 c) (.inl this)
 ·by_cases c2 : s = a
  ·subst c2; exact hs
  ·have := dvd_gap h.1 s1 (by omega)
   omega
theorem Ins.done {B a n : Nat} {L L' : List Spn} (h : Ins B a L) (hn : n < a + B) (hm : Moved a n L L') (hs : SortedOn L' a n) : Blks B n L' := by
 intro s s1
 by_cases c : s < a
 ·have := dvd_gap s1 h.1 c
  exact fun i j x1 x2 x3 => hm.sorted (h.2 s s1 c) (.inl this) i j x1 x2 (by omega)
 ·by_cases c2 : s = a
  ·subst c2; exact fun i j x1 x2 x3 => hs i j x1 x2 (by omega)
  ·have := dvd_gap h.1 s1 (by omega)
   exact fun i j x1 x2 x3 => by omega
end Go.Proofs.Ytibakmchgppndaa
