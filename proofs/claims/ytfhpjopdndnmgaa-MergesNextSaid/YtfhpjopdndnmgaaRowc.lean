/- Rows of cells as they lie in memory; what a cell may be; which one stands ahead. -/
import Derived.Test.YtfhpjopdndnmgaaCells
namespace Go.Proofs.Ytfhpjopdndnmgaa
open Go.RowKit

/-- The cells of messages, one behind the other. -/
def cellsC : List Cel → List Value
  | [] => []
  | m :: l => .string m.k :: .int .i64 m.s :: .string m.v :: cellsC l
theorem cellsC_length : ∀ L, (cellsC L).length = L.length * 3
  | [] => rfl
  | m :: l => by simp [cellsC, cellsC_length l]; omega
theorem cellsC_append : ∀ a b, cellsC (a ++ b) = cellsC a ++ cellsC b
  | [], b => rfl
  | m :: l, b => by simp [cellsC, cellsC_append l b]
theorem cellsC_get : ∀ (L : List Cel) (i : Nat) (m : Cel), L[i]? = some m → (cellsC L)[i * 3]? = some (.string m.k) ∧ (cellsC L)[i * 3 + 1]? = some (.int .i64 m.s) ∧ (cellsC L)[i * 3 + 2]? = some (.string m.v)
  | [], i, m, h => by simp at h
  | x :: l, 0, m, h => by simp at h; subst h; exact ⟨rfl, rfl, rfl⟩
  | x :: l, i + 1, m, h => by
    have := cellsC_get l i m (by simpa using h)
    rw [show (i + 1) * 3 = i * 3 + 3 by omega]
    exact this
theorem cellsC_take : ∀ (L : List Cel) (i : Nat), cellsC (L.take i) = (cellsC L).take (i * 3)
  | _, 0 => by simp [cellsC]
  | [], i + 1 => by simp [cellsC]
  | m :: l, i + 1 => by rw [show (i + 1) * 3 = i * 3 + 3 by omega]; simp [cellsC, cellsC_take l i]
theorem cellsC_drop : ∀ (L : List Cel) (i : Nat), cellsC (L.drop i) = (cellsC L).drop (i * 3)
  | _, 0 => by simp
  | [], i + 1 => by simp [cellsC]
  | m :: l, i + 1 => by rw [show (i + 1) * 3 = i * 3 + 3 by omega]; simp [cellsC, cellsC_drop l i]
theorem cellsC_one : ∀ (L : List Cel), ∀ u ∈ cellsC L, u.oneCell' = true
  | [], u, h => by cases h
  | m :: l, u, h => by
    simp only [cellsC, List.mem_cons] at h
    rcases h with rfl | rfl | rfl | h
    · rfl
    · rfl
    · rfl
    · exact cellsC_one l u h
/-- The cells of a list's first messages, and of its last ones. -/
theorem srcC_take {w W : World} {g : Nat} {L : List Cel} {S : Nat → Prop} (hc : ∀ j u, (cellsC L)[j]? = some u → w.cell? ⟨g, j, none⟩ = some u) (i : Nat) (hK : Kept S w W) (hS : ¬ S g) :
    ∀ j u, (cellsC (L.take i))[j]? = some u → W.cell? ((⟨g, 0, none⟩ : Addr).add j) = some u := fun j u hu => by
  rw [cellsC_take, List.getElem?_take] at hu
  split at hu
  · rw [add_mid, Nat.zero_add]; exact hK.cell (hc j u hu) hS
  · cases hu
theorem srcC_drop {w W : World} {g : Nat} {L : List Cel} {S : Nat → Prop} (hc : ∀ j u, (cellsC L)[j]? = some u → w.cell? ⟨g, j, none⟩ = some u) (i : Nat) (hK : Kept S w W) (hS : ¬ S g) :
    ∀ j u, (cellsC (L.drop i))[j]? = some u → W.cell? ((⟨g, i * 3, none⟩ : Addr).add j) = some u := fun j u hu => by
  rw [cellsC_drop, List.getElem?_drop] at hu
  rw [add_mid]; exact hK.cell (hc _ u hu) hS
/-- A slice that reads as a list of messages. -/
def ReadsC (w : World) (v : Value) (L : List Cel) : Prop :=
  ∃ ao cap, v = .slice ao L.length cap ∧ (L = [] ∨ ∃ g o, ao = some ⟨g, o, none⟩ ∧ ∀ j u, (cellsC L)[j]? = some u → w.cell? ⟨g, o + j, none⟩ = some u)
theorem ReadsC.of_row {w : World} {base : Nat} {v : Value} {L : List Cel} (h : w.ownsRow base 36 3 v L.length (cellsC L)) : ReadsC w v L := by
  rcases row_form h with ⟨rfl, hn⟩ | ⟨g, cap, rfl, _, _, _, hc⟩
  · exact ⟨none, 0, by rw [hn], .inl (List.eq_nil_of_length_eq_zero hn)⟩
  · exact ⟨_, cap, rfl, .inr ⟨g, 0, rfl, fun j u hu => by rw [Nat.zero_add]; exact hc j u hu⟩⟩
/-- The message that is found at a place. -/
theorem ReadsC.at {w : World} {L : List Cel} {g o : Nat} (hc : ∀ j u, (cellsC L)[j]? = some u → w.cell? ⟨g, o + j, none⟩ = some u) {i : Nat} {m : Cel} (hm : L[i]? = some m) :
    w.cell? ⟨g, o + i * 3, none⟩ = some (.string m.k) ∧ w.cell? ⟨g, o + i * 3 + 1, none⟩ = some (.int .i64 m.s) ∧ w.cell? ⟨g, o + i * 3 + 2, none⟩ = some (.string m.v) := by
  obtain ⟨h0, h1, h2⟩ := cellsC_get L i m hm
  exact ⟨hc _ _ h0, hc _ _ h1, hc _ _ h2⟩
theorem ReadsC.kept {S : Nat → Prop} {w w' : World} {v : Value} {L : List Cel} (h : ReadsC w v L) (hK : Kept S w w') (hS : ∀ k, v.ownBlock = some k → ¬ S k) : ReadsC w' v L := by
  obtain ⟨ao, cap, rfl, h⟩ := h
  refine ⟨ao, cap, rfl, ?_⟩
  rcases h with h | ⟨g, o, rfl, hc⟩
  · exact .inl h
  · exact .inr ⟨g, o, rfl, fun j u hu => hK.cell (hc j u hu) (hS g rfl)⟩
theorem ReadsC.below {B : Nat} {w w' : World} {v : Value} {L : List Cel} (h : ReadsC w v L) (hb : Below B w w') (hB : w.heap.size ≤ B) : ReadsC w' v L := by
  obtain ⟨ao, cap, rfl, h⟩ := h
  refine ⟨ao, cap, rfl, ?_⟩
  rcases h with h | ⟨g, o, rfl, hc⟩
  · exact .inl h
  · exact .inr ⟨g, o, rfl, fun j u hu => (hb.cell (p := ⟨g, o + j, none⟩) (Nat.lt_of_lt_of_le (World.block_lt_of_cell? _ _ (hc j u hu)) hB)).trans (hc j u hu)⟩

def eqC (a b : Cel) : Bool := a.k.toList == b.k.toList && (a.s == b.s && a.v.toList == b.v.toList)
theorem bytes_eq {x y : ByteArray} (h : x.toList = y.toList) : x = y := by
  rw [ByteArray.toList_eq, ByteArray.toList_eq] at h
  exact ByteArray.ext (Array.ext' h)
theorem eqC_true {a b : Cel} : eqC a b = true ↔ a = b := by
  unfold eqC
  constructor
  · intro h
    simp only [Bool.and_eq_true, beq_iff_eq] at h
    obtain ⟨h1, h2, h3⟩ := h
    cases a; cases b
    simp only at h1 h2 h3
    rw [bytes_eq h1, h2, bytes_eq h3]
  · rintro rfl; simp
theorem eqC_false {a b : Cel} : eqC a b = false ↔ ¬ a = b := by rw [← eqC_true]; simp
theorem s36 : Try.prog.stoodInHeld 36 = false := by kernel_rfl
theorem g36 : Try.prog.eqGuardType Try.prog.depth 36 = false := by kernel_rfl
theorem neq36 (m k : Cel) (w : World) : (binOp .neq 36 (.agg #[.string m.k, .int .i64 m.s, .string m.v]) (.agg #[.string k.k, .int .i64 k.s, .string k.v])).run Try.prog w = .ok (.bool (!eqC m k)) w := by
  have h1 := s36
  by_cases a : m.k.toList = k.k.toList <;> by_cases b : m.s = k.s <;> by_cases c : m.v.toList = k.v.toList <;> simp [go_sem, eqC, h1, a, b, c]
theorem eql36 (m k : Cel) (w : World) : (binOp .eql 36 (.agg #[.string m.k, .int .i64 m.s, .string m.v]) (.agg #[.string k.k, .int .i64 k.s, .string k.v])).run Try.prog w = .ok (.bool (eqC m k)) w := by
  have h1 := s36
  by_cases a : m.k.toList = k.k.toList <;> by_cases b : m.s = k.s <;> by_cases c : m.v.toList = k.v.toList <;> simp [go_sem, eqC, h1, a, b, c]

/-- May a cell be? -/
def mayC (c : Cel) : Bool := decide (1 ≤ c.k.size) && decide (c.k.size ≤ 64) && decide (0 ≤ c.s) && decide (c.v.size ≤ 128)
theorem nil_iff {x : ByteArray} : x.toList = [] ↔ x.size = 0 := by
  have hs : x.toList.length = x.size := by rw [ByteArray.toList_eq]; exact Array.length_toList
  rw [← hs]; exact List.length_eq_zero_iff.symm
theorem emp_iff {x : ByteArray} : x = ByteArray.empty ↔ x.size = 0 := by simp

theorem ret_bool' {x y : Bool} {w w' : World} (h : x = y) (h2 : Kept (fun _ => False) w w') : Ending.returned (.bool x) = .returned (.bool y) ∧ Kept (fun _ => False) w w' := ⟨by rw [h], h2⟩

theorem may_any (c : Cel) (w : World) : Calls Try.prog 37 #[.agg #[.string c.k, .int .i64 c.s, .string c.v]] w fun e w' => e = .returned (.bool (mayC c)) ∧ Kept (fun _ => False) w w' := by
  go_enter Try.func37, Try.ntmps37
  go_wp2
  all_goals go_ret
  all_goals exact ret_bool' (by first | (simp [mayC, aheadC, sLt, sEq, *]; done) | (rw [Bool.eq_iff_iff]; (try simp only [nil_iff] at *); simp [mayC]; omega) | (rw [Bool.eq_iff_iff]; (try simp only [nil_iff] at *); simp [mayC, nil_iff]; simp only [emp_iff]; omega)) (by repeat (first | exact Kept.refl _ _ | apply Kept.alloc | apply Kept.drew))
theorem rmay_any (c : Cel) (w : World) : Calls Try.prog 41 #[.agg #[.string c.k, .int .i64 c.s, .string c.v]] w fun e w' => e = .returned (.bool (mayC c)) ∧ Kept (fun _ => False) w w' := by
  go_enter Try.func41, Try.ntmps41
  go_wp2
  all_goals go_ret
  all_goals exact ret_bool' (by first | (simp [mayC, aheadC, sLt, sEq, *]; done) | (rw [Bool.eq_iff_iff]; (try simp only [nil_iff] at *); simp [mayC]; omega) | (rw [Bool.eq_iff_iff]; (try simp only [nil_iff] at *); simp [mayC, List.isEmpty_iff, nil_iff]; simp only [emp_iff]; omega)) (by repeat (first | exact Kept.refl _ _ | apply Kept.alloc | apply Kept.drew))

theorem cell_cmp2 (a b : Cel) (w : World) : Calls Try.prog 38 #[.agg #[.string a.k, .int .i64 a.s, .string a.v], .agg #[.string b.k, .int .i64 b.s, .string b.v]] w fun e w' => e = .returned (.int .i64 (cmpC a b)) ∧ Kept (fun _ => False) w w' := by
  go_enter Try.func38, Try.ntmps38
  go_wp2_with (go_at_call 42; refine (cell_cmp a b _).mono ?_; rintro e w4 ⟨rfl, K4⟩)
  go_ret
  exact ⟨rfl, (((Kept.refl _ _).alloc _).alloc _).trans K4 (fun _ _ h => h) (fun _ _ h => h)⟩

def aheadC (a b : Cel) : Bool := sLt a.k b.k || (sEq a.k b.k && decide (a.s > b.s))
theorem ahead_any (a b : Cel) (w : World) : Calls Try.prog 27 #[.agg #[.string a.k, .int .i64 a.s, .string a.v], .agg #[.string b.k, .int .i64 b.s, .string b.v]] w fun e w' => e = .returned (.bool (aheadC a b)) ∧ Kept (fun _ => False) w w' := by
  cases h1 : Op.bytesLess a.k.toList b.k.toList
  · cases h2 : a.k.toList == b.k.toList
    · go_enter Try.func27, Try.ntmps27
      go_wp2
      all_goals go_ret
      all_goals exact ret_bool' (by first | (simp [aheadC, sLt, sEq, *]; done) | (rw [Bool.eq_iff_iff]; (try simp only [nil_iff] at *); simp [mayC]; omega) | (rw [Bool.eq_iff_iff]; (try simp only [nil_iff] at *); simp [mayC, List.isEmpty_iff, nil_iff]; simp only [emp_iff]; omega)) (by repeat (first | exact Kept.refl _ _ | apply Kept.alloc | apply Kept.drew))
    · go_enter Try.func27, Try.ntmps27
      go_wp2
      all_goals go_ret
      all_goals exact ret_bool' (by first | (simp [aheadC, sLt, sEq, *]; done) | (rw [Bool.eq_iff_iff]; (try simp only [nil_iff] at *); simp [mayC]; omega) | (rw [Bool.eq_iff_iff]; (try simp only [nil_iff] at *); simp [mayC, List.isEmpty_iff, nil_iff]; simp only [emp_iff]; omega)) (by repeat (first | exact Kept.refl _ _ | apply Kept.alloc | apply Kept.drew))
  · go_enter Try.func27, Try.ntmps27
    go_wp2
    all_goals go_ret
    all_goals exact ret_bool' (by first | (simp [aheadC, sLt, sEq, *]; done) | (rw [Bool.eq_iff_iff]; (try simp only [nil_iff] at *); simp [mayC]; omega) | (rw [Bool.eq_iff_iff]; (try simp only [nil_iff] at *); simp [mayC, List.isEmpty_iff, nil_iff]; simp only [emp_iff]; omega)) (by repeat (first | exact Kept.refl _ _ | apply Kept.alloc | apply Kept.drew))
end Go.Proofs.Ytfhpjopdndnmgaa
