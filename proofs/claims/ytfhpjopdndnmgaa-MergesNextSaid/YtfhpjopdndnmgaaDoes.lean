/- The chapter's examples: they come out. -/
import Derived.Test.YtfhpjopdndnmgaaLawA
import Derived.Test.YtfhpjopdndnmgaaOps
namespace Go.Proofs.Ytfhpjopdndnmgaa
open Go.RowKit

def a5 : Cel := ⟨⟨#[97]⟩, 5, ⟨#[]⟩⟩
def b2 : Cel := ⟨⟨#[98]⟩, 2, ⟨#[]⟩⟩
def a7 : Cel := ⟨⟨#[97]⟩, 7, ⟨#[]⟩⟩
def x5 : Cel := ⟨⟨#[97]⟩, 5, ⟨#[120]⟩⟩
def c1 : Cel := ⟨⟨#[99]⟩, 1, ⟨#[]⟩⟩
theorem merge_some : mergeL [[a5, b2], [a7, x5, c1]] = [a7, a5, x5, b2, c1] := by
  simp [mergeL, total, mergeF, bestUp, hdR, nth, aheadC, sLt, sEq, ByteArray.toList_eq, Op.bytesLess, a5, b2, a7, x5, c1]
theorem first_some : firstF [a7, a5, x5, b2, c1] = [a7, b2, c1] := by
  simp [firstF, addF, stays, nth, sEq, ByteArray.toList_eq, a5, b2, a7, x5, c1]
theorem sorted_some : [[a5, b2], [a7, x5, c1]].all sortedB = true := by
  simp [sortedB, List.range, List.range.loop, goodAt, mayC, nth, aheadC, sLt, sEq, ByteArray.toList_eq, Op.bytesLess, ByteArray.size, a5, b2, a7, x5, c1]
theorem sorted_other : [[b2, a5]].all sortedB = false := by
  simp [sortedB, List.range, List.range.loop, goodAt, mayC, nth, aheadC, sLt, sEq, ByteArray.toList_eq, Op.bytesLess, ByteArray.size, a5, b2]

theorem some_any (w : World) : Calls Try.prog 29 #[] w fun e w' => e = .returned (.slice (some ⟨w.heap.size + 2, 0, none⟩) 2 2) ∧ w' = ((w.alloc (.cells #[.string ⟨#[97]⟩, .int .i64 5, .string ⟨#[]⟩, .string ⟨#[98]⟩, .int .i64 2, .string ⟨#[]⟩] 36)).alloc (.cells #[.string ⟨#[97]⟩, .int .i64 7, .string ⟨#[]⟩, .string ⟨#[97]⟩, .int .i64 5, .string ⟨#[120]⟩, .string ⟨#[99]⟩, .int .i64 1, .string ⟨#[]⟩] 36)).alloc (.cells #[.slice (some ⟨w.heap.size, 0, none⟩) 2 2, .slice (some ⟨w.heap.size + 1, 0, none⟩) 3 3] 25) := by
  go_enter Try.func29, Try.ntmps29
  go_wp2
  go_ret
  exact ⟨by simp, rfl⟩

theorem readsC_lit {w : World} {n cap : Nat} {L : List Cel} {cs : Array Value} (hb : w.heap[n]? = some (.cells cs 36 (0, 0))) (hcs : cs.toList = cellsC L) : ReadsC w (.slice (some ⟨n, 0, none⟩) L.length cap) L :=
  ⟨_, cap, rfl, .inr ⟨n, 0, rfl, fun j u hu => by
    rw [Nat.zero_add]
    rw [cell_of_row w n j cs 36 (0, 0) hb, ← Array.getElem?_toList, hcs]; exact hu⟩⟩
theorem same_yes (w : World) (va vb : Value) (A : List Cel) (ha : ReadsC w va A) (hb : ReadsC w vb A) (hl : A.length ≤ 1000) :
    Calls Try.prog 15 #[va, vb] w fun e w' => e = .returned (.bool true) ∧ Kept (fun _ => False) w w' :=
  (same_any w va vb A A ha hb hl hl).mono fun e w' ⟨h1, h2⟩ => ⟨by rw [h1, sameB_true.2 rfl], h2⟩
theorem keptFF {a b c : World} (h : Kept (fun _ => False) a b) (k : Kept (fun _ => False) b c) : Kept (fun _ => False) a c := h.trans k (fun _ _ f => f) (fun _ _ f => f)

set_option maxRecDepth 100000 in
set_option maxHeartbeats 8000000 in
theorem does_any (w : World) : Calls Try.prog 17 #[] w fun e w' => e = .returned (.bool true) ∧ Kept (fun _ => False) w w' := by
  obtain ⟨W, hW⟩ : ∃ W, ((w.alloc (.cells #[.string ⟨#[97]⟩, .int .i64 5, .string ⟨#[]⟩, .string ⟨#[98]⟩, .int .i64 2, .string ⟨#[]⟩] 36)).alloc (.cells #[.string ⟨#[97]⟩, .int .i64 7, .string ⟨#[]⟩, .string ⟨#[97]⟩, .int .i64 5, .string ⟨#[120]⟩, .string ⟨#[99]⟩, .int .i64 1, .string ⟨#[]⟩] 36)).alloc (.cells #[.slice (some ⟨w.heap.size, 0, none⟩) 2 2, .slice (some ⟨w.heap.size + 1, 0, none⟩) 3 3] 25) = W := ⟨_, rfl⟩
  have k0 : Kept (fun _ => False) w W := by rw [← hW]; exact (((Kept.refl _ w).alloc _).alloc _).alloc _
  have q0 : W.heap[w.heap.size]? = some (.cells #[.string ⟨#[97]⟩, .int .i64 5, .string ⟨#[]⟩, .string ⟨#[98]⟩, .int .i64 2, .string ⟨#[]⟩] 36 (0, 0)) := by
    have h := heap_first w (.cells #[.string ⟨#[97]⟩, .int .i64 5, .string ⟨#[]⟩, .string ⟨#[98]⟩, .int .i64 2, .string ⟨#[]⟩] 36) (.cells #[.string ⟨#[97]⟩, .int .i64 7, .string ⟨#[]⟩, .string ⟨#[97]⟩, .int .i64 5, .string ⟨#[120]⟩, .string ⟨#[99]⟩, .int .i64 1, .string ⟨#[]⟩] 36)
    rw [← hW]; exact (Below.heap_alloc _ _ _ (by simp; omega)).trans h
  have q1 : W.heap[w.heap.size + 1]? = some (.cells #[.string ⟨#[97]⟩, .int .i64 7, .string ⟨#[]⟩, .string ⟨#[97]⟩, .int .i64 5, .string ⟨#[120]⟩, .string ⟨#[99]⟩, .int .i64 1, .string ⟨#[]⟩] 36 (0, 0)) := by
    have h := heap_second w (.cells #[.string ⟨#[97]⟩, .int .i64 5, .string ⟨#[]⟩, .string ⟨#[98]⟩, .int .i64 2, .string ⟨#[]⟩] 36) (.cells #[.string ⟨#[97]⟩, .int .i64 7, .string ⟨#[]⟩, .string ⟨#[97]⟩, .int .i64 5, .string ⟨#[120]⟩, .string ⟨#[99]⟩, .int .i64 1, .string ⟨#[]⟩] 36)
    rw [← hW]; exact (Below.heap_alloc _ _ _ (by simp)).trans h
  have q2 : W.heap[w.heap.size + 2]? = some (.cells #[.slice (some ⟨w.heap.size, 0, none⟩) 2 2, .slice (some ⟨w.heap.size + 1, 0, none⟩) 3 3] 25 (0, 0)) := by
    rw [← hW]
    have h := heap_alloc_new ((w.alloc (.cells #[.string ⟨#[97]⟩, .int .i64 5, .string ⟨#[]⟩, .string ⟨#[98]⟩, .int .i64 2, .string ⟨#[]⟩] 36)).alloc (.cells #[.string ⟨#[97]⟩, .int .i64 7, .string ⟨#[]⟩, .string ⟨#[97]⟩, .int .i64 5, .string ⟨#[120]⟩, .string ⟨#[99]⟩, .int .i64 1, .string ⟨#[]⟩] 36)) (.cells #[.slice (some ⟨w.heap.size, 0, none⟩) 2 2, .slice (some ⟨w.heap.size + 1, 0, none⟩) 3 3] 25)
    simpa using h
  have g0 : W.cell? ⟨w.heap.size + 2, 0, none⟩ = some (.slice (some ⟨w.heap.size, 0, none⟩) 2 2) := by rw [cell_of_row W _ _ _ _ _ q2]; rfl
  have g1 : W.cell? ⟨w.heap.size + 2, 1, none⟩ = some (.slice (some ⟨w.heap.size + 1, 0, none⟩) 3 3) := by rw [cell_of_row W _ _ _ _ _ q2]; rfl
  have g2 : W.cell? ⟨w.heap.size, 0, none⟩ = some (.string ⟨#[97]⟩) := by rw [cell_of_row W _ _ _ _ _ q0]; rfl
  have g3 : W.cell? ⟨w.heap.size, 1, none⟩ = some (.int .i64 5) := by rw [cell_of_row W _ _ _ _ _ q0]; rfl
  have g4 : W.cell? ⟨w.heap.size, 2, none⟩ = some (.string ⟨#[]⟩) := by rw [cell_of_row W _ _ _ _ _ q0]; rfl
  have g5 : W.cell? ⟨w.heap.size, 3, none⟩ = some (.string ⟨#[98]⟩) := by rw [cell_of_row W _ _ _ _ _ q0]; rfl
  have g6 : W.cell? ⟨w.heap.size, 4, none⟩ = some (.int .i64 2) := by rw [cell_of_row W _ _ _ _ _ q0]; rfl
  have g7 : W.cell? ⟨w.heap.size, 5, none⟩ = some (.string ⟨#[]⟩) := by rw [cell_of_row W _ _ _ _ _ q0]; rfl
  have g8 : W.cell? ⟨w.heap.size + 1, 0, none⟩ = some (.string ⟨#[97]⟩) := by rw [cell_of_row W _ _ _ _ _ q1]; rfl
  have g9 : W.cell? ⟨w.heap.size + 1, 1, none⟩ = some (.int .i64 7) := by rw [cell_of_row W _ _ _ _ _ q1]; rfl
  have g10 : W.cell? ⟨w.heap.size + 1, 2, none⟩ = some (.string ⟨#[]⟩) := by rw [cell_of_row W _ _ _ _ _ q1]; rfl
  have g11 : W.cell? ⟨w.heap.size + 1, 3, none⟩ = some (.string ⟨#[97]⟩) := by rw [cell_of_row W _ _ _ _ _ q1]; rfl
  have g12 : W.cell? ⟨w.heap.size + 1, 4, none⟩ = some (.int .i64 5) := by rw [cell_of_row W _ _ _ _ _ q1]; rfl
  have g13 : W.cell? ⟨w.heap.size + 1, 5, none⟩ = some (.string ⟨#[120]⟩) := by rw [cell_of_row W _ _ _ _ _ q1]; rfl
  have g14 : W.cell? ⟨w.heap.size + 1, 6, none⟩ = some (.string ⟨#[99]⟩) := by rw [cell_of_row W _ _ _ _ _ q1]; rfl
  have g15 : W.cell? ⟨w.heap.size + 1, 7, none⟩ = some (.int .i64 1) := by rw [cell_of_row W _ _ _ _ _ q1]; rfl
  have g16 : W.cell? ⟨w.heap.size + 1, 8, none⟩ = some (.string ⟨#[]⟩) := by rw [cell_of_row W _ _ _ _ _ q1]; rfl
  have hR : ReadsR W (.slice (some ⟨w.heap.size + 2, 0, none⟩) 2 2) [[a5, b2], [a7, x5, c1]] := by
    refine ⟨_, 2, rfl, .inr ⟨_, 0, rfl, fun k R hk => ?_⟩⟩
    match k, hk with
    | 0, hk => cases hk; exact ⟨_, g0, readsC_lit (L := [a5, b2]) q0 rfl⟩
    | 1, hk => cases hk; exact ⟨_, g1, readsC_lit (L := [a7, x5, c1]) q1 rfl⟩
  have HR := Lib.hid hR; have K0 := Lib.hid k0; have HW := Lib.hid hW
  clear hR k0 q0 q1 q2 hW
  go_enter Try.func17, Try.ntmps17
  go_wp2_with fail
  refine (some_any w).mono ?_
  rintro e w0 ⟨rfl, rfl⟩
  rw [HW.out]
  go_wp2_with fail
  refine (all_any W _ _ HR.out (by simp) (by simp) (by simp [total])).mono ?_
  rintro e w1 ⟨k1, ⟨h, _⟩ | ⟨_, u1, rfl, o1⟩⟩
  · rw [sorted_some] at h; cases h
  rw [merge_some] at o1
  have r1 : ReadsC w1 u1 [a7, a5, x5, b2, c1] := ReadsC.of_row o1
  have HR1 := Lib.hid (HR.out.keptF k1); have K1 := Lib.hid k1; have R1' := Lib.hid r1
  clear k1 o1 r1
  go_wp2_with fail
  refine (newest_any w1 _ _ HR1.out (by simp) (by simp) (by simp [total])).mono ?_
  rintro e w2 ⟨k2, ⟨h, _⟩ | ⟨_, u2, rfl, o2⟩⟩
  · rw [sorted_some] at h; cases h
  rw [merge_some, first_some] at o2
  have r2 : ReadsC w2 u2 [a7, b2, c1] := ReadsC.of_row o2
  have K2 := Lib.hid k2; have R1'' := Lib.hid (R1'.out.keptF k2); have R2' := Lib.hid r2
  clear k2 o2 r2
  go_wp2_with fail
  have hR3 : ReadsR ((w2.alloc (.cells #[.string ⟨#[98]⟩, .int .i64 2, .string ⟨#[]⟩, .string ⟨#[97]⟩, .int .i64 5, .string ⟨#[]⟩] 36)).alloc (.cells #[.slice (some ⟨w2.heap.size, 0, none⟩) 2 2] 25)) (.slice (some ⟨w2.heap.size + 1, 0, none⟩) 1 1) [[b2, a5]] := by
    refine ⟨_, 1, rfl, .inr ⟨_, 0, rfl, fun k R hk => ?_⟩⟩
    match k, hk with
    | 0, hk => cases hk; exact ⟨.slice (some ⟨w2.heap.size, 0, none⟩) 2 2, by simp [go_sem], readsC_lit (L := [b2, a5]) (heap_first _ _ _) rfl⟩
  refine (all_any _ _ _ hR3 (by simp) (by simp) (by simp [total])).mono ?_
  clear hR3
  rintro e w3 ⟨k3, hor⟩
  have he : e = .returned (.tuple #[.slice none 0 0, .int .i64 2]) := by
    rcases hor with ⟨_, h⟩ | ⟨h, _⟩
    · exact h
    · rw [sorted_other] at h; cases h
  subst he
  clear hor
  have k3' : Kept (fun _ => False) w2 w3 := keptFF (((Kept.refl _ w2).alloc _).alloc _) k3
  have KW := Lib.hid (keptFF (keptFF K1.out K2.out) k3')
  have R1 := Lib.hid (R1''.out.keptF k3'); have R2 := Lib.hid (R2'.out.keptF k3')
  clear k3 k3'
  have f0 := KW.out.cell g0 (fun f => f)
  have f1 := KW.out.cell g1 (fun f => f)
  have f2 := KW.out.cell g2 (fun f => f)
  have f3 := KW.out.cell g3 (fun f => f)
  have f4 := KW.out.cell g4 (fun f => f)
  have f5 := KW.out.cell g5 (fun f => f)
  have f6 := KW.out.cell g6 (fun f => f)
  have f7 := KW.out.cell g7 (fun f => f)
  have f8 := KW.out.cell g8 (fun f => f)
  have f9 := KW.out.cell g9 (fun f => f)
  have f10 := KW.out.cell g10 (fun f => f)
  have f11 := KW.out.cell g11 (fun f => f)
  have f12 := KW.out.cell g12 (fun f => f)
  have f13 := KW.out.cell g13 (fun f => f)
  have f14 := KW.out.cell g14 (fun f => f)
  have f15 := KW.out.cell g15 (fun f => f)
  have f16 := KW.out.cell g16 (fun f => f)
  clear g0 g1 g2 g3 g4 g5 g6 g7 g8 g9 g10 g11 g12 g13 g14 g15 g16
  have KW0 := Lib.hid (keptFF K0.out KW.out)
  go_upto_region 5 with fail
  refine wp_region_held_drew (S := (fun w' => w'.cell? ⟨w.heap.size + 2, 0, none⟩ = some (.slice (some ⟨w.heap.size, 0, none⟩) 2 2) ∧ w'.cell? ⟨w.heap.size + 2, 1, none⟩ = some (.slice (some ⟨w.heap.size + 1, 0, none⟩) 3 3) ∧ w'.cell? ⟨w.heap.size, 0, none⟩ = some (.string ⟨#[97]⟩) ∧ w'.cell? ⟨w.heap.size, 1, none⟩ = some (.int .i64 5) ∧ w'.cell? ⟨w.heap.size, 2, none⟩ = some (.string ⟨#[]⟩) ∧ w'.cell? ⟨w.heap.size, 3, none⟩ = some (.string ⟨#[98]⟩) ∧ w'.cell? ⟨w.heap.size, 4, none⟩ = some (.int .i64 2) ∧ w'.cell? ⟨w.heap.size, 5, none⟩ = some (.string ⟨#[]⟩) ∧ w'.cell? ⟨w.heap.size + 1, 0, none⟩ = some (.string ⟨#[97]⟩) ∧ w'.cell? ⟨w.heap.size + 1, 1, none⟩ = some (.int .i64 7) ∧ w'.cell? ⟨w.heap.size + 1, 2, none⟩ = some (.string ⟨#[]⟩) ∧ w'.cell? ⟨w.heap.size + 1, 3, none⟩ = some (.string ⟨#[97]⟩) ∧ w'.cell? ⟨w.heap.size + 1, 4, none⟩ = some (.int .i64 5) ∧ w'.cell? ⟨w.heap.size + 1, 5, none⟩ = some (.string ⟨#[120]⟩) ∧ w'.cell? ⟨w.heap.size + 1, 6, none⟩ = some (.string ⟨#[99]⟩) ∧ w'.cell? ⟨w.heap.size + 1, 7, none⟩ = some (.int .i64 1) ∧ w'.cell? ⟨w.heap.size + 1, 8, none⟩ = some (.string ⟨#[]⟩))) (by kernel_rfl) ?_ (fun hHeld => ?_)
  · exact ⟨f0, f1, f2, f3, f4, f5, f6, f7, f8, f9, f10, f11, f12, f13, f14, f15, f16⟩
  refine wpAnyH_take (i := 0) (v := ?_) opAt0 (by kernel_rfl) (by kernel_rfl) (by kernel_rfl) (fun _ _ _ h => h) (Or.inl ⟨by rfl, ?_⟩) hHeld ?_
  case refine_2 => (intro w hSw; (try dsimp only at hSw); go_simp; all_goals (with_reducible rfl))
  (try simp only [Act.put]); (try simp only [List.setIfInBounds_toArray]); (try simp only [List.set_cons_succ]); (try simp only [List.set_cons_zero])
  refine wpAnyH_take (i := 1) (v := ?_) opAt1 (by kernel_rfl) (by kernel_rfl) (by kernel_rfl) (fun _ _ _ h => h) (Or.inl ⟨by rfl, ?_⟩) hHeld ?_
  case refine_2 => (intro w hSw; (try dsimp only at hSw); go_simp; all_goals (with_reducible rfl))
  (try simp only [Act.put]); (try simp only [List.setIfInBounds_toArray]); (try simp only [List.set_cons_succ]); (try simp only [List.set_cons_zero])
  refine wpAnyH_take (i := 2) (v := ?_) opAt2 (by kernel_rfl) (by kernel_rfl) (by kernel_rfl) (fun _ _ _ h => h) (Or.inl ⟨by rfl, ?_⟩) hHeld ?_
  case refine_2 => (intro w hSw; (try dsimp only at hSw); go_simp; all_goals (with_reducible rfl))
  (try simp only [Act.put]); (try simp only [List.setIfInBounds_toArray]); (try simp only [List.set_cons_succ]); (try simp only [List.set_cons_zero])
  refine wpAnyH_take (i := 3) (v := ?_) opAt3 (by kernel_rfl) (by kernel_rfl) (by kernel_rfl) (fun _ _ _ h => h) (Or.inl ⟨by rfl, ?_⟩) hHeld ?_
  case refine_2 => (intro w hSw; (try dsimp only at hSw); go_simp; all_goals (with_reducible rfl))
  (try simp only [Act.put]); (try simp only [List.setIfInBounds_toArray]); (try simp only [List.set_cons_succ]); (try simp only [List.set_cons_zero])
  refine wpAnyH_take (i := 4) (v := ?_) opAt4 (by kernel_rfl) (by kernel_rfl) (by kernel_rfl) (fun _ _ _ h => h) (Or.inl ⟨by rfl, ?_⟩) hHeld ?_
  case refine_2 => (intro w hSw; (try dsimp only at hSw); go_simp; all_goals (with_reducible rfl))
  (try simp only [Act.put]); (try simp only [List.setIfInBounds_toArray]); (try simp only [List.set_cons_succ]); (try simp only [List.set_cons_zero])
  refine wpAnyH_take (i := 5) (v := ?_) opAt5 (by kernel_rfl) (by kernel_rfl) (by kernel_rfl) (fun _ _ _ h => h) (Or.inl ⟨by rfl, ?_⟩) hHeld ?_
  case refine_2 => (intro w hSw; (try dsimp only at hSw); go_simp; all_goals (with_reducible rfl))
  (try simp only [Act.put]); (try simp only [List.setIfInBounds_toArray]); (try simp only [List.set_cons_succ]); (try simp only [List.set_cons_zero])
  refine wpAnyH_take (i := 6) (v := ?_) opAt6 (by kernel_rfl) (by kernel_rfl) (by kernel_rfl) (fun _ _ _ h => h) (Or.inl ⟨by rfl, ?_⟩) hHeld ?_
  case refine_2 => (intro w hSw; (try dsimp only at hSw); go_simp; all_goals (with_reducible rfl))
  (try simp only [Act.put]); (try simp only [List.setIfInBounds_toArray]); (try simp only [List.set_cons_succ]); (try simp only [List.set_cons_zero])
  refine wpAnyH_take (i := 7) (v := ?_) opAt7 (by kernel_rfl) (by kernel_rfl) (by kernel_rfl) (fun _ _ _ h => h) (Or.inl ⟨by rfl, ?_⟩) hHeld ?_
  case refine_2 => (intro w hSw; (try dsimp only at hSw); go_simp; all_goals (with_reducible rfl))
  (try simp only [Act.put]); (try simp only [List.setIfInBounds_toArray]); (try simp only [List.set_cons_succ]); (try simp only [List.set_cons_zero])
  refine wpAnyH_take (i := 8) (v := ?_) opAt8 (by kernel_rfl) (by kernel_rfl) (by kernel_rfl) (fun _ _ _ h => h) (Or.inl ⟨by rfl, ?_⟩) hHeld ?_
  case refine_2 => (intro w hSw; (try dsimp only at hSw); go_simp; all_goals (with_reducible rfl))
  (try simp only [Act.put]); (try simp only [List.setIfInBounds_toArray]); (try simp only [List.set_cons_succ]); (try simp only [List.set_cons_zero])
  refine wpAnyH_take (i := 9) (v := ?_) opAt9 (by kernel_rfl) (by kernel_rfl) (by kernel_rfl) (fun _ _ _ h => h) (Or.inl ⟨by rfl, ?_⟩) hHeld ?_
  case refine_2 => (intro w hSw; (try dsimp only at hSw); go_simp; all_goals (with_reducible rfl))
  (try simp only [Act.put]); (try simp only [List.setIfInBounds_toArray]); (try simp only [List.set_cons_succ]); (try simp only [List.set_cons_zero])
  refine wpAnyH_take (i := 10) (v := ?_) opAt10 (by kernel_rfl) (by kernel_rfl) (by kernel_rfl) (fun _ _ _ h => h) (Or.inl ⟨by rfl, ?_⟩) hHeld ?_
  case refine_2 => (intro w hSw; (try dsimp only at hSw); go_simp; all_goals (with_reducible rfl))
  (try simp only [Act.put]); (try simp only [List.setIfInBounds_toArray]); (try simp only [List.set_cons_succ]); (try simp only [List.set_cons_zero])
  refine wpAnyH_take (i := 11) (v := ?_) opAt11 (by kernel_rfl) (by kernel_rfl) (by kernel_rfl) (fun _ _ _ h => h) (Or.inl ⟨by rfl, ?_⟩) hHeld ?_
  case refine_2 => (intro w hSw; (try dsimp only at hSw); go_simp; all_goals (with_reducible rfl))
  (try simp only [Act.put]); (try simp only [List.setIfInBounds_toArray]); (try simp only [List.set_cons_succ]); (try simp only [List.set_cons_zero])
  refine wpAnyH_take (i := 12) (v := ?_) opAt12 (by kernel_rfl) (by kernel_rfl) (by kernel_rfl) (fun _ _ _ h => h) (Or.inl ⟨by rfl, ?_⟩) hHeld ?_
  case refine_2 => (intro w hSw; (try dsimp only at hSw); go_simp; all_goals (with_reducible rfl))
  (try simp only [Act.put]); (try simp only [List.setIfInBounds_toArray]); (try simp only [List.set_cons_succ]); (try simp only [List.set_cons_zero])
  refine wpAnyH_take (i := 13) (v := ?_) opAt13 (by kernel_rfl) (by kernel_rfl) (by kernel_rfl) (fun _ _ _ h => h) (Or.inl ⟨by rfl, ?_⟩) hHeld ?_
  case refine_2 => (intro w hSw; (try dsimp only at hSw); go_simp; all_goals (with_reducible rfl))
  (try simp only [Act.put]); (try simp only [List.setIfInBounds_toArray]); (try simp only [List.set_cons_succ]); (try simp only [List.set_cons_zero])
  refine wpAnyH_take (i := 14) (v := ?_) opAt14 (by kernel_rfl) (by kernel_rfl) (by kernel_rfl) (fun _ _ _ h => h) (Or.inl ⟨by rfl, ?_⟩) hHeld ?_
  case refine_2 => (intro w hSw; (try dsimp only at hSw); go_simp; all_goals (with_reducible rfl))
  (try simp only [Act.put]); (try simp only [List.setIfInBounds_toArray]); (try simp only [List.set_cons_succ]); (try simp only [List.set_cons_zero])
  refine wpAnyH_take (i := 15) (v := ?_) opAt15 (by kernel_rfl) (by kernel_rfl) (by kernel_rfl) (fun _ _ _ h => h) (Or.inl ⟨by rfl, ?_⟩) hHeld ?_
  case refine_2 => (intro w hSw; (try dsimp only at hSw); go_simp; all_goals (with_reducible rfl))
  (try simp only [Act.put]); (try simp only [List.setIfInBounds_toArray]); (try simp only [List.set_cons_succ]); (try simp only [List.set_cons_zero])
  refine wpAnyH_take (i := 16) (v := ?_) opAt16 (by kernel_rfl) (by kernel_rfl) (by kernel_rfl) (fun _ _ _ h => h) (Or.inl ⟨by rfl, ?_⟩) hHeld ?_
  case refine_2 => (intro w hSw; (try dsimp only at hSw); go_simp; all_goals (with_reducible rfl))
  (try simp only [Act.put]); (try simp only [List.setIfInBounds_toArray]); (try simp only [List.set_cons_succ]); (try simp only [List.set_cons_zero])
  refine wpAnyH_take (i := 17) (v := ?_) opAt17 (by kernel_rfl) (by kernel_rfl) (by kernel_rfl) (fun _ _ _ h => h) (Or.inl ⟨by rfl, ?_⟩) hHeld ?_
  case refine_2 => (intro w hSw; (try dsimp only at hSw); go_simp; all_goals (with_reducible rfl))
  (try simp only [Act.put]); (try simp only [List.setIfInBounds_toArray]); (try simp only [List.set_cons_succ]); (try simp only [List.set_cons_zero])
  refine wpAnyH_take (i := 18) (v := ?_) opAt18 (by kernel_rfl) (by kernel_rfl) (by kernel_rfl) (fun _ _ _ h => h) (Or.inl ⟨by rfl, ?_⟩) hHeld ?_
  case refine_2 => (intro w hSw; (try dsimp only at hSw); go_simp; all_goals (with_reducible rfl))
  (try simp only [Act.put]); (try simp only [List.setIfInBounds_toArray]); (try simp only [List.set_cons_succ]); (try simp only [List.set_cons_zero])
  refine wpAnyH_take (i := 19) (v := ?_) opAt19 (by kernel_rfl) (by kernel_rfl) (by kernel_rfl) (fun _ _ _ h => h) (Or.inl ⟨by rfl, ?_⟩) hHeld ?_
  case refine_2 => (intro w hSw; (try dsimp only at hSw); go_simp; all_goals (with_reducible rfl))
  (try simp only [Act.put]); (try simp only [List.setIfInBounds_toArray]); (try simp only [List.set_cons_succ]); (try simp only [List.set_cons_zero])
  refine wpAnyH_take (i := 20) (v := ?_) opAt20 (by kernel_rfl) (by kernel_rfl) (by kernel_rfl) (fun _ _ _ h => h) (Or.inl ⟨by rfl, ?_⟩) hHeld ?_
  case refine_2 => (intro w hSw; (try dsimp only at hSw); go_simp; all_goals (with_reducible rfl))
  (try simp only [Act.put]); (try simp only [List.setIfInBounds_toArray]); (try simp only [List.set_cons_succ]); (try simp only [List.set_cons_zero])
  refine wpAnyH_take (i := 21) (v := ?_) opAt21 (by kernel_rfl) (by kernel_rfl) (by kernel_rfl) (fun _ _ _ h => h) (Or.inl ⟨by rfl, ?_⟩) hHeld ?_
  case refine_2 => (intro w hSw; (try dsimp only at hSw); go_simp; all_goals (with_reducible rfl))
  (try simp only [Act.put]); (try simp only [List.setIfInBounds_toArray]); (try simp only [List.set_cons_succ]); (try simp only [List.set_cons_zero])
  refine wpAnyH_take (i := 22) (v := ?_) opAt22 (by kernel_rfl) (by kernel_rfl) (by kernel_rfl) (fun _ _ _ h => h) (Or.inl ⟨by rfl, ?_⟩) hHeld ?_
  case refine_2 => (intro w hSw; (try dsimp only at hSw); go_simp; all_goals (with_reducible rfl))
  (try simp only [Act.put]); (try simp only [List.setIfInBounds_toArray]); (try simp only [List.set_cons_succ]); (try simp only [List.set_cons_zero])
  refine wpAnyH_take (i := 23) (v := ?_) opAt23 (by kernel_rfl) (by kernel_rfl) (by kernel_rfl) (fun _ _ _ h => h) (Or.inl ⟨by rfl, ?_⟩) hHeld ?_
  case refine_2 => (intro w hSw; (try dsimp only at hSw); go_simp; all_goals (with_reducible rfl))
  (try simp only [Act.put]); (try simp only [List.setIfInBounds_toArray]); (try simp only [List.set_cons_succ]); (try simp only [List.set_cons_zero])
  refine wpAnyH_take (i := 24) (v := ?_) opAt24 (by kernel_rfl) (by kernel_rfl) (by kernel_rfl) (fun _ _ _ h => h) (Or.inl ⟨by rfl, ?_⟩) hHeld ?_
  case refine_2 => (intro w hSw; (try dsimp only at hSw); go_simp; all_goals (with_reducible rfl))
  (try simp only [Act.put]); (try simp only [List.setIfInBounds_toArray]); (try simp only [List.set_cons_succ]); (try simp only [List.set_cons_zero])
  refine wpAnyH_take (i := 25) (v := ?_) opAt25 (by kernel_rfl) (by kernel_rfl) (by kernel_rfl) (fun _ _ _ h => h) (Or.inl ⟨by rfl, ?_⟩) hHeld ?_
  case refine_2 => (intro w hSw; (try dsimp only at hSw); go_simp; all_goals (with_reducible rfl))
  (try simp only [Act.put]); (try simp only [List.setIfInBounds_toArray]); (try simp only [List.set_cons_succ]); (try simp only [List.set_cons_zero])
  refine wpAnyH_take (i := 26) (v := ?_) opAt26 (by kernel_rfl) (by kernel_rfl) (by kernel_rfl) (fun _ _ _ h => h) (Or.inl ⟨by rfl, ?_⟩) hHeld ?_
  case refine_2 => (intro w hSw; (try dsimp only at hSw); go_simp; all_goals (with_reducible rfl))
  (try simp only [Act.put]); (try simp only [List.setIfInBounds_toArray]); (try simp only [List.set_cons_succ]); (try simp only [List.set_cons_zero])
  refine wpAnyH_take (i := 27) (v := ?_) opAt27 (by kernel_rfl) (by kernel_rfl) (by kernel_rfl) (fun _ _ _ h => h) (Or.inl ⟨by rfl, ?_⟩) hHeld ?_
  case refine_2 => (intro w hSw; (try dsimp only at hSw); go_simp; all_goals (with_reducible rfl))
  (try simp only [Act.put]); (try simp only [List.setIfInBounds_toArray]); (try simp only [List.set_cons_succ]); (try simp only [List.set_cons_zero])
  refine wpAnyH_take (i := 28) (v := ?_) opAt28 (by kernel_rfl) (by kernel_rfl) (by kernel_rfl) (fun _ _ _ h => h) (Or.inl ⟨by rfl, ?_⟩) hHeld ?_
  case refine_2 => (intro w hSw; (try dsimp only at hSw); go_simp; all_goals (with_reducible rfl))
  (try simp only [Act.put]); (try simp only [List.setIfInBounds_toArray]); (try simp only [List.set_cons_succ]); (try simp only [List.set_cons_zero])
  refine wpAnyH_ready (rs := [29]) (by kernel_rfl) (by simp) ?_
  refine AllReadyH.cons opAt29 (fun K hK => ?_) AllReadyH.nil
  go_simp
  skip
  refine hK.out _ _ ?_ (fun hHeld => ?_)
  · exact ⟨((Kept.refl (fun _ => False) w3.drew).alloc (Obj.cells #[.string ⟨#[97]⟩, .int .i64 7, .string ⟨#[]⟩, .string ⟨#[97]⟩, .int .i64 5, .string ⟨#[]⟩, .string ⟨#[97]⟩, .int .i64 5, .string ⟨#[120]⟩, .string ⟨#[98]⟩, .int .i64 2, .string ⟨#[]⟩, .string ⟨#[99]⟩, .int .i64 1, .string ⟨#[]⟩] 36)).cell hHeld.1 (fun f => f), ((Kept.refl (fun _ => False) w3.drew).alloc (Obj.cells #[.string ⟨#[97]⟩, .int .i64 7, .string ⟨#[]⟩, .string ⟨#[97]⟩, .int .i64 5, .string ⟨#[]⟩, .string ⟨#[97]⟩, .int .i64 5, .string ⟨#[120]⟩, .string ⟨#[98]⟩, .int .i64 2, .string ⟨#[]⟩, .string ⟨#[99]⟩, .int .i64 1, .string ⟨#[]⟩] 36)).cell hHeld.2.1 (fun f => f), ((Kept.refl (fun _ => False) w3.drew).alloc (Obj.cells #[.string ⟨#[97]⟩, .int .i64 7, .string ⟨#[]⟩, .string ⟨#[97]⟩, .int .i64 5, .string ⟨#[]⟩, .string ⟨#[97]⟩, .int .i64 5, .string ⟨#[120]⟩, .string ⟨#[98]⟩, .int .i64 2, .string ⟨#[]⟩, .string ⟨#[99]⟩, .int .i64 1, .string ⟨#[]⟩] 36)).cell hHeld.2.2.1 (fun f => f), ((Kept.refl (fun _ => False) w3.drew).alloc (Obj.cells #[.string ⟨#[97]⟩, .int .i64 7, .string ⟨#[]⟩, .string ⟨#[97]⟩, .int .i64 5, .string ⟨#[]⟩, .string ⟨#[97]⟩, .int .i64 5, .string ⟨#[120]⟩, .string ⟨#[98]⟩, .int .i64 2, .string ⟨#[]⟩, .string ⟨#[99]⟩, .int .i64 1, .string ⟨#[]⟩] 36)).cell hHeld.2.2.2.1 (fun f => f), ((Kept.refl (fun _ => False) w3.drew).alloc (Obj.cells #[.string ⟨#[97]⟩, .int .i64 7, .string ⟨#[]⟩, .string ⟨#[97]⟩, .int .i64 5, .string ⟨#[]⟩, .string ⟨#[97]⟩, .int .i64 5, .string ⟨#[120]⟩, .string ⟨#[98]⟩, .int .i64 2, .string ⟨#[]⟩, .string ⟨#[99]⟩, .int .i64 1, .string ⟨#[]⟩] 36)).cell hHeld.2.2.2.2.1 (fun f => f), ((Kept.refl (fun _ => False) w3.drew).alloc (Obj.cells #[.string ⟨#[97]⟩, .int .i64 7, .string ⟨#[]⟩, .string ⟨#[97]⟩, .int .i64 5, .string ⟨#[]⟩, .string ⟨#[97]⟩, .int .i64 5, .string ⟨#[120]⟩, .string ⟨#[98]⟩, .int .i64 2, .string ⟨#[]⟩, .string ⟨#[99]⟩, .int .i64 1, .string ⟨#[]⟩] 36)).cell hHeld.2.2.2.2.2.1 (fun f => f), ((Kept.refl (fun _ => False) w3.drew).alloc (Obj.cells #[.string ⟨#[97]⟩, .int .i64 7, .string ⟨#[]⟩, .string ⟨#[97]⟩, .int .i64 5, .string ⟨#[]⟩, .string ⟨#[97]⟩, .int .i64 5, .string ⟨#[120]⟩, .string ⟨#[98]⟩, .int .i64 2, .string ⟨#[]⟩, .string ⟨#[99]⟩, .int .i64 1, .string ⟨#[]⟩] 36)).cell hHeld.2.2.2.2.2.2.1 (fun f => f), ((Kept.refl (fun _ => False) w3.drew).alloc (Obj.cells #[.string ⟨#[97]⟩, .int .i64 7, .string ⟨#[]⟩, .string ⟨#[97]⟩, .int .i64 5, .string ⟨#[]⟩, .string ⟨#[97]⟩, .int .i64 5, .string ⟨#[120]⟩, .string ⟨#[98]⟩, .int .i64 2, .string ⟨#[]⟩, .string ⟨#[99]⟩, .int .i64 1, .string ⟨#[]⟩] 36)).cell hHeld.2.2.2.2.2.2.2.1 (fun f => f), ((Kept.refl (fun _ => False) w3.drew).alloc (Obj.cells #[.string ⟨#[97]⟩, .int .i64 7, .string ⟨#[]⟩, .string ⟨#[97]⟩, .int .i64 5, .string ⟨#[]⟩, .string ⟨#[97]⟩, .int .i64 5, .string ⟨#[120]⟩, .string ⟨#[98]⟩, .int .i64 2, .string ⟨#[]⟩, .string ⟨#[99]⟩, .int .i64 1, .string ⟨#[]⟩] 36)).cell hHeld.2.2.2.2.2.2.2.2.1 (fun f => f), ((Kept.refl (fun _ => False) w3.drew).alloc (Obj.cells #[.string ⟨#[97]⟩, .int .i64 7, .string ⟨#[]⟩, .string ⟨#[97]⟩, .int .i64 5, .string ⟨#[]⟩, .string ⟨#[97]⟩, .int .i64 5, .string ⟨#[120]⟩, .string ⟨#[98]⟩, .int .i64 2, .string ⟨#[]⟩, .string ⟨#[99]⟩, .int .i64 1, .string ⟨#[]⟩] 36)).cell hHeld.2.2.2.2.2.2.2.2.2.1 (fun f => f), ((Kept.refl (fun _ => False) w3.drew).alloc (Obj.cells #[.string ⟨#[97]⟩, .int .i64 7, .string ⟨#[]⟩, .string ⟨#[97]⟩, .int .i64 5, .string ⟨#[]⟩, .string ⟨#[97]⟩, .int .i64 5, .string ⟨#[120]⟩, .string ⟨#[98]⟩, .int .i64 2, .string ⟨#[]⟩, .string ⟨#[99]⟩, .int .i64 1, .string ⟨#[]⟩] 36)).cell hHeld.2.2.2.2.2.2.2.2.2.2.1 (fun f => f), ((Kept.refl (fun _ => False) w3.drew).alloc (Obj.cells #[.string ⟨#[97]⟩, .int .i64 7, .string ⟨#[]⟩, .string ⟨#[97]⟩, .int .i64 5, .string ⟨#[]⟩, .string ⟨#[97]⟩, .int .i64 5, .string ⟨#[120]⟩, .string ⟨#[98]⟩, .int .i64 2, .string ⟨#[]⟩, .string ⟨#[99]⟩, .int .i64 1, .string ⟨#[]⟩] 36)).cell hHeld.2.2.2.2.2.2.2.2.2.2.2.1 (fun f => f), ((Kept.refl (fun _ => False) w3.drew).alloc (Obj.cells #[.string ⟨#[97]⟩, .int .i64 7, .string ⟨#[]⟩, .string ⟨#[97]⟩, .int .i64 5, .string ⟨#[]⟩, .string ⟨#[97]⟩, .int .i64 5, .string ⟨#[120]⟩, .string ⟨#[98]⟩, .int .i64 2, .string ⟨#[]⟩, .string ⟨#[99]⟩, .int .i64 1, .string ⟨#[]⟩] 36)).cell hHeld.2.2.2.2.2.2.2.2.2.2.2.2.1 (fun f => f), ((Kept.refl (fun _ => False) w3.drew).alloc (Obj.cells #[.string ⟨#[97]⟩, .int .i64 7, .string ⟨#[]⟩, .string ⟨#[97]⟩, .int .i64 5, .string ⟨#[]⟩, .string ⟨#[97]⟩, .int .i64 5, .string ⟨#[120]⟩, .string ⟨#[98]⟩, .int .i64 2, .string ⟨#[]⟩, .string ⟨#[99]⟩, .int .i64 1, .string ⟨#[]⟩] 36)).cell hHeld.2.2.2.2.2.2.2.2.2.2.2.2.2.1 (fun f => f), ((Kept.refl (fun _ => False) w3.drew).alloc (Obj.cells #[.string ⟨#[97]⟩, .int .i64 7, .string ⟨#[]⟩, .string ⟨#[97]⟩, .int .i64 5, .string ⟨#[]⟩, .string ⟨#[97]⟩, .int .i64 5, .string ⟨#[120]⟩, .string ⟨#[98]⟩, .int .i64 2, .string ⟨#[]⟩, .string ⟨#[99]⟩, .int .i64 1, .string ⟨#[]⟩] 36)).cell hHeld.2.2.2.2.2.2.2.2.2.2.2.2.2.2.1 (fun f => f), ((Kept.refl (fun _ => False) w3.drew).alloc (Obj.cells #[.string ⟨#[97]⟩, .int .i64 7, .string ⟨#[]⟩, .string ⟨#[97]⟩, .int .i64 5, .string ⟨#[]⟩, .string ⟨#[97]⟩, .int .i64 5, .string ⟨#[120]⟩, .string ⟨#[98]⟩, .int .i64 2, .string ⟨#[]⟩, .string ⟨#[99]⟩, .int .i64 1, .string ⟨#[]⟩] 36)).cell hHeld.2.2.2.2.2.2.2.2.2.2.2.2.2.2.2.1 (fun f => f), ((Kept.refl (fun _ => False) w3.drew).alloc (Obj.cells #[.string ⟨#[97]⟩, .int .i64 7, .string ⟨#[]⟩, .string ⟨#[97]⟩, .int .i64 5, .string ⟨#[]⟩, .string ⟨#[97]⟩, .int .i64 5, .string ⟨#[120]⟩, .string ⟨#[98]⟩, .int .i64 2, .string ⟨#[]⟩, .string ⟨#[99]⟩, .int .i64 1, .string ⟨#[]⟩] 36)).cell hHeld.2.2.2.2.2.2.2.2.2.2.2.2.2.2.2.2 (fun f => f)⟩
  clear hK K
  (try simp only [Act.put]); (try simp only [List.setIfInBounds_toArray]); (try simp only [List.set_cons_succ]); (try simp only [List.set_cons_zero])
  refine wpAnyH_ready (rs := [30]) (by kernel_rfl) (by simp) ?_
  refine AllReadyH.cons opAt30 (fun K hK => ?_) AllReadyH.nil
  go_simp
  go_at_call 15; refine (same_yes _ _ _ [a7, a5, x5, b2, c1] (R1.out.keptF ((Kept.refl (fun _ => False) w3).drew.alloc _)) (readsC_lit (L := [a7, a5, x5, b2, c1]) (heap_alloc_new _ _) rfl) (by simp)).mono ?_; rintro e w6 ⟨rfl, k6⟩; have KC6 := Lib.hid k6; have K6 := Lib.hid (keptFF ((Kept.refl (fun _ => False) w3).drew.alloc (Obj.cells #[.string ⟨#[97]⟩, .int .i64 7, .string ⟨#[]⟩, .string ⟨#[97]⟩, .int .i64 5, .string ⟨#[]⟩, .string ⟨#[97]⟩, .int .i64 5, .string ⟨#[120]⟩, .string ⟨#[98]⟩, .int .i64 2, .string ⟨#[]⟩, .string ⟨#[99]⟩, .int .i64 1, .string ⟨#[]⟩] 36)) k6); clear k6; dsimp only
  refine hK.out _ _ ?_ (fun hHeld => ?_)
  · exact ⟨KC6.out.cell hHeld.1 (fun f => f), KC6.out.cell hHeld.2.1 (fun f => f), KC6.out.cell hHeld.2.2.1 (fun f => f), KC6.out.cell hHeld.2.2.2.1 (fun f => f), KC6.out.cell hHeld.2.2.2.2.1 (fun f => f), KC6.out.cell hHeld.2.2.2.2.2.1 (fun f => f), KC6.out.cell hHeld.2.2.2.2.2.2.1 (fun f => f), KC6.out.cell hHeld.2.2.2.2.2.2.2.1 (fun f => f), KC6.out.cell hHeld.2.2.2.2.2.2.2.2.1 (fun f => f), KC6.out.cell hHeld.2.2.2.2.2.2.2.2.2.1 (fun f => f), KC6.out.cell hHeld.2.2.2.2.2.2.2.2.2.2.1 (fun f => f), KC6.out.cell hHeld.2.2.2.2.2.2.2.2.2.2.2.1 (fun f => f), KC6.out.cell hHeld.2.2.2.2.2.2.2.2.2.2.2.2.1 (fun f => f), KC6.out.cell hHeld.2.2.2.2.2.2.2.2.2.2.2.2.2.1 (fun f => f), KC6.out.cell hHeld.2.2.2.2.2.2.2.2.2.2.2.2.2.2.1 (fun f => f), KC6.out.cell hHeld.2.2.2.2.2.2.2.2.2.2.2.2.2.2.2.1 (fun f => f), KC6.out.cell hHeld.2.2.2.2.2.2.2.2.2.2.2.2.2.2.2.2 (fun f => f)⟩
  clear hK K
  (try simp only [Act.put]); (try simp only [List.setIfInBounds_toArray]); (try simp only [List.set_cons_succ]); (try simp only [List.set_cons_zero])
  refine wpAnyH_take (i := 31) (v := ?_) opAt31 (by kernel_rfl) (by kernel_rfl) (by kernel_rfl) (fun _ _ _ h => h) (Or.inl ⟨by rfl, ?_⟩) hHeld ?_
  case refine_2 => (intro w hSw; (try dsimp only at hSw); go_simp; all_goals (with_reducible rfl))
  (try simp only [Act.put]); (try simp only [List.setIfInBounds_toArray]); (try simp only [List.set_cons_succ]); (try simp only [List.set_cons_zero])
  refine wpAnyH_take (i := 32) (v := ?_) opAt32 (by kernel_rfl) (by kernel_rfl) (by kernel_rfl) (fun _ _ _ h => h) (Or.inl ⟨by rfl, ?_⟩) hHeld ?_
  case refine_2 => (intro w hSw; (try dsimp only at hSw); go_simp; all_goals (with_reducible rfl))
  (try simp only [Act.put]); (try simp only [List.setIfInBounds_toArray]); (try simp only [List.set_cons_succ]); (try simp only [List.set_cons_zero])
  refine wpAnyH_take (i := 33) (v := ?_) opAt33 (by kernel_rfl) (by kernel_rfl) (by kernel_rfl) (fun _ _ _ h => h) (Or.inl ⟨by rfl, ?_⟩) hHeld ?_
  case refine_2 => (intro w hSw; (try dsimp only at hSw); go_simp; all_goals (with_reducible rfl))
  (try simp only [Act.put]); (try simp only [List.setIfInBounds_toArray]); (try simp only [List.set_cons_succ]); (try simp only [List.set_cons_zero])
  refine wpAnyH_take (i := 34) (v := ?_) opAt34 (by kernel_rfl) (by kernel_rfl) (by kernel_rfl) (fun _ _ _ h => h) (Or.inl ⟨by rfl, ?_⟩) hHeld ?_
  case refine_2 => (intro w hSw; (try dsimp only at hSw); go_simp; all_goals (with_reducible rfl))
  (try simp only [Act.put]); (try simp only [List.setIfInBounds_toArray]); (try simp only [List.set_cons_succ]); (try simp only [List.set_cons_zero])
  refine wpAnyH_take (i := 35) (v := ?_) opAt35 (by kernel_rfl) (by kernel_rfl) (by kernel_rfl) (fun _ _ _ h => h) (Or.inl ⟨by rfl, ?_⟩) hHeld ?_
  case refine_2 => (intro w hSw; (try dsimp only at hSw); go_simp; all_goals (with_reducible rfl))
  (try simp only [Act.put]); (try simp only [List.setIfInBounds_toArray]); (try simp only [List.set_cons_succ]); (try simp only [List.set_cons_zero])
  refine wpAnyH_take (i := 36) (v := ?_) opAt36 (by kernel_rfl) (by kernel_rfl) (by kernel_rfl) (fun _ _ _ h => h) (Or.inl ⟨by rfl, ?_⟩) hHeld ?_
  case refine_2 => (intro w hSw; (try dsimp only at hSw); go_simp; all_goals (with_reducible rfl))
  (try simp only [Act.put]); (try simp only [List.setIfInBounds_toArray]); (try simp only [List.set_cons_succ]); (try simp only [List.set_cons_zero])
  refine wpAnyH_take (i := 37) (v := ?_) opAt37 (by kernel_rfl) (by kernel_rfl) (by kernel_rfl) (fun _ _ _ h => h) (Or.inl ⟨by rfl, ?_⟩) hHeld ?_
  case refine_2 => (intro w hSw; (try dsimp only at hSw); go_simp; all_goals (with_reducible rfl))
  (try simp only [Act.put]); (try simp only [List.setIfInBounds_toArray]); (try simp only [List.set_cons_succ]); (try simp only [List.set_cons_zero])
  refine wpAnyH_take (i := 38) (v := ?_) opAt38 (by kernel_rfl) (by kernel_rfl) (by kernel_rfl) (fun _ _ _ h => h) (Or.inl ⟨by rfl, ?_⟩) hHeld ?_
  case refine_2 => (intro w hSw; (try dsimp only at hSw); go_simp; all_goals (with_reducible rfl))
  (try simp only [Act.put]); (try simp only [List.setIfInBounds_toArray]); (try simp only [List.set_cons_succ]); (try simp only [List.set_cons_zero])
  refine wpAnyH_take (i := 39) (v := ?_) opAt39 (by kernel_rfl) (by kernel_rfl) (by kernel_rfl) (fun _ _ _ h => h) (Or.inl ⟨by rfl, ?_⟩) hHeld ?_
  case refine_2 => (intro w hSw; (try dsimp only at hSw); go_simp; all_goals (with_reducible rfl))
  (try simp only [Act.put]); (try simp only [List.setIfInBounds_toArray]); (try simp only [List.set_cons_succ]); (try simp only [List.set_cons_zero])
  refine wpAnyH_take (i := 40) (v := ?_) opAt40 (by kernel_rfl) (by kernel_rfl) (by kernel_rfl) (fun _ _ _ h => h) (Or.inl ⟨by rfl, ?_⟩) hHeld ?_
  case refine_2 => (intro w hSw; (try dsimp only at hSw); go_simp; all_goals (with_reducible rfl))
  (try simp only [Act.put]); (try simp only [List.setIfInBounds_toArray]); (try simp only [List.set_cons_succ]); (try simp only [List.set_cons_zero])
  refine wpAnyH_take (i := 41) (v := ?_) opAt41 (by kernel_rfl) (by kernel_rfl) (by kernel_rfl) (fun _ _ _ h => h) (Or.inl ⟨by rfl, ?_⟩) hHeld ?_
  case refine_2 => (intro w hSw; (try dsimp only at hSw); go_simp; all_goals (with_reducible rfl))
  (try simp only [Act.put]); (try simp only [List.setIfInBounds_toArray]); (try simp only [List.set_cons_succ]); (try simp only [List.set_cons_zero])
  refine wpAnyH_take (i := 42) (v := ?_) opAt42 (by kernel_rfl) (by kernel_rfl) (by kernel_rfl) (fun _ _ _ h => h) (Or.inl ⟨by rfl, ?_⟩) hHeld ?_
  case refine_2 => (intro w hSw; (try dsimp only at hSw); go_simp; all_goals (with_reducible rfl))
  (try simp only [Act.put]); (try simp only [List.setIfInBounds_toArray]); (try simp only [List.set_cons_succ]); (try simp only [List.set_cons_zero])
  refine wpAnyH_take (i := 43) (v := ?_) opAt43 (by kernel_rfl) (by kernel_rfl) (by kernel_rfl) (fun _ _ _ h => h) (Or.inl ⟨by rfl, ?_⟩) hHeld ?_
  case refine_2 => (intro w hSw; (try dsimp only at hSw); go_simp; all_goals (with_reducible rfl))
  (try simp only [Act.put]); (try simp only [List.setIfInBounds_toArray]); (try simp only [List.set_cons_succ]); (try simp only [List.set_cons_zero])
  refine wpAnyH_take (i := 44) (v := ?_) opAt44 (by kernel_rfl) (by kernel_rfl) (by kernel_rfl) (fun _ _ _ h => h) (Or.inl ⟨by rfl, ?_⟩) hHeld ?_
  case refine_2 => (intro w hSw; (try dsimp only at hSw); go_simp; all_goals (with_reducible rfl))
  (try simp only [Act.put]); (try simp only [List.setIfInBounds_toArray]); (try simp only [List.set_cons_succ]); (try simp only [List.set_cons_zero])
  refine wpAnyH_take (i := 45) (v := ?_) opAt45 (by kernel_rfl) (by kernel_rfl) (by kernel_rfl) (fun _ _ _ h => h) (Or.inl ⟨by rfl, ?_⟩) hHeld ?_
  case refine_2 => (intro w hSw; (try dsimp only at hSw); go_simp; all_goals (with_reducible rfl))
  (try simp only [Act.put]); (try simp only [List.setIfInBounds_toArray]); (try simp only [List.set_cons_succ]); (try simp only [List.set_cons_zero])
  refine wpAnyH_take (i := 46) (v := ?_) opAt46 (by kernel_rfl) (by kernel_rfl) (by kernel_rfl) (fun _ _ _ h => h) (Or.inl ⟨by rfl, ?_⟩) hHeld ?_
  case refine_2 => (intro w hSw; (try dsimp only at hSw); go_simp; all_goals (with_reducible rfl))
  (try simp only [Act.put]); (try simp only [List.setIfInBounds_toArray]); (try simp only [List.set_cons_succ]); (try simp only [List.set_cons_zero])
  refine wpAnyH_take (i := 47) (v := ?_) opAt47 (by kernel_rfl) (by kernel_rfl) (by kernel_rfl) (fun _ _ _ h => h) (Or.inl ⟨by rfl, ?_⟩) hHeld ?_
  case refine_2 => (intro w hSw; (try dsimp only at hSw); go_simp; all_goals (with_reducible rfl))
  (try simp only [Act.put]); (try simp only [List.setIfInBounds_toArray]); (try simp only [List.set_cons_succ]); (try simp only [List.set_cons_zero])
  refine wpAnyH_take (i := 48) (v := ?_) opAt48 (by kernel_rfl) (by kernel_rfl) (by kernel_rfl) (fun _ _ _ h => h) (Or.inl ⟨by rfl, ?_⟩) hHeld ?_
  case refine_2 => (intro w hSw; (try dsimp only at hSw); go_simp; all_goals (with_reducible rfl))
  (try simp only [Act.put]); (try simp only [List.setIfInBounds_toArray]); (try simp only [List.set_cons_succ]); (try simp only [List.set_cons_zero])
  refine wpAnyH_take (i := 49) (v := ?_) opAt49 (by kernel_rfl) (by kernel_rfl) (by kernel_rfl) (fun _ _ _ h => h) (Or.inl ⟨by rfl, ?_⟩) hHeld ?_
  case refine_2 => (intro w hSw; (try dsimp only at hSw); go_simp; all_goals (with_reducible rfl))
  (try simp only [Act.put]); (try simp only [List.setIfInBounds_toArray]); (try simp only [List.set_cons_succ]); (try simp only [List.set_cons_zero])
  refine wpAnyH_take (i := 50) (v := ?_) opAt50 (by kernel_rfl) (by kernel_rfl) (by kernel_rfl) (fun _ _ _ h => h) (Or.inl ⟨by rfl, ?_⟩) hHeld ?_
  case refine_2 => (intro w hSw; (try dsimp only at hSw); go_simp; all_goals (with_reducible rfl))
  (try simp only [Act.put]); (try simp only [List.setIfInBounds_toArray]); (try simp only [List.set_cons_succ]); (try simp only [List.set_cons_zero])
  refine wpAnyH_take (i := 51) (v := ?_) opAt51 (by kernel_rfl) (by kernel_rfl) (by kernel_rfl) (fun _ _ _ h => h) (Or.inl ⟨by rfl, ?_⟩) hHeld ?_
  case refine_2 => (intro w hSw; (try dsimp only at hSw); go_simp; all_goals (with_reducible rfl))
  (try simp only [Act.put]); (try simp only [List.setIfInBounds_toArray]); (try simp only [List.set_cons_succ]); (try simp only [List.set_cons_zero])
  refine wpAnyH_take (i := 52) (v := ?_) opAt52 (by kernel_rfl) (by kernel_rfl) (by kernel_rfl) (fun _ _ _ h => h) (Or.inl ⟨by rfl, ?_⟩) hHeld ?_
  case refine_2 => (intro w hSw; (try dsimp only at hSw); go_simp; all_goals (with_reducible rfl))
  (try simp only [Act.put]); (try simp only [List.setIfInBounds_toArray]); (try simp only [List.set_cons_succ]); (try simp only [List.set_cons_zero])
  refine wpAnyH_ready (rs := [53]) (by kernel_rfl) (by simp) ?_
  refine AllReadyH.cons opAt53 (fun K hK => ?_) AllReadyH.nil
  go_simp
  skip
  refine hK.out _ _ ?_ (fun hHeld => ?_)
  · exact ⟨((Kept.refl (fun _ => False) w6).alloc (Obj.cells #[.string ⟨#[97]⟩, .int .i64 7, .string ⟨#[]⟩, .string ⟨#[98]⟩, .int .i64 2, .string ⟨#[]⟩, .string ⟨#[99]⟩, .int .i64 1, .string ⟨#[]⟩] 36)).cell hHeld.1 (fun f => f), ((Kept.refl (fun _ => False) w6).alloc (Obj.cells #[.string ⟨#[97]⟩, .int .i64 7, .string ⟨#[]⟩, .string ⟨#[98]⟩, .int .i64 2, .string ⟨#[]⟩, .string ⟨#[99]⟩, .int .i64 1, .string ⟨#[]⟩] 36)).cell hHeld.2.1 (fun f => f), ((Kept.refl (fun _ => False) w6).alloc (Obj.cells #[.string ⟨#[97]⟩, .int .i64 7, .string ⟨#[]⟩, .string ⟨#[98]⟩, .int .i64 2, .string ⟨#[]⟩, .string ⟨#[99]⟩, .int .i64 1, .string ⟨#[]⟩] 36)).cell hHeld.2.2.1 (fun f => f), ((Kept.refl (fun _ => False) w6).alloc (Obj.cells #[.string ⟨#[97]⟩, .int .i64 7, .string ⟨#[]⟩, .string ⟨#[98]⟩, .int .i64 2, .string ⟨#[]⟩, .string ⟨#[99]⟩, .int .i64 1, .string ⟨#[]⟩] 36)).cell hHeld.2.2.2.1 (fun f => f), ((Kept.refl (fun _ => False) w6).alloc (Obj.cells #[.string ⟨#[97]⟩, .int .i64 7, .string ⟨#[]⟩, .string ⟨#[98]⟩, .int .i64 2, .string ⟨#[]⟩, .string ⟨#[99]⟩, .int .i64 1, .string ⟨#[]⟩] 36)).cell hHeld.2.2.2.2.1 (fun f => f), ((Kept.refl (fun _ => False) w6).alloc (Obj.cells #[.string ⟨#[97]⟩, .int .i64 7, .string ⟨#[]⟩, .string ⟨#[98]⟩, .int .i64 2, .string ⟨#[]⟩, .string ⟨#[99]⟩, .int .i64 1, .string ⟨#[]⟩] 36)).cell hHeld.2.2.2.2.2.1 (fun f => f), ((Kept.refl (fun _ => False) w6).alloc (Obj.cells #[.string ⟨#[97]⟩, .int .i64 7, .string ⟨#[]⟩, .string ⟨#[98]⟩, .int .i64 2, .string ⟨#[]⟩, .string ⟨#[99]⟩, .int .i64 1, .string ⟨#[]⟩] 36)).cell hHeld.2.2.2.2.2.2.1 (fun f => f), ((Kept.refl (fun _ => False) w6).alloc (Obj.cells #[.string ⟨#[97]⟩, .int .i64 7, .string ⟨#[]⟩, .string ⟨#[98]⟩, .int .i64 2, .string ⟨#[]⟩, .string ⟨#[99]⟩, .int .i64 1, .string ⟨#[]⟩] 36)).cell hHeld.2.2.2.2.2.2.2.1 (fun f => f), ((Kept.refl (fun _ => False) w6).alloc (Obj.cells #[.string ⟨#[97]⟩, .int .i64 7, .string ⟨#[]⟩, .string ⟨#[98]⟩, .int .i64 2, .string ⟨#[]⟩, .string ⟨#[99]⟩, .int .i64 1, .string ⟨#[]⟩] 36)).cell hHeld.2.2.2.2.2.2.2.2.1 (fun f => f), ((Kept.refl (fun _ => False) w6).alloc (Obj.cells #[.string ⟨#[97]⟩, .int .i64 7, .string ⟨#[]⟩, .string ⟨#[98]⟩, .int .i64 2, .string ⟨#[]⟩, .string ⟨#[99]⟩, .int .i64 1, .string ⟨#[]⟩] 36)).cell hHeld.2.2.2.2.2.2.2.2.2.1 (fun f => f), ((Kept.refl (fun _ => False) w6).alloc (Obj.cells #[.string ⟨#[97]⟩, .int .i64 7, .string ⟨#[]⟩, .string ⟨#[98]⟩, .int .i64 2, .string ⟨#[]⟩, .string ⟨#[99]⟩, .int .i64 1, .string ⟨#[]⟩] 36)).cell hHeld.2.2.2.2.2.2.2.2.2.2.1 (fun f => f), ((Kept.refl (fun _ => False) w6).alloc (Obj.cells #[.string ⟨#[97]⟩, .int .i64 7, .string ⟨#[]⟩, .string ⟨#[98]⟩, .int .i64 2, .string ⟨#[]⟩, .string ⟨#[99]⟩, .int .i64 1, .string ⟨#[]⟩] 36)).cell hHeld.2.2.2.2.2.2.2.2.2.2.2.1 (fun f => f), ((Kept.refl (fun _ => False) w6).alloc (Obj.cells #[.string ⟨#[97]⟩, .int .i64 7, .string ⟨#[]⟩, .string ⟨#[98]⟩, .int .i64 2, .string ⟨#[]⟩, .string ⟨#[99]⟩, .int .i64 1, .string ⟨#[]⟩] 36)).cell hHeld.2.2.2.2.2.2.2.2.2.2.2.2.1 (fun f => f), ((Kept.refl (fun _ => False) w6).alloc (Obj.cells #[.string ⟨#[97]⟩, .int .i64 7, .string ⟨#[]⟩, .string ⟨#[98]⟩, .int .i64 2, .string ⟨#[]⟩, .string ⟨#[99]⟩, .int .i64 1, .string ⟨#[]⟩] 36)).cell hHeld.2.2.2.2.2.2.2.2.2.2.2.2.2.1 (fun f => f), ((Kept.refl (fun _ => False) w6).alloc (Obj.cells #[.string ⟨#[97]⟩, .int .i64 7, .string ⟨#[]⟩, .string ⟨#[98]⟩, .int .i64 2, .string ⟨#[]⟩, .string ⟨#[99]⟩, .int .i64 1, .string ⟨#[]⟩] 36)).cell hHeld.2.2.2.2.2.2.2.2.2.2.2.2.2.2.1 (fun f => f), ((Kept.refl (fun _ => False) w6).alloc (Obj.cells #[.string ⟨#[97]⟩, .int .i64 7, .string ⟨#[]⟩, .string ⟨#[98]⟩, .int .i64 2, .string ⟨#[]⟩, .string ⟨#[99]⟩, .int .i64 1, .string ⟨#[]⟩] 36)).cell hHeld.2.2.2.2.2.2.2.2.2.2.2.2.2.2.2.1 (fun f => f), ((Kept.refl (fun _ => False) w6).alloc (Obj.cells #[.string ⟨#[97]⟩, .int .i64 7, .string ⟨#[]⟩, .string ⟨#[98]⟩, .int .i64 2, .string ⟨#[]⟩, .string ⟨#[99]⟩, .int .i64 1, .string ⟨#[]⟩] 36)).cell hHeld.2.2.2.2.2.2.2.2.2.2.2.2.2.2.2.2 (fun f => f)⟩
  clear hK K
  (try simp only [Act.put]); (try simp only [List.setIfInBounds_toArray]); (try simp only [List.set_cons_succ]); (try simp only [List.set_cons_zero])
  refine wpAnyH_ready (rs := [54]) (by kernel_rfl) (by simp) ?_
  refine AllReadyH.cons opAt54 (fun K hK => ?_) AllReadyH.nil
  go_simp
  go_at_call 15; refine (same_yes _ _ _ [a7, b2, c1] (R2.out.keptF (K6.out.alloc _)) (readsC_lit (L := [a7, b2, c1]) (heap_alloc_new _ _) rfl) (by simp)).mono ?_; rintro e w7 ⟨rfl, k7⟩; have KC7 := Lib.hid k7; have K7 := Lib.hid (keptFF (K6.out.alloc (Obj.cells #[.string ⟨#[97]⟩, .int .i64 7, .string ⟨#[]⟩, .string ⟨#[98]⟩, .int .i64 2, .string ⟨#[]⟩, .string ⟨#[99]⟩, .int .i64 1, .string ⟨#[]⟩] 36)) k7); clear k7; dsimp only
  refine hK.out _ _ ?_ (fun hHeld => ?_)
  · exact ⟨KC7.out.cell hHeld.1 (fun f => f), KC7.out.cell hHeld.2.1 (fun f => f), KC7.out.cell hHeld.2.2.1 (fun f => f), KC7.out.cell hHeld.2.2.2.1 (fun f => f), KC7.out.cell hHeld.2.2.2.2.1 (fun f => f), KC7.out.cell hHeld.2.2.2.2.2.1 (fun f => f), KC7.out.cell hHeld.2.2.2.2.2.2.1 (fun f => f), KC7.out.cell hHeld.2.2.2.2.2.2.2.1 (fun f => f), KC7.out.cell hHeld.2.2.2.2.2.2.2.2.1 (fun f => f), KC7.out.cell hHeld.2.2.2.2.2.2.2.2.2.1 (fun f => f), KC7.out.cell hHeld.2.2.2.2.2.2.2.2.2.2.1 (fun f => f), KC7.out.cell hHeld.2.2.2.2.2.2.2.2.2.2.2.1 (fun f => f), KC7.out.cell hHeld.2.2.2.2.2.2.2.2.2.2.2.2.1 (fun f => f), KC7.out.cell hHeld.2.2.2.2.2.2.2.2.2.2.2.2.2.1 (fun f => f), KC7.out.cell hHeld.2.2.2.2.2.2.2.2.2.2.2.2.2.2.1 (fun f => f), KC7.out.cell hHeld.2.2.2.2.2.2.2.2.2.2.2.2.2.2.2.1 (fun f => f), KC7.out.cell hHeld.2.2.2.2.2.2.2.2.2.2.2.2.2.2.2.2 (fun f => f)⟩
  clear hK K
  (try simp only [Act.put]); (try simp only [List.setIfInBounds_toArray]); (try simp only [List.set_cons_succ]); (try simp only [List.set_cons_zero])
  refine wpAnyH_take (i := 55) (v := ?_) opAt55 (by kernel_rfl) (by kernel_rfl) (by kernel_rfl) (fun _ _ _ h => h) (Or.inl ⟨by rfl, ?_⟩) hHeld ?_
  case refine_2 => (intro w hSw; (try dsimp only at hSw); go_simp; all_goals (with_reducible rfl))
  (try simp only [Act.put]); (try simp only [List.setIfInBounds_toArray]); (try simp only [List.set_cons_succ]); (try simp only [List.set_cons_zero])
  refine wpAnyH_take (i := 56) (v := ?_) opAt56 (by kernel_rfl) (by kernel_rfl) (by kernel_rfl) (fun _ _ _ h => h) (Or.inl ⟨by rfl, ?_⟩) hHeld ?_
  case refine_2 => (intro w hSw; (try dsimp only at hSw); go_simp; all_goals (with_reducible rfl))
  (try simp only [Act.put]); (try simp only [List.setIfInBounds_toArray]); (try simp only [List.set_cons_succ]); (try simp only [List.set_cons_zero])
  refine wpAnyH_take (i := 57) (v := ?_) opAt57 (by kernel_rfl) (by kernel_rfl) (by kernel_rfl) (fun _ _ _ h => h) (Or.inl ⟨by rfl, ?_⟩) hHeld ?_
  case refine_2 => (intro w hSw; (try dsimp only at hSw); go_simp; all_goals (with_reducible rfl))
  (try simp only [Act.put]); (try simp only [List.setIfInBounds_toArray]); (try simp only [List.set_cons_succ]); (try simp only [List.set_cons_zero])
  refine wpAnyH_take (i := 58) (v := ?_) opAt58 (by kernel_rfl) (by kernel_rfl) (by kernel_rfl) (fun _ _ _ h => h) (Or.inl ⟨by rfl, ?_⟩) hHeld ?_
  case refine_2 => (intro w hSw; (try dsimp only at hSw); go_simp; all_goals (with_reducible rfl))
  (try simp only [Act.put]); (try simp only [List.setIfInBounds_toArray]); (try simp only [List.set_cons_succ]); (try simp only [List.set_cons_zero])
  refine wpAnyH_take (i := 59) (v := ?_) opAt59 (by kernel_rfl) (by kernel_rfl) (by kernel_rfl) (fun _ _ _ h => h) (Or.inl ⟨by rfl, ?_⟩) hHeld ?_
  case refine_2 => (intro w hSw; (try dsimp only at hSw); go_simp; all_goals (with_reducible rfl))
  (try simp only [Act.put]); (try simp only [List.setIfInBounds_toArray]); (try simp only [List.set_cons_succ]); (try simp only [List.set_cons_zero])
  refine wpAnyH_take (i := 60) (v := ?_) opAt60 (by kernel_rfl) (by kernel_rfl) (by kernel_rfl) (fun _ _ _ h => h) (Or.inl ⟨by rfl, ?_⟩) hHeld ?_
  case refine_2 => (intro w hSw; (try dsimp only at hSw); go_simp; all_goals (with_reducible rfl))
  (try simp only [Act.put]); (try simp only [List.setIfInBounds_toArray]); (try simp only [List.set_cons_succ]); (try simp only [List.set_cons_zero])
  refine wpAnyH_done (by kernel_rfl) ?_ _
  go_wp2
  go_ret
  exact ⟨rfl, keptFF KW0.out K7.out⟩
end Go.Proofs.Ytfhpjopdndnmgaa
