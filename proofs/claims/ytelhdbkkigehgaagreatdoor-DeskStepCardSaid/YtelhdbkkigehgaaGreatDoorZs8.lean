/- A part of the proof. -/
import Derived.Test.YtelhdbkkigehgaaGreatDoorZs7

/- The desk's span as words: a text of bounded length. -/
namespace Go.Proofs.YtelhdbkkigehgaaGreatDoor
open Go.RowKit

theorem cat_str (a b : ByteArray) (h : a.size + b.size ≤ 1000000000) : ∃ c : ByteArray, c.size = a.size + b.size ∧ ∀ W, (binOp .add 9 (.string a) (.string b)).run Tryz.prog W = .ok (.string c) W := by
  have f : ¬ 9223372036854775807 < a.size + b.size := by omega
  exact ⟨a ++ b, ByteArray.size_append, fun W => by simp [go_sem, f]⟩
theorem cut_str (a : ByteArray) (h : 1 ≤ a.size) : ∃ c : ByteArray, c.size ≤ a.size ∧ ∀ W, (Instr.slice 9 (.string a) (some (.int .i64 1)) none none).run Tryz.prog W = .ok (.string c) W := by
  have f : (1 : Int) ≤ (a.size : Int) := by omega
  exact ⟨a.extract 1 a.size, by rw [ByteArray.size_extract]; omega, fun W => by simp [go_sem, f]⟩
/-- Numbers in a block of their own. -/
theorem keep_lit {w : World} {g : Nat} {ns : List Int} {cs : Array Value} (h : w.heap[g]? = some (.cells cs 3 (0, 0))) (hc : cs = (ns.map (Value.int .i64)).toArray) : KeepR w 0 (.slice (some ⟨g, 0, none⟩) ns.length ns.length) ns := by
  subst hc
  refine ⟨_, _, rfl, .inr ⟨g, 0, rfl, Nat.zero_le _, fun j n hj => ?_⟩⟩
  rw [Nat.zero_add, blk_cell h]
  simp [hj]
set_option maxHeartbeats 1000000 in
theorem note_d (w : World) (s : ByteArray) : Calls Tryz.prog 47 #[.string s] w fun e w' => (∃ t, e = .returned (.string t) ∧ t.size ≤ s.size + 1) ∧ w' = w := by
  by_cases h : s = ⟨#[]⟩
  · subst h
    go_enter Tryz.func47, Tryz.ntmps47
    go_wp2_with fail
    go_ret
    exact ⟨⟨_, rfl, by decide⟩, rfl⟩
  · have f1 : (s.toList == []) = false := by simpa [ByteArray.toList_eq] using lit_ne h
    go_enter Tryz.func47, Tryz.ntmps47
    go_wp2_with fail
    go_ret
    exact ⟨⟨s, rfl, by omega⟩, rfl⟩
/-- A few numbers, as they can be read. -/
def Few (w : World) (v : Value) : Prop := ∃ ns, KeepR w 0 v ns ∧ (∀ n ∈ ns, In64 n) ∧ ns.length ≤ 3 ∧ 1 ≤ ns.length
theorem row_few {w : World} {v : Value} (T : Tab w) (h : Few w v) : Calls Tryz.prog 21 #[.string ⟨#[]⟩, v] w fun e w' => (∃ s, e = .returned (.string s) ∧ 2 ≤ s.size ∧ s.size ≤ 63) ∧ Kept (fun _ => False) w w' := by
  obtain ⟨ns, h1, h2, h3, h4⟩ := h
  refine (row_d h1 h2 (by omega) (by decide) T).mono ?_
  rintro e w' ⟨⟨s, hs, l1, l2⟩, k⟩
  have : (⟨#[]⟩ : ByteArray).size = 0 := rfl
  exact ⟨⟨s, hs, by omega, by omega⟩, k⟩
set_option maxHeartbeats 8000000 in
set_option maxRecDepth 100000 in
theorem told_d {w : World} {m : Spn} (T : Tab w) (h1 : In64 m.tr) (h2 : In64 m.id) (h3 : In64 m.pa) (h4 : In64 m.st) (h5 : In64 m.du) (z1 : m.se.size ≤ 1000) (z2 : m.ho.size ≤ 1000) (z3 : m.no.size ≤ 1000) :
    Calls Tryz.prog 22 #[m.val] w fun e w' => (∃ s, e = .returned (.string s) ∧ s.size ≤ 10000) ∧ Kept (fun _ => False) w w' := by
  obtain ⟨tr, id, pa, se, ho, st, du, no⟩ := m
  dsimp only at h1 h2 h3 h4 h5 z1 z2 z3
  unfold Spn.val Spn.cells
  have Z1 := Lib.hid z1; have Z2 := Lib.hid z2; have Z3 := Lib.hid z3
  obtain ⟨g, hg⟩ : ∃ g, w.heap.size = g := ⟨_, rfl⟩
  obtain ⟨W0, hW0⟩ : ∃ W, w.alloc (Obj.cells #[.int .i64 tr, .int .i64 id, .int .i64 pa, .string se, .string ho, .int .i64 st, .int .i64 du, .string no] 35) = W := ⟨_, rfl⟩
  have a0 : W0.heap[g]? = some (Obj.cells #[.int .i64 tr, .int .i64 id, .int .i64 pa, .string se, .string ho, .int .i64 st, .int .i64 du, .string no] 35 (0, 0)) := by rw [← hW0, ← hg]; exact heap_alloc_new w _
  have K0 := Lib.hid (show Kept (fun _ => False) w W0 from by rw [← hW0]; exact (Kept.refl _ _).alloc _)
  have y0 : W0.cell? ⟨g, 0, none⟩ = some (.int .i64 tr) := blk_cell a0 0
  have y1 : W0.cell? ⟨g, 1, none⟩ = some (.int .i64 id) := blk_cell a0 1
  have y2 : W0.cell? ⟨g, 2, none⟩ = some (.int .i64 pa) := blk_cell a0 2
  have y3 : W0.cell? ⟨g, 3, none⟩ = some (.string se) := blk_cell a0 3
  have y4 : W0.cell? ⟨g, 4, none⟩ = some (.string ho) := blk_cell a0 4
  have y5 : W0.cell? ⟨g, 5, none⟩ = some (.int .i64 st) := blk_cell a0 5
  have y6 : W0.cell? ⟨g, 6, none⟩ = some (.int .i64 du) := blk_cell a0 6
  have y7 : W0.cell? ⟨g, 7, none⟩ = some (.string no) := blk_cell a0 7
  have gl : g < W0.heap.size := blk_lt a0
  have RR := Lib.hid (fun (W : World) (K : Kept (fun _ => False) W0 W) (v : Value) (h : Few W v) => row_few (T.kept (K0.out.trans K (fun _ _ f => f) (fun _ _ f => f) : Kept (fun _ => False) w W) (fun f => f)) h)
  have HA := Lib.hid (fun (W : World) (b : Nat) (hb : W.heap[b]? = some (.cells #[.int .i64 tr, .int .i64 id, .int .i64 pa] 3 (0, 0))) => (⟨[tr, id, pa], keep_lit (ns := [tr, id, pa]) hb rfl, by intro n hn; simp at hn; rcases hn with rfl | rfl | rfl <;> assumption, by simp, by simp⟩ : Few W (.slice (some ⟨b, 0, none⟩) 3 3)))
  have HB := Lib.hid (fun (W : World) (b : Nat) (hb : W.heap[b]? = some (.cells #[.int .i64 st, .int .i64 du] 3 (0, 0))) => (⟨[st, du], keep_lit (ns := [st, du]) hb rfl, by intro n hn; simp at hn; rcases hn with rfl | rfl <;> assumption, by simp, by simp⟩ : Few W (.slice (some ⟨b, 0, none⟩) 2 2)))
  clear T h1 h2 h3 h4 h5 z1 z2 z3 a0
  have KW : Kept (fun _ => False) W0 W0 := Kept.refl _ _
  go_enter Tryz.func22, Tryz.ntmps22
  go_wp2_with fail
  clear hW0 hg
  go_region_held3 (fun w' => w'.cell? ⟨g, 0, none⟩ = some (.int .i64 tr) ∧ w'.cell? ⟨g, 1, none⟩ = some (.int .i64 id) ∧ w'.cell? ⟨g, 2, none⟩ = some (.int .i64 pa) ∧ w'.cell? ⟨g, 3, none⟩ = some (.string se) ∧ w'.cell? ⟨g, 4, none⟩ = some (.string ho) ∧ w'.cell? ⟨g, 5, none⟩ = some (.int .i64 st) ∧ w'.cell? ⟨g, 6, none⟩ = some (.int .i64 du) ∧ w'.cell? ⟨g, 7, none⟩ = some (.string no)) (first | go_keep | (go_split_ands; exact ⟨kk.cell (by assumption) (fun f => f), kk.cell (by assumption) (fun f => f), kk.cell (by assumption) (fun f => f), kk.cell (by assumption) (fun f => f), kk.cell (by assumption) (fun f => f), kk.cell (by assumption) (fun f => f), kk.cell (by assumption) (fun f => f), kk.cell (by assumption) (fun f => f)⟩))
    (first
      | (go_at_call 47; refine (note_d _ _).mono ?_; rintro e w9 ⟨⟨tn, rfl, ln⟩, rfl⟩; (have f6 : ¬ 9223372036854775807 < x1.size + 1 + se.size + 1 + ho.size + r2.size + 1 + tn.size := (by have := Z1.out; have := Z2.out; have := L1.out; have := L2.out; have := Z3.out; omega)); (have L9 := Lib.hid (show tn.size ≤ 1001 from (by have := Z3.out; omega))); clear ln)
      | (go_at_call 21; (have chk := L1); refine (RR.out _ (by repeat (first | exact KW | apply Kept.drew | apply Kept.alloc)) _ (HB.out _ _ (by first | exact heap_alloc_new _ _ | exact BK.out _ _ (heap_first _ _ _) | exact BK.out _ _ (heap_second _ _ _)))).mono ?_; rintro e w6 ⟨⟨r2, rfl, m1, m2⟩, kk⟩; (have KX : Kept (fun _ => False) W0 w6 := Kept.trans (by repeat (first | exact KW | apply Kept.drew | apply Kept.alloc)) kk (fun _ _ f => f) (fun _ _ f => f)); (have KV := Lib.hid KX); (have L2 := Lib.hid (show r2.size ≤ 63 from (by omega))); (have f4 : ¬ 9223372036854775807 < x1.size + 1 + se.size + 1 + ho.size + r2.size := (by have := Z1.out; have := Z2.out; have := L1.out; omega)); (have f5 : ¬ 9223372036854775807 < x1.size + 1 + se.size + 1 + ho.size + r2.size + 1 := (by have := Z1.out; have := Z2.out; have := L1.out; omega)); clear m1 m2)
      | (go_at_call 21; refine (RR.out _ (by repeat (first | exact KW | apply Kept.drew | apply Kept.alloc)) _ (HA.out _ _ (by first | exact heap_alloc_new _ _ | exact heap_first _ _ _ | exact heap_second _ _ _))).mono ?_; rintro e w5 ⟨⟨r1, rfl, m1, m2⟩, kk⟩; (have BK := Lib.hid (fun (j : Nat) (o : Obj) hj => (kk.block j (Array.getElem?_eq_some_iff.1 hj).1 (fun f => f)).trans (hj : _ = some o))); (have KX : Kept (fun _ => False) W0 w5 := Kept.trans (by repeat (first | exact KW | apply Kept.drew | apply Kept.alloc)) kk (fun _ _ f => f) (fun _ _ f => f)); clear KW; (have KW := KX); clear KX; obtain ⟨x1, l1, q1⟩ := cut_str r1 (by omega); (have L1 := Lib.hid (show x1.size ≤ 63 from (by omega))); (have f0 : ¬ 9223372036854775807 < x1.size + 1 := (by have := Z1.out; have := Z2.out; omega)); (have f1 : ¬ 9223372036854775807 < x1.size + 1 + se.size := (by have := Z1.out; have := Z2.out; omega)); (have f2 : ¬ 9223372036854775807 < x1.size + 1 + se.size + 1 := (by have := Z1.out; have := Z2.out; omega)); (have f3 : ¬ 9223372036854775807 < x1.size + 1 + se.size + 1 + ho.size := (by have := Z1.out; have := Z2.out; omega)); clear l1 m1 m2))
  all_goals
    go_wp2_with fail
    go_ret
    refine ⟨⟨_, rfl, ?_⟩, K0.out.trans KV.out (fun _ _ f => f) (fun _ _ f => f)⟩
    have g1 := L1.out
    have g2 := L2.out
    have g3 := L9.out
    have g4 := Z1.out
    have g5 := Z2.out
    have g6 : (⟨#[32]⟩ : ByteArray).size = 1 := rfl
    simp only [ByteArray.size_append]
    omega
end Go.Proofs.YtelhdbkkigehgaaGreatDoor

