/- spoorlaw14.some, leaf; the walk of does begins. -/
import Derived.Test.YtjidldbolbjdpaaTreeB
namespace Go.Proofs.Ytjidldbolbjdpaa
open Go.RowKit

theorem some_any (w : World) (a b : Int) :
    Calls Try.prog 21 #[.int .i64 a, .int .i64 b] w fun e w' => e = .returned (aggS (someS a b)) ∧ Kept (fun _ => False) w w' := by
  go_enter Try.func21, Try.ntmps21
  go_wp2
  refine bodyPost_ret (v := aggS (someS a b)) (by simp [results, Try.results21, go_sem, someS]; try rfl) rfl ?_
  exact ⟨rfl, (Kept.refl _ w).alloc _⟩
abbrev aggN (m : Spn) (v : Value) : Value := .agg #[.int .i64 m.tr, .int .i64 m.id, .int .i64 m.pa, .string m.se, .string m.ho, .int .i64 m.st, .int .i64 m.du, .string m.no, v]
theorem leaf_any (w : World) (a b : Int) :
    Calls Try.prog 28 #[.int .i64 a, .int .i64 b] w fun e w' => e = .returned (aggN (someS a b) (.slice none 0 0)) ∧ Kept (fun _ => False) w w' := by
  obtain ⟨W1, hW1⟩ : ∃ W, w.alloc (.cells zero9.toArray 39) = W := ⟨_, rfl⟩
  have K1 := Lib.hid (show Kept (fun _ => False) w W1 by rw [← hW1]; exact (Kept.refl _ w).alloc _)
  have R1 := Lib.hid (show W1.ownsRow w.heap.size 39 9 (.slice (some ⟨w.heap.size, 0, none⟩) 1 1) 1 zero9 by rw [← hW1]; exact node_new w)
  obtain ⟨rb, hrb⟩ : ∃ n, w.heap.size = n := ⟨_, rfl⟩
  rw [hrb] at R1
  have HRB := Lib.hid hrb
  unfold zero9 zeroS at hW1
  simp only [Spn.cells, List.cons_append, List.nil_append] at hW1
  go_enter Try.func28, Try.ntmps28
  go_wp2_with fail
  clear hW1
  refine (some_any _ a b).mono ?_
  rintro e w1 ⟨rfl, k1⟩
  have K2 := Lib.hid (keptFF K1.out k1)
  have RO := Lib.hid (own_keptS R1.out k1 (fun _ _ f => f))
  clear k1 hrb
  unfold someS
  go_wp2_with (refine wpList_store_letter (by rfl) 39 _ _ (by rfl) rb 0 ((someS a b).cells ++ [Value.slice none 0 0]).toArray (by rfl) (by rfl) (there9 RO.out) info39 (node_all (someS a b) _ rfl) ?_; intro W2 hW2; have RO2 := Lib.hid (show W2.ownsRow rb 39 9 (.slice (some ⟨rb, 0, none⟩) 1 1) 1 ((someS a b).cells ++ [Value.slice none 0 0]) from by rw [hW2]; exact own_all9 RO.out _ rfl); have KP := Lib.hid (show Kept (fun k => k = rb) w1 W2 from by rw [hW2]; exact Kept.setCells (S := fun k => k = rb) (fun _ => rfl) _ 0 (Kept.refl _ w1)); clear hW2; have r0 := own_cellN RO2.out (i := 0) rfl; have r1 := own_cellN RO2.out (i := 1) rfl; have r2 := own_cellN RO2.out (i := 2) rfl; have r3 := own_cellN RO2.out (i := 3) rfl; have r4 := own_cellN RO2.out (i := 4) rfl; have r5 := own_cellN RO2.out (i := 5) rfl; have r6 := own_cellN RO2.out (i := 6) rfl; have r7 := own_cellN RO2.out (i := 7) rfl; have r8 := own_cellN RO2.out (i := 8) rfl)
  refine bodyPost_ret (v := aggN (someS a b) (.slice none 0 0)) (by simp [results, Try.results28, go_sem, r0, r1, r2, r3, r4, r5, r6, r7, r8]; try rfl) rfl ?_
  exact ⟨rfl, K2.out.trans KP.out (fun _ _ f => f) (fun k h e => by have := HRB.out; omega)⟩
end Go.Proofs.Ytjidldbolbjdpaa
