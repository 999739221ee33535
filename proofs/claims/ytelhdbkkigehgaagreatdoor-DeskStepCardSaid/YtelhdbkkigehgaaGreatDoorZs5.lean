/- A part of the proof. -/
import Derived.Test.YtelhdbkkigehgaaGreatDoorZs4

/- The chapter's step behind its word, some words. (Printed by gen_stepl.py.) -/
namespace Go.Proofs.YtelhdbkkigehgaaGreatDoor
open Go.RowKit

set_option maxHeartbeats 4000000 in
set_option maxRecDepth 100000 in
theorem step_retain {w : World} {p : Nat} {x : ByteArray} {n : Int} {y : ByteArray} {m : Int} (h : SrcL w p [x, y] false) (hx : Says x n) (hy : Says y m) (T : Tab w) (hp : p ≠ 5) :
    Calls Tryz.prog 24 #[.pointer (some ⟨p, 0, none⟩), .string ⟨#[114, 101, 116, 97, 105, 110]⟩] w fun e w' => (∃ v, e = .returned v ∧ StepIs w' w.heap.size v 4 n m spZ []) ∧ Kept (fun k => k = p) w w' ∧ SrcL w' p [] false := by
  have PL := Lib.hid h.lt
  have P5 := Lib.hid hp
  obtain ⟨g, hg⟩ : ∃ g, w.heap.size = g := ⟨_, rfl⟩
  have HG := Lib.hid hg
  obtain ⟨W0, hW0⟩ : ∃ W, (w.alloc (Obj.cells zCells 38)).alloc (Obj.cells zCells 38) = W := ⟨_, rfl⟩
  have k0 : Kept (fun k => k = p) w W0 := by rw [← hW0]; exact ((Kept.refl _ _).alloc _).alloc _
  have r0 : SrcL W0 p [x, y] false := by rw [← hW0]; exact h.kept (((Kept.refl (fun _ => False) _).alloc _).alloc _) (fun f => f)
  have a0 : W0.heap[g]? = some (Obj.cells zCells 38 (0, 0)) := by rw [← hW0, ← hg]; exact heap_first w _ _
  have b0 : W0.heap[g + 1]? = some (Obj.cells zCells 38 (0, 0)) := by rw [← hW0, ← hg]; exact heap_second w _ _
  have NE := Lib.hid (show g ≠ p from by have := PL.out; omega)
  have NF := Lib.hid (show g + 1 ≠ p from by have := PL.out; omega)
  have K0 := Lib.hid k0; have R0 := Lib.hid r0; have A0 := Lib.hid a0; have B0 := Lib.hid b0
  have TT := Lib.hid (fun (W : World) (K : Kept (fun k => k = p) w W) => T.kept K (fun e => P5.out e.symm))
  have LT := Lib.hid (show ∀ q, g ≤ q → ¬ q < w.heap.size from fun q h1 => by omega)
  have HX := Lib.hid hx
  have HY := Lib.hid hy
  clear h T hp k0 r0 a0 b0 hx hy
  unfold zCells at hW0
  go_enter Tryz.func24, Tryz.ntmps24
  go_wp2_with fail
  clear hW0 hg
  refine (intL_cons R0.out HX.out (TT.out _ K0.out) P5.out).mono ?_
  rintro e W1 ⟨rfl, k, r⟩
  have K1 := Lib.hid (Kept.trans K0.out k (fun _ _ f => f) (fun _ _ f => f) : Kept (fun k => k = p) w W1)
  have R1 := Lib.hid r
  have A1 := Lib.hid ((k.block g (blk_lt A0.out) NE.out).trans A0.out)
  have B1 := Lib.hid ((k.block (g + 1) (blk_lt B0.out) NF.out).trans B0.out)
  clear k r
  have q := blk_lt B1.out
  have zz0 : W1.cell? ⟨g + 1, 0, none⟩ = some (.int .i64 0) := blk_cell B1.out 0
  have zz1 : W1.cell? ⟨g + 1, 1, none⟩ = some (.int .i64 0) := blk_cell B1.out 1
  have fz0 := blk_free B1.out 0
  have fz1 := blk_free B1.out 1
  go_wp2_with fail
  clear q zz0 zz1 fz0 fz1
  have KS : Kept (fun k => k = p) w ((W1.setCell ⟨g + 1, 0, none⟩ (.int .i64 4)).setCell ⟨g + 1, 1, none⟩ (.int .i64 n)) := by
    refine Kept.setAt (fun hl => absurd hl (LT.out _ (by omega))) ?_
    refine Kept.setAt (fun hl => absurd hl (LT.out _ (by omega))) ?_
    exact K1.out
  have RS : SrcL ((W1.setCell ⟨g + 1, 0, none⟩ (.int .i64 4)).setCell ⟨g + 1, 1, none⟩ (.int .i64 n)) p [y] false := by
    refine R1.out.kept (S := fun k => k = g + 1) ?_ (fun e => NF.out e.symm)
    refine Kept.setAt (fun _ => rfl) ?_
    refine Kept.setAt (fun _ => rfl) ?_
    exact Kept.refl _ _
  have AS : (((W1.setCell ⟨g + 1, 0, none⟩ (.int .i64 4)).setCell ⟨g + 1, 1, none⟩ (.int .i64 n))).heap[g]? = some (Obj.cells zCells 38 (0, 0)) := blk_off (blk_off (A1.out) 0 (.int .i64 4) (by omega)) 1 (.int .i64 n) (by omega)
  have BS : (((W1.setCell ⟨g + 1, 0, none⟩ (.int .i64 4)).setCell ⟨g + 1, 1, none⟩ (.int .i64 n))).heap[g + 1]? = some (Obj.cells #[.int .i64 4, .int .i64 n, .int .i64 0, .int .i64 0, .int .i64 0, .int .i64 0, .string ⟨#[]⟩, .string ⟨#[]⟩, .int .i64 0, .int .i64 0, .string ⟨#[]⟩, .slice none 0 0] 38 (0, 0)) := blk_set (blk_set (B1.out) 0 (.int .i64 4)) 1 (.int .i64 n)
  have KSh := Lib.hid KS; have RSh := Lib.hid RS; have ASh := Lib.hid AS; have BSh := Lib.hid BS
  clear KS RS AS BS
  refine (intL_cons RSh.out HY.out (TT.out _ KSh.out) P5.out).mono ?_
  rintro e W2 ⟨rfl, k, r⟩
  have K2 := Lib.hid (Kept.trans KSh.out k (fun _ _ f => f) (fun _ _ f => f) : Kept (fun k => k = p) w W2)
  have R2 := Lib.hid r
  have A2 := Lib.hid ((k.block g (blk_lt ASh.out) NE.out).trans ASh.out)
  have B2 := Lib.hid ((k.block (g + 1) (blk_lt BSh.out) NF.out).trans BSh.out)
  clear k r
  have q := blk_lt B2.out
  have zz0 : W2.cell? ⟨g + 1, 0, none⟩ = some (.int .i64 4) := blk_cell B2.out 0
  have zz1 : W2.cell? ⟨g + 1, 1, none⟩ = some (.int .i64 n) := blk_cell B2.out 1
  have zz2 : W2.cell? ⟨g + 1, 2, none⟩ = some (.int .i64 0) := blk_cell B2.out 2
  have zz3 : W2.cell? ⟨g + 1, 3, none⟩ = some (.int .i64 0) := blk_cell B2.out 3
  have zz4 : W2.cell? ⟨g + 1, 4, none⟩ = some (.int .i64 0) := blk_cell B2.out 4
  have zz5 : W2.cell? ⟨g + 1, 5, none⟩ = some (.int .i64 0) := blk_cell B2.out 5
  have zz6 : W2.cell? ⟨g + 1, 6, none⟩ = some (.string ⟨#[]⟩) := blk_cell B2.out 6
  have zz7 : W2.cell? ⟨g + 1, 7, none⟩ = some (.string ⟨#[]⟩) := blk_cell B2.out 7
  have zz8 : W2.cell? ⟨g + 1, 8, none⟩ = some (.int .i64 0) := blk_cell B2.out 8
  have zz9 : W2.cell? ⟨g + 1, 9, none⟩ = some (.int .i64 0) := blk_cell B2.out 9
  have zz10 : W2.cell? ⟨g + 1, 10, none⟩ = some (.string ⟨#[]⟩) := blk_cell B2.out 10
  have zz11 : W2.cell? ⟨g + 1, 11, none⟩ = some (.slice none 0 0) := blk_cell B2.out 11
  have fz2 := blk_free B2.out 2
  have qa := blk_lt A2.out
  have za0 : W2.cell? ⟨g, 0, none⟩ = some (.int .i64 0) := blk_cell A2.out 0
  have fa0 := blk_free A2.out 0
  have za1 : W2.cell? ⟨g, 1, none⟩ = some (.int .i64 0) := blk_cell A2.out 1
  have fa1 := blk_free A2.out 1
  have za2 : W2.cell? ⟨g, 2, none⟩ = some (.int .i64 0) := blk_cell A2.out 2
  have fa2 := blk_free A2.out 2
  have za3 : W2.cell? ⟨g, 3, none⟩ = some (.int .i64 0) := blk_cell A2.out 3
  have fa3 := blk_free A2.out 3
  have za4 : W2.cell? ⟨g, 4, none⟩ = some (.int .i64 0) := blk_cell A2.out 4
  have fa4 := blk_free A2.out 4
  have za5 : W2.cell? ⟨g, 5, none⟩ = some (.int .i64 0) := blk_cell A2.out 5
  have fa5 := blk_free A2.out 5
  have za6 : W2.cell? ⟨g, 6, none⟩ = some (.string ⟨#[]⟩) := blk_cell A2.out 6
  have fa6 := blk_free A2.out 6
  have za7 : W2.cell? ⟨g, 7, none⟩ = some (.string ⟨#[]⟩) := blk_cell A2.out 7
  have fa7 := blk_free A2.out 7
  have za8 : W2.cell? ⟨g, 8, none⟩ = some (.int .i64 0) := blk_cell A2.out 8
  have fa8 := blk_free A2.out 8
  have za9 : W2.cell? ⟨g, 9, none⟩ = some (.int .i64 0) := blk_cell A2.out 9
  have fa9 := blk_free A2.out 9
  have za10 : W2.cell? ⟨g, 10, none⟩ = some (.string ⟨#[]⟩) := blk_cell A2.out 10
  have fa10 := blk_free A2.out 10
  have za11 : W2.cell? ⟨g, 11, none⟩ = some (.slice none 0 0) := blk_cell A2.out 11
  have fa11 := blk_free A2.out 11
  go_wp2_with fail
  (try simp only [Exit.inBlock, Exit.then])
  refine bodyPost_ret (v := Stp.val ⟨4, n, m, spZ, none, 0, 0⟩) ?_ rfl ⟨⟨_, rfl, StepIs.none⟩, ?_, ?_⟩
  · rw [res_cell1 rfl]
    go_simp
    rfl
  · iterate 13 refine Kept.setAt (fun hl => absurd hl (LT.out _ (by omega))) ?_
    exact K2.out
  · refine R2.out.kept (S := fun k => k = g ∨ k = g + 1) ?_ (fun e => by have := NE.out; have := NF.out; omega)
    iterate 12 refine Kept.setAt (fun _ => .inl rfl) ?_
    refine Kept.setAt (fun _ => .inr rfl) ?_
    exact Kept.refl _ _
set_option maxHeartbeats 4000000 in
set_option maxRecDepth 100000 in
theorem step_deliver {w : World} {p : Nat} {x : ByteArray} {n : Int} (h : SrcL w p [x] false) (hx : Says x n) (T : Tab w) (hp : p ≠ 5) :
    Calls Tryz.prog 24 #[.pointer (some ⟨p, 0, none⟩), .string ⟨#[100, 101, 108, 105, 118, 101, 114]⟩] w fun e w' => (∃ v, e = .returned v ∧ StepIs w' w.heap.size v 7 0 n spZ []) ∧ Kept (fun k => k = p) w w' ∧ SrcL w' p [] false := by
  have PL := Lib.hid h.lt
  have P5 := Lib.hid hp
  obtain ⟨g, hg⟩ : ∃ g, w.heap.size = g := ⟨_, rfl⟩
  have HG := Lib.hid hg
  obtain ⟨W0, hW0⟩ : ∃ W, (w.alloc (Obj.cells zCells 38)).alloc (Obj.cells zCells 38) = W := ⟨_, rfl⟩
  have k0 : Kept (fun k => k = p) w W0 := by rw [← hW0]; exact ((Kept.refl _ _).alloc _).alloc _
  have r0 : SrcL W0 p [x] false := by rw [← hW0]; exact h.kept (((Kept.refl (fun _ => False) _).alloc _).alloc _) (fun f => f)
  have a0 : W0.heap[g]? = some (Obj.cells zCells 38 (0, 0)) := by rw [← hW0, ← hg]; exact heap_first w _ _
  have b0 : W0.heap[g + 1]? = some (Obj.cells zCells 38 (0, 0)) := by rw [← hW0, ← hg]; exact heap_second w _ _
  have NE := Lib.hid (show g ≠ p from by have := PL.out; omega)
  have NF := Lib.hid (show g + 1 ≠ p from by have := PL.out; omega)
  have K0 := Lib.hid k0; have R0 := Lib.hid r0; have A0 := Lib.hid a0; have B0 := Lib.hid b0
  have TT := Lib.hid (fun (W : World) (K : Kept (fun k => k = p) w W) => T.kept K (fun e => P5.out e.symm))
  have LT := Lib.hid (show ∀ q, g ≤ q → ¬ q < w.heap.size from fun q h1 => by omega)
  have HX := Lib.hid hx
  clear h T hp k0 r0 a0 b0 hx
  unfold zCells at hW0
  go_enter Tryz.func24, Tryz.ntmps24
  go_wp2_with fail
  clear hW0 hg
  refine (intL_cons R0.out HX.out (TT.out _ K0.out) P5.out).mono ?_
  rintro e W1 ⟨rfl, k, r⟩
  have K1 := Lib.hid (Kept.trans K0.out k (fun _ _ f => f) (fun _ _ f => f) : Kept (fun k => k = p) w W1)
  have R1 := Lib.hid r
  have A1 := Lib.hid ((k.block g (blk_lt A0.out) NE.out).trans A0.out)
  have B1 := Lib.hid ((k.block (g + 1) (blk_lt B0.out) NF.out).trans B0.out)
  clear k r
  have q := blk_lt B1.out
  have zz0 : W1.cell? ⟨g + 1, 0, none⟩ = some (.int .i64 0) := blk_cell B1.out 0
  have zz1 : W1.cell? ⟨g + 1, 1, none⟩ = some (.int .i64 0) := blk_cell B1.out 1
  have zz2 : W1.cell? ⟨g + 1, 2, none⟩ = some (.int .i64 0) := blk_cell B1.out 2
  have zz3 : W1.cell? ⟨g + 1, 3, none⟩ = some (.int .i64 0) := blk_cell B1.out 3
  have zz4 : W1.cell? ⟨g + 1, 4, none⟩ = some (.int .i64 0) := blk_cell B1.out 4
  have zz5 : W1.cell? ⟨g + 1, 5, none⟩ = some (.int .i64 0) := blk_cell B1.out 5
  have zz6 : W1.cell? ⟨g + 1, 6, none⟩ = some (.string ⟨#[]⟩) := blk_cell B1.out 6
  have zz7 : W1.cell? ⟨g + 1, 7, none⟩ = some (.string ⟨#[]⟩) := blk_cell B1.out 7
  have zz8 : W1.cell? ⟨g + 1, 8, none⟩ = some (.int .i64 0) := blk_cell B1.out 8
  have zz9 : W1.cell? ⟨g + 1, 9, none⟩ = some (.int .i64 0) := blk_cell B1.out 9
  have zz10 : W1.cell? ⟨g + 1, 10, none⟩ = some (.string ⟨#[]⟩) := blk_cell B1.out 10
  have zz11 : W1.cell? ⟨g + 1, 11, none⟩ = some (.slice none 0 0) := blk_cell B1.out 11
  have fz0 := blk_free B1.out 0
  have fz2 := blk_free B1.out 2
  have qa := blk_lt A1.out
  have za0 : W1.cell? ⟨g, 0, none⟩ = some (.int .i64 0) := blk_cell A1.out 0
  have fa0 := blk_free A1.out 0
  have za1 : W1.cell? ⟨g, 1, none⟩ = some (.int .i64 0) := blk_cell A1.out 1
  have fa1 := blk_free A1.out 1
  have za2 : W1.cell? ⟨g, 2, none⟩ = some (.int .i64 0) := blk_cell A1.out 2
  have fa2 := blk_free A1.out 2
  have za3 : W1.cell? ⟨g, 3, none⟩ = some (.int .i64 0) := blk_cell A1.out 3
  have fa3 := blk_free A1.out 3
  have za4 : W1.cell? ⟨g, 4, none⟩ = some (.int .i64 0) := blk_cell A1.out 4
  have fa4 := blk_free A1.out 4
  have za5 : W1.cell? ⟨g, 5, none⟩ = some (.int .i64 0) := blk_cell A1.out 5
  have fa5 := blk_free A1.out 5
  have za6 : W1.cell? ⟨g, 6, none⟩ = some (.string ⟨#[]⟩) := blk_cell A1.out 6
  have fa6 := blk_free A1.out 6
  have za7 : W1.cell? ⟨g, 7, none⟩ = some (.string ⟨#[]⟩) := blk_cell A1.out 7
  have fa7 := blk_free A1.out 7
  have za8 : W1.cell? ⟨g, 8, none⟩ = some (.int .i64 0) := blk_cell A1.out 8
  have fa8 := blk_free A1.out 8
  have za9 : W1.cell? ⟨g, 9, none⟩ = some (.int .i64 0) := blk_cell A1.out 9
  have fa9 := blk_free A1.out 9
  have za10 : W1.cell? ⟨g, 10, none⟩ = some (.string ⟨#[]⟩) := blk_cell A1.out 10
  have fa10 := blk_free A1.out 10
  have za11 : W1.cell? ⟨g, 11, none⟩ = some (.slice none 0 0) := blk_cell A1.out 11
  have fa11 := blk_free A1.out 11
  go_wp2_with fail
  (try simp only [Exit.inBlock, Exit.then])
  refine bodyPost_ret (v := Stp.val ⟨7, 0, n, spZ, none, 0, 0⟩) ?_ rfl ⟨⟨_, rfl, StepIs.none⟩, ?_, ?_⟩
  · rw [res_cell1 rfl]
    go_simp
    rfl
  · iterate 14 refine Kept.setAt (fun hl => absurd hl (LT.out _ (by omega))) ?_
    exact K1.out
  · refine R1.out.kept (S := fun k => k = g ∨ k = g + 1) ?_ (fun e => by have := NE.out; have := NF.out; omega)
    iterate 12 refine Kept.setAt (fun _ => .inl rfl) ?_
    refine Kept.setAt (fun _ => .inr rfl) ?_
    refine Kept.setAt (fun _ => .inr rfl) ?_
    exact Kept.refl _ _
set_option maxHeartbeats 4000000 in
set_option maxRecDepth 100000 in
theorem step_double {w : World} {p : Nat} {x : ByteArray} {n : Int} (h : SrcL w p [x] false) (hx : Says x n) (T : Tab w) (hp : p ≠ 5) :
    Calls Tryz.prog 24 #[.pointer (some ⟨p, 0, none⟩), .string ⟨#[100, 111, 117, 98, 108, 101]⟩] w fun e w' => (∃ v, e = .returned v ∧ StepIs w' w.heap.size v 8 0 n spZ []) ∧ Kept (fun k => k = p) w w' ∧ SrcL w' p [] false := by
  have PL := Lib.hid h.lt
  have P5 := Lib.hid hp
  obtain ⟨g, hg⟩ : ∃ g, w.heap.size = g := ⟨_, rfl⟩
  have HG := Lib.hid hg
  obtain ⟨W0, hW0⟩ : ∃ W, (w.alloc (Obj.cells zCells 38)).alloc (Obj.cells zCells 38) = W := ⟨_, rfl⟩
  have k0 : Kept (fun k => k = p) w W0 := by rw [← hW0]; exact ((Kept.refl _ _).alloc _).alloc _
  have r0 : SrcL W0 p [x] false := by rw [← hW0]; exact h.kept (((Kept.refl (fun _ => False) _).alloc _).alloc _) (fun f => f)
  have a0 : W0.heap[g]? = some (Obj.cells zCells 38 (0, 0)) := by rw [← hW0, ← hg]; exact heap_first w _ _
  have b0 : W0.heap[g + 1]? = some (Obj.cells zCells 38 (0, 0)) := by rw [← hW0, ← hg]; exact heap_second w _ _
  have NE := Lib.hid (show g ≠ p from by have := PL.out; omega)
  have NF := Lib.hid (show g + 1 ≠ p from by have := PL.out; omega)
  have K0 := Lib.hid k0; have R0 := Lib.hid r0; have A0 := Lib.hid a0; have B0 := Lib.hid b0
  have TT := Lib.hid (fun (W : World) (K : Kept (fun k => k = p) w W) => T.kept K (fun e => P5.out e.symm))
  have LT := Lib.hid (show ∀ q, g ≤ q → ¬ q < w.heap.size from fun q h1 => by omega)
  have HX := Lib.hid hx
  clear h T hp k0 r0 a0 b0 hx
  unfold zCells at hW0
  go_enter Tryz.func24, Tryz.ntmps24
  go_wp2_with fail
  clear hW0 hg
  refine (intL_cons R0.out HX.out (TT.out _ K0.out) P5.out).mono ?_
  rintro e W1 ⟨rfl, k, r⟩
  have K1 := Lib.hid (Kept.trans K0.out k (fun _ _ f => f) (fun _ _ f => f) : Kept (fun k => k = p) w W1)
  have R1 := Lib.hid r
  have A1 := Lib.hid ((k.block g (blk_lt A0.out) NE.out).trans A0.out)
  have B1 := Lib.hid ((k.block (g + 1) (blk_lt B0.out) NF.out).trans B0.out)
  clear k r
  have q := blk_lt B1.out
  have zz0 : W1.cell? ⟨g + 1, 0, none⟩ = some (.int .i64 0) := blk_cell B1.out 0
  have zz1 : W1.cell? ⟨g + 1, 1, none⟩ = some (.int .i64 0) := blk_cell B1.out 1
  have zz2 : W1.cell? ⟨g + 1, 2, none⟩ = some (.int .i64 0) := blk_cell B1.out 2
  have zz3 : W1.cell? ⟨g + 1, 3, none⟩ = some (.int .i64 0) := blk_cell B1.out 3
  have zz4 : W1.cell? ⟨g + 1, 4, none⟩ = some (.int .i64 0) := blk_cell B1.out 4
  have zz5 : W1.cell? ⟨g + 1, 5, none⟩ = some (.int .i64 0) := blk_cell B1.out 5
  have zz6 : W1.cell? ⟨g + 1, 6, none⟩ = some (.string ⟨#[]⟩) := blk_cell B1.out 6
  have zz7 : W1.cell? ⟨g + 1, 7, none⟩ = some (.string ⟨#[]⟩) := blk_cell B1.out 7
  have zz8 : W1.cell? ⟨g + 1, 8, none⟩ = some (.int .i64 0) := blk_cell B1.out 8
  have zz9 : W1.cell? ⟨g + 1, 9, none⟩ = some (.int .i64 0) := blk_cell B1.out 9
  have zz10 : W1.cell? ⟨g + 1, 10, none⟩ = some (.string ⟨#[]⟩) := blk_cell B1.out 10
  have zz11 : W1.cell? ⟨g + 1, 11, none⟩ = some (.slice none 0 0) := blk_cell B1.out 11
  have fz0 := blk_free B1.out 0
  have fz2 := blk_free B1.out 2
  have qa := blk_lt A1.out
  have za0 : W1.cell? ⟨g, 0, none⟩ = some (.int .i64 0) := blk_cell A1.out 0
  have fa0 := blk_free A1.out 0
  have za1 : W1.cell? ⟨g, 1, none⟩ = some (.int .i64 0) := blk_cell A1.out 1
  have fa1 := blk_free A1.out 1
  have za2 : W1.cell? ⟨g, 2, none⟩ = some (.int .i64 0) := blk_cell A1.out 2
  have fa2 := blk_free A1.out 2
  have za3 : W1.cell? ⟨g, 3, none⟩ = some (.int .i64 0) := blk_cell A1.out 3
  have fa3 := blk_free A1.out 3
  have za4 : W1.cell? ⟨g, 4, none⟩ = some (.int .i64 0) := blk_cell A1.out 4
  have fa4 := blk_free A1.out 4
  have za5 : W1.cell? ⟨g, 5, none⟩ = some (.int .i64 0) := blk_cell A1.out 5
  have fa5 := blk_free A1.out 5
  have za6 : W1.cell? ⟨g, 6, none⟩ = some (.string ⟨#[]⟩) := blk_cell A1.out 6
  have fa6 := blk_free A1.out 6
  have za7 : W1.cell? ⟨g, 7, none⟩ = some (.string ⟨#[]⟩) := blk_cell A1.out 7
  have fa7 := blk_free A1.out 7
  have za8 : W1.cell? ⟨g, 8, none⟩ = some (.int .i64 0) := blk_cell A1.out 8
  have fa8 := blk_free A1.out 8
  have za9 : W1.cell? ⟨g, 9, none⟩ = some (.int .i64 0) := blk_cell A1.out 9
  have fa9 := blk_free A1.out 9
  have za10 : W1.cell? ⟨g, 10, none⟩ = some (.string ⟨#[]⟩) := blk_cell A1.out 10
  have fa10 := blk_free A1.out 10
  have za11 : W1.cell? ⟨g, 11, none⟩ = some (.slice none 0 0) := blk_cell A1.out 11
  have fa11 := blk_free A1.out 11
  go_wp2_with fail
  (try simp only [Exit.inBlock, Exit.then])
  refine bodyPost_ret (v := Stp.val ⟨8, 0, n, spZ, none, 0, 0⟩) ?_ rfl ⟨⟨_, rfl, StepIs.none⟩, ?_, ?_⟩
  · rw [res_cell1 rfl]
    go_simp
    rfl
  · iterate 14 refine Kept.setAt (fun hl => absurd hl (LT.out _ (by omega))) ?_
    exact K1.out
  · refine R1.out.kept (S := fun k => k = g ∨ k = g + 1) ?_ (fun e => by have := NE.out; have := NF.out; omega)
    iterate 12 refine Kept.setAt (fun _ => .inl rfl) ?_
    refine Kept.setAt (fun _ => .inr rfl) ?_
    refine Kept.setAt (fun _ => .inr rfl) ?_
    exact Kept.refl _ _
set_option maxHeartbeats 4000000 in
set_option maxRecDepth 100000 in
theorem step_lose {w : World} {p : Nat} {x : ByteArray} {n : Int} (h : SrcL w p [x] false) (hx : Says x n) (T : Tab w) (hp : p ≠ 5) :
    Calls Tryz.prog 24 #[.pointer (some ⟨p, 0, none⟩), .string ⟨#[108, 111, 115, 101]⟩] w fun e w' => (∃ v, e = .returned v ∧ StepIs w' w.heap.size v 9 0 n spZ []) ∧ Kept (fun k => k = p) w w' ∧ SrcL w' p [] false := by
  have PL := Lib.hid h.lt
  have P5 := Lib.hid hp
  obtain ⟨g, hg⟩ : ∃ g, w.heap.size = g := ⟨_, rfl⟩
  have HG := Lib.hid hg
  obtain ⟨W0, hW0⟩ : ∃ W, (w.alloc (Obj.cells zCells 38)).alloc (Obj.cells zCells 38) = W := ⟨_, rfl⟩
  have k0 : Kept (fun k => k = p) w W0 := by rw [← hW0]; exact ((Kept.refl _ _).alloc _).alloc _
  have r0 : SrcL W0 p [x] false := by rw [← hW0]; exact h.kept (((Kept.refl (fun _ => False) _).alloc _).alloc _) (fun f => f)
  have a0 : W0.heap[g]? = some (Obj.cells zCells 38 (0, 0)) := by rw [← hW0, ← hg]; exact heap_first w _ _
  have b0 : W0.heap[g + 1]? = some (Obj.cells zCells 38 (0, 0)) := by rw [← hW0, ← hg]; exact heap_second w _ _
  have NE := Lib.hid (show g ≠ p from by have := PL.out; omega)
  have NF := Lib.hid (show g + 1 ≠ p from by have := PL.out; omega)
  have K0 := Lib.hid k0; have R0 := Lib.hid r0; have A0 := Lib.hid a0; have B0 := Lib.hid b0
  have TT := Lib.hid (fun (W : World) (K : Kept (fun k => k = p) w W) => T.kept K (fun e => P5.out e.symm))
  have LT := Lib.hid (show ∀ q, g ≤ q → ¬ q < w.heap.size from fun q h1 => by omega)
  have HX := Lib.hid hx
  clear h T hp k0 r0 a0 b0 hx
  unfold zCells at hW0
  go_enter Tryz.func24, Tryz.ntmps24
  go_wp2_with fail
  clear hW0 hg
  refine (intL_cons R0.out HX.out (TT.out _ K0.out) P5.out).mono ?_
  rintro e W1 ⟨rfl, k, r⟩
  have K1 := Lib.hid (Kept.trans K0.out k (fun _ _ f => f) (fun _ _ f => f) : Kept (fun k => k = p) w W1)
  have R1 := Lib.hid r
  have A1 := Lib.hid ((k.block g (blk_lt A0.out) NE.out).trans A0.out)
  have B1 := Lib.hid ((k.block (g + 1) (blk_lt B0.out) NF.out).trans B0.out)
  clear k r
  have q := blk_lt B1.out
  have zz0 : W1.cell? ⟨g + 1, 0, none⟩ = some (.int .i64 0) := blk_cell B1.out 0
  have zz1 : W1.cell? ⟨g + 1, 1, none⟩ = some (.int .i64 0) := blk_cell B1.out 1
  have zz2 : W1.cell? ⟨g + 1, 2, none⟩ = some (.int .i64 0) := blk_cell B1.out 2
  have zz3 : W1.cell? ⟨g + 1, 3, none⟩ = some (.int .i64 0) := blk_cell B1.out 3
  have zz4 : W1.cell? ⟨g + 1, 4, none⟩ = some (.int .i64 0) := blk_cell B1.out 4
  have zz5 : W1.cell? ⟨g + 1, 5, none⟩ = some (.int .i64 0) := blk_cell B1.out 5
  have zz6 : W1.cell? ⟨g + 1, 6, none⟩ = some (.string ⟨#[]⟩) := blk_cell B1.out 6
  have zz7 : W1.cell? ⟨g + 1, 7, none⟩ = some (.string ⟨#[]⟩) := blk_cell B1.out 7
  have zz8 : W1.cell? ⟨g + 1, 8, none⟩ = some (.int .i64 0) := blk_cell B1.out 8
  have zz9 : W1.cell? ⟨g + 1, 9, none⟩ = some (.int .i64 0) := blk_cell B1.out 9
  have zz10 : W1.cell? ⟨g + 1, 10, none⟩ = some (.string ⟨#[]⟩) := blk_cell B1.out 10
  have zz11 : W1.cell? ⟨g + 1, 11, none⟩ = some (.slice none 0 0) := blk_cell B1.out 11
  have fz0 := blk_free B1.out 0
  have fz2 := blk_free B1.out 2
  have qa := blk_lt A1.out
  have za0 : W1.cell? ⟨g, 0, none⟩ = some (.int .i64 0) := blk_cell A1.out 0
  have fa0 := blk_free A1.out 0
  have za1 : W1.cell? ⟨g, 1, none⟩ = some (.int .i64 0) := blk_cell A1.out 1
  have fa1 := blk_free A1.out 1
  have za2 : W1.cell? ⟨g, 2, none⟩ = some (.int .i64 0) := blk_cell A1.out 2
  have fa2 := blk_free A1.out 2
  have za3 : W1.cell? ⟨g, 3, none⟩ = some (.int .i64 0) := blk_cell A1.out 3
  have fa3 := blk_free A1.out 3
  have za4 : W1.cell? ⟨g, 4, none⟩ = some (.int .i64 0) := blk_cell A1.out 4
  have fa4 := blk_free A1.out 4
  have za5 : W1.cell? ⟨g, 5, none⟩ = some (.int .i64 0) := blk_cell A1.out 5
  have fa5 := blk_free A1.out 5
  have za6 : W1.cell? ⟨g, 6, none⟩ = some (.string ⟨#[]⟩) := blk_cell A1.out 6
  have fa6 := blk_free A1.out 6
  have za7 : W1.cell? ⟨g, 7, none⟩ = some (.string ⟨#[]⟩) := blk_cell A1.out 7
  have fa7 := blk_free A1.out 7
  have za8 : W1.cell? ⟨g, 8, none⟩ = some (.int .i64 0) := blk_cell A1.out 8
  have fa8 := blk_free A1.out 8
  have za9 : W1.cell? ⟨g, 9, none⟩ = some (.int .i64 0) := blk_cell A1.out 9
  have fa9 := blk_free A1.out 9
  have za10 : W1.cell? ⟨g, 10, none⟩ = some (.string ⟨#[]⟩) := blk_cell A1.out 10
  have fa10 := blk_free A1.out 10
  have za11 : W1.cell? ⟨g, 11, none⟩ = some (.slice none 0 0) := blk_cell A1.out 11
  have fa11 := blk_free A1.out 11
  go_wp2_with fail
  (try simp only [Exit.inBlock, Exit.then])
  refine bodyPost_ret (v := Stp.val ⟨9, 0, n, spZ, none, 0, 0⟩) ?_ rfl ⟨⟨_, rfl, StepIs.none⟩, ?_, ?_⟩
  · rw [res_cell1 rfl]
    go_simp
    rfl
  · iterate 14 refine Kept.setAt (fun hl => absurd hl (LT.out _ (by omega))) ?_
    exact K1.out
  · refine R1.out.kept (S := fun k => k = g ∨ k = g + 1) ?_ (fun e => by have := NE.out; have := NF.out; omega)
    iterate 12 refine Kept.setAt (fun _ => .inl rfl) ?_
    refine Kept.setAt (fun _ => .inr rfl) ?_
    refine Kept.setAt (fun _ => .inr rfl) ?_
    exact Kept.refl _ _
end Go.Proofs.YtelhdbkkigehgaaGreatDoor

/- The chapter's step behind its word, some words. (Printed by gen_stepl.py.) -/
namespace Go.Proofs.YtelhdbkkigehgaaGreatDoor
open Go.RowKit

set_option maxHeartbeats 4000000 in
set_option maxRecDepth 100000 in
theorem step_flush {w : World} {p : Nat} {x : ByteArray} {n : Int} (h : SrcL w p [x] false) (hx : Says x n) (T : Tab w) (hp : p ≠ 5) :
    Calls Tryz.prog 24 #[.pointer (some ⟨p, 0, none⟩), .string ⟨#[102, 108, 117, 115, 104]⟩] w fun e w' => (∃ v, e = .returned v ∧ StepIs w' w.heap.size v 10 0 n spZ []) ∧ Kept (fun k => k = p) w w' ∧ SrcL w' p [] false := by
  have PL := Lib.hid h.lt
  have P5 := Lib.hid hp
  obtain ⟨g, hg⟩ : ∃ g, w.heap.size = g := ⟨_, rfl⟩
  have HG := Lib.hid hg
  obtain ⟨W0, hW0⟩ : ∃ W, (w.alloc (Obj.cells zCells 38)).alloc (Obj.cells zCells 38) = W := ⟨_, rfl⟩
  have k0 : Kept (fun k => k = p) w W0 := by rw [← hW0]; exact ((Kept.refl _ _).alloc _).alloc _
  have r0 : SrcL W0 p [x] false := by rw [← hW0]; exact h.kept (((Kept.refl (fun _ => False) _).alloc _).alloc _) (fun f => f)
  have a0 : W0.heap[g]? = some (Obj.cells zCells 38 (0, 0)) := by rw [← hW0, ← hg]; exact heap_first w _ _
  have b0 : W0.heap[g + 1]? = some (Obj.cells zCells 38 (0, 0)) := by rw [← hW0, ← hg]; exact heap_second w _ _
  have NE := Lib.hid (show g ≠ p from by have := PL.out; omega)
  have NF := Lib.hid (show g + 1 ≠ p from by have := PL.out; omega)
  have K0 := Lib.hid k0; have R0 := Lib.hid r0; have A0 := Lib.hid a0; have B0 := Lib.hid b0
  have TT := Lib.hid (fun (W : World) (K : Kept (fun k => k = p) w W) => T.kept K (fun e => P5.out e.symm))
  have LT := Lib.hid (show ∀ q, g ≤ q → ¬ q < w.heap.size from fun q h1 => by omega)
  have HX := Lib.hid hx
  clear h T hp k0 r0 a0 b0 hx
  unfold zCells at hW0
  go_enter Tryz.func24, Tryz.ntmps24
  go_wp2_with fail
  clear hW0 hg
  refine (intL_cons R0.out HX.out (TT.out _ K0.out) P5.out).mono ?_
  rintro e W1 ⟨rfl, k, r⟩
  have K1 := Lib.hid (Kept.trans K0.out k (fun _ _ f => f) (fun _ _ f => f) : Kept (fun k => k = p) w W1)
  have R1 := Lib.hid r
  have A1 := Lib.hid ((k.block g (blk_lt A0.out) NE.out).trans A0.out)
  have B1 := Lib.hid ((k.block (g + 1) (blk_lt B0.out) NF.out).trans B0.out)
  clear k r
  have q := blk_lt B1.out
  have zz0 : W1.cell? ⟨g + 1, 0, none⟩ = some (.int .i64 0) := blk_cell B1.out 0
  have zz1 : W1.cell? ⟨g + 1, 1, none⟩ = some (.int .i64 0) := blk_cell B1.out 1
  have zz2 : W1.cell? ⟨g + 1, 2, none⟩ = some (.int .i64 0) := blk_cell B1.out 2
  have zz3 : W1.cell? ⟨g + 1, 3, none⟩ = some (.int .i64 0) := blk_cell B1.out 3
  have zz4 : W1.cell? ⟨g + 1, 4, none⟩ = some (.int .i64 0) := blk_cell B1.out 4
  have zz5 : W1.cell? ⟨g + 1, 5, none⟩ = some (.int .i64 0) := blk_cell B1.out 5
  have zz6 : W1.cell? ⟨g + 1, 6, none⟩ = some (.string ⟨#[]⟩) := blk_cell B1.out 6
  have zz7 : W1.cell? ⟨g + 1, 7, none⟩ = some (.string ⟨#[]⟩) := blk_cell B1.out 7
  have zz8 : W1.cell? ⟨g + 1, 8, none⟩ = some (.int .i64 0) := blk_cell B1.out 8
  have zz9 : W1.cell? ⟨g + 1, 9, none⟩ = some (.int .i64 0) := blk_cell B1.out 9
  have zz10 : W1.cell? ⟨g + 1, 10, none⟩ = some (.string ⟨#[]⟩) := blk_cell B1.out 10
  have zz11 : W1.cell? ⟨g + 1, 11, none⟩ = some (.slice none 0 0) := blk_cell B1.out 11
  have fz0 := blk_free B1.out 0
  have fz2 := blk_free B1.out 2
  have qa := blk_lt A1.out
  have za0 : W1.cell? ⟨g, 0, none⟩ = some (.int .i64 0) := blk_cell A1.out 0
  have fa0 := blk_free A1.out 0
  have za1 : W1.cell? ⟨g, 1, none⟩ = some (.int .i64 0) := blk_cell A1.out 1
  have fa1 := blk_free A1.out 1
  have za2 : W1.cell? ⟨g, 2, none⟩ = some (.int .i64 0) := blk_cell A1.out 2
  have fa2 := blk_free A1.out 2
  have za3 : W1.cell? ⟨g, 3, none⟩ = some (.int .i64 0) := blk_cell A1.out 3
  have fa3 := blk_free A1.out 3
  have za4 : W1.cell? ⟨g, 4, none⟩ = some (.int .i64 0) := blk_cell A1.out 4
  have fa4 := blk_free A1.out 4
  have za5 : W1.cell? ⟨g, 5, none⟩ = some (.int .i64 0) := blk_cell A1.out 5
  have fa5 := blk_free A1.out 5
  have za6 : W1.cell? ⟨g, 6, none⟩ = some (.string ⟨#[]⟩) := blk_cell A1.out 6
  have fa6 := blk_free A1.out 6
  have za7 : W1.cell? ⟨g, 7, none⟩ = some (.string ⟨#[]⟩) := blk_cell A1.out 7
  have fa7 := blk_free A1.out 7
  have za8 : W1.cell? ⟨g, 8, none⟩ = some (.int .i64 0) := blk_cell A1.out 8
  have fa8 := blk_free A1.out 8
  have za9 : W1.cell? ⟨g, 9, none⟩ = some (.int .i64 0) := blk_cell A1.out 9
  have fa9 := blk_free A1.out 9
  have za10 : W1.cell? ⟨g, 10, none⟩ = some (.string ⟨#[]⟩) := blk_cell A1.out 10
  have fa10 := blk_free A1.out 10
  have za11 : W1.cell? ⟨g, 11, none⟩ = some (.slice none 0 0) := blk_cell A1.out 11
  have fa11 := blk_free A1.out 11
  go_wp2_with fail
  (try simp only [Exit.inBlock, Exit.then])
  refine bodyPost_ret (v := Stp.val ⟨10, 0, n, spZ, none, 0, 0⟩) ?_ rfl ⟨⟨_, rfl, StepIs.none⟩, ?_, ?_⟩
  · rw [res_cell1 rfl]
    go_simp
    rfl
  · iterate 14 refine Kept.setAt (fun hl => absurd hl (LT.out _ (by omega))) ?_
    exact K1.out
  · refine R1.out.kept (S := fun k => k = g ∨ k = g + 1) ?_ (fun e => by have := NE.out; have := NF.out; omega)
    iterate 12 refine Kept.setAt (fun _ => .inl rfl) ?_
    refine Kept.setAt (fun _ => .inr rfl) ?_
    refine Kept.setAt (fun _ => .inr rfl) ?_
    exact Kept.refl _ _
set_option maxHeartbeats 4000000 in
set_option maxRecDepth 100000 in
theorem step_compact {w : World} {p : Nat} {x : ByteArray} {n : Int} (h : SrcL w p [x] false) (hx : Says x n) (T : Tab w) (hp : p ≠ 5) :
    Calls Tryz.prog 24 #[.pointer (some ⟨p, 0, none⟩), .string ⟨#[99, 111, 109, 112, 97, 99, 116]⟩] w fun e w' => (∃ v, e = .returned v ∧ StepIs w' w.heap.size v 11 0 n spZ []) ∧ Kept (fun k => k = p) w w' ∧ SrcL w' p [] false := by
  have PL := Lib.hid h.lt
  have P5 := Lib.hid hp
  obtain ⟨g, hg⟩ : ∃ g, w.heap.size = g := ⟨_, rfl⟩
  have HG := Lib.hid hg
  obtain ⟨W0, hW0⟩ : ∃ W, (w.alloc (Obj.cells zCells 38)).alloc (Obj.cells zCells 38) = W := ⟨_, rfl⟩
  have k0 : Kept (fun k => k = p) w W0 := by rw [← hW0]; exact ((Kept.refl _ _).alloc _).alloc _
  have r0 : SrcL W0 p [x] false := by rw [← hW0]; exact h.kept (((Kept.refl (fun _ => False) _).alloc _).alloc _) (fun f => f)
  have a0 : W0.heap[g]? = some (Obj.cells zCells 38 (0, 0)) := by rw [← hW0, ← hg]; exact heap_first w _ _
  have b0 : W0.heap[g + 1]? = some (Obj.cells zCells 38 (0, 0)) := by rw [← hW0, ← hg]; exact heap_second w _ _
  have NE := Lib.hid (show g ≠ p from by have := PL.out; omega)
  have NF := Lib.hid (show g + 1 ≠ p from by have := PL.out; omega)
  have K0 := Lib.hid k0; have R0 := Lib.hid r0; have A0 := Lib.hid a0; have B0 := Lib.hid b0
  have TT := Lib.hid (fun (W : World) (K : Kept (fun k => k = p) w W) => T.kept K (fun e => P5.out e.symm))
  have LT := Lib.hid (show ∀ q, g ≤ q → ¬ q < w.heap.size from fun q h1 => by omega)
  have HX := Lib.hid hx
  clear h T hp k0 r0 a0 b0 hx
  unfold zCells at hW0
  go_enter Tryz.func24, Tryz.ntmps24
  go_wp2_with fail
  clear hW0 hg
  refine (intL_cons R0.out HX.out (TT.out _ K0.out) P5.out).mono ?_
  rintro e W1 ⟨rfl, k, r⟩
  have K1 := Lib.hid (Kept.trans K0.out k (fun _ _ f => f) (fun _ _ f => f) : Kept (fun k => k = p) w W1)
  have R1 := Lib.hid r
  have A1 := Lib.hid ((k.block g (blk_lt A0.out) NE.out).trans A0.out)
  have B1 := Lib.hid ((k.block (g + 1) (blk_lt B0.out) NF.out).trans B0.out)
  clear k r
  have q := blk_lt B1.out
  have zz0 : W1.cell? ⟨g + 1, 0, none⟩ = some (.int .i64 0) := blk_cell B1.out 0
  have zz1 : W1.cell? ⟨g + 1, 1, none⟩ = some (.int .i64 0) := blk_cell B1.out 1
  have zz2 : W1.cell? ⟨g + 1, 2, none⟩ = some (.int .i64 0) := blk_cell B1.out 2
  have zz3 : W1.cell? ⟨g + 1, 3, none⟩ = some (.int .i64 0) := blk_cell B1.out 3
  have zz4 : W1.cell? ⟨g + 1, 4, none⟩ = some (.int .i64 0) := blk_cell B1.out 4
  have zz5 : W1.cell? ⟨g + 1, 5, none⟩ = some (.int .i64 0) := blk_cell B1.out 5
  have zz6 : W1.cell? ⟨g + 1, 6, none⟩ = some (.string ⟨#[]⟩) := blk_cell B1.out 6
  have zz7 : W1.cell? ⟨g + 1, 7, none⟩ = some (.string ⟨#[]⟩) := blk_cell B1.out 7
  have zz8 : W1.cell? ⟨g + 1, 8, none⟩ = some (.int .i64 0) := blk_cell B1.out 8
  have zz9 : W1.cell? ⟨g + 1, 9, none⟩ = some (.int .i64 0) := blk_cell B1.out 9
  have zz10 : W1.cell? ⟨g + 1, 10, none⟩ = some (.string ⟨#[]⟩) := blk_cell B1.out 10
  have zz11 : W1.cell? ⟨g + 1, 11, none⟩ = some (.slice none 0 0) := blk_cell B1.out 11
  have fz0 := blk_free B1.out 0
  have fz2 := blk_free B1.out 2
  have qa := blk_lt A1.out
  have za0 : W1.cell? ⟨g, 0, none⟩ = some (.int .i64 0) := blk_cell A1.out 0
  have fa0 := blk_free A1.out 0
  have za1 : W1.cell? ⟨g, 1, none⟩ = some (.int .i64 0) := blk_cell A1.out 1
  have fa1 := blk_free A1.out 1
  have za2 : W1.cell? ⟨g, 2, none⟩ = some (.int .i64 0) := blk_cell A1.out 2
  have fa2 := blk_free A1.out 2
  have za3 : W1.cell? ⟨g, 3, none⟩ = some (.int .i64 0) := blk_cell A1.out 3
  have fa3 := blk_free A1.out 3
  have za4 : W1.cell? ⟨g, 4, none⟩ = some (.int .i64 0) := blk_cell A1.out 4
  have fa4 := blk_free A1.out 4
  have za5 : W1.cell? ⟨g, 5, none⟩ = some (.int .i64 0) := blk_cell A1.out 5
  have fa5 := blk_free A1.out 5
  have za6 : W1.cell? ⟨g, 6, none⟩ = some (.string ⟨#[]⟩) := blk_cell A1.out 6
  have fa6 := blk_free A1.out 6
  have za7 : W1.cell? ⟨g, 7, none⟩ = some (.string ⟨#[]⟩) := blk_cell A1.out 7
  have fa7 := blk_free A1.out 7
  have za8 : W1.cell? ⟨g, 8, none⟩ = some (.int .i64 0) := blk_cell A1.out 8
  have fa8 := blk_free A1.out 8
  have za9 : W1.cell? ⟨g, 9, none⟩ = some (.int .i64 0) := blk_cell A1.out 9
  have fa9 := blk_free A1.out 9
  have za10 : W1.cell? ⟨g, 10, none⟩ = some (.string ⟨#[]⟩) := blk_cell A1.out 10
  have fa10 := blk_free A1.out 10
  have za11 : W1.cell? ⟨g, 11, none⟩ = some (.slice none 0 0) := blk_cell A1.out 11
  have fa11 := blk_free A1.out 11
  go_wp2_with fail
  (try simp only [Exit.inBlock, Exit.then])
  refine bodyPost_ret (v := Stp.val ⟨11, 0, n, spZ, none, 0, 0⟩) ?_ rfl ⟨⟨_, rfl, StepIs.none⟩, ?_, ?_⟩
  · rw [res_cell1 rfl]
    go_simp
    rfl
  · iterate 14 refine Kept.setAt (fun hl => absurd hl (LT.out _ (by omega))) ?_
    exact K1.out
  · refine R1.out.kept (S := fun k => k = g ∨ k = g + 1) ?_ (fun e => by have := NE.out; have := NF.out; omega)
    iterate 12 refine Kept.setAt (fun _ => .inl rfl) ?_
    refine Kept.setAt (fun _ => .inr rfl) ?_
    refine Kept.setAt (fun _ => .inr rfl) ?_
    exact Kept.refl _ _
set_option maxHeartbeats 4000000 in
set_option maxRecDepth 100000 in
theorem step_split {w : World} {p : Nat} {x : ByteArray} {n : Int} (h : SrcL w p [x] false) (hx : Says x n) (T : Tab w) (hp : p ≠ 5) :
    Calls Tryz.prog 24 #[.pointer (some ⟨p, 0, none⟩), .string ⟨#[115, 112, 108, 105, 116]⟩] w fun e w' => (∃ v, e = .returned v ∧ StepIs w' w.heap.size v 12 0 n spZ []) ∧ Kept (fun k => k = p) w w' ∧ SrcL w' p [] false := by
  have PL := Lib.hid h.lt
  have P5 := Lib.hid hp
  obtain ⟨g, hg⟩ : ∃ g, w.heap.size = g := ⟨_, rfl⟩
  have HG := Lib.hid hg
  obtain ⟨W0, hW0⟩ : ∃ W, (w.alloc (Obj.cells zCells 38)).alloc (Obj.cells zCells 38) = W := ⟨_, rfl⟩
  have k0 : Kept (fun k => k = p) w W0 := by rw [← hW0]; exact ((Kept.refl _ _).alloc _).alloc _
  have r0 : SrcL W0 p [x] false := by rw [← hW0]; exact h.kept (((Kept.refl (fun _ => False) _).alloc _).alloc _) (fun f => f)
  have a0 : W0.heap[g]? = some (Obj.cells zCells 38 (0, 0)) := by rw [← hW0, ← hg]; exact heap_first w _ _
  have b0 : W0.heap[g + 1]? = some (Obj.cells zCells 38 (0, 0)) := by rw [← hW0, ← hg]; exact heap_second w _ _
  have NE := Lib.hid (show g ≠ p from by have := PL.out; omega)
  have NF := Lib.hid (show g + 1 ≠ p from by have := PL.out; omega)
  have K0 := Lib.hid k0; have R0 := Lib.hid r0; have A0 := Lib.hid a0; have B0 := Lib.hid b0
  have TT := Lib.hid (fun (W : World) (K : Kept (fun k => k = p) w W) => T.kept K (fun e => P5.out e.symm))
  have LT := Lib.hid (show ∀ q, g ≤ q → ¬ q < w.heap.size from fun q h1 => by omega)
  have HX := Lib.hid hx
  clear h T hp k0 r0 a0 b0 hx
  unfold zCells at hW0
  go_enter Tryz.func24, Tryz.ntmps24
  go_wp2_with fail
  clear hW0 hg
  refine (intL_cons R0.out HX.out (TT.out _ K0.out) P5.out).mono ?_
  rintro e W1 ⟨rfl, k, r⟩
  have K1 := Lib.hid (Kept.trans K0.out k (fun _ _ f => f) (fun _ _ f => f) : Kept (fun k => k = p) w W1)
  have R1 := Lib.hid r
  have A1 := Lib.hid ((k.block g (blk_lt A0.out) NE.out).trans A0.out)
  have B1 := Lib.hid ((k.block (g + 1) (blk_lt B0.out) NF.out).trans B0.out)
  clear k r
  have q := blk_lt B1.out
  have zz0 : W1.cell? ⟨g + 1, 0, none⟩ = some (.int .i64 0) := blk_cell B1.out 0
  have zz1 : W1.cell? ⟨g + 1, 1, none⟩ = some (.int .i64 0) := blk_cell B1.out 1
  have zz2 : W1.cell? ⟨g + 1, 2, none⟩ = some (.int .i64 0) := blk_cell B1.out 2
  have zz3 : W1.cell? ⟨g + 1, 3, none⟩ = some (.int .i64 0) := blk_cell B1.out 3
  have zz4 : W1.cell? ⟨g + 1, 4, none⟩ = some (.int .i64 0) := blk_cell B1.out 4
  have zz5 : W1.cell? ⟨g + 1, 5, none⟩ = some (.int .i64 0) := blk_cell B1.out 5
  have zz6 : W1.cell? ⟨g + 1, 6, none⟩ = some (.string ⟨#[]⟩) := blk_cell B1.out 6
  have zz7 : W1.cell? ⟨g + 1, 7, none⟩ = some (.string ⟨#[]⟩) := blk_cell B1.out 7
  have zz8 : W1.cell? ⟨g + 1, 8, none⟩ = some (.int .i64 0) := blk_cell B1.out 8
  have zz9 : W1.cell? ⟨g + 1, 9, none⟩ = some (.int .i64 0) := blk_cell B1.out 9
  have zz10 : W1.cell? ⟨g + 1, 10, none⟩ = some (.string ⟨#[]⟩) := blk_cell B1.out 10
  have zz11 : W1.cell? ⟨g + 1, 11, none⟩ = some (.slice none 0 0) := blk_cell B1.out 11
  have fz0 := blk_free B1.out 0
  have fz2 := blk_free B1.out 2
  have qa := blk_lt A1.out
  have za0 : W1.cell? ⟨g, 0, none⟩ = some (.int .i64 0) := blk_cell A1.out 0
  have fa0 := blk_free A1.out 0
  have za1 : W1.cell? ⟨g, 1, none⟩ = some (.int .i64 0) := blk_cell A1.out 1
  have fa1 := blk_free A1.out 1
  have za2 : W1.cell? ⟨g, 2, none⟩ = some (.int .i64 0) := blk_cell A1.out 2
  have fa2 := blk_free A1.out 2
  have za3 : W1.cell? ⟨g, 3, none⟩ = some (.int .i64 0) := blk_cell A1.out 3
  have fa3 := blk_free A1.out 3
  have za4 : W1.cell? ⟨g, 4, none⟩ = some (.int .i64 0) := blk_cell A1.out 4
  have fa4 := blk_free A1.out 4
  have za5 : W1.cell? ⟨g, 5, none⟩ = some (.int .i64 0) := blk_cell A1.out 5
  have fa5 := blk_free A1.out 5
  have za6 : W1.cell? ⟨g, 6, none⟩ = some (.string ⟨#[]⟩) := blk_cell A1.out 6
  have fa6 := blk_free A1.out 6
  have za7 : W1.cell? ⟨g, 7, none⟩ = some (.string ⟨#[]⟩) := blk_cell A1.out 7
  have fa7 := blk_free A1.out 7
  have za8 : W1.cell? ⟨g, 8, none⟩ = some (.int .i64 0) := blk_cell A1.out 8
  have fa8 := blk_free A1.out 8
  have za9 : W1.cell? ⟨g, 9, none⟩ = some (.int .i64 0) := blk_cell A1.out 9
  have fa9 := blk_free A1.out 9
  have za10 : W1.cell? ⟨g, 10, none⟩ = some (.string ⟨#[]⟩) := blk_cell A1.out 10
  have fa10 := blk_free A1.out 10
  have za11 : W1.cell? ⟨g, 11, none⟩ = some (.slice none 0 0) := blk_cell A1.out 11
  have fa11 := blk_free A1.out 11
  go_wp2_with fail
  (try simp only [Exit.inBlock, Exit.then])
  refine bodyPost_ret (v := Stp.val ⟨12, 0, n, spZ, none, 0, 0⟩) ?_ rfl ⟨⟨_, rfl, StepIs.none⟩, ?_, ?_⟩
  · rw [res_cell1 rfl]
    go_simp
    rfl
  · iterate 14 refine Kept.setAt (fun hl => absurd hl (LT.out _ (by omega))) ?_
    exact K1.out
  · refine R1.out.kept (S := fun k => k = g ∨ k = g + 1) ?_ (fun e => by have := NE.out; have := NF.out; omega)
    iterate 12 refine Kept.setAt (fun _ => .inl rfl) ?_
    refine Kept.setAt (fun _ => .inr rfl) ?_
    refine Kept.setAt (fun _ => .inr rfl) ?_
    exact Kept.refl _ _
set_option maxHeartbeats 4000000 in
set_option maxRecDepth 100000 in
theorem step_merge {w : World} {p : Nat} {x : ByteArray} {n : Int} (h : SrcL w p [x] false) (hx : Says x n) (T : Tab w) (hp : p ≠ 5) :
    Calls Tryz.prog 24 #[.pointer (some ⟨p, 0, none⟩), .string ⟨#[109, 101, 114, 103, 101]⟩] w fun e w' => (∃ v, e = .returned v ∧ StepIs w' w.heap.size v 13 0 n spZ []) ∧ Kept (fun k => k = p) w w' ∧ SrcL w' p [] false := by
  have PL := Lib.hid h.lt
  have P5 := Lib.hid hp
  obtain ⟨g, hg⟩ : ∃ g, w.heap.size = g := ⟨_, rfl⟩
  have HG := Lib.hid hg
  obtain ⟨W0, hW0⟩ : ∃ W, (w.alloc (Obj.cells zCells 38)).alloc (Obj.cells zCells 38) = W := ⟨_, rfl⟩
  have k0 : Kept (fun k => k = p) w W0 := by rw [← hW0]; exact ((Kept.refl _ _).alloc _).alloc _
  have r0 : SrcL W0 p [x] false := by rw [← hW0]; exact h.kept (((Kept.refl (fun _ => False) _).alloc _).alloc _) (fun f => f)
  have a0 : W0.heap[g]? = some (Obj.cells zCells 38 (0, 0)) := by rw [← hW0, ← hg]; exact heap_first w _ _
  have b0 : W0.heap[g + 1]? = some (Obj.cells zCells 38 (0, 0)) := by rw [← hW0, ← hg]; exact heap_second w _ _
  have NE := Lib.hid (show g ≠ p from by have := PL.out; omega)
  have NF := Lib.hid (show g + 1 ≠ p from by have := PL.out; omega)
  have K0 := Lib.hid k0; have R0 := Lib.hid r0; have A0 := Lib.hid a0; have B0 := Lib.hid b0
  have TT := Lib.hid (fun (W : World) (K : Kept (fun k => k = p) w W) => T.kept K (fun e => P5.out e.symm))
  have LT := Lib.hid (show ∀ q, g ≤ q → ¬ q < w.heap.size from fun q h1 => by omega)
  have HX := Lib.hid hx
  clear h T hp k0 r0 a0 b0 hx
  unfold zCells at hW0
  go_enter Tryz.func24, Tryz.ntmps24
  go_wp2_with fail
  clear hW0 hg
  refine (intL_cons R0.out HX.out (TT.out _ K0.out) P5.out).mono ?_
  rintro e W1 ⟨rfl, k, r⟩
  have K1 := Lib.hid (Kept.trans K0.out k (fun _ _ f => f) (fun _ _ f => f) : Kept (fun k => k = p) w W1)
  have R1 := Lib.hid r
  have A1 := Lib.hid ((k.block g (blk_lt A0.out) NE.out).trans A0.out)
  have B1 := Lib.hid ((k.block (g + 1) (blk_lt B0.out) NF.out).trans B0.out)
  clear k r
  have q := blk_lt B1.out
  have zz0 : W1.cell? ⟨g + 1, 0, none⟩ = some (.int .i64 0) := blk_cell B1.out 0
  have zz1 : W1.cell? ⟨g + 1, 1, none⟩ = some (.int .i64 0) := blk_cell B1.out 1
  have zz2 : W1.cell? ⟨g + 1, 2, none⟩ = some (.int .i64 0) := blk_cell B1.out 2
  have zz3 : W1.cell? ⟨g + 1, 3, none⟩ = some (.int .i64 0) := blk_cell B1.out 3
  have zz4 : W1.cell? ⟨g + 1, 4, none⟩ = some (.int .i64 0) := blk_cell B1.out 4
  have zz5 : W1.cell? ⟨g + 1, 5, none⟩ = some (.int .i64 0) := blk_cell B1.out 5
  have zz6 : W1.cell? ⟨g + 1, 6, none⟩ = some (.string ⟨#[]⟩) := blk_cell B1.out 6
  have zz7 : W1.cell? ⟨g + 1, 7, none⟩ = some (.string ⟨#[]⟩) := blk_cell B1.out 7
  have zz8 : W1.cell? ⟨g + 1, 8, none⟩ = some (.int .i64 0) := blk_cell B1.out 8
  have zz9 : W1.cell? ⟨g + 1, 9, none⟩ = some (.int .i64 0) := blk_cell B1.out 9
  have zz10 : W1.cell? ⟨g + 1, 10, none⟩ = some (.string ⟨#[]⟩) := blk_cell B1.out 10
  have zz11 : W1.cell? ⟨g + 1, 11, none⟩ = some (.slice none 0 0) := blk_cell B1.out 11
  have fz0 := blk_free B1.out 0
  have fz2 := blk_free B1.out 2
  have qa := blk_lt A1.out
  have za0 : W1.cell? ⟨g, 0, none⟩ = some (.int .i64 0) := blk_cell A1.out 0
  have fa0 := blk_free A1.out 0
  have za1 : W1.cell? ⟨g, 1, none⟩ = some (.int .i64 0) := blk_cell A1.out 1
  have fa1 := blk_free A1.out 1
  have za2 : W1.cell? ⟨g, 2, none⟩ = some (.int .i64 0) := blk_cell A1.out 2
  have fa2 := blk_free A1.out 2
  have za3 : W1.cell? ⟨g, 3, none⟩ = some (.int .i64 0) := blk_cell A1.out 3
  have fa3 := blk_free A1.out 3
  have za4 : W1.cell? ⟨g, 4, none⟩ = some (.int .i64 0) := blk_cell A1.out 4
  have fa4 := blk_free A1.out 4
  have za5 : W1.cell? ⟨g, 5, none⟩ = some (.int .i64 0) := blk_cell A1.out 5
  have fa5 := blk_free A1.out 5
  have za6 : W1.cell? ⟨g, 6, none⟩ = some (.string ⟨#[]⟩) := blk_cell A1.out 6
  have fa6 := blk_free A1.out 6
  have za7 : W1.cell? ⟨g, 7, none⟩ = some (.string ⟨#[]⟩) := blk_cell A1.out 7
  have fa7 := blk_free A1.out 7
  have za8 : W1.cell? ⟨g, 8, none⟩ = some (.int .i64 0) := blk_cell A1.out 8
  have fa8 := blk_free A1.out 8
  have za9 : W1.cell? ⟨g, 9, none⟩ = some (.int .i64 0) := blk_cell A1.out 9
  have fa9 := blk_free A1.out 9
  have za10 : W1.cell? ⟨g, 10, none⟩ = some (.string ⟨#[]⟩) := blk_cell A1.out 10
  have fa10 := blk_free A1.out 10
  have za11 : W1.cell? ⟨g, 11, none⟩ = some (.slice none 0 0) := blk_cell A1.out 11
  have fa11 := blk_free A1.out 11
  go_wp2_with fail
  (try simp only [Exit.inBlock, Exit.then])
  refine bodyPost_ret (v := Stp.val ⟨13, 0, n, spZ, none, 0, 0⟩) ?_ rfl ⟨⟨_, rfl, StepIs.none⟩, ?_, ?_⟩
  · rw [res_cell1 rfl]
    go_simp
    rfl
  · iterate 14 refine Kept.setAt (fun hl => absurd hl (LT.out _ (by omega))) ?_
    exact K1.out
  · refine R1.out.kept (S := fun k => k = g ∨ k = g + 1) ?_ (fun e => by have := NE.out; have := NF.out; omega)
    iterate 12 refine Kept.setAt (fun _ => .inl rfl) ?_
    refine Kept.setAt (fun _ => .inr rfl) ?_
    refine Kept.setAt (fun _ => .inr rfl) ?_
    exact Kept.refl _ _
end Go.Proofs.YtelhdbkkigehgaaGreatDoor

/- The chapter's step behind its word, some words. (Printed by gen_stepl.py.) -/
namespace Go.Proofs.YtelhdbkkigehgaaGreatDoor
open Go.RowKit

set_option maxHeartbeats 4000000 in
set_option maxRecDepth 100000 in
theorem step_trim {w : World} {p : Nat} (h : SrcL w p [] false)  :
    Calls Tryz.prog 24 #[.pointer (some ⟨p, 0, none⟩), .string ⟨#[116, 114, 105, 109]⟩] w fun e w' => (∃ v, e = .returned v ∧ StepIs w' w.heap.size v 14 0 0 spZ []) ∧ Kept (fun k => k = p) w w' ∧ SrcL w' p [] false := by
  have PL := Lib.hid h.lt
  have HH := Lib.hid h
  clear h
  go_enter Tryz.func24, Tryz.ntmps24
  go_wp2_with fail
  (try simp only [Exit.inBlock, Exit.then])
  refine bodyPost_ret (v := Stp.val ⟨14, 0, 0, spZ, none, 0, 0⟩) ?_ rfl ⟨⟨_, rfl, StepIs.none⟩, ?_, ?_⟩
  · rw [res_cell1 rfl]
    go_simp
    rfl
  · repeat (first | exact Kept.refl _ _ | apply Kept.alloc | refine Kept.setAt (fun hl => absurd hl (by simp)) ?_)
  · refine HH.out.kept (S := fun _ => False) ?_ (fun f => f)
    repeat (first | exact Kept.refl _ _ | apply Kept.alloc | refine Kept.setAt (fun hl => absurd hl (by simp)) ?_)
set_option maxHeartbeats 4000000 in
set_option maxRecDepth 100000 in
theorem step_none {w : World} {p : Nat} (h : SrcL w p [] false)  :
    Calls Tryz.prog 24 #[.pointer (some ⟨p, 0, none⟩), .string ⟨#[]⟩] w fun e w' => (∃ v, e = .returned v ∧ StepIs w' w.heap.size v 0 0 0 spZ []) ∧ Kept (fun k => k = p) w w' ∧ SrcL w' p [] true := by
  have PL := Lib.hid h.lt
  have c2 := h.cells.2.1
  have f2 := h.cells.2.2
  have pl := h.lt
  have HH := Lib.hid h
  clear h
  go_enter Tryz.func24, Tryz.ntmps24
  go_wp2_with fail
  (try simp only [Exit.inBlock, Exit.then])
  refine bodyPost_ret (v := Stp.val ⟨0, 0, 0, spZ, none, 0, 0⟩) ?_ rfl ⟨⟨_, rfl, StepIs.none⟩, ?_, ?_⟩
  · rw [res_cell1 rfl]
    go_simp
    rfl
  · repeat (first | exact Kept.refl _ _ | apply Kept.alloc | refine Kept.setAt (fun hl => rfl) ?_ | refine Kept.setAt (fun hl => absurd hl (by simp)) ?_)
  · refine (HH.out.set2 (b' := true)).kept (S := fun k => k ≠ p) ?_ (fun f => f rfl)
    repeat (first | exact Kept.refl _ _ | apply Kept.alloc | refine Kept.setAt (fun hl => by have := PL.out; omega) ?_)
set_option maxHeartbeats 4000000 in
set_option maxRecDepth 100000 in
theorem step_log {w : World} {p : Nat} {x : ByteArray} {n : Int} {s : Spn} {x1 x2 x3 x4 x5 no : ByteArray} (h : SrcL w p [x, x1, x2, x3, s.se, s.ho, x4, x5, no] false) (hx : Says x n) (h1 : Says x1 s.tr) (h2 : Says x2 s.id) (h3 : Says x3 s.pa) (h4 : Says x4 s.st) (h5 : Says x5 s.du) (h6 : noteB no = s.no) (T : Tab w) (hp : p ≠ 5) :
    Calls Tryz.prog 24 #[.pointer (some ⟨p, 0, none⟩), .string ⟨#[108, 111, 103]⟩] w fun e w' => (∃ v, e = .returned v ∧ StepIs w' w.heap.size v 1 n 0 s []) ∧ Kept (fun k => k = p) w w' ∧ SrcL w' p [] false := by
  have PL := Lib.hid h.lt
  have P5 := Lib.hid hp
  obtain ⟨g, hg⟩ : ∃ g, w.heap.size = g := ⟨_, rfl⟩
  have HG := Lib.hid hg
  obtain ⟨W0, hW0⟩ : ∃ W, (w.alloc (Obj.cells zCells 38)).alloc (Obj.cells zCells 38) = W := ⟨_, rfl⟩
  have k0 : Kept (fun k => k = p) w W0 := by rw [← hW0]; exact ((Kept.refl _ _).alloc _).alloc _
  have r0 : SrcL W0 p [x, x1, x2, x3, s.se, s.ho, x4, x5, no] false := by rw [← hW0]; exact h.kept (((Kept.refl (fun _ => False) _).alloc _).alloc _) (fun f => f)
  have a0 : W0.heap[g]? = some (Obj.cells zCells 38 (0, 0)) := by rw [← hW0, ← hg]; exact heap_first w _ _
  have b0 : W0.heap[g + 1]? = some (Obj.cells zCells 38 (0, 0)) := by rw [← hW0, ← hg]; exact heap_second w _ _
  have NE := Lib.hid (show g ≠ p from by have := PL.out; omega)
  have NF := Lib.hid (show g + 1 ≠ p from by have := PL.out; omega)
  have K0 := Lib.hid k0; have R0 := Lib.hid r0; have A0 := Lib.hid a0; have B0 := Lib.hid b0
  have TT := Lib.hid (fun (W : World) (K : Kept (fun k => k = p) w W) => T.kept K (fun e => P5.out e.symm))
  have LT := Lib.hid (show ∀ q, g ≤ q → ¬ q < w.heap.size from fun q h1 => by omega)
  have HX := Lib.hid hx
  have H1 := Lib.hid h1
  have H2 := Lib.hid h2
  have H3 := Lib.hid h3
  have H4 := Lib.hid h4
  have H5 := Lib.hid h5
  have H6 := Lib.hid h6
  clear h T hp k0 r0 a0 b0 hx h1 h2 h3 h4 h5 h6
  unfold zCells at hW0
  go_enter Tryz.func24, Tryz.ntmps24
  go_wp2_with fail
  clear hW0 hg
  refine (intL_cons R0.out HX.out (TT.out _ K0.out) P5.out).mono ?_
  rintro e W1 ⟨rfl, k, r⟩
  have K1 := Lib.hid (Kept.trans K0.out k (fun _ _ f => f) (fun _ _ f => f) : Kept (fun k => k = p) w W1)
  have R1 := Lib.hid r
  have A1 := Lib.hid ((k.block g (blk_lt A0.out) NE.out).trans A0.out)
  have B1 := Lib.hid ((k.block (g + 1) (blk_lt B0.out) NF.out).trans B0.out)
  clear k r
  have q := blk_lt B1.out
  have zz0 : W1.cell? ⟨g + 1, 0, none⟩ = some (.int .i64 0) := blk_cell B1.out 0
  have zz1 : W1.cell? ⟨g + 1, 1, none⟩ = some (.int .i64 0) := blk_cell B1.out 1
  have fz0 := blk_free B1.out 0
  have fz1 := blk_free B1.out 1
  go_wp2_with fail
  clear q zz0 zz1 fz0 fz1
  have KS : Kept (fun k => k = p) w ((W1.setCell ⟨g + 1, 0, none⟩ (.int .i64 1)).setCell ⟨g + 1, 1, none⟩ (.int .i64 n)) := by
    refine Kept.setAt (fun hl => absurd hl (LT.out _ (by omega))) ?_
    refine Kept.setAt (fun hl => absurd hl (LT.out _ (by omega))) ?_
    exact K1.out
  have RS : SrcL ((W1.setCell ⟨g + 1, 0, none⟩ (.int .i64 1)).setCell ⟨g + 1, 1, none⟩ (.int .i64 n)) p [x1, x2, x3, s.se, s.ho, x4, x5, no] false := by
    refine R1.out.kept (S := fun k => k = g + 1) ?_ (fun e => NF.out e.symm)
    refine Kept.setAt (fun _ => rfl) ?_
    refine Kept.setAt (fun _ => rfl) ?_
    exact Kept.refl _ _
  have AS : (((W1.setCell ⟨g + 1, 0, none⟩ (.int .i64 1)).setCell ⟨g + 1, 1, none⟩ (.int .i64 n))).heap[g]? = some (Obj.cells zCells 38 (0, 0)) := blk_off (blk_off (A1.out) 0 (.int .i64 1) (by omega)) 1 (.int .i64 n) (by omega)
  have BS : (((W1.setCell ⟨g + 1, 0, none⟩ (.int .i64 1)).setCell ⟨g + 1, 1, none⟩ (.int .i64 n))).heap[g + 1]? = some (Obj.cells #[.int .i64 1, .int .i64 n, .int .i64 0, .int .i64 0, .int .i64 0, .int .i64 0, .string ⟨#[]⟩, .string ⟨#[]⟩, .int .i64 0, .int .i64 0, .string ⟨#[]⟩, .slice none 0 0] 38 (0, 0)) := blk_set (blk_set (B1.out) 0 (.int .i64 1)) 1 (.int .i64 n)
  have KSh := Lib.hid KS; have RSh := Lib.hid RS; have ASh := Lib.hid AS; have BSh := Lib.hid BS
  clear KS RS AS BS
  refine (span_all (m := s) RSh.out H1.out H2.out H3.out H4.out H5.out H6.out (TT.out _ KSh.out) P5.out).mono ?_
  rintro e W2 ⟨rfl, k, r⟩
  have K2 := Lib.hid (Kept.trans KSh.out k (fun _ _ f => f) (fun _ _ f => f) : Kept (fun k => k = p) w W2)
  have R2 := Lib.hid r
  have A2 := Lib.hid ((k.block g (blk_lt ASh.out) NE.out).trans ASh.out)
  have B2 := Lib.hid ((k.block (g + 1) (blk_lt BSh.out) NF.out).trans BSh.out)
  clear k r
  obtain ⟨tr, id, pa, se, ho, st, du, nt⟩ := s
  unfold Spn.val Spn.cells
  have q := blk_lt B2.out
  have zz0 : W2.cell? ⟨g + 1, 0, none⟩ = some (.int .i64 1) := blk_cell B2.out 0
  have zz1 : W2.cell? ⟨g + 1, 1, none⟩ = some (.int .i64 n) := blk_cell B2.out 1
  have zz2 : W2.cell? ⟨g + 1, 2, none⟩ = some (.int .i64 0) := blk_cell B2.out 2
  have zz3 : W2.cell? ⟨g + 1, 3, none⟩ = some (.int .i64 0) := blk_cell B2.out 3
  have zz4 : W2.cell? ⟨g + 1, 4, none⟩ = some (.int .i64 0) := blk_cell B2.out 4
  have zz5 : W2.cell? ⟨g + 1, 5, none⟩ = some (.int .i64 0) := blk_cell B2.out 5
  have zz6 : W2.cell? ⟨g + 1, 6, none⟩ = some (.string ⟨#[]⟩) := blk_cell B2.out 6
  have zz7 : W2.cell? ⟨g + 1, 7, none⟩ = some (.string ⟨#[]⟩) := blk_cell B2.out 7
  have zz8 : W2.cell? ⟨g + 1, 8, none⟩ = some (.int .i64 0) := blk_cell B2.out 8
  have zz9 : W2.cell? ⟨g + 1, 9, none⟩ = some (.int .i64 0) := blk_cell B2.out 9
  have zz10 : W2.cell? ⟨g + 1, 10, none⟩ = some (.string ⟨#[]⟩) := blk_cell B2.out 10
  have zz11 : W2.cell? ⟨g + 1, 11, none⟩ = some (.slice none 0 0) := blk_cell B2.out 11
  have fz3 := blk_free B2.out 3
  have fz4 := blk_free B2.out 4
  have fz5 := blk_free B2.out 5
  have fz6 := blk_free B2.out 6
  have fz7 := blk_free B2.out 7
  have fz8 := blk_free B2.out 8
  have fz9 := blk_free B2.out 9
  have fz10 := blk_free B2.out 10
  have qa := blk_lt A2.out
  have za0 : W2.cell? ⟨g, 0, none⟩ = some (.int .i64 0) := blk_cell A2.out 0
  have fa0 := blk_free A2.out 0
  have za1 : W2.cell? ⟨g, 1, none⟩ = some (.int .i64 0) := blk_cell A2.out 1
  have fa1 := blk_free A2.out 1
  have za2 : W2.cell? ⟨g, 2, none⟩ = some (.int .i64 0) := blk_cell A2.out 2
  have fa2 := blk_free A2.out 2
  have za3 : W2.cell? ⟨g, 3, none⟩ = some (.int .i64 0) := blk_cell A2.out 3
  have fa3 := blk_free A2.out 3
  have za4 : W2.cell? ⟨g, 4, none⟩ = some (.int .i64 0) := blk_cell A2.out 4
  have fa4 := blk_free A2.out 4
  have za5 : W2.cell? ⟨g, 5, none⟩ = some (.int .i64 0) := blk_cell A2.out 5
  have fa5 := blk_free A2.out 5
  have za6 : W2.cell? ⟨g, 6, none⟩ = some (.string ⟨#[]⟩) := blk_cell A2.out 6
  have fa6 := blk_free A2.out 6
  have za7 : W2.cell? ⟨g, 7, none⟩ = some (.string ⟨#[]⟩) := blk_cell A2.out 7
  have fa7 := blk_free A2.out 7
  have za8 : W2.cell? ⟨g, 8, none⟩ = some (.int .i64 0) := blk_cell A2.out 8
  have fa8 := blk_free A2.out 8
  have za9 : W2.cell? ⟨g, 9, none⟩ = some (.int .i64 0) := blk_cell A2.out 9
  have fa9 := blk_free A2.out 9
  have za10 : W2.cell? ⟨g, 10, none⟩ = some (.string ⟨#[]⟩) := blk_cell A2.out 10
  have fa10 := blk_free A2.out 10
  have za11 : W2.cell? ⟨g, 11, none⟩ = some (.slice none 0 0) := blk_cell A2.out 11
  have fa11 := blk_free A2.out 11
  go_wp2_with fail
  (try simp only [Exit.inBlock, Exit.then])
  refine bodyPost_ret (v := Stp.val ⟨1, n, 0, ⟨tr, id, pa, se, ho, st, du, nt⟩, none, 0, 0⟩) ?_ rfl ⟨⟨_, rfl, StepIs.none⟩, ?_, ?_⟩
  · rw [res_cell1 rfl]
    go_simp
    rfl
  · iterate 20 refine Kept.setAt (fun hl => absurd hl (LT.out _ (by omega))) ?_
    exact K2.out
  · refine R2.out.kept (S := fun k => k = g ∨ k = g + 1) ?_ (fun e => by have := NE.out; have := NF.out; omega)
    iterate 12 refine Kept.setAt (fun _ => .inl rfl) ?_
    refine Kept.setAt (fun _ => .inr rfl) ?_
    refine Kept.setAt (fun _ => .inr rfl) ?_
    refine Kept.setAt (fun _ => .inr rfl) ?_
    refine Kept.setAt (fun _ => .inr rfl) ?_
    refine Kept.setAt (fun _ => .inr rfl) ?_
    refine Kept.setAt (fun _ => .inr rfl) ?_
    refine Kept.setAt (fun _ => .inr rfl) ?_
    refine Kept.setAt (fun _ => .inr rfl) ?_
    exact Kept.refl _ _
end Go.Proofs.YtelhdbkkigehgaaGreatDoor

/- The chapter's step behind its word, some words. (Printed by gen_stepl.py.) -/
namespace Go.Proofs.YtelhdbkkigehgaaGreatDoor
open Go.RowKit

set_option maxHeartbeats 4000000 in
set_option maxRecDepth 100000 in
theorem step_crash {w : World} {p : Nat} {x : ByteArray} {n : Int} {ws : List ByteArray} {ks : List Int} (h : SrcL w p (x :: ws) false) (hx : Says x n) (hs : SaysL ws ks) (hn : ks.length ≤ 1000000000) (T : Tab w) (hp : p ≠ 5) :
    Calls Tryz.prog 24 #[.pointer (some ⟨p, 0, none⟩), .string ⟨#[99, 114, 97, 115, 104]⟩] w fun e w' => (∃ v, e = .returned v ∧ StepIs w' w.heap.size v 15 n 0 spZ ks) ∧ Kept (fun k => k = p) w w' ∧ SrcL w' p [] false := by
  have PL := Lib.hid h.lt
  have P5 := Lib.hid hp
  obtain ⟨g, hg⟩ : ∃ g, w.heap.size = g := ⟨_, rfl⟩
  have HG := Lib.hid hg
  obtain ⟨W0, hW0⟩ : ∃ W, (w.alloc (Obj.cells zCells 38)).alloc (Obj.cells zCells 38) = W := ⟨_, rfl⟩
  have k0 : Kept (fun k => k = p) w W0 := by rw [← hW0]; exact ((Kept.refl _ _).alloc _).alloc _
  have r0 : SrcL W0 p (x :: ws) false := by rw [← hW0]; exact h.kept (((Kept.refl (fun _ => False) _).alloc _).alloc _) (fun f => f)
  have a0 : W0.heap[g]? = some (Obj.cells zCells 38 (0, 0)) := by rw [← hW0, ← hg]; exact heap_first w _ _
  have b0 : W0.heap[g + 1]? = some (Obj.cells zCells 38 (0, 0)) := by rw [← hW0, ← hg]; exact heap_second w _ _
  have NE := Lib.hid (show g ≠ p from by have := PL.out; omega)
  have NF := Lib.hid (show g + 1 ≠ p from by have := PL.out; omega)
  have K0 := Lib.hid k0; have R0 := Lib.hid r0; have A0 := Lib.hid a0; have B0 := Lib.hid b0
  have TT := Lib.hid (fun (W : World) (K : Kept (fun k => k = p) w W) => T.kept K (fun e => P5.out e.symm))
  have LT := Lib.hid (show ∀ q, g ≤ q → ¬ q < w.heap.size from fun q h1 => by omega)
  have HX := Lib.hid hx
  have HS := Lib.hid hs
  have HN := Lib.hid hn
  clear h T hp k0 r0 a0 b0 hx hs hn
  unfold zCells at hW0
  go_enter Tryz.func24, Tryz.ntmps24
  go_wp2_with fail
  clear hW0 hg
  refine (intL_cons R0.out HX.out (TT.out _ K0.out) P5.out).mono ?_
  rintro e W1 ⟨rfl, k, r⟩
  have K1 := Lib.hid (Kept.trans K0.out k (fun _ _ f => f) (fun _ _ f => f) : Kept (fun k => k = p) w W1)
  have R1 := Lib.hid r
  have A1 := Lib.hid ((k.block g (blk_lt A0.out) NE.out).trans A0.out)
  have B1 := Lib.hid ((k.block (g + 1) (blk_lt B0.out) NF.out).trans B0.out)
  clear k r
  have q := blk_lt B1.out
  have zz0 : W1.cell? ⟨g + 1, 0, none⟩ = some (.int .i64 0) := blk_cell B1.out 0
  have zz1 : W1.cell? ⟨g + 1, 1, none⟩ = some (.int .i64 0) := blk_cell B1.out 1
  have fz0 := blk_free B1.out 0
  have fz1 := blk_free B1.out 1
  go_wp2_with fail
  clear q zz0 zz1 fz0 fz1
  have KS : Kept (fun k => k = p) w ((W1.setCell ⟨g + 1, 0, none⟩ (.int .i64 15)).setCell ⟨g + 1, 1, none⟩ (.int .i64 n)) := by
    refine Kept.setAt (fun hl => absurd hl (LT.out _ (by omega))) ?_
    refine Kept.setAt (fun hl => absurd hl (LT.out _ (by omega))) ?_
    exact K1.out
  have RS : SrcL ((W1.setCell ⟨g + 1, 0, none⟩ (.int .i64 15)).setCell ⟨g + 1, 1, none⟩ (.int .i64 n)) p ws false := by
    refine R1.out.kept (S := fun k => k = g + 1) ?_ (fun e => NF.out e.symm)
    refine Kept.setAt (fun _ => rfl) ?_
    refine Kept.setAt (fun _ => rfl) ?_
    exact Kept.refl _ _
  have AS : (((W1.setCell ⟨g + 1, 0, none⟩ (.int .i64 15)).setCell ⟨g + 1, 1, none⟩ (.int .i64 n))).heap[g]? = some (Obj.cells zCells 38 (0, 0)) := blk_off (blk_off (A1.out) 0 (.int .i64 15) (by omega)) 1 (.int .i64 n) (by omega)
  have BS : (((W1.setCell ⟨g + 1, 0, none⟩ (.int .i64 15)).setCell ⟨g + 1, 1, none⟩ (.int .i64 n))).heap[g + 1]? = some (Obj.cells #[.int .i64 15, .int .i64 n, .int .i64 0, .int .i64 0, .int .i64 0, .int .i64 0, .string ⟨#[]⟩, .string ⟨#[]⟩, .int .i64 0, .int .i64 0, .string ⟨#[]⟩, .slice none 0 0] 38 (0, 0)) := blk_set (blk_set (B1.out) 0 (.int .i64 15)) 1 (.int .i64 n)
  have KSh := Lib.hid KS; have RSh := Lib.hid RS; have ASh := Lib.hid AS; have BSh := Lib.hid BS
  clear KS RS AS BS
  refine (ints_all RSh.out HS.out (TT.out _ KSh.out) P5.out HN.out).mono ?_
  rintro e W2 ⟨⟨kv, rfl, ik⟩, k, r⟩
  have IK := Lib.hid ((keep_of ik).low (c := g + 2) (by have := blk_lt BSh.out; omega))
  obtain ⟨ka, kc, hkv, _⟩ := keep_of ik
  have HKV := Lib.hid hkv
  clear ik
  subst hkv
  have K2 := Lib.hid (Kept.trans KSh.out k (fun _ _ f => f) (fun _ _ f => f) : Kept (fun k => k = p) w W2)
  have R2 := Lib.hid r
  have A2 := Lib.hid ((k.block g (blk_lt ASh.out) NE.out).trans ASh.out)
  have B2 := Lib.hid ((k.block (g + 1) (blk_lt BSh.out) NF.out).trans BSh.out)
  clear k r
  have q := blk_lt B2.out
  have zz0 : W2.cell? ⟨g + 1, 0, none⟩ = some (.int .i64 15) := blk_cell B2.out 0
  have zz1 : W2.cell? ⟨g + 1, 1, none⟩ = some (.int .i64 n) := blk_cell B2.out 1
  have zz2 : W2.cell? ⟨g + 1, 2, none⟩ = some (.int .i64 0) := blk_cell B2.out 2
  have zz3 : W2.cell? ⟨g + 1, 3, none⟩ = some (.int .i64 0) := blk_cell B2.out 3
  have zz4 : W2.cell? ⟨g + 1, 4, none⟩ = some (.int .i64 0) := blk_cell B2.out 4
  have zz5 : W2.cell? ⟨g + 1, 5, none⟩ = some (.int .i64 0) := blk_cell B2.out 5
  have zz6 : W2.cell? ⟨g + 1, 6, none⟩ = some (.string ⟨#[]⟩) := blk_cell B2.out 6
  have zz7 : W2.cell? ⟨g + 1, 7, none⟩ = some (.string ⟨#[]⟩) := blk_cell B2.out 7
  have zz8 : W2.cell? ⟨g + 1, 8, none⟩ = some (.int .i64 0) := blk_cell B2.out 8
  have zz9 : W2.cell? ⟨g + 1, 9, none⟩ = some (.int .i64 0) := blk_cell B2.out 9
  have zz10 : W2.cell? ⟨g + 1, 10, none⟩ = some (.string ⟨#[]⟩) := blk_cell B2.out 10
  have zz11 : W2.cell? ⟨g + 1, 11, none⟩ = some (.slice none 0 0) := blk_cell B2.out 11
  have fz11 := blk_free B2.out 11
  have qa := blk_lt A2.out
  have za0 : W2.cell? ⟨g, 0, none⟩ = some (.int .i64 0) := blk_cell A2.out 0
  have fa0 := blk_free A2.out 0
  have za1 : W2.cell? ⟨g, 1, none⟩ = some (.int .i64 0) := blk_cell A2.out 1
  have fa1 := blk_free A2.out 1
  have za2 : W2.cell? ⟨g, 2, none⟩ = some (.int .i64 0) := blk_cell A2.out 2
  have fa2 := blk_free A2.out 2
  have za3 : W2.cell? ⟨g, 3, none⟩ = some (.int .i64 0) := blk_cell A2.out 3
  have fa3 := blk_free A2.out 3
  have za4 : W2.cell? ⟨g, 4, none⟩ = some (.int .i64 0) := blk_cell A2.out 4
  have fa4 := blk_free A2.out 4
  have za5 : W2.cell? ⟨g, 5, none⟩ = some (.int .i64 0) := blk_cell A2.out 5
  have fa5 := blk_free A2.out 5
  have za6 : W2.cell? ⟨g, 6, none⟩ = some (.string ⟨#[]⟩) := blk_cell A2.out 6
  have fa6 := blk_free A2.out 6
  have za7 : W2.cell? ⟨g, 7, none⟩ = some (.string ⟨#[]⟩) := blk_cell A2.out 7
  have fa7 := blk_free A2.out 7
  have za8 : W2.cell? ⟨g, 8, none⟩ = some (.int .i64 0) := blk_cell A2.out 8
  have fa8 := blk_free A2.out 8
  have za9 : W2.cell? ⟨g, 9, none⟩ = some (.int .i64 0) := blk_cell A2.out 9
  have fa9 := blk_free A2.out 9
  have za10 : W2.cell? ⟨g, 10, none⟩ = some (.string ⟨#[]⟩) := blk_cell A2.out 10
  have fa10 := blk_free A2.out 10
  have za11 : W2.cell? ⟨g, 11, none⟩ = some (.slice none 0 0) := blk_cell A2.out 11
  have fa11 := blk_free A2.out 11
  go_wp2_with fail
  (try simp only [Exit.inBlock, Exit.then])
  refine bodyPost_ret (v := Stp.val ⟨15, n, 0, spZ, ka, ks.length, kc⟩) ?_ rfl ⟨⟨_, rfl, ⟨ka, kc, rfl, ?_⟩⟩, ?_, ?_⟩
  · rw [res_cell1 rfl]
    go_simp
    rfl
  · refine KeepR.low (b := g + 2) ?_ (by have := HG.out; omega)
    refine IK.out.kept (S := fun k => k = g ∨ k = g + 1) ?_ (fun k h1 h2 => by omega)
    iterate 12 refine Kept.setAt (fun _ => .inl rfl) ?_
    refine Kept.setAt (fun _ => .inr rfl) ?_
    exact Kept.refl _ _
  · iterate 13 refine Kept.setAt (fun hl => absurd hl (LT.out _ (by omega))) ?_
    exact K2.out
  · refine R2.out.kept (S := fun k => k = g ∨ k = g + 1) ?_ (fun e => by have := NE.out; have := NF.out; omega)
    iterate 12 refine Kept.setAt (fun _ => .inl rfl) ?_
    refine Kept.setAt (fun _ => .inr rfl) ?_
    exact Kept.refl _ _
set_option maxHeartbeats 4000000 in
set_option maxRecDepth 100000 in
theorem step_fail {w : World} {p : Nat} {x : ByteArray} {n : Int} {y : ByteArray} {m : Int} {ws : List ByteArray} {ks : List Int} (h : SrcL w p (x :: y :: ws) false) (hx : Says x n) (hy : Says y m) (hs : SaysL ws ks) (hn : ks.length ≤ 1000000000) (T : Tab w) (hp : p ≠ 5) :
    Calls Tryz.prog 24 #[.pointer (some ⟨p, 0, none⟩), .string ⟨#[102, 97, 105, 108]⟩] w fun e w' => (∃ v, e = .returned v ∧ StepIs w' w.heap.size v 16 n m spZ ks) ∧ Kept (fun k => k = p) w w' ∧ SrcL w' p [] false := by
  have PL := Lib.hid h.lt
  have P5 := Lib.hid hp
  obtain ⟨g, hg⟩ : ∃ g, w.heap.size = g := ⟨_, rfl⟩
  have HG := Lib.hid hg
  obtain ⟨W0, hW0⟩ : ∃ W, (w.alloc (Obj.cells zCells 38)).alloc (Obj.cells zCells 38) = W := ⟨_, rfl⟩
  have k0 : Kept (fun k => k = p) w W0 := by rw [← hW0]; exact ((Kept.refl _ _).alloc _).alloc _
  have r0 : SrcL W0 p (x :: y :: ws) false := by rw [← hW0]; exact h.kept (((Kept.refl (fun _ => False) _).alloc _).alloc _) (fun f => f)
  have a0 : W0.heap[g]? = some (Obj.cells zCells 38 (0, 0)) := by rw [← hW0, ← hg]; exact heap_first w _ _
  have b0 : W0.heap[g + 1]? = some (Obj.cells zCells 38 (0, 0)) := by rw [← hW0, ← hg]; exact heap_second w _ _
  have NE := Lib.hid (show g ≠ p from by have := PL.out; omega)
  have NF := Lib.hid (show g + 1 ≠ p from by have := PL.out; omega)
  have K0 := Lib.hid k0; have R0 := Lib.hid r0; have A0 := Lib.hid a0; have B0 := Lib.hid b0
  have TT := Lib.hid (fun (W : World) (K : Kept (fun k => k = p) w W) => T.kept K (fun e => P5.out e.symm))
  have LT := Lib.hid (show ∀ q, g ≤ q → ¬ q < w.heap.size from fun q h1 => by omega)
  have HX := Lib.hid hx
  have HY := Lib.hid hy
  have HS := Lib.hid hs
  have HN := Lib.hid hn
  clear h T hp k0 r0 a0 b0 hx hy hs hn
  unfold zCells at hW0
  go_enter Tryz.func24, Tryz.ntmps24
  go_wp2_with fail
  clear hW0 hg
  refine (intL_cons R0.out HX.out (TT.out _ K0.out) P5.out).mono ?_
  rintro e W1 ⟨rfl, k, r⟩
  have K1 := Lib.hid (Kept.trans K0.out k (fun _ _ f => f) (fun _ _ f => f) : Kept (fun k => k = p) w W1)
  have R1 := Lib.hid r
  have A1 := Lib.hid ((k.block g (blk_lt A0.out) NE.out).trans A0.out)
  have B1 := Lib.hid ((k.block (g + 1) (blk_lt B0.out) NF.out).trans B0.out)
  clear k r
  have q := blk_lt B1.out
  have zz0 : W1.cell? ⟨g + 1, 0, none⟩ = some (.int .i64 0) := blk_cell B1.out 0
  have zz1 : W1.cell? ⟨g + 1, 1, none⟩ = some (.int .i64 0) := blk_cell B1.out 1
  have fz0 := blk_free B1.out 0
  have fz1 := blk_free B1.out 1
  go_wp2_with fail
  clear q zz0 zz1 fz0 fz1
  have KS : Kept (fun k => k = p) w ((W1.setCell ⟨g + 1, 0, none⟩ (.int .i64 16)).setCell ⟨g + 1, 1, none⟩ (.int .i64 n)) := by
    refine Kept.setAt (fun hl => absurd hl (LT.out _ (by omega))) ?_
    refine Kept.setAt (fun hl => absurd hl (LT.out _ (by omega))) ?_
    exact K1.out
  have RS : SrcL ((W1.setCell ⟨g + 1, 0, none⟩ (.int .i64 16)).setCell ⟨g + 1, 1, none⟩ (.int .i64 n)) p (y :: ws) false := by
    refine R1.out.kept (S := fun k => k = g + 1) ?_ (fun e => NF.out e.symm)
    refine Kept.setAt (fun _ => rfl) ?_
    refine Kept.setAt (fun _ => rfl) ?_
    exact Kept.refl _ _
  have AS : (((W1.setCell ⟨g + 1, 0, none⟩ (.int .i64 16)).setCell ⟨g + 1, 1, none⟩ (.int .i64 n))).heap[g]? = some (Obj.cells zCells 38 (0, 0)) := blk_off (blk_off (A1.out) 0 (.int .i64 16) (by omega)) 1 (.int .i64 n) (by omega)
  have BS : (((W1.setCell ⟨g + 1, 0, none⟩ (.int .i64 16)).setCell ⟨g + 1, 1, none⟩ (.int .i64 n))).heap[g + 1]? = some (Obj.cells #[.int .i64 16, .int .i64 n, .int .i64 0, .int .i64 0, .int .i64 0, .int .i64 0, .string ⟨#[]⟩, .string ⟨#[]⟩, .int .i64 0, .int .i64 0, .string ⟨#[]⟩, .slice none 0 0] 38 (0, 0)) := blk_set (blk_set (B1.out) 0 (.int .i64 16)) 1 (.int .i64 n)
  have KSh := Lib.hid KS; have RSh := Lib.hid RS; have ASh := Lib.hid AS; have BSh := Lib.hid BS
  clear KS RS AS BS
  refine (intL_cons RSh.out HY.out (TT.out _ KSh.out) P5.out).mono ?_
  rintro e W2 ⟨rfl, k, r⟩
  have K2 := Lib.hid (Kept.trans KSh.out k (fun _ _ f => f) (fun _ _ f => f) : Kept (fun k => k = p) w W2)
  have R2 := Lib.hid r
  have A2 := Lib.hid ((k.block g (blk_lt ASh.out) NE.out).trans ASh.out)
  have B2 := Lib.hid ((k.block (g + 1) (blk_lt BSh.out) NF.out).trans BSh.out)
  clear k r
  have q := blk_lt B2.out
  have zz2 : W2.cell? ⟨g + 1, 2, none⟩ = some (.int .i64 0) := blk_cell B2.out 2
  have fz2 := blk_free B2.out 2
  go_wp2_with fail
  clear q zz2 fz2
  have KS : Kept (fun k => k = p) w (W2.setCell ⟨g + 1, 2, none⟩ (.int .i64 m)) := by
    refine Kept.setAt (fun hl => absurd hl (LT.out _ (by omega))) ?_
    exact K2.out
  have RS : SrcL (W2.setCell ⟨g + 1, 2, none⟩ (.int .i64 m)) p ws false := by
    refine R2.out.kept (S := fun k => k = g + 1) ?_ (fun e => NF.out e.symm)
    refine Kept.setAt (fun _ => rfl) ?_
    exact Kept.refl _ _
  have AS : ((W2.setCell ⟨g + 1, 2, none⟩ (.int .i64 m))).heap[g]? = some (Obj.cells zCells 38 (0, 0)) := blk_off (A2.out) 2 (.int .i64 m) (by omega)
  have BS : ((W2.setCell ⟨g + 1, 2, none⟩ (.int .i64 m))).heap[g + 1]? = some (Obj.cells #[.int .i64 16, .int .i64 n, .int .i64 m, .int .i64 0, .int .i64 0, .int .i64 0, .string ⟨#[]⟩, .string ⟨#[]⟩, .int .i64 0, .int .i64 0, .string ⟨#[]⟩, .slice none 0 0] 38 (0, 0)) := blk_set (B2.out) 2 (.int .i64 m)
  have KSh := Lib.hid KS; have RSh := Lib.hid RS; have ASh := Lib.hid AS; have BSh := Lib.hid BS
  clear KS RS AS BS
  refine (ints_all RSh.out HS.out (TT.out _ KSh.out) P5.out HN.out).mono ?_
  rintro e W3 ⟨⟨kv, rfl, ik⟩, k, r⟩
  have IK := Lib.hid ((keep_of ik).low (c := g + 2) (by have := blk_lt BSh.out; omega))
  obtain ⟨ka, kc, hkv, _⟩ := keep_of ik
  have HKV := Lib.hid hkv
  clear ik
  subst hkv
  have K3 := Lib.hid (Kept.trans KSh.out k (fun _ _ f => f) (fun _ _ f => f) : Kept (fun k => k = p) w W3)
  have R3 := Lib.hid r
  have A3 := Lib.hid ((k.block g (blk_lt ASh.out) NE.out).trans ASh.out)
  have B3 := Lib.hid ((k.block (g + 1) (blk_lt BSh.out) NF.out).trans BSh.out)
  clear k r
  have q := blk_lt B3.out
  have zz0 : W3.cell? ⟨g + 1, 0, none⟩ = some (.int .i64 16) := blk_cell B3.out 0
  have zz1 : W3.cell? ⟨g + 1, 1, none⟩ = some (.int .i64 n) := blk_cell B3.out 1
  have zz2 : W3.cell? ⟨g + 1, 2, none⟩ = some (.int .i64 m) := blk_cell B3.out 2
  have zz3 : W3.cell? ⟨g + 1, 3, none⟩ = some (.int .i64 0) := blk_cell B3.out 3
  have zz4 : W3.cell? ⟨g + 1, 4, none⟩ = some (.int .i64 0) := blk_cell B3.out 4
  have zz5 : W3.cell? ⟨g + 1, 5, none⟩ = some (.int .i64 0) := blk_cell B3.out 5
  have zz6 : W3.cell? ⟨g + 1, 6, none⟩ = some (.string ⟨#[]⟩) := blk_cell B3.out 6
  have zz7 : W3.cell? ⟨g + 1, 7, none⟩ = some (.string ⟨#[]⟩) := blk_cell B3.out 7
  have zz8 : W3.cell? ⟨g + 1, 8, none⟩ = some (.int .i64 0) := blk_cell B3.out 8
  have zz9 : W3.cell? ⟨g + 1, 9, none⟩ = some (.int .i64 0) := blk_cell B3.out 9
  have zz10 : W3.cell? ⟨g + 1, 10, none⟩ = some (.string ⟨#[]⟩) := blk_cell B3.out 10
  have zz11 : W3.cell? ⟨g + 1, 11, none⟩ = some (.slice none 0 0) := blk_cell B3.out 11
  have fz11 := blk_free B3.out 11
  have qa := blk_lt A3.out
  have za0 : W3.cell? ⟨g, 0, none⟩ = some (.int .i64 0) := blk_cell A3.out 0
  have fa0 := blk_free A3.out 0
  have za1 : W3.cell? ⟨g, 1, none⟩ = some (.int .i64 0) := blk_cell A3.out 1
  have fa1 := blk_free A3.out 1
  have za2 : W3.cell? ⟨g, 2, none⟩ = some (.int .i64 0) := blk_cell A3.out 2
  have fa2 := blk_free A3.out 2
  have za3 : W3.cell? ⟨g, 3, none⟩ = some (.int .i64 0) := blk_cell A3.out 3
  have fa3 := blk_free A3.out 3
  have za4 : W3.cell? ⟨g, 4, none⟩ = some (.int .i64 0) := blk_cell A3.out 4
  have fa4 := blk_free A3.out 4
  have za5 : W3.cell? ⟨g, 5, none⟩ = some (.int .i64 0) := blk_cell A3.out 5
  have fa5 := blk_free A3.out 5
  have za6 : W3.cell? ⟨g, 6, none⟩ = some (.string ⟨#[]⟩) := blk_cell A3.out 6
  have fa6 := blk_free A3.out 6
  have za7 : W3.cell? ⟨g, 7, none⟩ = some (.string ⟨#[]⟩) := blk_cell A3.out 7
  have fa7 := blk_free A3.out 7
  have za8 : W3.cell? ⟨g, 8, none⟩ = some (.int .i64 0) := blk_cell A3.out 8
  have fa8 := blk_free A3.out 8
  have za9 : W3.cell? ⟨g, 9, none⟩ = some (.int .i64 0) := blk_cell A3.out 9
  have fa9 := blk_free A3.out 9
  have za10 : W3.cell? ⟨g, 10, none⟩ = some (.string ⟨#[]⟩) := blk_cell A3.out 10
  have fa10 := blk_free A3.out 10
  have za11 : W3.cell? ⟨g, 11, none⟩ = some (.slice none 0 0) := blk_cell A3.out 11
  have fa11 := blk_free A3.out 11
  go_wp2_with fail
  (try simp only [Exit.inBlock, Exit.then])
  refine bodyPost_ret (v := Stp.val ⟨16, n, m, spZ, ka, ks.length, kc⟩) ?_ rfl ⟨⟨_, rfl, ⟨ka, kc, rfl, ?_⟩⟩, ?_, ?_⟩
  · rw [res_cell1 rfl]
    go_simp
    rfl
  · refine KeepR.low (b := g + 2) ?_ (by have := HG.out; omega)
    refine IK.out.kept (S := fun k => k = g ∨ k = g + 1) ?_ (fun k h1 h2 => by omega)
    iterate 12 refine Kept.setAt (fun _ => .inl rfl) ?_
    refine Kept.setAt (fun _ => .inr rfl) ?_
    exact Kept.refl _ _
  · iterate 13 refine Kept.setAt (fun hl => absurd hl (LT.out _ (by omega))) ?_
    exact K3.out
  · refine R3.out.kept (S := fun k => k = g ∨ k = g + 1) ?_ (fun e => by have := NE.out; have := NF.out; omega)
    iterate 12 refine Kept.setAt (fun _ => .inl rfl) ?_
    refine Kept.setAt (fun _ => .inr rfl) ?_
    exact Kept.refl _ _
end Go.Proofs.YtelhdbkkigehgaaGreatDoor

/- The chapter's reading of a line whose words are right; and of no line. -/
namespace Go.Proofs.YtelhdbkkigehgaaGreatDoor
open Go.RowKit

theorem res_cell_tmp {fn : Func} {p q : Tmp} {ty : TypeId} (h : fn.results = #[.cell p ty, .tmp q]) (tmps : Array Value) (P : Program) (w : World) :
    (results fn tmps).run P w = (((asAddr (tmps.getD p undef)).run P w).andThen fun a w₁ => (loadVar ty a).run P w₁).andThen fun v w₂ => .ok (.tuple #[v, tmps.getD q undef]) w₂ := by
  simp only [results, h]
  simp only [Sem.run_bind, Result.andThen]
  simp [Sem.run_bind, Result.andThen]
  cases (asAddr (tmps[p]?.getD undef)).run P w with
  | halt x y => rfl
  | ok a w1 =>
    dsimp only
    cases (loadVar ty a).run P w1 <;> rfl
/-- What the chapter makes of the words behind a step's word. -/
def StepOk (name : ByteArray) (L : List ByteArray) (ki nd nn : Int) (sp : Spn) (ks : List Int) (b : Bool) : Prop :=
  ∀ (W : World) (p : Nat), SrcL W p L false → Tab W → p ≠ 5 → Calls Tryz.prog 24 #[.pointer (some ⟨p, 0, none⟩), .string name] W fun e w' => (∃ v, e = .returned v ∧ StepIs w' W.heap.size v ki nd nn sp ks) ∧ Kept (fun k => k = p) W w' ∧ SrcL w' p [] b
set_option maxHeartbeats 4000000 in
set_option maxRecDepth 100000 in
theorem rread {w : World} {s name : ByteArray} {L : List ByteArray} {ki nd nn : Int} {sp : Spn} {ks : List Int} (hw : wordsB s = name :: L) (hsz : s.size ≤ 1000000000) (T : Tab w) (H : StepOk name L ki nd nn sp ks false) :
    Calls Tryz.prog 10 #[.string s] w fun e w' => (∃ v, e = .returned (.tuple #[v, .bool true]) ∧ StepIs w' w.heap.size v ki nd nn sp ks) ∧ Kept (fun _ => False) w w' := by
  have b5 : 5 < w.heap.size := by obtain ⟨t, fr, h⟩ := T; exact (Array.getElem?_eq_some_iff.1 h).1
  have B5 := Lib.hid b5
  obtain ⟨g, hg⟩ : ∃ g, w.heap.size = g := ⟨_, rfl⟩
  have HG := Lib.hid hg
  obtain ⟨W0, hW0⟩ : ∃ W, (w.alloc (Obj.cells zCells 38)).alloc (Obj.cells #[.string s, .bool false, .bool false] 67) = W := ⟨_, rfl⟩
  have k0 : Kept (fun _ => False) w W0 := by rw [← hW0]; exact ((Kept.refl _ _).alloc _).alloc _
  have a0 : W0.heap[g]? = some (Obj.cells zCells 38 (0, 0)) := by rw [← hW0, ← hg]; exact heap_first w _ _
  have b0 : W0.heap[g + 1]? = some (Obj.cells #[.string s, .bool false, .bool false] 67 (0, 0)) := by rw [← hW0, ← hg]; exact heap_second w _ _
  have r0 : SrcL W0 (g + 1) (name :: L) false := ⟨s, false, ⟨b0⟩, hsz, .inr ⟨rfl, hw.symm⟩⟩
  have K0 := Lib.hid k0; have R0 := Lib.hid r0; have A0 := Lib.hid a0
  have TT := Lib.hid (fun (W : World) (K : Kept (fun _ => False) w W) => T.kept K (fun f => f))
  have HH := Lib.hid H
  have LT := Lib.hid (show ∀ q, g ≤ q → ¬ q < w.heap.size from fun q h1 => by omega)
  clear hw hsz T H k0 a0 b0 r0 b5
  unfold zCells at hW0
  go_enter Tryz.func10, Tryz.ntmps10
  go_wp2_with fail
  clear hW0 hg
  refine (nextL_cons R0.out).mono ?_
  rintro e W1 ⟨rfl, k, r⟩
  have K1 := Lib.hid (K0.out.trans k (fun _ _ f => f) (fun q hq e => absurd hq (LT.out q (by omega))) : Kept (fun _ => False) w W1)
  have A1 := Lib.hid ((k.block g (blk_lt A0.out) (by omega)).trans A0.out)
  have R1 := Lib.hid r
  clear k r
  go_wp2_with fail
  refine (HH.out W1 (g + 1) R1.out (TT.out _ K1.out) (by have := B5.out; have := HG.out; omega)).mono ?_
  rintro e W2 ⟨⟨v, rfl, hv⟩, k, r⟩
  have K2 := Lib.hid (K1.out.trans k (fun _ _ f => f) (fun q hq e => absurd hq (LT.out q (by omega))) : Kept (fun _ => False) w W2)
  have A2 := Lib.hid ((k.block g (blk_lt A1.out) (by omega)).trans A1.out)
  obtain ⟨c1, c2, _⟩ := r.cells
  simp only [List.isEmpty_nil] at c1
  have q1 := r.lt
  have q0 : g < W2.heap.size := by omega
  obtain ⟨ka, kc, rfl, hk⟩ := hv
  have W1g : g + 2 ≤ W1.heap.size := by have := R1.out.lt; omega
  have HK := Lib.hid (hk.low (c := g + 2) W1g)
  obtain ⟨G2, hG2⟩ : ∃ G, W2.heap.size = G := ⟨_, rfl⟩
  have HG2 := Lib.hid hG2
  have za0 : W2.cell? ⟨g, 0, none⟩ = some (.int .i64 0) := blk_cell A2.out 0
  have za1 : W2.cell? ⟨g, 1, none⟩ = some (.int .i64 0) := blk_cell A2.out 1
  have za2 : W2.cell? ⟨g, 2, none⟩ = some (.int .i64 0) := blk_cell A2.out 2
  have za3 : W2.cell? ⟨g, 3, none⟩ = some (.int .i64 0) := blk_cell A2.out 3
  have za4 : W2.cell? ⟨g, 4, none⟩ = some (.int .i64 0) := blk_cell A2.out 4
  have za5 : W2.cell? ⟨g, 5, none⟩ = some (.int .i64 0) := blk_cell A2.out 5
  have za6 : W2.cell? ⟨g, 6, none⟩ = some (.string ⟨#[]⟩) := blk_cell A2.out 6
  have za7 : W2.cell? ⟨g, 7, none⟩ = some (.string ⟨#[]⟩) := blk_cell A2.out 7
  have za8 : W2.cell? ⟨g, 8, none⟩ = some (.int .i64 0) := blk_cell A2.out 8
  have za9 : W2.cell? ⟨g, 9, none⟩ = some (.int .i64 0) := blk_cell A2.out 9
  have za10 : W2.cell? ⟨g, 10, none⟩ = some (.string ⟨#[]⟩) := blk_cell A2.out 10
  have za11 : W2.cell? ⟨g, 11, none⟩ = some (.slice none 0 0) := blk_cell A2.out 11
  have fa0 := blk_free A2.out 0
  have fa1 := blk_free A2.out 1
  have fa2 := blk_free A2.out 2
  have fa3 := blk_free A2.out 3
  have fa4 := blk_free A2.out 4
  have fa5 := blk_free A2.out 5
  have fa6 := blk_free A2.out 6
  have fa7 := blk_free A2.out 7
  have fa8 := blk_free A2.out 8
  have fa9 := blk_free A2.out 9
  have fa10 := blk_free A2.out 10
  have fa11 := blk_free A2.out 11
  obtain ⟨tr, id, pa, se, ho, st, du, nt⟩ := sp
  clear k r hk hG2 W1g
  unfold Stp.val Stp.cells Spn.cells
  go_wp2_with fail
  (try simp only [Exit.inBlock, Exit.then])
  refine bodyPost_ret (v := .tuple #[Stp.val ⟨ki, nd, nn, ⟨tr, id, pa, se, ho, st, du, nt⟩, ka, ks.length, kc⟩, .bool true]) ?_ rfl ⟨⟨_, rfl, ka, kc, rfl, ?_⟩, ?_⟩
  · rw [res_cell_tmp rfl]
    go_simp
    rfl
  · refine KeepR.low (b := g + 2) ?_ (by have := HG.out; omega)
    refine HK.out.kept (S := fun k => k = g) ?_ (fun k h1 h2 => by omega)
    refine Kept.alloc ?_ _
    iterate 12 refine Kept.setAt (fun _ => rfl) ?_
    exact Kept.refl _ _
  · refine Kept.alloc ?_ _
    iterate 12 refine Kept.setAt (fun hl => absurd hl (LT.out _ (by omega))) ?_
    exact K2.out
set_option maxHeartbeats 4000000 in
set_option maxRecDepth 100000 in
/-- A line of nothing says no step. -/
theorem rread_none {w : World} (T : Tab w) :
    Calls Tryz.prog 10 #[.string ⟨#[]⟩] w fun e w' => (∃ v, e = .returned (.tuple #[v, .bool false])) ∧ Kept (fun _ => False) w w' := by
  have b5 : 5 < w.heap.size := by obtain ⟨t, fr, h⟩ := T; exact (Array.getElem?_eq_some_iff.1 h).1
  have B5 := Lib.hid b5
  obtain ⟨g, hg⟩ : ∃ g, w.heap.size = g := ⟨_, rfl⟩
  have HG := Lib.hid hg
  obtain ⟨W0, hW0⟩ : ∃ W, (w.alloc (Obj.cells zCells 38)).alloc (Obj.cells #[.string ⟨#[]⟩, .bool false, .bool false] 67) = W := ⟨_, rfl⟩
  have k0 : Kept (fun _ => False) w W0 := by rw [← hW0]; exact ((Kept.refl _ _).alloc _).alloc _
  have a0 : W0.heap[g]? = some (Obj.cells zCells 38 (0, 0)) := by rw [← hW0, ← hg]; exact heap_first w _ _
  have b0 : W0.heap[g + 1]? = some (Obj.cells #[.string ⟨#[]⟩, .bool false, .bool false] 67 (0, 0)) := by rw [← hW0, ← hg]; exact heap_second w _ _
  have r0 : SrcL W0 (g + 1) [⟨#[]⟩] false := ⟨⟨#[]⟩, false, ⟨b0⟩, by decide, .inr ⟨rfl, (words_last ⟨#[]⟩ rfl).symm⟩⟩
  have K0 := Lib.hid k0; have R0 := Lib.hid r0; have A0 := Lib.hid a0
  have LT := Lib.hid (show ∀ q, g ≤ q → ¬ q < w.heap.size from fun q h1 => by omega)
  clear T k0 a0 b0 r0 b5
  unfold zCells at hW0
  go_enter Tryz.func10, Tryz.ntmps10
  go_wp2_with fail
  clear hW0 hg
  refine (nextL_cons R0.out).mono ?_
  rintro e W1 ⟨rfl, k, r⟩
  have K1 := Lib.hid (K0.out.trans k (fun _ _ f => f) (fun q hq e => absurd hq (LT.out q (by omega))) : Kept (fun _ => False) w W1)
  have A1 := Lib.hid ((k.block g (blk_lt A0.out) (by omega)).trans A0.out)
  have R1 := Lib.hid r
  clear k r
  go_wp2_with fail
  refine (step_none R1.out).mono ?_
  rintro e W2 ⟨⟨v, rfl, hv⟩, k, r⟩
  have K2 := Lib.hid (K1.out.trans k (fun _ _ f => f) (fun q hq e => absurd hq (LT.out q (by omega))) : Kept (fun _ => False) w W2)
  have A2 := Lib.hid ((k.block g (blk_lt A1.out) (by omega)).trans A1.out)
  obtain ⟨c1, c2, _⟩ := r.cells
  simp only [List.isEmpty_nil] at c1
  have q1 := r.lt
  have q0 : g < W2.heap.size := by omega
  obtain ⟨ka, kc, rfl, hk⟩ := hv
  obtain ⟨G2, hG2⟩ : ∃ G, W2.heap.size = G := ⟨_, rfl⟩
  have HG2 := Lib.hid hG2
  have za0 : W2.cell? ⟨g, 0, none⟩ = some (.int .i64 0) := blk_cell A2.out 0
  have za1 : W2.cell? ⟨g, 1, none⟩ = some (.int .i64 0) := blk_cell A2.out 1
  have za2 : W2.cell? ⟨g, 2, none⟩ = some (.int .i64 0) := blk_cell A2.out 2
  have za3 : W2.cell? ⟨g, 3, none⟩ = some (.int .i64 0) := blk_cell A2.out 3
  have za4 : W2.cell? ⟨g, 4, none⟩ = some (.int .i64 0) := blk_cell A2.out 4
  have za5 : W2.cell? ⟨g, 5, none⟩ = some (.int .i64 0) := blk_cell A2.out 5
  have za6 : W2.cell? ⟨g, 6, none⟩ = some (.string ⟨#[]⟩) := blk_cell A2.out 6
  have za7 : W2.cell? ⟨g, 7, none⟩ = some (.string ⟨#[]⟩) := blk_cell A2.out 7
  have za8 : W2.cell? ⟨g, 8, none⟩ = some (.int .i64 0) := blk_cell A2.out 8
  have za9 : W2.cell? ⟨g, 9, none⟩ = some (.int .i64 0) := blk_cell A2.out 9
  have za10 : W2.cell? ⟨g, 10, none⟩ = some (.string ⟨#[]⟩) := blk_cell A2.out 10
  have za11 : W2.cell? ⟨g, 11, none⟩ = some (.slice none 0 0) := blk_cell A2.out 11
  have fa0 := blk_free A2.out 0
  have fa1 := blk_free A2.out 1
  have fa2 := blk_free A2.out 2
  have fa3 := blk_free A2.out 3
  have fa4 := blk_free A2.out 4
  have fa5 := blk_free A2.out 5
  have fa6 := blk_free A2.out 6
  have fa7 := blk_free A2.out 7
  have fa8 := blk_free A2.out 8
  have fa9 := blk_free A2.out 9
  have fa10 := blk_free A2.out 10
  have fa11 := blk_free A2.out 11
  clear k r hk hG2
  unfold spZ Stp.val Stp.cells Spn.cells
  go_wp2_with fail
  (try simp only [Exit.inBlock, Exit.then])
  refine bodyPost_ret (v := .tuple #[.agg zCells, .bool false]) ?_ rfl ⟨⟨_, rfl⟩, ?_⟩
  · rw [res_cell_tmp rfl]
    go_simp
  · refine Kept.alloc ?_ _
    iterate 12 refine Kept.setAt (fun hl => absurd hl (LT.out _ (by omega))) ?_
    exact K2.out
end Go.Proofs.YtelhdbkkigehgaaGreatDoor

