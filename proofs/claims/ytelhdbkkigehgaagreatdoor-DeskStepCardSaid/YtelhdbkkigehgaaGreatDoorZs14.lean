/- A part of the proof. -/
import Derived.Test.YtelhdbkkigehgaaGreatDoorZs12

/- Two steps, field by field: the law's answer for steps that are the same. -/
namespace Go.Proofs.YtelhdbkkigehgaaGreatDoor
open Go.RowKit

set_option maxHeartbeats 4000000 in
set_option maxRecDepth 100000 in
theorem equal_yes {w : World} {b1 b2 : Nat} {ki nd nn : Int} {sp : Spn} {a1 a2 : Option Addr} {c1 c2 : Nat} {ks : List Int} (h1 : KeepR w b1 (.slice a1 ks.length c1) ks) (h2 : KeepR w b2 (.slice a2 ks.length c2) ks) (n1 : ks.length ≤ 1000000000) :
    Calls Tryz.prog 11 #[Stp.val ⟨ki, nd, nn, sp, a1, ks.length, c1⟩, Stp.val ⟨ki, nd, nn, sp, a2, ks.length, c2⟩] w fun e w' => e = .returned (.bool true) ∧ Kept (fun _ => False) w w' := by
  have he := neq35_same sp
  have H1 := Lib.hid h1
  have H2 := Lib.hid h2
  obtain ⟨m, hm⟩ : ∃ m, ks.length = m := ⟨_, rfl⟩
  have HM := Lib.hid hm
  obtain ⟨g, hg⟩ : ∃ g, w.heap.size = g := ⟨_, rfl⟩
  have HG := Lib.hid hg
  obtain ⟨tr, id, pa, se, ho, st, du, nt⟩ := sp
  dsimp only [agP] at he
  unfold Stp.val Stp.cells Spn.cells
  clear h1 h2
  rw [hm] at n1 ⊢
  obtain ⟨W0, hW0⟩ : ∃ W, (w.alloc (Obj.cells #[.int .i64 ki, .int .i64 nd, .int .i64 nn, .int .i64 tr, .int .i64 id, .int .i64 pa, .string se, .string ho, .int .i64 st, .int .i64 du, .string nt, .slice a1 m c1] 38)).alloc (Obj.cells #[.int .i64 ki, .int .i64 nd, .int .i64 nn, .int .i64 tr, .int .i64 id, .int .i64 pa, .string se, .string ho, .int .i64 st, .int .i64 du, .string nt, .slice a2 m c2] 38) = W := ⟨_, rfl⟩
  have A0 := Lib.hid (show W0.heap[g]? = some (Obj.cells #[.int .i64 ki, .int .i64 nd, .int .i64 nn, .int .i64 tr, .int .i64 id, .int .i64 pa, .string se, .string ho, .int .i64 st, .int .i64 du, .string nt, .slice a1 m c1] 38 (0, 0)) from by rw [← hW0, ← hg]; exact heap_first w _ _)
  have B0 := Lib.hid (show W0.heap[g + 1]? = some (Obj.cells #[.int .i64 ki, .int .i64 nd, .int .i64 nn, .int .i64 tr, .int .i64 id, .int .i64 pa, .string se, .string ho, .int .i64 st, .int .i64 du, .string nt, .slice a2 m c2] 38 (0, 0)) from by rw [← hW0, ← hg]; exact heap_second w _ _)
  have K0 := Lib.hid (show Kept (fun _ => False) w W0 from by rw [← hW0]; exact ((Kept.refl _ _).alloc _).alloc _)
  have za0 : W0.cell? ⟨g, 0, none⟩ = some (.int .i64 ki) := blk_cell A0.out 0
  have za1 : W0.cell? ⟨g, 1, none⟩ = some (.int .i64 nd) := blk_cell A0.out 1
  have za2 : W0.cell? ⟨g, 2, none⟩ = some (.int .i64 nn) := blk_cell A0.out 2
  have za3 : W0.cell? ⟨g, 3, none⟩ = some (.int .i64 tr) := blk_cell A0.out 3
  have za4 : W0.cell? ⟨g, 4, none⟩ = some (.int .i64 id) := blk_cell A0.out 4
  have za5 : W0.cell? ⟨g, 5, none⟩ = some (.int .i64 pa) := blk_cell A0.out 5
  have za6 : W0.cell? ⟨g, 6, none⟩ = some (.string se) := blk_cell A0.out 6
  have za7 : W0.cell? ⟨g, 7, none⟩ = some (.string ho) := blk_cell A0.out 7
  have za8 : W0.cell? ⟨g, 8, none⟩ = some (.int .i64 st) := blk_cell A0.out 8
  have za9 : W0.cell? ⟨g, 9, none⟩ = some (.int .i64 du) := blk_cell A0.out 9
  have za10 : W0.cell? ⟨g, 10, none⟩ = some (.string nt) := blk_cell A0.out 10
  have za11 : W0.cell? ⟨g, 11, none⟩ = some (.slice a1 m c1) := blk_cell A0.out 11
  have zb0 : W0.cell? ⟨g + 1, 0, none⟩ = some (.int .i64 ki) := blk_cell B0.out 0
  have zb1 : W0.cell? ⟨g + 1, 1, none⟩ = some (.int .i64 nd) := blk_cell B0.out 1
  have zb2 : W0.cell? ⟨g + 1, 2, none⟩ = some (.int .i64 nn) := blk_cell B0.out 2
  have zb3 : W0.cell? ⟨g + 1, 3, none⟩ = some (.int .i64 tr) := blk_cell B0.out 3
  have zb4 : W0.cell? ⟨g + 1, 4, none⟩ = some (.int .i64 id) := blk_cell B0.out 4
  have zb5 : W0.cell? ⟨g + 1, 5, none⟩ = some (.int .i64 pa) := blk_cell B0.out 5
  have zb6 : W0.cell? ⟨g + 1, 6, none⟩ = some (.string se) := blk_cell B0.out 6
  have zb7 : W0.cell? ⟨g + 1, 7, none⟩ = some (.string ho) := blk_cell B0.out 7
  have zb8 : W0.cell? ⟨g + 1, 8, none⟩ = some (.int .i64 st) := blk_cell B0.out 8
  have zb9 : W0.cell? ⟨g + 1, 9, none⟩ = some (.int .i64 du) := blk_cell B0.out 9
  have zb10 : W0.cell? ⟨g + 1, 10, none⟩ = some (.string nt) := blk_cell B0.out 10
  have zb11 : W0.cell? ⟨g + 1, 11, none⟩ = some (.slice a2 m c2) := blk_cell B0.out 11
  have YA := Lib.hid za11
  have YB := Lib.hid zb11
  go_enter Tryz.func11, Tryz.ntmps11
  go_wp2_with fail
  clear he za0 zb0 za1 zb1 za2 zb2 za3 zb3 za4 zb4 za5 zb5 za6 zb6 za7 zb7 za8 zb8 za9 zb9 za10 zb10 za11 zb11
  go_loopg [5] m (fun gh t wr => gh ≤ m ∧ t = .int .i64 gh ∧ Kept (fun _ => False) W0 wr)
  case atStart => exact ⟨Nat.le_refl _, rfl, Kept.refl _ _⟩
  case round =>
    obtain ⟨hle, rfl, hk⟩ := hrel
    clear hW0 hg
    have KW := Lib.hid (K0.out.trans hk (fun _ _ f => f) (fun _ _ f => f) : Kept (fun _ => False) w wr)
    have za := hk.cell YA.out (fun f => f)
    have zb := hk.cell YB.out (fun f => f)
    have KK := Lib.hid hk
    clear hk
    cases gk with
    | zero =>
      clear za zb
      go_wp2_with fail
      go_ret
      exact ⟨rfl, KW.out⟩
    | succ j =>
      have hj : j < ks.length := by have := HM.out; omega
      have hne : ¬ ks = [] := fun e => by rw [e] at hj; simp at hj
      obtain ⟨x, hx⟩ : ∃ x, ks[j]? = some x := ⟨_, List.getElem?_eq_getElem hj⟩
      obtain ⟨_, _, e1, q1⟩ := (H1.out.kept KW.out (fun _ _ f => f))
      obtain ⟨ga, oa, rfl, _, r1⟩ := q1.resolve_left hne
      obtain ⟨_, _, e2, q2⟩ := (H2.out.kept KW.out (fun _ _ f => f))
      obtain ⟨gb, ob, rfl, _, r2⟩ := q2.resolve_left hne
      cases e1
      cases e2
      have x1 := r1 j x hx
      have x2 := r2 j x hx
      have i1 : ((j + 1 : Nat) : Int) - 1 = (j : Int) := by omega
      have i2 : ((j : Nat) : Int) < (m : Int) := by omega
      have i3 : (0 : Int) < ((j + 1 : Nat) : Int) := by omega
      have i4 : (0 : Int) ≤ (j : Int) := by omega
      have i5 : wrap64 (((j + 1 : Nat) : Int) - 1) = (j : Int) := by rw [i1]; exact wr_in _ (by omega)
      clear q1 q2 r1 r2 hj hne hx hle
      go_wp2_with fail
      go_region_held3 (fun w' => w'.cell? ⟨g, 11, none⟩ = some (.slice (some ⟨ga, oa, none⟩) m c1) ∧ w'.cell? ⟨g + 1, 11, none⟩ = some (.slice (some ⟨gb, ob, none⟩) m c2) ∧ w'.cell? ⟨ga, oa + j, none⟩ = some (.int .i64 x) ∧ w'.cell? ⟨gb, ob + j, none⟩ = some (.int .i64 x)) (first | go_keep | (simp [go_sem, *]; done)) (fail)
      go_wp2_with fail
      go_roundg j
      case measure => omega
      case rel => exact ⟨by have := HM.out; omega, rfl, KK.out.drew⟩
end Go.Proofs.YtelhdbkkigehgaaGreatDoor

