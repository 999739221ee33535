/- A part of the proof. -/
import Derived.Test.YtelhdbkkigehgaaGreatDoorZs13
import Derived.Test.YtelhdbkkigehgaaGreatDoorZs14

/- DeskStep, walked. -/
namespace Go.Proofs.YtelhdbkkigehgaaGreatDoor
open Go.RowKit

set_option maxHeartbeats 4000000 in
set_option maxRecDepth 100000 in
/-- A line of nothing says no step. -/
theorem rread_zero {w : World} (T : Tab w) :
    Calls Tryz.prog 10 #[.string ⟨#[]⟩] w fun e w' => e = .returned (.tuple #[.agg zCells, .bool false]) ∧ Kept (fun _ => False) w w' := by
  have b5 : 5 < w.heap.size := by obtain ⟨t, fr, h⟩ := T; exact (Array.getElem?_eq_some_iff.1 h).1
  have B5 := Lib.hid b5
  obtain ⟨g, hg⟩ : ∃ g, w.heap.size = g := ⟨_, rfl⟩
  have HG := Lib.hid hg
  obtain ⟨W0, hW0⟩ : ∃ W, (w.alloc (Obj.cells zCells 38)).alloc (Obj.cells #[.string ⟨#[]⟩, .bool false, .bool false] 67) = W := ⟨_, rfl⟩
  have k0 : Kept (fun _ => False) w W0 := by rw [← hW0]; exact ((Kept.refl _ _).alloc _).alloc _
  have a0 : W0.heap[g]? = some (Obj.cells zCells 38 (0, 0)) := by rw [← hW0, ← hg]; exact heap_first w _ _
  have b0 : W0.heap[g + 1]? = some (Obj.cells #[.string ⟨#[]⟩, .bool false, .bool false] 67 (0, 0)) := by rw [← hW0, ← hg]; exact heap_second w _ _
  have r0 : SrcL W0 (g + 1) [⟨#[]⟩] false := ⟨⟨#[]⟩, false, ⟨b0⟩, by decide, .inr ⟨rfl, (words_last ⟨#[]⟩ rfl).symm⟩⟩
  have K0 := Lib.hid k0; have R0 := Lib.hid r0; have A0 := Lib.hid a0
  have LT := Lib.hid (show ∀ q, g ≤ q → ¬ q < w.heap.size from fun q h1 => by omega)
  clear T k0 a0 b0 r0 b5
  unfold zCells at hW0
  go_enter Tryz.func10, Tryz.ntmps10
  go_wp2_with fail
  clear hW0 hg
  refine (nextL_cons R0.out).mono ?_
  rintro e W1 ⟨rfl, k, r⟩
  have K1 := Lib.hid (K0.out.trans k (fun _ _ f => f) (fun q hq e => absurd hq (LT.out q (by omega))) : Kept (fun _ => False) w W1)
  have A1 := Lib.hid ((k.block g (blk_lt A0.out) (by omega)).trans A0.out)
  have R1 := Lib.hid r
  clear k r
  go_wp2_with fail
  refine (step_none R1.out).mono ?_
  rintro e W2 ⟨⟨v, rfl, hv⟩, k, r⟩
  have K2 := Lib.hid (K1.out.trans k (fun _ _ f => f) (fun q hq e => absurd hq (LT.out q (by omega))) : Kept (fun _ => False) w W2)
  have A2 := Lib.hid ((k.block g (blk_lt A1.out) (by omega)).trans A1.out)
  obtain ⟨c1, c2, _⟩ := r.cells
  simp only [List.isEmpty_nil] at c1
  have q1 := r.lt
  have q0 : g < W2.heap.size := by omega
  obtain ⟨ka, kc, rfl, hk⟩ := hv
  obtain ⟨G2, hG2⟩ : ∃ G, W2.heap.size = G := ⟨_, rfl⟩
  have HG2 := Lib.hid hG2
  have za0 : W2.cell? ⟨g, 0, none⟩ = some (.int .i64 0) := blk_cell A2.out 0
  have za1 : W2.cell? ⟨g, 1, none⟩ = some (.int .i64 0) := blk_cell A2.out 1
  have za2 : W2.cell? ⟨g, 2, none⟩ = some (.int .i64 0) := blk_cell A2.out 2
  have za3 : W2.cell? ⟨g, 3, none⟩ = some (.int .i64 0) := blk_cell A2.out 3
  have za4 : W2.cell? ⟨g, 4, none⟩ = some (.int .i64 0) := blk_cell A2.out 4
  have za5 : W2.cell? ⟨g, 5, none⟩ = some (.int .i64 0) := blk_cell A2.out 5
  have za6 : W2.cell? ⟨g, 6, none⟩ = some (.string ⟨#[]⟩) := blk_cell A2.out 6
  have za7 : W2.cell? ⟨g, 7, none⟩ = some (.string ⟨#[]⟩) := blk_cell A2.out 7
  have za8 : W2.cell? ⟨g, 8, none⟩ = some (.int .i64 0) := blk_cell A2.out 8
  have za9 : W2.cell? ⟨g, 9, none⟩ = some (.int .i64 0) := blk_cell A2.out 9
  have za10 : W2.cell? ⟨g, 10, none⟩ = some (.string ⟨#[]⟩) := blk_cell A2.out 10
  have za11 : W2.cell? ⟨g, 11, none⟩ = some (.slice none 0 0) := blk_cell A2.out 11
  have fa0 := blk_free A2.out 0
  have fa1 := blk_free A2.out 1
  have fa2 := blk_free A2.out 2
  have fa3 := blk_free A2.out 3
  have fa4 := blk_free A2.out 4
  have fa5 := blk_free A2.out 5
  have fa6 := blk_free A2.out 6
  have fa7 := blk_free A2.out 7
  have fa8 := blk_free A2.out 8
  have fa9 := blk_free A2.out 9
  have fa10 := blk_free A2.out 10
  have fa11 := blk_free A2.out 11
  clear k r hk hG2
  unfold spZ Stp.val Stp.cells Spn.cells
  go_wp2_with fail
  (try simp only [Exit.inBlock, Exit.then])
  refine bodyPost_ret (v := .tuple #[.agg zCells, .bool false]) ?_ rfl ⟨rfl, ?_⟩
  · rw [res_cell_tmp rfl]
    go_simp
  · refine Kept.alloc ?_ _
    iterate 12 refine Kept.setAt (fun hl => absurd hl (LT.out _ (by omega))) ?_
    exact K2.out
set_option maxHeartbeats 8000000 in
set_option maxRecDepth 100000 in
theorem deskStep_any {w : World} {ki nd nn : Int} {sp : Spn} {ka : Option Addr} {kc : Nat} {ks : List Int} (WK : ∀ W, Kept (fun _ => False) w W → Calls Tryz.prog 5 #[] W fun e w' => e = .returned (.bool true) ∧ Kept (fun _ => False) W w') (HK : KeepR w 0 (.slice ka ks.length kc) ks) (E : Vr w) (h0 : In64 nd) (h6 : In64 nn) (h7 : ∀ n ∈ ks, In64 n) (h1 : In64 sp.tr) (h2 : In64 sp.id) (h3 : In64 sp.pa) (h4 : In64 sp.st) (h5 : In64 sp.du) :
    Calls Tryz.prog 4 #[Stp.val ⟨ki, nd, nn, sp, ka, ks.length, kc⟩] w fun e w' => e = .returned (.bool true) ∧ Kept (fun _ => False) w w' := by
  have WH := Lib.hid WK
  have EE := Lib.hid E
  have HH := Lib.hid HK
  have IN := Lib.hid (And.intro h0 (And.intro h6 (And.intro h7 (And.intro h1 (And.intro h2 (And.intro h3 (And.intro h4 h5)))))))
  obtain ⟨B, hB⟩ : ∃ B, beyX ⟨ki, nd, nn, sp, ka, ks.length, kc⟩ = B := ⟨_, rfl⟩
  have HB := Lib.hid hB
  have BY := Lib.hid (fun (W : World) (b cap : Nat) hc => beyond8 (w := W) (m := ⟨ki, nd, nn, sp, ka, ks.length, kc⟩) (g := b) (o := 0) (cap := cap) hc)
  rw [hB] at BY
  obtain ⟨tr, id, pa, se, ho, st, du, no⟩ := sp
  obtain ⟨g, hg⟩ : ∃ g, w.heap.size = g := ⟨_, rfl⟩
  obtain ⟨W0, hW0⟩ : ∃ W, w.alloc (Obj.cells #[.int .i64 ki, .int .i64 nd, .int .i64 nn, .int .i64 tr, .int .i64 id, .int .i64 pa, .string se, .string ho, .int .i64 st, .int .i64 du, .string no, .slice ka ks.length kc] 38) = W := ⟨_, rfl⟩
  have k0 : Kept (fun _ => False) w W0 := by rw [← hW0]; exact (Kept.refl _ _).alloc _
  have a0 : W0.heap[g]? = some (Obj.cells #[.int .i64 ki, .int .i64 nd, .int .i64 nn, .int .i64 tr, .int .i64 id, .int .i64 pa, .string se, .string ho, .int .i64 st, .int .i64 du, .string no, .slice ka ks.length kc] 38 (0, 0)) := by rw [← hW0, ← hg]; exact heap_alloc_new w _
  have K0 := Lib.hid k0
  have A0 := Lib.hid a0
  have gl := blk_lt a0
  have c0 : W0.cell? ⟨g, 0, none⟩ = some (.int .i64 ki) := blk_cell a0 0
  have c1 : W0.cell? ⟨g, 1, none⟩ = some (.int .i64 nd) := blk_cell a0 1
  have c2 : W0.cell? ⟨g, 2, none⟩ = some (.int .i64 nn) := blk_cell a0 2
  have c3 : W0.cell? ⟨g, 3, none⟩ = some (.int .i64 tr) := blk_cell a0 3
  have c4 : W0.cell? ⟨g, 4, none⟩ = some (.int .i64 id) := blk_cell a0 4
  have c5 : W0.cell? ⟨g, 5, none⟩ = some (.int .i64 pa) := blk_cell a0 5
  have c6 : W0.cell? ⟨g, 6, none⟩ = some (.string se) := blk_cell a0 6
  have c7 : W0.cell? ⟨g, 7, none⟩ = some (.string ho) := blk_cell a0 7
  have c8 : W0.cell? ⟨g, 8, none⟩ = some (.int .i64 st) := blk_cell a0 8
  have c9 : W0.cell? ⟨g, 9, none⟩ = some (.int .i64 du) := blk_cell a0 9
  have c10 : W0.cell? ⟨g, 10, none⟩ = some (.string no) := blk_cell a0 10
  have c11 : W0.cell? ⟨g, 11, none⟩ = some (.slice ka ks.length kc) := blk_cell a0 11
  clear WK E HK h0 h6 h7 h1 h2 h3 h4 h5 hB k0 a0
  unfold Stp.val Stp.cells Spn.cells
  go_enter Tryz.func4, Tryz.ntmps4
  go_wp2_with fail
  clear hW0 hg
  refine (BY.out _ W0.heap.size 1 (fun j u hj => ?_)).mono ?_
  · rw [Nat.zero_add, blk_cell (heap_alloc_new W0 _)]
    simpa [Stp.cells, Spn.cells] using hj
  rintro e1 w1 ⟨rfl, k1⟩
  have K1 := Lib.hid (((Kept.refl (fun _ => False) W0).alloc _).trans k1 (fun _ _ f => f) (fun _ _ f => f) : Kept (fun _ => False) W0 w1)
  have A1 := Lib.hid ((K1.out.block g (blk_lt A0.out) (fun f => f)).trans A0.out)
  have KW1 := Lib.hid (K0.out.trans K1.out (fun _ _ f => f) (fun _ _ f => f) : Kept (fun _ => False) w w1)
  clear k1 c0 c1 c2 c3 c4 c5 c6 c7 c8 c9 c10 c11
  cases B with
  | true =>
    go_wp2_with fail
    refine (WH.out _ KW1.out).mono ?_
    rintro e2 w2 ⟨rfl, k2⟩
    have K2 := Lib.hid (KW1.out.trans k2 (fun _ _ f => f) (fun _ _ f => f) : Kept (fun _ => False) w w2)
    clear k2
    go_wp2_with fail
    go_ret
    exact ⟨rfl, K2.out⟩
  | false =>
    have gl1 := blk_lt A1.out
    have c0 : w1.cell? ⟨g, 0, none⟩ = some (.int .i64 ki) := blk_cell A1.out 0
    have c1 : w1.cell? ⟨g, 1, none⟩ = some (.int .i64 nd) := blk_cell A1.out 1
    have c2 : w1.cell? ⟨g, 2, none⟩ = some (.int .i64 nn) := blk_cell A1.out 2
    have c3 : w1.cell? ⟨g, 3, none⟩ = some (.int .i64 tr) := blk_cell A1.out 3
    have c4 : w1.cell? ⟨g, 4, none⟩ = some (.int .i64 id) := blk_cell A1.out 4
    have c5 : w1.cell? ⟨g, 5, none⟩ = some (.int .i64 pa) := blk_cell A1.out 5
    have c6 : w1.cell? ⟨g, 6, none⟩ = some (.string se) := blk_cell A1.out 6
    have c7 : w1.cell? ⟨g, 7, none⟩ = some (.string ho) := blk_cell A1.out 7
    have c8 : w1.cell? ⟨g, 8, none⟩ = some (.int .i64 st) := blk_cell A1.out 8
    have c9 : w1.cell? ⟨g, 9, none⟩ = some (.int .i64 du) := blk_cell A1.out 9
    have c10 : w1.cell? ⟨g, 10, none⟩ = some (.string no) := blk_cell A1.out 10
    have c11 : w1.cell? ⟨g, 11, none⟩ = some (.slice ka ks.length kc) := blk_cell A1.out 11
    have hb := HB.out
    simp only [beyX, beyS, Bool.or_eq_false_iff, decide_eq_false_iff_not] at hb
    have HBB := Lib.hid (show ks.length ≤ 20 ∧ se.size ≤ 100 ∧ ho.size ≤ 100 ∧ no.size ≤ 100 from by omega)
    have WR := Lib.hid (write_d (w := w1) (ki := ki) (nd := nd) (nn := nn) (sp := ⟨tr, id, pa, se, ho, st, du, no⟩) (ka := ka) (kc := kc) (ks := ks) (HH.out.kept KW1.out (fun _ _ f => f)) HBB.out.1 (EE.out.kept KW1.out (fun _ _ f => f)) IN.out.1 IN.out.2.1 IN.out.2.2.1 IN.out.2.2.2.1 IN.out.2.2.2.2.1 IN.out.2.2.2.2.2.1 IN.out.2.2.2.2.2.2.1 IN.out.2.2.2.2.2.2.2 (by have := HBB.out.2.1; dsimp only; omega) (by have := HBB.out.2.2.1; dsimp only; omega) (by have := HBB.out.2.2.2; dsimp only; omega))
    unfold Stp.val Stp.cells Spn.cells at WR
    clear hb
    go_wp2_with fail
    refine WR.out.mono ?_
    rintro e2 w2 ⟨⟨line, ok, rfl, hsz, hno, hyes⟩, k2⟩
    have K2 := Lib.hid (KW1.out.trans k2 (fun _ _ f => f) (fun _ _ f => f) : Kept (fun _ => False) w w2)
    have A2 := Lib.hid ((k2.block g (blk_lt A1.out) (fun f => f)).trans A1.out)
    have NO := Lib.hid hno
    have YES := Lib.hid hyes
    have SZ := Lib.hid hsz
    clear k2 hno hyes hsz c0 c1 c2 c3 c4 c5 c6 c7 c8 c9 c10 c11
    cases ok with
    | false =>
      have hl := NO.out rfl
      subst hl
      have C := Lib.hid (rread_zero (EE.out.tab.kept K2.out (fun f => f)))
      unfold zCells at C
      go_wp2_with fail
      refine C.out.mono ?_
      rintro e3 w3 ⟨rfl, k3⟩
      have K3 := Lib.hid (K2.out.trans k3 (fun _ _ f => f) (fun _ _ f => f) : Kept (fun _ => False) w w3)
      clear k3
      go_wp2_with fail
      refine (WH.out _ (K3.out.alloc _)).mono ?_
      rintro e4 w4 ⟨rfl, k4⟩
      have K4 := Lib.hid ((K3.out.alloc _).trans k4 (fun _ _ f => f) (fun _ _ f => f) : Kept (fun _ => False) w w4)
      clear k4
      go_wp2_with fail
      go_ret
      exact ⟨rfl, K4.out⟩
    | true =>
      obtain ⟨name, L, hw, hso⟩ := YES.out rfl
      have C := Lib.hid (rread hw (by have := SZ.out; omega) (EE.out.tab.kept K2.out (fun f => f)) hso)
      clear hw hso
      go_wp2_with fail
      refine C.out.mono ?_
      rintro e3 w3 ⟨⟨_, rfl, ka2, kc2, rfl, hk2⟩, k3⟩
      have K3 := Lib.hid (K2.out.trans k3 (fun _ _ f => f) (fun _ _ f => f) : Kept (fun _ => False) w w3)
      have A3 := Lib.hid ((k3.block g (blk_lt A2.out) (fun f => f)).trans A2.out)
      have EQ := Lib.hid (fun (W : World) (K : Kept (fun _ => False) w3 W) => equal_yes (w := W) (ki := ki) (nd := nd) (nn := nn) (sp := ⟨tr, id, pa, se, ho, st, du, no⟩) (HH.out.kept (K3.out.trans K (fun _ _ f => f) (fun _ _ f => f) : Kept (fun _ => False) w W) (fun _ _ f => f)) (hk2.kept K (fun _ _ f => f)) (by have := HBB.out.1; omega))
      have gl3 := blk_lt A3.out
      have c0 : w3.cell? ⟨g, 0, none⟩ = some (.int .i64 ki) := blk_cell A3.out 0
      have c1 : w3.cell? ⟨g, 1, none⟩ = some (.int .i64 nd) := blk_cell A3.out 1
      have c2 : w3.cell? ⟨g, 2, none⟩ = some (.int .i64 nn) := blk_cell A3.out 2
      have c3 : w3.cell? ⟨g, 3, none⟩ = some (.int .i64 tr) := blk_cell A3.out 3
      have c4 : w3.cell? ⟨g, 4, none⟩ = some (.int .i64 id) := blk_cell A3.out 4
      have c5 : w3.cell? ⟨g, 5, none⟩ = some (.int .i64 pa) := blk_cell A3.out 5
      have c6 : w3.cell? ⟨g, 6, none⟩ = some (.string se) := blk_cell A3.out 6
      have c7 : w3.cell? ⟨g, 7, none⟩ = some (.string ho) := blk_cell A3.out 7
      have c8 : w3.cell? ⟨g, 8, none⟩ = some (.int .i64 st) := blk_cell A3.out 8
      have c9 : w3.cell? ⟨g, 9, none⟩ = some (.int .i64 du) := blk_cell A3.out 9
      have c10 : w3.cell? ⟨g, 10, none⟩ = some (.string no) := blk_cell A3.out 10
      have c11 : w3.cell? ⟨g, 11, none⟩ = some (.slice ka ks.length kc) := blk_cell A3.out 11
      unfold Stp.val Stp.cells Spn.cells at EQ ⊢
      clear k3 hk2
      go_wp2_with fail
      refine (EQ.out _ ((Kept.refl _ _).alloc _)).mono ?_
      rintro e4 w4 ⟨rfl, k4⟩
      have K4 := Lib.hid ((K3.out.alloc _).trans k4 (fun _ _ f => f) (fun _ _ f => f) : Kept (fun _ => False) w w4)
      clear k4
      go_wp2_with fail
      refine (WH.out _ K4.out).mono ?_
      rintro e5 w5 ⟨rfl, k5⟩
      have K5 := Lib.hid (K4.out.trans k5 (fun _ _ f => f) (fun _ _ f => f) : Kept (fun _ => False) w w5)
      clear k5
      go_wp2_with fail
      go_ret
      exact ⟨rfl, K5.out⟩
end Go.Proofs.YtelhdbkkigehgaaGreatDoor

