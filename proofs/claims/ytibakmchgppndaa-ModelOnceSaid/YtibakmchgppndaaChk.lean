/- spans.Check of the chapter's span, rows.Expired. -/
import Derived.Test.YtibakmchgppndaaSmall
namespace Go.Proofs.Ytibakmchgppndaa
open Go.RowKit

def numsV (p : Nat) : Value := .agg #[.pointer (some ⟨p, 0, none⟩), .int .i64 1, .int .i64 2147483647, .pointer (some ⟨p, 1, none⟩), .int .i64 1, .int .i64 2147483647, .pointer (some ⟨p, 2, none⟩), .int .i64 0, .int .i64 2147483647, .pointer (some ⟨p, 5, none⟩), .int .i64 0, .int .i64 1073741824, .pointer (some ⟨p, 6, none⟩), .int .i64 0, .int .i64 1073741824]

theorem ix0 (p : Nat) (W : World) : (Instr.index 97 (numsV p) (.int .i64 0)).run Try.prog W = .ok (.agg #[.pointer (some ⟨p, 0, none⟩), .int .i64 1, .int .i64 2147483647]) W := by kernel_rfl
theorem ix1 (p : Nat) (W : World) : (Instr.index 97 (numsV p) (.int .i64 1)).run Try.prog W = .ok (.agg #[.pointer (some ⟨p, 1, none⟩), .int .i64 1, .int .i64 2147483647]) W := by kernel_rfl
theorem ix2 (p : Nat) (W : World) : (Instr.index 97 (numsV p) (.int .i64 2)).run Try.prog W = .ok (.agg #[.pointer (some ⟨p, 2, none⟩), .int .i64 0, .int .i64 2147483647]) W := by kernel_rfl
theorem ix3 (p : Nat) (W : World) : (Instr.index 97 (numsV p) (.int .i64 3)).run Try.prog W = .ok (.agg #[.pointer (some ⟨p, 5, none⟩), .int .i64 0, .int .i64 1073741824]) W := by kernel_rfl
theorem ix4 (p : Nat) (W : World) : (Instr.index 97 (numsV p) (.int .i64 4)).run Try.prog W = .ok (.agg #[.pointer (some ⟨p, 6, none⟩), .int .i64 0, .int .i64 1073741824]) W := by kernel_rfl
set_option maxHeartbeats 4000000 in
set_option maxRecDepth 100000 in
theorem numbers_any (p : Nat) (w : World) : Calls Try.prog 46 #[.pointer (some ⟨p, 0, none⟩)] w fun e w' => e = .returned (numsV p) ∧ Kept (fun _ => False) w w' := by
  go_enter Try.func46, Try.ntmps46
  go_wp2
  go_region
  all_goals go_wp2
  refine bodyPost_ret (v := _) (by simp [results, Try.results46, go_sem]; try rfl) rfl ?_
  exact ⟨rfl, ((Kept.refl _ w).alloc _).drew⟩

/-- The chapter's span, with a note. -/
def spanV (n : ByteArray) : Value := .agg #[.int .i64 3, .int .i64 1, .int .i64 0, .string ⟨#[97]⟩, .string ⟨#[104]⟩, .int .i64 10, .int .i64 0, .string n]
set_option maxRecDepth 100000 in
theorem expired_any (n : ByteArray) (t : Int) (h1 : 10 ≤ t) (h2 : t ≤ 1000) (w : World) : Calls Try.prog 12 #[spanV n, .int .i64 t] w fun e w' => e = .returned (.bool (decide (70 ≤ t))) ∧ Kept (fun _ => False) w w' := by
  unfold spanV
  go_enter Try.func12, Try.ntmps12
  go_wp2_with (go_at_call 34; refine (late_any t h1 h2 _).mono ?_; rintro e w4 ⟨rfl, rfl⟩)
  go_ret
  exact ⟨rfl, (Kept.refl _ w).alloc _⟩

set_option maxHeartbeats 8000000 in
set_option maxRecDepth 100000 in
theorem check_any (n : ByteArray) (hn : n.size ≤ 24) (w : World) : Calls Try.prog 29 #[spanV n] w fun e w' => e = .returned (.int .i64 0) ∧ Kept (fun _ => False) w w' := by
  have N0 := Lib.hid (name_one ⟨#[97]⟩ 97 rfl (by omega) (by omega))
  have N1 := Lib.hid (name_one ⟨#[104]⟩ 104 rfl (by omega) (by omega))
  unfold spanV
  go_enter Try.func29, Try.ntmps29
  go_wp2_with fail
  obtain ⟨W, hW⟩ : ∃ W, w.alloc (.cells #[.int .i64 3, .int .i64 1, .int .i64 0, .string ⟨#[97]⟩, .string ⟨#[104]⟩, .int .i64 10, .int .i64 0, .string n] 37) = W := ⟨_, rfl⟩
  have K0 : Kept (fun _ => False) w W := by rw [← hW]; exact (Kept.refl _ w).alloc _
  have q0 : W.cell? ⟨w.heap.size, 0, none⟩ = some (.int .i64 3) := by rw [← hW]; simp
  have q1 : W.cell? ⟨w.heap.size, 1, none⟩ = some (.int .i64 1) := by rw [← hW]; simp
  have q2 : W.cell? ⟨w.heap.size, 2, none⟩ = some (.int .i64 0) := by rw [← hW]; simp
  have q3 : W.cell? ⟨w.heap.size, 3, none⟩ = some (.string ⟨#[97]⟩) := by rw [← hW]; simp
  have q4 : W.cell? ⟨w.heap.size, 4, none⟩ = some (.string ⟨#[104]⟩) := by rw [← hW]; simp
  have q5 : W.cell? ⟨w.heap.size, 5, none⟩ = some (.int .i64 10) := by rw [← hW]; simp
  have q6 : W.cell? ⟨w.heap.size, 6, none⟩ = some (.int .i64 0) := by rw [← hW]; simp
  have q7 : W.cell? ⟨w.heap.size, 7, none⟩ = some (.string n) := by rw [← hW]; simp
  rw [hW]
  clear hW
  refine (numbers_any w.heap.size W).mono ?_
  rintro e w1 ⟨rfl, k1⟩
  have K1 := Lib.hid (K0.trans k1 (fun _ _ f => f) (fun _ _ f => f) : Kept (fun _ => False) w w1)
  replace q0 := k1.cell q0 (fun f => f)
  replace q1 := k1.cell q1 (fun f => f)
  replace q2 := k1.cell q2 (fun f => f)
  replace q3 := k1.cell q3 (fun f => f)
  replace q4 := k1.cell q4 (fun f => f)
  replace q5 := k1.cell q5 (fun f => f)
  replace q6 := k1.cell q6 (fun f => f)
  replace q7 := k1.cell q7 (fun f => f)
  have hn2 : ¬ (24 : Int) < (n.size : Int) := by omega
  clear k1 K0
  unfold numsV
  go_wp2
  go_loopg [6] 5 (fun g t wr => ∃ i : Nat, i + g = 5 ∧ t = .int .i64 i ∧ Kept (fun _ => False) w1 wr)
  case atStart => exact ⟨0, by omega, rfl, Kept.refl _ _⟩
  case round =>
    obtain ⟨i, hi, rfl, KW⟩ := hrel
    have KF := Lib.hid KW
    replace q0 := KW.cell q0 (fun f => f)
    replace q1 := KW.cell q1 (fun f => f)
    replace q2 := KW.cell q2 (fun f => f)
    replace q3 := KW.cell q3 (fun f => f)
    replace q4 := KW.cell q4 (fun f => f)
    replace q5 := KW.cell q5 (fun f => f)
    replace q6 := KW.cell q6 (fun f => f)
    replace q7 := KW.cell q7 (fun f => f)
    clear KW
    obtain rfl | rfl | rfl | rfl | rfl | rfl : i = 0 ∨ i = 1 ∨ i = 2 ∨ i = 3 ∨ i = 4 ∨ i = 5 := by omega
    · have x0 := ix0 w.heap.size
      unfold numsV at x0
      go_wp2
      obtain ⟨a0, a1, a2, _, _⟩ := (Kept.refl (fun _ => False) (wr.alloc (.cells #[.pointer (some ⟨w.heap.size, 0, none⟩), .int .i64 1, .int .i64 2147483647] 96))).fresh3 (fun f => f)
      have KA := Lib.hid (KF.out.alloc (.cells #[.pointer (some ⟨w.heap.size, 0, none⟩), .int .i64 1, .int .i64 2147483647] 96))
      have qq := ((Kept.refl (fun _ => False) wr).alloc (.cells #[.pointer (some ⟨w.heap.size, 0, none⟩), .int .i64 1, .int .i64 2147483647] 96)).cell q0 (fun f => f)
      obtain ⟨W2, hW2⟩ : ∃ W2, wr.alloc (.cells #[.pointer (some ⟨w.heap.size, 0, none⟩), .int .i64 1, .int .i64 2147483647] 96) = W2 := ⟨_, rfl⟩
      rw [hW2] at a0 a1 a2 KA qq ⊢
      clear hW2
      go_region
      all_goals go_wp2
      all_goals go_roundg (5 - 0 - 1)
      case measure => omega
      case rel => exact ⟨0 + 1, by omega, rfl, KA.out.drew⟩
    · have x0 := ix1 w.heap.size
      unfold numsV at x0
      go_wp2
      obtain ⟨a0, a1, a2, _, _⟩ := (Kept.refl (fun _ => False) (wr.alloc (.cells #[.pointer (some ⟨w.heap.size, 1, none⟩), .int .i64 1, .int .i64 2147483647] 96))).fresh3 (fun f => f)
      have KA := Lib.hid (KF.out.alloc (.cells #[.pointer (some ⟨w.heap.size, 1, none⟩), .int .i64 1, .int .i64 2147483647] 96))
      have qq := ((Kept.refl (fun _ => False) wr).alloc (.cells #[.pointer (some ⟨w.heap.size, 1, none⟩), .int .i64 1, .int .i64 2147483647] 96)).cell q1 (fun f => f)
      obtain ⟨W2, hW2⟩ : ∃ W2, wr.alloc (.cells #[.pointer (some ⟨w.heap.size, 1, none⟩), .int .i64 1, .int .i64 2147483647] 96) = W2 := ⟨_, rfl⟩
      rw [hW2] at a0 a1 a2 KA qq ⊢
      clear hW2
      go_region
      all_goals go_wp2
      all_goals go_roundg (5 - 1 - 1)
      case measure => omega
      case rel => exact ⟨1 + 1, by omega, rfl, KA.out.drew⟩
    · have x0 := ix2 w.heap.size
      unfold numsV at x0
      go_wp2
      obtain ⟨a0, a1, a2, _, _⟩ := (Kept.refl (fun _ => False) (wr.alloc (.cells #[.pointer (some ⟨w.heap.size, 2, none⟩), .int .i64 0, .int .i64 2147483647] 96))).fresh3 (fun f => f)
      have KA := Lib.hid (KF.out.alloc (.cells #[.pointer (some ⟨w.heap.size, 2, none⟩), .int .i64 0, .int .i64 2147483647] 96))
      have qq := ((Kept.refl (fun _ => False) wr).alloc (.cells #[.pointer (some ⟨w.heap.size, 2, none⟩), .int .i64 0, .int .i64 2147483647] 96)).cell q2 (fun f => f)
      obtain ⟨W2, hW2⟩ : ∃ W2, wr.alloc (.cells #[.pointer (some ⟨w.heap.size, 2, none⟩), .int .i64 0, .int .i64 2147483647] 96) = W2 := ⟨_, rfl⟩
      rw [hW2] at a0 a1 a2 KA qq ⊢
      clear hW2
      go_region
      all_goals go_wp2
      all_goals go_roundg (5 - 2 - 1)
      case measure => omega
      case rel => exact ⟨2 + 1, by omega, rfl, KA.out.drew⟩
    · have x0 := ix3 w.heap.size
      unfold numsV at x0
      go_wp2
      obtain ⟨a0, a1, a2, _, _⟩ := (Kept.refl (fun _ => False) (wr.alloc (.cells #[.pointer (some ⟨w.heap.size, 5, none⟩), .int .i64 0, .int .i64 1073741824] 96))).fresh3 (fun f => f)
      have KA := Lib.hid (KF.out.alloc (.cells #[.pointer (some ⟨w.heap.size, 5, none⟩), .int .i64 0, .int .i64 1073741824] 96))
      have qq := ((Kept.refl (fun _ => False) wr).alloc (.cells #[.pointer (some ⟨w.heap.size, 5, none⟩), .int .i64 0, .int .i64 1073741824] 96)).cell q5 (fun f => f)
      obtain ⟨W2, hW2⟩ : ∃ W2, wr.alloc (.cells #[.pointer (some ⟨w.heap.size, 5, none⟩), .int .i64 0, .int .i64 1073741824] 96) = W2 := ⟨_, rfl⟩
      rw [hW2] at a0 a1 a2 KA qq ⊢
      clear hW2
      go_region
      all_goals go_wp2
      all_goals go_roundg (5 - 3 - 1)
      case measure => omega
      case rel => exact ⟨3 + 1, by omega, rfl, KA.out.drew⟩
    · have x0 := ix4 w.heap.size
      unfold numsV at x0
      go_wp2
      obtain ⟨a0, a1, a2, _, _⟩ := (Kept.refl (fun _ => False) (wr.alloc (.cells #[.pointer (some ⟨w.heap.size, 6, none⟩), .int .i64 0, .int .i64 1073741824] 96))).fresh3 (fun f => f)
      have KA := Lib.hid (KF.out.alloc (.cells #[.pointer (some ⟨w.heap.size, 6, none⟩), .int .i64 0, .int .i64 1073741824] 96))
      have qq := ((Kept.refl (fun _ => False) wr).alloc (.cells #[.pointer (some ⟨w.heap.size, 6, none⟩), .int .i64 0, .int .i64 1073741824] 96)).cell q6 (fun f => f)
      obtain ⟨W2, hW2⟩ : ∃ W2, wr.alloc (.cells #[.pointer (some ⟨w.heap.size, 6, none⟩), .int .i64 0, .int .i64 1073741824] 96) = W2 := ⟨_, rfl⟩
      rw [hW2] at a0 a1 a2 KA qq ⊢
      clear hW2
      go_region
      all_goals go_wp2
      all_goals go_roundg (5 - 4 - 1)
      case measure => omega
      case rel => exact ⟨4 + 1, by omega, rfl, KA.out.drew⟩
    · go_wp2_with fail
      refine (N0.out _).mono ?_
      rintro e w2 ⟨rfl, k2⟩
      replace q4 := k2.cell q4 (fun f => f)
      replace q7 := k2.cell q7 (fun f => f)
      have K2 := Lib.hid (KF.out.trans k2 (fun _ _ f => f) (fun _ _ f => f) : Kept (fun _ => False) w1 w2)
      clear k2
      go_wp2_with fail
      refine (N1.out _).mono ?_
      rintro e w3 ⟨rfl, k3⟩
      replace q7 := k3.cell q7 (fun f => f)
      have K3 := Lib.hid (K2.out.trans k3 (fun _ _ f => f) (fun _ _ f => f) : Kept (fun _ => False) w1 w3)
      clear k3
      go_wp2
      go_ret
      exact ⟨rfl, K1.out.trans K3.out (fun _ _ f => f) (fun _ _ f => f)⟩
end Go.Proofs.Ytibakmchgppndaa
