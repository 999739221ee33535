/- Small walks of the model's functions: what has expired, what a name is. -/
import Derived.Test.YtibakmchgppndaaRows
import Derived.Test.YtibakmchgppndaaKit
import Derived.Test.YtibakmchgppndaaOps
import Derived.Laws.RangeString
namespace Go.Proofs.Ytibakmchgppndaa
open Go.RowKit

theorem nil_iff {x : ByteArray} : x.toList = [] ↔ x.size = 0 := by
  have hs : x.toList.length = x.size := by rw [ByteArray.toList_eq]; exact Array.length_toList
  rw [← hs]; exact List.length_eq_zero_iff.symm
theorem late_any (n : Int) (h1 : 10 ≤ n) (h2 : n ≤ 1000) (w : World) : Calls Try.prog 34 #[.int .i64 10, .int .i64 n] w fun e w' => e = .returned (.bool (decide (70 ≤ n))) ∧ w = w' := by
  go_enter Try.func34, Try.ntmps34
  go_wp2
  go_ret
  have e : decide ((60 : Int) ≤ n - 10) = decide (70 ≤ n) := by simp only [decide_eq_decide]; omega
  exact ⟨by rw [← e]; rfl, rfl⟩

theorem odd_any (c : Int) (h1 : 32 < c) (h2 : c ≤ 126) (w : World) : Calls Try.prog 53 #[.int .i32 c] w fun e w' => e = .returned (.bool false) ∧ w = w' := by
  have e1 : decide (c ≤ 32) = false := by simp; omega
  have e2 : decide (126 < c) = false := by simp; omega
  go_enter Try.func53, Try.ntmps53
  go_wp2
  go_ret
  exact ⟨by simp, rfl⟩

set_option maxRecDepth 100000 in
theorem none_nil (w : World) : Calls Try.prog 28 #[.pointer none] w fun e w' => e = .returned (.bool true) ∧ w = w' := by
  go_enter Try.func28, Try.ntmps28
  go_wp2
  go_ret
  exact ⟨rfl, rfl⟩
set_option maxRecDepth 100000 in
theorem none_empty (p : Nat) (w : World) (h : w.cell? ⟨p, 0, none⟩ = some (.map none)) : Calls Try.prog 28 #[.pointer (some ⟨p, 0, none⟩)] w fun e w' => e = .returned (.bool true) ∧ w = w' := by
  have q68 : ∀ (w : World) (r : Option Nat), (binOp .eql 68 (.map r) (.map none)).run Try.prog w = .ok (.bool r.isNone) w := fun w r => run_eql_map_nil w _ _ _ r Try.underlying68
  go_enter Try.func28, Try.ntmps28
  go_wp2
  go_ret
  exact ⟨rfl, rfl⟩
set_option maxRecDepth 100000 in
theorem none_not (p b : Nat) (w : World) (h : w.cell? ⟨p, 0, none⟩ = some (.map (some b))) : Calls Try.prog 28 #[.pointer (some ⟨p, 0, none⟩)] w fun e w' => e = .returned (.bool false) ∧ w = w' := by
  have q68 : ∀ (w : World) (r : Option Nat), (binOp .eql 68 (.map r) (.map none)).run Try.prog w = .ok (.bool r.isNone) w := fun w r => run_eql_map_nil w _ _ _ r Try.underlying68
  go_enter Try.func28, Try.ntmps28
  go_wp2
  go_ret
  exact ⟨rfl, rfl⟩

theorem Kept.iter {S : Nat → Prop} {a w : World} (h : Kept S a w) (s : ByteArray) (p : Nat) : Kept S a (w.iter s p) := h.alloc _

theorem index_one (s : ByteArray) (c : Nat) (hs : s = ⟨#[UInt8.ofNat c]⟩) (h1 : 32 < c) (h2 : c ≤ 126) (w : World) :
    Calls Try.prog 83 #[.string s, .func (.func 53) #[] #[], .bool true] w fun e w' => e = .returned (.int .i64 (-1)) ∧ Kept (fun _ => False) w w' := by
  have hsz : s.size = 1 := by rw [hs]; rfl
  have h0 : 0 < s.size := by omega
  have hc : (s[0]'h0).toNat = c := by subst hs; show (UInt8.ofNat c).toNat = c; simp; omega
  have ha : (s[0]'h0).toNat < 128 := by omega
  have hn0 : ∀ ty, (Instr.next (.pointer (some ⟨w.heap.size, 0, none⟩)) true ty).run Try.prog (w.iter s 0) = .ok (.tuple #[.bool true, .int .i64 0, .int .i32 c]) (w.iter s 1) := by
    intro ty
    have := run_next_ascii (P := Try.prog) w s 0 ty h0 ha
    rw [hc] at this
    exact this
  have hn1 : ∀ ty, (Instr.next (.pointer (some ⟨w.heap.size, 0, none⟩)) true ty).run Try.prog (w.iter s 1) = .ok (.tuple #[.bool false]) (w.iter s 1) := fun ty => run_next_end (P := Try.prog) w s 1 ty (by omega)
  clear hs hsz h0 hc ha
  go_enter Try.func83, Try.ntmps83
  go_wp2
  go_loopg [7] 1 (fun g t wr => (g = 1 ∧ wr = w.iter s 0) ∨ (g = 0 ∧ wr = w.iter s 1))
  case atStart => exact .inl ⟨rfl, rfl⟩
  case round =>
    rcases hrel with ⟨rfl, rfl⟩ | ⟨rfl, rfl⟩
    · go_wp2_with (go_at_call 53; refine (odd_any c (by omega) (by omega) _).mono ?_; rintro e w4 ⟨rfl, rfl⟩)
      go_roundg 0
      case measure => omega
      case rel => exact .inr ⟨rfl, rfl⟩
    · go_wp2
      go_ret
      exact ⟨rfl, (Kept.refl _ w).iter _ _⟩
set_option maxRecDepth 100000 in
theorem indexf_one (s : ByteArray) (c : Nat) (hs : s = ⟨#[UInt8.ofNat c]⟩) (h1 : 32 < c) (h2 : c ≤ 126) (w : World) :
    Calls Try.prog 71 #[.string s, .func (.func 53) #[] #[]] w fun e w' => e = .returned (.int .i64 (-1)) ∧ Kept (fun _ => False) w w' := by
  have I := Lib.hid (index_one s c hs h1 h2)
  clear hs
  go_enter Try.func71, Try.ntmps71
  go_wp2_with (go_at_call 83; refine (I.out _).mono ?_; rintro e w4 ⟨rfl, k4⟩)
  go_ret
  exact ⟨rfl, k4⟩
set_option maxRecDepth 100000 in
theorem contains_one (s : ByteArray) (c : Nat) (hs : s = ⟨#[UInt8.ofNat c]⟩) (h1 : 32 < c) (h2 : c ≤ 126) (w : World) :
    Calls Try.prog 54 #[.string s, .func (.func 53) #[] #[]] w fun e w' => e = .returned (.bool false) ∧ Kept (fun _ => False) w w' := by
  have I := Lib.hid (indexf_one s c hs h1 h2)
  clear hs
  go_enter Try.func54, Try.ntmps54
  go_wp2_with (go_at_call 71; refine (I.out _).mono ?_; rintro e w4 ⟨rfl, k4⟩)
  go_ret
  exact ⟨rfl, k4⟩
set_option maxRecDepth 100000 in
theorem name_one (s : ByteArray) (c : Nat) (hs : s = ⟨#[UInt8.ofNat c]⟩) (h1 : 32 < c) (h2 : c ≤ 126) (w : World) :
    Calls Try.prog 41 #[.string s] w fun e w' => e = .returned (.bool true) ∧ Kept (fun _ => False) w w' := by
  have C := Lib.hid (contains_one s c hs h1 h2)
  have hsz : s.size = 1 := by rw [hs]; rfl
  have e1 : ((s.size : Int)) = 1 := by omega
  have e2 : (s.toList == ([] : List UInt8)) = false := by
    have : ¬ s.toList = [] := fun e => by have := nil_iff.1 e; omega
    simpa using this
  clear hs
  go_enter Try.func41, Try.ntmps41
  go_wp2_with (go_at_call 54; refine (C.out _).mono ?_; rintro e w4 ⟨rfl, k4⟩)
  go_ret
  exact ⟨rfl, k4⟩
end Go.Proofs.Ytibakmchgppndaa
