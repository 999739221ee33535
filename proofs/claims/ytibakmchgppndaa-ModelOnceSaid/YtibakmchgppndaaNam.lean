/- spans.Name of any string, by the library's ContainsFunc. -/
import Derived.Test.YtibakmchgppndaaKey
import Derived.Test.YtibakmchgppndaaShelf
namespace Go.Proofs.Ytibakmchgppndaa
open Go.RowKit Go.Shelf Go.Lib

def oddP (c : Nat) : Bool := decide (c ≤ 32) || decide (126 < c)
theorem odd_all (c : Nat) (w : World) : Calls Try.prog 53 #[.int .i32 (c : Int)] w fun e w' => e = .returned (.bool (oddP c)) ∧ ∃ q, w' = w.drewN q := by
  unfold oddP
  by_cases h1 : (c : Int) ≤ 32
  · go_enter Try.func53, Try.ntmps53
    go_wp2
    go_ret
    have e : decide (c ≤ 32) = true := by simp; omega
    exact ⟨by rw [e]; rfl, 0, rfl⟩
  · by_cases h2 : (126 : Int) < (c : Int)
    · go_enter Try.func53, Try.ntmps53
      go_wp2
      go_ret
      have e : decide (126 < c) = true := by simp; omega
      exact ⟨by rw [e, Bool.or_true]; rfl, 0, rfl⟩
    · go_enter Try.func53, Try.ntmps53
      go_wp2
      go_ret
      have e1 : decide (c ≤ 32) = false := by simp; omega
      have e2 : decide (126 < c) = false := by simp; omega
      exact ⟨by rw [e1, e2]; rfl, 0, rfl⟩
theorem contains_all (s : ByteArray) (w : World) : Calls Try.prog 54 #[.string s, .func (.func 53) #[] #[]] w fun e w' => e = .returned (.bool (decide (0 ≤ Lib.idxFunc oddP true s))) ∧ Kept (fun _ => False) w w' := by
  have h := Any.strings_ContainsFunc Try.l17 53 #[] (enters_of Try.func53 (by kernel_rfl) rfl) oddP s w (fun W x _ => odd_all x W)
  change Calls Try.prog 54 _ _ _ at h
  exact h.mono fun e w' ⟨he, hb⟩ => ⟨he, hb.os, hb.tape, hb.output, hb.size, fun k hk _ => hb.block k hk⟩
def nameB (s : ByteArray) : Bool := decide (s.size ≠ 0) && decide (s.size ≤ 12) && !decide (0 ≤ Lib.idxFunc oddP true s)
set_option maxRecDepth 100000 in
theorem name_all (s : ByteArray) (hs : s.size ≤ 9223372036854775807) (w : World) : Calls Try.prog 41 #[.string s] w fun e w' => e = .returned (.bool (nameB s)) ∧ Kept (fun _ => False) w w' := by
  have C := Lib.hid (contains_all s)
  obtain ⟨B, hB⟩ : ∃ B, decide (0 ≤ Lib.idxFunc oddP true s) = B := ⟨_, rfl⟩
  rw [hB] at C
  unfold nameB
  rw [hB]
  clear hB
  by_cases h0 : s.size = 0
  · have e2 : (s.toList == ([] : List UInt8)) = true := by
      have : s.toList = [] := nil_iff.2 h0
      simpa using this
    have e3 : decide (s.size ≠ 0) = false := by simp [h0]
    rw [e3]
    clear h0 e3
    go_enter Try.func41, Try.ntmps41
    go_wp2
    go_ret
    exact ⟨rfl, Kept.refl _ w⟩
  · have e2 : (s.toList == ([] : List UInt8)) = false := by
      have : ¬ s.toList = [] := fun e => h0 (nil_iff.1 e)
      simpa using this
    have e3 : decide (s.size ≠ 0) = true := by simp [h0]
    rw [e3]
    by_cases h1 : (s.size : Int) ≤ 12
    · have e4 : decide (s.size ≤ 12) = true := by simp; omega
      rw [e4]
      clear h0 e3 e4
      go_enter Try.func41, Try.ntmps41
      go_wp2_with (go_at_call 54; refine (C.out _).mono ?_; rintro e w4 ⟨rfl, k4⟩)
      go_ret
      exact ⟨by cases B <;> rfl, k4⟩
    · have e4 : decide (s.size ≤ 12) = false := by simp; omega
      rw [e4]
      clear h0 e3 e4
      go_enter Try.func41, Try.ntmps41
      go_wp2
      go_ret
      exact ⟨rfl, Kept.refl _ w⟩
end Go.Proofs.Ytibakmchgppndaa
