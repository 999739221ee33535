/- rows.Expired of any span that may be, at any tick. -/
import Derived.Test.YtibakmchgppndaaKey
namespace Go.Proofs.Ytibakmchgppndaa
open Go.RowKit

def lateB (st now : Int) : Bool := decide (60 ≤ now - st)
theorem late_all (st now : Int) (h0 : 0 ≤ st) (h1 : st ≤ 1073741824) (h2 : 0 ≤ now) (h3 : now ≤ 4294967296) (w : World) : Calls Try.prog 34 #[.int .i64 st, .int .i64 now] w fun e w' => e = .returned (.bool (lateB st now)) ∧ w = w' := by
  by_cases h : st ≤ now
  · go_enter Try.func34, Try.ntmps34
    go_wp2
    go_ret
    exact ⟨by unfold lateB; rfl, rfl⟩
  · go_enter Try.func34, Try.ntmps34
    go_wp2
    go_ret
    have e : lateB st now = false := by unfold lateB; simp; omega
    exact ⟨by rw [e]; rfl, rfl⟩
set_option maxRecDepth 100000 in
theorem expired_all (m : Spn) (now : Int) (h0 : 0 ≤ m.st) (h1 : m.st ≤ 1073741824) (h2 : 0 ≤ now) (h3 : now ≤ 4294967296) (w : World) : Calls Try.prog 12 #[aggS m, .int .i64 now] w fun e w' => e = .returned (.bool (lateB m.st now)) ∧ Kept (fun _ => False) w w' := by
  have L := Lib.hid (late_all m.st now h0 h1 h2 h3)
  unfold aggS
  go_enter Try.func12, Try.ntmps12
  go_wp2_with (go_at_call 34; refine (L.out _).mono ?_; rintro e w4 ⟨rfl, rfl⟩)
  go_ret
  exact ⟨rfl, (Kept.refl _ w).alloc _⟩
end Go.Proofs.Ytibakmchgppndaa
