import Derived.Test.YtfhpjopdndnmgaaSort
import Derived.Lib.SliceRun
namespace Go.Proofs.Ytfhpjopdndnmgaa
open Go.RowKit
theorem wrap_nil (ts : Array TypeId) (t : TypeId) (a : Addr) (n : String) (w : World) : (Builtin.ssaWrapNilChk_ ts t #[.pointer (some a), strVal "", strVal n]).run Try.prog w = .ok (.pointer (some a)) w := by rfl
theorem by_value {w : World} {p fuel f : Nat} {v : Value} {name : String} (hm : (Try.t56.methods.find? (·.name == name)).map (fun m => (m.path, m.func)) = some (#[], some (f, false)))
    (hl : w.cell? ⟨p, 0, none⟩ = some v) : (method (fuel + 1) 56 (.pointer (some ⟨p, 0, none⟩)) name).run Try.prog w = .ok (f, v) w := by
  obtain ⟨m, hm1, hm2⟩ := Option.map_eq_some_iff.1 hm
  simp only [Prod.mk.injEq] at hm2
  have hu := run_underlying (P := Try.prog) Try.underlying56 w
  unfold method
  simp [go_sem, hm1, hm2.1, hm2.2, follow, receiverAt, Place.get, hl, hu, wrap_nil]
theorem m_len (p : Nat) (w : World) (v : Value) (hv : w.cell? ⟨p, 0, none⟩ = some v) : (method 197 56 (.pointer (some ⟨p, 0, none⟩)) "Len").run Try.prog w = .ok (65, v) w :=
  by_value (by kernel_rfl) hv
theorem m_less (p : Nat) (w : World) (v : Value) (hv : w.cell? ⟨p, 0, none⟩ = some v) : (method 197 56 (.pointer (some ⟨p, 0, none⟩)) "Less").run Try.prog w = .ok (66, v) w :=
  by_value (by kernel_rfl) hv
theorem m_swap (p : Nat) (w : World) (v : Value) (hv : w.cell? ⟨p, 0, none⟩ = some v) : (method 197 56 (.pointer (some ⟨p, 0, none⟩)) "Swap").run Try.prog w = .ok (67, v) w :=
  by_value (by kernel_rfl) hv
theorem m_pop (p : Nat) (w : World) : (method 197 56 (.pointer (some ⟨p, 0, none⟩)) "Pop").run Try.prog w = .ok (68, .pointer (some ⟨p, 0, none⟩)) w := by kernel_rfl
theorem m_push (p : Nat) (w : World) : (method 197 56 (.pointer (some ⟨p, 0, none⟩)) "Push").run Try.prog w = .ok (69, .pointer (some ⟨p, 0, none⟩)) w := by kernel_rfl
end Go.Proofs.Ytfhpjopdndnmgaa
