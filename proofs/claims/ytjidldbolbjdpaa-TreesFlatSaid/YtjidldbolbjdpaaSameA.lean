/- Spans compared; SameSpans; sameNodes; Same. -/
import Derived.Test.YtjidldbolbjdpaaRof
namespace Go.Proofs.Ytjidldbolbjdpaa
open Go.RowKit

theorem s24c : Try.prog.stoodInHeld 24 = false := by kernel_rfl
theorem g24c : Try.prog.eqGuardType Try.prog.depth 24 = false := by kernel_rfl
def eqS (m k : Spn) : Bool := decide (m.tr = k.tr) && (decide (m.id = k.id) && (decide (m.pa = k.pa) && (decide (m.se.toList = k.se.toList) && (decide (m.ho.toList = k.ho.toList) && (decide (m.st = k.st) && (decide (m.du = k.du) && decide (m.no.toList = k.no.toList)))))))
theorem bytes_ext {a b : ByteArray} (h : a.toList = b.toList) : a = b := by
  rw [ByteArray.toList_eq, ByteArray.toList_eq] at h
  cases a; cases b
  simpa using h
theorem eqS_iff (m k : Spn) : eqS m k = true ↔ m = k := by
  constructor
  · intro h
    simp only [eqS, Bool.and_eq_true, decide_eq_true_eq] at h
    obtain ⟨h0, h1, h2, h3, h4, h5, h6, h7⟩ := h
    cases m; cases k
    simp only at h0 h1 h2 h3 h4 h5 h6 h7
    rw [h0, h1, h2, bytes_ext h3, bytes_ext h4, h5, h6, bytes_ext h7]
  · rintro rfl; simp [eqS]
abbrev aggS (m : Spn) : Value := .agg #[.int .i64 m.tr, .int .i64 m.id, .int .i64 m.pa, .string m.se, .string m.ho, .int .i64 m.st, .int .i64 m.du, .string m.no]
set_option maxHeartbeats 2000000 in
theorem eql24 (m k : Spn) (w : World) : (binOp .eql 24 (aggS m) (aggS k)).run Try.prog w = .ok (.bool (eqS m k)) w := by
  have q := s24c
  by_cases a0 : m.tr = k.tr
  · by_cases a1 : m.id = k.id
    · by_cases a2 : m.pa = k.pa
      · by_cases a3 : m.se.toList = k.se.toList
        · by_cases a4 : m.ho.toList = k.ho.toList
          · by_cases a5 : m.st = k.st
            · by_cases a6 : m.du = k.du
              · by_cases a7 : m.no.toList = k.no.toList <;> simp [go_sem, eqS, q, a0, a1, a2, a3, a4, a5, a6, a7]
              · simp [go_sem, eqS, q, a0, a1, a2, a3, a4, a5, a6]
            · simp [go_sem, eqS, q, a0, a1, a2, a3, a4, a5]
          · simp [go_sem, eqS, q, a0, a1, a2, a3, a4]
        · simp [go_sem, eqS, q, a0, a1, a2, a3]
      · simp [go_sem, eqS, q, a0, a1, a2]
    · simp [go_sem, eqS, q, a0, a1]
  · simp [go_sem, eqS, q, a0]
end Go.Proofs.Ytjidldbolbjdpaa
