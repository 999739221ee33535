/- What the model's maps do, of no entry or of one. -/
import Derived.Test.YtibakmchgppndaaChk
import Derived.Maps.Own
import Derived.Maps.RangeRun
namespace Go.Proofs.Ytibakmchgppndaa
open Go.RowKit Go.MapKept Go.Instr Go.ChangeMaps

def kV : Value := .agg #[.int .i64 3, .int .i64 1]
def spanZ : Value := .agg #[.int .i64 0, .int .i64 0, .int .i64 0, .string ⟨#[]⟩, .string ⟨#[]⟩, .int .i64 0, .int .i64 0, .string ⟨#[]⟩]
theorem ck_any (e : Bool) (w : World) : (checkKey e 10000 74 kV).run Try.prog w = .ok () w := by cases e <;> kernel_rfl
theorem fk_none (w : World) : (findKey 74 kV []).run Try.prog w = .ok none w := by kernel_rfl
theorem fk_one (v : Value) (n : Nat) (w : World) : (findKey 74 kV [⟨kV, v, n⟩]).run Try.prog w = .ok (some (0, v)) w := by kernel_rfl
theorem z37 (w : World) : (zeroValue 37).run Try.prog w = .ok spanZ w := by kernel_rfl
theorem z3 (w : World) : (zeroValue 3).run Try.prog w = .ok (.int .i64 0) w := by kernel_rfl
theorem u68 : Try.prog.underlying 68 = some (.map 74 37) := Try.underlying68
theorem u72 : Try.prog.underlying 72 = some (.map 74 3) := Try.underlying72
theorem look0 {w : World} {b c : Nat} (h : w.heap[b]? = some (.map #[] c)) : (Instr.lookup 68 (.map (some b)) kV true).run Try.prog w = .ok (.tuple #[spanZ, .bool false]) w := by
  unfold Instr.lookup
  simp [run_underlying u68, Go.MapKept.run_getObj_map h, ck_any, fk_none, spanZ]
theorem look1 {w : World} {b c n : Nat} {v : Value} (h : w.heap[b]? = some (.map #[⟨kV, v, n⟩] c)) : (Instr.lookup 68 (.map (some b)) kV true).run Try.prog w = .ok (.tuple #[v, .bool true]) w := by
  unfold Instr.lookup
  simp [run_underlying u68, Go.MapKept.run_getObj_map h, ck_any, fk_one]
theorem seen0 {w : World} {b c : Nat} (h : w.heap[b]? = some (.map #[] c)) : (Instr.lookup 72 (.map (some b)) kV false).run Try.prog w = .ok (.int .i64 0) w := by
  unfold Instr.lookup
  simp [run_underlying u72, Go.MapKept.run_getObj_map h, ck_any, fk_none]
theorem entry0 {w : World} {b : Nat} (h : w.heap[b]? = some (.map #[] 0)) : (Instr.mapEntry 68 (.map (some b)) kV).run Try.prog w = .ok (.tuple #[spanZ, .int .i64 0]) (setBlock w b (.map #[⟨kV, spanZ, 0⟩] 1)) := by
  unfold Instr.mapEntry
  simp [run_underlying u68, Go.MapKept.run_getObj_map h, Go.MapKept.run_setObj_map _ h, ck_any, fk_none, goInt, setBlock, spanZ]
theorem store1 {w : World} {b : Nat} {x v : Value} (h : w.heap[b]? = some (.map #[⟨kV, x, 0⟩] 1)) : (Instr.entryStore 68 (.map (some b)) (.int .i64 0) v).run Try.prog w = .ok () (setBlock w b (.map #[⟨kV, v, 0⟩] 1)) := by
  unfold Instr.entryStore
  simp [Go.MapKept.run_getObj_map h, Go.MapKept.run_setObj_map _ h, asInt, asIntOf, setBlock]
theorem put0 {w : World} {b : Nat} (h : w.heap[b]? = some (.map #[] 0)) (v : Value) : (Instr.mapUpdate 72 (.map (some b)) kV v).run Try.prog w = .ok () (setBlock w b (.map #[⟨kV, v, 0⟩] 1)) := by
  unfold Instr.mapUpdate
  simp [run_underlying u72, Go.MapKept.run_getObj_map h, Go.MapKept.run_setObj_map _ h, ck_any, fk_none, setBlock]
end Go.Proofs.Ytibakmchgppndaa
