/- Sorting what is one span at most; what a range over a map of one entry tells. -/
import Derived.Test.YtibakmchgppndaaMaps
namespace Go.Proofs.Ytibakmchgppndaa
open Go.RowKit Go.MapKept Go.Instr Go.ChangeMaps

set_option maxRecDepth 100000 in
theorem len64_any (n : Int) (h : n = 0 ∨ n = 1) (w : World) : Calls Try.prog 69 #[.int .u64 n] w fun e w' => e = .returned (.int .i64 n) ∧ w = w' := by
  rcases h with rfl | rfl
  · go_enter Try.func69, Try.ntmps69
    go_wp2
    go_ret
    exact ⟨by kernel_rfl, rfl⟩
  · go_enter Try.func69, Try.ntmps69
    go_wp2
    go_ret
    exact ⟨by kernel_rfl, rfl⟩
set_option maxRecDepth 100000 in
theorem len_any (n : Int) (h : n = 0 ∨ n = 1) (w : World) : Calls Try.prog 48 #[.int .u64 n] w fun e w' => e = .returned (.int .i64 n) ∧ w = w' := by
  have L := Lib.hid (len64_any n h)
  go_enter Try.func48, Try.ntmps48
  go_wp2_with (go_at_call 69; refine (L.out _).mono ?_; rintro e w4 ⟨rfl, rfl⟩)
  go_ret
  exact ⟨rfl, rfl⟩
set_option maxRecDepth 100000 in
theorem insert_any (v f : Value) (n : Int) (h : n = 0 ∨ n = 1) (w : World) : Calls Try.prog 60 #[v, .int .i64 0, .int .i64 n, f] w fun e w' => e = .returned (.tuple #[]) ∧ w = w' := by
  have e1 : ¬ (1 : Int) < n := by omega
  go_enter Try.func60, Try.ntmps60
  go_wp2
  go_loopg [8] 1 (fun g t wr => t = .int .i64 1 ∧ wr = w)
  case atStart => exact ⟨rfl, rfl⟩
  case round =>
    obtain ⟨rfl, rfl⟩ := hrel
    go_wp2
    go_end0
    exact ⟨rfl, rfl⟩
set_option maxRecDepth 100000 in
theorem pdq_any (v f : Value) (n : Int) (h : n = 0 ∨ n = 1) (w : World) : Calls Try.prog 47 #[v, .int .i64 0, .int .i64 n, .int .i64 n, f] w fun e w' => e = .returned (.tuple #[]) ∧ w = w' := by
  have L := Lib.hid (insert_any v f n h)
  have e1 : n ≤ 12 := by omega
  go_enter Try.func47, Try.ntmps47
  go_wp2
  go_loopg [1, 2] 1 (fun g s t wr => s = .int .i64 0 ∧ t = .int .i64 n ∧ wr = w)
  case atStart => exact ⟨rfl, rfl, rfl⟩
  case round =>
    obtain ⟨rfl, rfl, rfl⟩ := hrel
    have e2 : IntKind.i64.wrap (n - 0) = n := by rw [Int.sub_zero]; exact IntWalk.i64_in _ (by omega)
    go_wp2_with (go_at_call 60; refine (L.out _).mono ?_; rintro e w4 ⟨rfl, rfl⟩)
    refine bodyPost_ret (v := _) (by simp [results, Try.results47, go_sem]; try rfl) rfl ?_
    exact ⟨rfl, rfl⟩
set_option maxRecDepth 100000 in
theorem sort_any (a : Option Addr) (n c : Nat) (f : Value) (h : n = 0 ∨ n = 1) (w : World) : Calls Try.prog 30 #[.slice a n c, f] w fun e w' => e = .returned (.tuple #[]) ∧ w = w' := by
  have h2 : (n : Int) = 0 ∨ (n : Int) = 1 := by omega
  have L := Lib.hid (len_any n h2)
  have M := Lib.hid (pdq_any (.slice a n c) f n h2)
  go_enter Try.func30, Try.ntmps30
  go_wp2_with (first
    | (go_at_call 48; refine (L.out _).mono ?_; rintro e w4 ⟨rfl, rfl⟩)
    | (go_at_call 47; refine (M.out _).mono ?_; rintro e w4 ⟨rfl, rfl⟩))
  go_end0
  exact ⟨rfl, rfl⟩

theorem _root_.Go.ChangeMaps.kept_setBlock {S : Nat → Prop} {a w : World} (h : Kept S a w) {b : Nat} (hb : b < a.heap.size → S b) (o : Obj) : Kept S a (setBlock w b o) :=
  ⟨h.os, h.tape, h.output, by simp [setBlock, h.size], fun k hk hn => by
    have : k ≠ b := fun e => hn (e ▸ hb (e ▸ hk))
    rw [← h.block k hk hn]
    simp [setBlock, this.symm]⟩
theorem range1 {w : World} {b : Nat} {v : Value} (hb : w.heap[b]? = some (.map #[⟨kV, v, 0⟩] 1)) : (Instr.range 68 (.map (some b))).run Try.prog w = .ok (.pointer (some ⟨w.heap.size, 0, none⟩)) (w.alloc (.mapIter (some b) 1 #[] 1)) := by
  unfold Instr.range
  simp [run_underlying u68, Go.MapKept.run_getObj_map hb, newObj, Sem.run]
theorem mnext1 {w : World} {b r : Nat} {v : Value} (hb : w.heap[b]? = some (.map #[⟨kV, v, 0⟩] 1)) (hr : w.heap[r]? = some (.mapIter (some b) 1 #[] 1)) (ty : TypeId) :
    (Instr.next (.pointer (some ⟨r, 0, none⟩)) false ty).run Try.prog w = .ok (.tuple #[.bool true, kV, v]) (setBlock w r (.mapIter (some b) 1 #[0] 1)) := by
  simp only [Instr.next, getObj, Sem.run_bind, Sem.run, hr, hb, Result.andThen]
  simp [choose, Sem.run, Question.forced, run_setObj_at hr]
theorem mnext2 {w : World} {b r : Nat} {v : Value} (hb : w.heap[b]? = some (.map #[⟨kV, v, 0⟩] 1)) (hr : w.heap[r]? = some (.mapIter (some b) 1 #[0] 1)) (ty : TypeId) :
    (Instr.next (.pointer (some ⟨r, 0, none⟩)) false ty).run Try.prog w = .ok (.tuple #[.bool false]) w := by
  simp only [Instr.next, getObj, Sem.run_bind, Sem.run, hr, hb, Result.andThen]
  simp [choose, Sem.run, Question.forced]
theorem entry1 {w : World} {b r : Nat} {v : Value} (hb : w.heap[b]? = some (.map #[⟨kV, v, 0⟩] 1)) (hr : w.heap[r]? = some (.mapIter (some b) 1 #[0] 1)) :
    (Instr.entry (.pointer (some ⟨r, 0, none⟩))).run Try.prog w = .ok (.tuple #[kV, v]) w := by
  exact run_entry_at (P := Try.prog) w r b 1 #[] #[⟨kV, v, 0⟩] 1 ⟨kV, v, 0⟩ hr hb (by simp) (by simp)
end Go.Proofs.Ytibakmchgppndaa
