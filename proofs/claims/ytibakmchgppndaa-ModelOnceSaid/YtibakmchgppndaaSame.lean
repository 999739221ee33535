/- SameSpans and SameInts of one; New. -/
import Derived.Test.YtibakmchgppndaaFind
namespace Go.Proofs.Ytibakmchgppndaa
open Go.RowKit Go.MapKept Go.Instr Go.ChangeMaps

theorem neq37 (W : World) : (binOp .neq 37 (.agg #[.int .i64 3, .int .i64 1, .int .i64 0, .string ⟨#[97]⟩, .string ⟨#[104]⟩, .int .i64 10, .int .i64 0, .string ⟨#[]⟩]) (.agg #[.int .i64 3, .int .i64 1, .int .i64 0, .string ⟨#[97]⟩, .string ⟨#[104]⟩, .int .i64 10, .int .i64 0, .string ⟨#[]⟩])).run Try.prog W = .ok (.bool false) W := by kernel_rfl
theorem s37 : Try.prog.stoodInHeld 37 = false := by kernel_rfl
theorem g37 : Try.prog.eqGuardType Try.prog.depth 37 = false := by kernel_rfl
set_option maxHeartbeats 4000000 in
set_option maxRecDepth 100000 in
theorem samespans_one {w : World} {g g2 c c2 : Nat} (h : ∀ j u, (cells8 ⟨#[]⟩)[j]? = some u → w.cell? ⟨g, j, none⟩ = some u) (h2 : ∀ j u, (cells8 ⟨#[]⟩)[j]? = some u → w.cell? ⟨g2, j, none⟩ = some u) :
    Calls Try.prog 11 #[.slice (some ⟨g, 0, none⟩) 1 c, .slice (some ⟨g2, 0, none⟩) 1 c2] w fun e w' => e = .returned (.bool true) ∧ Kept (fun _ => False) w w' := by
  have c0 := h 0 _ rfl
  have c1 := h 1 _ rfl
  have c2' := h 2 _ rfl
  have c3 := h 3 _ rfl
  have c4 := h 4 _ rfl
  have c5 := h 5 _ rfl
  have c6 := h 6 _ rfl
  have c7 := h 7 _ rfl
  have d0 := h2 0 _ rfl
  have d1 := h2 1 _ rfl
  have d2 := h2 2 _ rfl
  have d3 := h2 3 _ rfl
  have d4 := h2 4 _ rfl
  have d5 := h2 5 _ rfl
  have d6 := h2 6 _ rfl
  have d7 := h2 7 _ rfl
  have q0 := s37
  have q1 := g37
  have q2 := neq37
  clear h h2
  go_enter Try.func11, Try.ntmps11
  go_wp2
  go_loopg [5] 1 (fun gh t wr => (gh = 1 ∧ t = .int .i64 0 ∧ wr = w) ∨ (gh = 0 ∧ t = .int .i64 1 ∧ Kept (fun _ => False) w wr))
  case atStart => exact .inl ⟨rfl, rfl, rfl⟩
  case round =>
    rcases hrel with ⟨rfl, rfl, rfl⟩ | ⟨rfl, rfl, kw⟩
    · go_wp2
      go_region
      all_goals go_wp2
      all_goals go_roundg 0
      case measure => omega
      case rel => exact .inr ⟨rfl, by go_num, (Kept.refl _ _).drew⟩
    · have KW := Lib.hid kw; clear kw
      go_wp2
      go_ret
      exact ⟨rfl, KW.out⟩
set_option maxHeartbeats 4000000 in
set_option maxRecDepth 100000 in
theorem sameints_one {w : World} {g g2 c c2 : Nat} (h : w.cell? ⟨g, 0, none⟩ = some (.int .i64 3)) (h2 : w.cell? ⟨g2, 0, none⟩ = some (.int .i64 3)) :
    Calls Try.prog 25 #[.slice (some ⟨g, 0, none⟩) 1 c, .slice (some ⟨g2, 0, none⟩) 1 c2] w fun e w' => e = .returned (.bool true) ∧ Kept (fun _ => False) w w' := by
  go_enter Try.func25, Try.ntmps25
  go_wp2
  go_loopg [5] 1 (fun gh t wr => (gh = 1 ∧ t = .int .i64 0 ∧ wr = w) ∨ (gh = 0 ∧ t = .int .i64 1 ∧ Kept (fun _ => False) w wr))
  case atStart => exact .inl ⟨rfl, rfl, rfl⟩
  case round =>
    rcases hrel with ⟨rfl, rfl, rfl⟩ | ⟨rfl, rfl, kw⟩
    · go_wp2
      go_region
      all_goals go_wp2
      all_goals go_roundg 0
      case measure => omega
      case rel => exact .inr ⟨rfl, by go_num, (Kept.refl _ _).drew⟩
    · have KW := Lib.hid kw; clear kw
      go_wp2
      go_ret
      exact ⟨rfl, KW.out⟩
set_option maxRecDepth 100000 in
theorem new_any (w : World) : Calls Try.prog 8 #[] w fun e w' => e = .returned (.pointer (some ⟨w.heap.size + 1, 0, none⟩)) ∧ Kept (fun _ => False) w w' ∧ w'.cell? ⟨w.heap.size + 1, 0, none⟩ = some (.map (some w.heap.size)) ∧ w'.heap[w.heap.size]? = some (.map #[] 0) := by
  have MK : ∀ W : World, (makeMap 68 none).run Try.prog W = .ok (.map (some W.heap.size)) (W.alloc (.map #[] 0)) := fun W => run_makeMap 68 W
  go_enter Try.func8, Try.ntmps8
  go_wp2
  go_ret
  exact ⟨rfl, ((Kept.refl _ w).alloc _).alloc _, by simp, heap_first w _ _⟩
end Go.Proofs.Ytibakmchgppndaa
