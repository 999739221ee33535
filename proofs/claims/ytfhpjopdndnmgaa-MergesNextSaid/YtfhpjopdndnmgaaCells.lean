/- The walks over cells.Compare. -/
import Derived.Test.YtfhpjopdndnmgaaSmall
namespace Go.Proofs.Ytfhpjopdndnmgaa
open Go.RowKit

/-- A cell. -/
structure Cel where
  k : ByteArray
  s : Int
  v : ByteArray
def Cel.val (c : Cel) : Value := .agg #[.string c.k, .int .i64 c.s, .string c.v]
def cmpC (a b : Cel) : Int := or2 (cmpS a.k b.k) (cmpI b.s a.s)

set_option maxHeartbeats 1000000 in
theorem cell_cmp (a b : Cel) (w : World) : Calls Try.prog 42 #[.agg #[.string a.k, .int .i64 a.s, .string a.v], .agg #[.string b.k, .int .i64 b.s, .string b.v]] w fun e w' => e = .returned (.int .i64 (cmpC a b)) ∧ Kept (fun _ => False) w w' := by
  go_enter Try.func42, Try.ntmps42
  go_upto_region 1 with fail
  go_region_held3 (fun w' => w'.cell? ⟨w.heap.size, 0, none⟩ = some (.string a.k) ∧ w'.cell? ⟨w.heap.size, 1, none⟩ = some (.int .i64 a.s) ∧ w'.cell? ⟨w.heap.size + 1, 0, none⟩ = some (.string b.k) ∧ w'.cell? ⟨w.heap.size + 1, 1, none⟩ = some (.int .i64 b.s)) (first | go_keep | (go_split_ands; (simp [go_sem, *]; done)))
    (first
      | (go_at_call 43; refine (or_two _ _ (cmpS a.k b.k) (cmpI b.s a.s) _ ?_ ?_).mono ?_; (simp [go_sem]); (simp [go_sem]); rintro e w4 ⟨rfl, rfl⟩)
      | (go_at_call 44; refine (cmp_str _ _ _).mono ?_; rintro e w4 ⟨rfl, rfl⟩)
      | (go_at_call 45; refine (cmp_int _ _ _).mono ?_; rintro e w4 ⟨rfl, rfl⟩))
  all_goals go_wp2
  all_goals go_ret
  all_goals exact ⟨rfl, by repeat (first | exact Kept.refl _ _ | apply Kept.alloc | apply Kept.drew)⟩
end Go.Proofs.Ytfhpjopdndnmgaa
