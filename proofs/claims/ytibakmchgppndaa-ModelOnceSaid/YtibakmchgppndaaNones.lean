/- A model that is none: what its methods answer. -/
import Derived.Test.YtibakmchgppndaaLives
namespace Go.Proofs.Ytibakmchgppndaa
open Go.RowKit Go.MapKept Go.Instr Go.ChangeMaps

/-- A model that is none, or has no map. -/
def NoneAt (w : World) (v : Value) : Prop := v = .pointer none ∨ ∃ p, v = .pointer (some ⟨p, 0, none⟩) ∧ w.cell? ⟨p, 0, none⟩ = some (.map none)
theorem NoneAt.kept {w w' : World} {v : Value} (h : NoneAt w v) (hK : Kept (fun _ => False) w w') : NoneAt w' v := by
  rcases h with h | ⟨p, h, hc⟩
  · exact .inl h
  · exact .inr ⟨p, h, hK.cell hc (fun f => f)⟩
theorem none_any {w : World} {v : Value} (h : NoneAt w v) : Calls Try.prog 28 #[v] w fun e w' => e = .returned (.bool true) ∧ w = w' := by
  rcases h with rfl | ⟨p, rfl, hc⟩
  · exact none_nil w
  · exact none_empty p w hc
set_option maxRecDepth 100000 in
theorem take_none {w : World} {v : Value} (l : Value) (now : Int) (h : NoneAt w v) : Calls Try.prog 9 #[v, l, .int .i64 now] w fun e w' => e = .returned (.int .i64 0) ∧ w = w' := by
  have N := Lib.hid (none_any h)
  go_enter Try.func9, Try.ntmps9
  go_wp2_with (go_at_call 28; refine N.out.mono ?_; rintro e w4 ⟨rfl, rfl⟩)
  go_ret
  exact ⟨rfl, rfl⟩
set_option maxRecDepth 100000 in
theorem spans_none {w : World} {v : Value} (now : Int) (h : NoneAt w v) : Calls Try.prog 10 #[v, .int .i64 now] w fun e w' => e = .returned (.slice none 0 0) ∧ w = w' := by
  have N := Lib.hid (none_any h)
  go_enter Try.func10, Try.ntmps10
  go_wp2_with (go_at_call 28; refine N.out.mono ?_; rintro e w4 ⟨rfl, rfl⟩)
  go_ret
  exact ⟨rfl, rfl⟩
set_option maxRecDepth 100000 in
theorem get_none {w : World} {v : Value} (t now : Int) (h : NoneAt w v) : Calls Try.prog 16 #[v, .int .i64 t, .int .i64 now] w fun e w' => e = .returned (.tuple #[.agg #[.int .i64 0, .slice none 0 0], .int .i64 1]) ∧ Kept (fun _ => False) w w' := by
  have N := Lib.hid (none_any (h.kept (((Kept.refl (fun _ => False) w).alloc (.cells #[.int .i64 t] 3)).alloc (.cells #[.int .i64 0, .slice none 0 0] 46))))
  go_enter Try.func16, Try.ntmps16
  go_wp2_with fail
  refine N.out.mono ?_
  rintro e w4 ⟨rfl, rfl⟩
  go_wp2
  refine bodyPost_ret (v := _) (by simp [results, Try.results16, go_sem]; try rfl) rfl ?_
  exact ⟨rfl, ((Kept.refl (fun _ => False) w).alloc _).alloc _⟩
set_option maxRecDepth 100000 in
theorem scan_none {w : World} {v : Value} (a l now : Int) (h : NoneAt w v) : Calls Try.prog 18 #[v, .int .i64 a, .int .i64 l, .int .i64 now] w fun e w' => e = .returned (.tuple #[.agg #[.slice none 0 0, .int .i64 0, .bool false], .int .i64 1]) ∧ Kept (fun _ => False) w w' := by
  have N := Lib.hid (none_any (h.kept ((Kept.refl (fun _ => False) w).alloc (.cells #[.slice none 0 0, .int .i64 0, .bool false] 52))))
  go_enter Try.func18, Try.ntmps18
  go_wp2_with fail
  refine N.out.mono ?_
  rintro e w4 ⟨rfl, rfl⟩
  go_wp2
  refine bodyPost_ret (v := _) (by simp [results, Try.results18, go_sem]; try rfl) rfl ?_
  exact ⟨rfl, (Kept.refl (fun _ => False) w).alloc _⟩
set_option maxRecDepth 100000 in
theorem find_none {w : World} {v : Value} (now : Int) (h : NoneAt w v) : Calls Try.prog 20 #[v, .agg #[.string ⟨#[]⟩, .string ⟨#[]⟩, .int .i64 0, .int .i64 0, .int .i64 0], .int .i64 now] w fun e w' => e = .returned (.tuple #[.slice none 0 0, .int .i64 1]) ∧ Kept (fun _ => False) w w' := by
  have N := Lib.hid (none_any (h.kept ((Kept.refl (fun _ => False) w).alloc (.cells #[.string ⟨#[]⟩, .string ⟨#[]⟩, .int .i64 0, .int .i64 0, .int .i64 0] 40))))
  go_enter Try.func20, Try.ntmps20
  go_wp2_with fail
  refine N.out.mono ?_
  rintro e w4 ⟨rfl, rfl⟩
  go_wp2
  refine bodyPost_ret (v := _) (by simp [results, Try.results20, go_sem]; try rfl) rfl ?_
  exact ⟨rfl, (Kept.refl (fun _ => False) w).alloc _⟩
set_option maxRecDepth 100000 in
theorem tree_none {w : World} {v : Value} (t now : Int) (h : NoneAt w v) : Calls Try.prog 22 #[v, .int .i64 t, .int .i64 now] w fun e w' => e = .returned (.tuple #[.agg #[.slice none 0 0, .slice none 0 0], .int .i64 1]) ∧ Kept (fun _ => False) w w' := by
  have N := Lib.hid (get_none t now (h.kept ((Kept.refl (fun _ => False) w).alloc (.cells #[.slice none 0 0, .slice none 0 0] 60))))
  go_enter Try.func22, Try.ntmps22
  go_wp2_with fail
  refine N.out.mono ?_
  rintro e w4 ⟨rfl, k4⟩
  obtain ⟨n, hn⟩ : ∃ n, w.heap.size = n := ⟨_, rfl⟩
  have c0 : w4.cell? ⟨n, 0, none⟩ = some (.slice none 0 0) := k4.cell (by rw [← hn]; simp) (fun f => f)
  have c1 : w4.cell? ⟨n, 1, none⟩ = some (.slice none 0 0) := k4.cell (by rw [← hn]; simp) (fun f => f)
  have fz : ∀ j, w4.frozen? ⟨n, j, none⟩ = false := fun j => k4.frozen (by rw [← hn]; simp) (by rw [← hn]; simp) (fun f => f)
  have K4 := Lib.hid (keptFF ((Kept.refl (fun _ => False) w).alloc _) k4)
  have L4 := k4.size
  have hlt := World.block_lt_of_cell? _ _ c0
  simp only at hlt
  have kz : Kept (fun _ => False) w4 (w4.alloc (Obj.cells #[.int .i64 0, .slice none 0 0] 46)) := (Kept.refl (fun _ => False) w4).alloc _
  have d0 := kz.cell c0 (fun f => f)
  have d1 := kz.cell c1 (fun f => f)
  have dz : ∀ j, (w4.alloc (Obj.cells #[.int .i64 0, .slice none 0 0] 46)).frozen? ⟨n, j, none⟩ = false := fun j => kz.frozen (fz j) hlt (fun f => f)
  have BN := Lib.hid hn
  rw [hn]
  clear k4 kz hn
  go_wp2
  obtain ⟨W, hW⟩ : ∃ W, ((w4.setCell ⟨n, 0, none⟩ (.slice none 0 0)).setCell ⟨n, 1, none⟩ (.slice none 0 0)).alloc (Obj.cells #[.int .i64 0, .slice none 0 0] 46) = W := ⟨_, rfl⟩
  have r0 : W.cell? ⟨n, 0, none⟩ = some (.slice none 0 0) := by
    rw [← hW]
    exact ((Kept.refl (fun _ => False) _).alloc _).cell ((World.cell?_setCell_other _ ⟨n, 1, none⟩ ⟨n, 0, none⟩ _ (by simp)).trans (World.cell?_setCell_same w4 _ _ c0)) (fun f => f)
  have r1 : W.cell? ⟨n, 1, none⟩ = some (.slice none 0 0) := by
    rw [← hW]
    exact ((Kept.refl (fun _ => False) _).alloc _).cell (World.cell?_setCell_same _ _ _ ((World.cell?_setCell_other w4 ⟨n, 0, none⟩ ⟨n, 1, none⟩ _ (by simp)).trans c1)) (fun f => f)
  have hb : n < w.heap.size → False := fun h => by have := BN.out; omega
  have KF : Kept (fun _ => False) w W := by rw [← hW]; exact (Kept.setAt hb (Kept.setAt hb K4.out)).alloc _
  rw [hW]
  clear hW
  refine bodyPost_ret (v := _) (by simp [results, Try.results22, go_sem, r0, r1]; try rfl) rfl ?_
  exact ⟨rfl, KF⟩
end Go.Proofs.Ytibakmchgppndaa
