/- The comparisons that sort and compact spans by their IDs. -/
import Derived.Test.YtjidldbolbjdpaaSpn
namespace Go.Proofs.Ytjidldbolbjdpaa
open Go.RowKit

def cmpI (x y : Int) : Int := if x < y then -1 else if y < x then 1 else 0
theorem nan_int (x : Int) (w : World) : Calls Try.prog 50 #[.int .i64 x] w fun e w' => e = .returned (.bool false) ∧ w = w' := by
  go_enter Try.func50, Try.ntmps50
  go_wp2
  go_ret
  exact ⟨by simp, rfl⟩
theorem cmp_int (x y : Int) (w : World) : Calls Try.prog 43 #[.int .i64 x, .int .i64 y] w fun e w' => e = .returned (.int .i64 (cmpI x y)) ∧ w = w' := by
  go_enter Try.func43, Try.ntmps43
  go_wp2_with (go_at_call 50; refine (nan_int _ _).mono ?_; rintro e w' ⟨rfl, rfl⟩)
  all_goals go_ret
  all_goals (refine ⟨?_, rfl⟩; unfold cmpI; (repeat' split) <;> first | rfl | (exfalso; omega))
theorem keptFF {a b c : World} (h : Kept (fun _ => False) a b) (k : Kept (fun _ => False) b c) : Kept (fun _ => False) a c := h.trans k (fun _ _ f => f) (fun _ _ f => f)
/-- A span lies at a block's beginning. -/
def CellsAt (w : World) (g : Nat) (m : Spn) : Prop := ∀ j u, m.cells[j]? = some u → w.cell? ⟨g, j, none⟩ = some u
theorem CellsAt.keptF {w w' : World} {g : Nat} {m : Spn} (h : CellsAt w g m) (hK : Kept (fun _ => False) w w') : CellsAt w' g m := fun j u hj => hK.cell (h j u hj) (fun f => f)
theorem CellsAt.new {w : World} {m : Spn} : CellsAt (w.alloc (.cells #[.int .i64 m.tr, .int .i64 m.id, .int .i64 m.pa, .string m.se, .string m.ho, .int .i64 m.st, .int .i64 m.du, .string m.no] 24)) w.heap.size m := by
  intro j u hj
  unfold Spn.cells at hj
  rcases j with _ | _ | _ | _ | _ | _ | _ | _ | j <;> simp at hj <;> subst hj <;> simp
set_option maxRecDepth 100000 in
theorem id_any (x : Spn) (w : World) : Calls Try.prog 33 #[.agg #[.int .i64 x.tr, .int .i64 x.id, .int .i64 x.pa, .string x.se, .string x.ho, .int .i64 x.st, .int .i64 x.du, .string x.no]] w fun e w' => e = .returned (.int .i64 x.id) ∧ Kept (fun _ => False) w w' := by
  go_enter Try.func33, Try.ntmps33
  go_wp2
  go_ret
  exact ⟨rfl, (Kept.refl _ w).alloc _⟩
set_option maxHeartbeats 4000000 in
set_option maxRecDepth 100000 in
theorem cmp_any (x y : Spn) (bk : Nat) (w : World) (h : w.cell? ⟨bk, 0, none⟩ = some (.func (.func 33) #[] #[])) :
    Calls Try.prog 42 #[.agg #[.int .i64 x.tr, .int .i64 x.id, .int .i64 x.pa, .string x.se, .string x.ho, .int .i64 x.st, .int .i64 x.du, .string x.no], .agg #[.int .i64 y.tr, .int .i64 y.id, .int .i64 y.pa, .string y.se, .string y.ho, .int .i64 y.st, .int .i64 y.du, .string y.no], .pointer (some ⟨bk, 0, none⟩)] w fun e w' => e = .returned (.int .i64 (cmpI x.id y.id)) ∧ Kept (fun _ => False) w w' := by
  go_enter Try.func42, Try.ntmps42
  go_wp2
  obtain ⟨W, hW⟩ : ∃ W, (w.alloc (.cells #[.int .i64 x.tr, .int .i64 x.id, .int .i64 x.pa, .string x.se, .string x.ho, .int .i64 x.st, .int .i64 x.du, .string x.no] 24)).alloc (.cells #[.int .i64 y.tr, .int .i64 y.id, .int .i64 y.pa, .string y.se, .string y.ho, .int .i64 y.st, .int .i64 y.du, .string y.no] 24) = W := ⟨_, rfl⟩
  obtain ⟨nx, hnx⟩ : ∃ n, w.heap.size = n := ⟨_, rfl⟩
  obtain ⟨ny, hny⟩ : ∃ n, nx + 1 = n := ⟨_, rfl⟩
  have kA : Kept (fun _ => False) w (w.alloc (.cells #[.int .i64 x.tr, .int .i64 x.id, .int .i64 x.pa, .string x.se, .string x.ho, .int .i64 x.st, .int .i64 x.du, .string x.no] 24)) := (Kept.refl _ w).alloc _
  have kB : Kept (fun _ => False) (w.alloc (.cells #[.int .i64 x.tr, .int .i64 x.id, .int .i64 x.pa, .string x.se, .string x.ho, .int .i64 x.st, .int .i64 x.du, .string x.no] 24)) W := by rw [← hW]; exact (Kept.refl _ _).alloc _
  have hx : CellsAt W nx x := by rw [← hnx]; exact CellsAt.new.keptF kB
  have hy : CellsAt W ny y := by
    have h := CellsAt.new (w := w.alloc (.cells #[.int .i64 x.tr, .int .i64 x.id, .int .i64 x.pa, .string x.se, .string x.ho, .int .i64 x.st, .int .i64 x.du, .string x.no] 24)) (m := y)
    rw [hW] at h
    have e : (w.alloc (.cells #[.int .i64 x.tr, .int .i64 x.id, .int .i64 x.pa, .string x.se, .string x.ho, .int .i64 x.st, .int .i64 x.du, .string x.no] 24)).heap.size = ny := by rw [← hny, ← hnx]; simp
    rwa [e] at h
  have hb := (keptFF kA kB).cell h (fun f => f)
  have KW := Lib.hid (keptFF kA kB)
  rw [hW, hnx, hny]
  clear hW hnx hny kA kB h
  refine wp_region_held_drew (S := (fun w' => w'.cell? ⟨bk, 0, none⟩ = some (.func (.func 33) #[] #[]) ∧ CellsAt w' nx x ∧ CellsAt w' ny y)) (by kernel_rfl) ?_ (fun hHeld => ?_)
  · exact ⟨hb, hx, hy⟩
  refine wpAnyH_take (i := 0) (v := ?_) opAt0 (by kernel_rfl) (by kernel_rfl) (by kernel_rfl) (fun _ _ _ h => h) (Or.inl ⟨by rfl, ?_⟩) hHeld ?_
  case refine_2 => (intro w hSw; (try dsimp only at hSw); go_simp; all_goals (with_reducible rfl))
  (try simp only [Act.put]); (try simp only [List.setIfInBounds_toArray]); (try simp only [List.set_cons_succ]); (try simp only [List.set_cons_zero])
  refine wpAnyH_take (i := 1) (v := ?_) opAt1 (by kernel_rfl) (by kernel_rfl) (by kernel_rfl) (fun _ _ _ h => h) (Or.inl ⟨by rfl, ?_⟩) hHeld ?_
  case refine_2 => (intro w hSw; have q0 := hSw.2.1 0 _ rfl; have q1 := hSw.2.1 1 _ rfl; have q2 := hSw.2.1 2 _ rfl; have q3 := hSw.2.1 3 _ rfl; have q4 := hSw.2.1 4 _ rfl; have q5 := hSw.2.1 5 _ rfl; have q6 := hSw.2.1 6 _ rfl; have q7 := hSw.2.1 7 _ rfl; clear hSw; go_simp; all_goals (with_reducible rfl))
  (try simp only [Act.put]); (try simp only [List.setIfInBounds_toArray]); (try simp only [List.set_cons_succ]); (try simp only [List.set_cons_zero])
  refine wpAnyH_take (i := 3) (v := ?_) opAt3 (by kernel_rfl) (by kernel_rfl) (by kernel_rfl) (fun _ _ _ h => h) (Or.inl ⟨by rfl, ?_⟩) hHeld ?_
  case refine_2 => (intro w hSw; (try dsimp only at hSw); go_simp; all_goals (with_reducible rfl))
  (try simp only [Act.put]); (try simp only [List.setIfInBounds_toArray]); (try simp only [List.set_cons_succ]); (try simp only [List.set_cons_zero])
  refine wpAnyH_take (i := 4) (v := ?_) opAt4 (by kernel_rfl) (by kernel_rfl) (by kernel_rfl) (fun _ _ _ h => h) (Or.inl ⟨by rfl, ?_⟩) hHeld ?_
  case refine_2 => (intro w hSw; have q0 := hSw.2.2 0 _ rfl; have q1 := hSw.2.2 1 _ rfl; have q2 := hSw.2.2 2 _ rfl; have q3 := hSw.2.2 3 _ rfl; have q4 := hSw.2.2 4 _ rfl; have q5 := hSw.2.2 5 _ rfl; have q6 := hSw.2.2 6 _ rfl; have q7 := hSw.2.2 7 _ rfl; clear hSw; go_simp; all_goals (with_reducible rfl))
  (try simp only [Act.put]); (try simp only [List.setIfInBounds_toArray]); (try simp only [List.set_cons_succ]); (try simp only [List.set_cons_zero])
  refine wpAnyH_ready (rs := [2]) (by kernel_rfl) (by simp) ?_
  refine AllReadyH.cons opAt2 (fun K hK => ?_) AllReadyH.nil
  go_simp
  go_at_call 33; refine (id_any x _).mono ?_; rintro e w5 ⟨rfl, k5⟩; have K5 := Lib.hid k5; dsimp only
  refine hK.out _ _ ?_ (fun hHeld => ?_)
  · exact ⟨k5.cell hHeld.1 (fun f => f), hHeld.2.1.keptF k5, hHeld.2.2.keptF k5⟩
  clear hK K
  (try simp only [Act.put]); (try simp only [List.setIfInBounds_toArray]); (try simp only [List.set_cons_succ]); (try simp only [List.set_cons_zero])
  refine wpAnyH_ready (rs := [5]) (by kernel_rfl) (by simp) ?_
  refine AllReadyH.cons opAt5 (fun K hK => ?_) AllReadyH.nil
  go_simp
  go_at_call 33; refine (id_any y _).mono ?_; rintro e w6 ⟨rfl, k6⟩; have K6 := Lib.hid (keptFF K5.out k6); dsimp only
  refine hK.out _ _ ?_ (fun hHeld => ?_)
  · exact ⟨k6.cell hHeld.1 (fun f => f), hHeld.2.1.keptF k6, hHeld.2.2.keptF k6⟩
  clear hK K
  (try simp only [Act.put]); (try simp only [List.setIfInBounds_toArray]); (try simp only [List.set_cons_succ]); (try simp only [List.set_cons_zero])
  refine wpAnyH_ready (rs := [6]) (by kernel_rfl) (by simp) ?_
  refine AllReadyH.cons opAt6 (fun K hK => ?_) AllReadyH.nil
  go_simp
  go_at_call 43; refine (cmp_int _ _ _).mono ?_; rintro e w7 ⟨rfl, rfl⟩; dsimp only
  refine hK.out _ _ ?_ (fun hHeld => ?_)
  · exact hHeld
  clear hK K
  (try simp only [Act.put]); (try simp only [List.setIfInBounds_toArray]); (try simp only [List.set_cons_succ]); (try simp only [List.set_cons_zero])
  refine wpAnyH_take (i := 7) (v := ?_) opAt7 (by kernel_rfl) (by kernel_rfl) (by kernel_rfl) (fun _ _ _ h => h) (Or.inl ⟨by rfl, ?_⟩) hHeld ?_
  case refine_2 => (intro w hSw; (try dsimp only at hSw); go_simp; all_goals (with_reducible rfl))
  (try simp only [Act.put]); (try simp only [List.setIfInBounds_toArray]); (try simp only [List.set_cons_succ]); (try simp only [List.set_cons_zero])
  refine wpAnyH_done (by kernel_rfl) ?_ _
  go_wp2
  go_ret
  exact ⟨rfl, keptFF (KW.out.drew) K6.out⟩

set_option maxHeartbeats 4000000 in
set_option maxRecDepth 100000 in
theorem eq_any (x y : Spn) (bk : Nat) (w : World) (h : w.cell? ⟨bk, 0, none⟩ = some (.func (.func 33) #[] #[])) :
    Calls Try.prog 45 #[.agg #[.int .i64 x.tr, .int .i64 x.id, .int .i64 x.pa, .string x.se, .string x.ho, .int .i64 x.st, .int .i64 x.du, .string x.no], .agg #[.int .i64 y.tr, .int .i64 y.id, .int .i64 y.pa, .string y.se, .string y.ho, .int .i64 y.st, .int .i64 y.du, .string y.no], .pointer (some ⟨bk, 0, none⟩)] w fun e w' => e = .returned (.bool (x.id == y.id)) ∧ Kept (fun _ => False) w w' := by
  go_enter Try.func45, Try.ntmps45
  go_wp2
  obtain ⟨W, hW⟩ : ∃ W, (w.alloc (.cells #[.int .i64 x.tr, .int .i64 x.id, .int .i64 x.pa, .string x.se, .string x.ho, .int .i64 x.st, .int .i64 x.du, .string x.no] 24)).alloc (.cells #[.int .i64 y.tr, .int .i64 y.id, .int .i64 y.pa, .string y.se, .string y.ho, .int .i64 y.st, .int .i64 y.du, .string y.no] 24) = W := ⟨_, rfl⟩
  obtain ⟨nx, hnx⟩ : ∃ n, w.heap.size = n := ⟨_, rfl⟩
  obtain ⟨ny, hny⟩ : ∃ n, nx + 1 = n := ⟨_, rfl⟩
  have kA : Kept (fun _ => False) w (w.alloc (.cells #[.int .i64 x.tr, .int .i64 x.id, .int .i64 x.pa, .string x.se, .string x.ho, .int .i64 x.st, .int .i64 x.du, .string x.no] 24)) := (Kept.refl _ w).alloc _
  have kB : Kept (fun _ => False) (w.alloc (.cells #[.int .i64 x.tr, .int .i64 x.id, .int .i64 x.pa, .string x.se, .string x.ho, .int .i64 x.st, .int .i64 x.du, .string x.no] 24)) W := by rw [← hW]; exact (Kept.refl _ _).alloc _
  have hx : CellsAt W nx x := by rw [← hnx]; exact CellsAt.new.keptF kB
  have hy : CellsAt W ny y := by
    have h := CellsAt.new (w := w.alloc (.cells #[.int .i64 x.tr, .int .i64 x.id, .int .i64 x.pa, .string x.se, .string x.ho, .int .i64 x.st, .int .i64 x.du, .string x.no] 24)) (m := y)
    rw [hW] at h
    have e : (w.alloc (.cells #[.int .i64 x.tr, .int .i64 x.id, .int .i64 x.pa, .string x.se, .string x.ho, .int .i64 x.st, .int .i64 x.du, .string x.no] 24)).heap.size = ny := by rw [← hny, ← hnx]; simp
    rwa [e] at h
  have hb := (keptFF kA kB).cell h (fun f => f)
  have KW := Lib.hid (keptFF kA kB)
  rw [hW, hnx, hny]
  clear hW hnx hny kA kB h
  refine wp_region_held_drew (S := (fun w' => w'.cell? ⟨bk, 0, none⟩ = some (.func (.func 33) #[] #[]) ∧ CellsAt w' nx x ∧ CellsAt w' ny y)) (by kernel_rfl) ?_ (fun hHeld => ?_)
  · exact ⟨hb, hx, hy⟩
  refine wpAnyH_take (i := 0) (v := ?_) opAt0 (by kernel_rfl) (by kernel_rfl) (by kernel_rfl) (fun _ _ _ h => h) (Or.inl ⟨by rfl, ?_⟩) hHeld ?_
  case refine_2 => (intro w hSw; (try dsimp only at hSw); go_simp; all_goals (with_reducible rfl))
  (try simp only [Act.put]); (try simp only [List.setIfInBounds_toArray]); (try simp only [List.set_cons_succ]); (try simp only [List.set_cons_zero])
  refine wpAnyH_take (i := 1) (v := ?_) opAt1 (by kernel_rfl) (by kernel_rfl) (by kernel_rfl) (fun _ _ _ h => h) (Or.inl ⟨by rfl, ?_⟩) hHeld ?_
  case refine_2 => (intro w hSw; have q0 := hSw.2.1 0 _ rfl; have q1 := hSw.2.1 1 _ rfl; have q2 := hSw.2.1 2 _ rfl; have q3 := hSw.2.1 3 _ rfl; have q4 := hSw.2.1 4 _ rfl; have q5 := hSw.2.1 5 _ rfl; have q6 := hSw.2.1 6 _ rfl; have q7 := hSw.2.1 7 _ rfl; clear hSw; go_simp; all_goals (with_reducible rfl))
  (try simp only [Act.put]); (try simp only [List.setIfInBounds_toArray]); (try simp only [List.set_cons_succ]); (try simp only [List.set_cons_zero])
  refine wpAnyH_take (i := 3) (v := ?_) opAt3 (by kernel_rfl) (by kernel_rfl) (by kernel_rfl) (fun _ _ _ h => h) (Or.inl ⟨by rfl, ?_⟩) hHeld ?_
  case refine_2 => (intro w hSw; (try dsimp only at hSw); go_simp; all_goals (with_reducible rfl))
  (try simp only [Act.put]); (try simp only [List.setIfInBounds_toArray]); (try simp only [List.set_cons_succ]); (try simp only [List.set_cons_zero])
  refine wpAnyH_take (i := 4) (v := ?_) opAt4 (by kernel_rfl) (by kernel_rfl) (by kernel_rfl) (fun _ _ _ h => h) (Or.inl ⟨by rfl, ?_⟩) hHeld ?_
  case refine_2 => (intro w hSw; have q0 := hSw.2.2 0 _ rfl; have q1 := hSw.2.2 1 _ rfl; have q2 := hSw.2.2 2 _ rfl; have q3 := hSw.2.2 3 _ rfl; have q4 := hSw.2.2 4 _ rfl; have q5 := hSw.2.2 5 _ rfl; have q6 := hSw.2.2 6 _ rfl; have q7 := hSw.2.2 7 _ rfl; clear hSw; go_simp; all_goals (with_reducible rfl))
  (try simp only [Act.put]); (try simp only [List.setIfInBounds_toArray]); (try simp only [List.set_cons_succ]); (try simp only [List.set_cons_zero])
  refine wpAnyH_ready (rs := [2]) (by kernel_rfl) (by simp) ?_
  refine AllReadyH.cons opAt2 (fun K hK => ?_) AllReadyH.nil
  go_simp
  go_at_call 33; refine (id_any x _).mono ?_; rintro e w5 ⟨rfl, k5⟩; have K5 := Lib.hid k5; dsimp only
  refine hK.out _ _ ?_ (fun hHeld => ?_)
  · exact ⟨k5.cell hHeld.1 (fun f => f), hHeld.2.1.keptF k5, hHeld.2.2.keptF k5⟩
  clear hK K
  (try simp only [Act.put]); (try simp only [List.setIfInBounds_toArray]); (try simp only [List.set_cons_succ]); (try simp only [List.set_cons_zero])
  refine wpAnyH_ready (rs := [5]) (by kernel_rfl) (by simp) ?_
  refine AllReadyH.cons opAt5 (fun K hK => ?_) AllReadyH.nil
  go_simp
  go_at_call 33; refine (id_any y _).mono ?_; rintro e w6 ⟨rfl, k6⟩; have K6 := Lib.hid (keptFF K5.out k6); dsimp only
  refine hK.out _ _ ?_ (fun hHeld => ?_)
  · exact ⟨k6.cell hHeld.1 (fun f => f), hHeld.2.1.keptF k6, hHeld.2.2.keptF k6⟩
  clear hK K
  (try simp only [Act.put]); (try simp only [List.setIfInBounds_toArray]); (try simp only [List.set_cons_succ]); (try simp only [List.set_cons_zero])
  refine wpAnyH_take (i := 6) (v := ?_) opAt6 (by kernel_rfl) (by kernel_rfl) (by kernel_rfl) (fun _ _ _ h => h) (Or.inl ⟨by rfl, ?_⟩) hHeld ?_
  case refine_2 => (intro w hSw; (try dsimp only at hSw); go_simp; all_goals (with_reducible rfl))
  (try simp only [Act.put]); (try simp only [List.setIfInBounds_toArray]); (try simp only [List.set_cons_succ]); (try simp only [List.set_cons_zero])
  refine wpAnyH_take (i := 7) (v := ?_) opAt7 (by kernel_rfl) (by kernel_rfl) (by kernel_rfl) (fun _ _ _ h => h) (Or.inl ⟨by rfl, ?_⟩) hHeld ?_
  case refine_2 => (intro w hSw; (try dsimp only at hSw); go_simp; all_goals (with_reducible rfl))
  (try simp only [Act.put]); (try simp only [List.setIfInBounds_toArray]); (try simp only [List.set_cons_succ]); (try simp only [List.set_cons_zero])
  refine wpAnyH_done (by kernel_rfl) ?_ _
  go_wp2
  go_ret
  exact ⟨rfl, keptFF (KW.out.drew) K6.out⟩

end Go.Proofs.Ytjidldbolbjdpaa
