/- A part of the proof. -/
import Derived.Shelf.SlSortCmp.NoneTotal
import Derived.Test.YtelhdbkkigehgaaGreatDoorProg
import Derived.Test.YtelhdbkkigehgaaGreatDoorDs7
import Derived.Test.YtelhdbkkigehgaaGreatDoorDs4

/- Printed by port_model.py out of the Model seat. -/
namespace Go.Proofs.YtelhdbkkigehgaaGreatDoor
open Go.RowKit Go.Shelf Go.Lib Go.Sort

def cmpI (x y : Int) : Int := if x < y then -1 else if y < x then 1 else 0
def orI (a b : Int) : Int := if a = 0 then b else a
def cmpS (x y : Spn) : Int := orI (cmpI x.tr y.tr) (cmpI x.id y.id)
theorem nan_int (x : Int) (w : World) : Calls Tryz.prog 422 #[.int .i64 x] w fun e w' => e = .returned (.bool false) ∧ w = w' := by
  go_enter Tryz.func422, Tryz.ntmps422
  go_wp2
  go_ret
  exact ⟨by simp, rfl⟩
theorem cmp_int (x y : Int) (w : World) : Calls Tryz.prog 309 #[.int .i64 x, .int .i64 y] w fun e w' => e = .returned (.int .i64 (cmpI x y)) ∧ w = w' := by
  go_enter Tryz.func309, Tryz.ntmps309
  go_wp2_with (go_at_call 422; refine (nan_int _ _).mono ?_; rintro e w' ⟨rfl, rfl⟩)
  all_goals go_ret
  all_goals (refine ⟨?_, rfl⟩; unfold cmpI; (repeat' split) <;> first | rfl | (exfalso; omega))
set_option maxHeartbeats 2000000 in
set_option maxRecDepth 100000 in
theorem or_two (g : Nat) (a b : Int) (c : Nat) (w : World) (h0 : w.cell? ⟨g, 0, none⟩ = some (.int .i64 a)) (h1 : w.cell? ⟨g, 1, none⟩ = some (.int .i64 b)) :
    Calls Tryz.prog 340 #[.slice (some ⟨g, 0, none⟩) 2 c] w fun e w' => e = .returned (.int .i64 (orI a b)) ∧ w = w' := by
  go_enter Tryz.func340, Tryz.ntmps340
  go_wp2
  go_loopg [8] 2 (fun gh t wr => wr = w ∧ ((gh = 2 ∧ t = .int .i64 0) ∨ (gh = 1 ∧ t = .int .i64 1 ∧ a = 0) ∨ (gh = 0 ∧ t = .int .i64 2 ∧ a = 0 ∧ b = 0)))
  case atStart => exact ⟨rfl, .inl ⟨rfl, rfl⟩⟩
  case round =>
    obtain ⟨rfl, ⟨rfl, rfl⟩ | ⟨rfl, rfl, rfl⟩ | ⟨rfl, rfl, rfl, rfl⟩⟩ := hrel
    · by_cases ha : a = 0
      · subst ha
        go_wp2
        go_roundg 1
        case measure => omega
        case rel => exact ⟨rfl, .inr (.inl ⟨rfl, rfl, trivial⟩)⟩
      · go_wp2
        go_ret
        exact ⟨by unfold orI; rw [if_neg ha]; rfl, rfl⟩
    · by_cases hb : b = 0
      · subst hb
        go_wp2
        go_roundg 0
        case measure => omega
        case rel => exact ⟨rfl, .inr (.inr ⟨rfl, rfl, trivial, trivial⟩)⟩
      · go_wp2
        go_ret
        exact ⟨by unfold orI; rw [if_pos rfl]; rfl, rfl⟩
    · go_wp2
      go_ret
      exact ⟨by unfold orI; rfl, rfl⟩
set_option maxHeartbeats 4000000 in
set_option maxRecDepth 100000 in
theorem closure_all (x y : Spn) (w : World) : Calls Tryz.prog 339 #[aggS x, aggS y] w fun e w' => e = .returned (.int .i64 (cmpS x y)) ∧ ∃ q os', w' = grow (w.drewN q) os' := by
  unfold aggS
  have C0 := Lib.hid (cmp_int x.tr y.tr)
  have C1 := Lib.hid (cmp_int x.id y.id)
  unfold cmpS
  obtain ⟨c0, h0⟩ : ∃ c, cmpI x.tr y.tr = c := ⟨_, rfl⟩
  obtain ⟨c1, h1⟩ : ∃ c, cmpI x.id y.id = c := ⟨_, rfl⟩
  rw [h0] at C0 ⊢
  rw [h1] at C1 ⊢
  clear h0 h1
  go_enter Tryz.func339, Tryz.ntmps339
  go_wp2
  obtain ⟨W, hW⟩ : ∃ W, (w.alloc (.cells #[.int .i64 x.tr, .int .i64 x.id, .int .i64 x.pa, .string x.se, .string x.ho, .int .i64 x.st, .int .i64 x.du, .string x.no] 35)).alloc (.cells #[.int .i64 y.tr, .int .i64 y.id, .int .i64 y.pa, .string y.se, .string y.ho, .int .i64 y.st, .int .i64 y.du, .string y.no] 35) = W := ⟨_, rfl⟩
  obtain ⟨nx, hnx⟩ : ∃ n, w.heap.size = n := ⟨_, rfl⟩
  obtain ⟨ny, hny⟩ : ∃ n, nx + 1 = n := ⟨_, rfl⟩
  have kA : Kept (fun _ => False) w (w.alloc (.cells #[.int .i64 x.tr, .int .i64 x.id, .int .i64 x.pa, .string x.se, .string x.ho, .int .i64 x.st, .int .i64 x.du, .string x.no] 35)) := (Kept.refl _ w).alloc _
  have kB : Kept (fun _ => False) (w.alloc (.cells #[.int .i64 x.tr, .int .i64 x.id, .int .i64 x.pa, .string x.se, .string x.ho, .int .i64 x.st, .int .i64 x.du, .string x.no] 35)) W := by rw [← hW]; exact (Kept.refl _ _).alloc _
  have hx : SpanAt W nx x := by rw [← hnx]; exact SpanAt.new.keptF kB
  have hy : SpanAt W ny y := by
    have h := SpanAt.new (w := w.alloc (.cells #[.int .i64 x.tr, .int .i64 x.id, .int .i64 x.pa, .string x.se, .string x.ho, .int .i64 x.st, .int .i64 x.du, .string x.no] 35)) (m := y)
    rw [hW] at h
    have e : (w.alloc (.cells #[.int .i64 x.tr, .int .i64 x.id, .int .i64 x.pa, .string x.se, .string x.ho, .int .i64 x.st, .int .i64 x.du, .string x.no] 35)).heap.size = ny := by rw [← hny, ← hnx]; simp
    rwa [e] at h
  have x0 := hx 0 _ rfl
  have x1 := hx 1 _ rfl
  have y0 := hy 0 _ rfl
  have y1 := hy 1 _ rfl
  have GW := Lib.hid (show W = grow (w.drewN 0) #[.cells #[.int .i64 x.tr, .int .i64 x.id, .int .i64 x.pa, .string x.se, .string x.ho, .int .i64 x.st, .int .i64 x.du, .string x.no] 35, .cells #[.int .i64 y.tr, .int .i64 y.id, .int .i64 y.pa, .string y.se, .string y.ho, .int .i64 y.st, .int .i64 y.du, .string y.no] 35] from by rw [← hW, alloc_eq_grow, alloc_eq_grow, grow_grow]; rfl)
  rw [hW, hnx, hny]
  clear hW hnx hny kA kB hx hy
  refine wp_region_held_drew (S := (fun w' => w'.cell? ⟨nx, 0, none⟩ = some (.int .i64 x.tr) ∧ w'.cell? ⟨nx, 1, none⟩ = some (.int .i64 x.id) ∧ w'.cell? ⟨ny, 0, none⟩ = some (.int .i64 y.tr) ∧ w'.cell? ⟨ny, 1, none⟩ = some (.int .i64 y.id))) (by kernel_rfl) ?_ (fun hHeld => ?_)
  · exact ⟨x0, x1, y0, y1⟩
  refine wpAnyH_take (i := 0) (v := ?_) opAt0 (by kernel_rfl) (by kernel_rfl) (by kernel_rfl) (fun _ _ _ h => h) (Or.inl ⟨by rfl, ?_⟩) hHeld ?_
  case refine_2 => (intro w hSw; (try dsimp only at hSw); go_simp; all_goals (with_reducible rfl))
  (try simp only [Act.put]); (try simp only [List.setIfInBounds_toArray]); (try simp only [List.set_cons_succ]); (try simp only [List.set_cons_zero])
  refine wpAnyH_take (i := 1) (v := ?_) opAt1 (by kernel_rfl) (by kernel_rfl) (by kernel_rfl) (fun _ _ _ h => h) (Or.inl ⟨by rfl, ?_⟩) hHeld ?_
  case refine_2 => (intro w hSw; (try dsimp only at hSw); go_simp; all_goals (with_reducible rfl))
  (try simp only [Act.put]); (try simp only [List.setIfInBounds_toArray]); (try simp only [List.set_cons_succ]); (try simp only [List.set_cons_zero])
  refine wpAnyH_take (i := 2) (v := ?_) opAt2 (by kernel_rfl) (by kernel_rfl) (by kernel_rfl) (fun _ _ _ h => h) (Or.inl ⟨by rfl, ?_⟩) hHeld ?_
  case refine_2 => (intro w hSw; (try dsimp only at hSw); go_simp; all_goals (with_reducible rfl))
  (try simp only [Act.put]); (try simp only [List.setIfInBounds_toArray]); (try simp only [List.set_cons_succ]); (try simp only [List.set_cons_zero])
  refine wpAnyH_take (i := 3) (v := ?_) opAt3 (by kernel_rfl) (by kernel_rfl) (by kernel_rfl) (fun _ _ _ h => h) (Or.inl ⟨by rfl, ?_⟩) hHeld ?_
  case refine_2 => (intro w hSw; (try dsimp only at hSw); go_simp; all_goals (with_reducible rfl))
  (try simp only [Act.put]); (try simp only [List.setIfInBounds_toArray]); (try simp only [List.set_cons_succ]); (try simp only [List.set_cons_zero])
  refine wpAnyH_take (i := 5) (v := ?_) opAt5 (by kernel_rfl) (by kernel_rfl) (by kernel_rfl) (fun _ _ _ h => h) (Or.inl ⟨by rfl, ?_⟩) hHeld ?_
  case refine_2 => (intro w hSw; (try dsimp only at hSw); go_simp; all_goals (with_reducible rfl))
  (try simp only [Act.put]); (try simp only [List.setIfInBounds_toArray]); (try simp only [List.set_cons_succ]); (try simp only [List.set_cons_zero])
  refine wpAnyH_take (i := 6) (v := ?_) opAt6 (by kernel_rfl) (by kernel_rfl) (by kernel_rfl) (fun _ _ _ h => h) (Or.inl ⟨by rfl, ?_⟩) hHeld ?_
  case refine_2 => (intro w hSw; (try dsimp only at hSw); go_simp; all_goals (with_reducible rfl))
  (try simp only [Act.put]); (try simp only [List.setIfInBounds_toArray]); (try simp only [List.set_cons_succ]); (try simp only [List.set_cons_zero])
  refine wpAnyH_take (i := 7) (v := ?_) opAt7 (by kernel_rfl) (by kernel_rfl) (by kernel_rfl) (fun _ _ _ h => h) (Or.inl ⟨by rfl, ?_⟩) hHeld ?_
  case refine_2 => (intro w hSw; (try dsimp only at hSw); go_simp; all_goals (with_reducible rfl))
  (try simp only [Act.put]); (try simp only [List.setIfInBounds_toArray]); (try simp only [List.set_cons_succ]); (try simp only [List.set_cons_zero])
  refine wpAnyH_take (i := 8) (v := ?_) opAt8 (by kernel_rfl) (by kernel_rfl) (by kernel_rfl) (fun _ _ _ h => h) (Or.inl ⟨by rfl, ?_⟩) hHeld ?_
  case refine_2 => (intro w hSw; (try dsimp only at hSw); go_simp; all_goals (with_reducible rfl))
  (try simp only [Act.put]); (try simp only [List.setIfInBounds_toArray]); (try simp only [List.set_cons_succ]); (try simp only [List.set_cons_zero])
  refine wpAnyH_ready (rs := [4]) (by kernel_rfl) (by simp) ?_
  refine AllReadyH.cons opAt4 (fun K hK => ?_) AllReadyH.nil
  go_simp
  go_at_call 309; refine (C0.out _).mono ?_; rintro e w5 ⟨rfl, rfl⟩; dsimp only
  refine hK.out _ _ ?_ (fun hHeld => ?_)
  · exact hHeld
  clear hK K
  (try simp only [Act.put]); (try simp only [List.setIfInBounds_toArray]); (try simp only [List.set_cons_succ]); (try simp only [List.set_cons_zero])
  refine wpAnyH_ready (rs := [9]) (by kernel_rfl) (by simp) ?_
  refine AllReadyH.cons opAt9 (fun K hK => ?_) AllReadyH.nil
  go_simp
  go_at_call 309; refine (C1.out _).mono ?_; rintro e w6 ⟨rfl, rfl⟩; dsimp only
  refine hK.out _ _ ?_ (fun hHeld => ?_)
  · exact hHeld
  clear hK K
  (try simp only [Act.put]); (try simp only [List.setIfInBounds_toArray]); (try simp only [List.set_cons_succ]); (try simp only [List.set_cons_zero])
  refine wpAnyH_ready (rs := [10]) (by kernel_rfl) (by simp) ?_
  refine AllReadyH.cons opAt10 (fun K hK => ?_) AllReadyH.nil
  go_simp
  skip
  refine hK.out _ _ ?_ (fun hHeld => ?_)
  · exact ⟨(((Kept.refl (fun _ => False) W.drew).alloc (.cells #[.int .i64 c0, .int .i64 c1] 3))).cell hHeld.1 (fun f => f), (((Kept.refl (fun _ => False) W.drew).alloc (.cells #[.int .i64 c0, .int .i64 c1] 3))).cell hHeld.2.1 (fun f => f), (((Kept.refl (fun _ => False) W.drew).alloc (.cells #[.int .i64 c0, .int .i64 c1] 3))).cell hHeld.2.2.1 (fun f => f), (((Kept.refl (fun _ => False) W.drew).alloc (.cells #[.int .i64 c0, .int .i64 c1] 3))).cell hHeld.2.2.2 (fun f => f)⟩
  clear hK K
  (try simp only [Act.put]); (try simp only [List.setIfInBounds_toArray]); (try simp only [List.set_cons_succ]); (try simp only [List.set_cons_zero])
  refine wpAnyH_ready (rs := [11]) (by kernel_rfl) (by simp) ?_
  refine AllReadyH.cons opAt11 (fun K hK => ?_) AllReadyH.nil
  go_simp
  go_at_call 340; refine (or_two _ c0 c1 _ _ (by simp) (by simp)).mono ?_; rintro e w7 ⟨rfl, rfl⟩; dsimp only
  refine hK.out _ _ ?_ (fun hHeld => ?_)
  · exact hHeld
  clear hK K
  (try simp only [Act.put]); (try simp only [List.setIfInBounds_toArray]); (try simp only [List.set_cons_succ]); (try simp only [List.set_cons_zero])
  refine wpAnyH_take (i := 12) (v := ?_) opAt12 (by kernel_rfl) (by kernel_rfl) (by kernel_rfl) (fun _ _ _ h => h) (Or.inl ⟨by rfl, ?_⟩) hHeld ?_
  case refine_2 => (intro w hSw; (try dsimp only at hSw); go_simp; all_goals (with_reducible rfl))
  (try simp only [Act.put]); (try simp only [List.setIfInBounds_toArray]); (try simp only [List.set_cons_succ]); (try simp only [List.set_cons_zero])
  refine wpAnyH_done (by kernel_rfl) ?_ _
  go_wp2
  go_ret
  have E : (W.alloc (.cells #[.int .i64 c0, .int .i64 c1] 3)).drew = grow (w.drewN 1) (#[.cells #[.int .i64 x.tr, .int .i64 x.id, .int .i64 x.pa, .string x.se, .string x.ho, .int .i64 x.st, .int .i64 x.du, .string x.no] 35, .cells #[.int .i64 y.tr, .int .i64 y.id, .int .i64 y.pa, .string y.se, .string y.ho, .int .i64 y.st, .int .i64 y.du, .string y.no] 35] ++ #[.cells #[.int .i64 c0, .int .i64 c1] 3]) := by
    rw [GW.out, alloc_eq_grow]
    exact grow_grow (w.drewN 1) _ _
  exact ⟨rfl, 1, _, E⟩
end Go.Proofs.YtelhdbkkigehgaaGreatDoor

/- slices.SortFunc at spans, laid at this program: tables of numbers, a fact a field. (Printed by the kit's lay-plain.) -/
namespace Go.Proofs
open Go.Shelf
def Tryz.sortSp_ren : Go.Shelf.Ren := ⟨fun | 6 => 338 | 15 => 323 | 14 => 455 | 28 => 445 | 29 => 399 | 20 => 526 | 21 => 527 | 22 => 528 | 23 => 529 | 24 => 530 | 25 => 531 | 26 => 532 | 27 => 533 | 46 => 558 | 47 => 510 | 48 => 511 | 49 => 559 | 50 => 560 | 57 => 576 | n => n, fun | 22 => 59 | 24 => 35 | 25 => 443 | 3 => 3 | 39 => 267 | 0 => 0 | 53 => 385 | 55 => 376 | 4 => 4 | 46 => 530 | 45 => 529 | 50 => 83 | 5 => 5 | 9 => 9 | 66 => 593 | 70 => 334 | 76 => 636 | 77 => 343 | n => n, fun | n => n⟩
theorem Tryz.sortSp : Go.Proofs.SlLaysF0.n6 Tryz.prog Tryz.sortSp_ren := {
  mixed := by kernel_rfl
  f6 := ⟨Tryz.f338.name, by decide, Tryz.func338.trans (congrArg some (by kernel_rfl))⟩
  f14 := ⟨Tryz.f455.name, by decide, Tryz.func455.trans (congrArg some (by kernel_rfl))⟩
  f15 := Tryz.func323.trans (congrArg some (by kernel_rfl))
  f20 := ⟨Tryz.f526.name, by decide, Tryz.func526.trans (congrArg some (by kernel_rfl))⟩
  f21 := ⟨Tryz.f527.name, by decide, Tryz.func527.trans (congrArg some (by kernel_rfl))⟩
  f22 := ⟨Tryz.f528.name, by decide, Tryz.func528.trans (congrArg some (by kernel_rfl))⟩
  f23 := ⟨Tryz.f529.name, by decide, Tryz.func529.trans (congrArg some (by kernel_rfl))⟩
  f24 := ⟨Tryz.f530.name, by decide, Tryz.func530.trans (congrArg some (by kernel_rfl))⟩
  f25 := ⟨Tryz.f531.name, by decide, Tryz.func531.trans (congrArg some (by kernel_rfl))⟩
  f26 := ⟨Tryz.f532.name, by decide, Tryz.func532.trans (congrArg some (by kernel_rfl))⟩
  f27 := ⟨Tryz.f533.name, by decide, Tryz.func533.trans (congrArg some (by kernel_rfl))⟩
  f28 := Tryz.func445.trans (congrArg some (by kernel_rfl))
  f29 := Tryz.func399.trans (congrArg some (by kernel_rfl))
  f46 := ⟨Tryz.f558.name, by decide, Tryz.func558.trans (congrArg some (by kernel_rfl))⟩
  f47 := Tryz.func510.trans (congrArg some (by kernel_rfl))
  f48 := Tryz.func511.trans (congrArg some (by kernel_rfl))
  f49 := ⟨Tryz.f559.name, by decide, Tryz.func559.trans (congrArg some (by kernel_rfl))⟩
  f50 := ⟨Tryz.f560.name, by decide, Tryz.func560.trans (congrArg some (by kernel_rfl))⟩
  f57 := ⟨Tryz.f576.name, by decide, Tryz.func576.trans (congrArg some (by kernel_rfl))⟩
  t0 := Tryz.underlying0
  a0 := Tryz.isAgg0
  z0 := Tryz.sizeOf0
  v0 := Tryz.zeroValue0
  t3 := Tryz.underlying3
  a3 := Tryz.isAgg3
  z3 := Tryz.sizeOf3
  v3 := Tryz.zeroValue3
  t4 := Tryz.underlying4
  a4 := Tryz.isAgg4
  z4 := Tryz.sizeOf4
  v4 := Tryz.zeroValue4
  t5 := Tryz.underlying5
  a5 := Tryz.isAgg5
  z5 := Tryz.sizeOf5
  v5 := Tryz.zeroValue5
  t9 := Tryz.underlying9
  a9 := Tryz.isAgg9
  z9 := Tryz.sizeOf9
  v9 := Tryz.zeroValue9
  t22 := Tryz.underlying59
  a22 := Tryz.isAgg59
  z22 := Tryz.sizeOf59
  v22 := Tryz.zeroValue59
  t25 := Tryz.underlying443
  a25 := Tryz.isAgg443
  z25 := Tryz.sizeOf443
  v25 := Tryz.zeroValue443
  t39 := Tryz.underlying267
  a39 := Tryz.isAgg267
  z39 := Tryz.sizeOf267
  v39 := Tryz.zeroValue267
  t45 := Tryz.underlying529
  a45 := Tryz.isAgg529
  z45 := Tryz.sizeOf529
  v45 := Tryz.zeroValue529
  t46 := Tryz.underlying530
  a46 := Tryz.isAgg530
  z46 := Tryz.sizeOf530
  v46 := Tryz.zeroValue530
  t50 := Tryz.underlying83
  a50 := Tryz.isAgg83
  z50 := Tryz.sizeOf83
  v50 := Tryz.zeroValue83
  t53 := Tryz.underlying385
  a53 := Tryz.isAgg385
  z53 := Tryz.sizeOf385
  v53 := Tryz.zeroValue385
  t55 := Tryz.underlying376
  a55 := Tryz.isAgg376
  z55 := Tryz.sizeOf376
  v55 := Tryz.zeroValue376
  t66 := Tryz.underlying593
  a66 := Tryz.isAgg593
  z66 := Tryz.sizeOf593
  v66 := Tryz.zeroValue593
  t70 := Tryz.underlying334
  a70 := Tryz.isAgg334
  z70 := Tryz.sizeOf334
  v70 := Tryz.zeroValue334
  t76 := Tryz.underlying636
  a76 := Tryz.isAgg636
  z76 := Tryz.sizeOf636
  v76 := Tryz.zeroValue636
  t77 := Tryz.underlying343
  a77 := Tryz.isAgg343
  z77 := Tryz.sizeOf343
  v77 := Tryz.zeroValue343 }
end Go.Proofs

/- Printed by port_model.py out of the Model seat. -/
namespace Go.Proofs.YtelhdbkkigehgaaGreatDoor
open Go.RowKit Go.Shelf Go.Lib Go.Sort

def keyLt (x y : Spn) : Prop := x.tr < y.tr ∨ x.tr = y.tr ∧ x.id < y.id
instance (x y : Spn) : Decidable (keyLt x y) := by unfold keyLt; infer_instance
theorem lt_cmpS (x y : Spn) : ltOf cmpS x y = decide (keyLt x y) := by
  have h : cmpS x y < 0 ↔ keyLt x y := by
    unfold cmpS orI cmpI keyLt
    (repeat' split) <;> omega
  unfold ltOf
  exact decide_eq_decide.2 h
theorem swoS : SWO (ltOf cmpS) where
  irrefl x := by rw [lt_cmpS, decide_eq_false_iff_not]; unfold keyLt; omega
  trans x y z h1 h2 := by rw [lt_cmpS, decide_eq_true_eq] at h1 h2 ⊢; unfold keyLt at *; omega
  ntrans x y z h1 h2 := by rw [lt_cmpS, decide_eq_false_iff_not] at h1 h2 ⊢; unfold keyLt at *; omega
/-- No later one comes ahead of an earlier one. -/
def SortedS (L : List Spn) : Prop := L.Pairwise (fun x y => ¬ keyLt y x)
theorem sorted_of_in {d : Array Spn} (h : SortedIn (ltOf cmpS) 0 d.size d) : SortedS d.toList := by
  unfold SortedS
  rw [List.pairwise_iff_getElem]
  intro i j hi hj hij
  have := h i j (Nat.zero_le _) hij (by simpa using hj)
  rw [lt_cmpS] at this
  have hi' : i < d.size := by simpa using hi
  have hj' : j < d.size := by simpa using hj
  rw [getElem!_pos d i hi', getElem!_pos d j hj'] at this
  simpa using this
theorem perm_of_in {d d' : Array Spn} (h : PermIn 0 d.size d d') : d'.toList.Perm d.toList := by
  obtain ⟨hs, _, hp⟩ := h
  have e1 : d.extract 0 d.size = d := by simp
  have e2 : d'.extract 0 d.size = d' := by rw [← hs]; simp
  rwa [e1, e2] at hp
theorem agg37 (w : World) : (isAgg 35).run Tryz.prog w = .ok true w := by kernel_rfl
theorem size37 (w : World) : (Go.sizeOf 35).run Tryz.prog w = .ok 8 w := by kernel_rfl
theorem flat_at (d : List Spn) (j : Nat) (h : j < d.length * 8) : (cellsS d)[j]? = some (flatK Spn.cells 8 d.toArray)[j]! := by
  rw [get_flatK _ _ _ _ (by simpa using h)]
  have hq : j / 8 < d.length := by omega
  have hm : d[j / 8]? = some d[j / 8] := List.getElem?_eq_getElem hq
  have hr : j % 8 < 8 := Nat.mod_lt _ (by omega)
  have h1 := cellsS_at d (j / 8) _ hm (j % 8) hr
  rw [show j / 8 * 8 + j % 8 = j by omega] at h1
  rw [h1]
  have h2 : (d.toArray)[j / 8]! = d[j / 8] := by
    rw [getElem!_pos d.toArray (j / 8) (by simpa using hq)]; simp
  rw [h2]
  have hl : j % 8 < (d[j / 8].cells).length := hr
  rw [List.getElem?_eq_getElem hl]
  rw [getElem!_pos (d[j / 8].cells) (j % 8) hl]
/-- A row that lies at the head of a block of its own. -/
theorem own_of_reads {w : World} {base g cap : Nat} {cur : Array Value} {d : List Spn} (hb : base ≤ g) (hg : w.heap[g]? = some (.cells cur 35 (0, 0))) (hn : d.length ≤ cap) (hm : cap ≤ maxLen) (hs : cur.size = cap * 8) (hc : ∀ j u, (cellsS d)[j]? = some u → w.cell? ⟨g, j, none⟩ = some u) :
    w.ownsRow base 35 8 (.slice (some ⟨g, 0, none⟩) d.length cap) d.length (cellsS d) := by
  refine ⟨cellsS_length d, .inr ⟨g, cap, cur, rfl, hb, hg, hn, hm, hs, ?_⟩⟩
  apply List.ext_getElem?
  intro j
  rw [List.getElem?_take]
  split
  · rename_i hj
    have hl : j < (cellsS d).length := by rw [cellsS_length]; exact hj
    have h := hc j _ (List.getElem?_eq_getElem hl)
    rw [List.getElem?_eq_getElem hl, ← h]
    simp [World.cell?, hg]
  · rename_i hj
    rw [List.getElem?_eq_none (by rw [cellsS_length]; omega)]
theorem sort_own {w : World} {base : Nat} {v : Value} {d : List Spn} (h : w.ownsRow base 35 8 v d.length (cellsS d)) (hl : d.length < 4611686018427387904) :
    Calls Tryz.prog 338 #[v, .func (.func 339) #[] #[]] w fun e w' => e = .returned (.tuple #[]) ∧ Kept (fun k => v.ownBlock = some k) w w' ∧ ∃ d' : List Spn, d'.Perm d ∧ SortedS d' ∧ w'.ownsRow base 35 8 v d'.length (cellsS d') := by
  have hcells := h
  obtain ⟨hlen, h2⟩ := h
  cases d with
  | nil =>
    have hv : ∃ p c, v = .slice p 0 c := by
      rcases h2 with ⟨rfl, _⟩ | ⟨g, cap, cur, rfl, _⟩
      · exact ⟨none, 0, rfl⟩
      · exact ⟨_, cap, rfl⟩
    obtain ⟨p, c, rfl⟩ := hv
    have hc := AnyF.slices_SortFunc_none (P := Tryz.prog) Tryz.sortSp p c (.func (.func 339) #[] #[]) w
    change Calls Tryz.prog 338 _ _ _ at hc
    exact hc.mono fun e w' ⟨he, hw⟩ => by
      subst hw
      exact ⟨he, Kept.refl _ _, [], List.Perm.refl _, List.Pairwise.nil, hcells⟩
  | cons m t =>
    rcases h2 with ⟨_, h0⟩ | ⟨g, cap, cur, rfl, hb, hg, hcap, hmax, hcur, htake⟩
    · simp at h0
    · have hcell := fun j u hu => hcells.cells (g := g) rfl j u hu
      have hblk : g < w.heap.size := (Array.getElem?_eq_some_iff.1 hg).1
      have hH : HoldsK Spn.cells 8 w g 0 (m :: t).toArray := by
        intro j hj
        have hj' : j < (m :: t).length * 8 := by simpa [size_flatK] using hj
        refine ⟨?_, ?_⟩
        · have := hcell j _ (flat_at (m :: t) j hj')
          rw [add_mid] at this
          exact this
        · unfold World.frozen?
          simp [hg]
      have hs8 : (m :: t).toArray.size = (m :: t).length := by simp
      have hc := AnyQ.slices_SortFunc (P := Tryz.prog) Tryz.sortSp 8 agg37 size37 Spn.cells (fun _ => rfl) (fun x u hu => by simp [Spn.cells] at hu; rcases hu with rfl | rfl | rfl | rfl | rfl | rfl | rfl | rfl <;> rfl) cmpS swoS 339 #[] g 0 cap (m :: t).toArray w (enters_of Tryz.func339 (by kernel_rfl) rfl) (fun _ _ _ _ x y => closure_all x y _) hH hblk (by rw [hs8]; exact hl)
      change Calls Tryz.prog 338 _ _ _ at hc
      rw [hs8] at hc
      exact hc.mono fun e w' ⟨he, d', n, os, hp, hsd, hw⟩ => by
        have hsz : d'.size = (m :: t).toArray.size := hp.1
        have hlt : (sortWorldK Spn.cells 8 w g 0 n d' os).heap.size ≥ w.heap.size := by
          unfold sortWorldK; rw [size_grow]; unfold putRowK; rw [size_putRow]; exact Nat.le_add_right _ _
        have hho := holdsK_sortWorldK Spn.cells 8 w g 0 n (m :: t).toArray d' os hblk hH hsz
        subst hw
        refine ⟨he, ⟨rfl, rfl, rfl, hlt, fun k hk hne => ?_⟩, d'.toList, ?_, ?_, ?_⟩
        · have hkg : g ≠ k := fun e => hne (by rw [← e]; rfl)
          unfold sortWorldK grow
          simp only
          rw [Array.getElem?_append_left (by unfold putRowK; rw [size_putRow]; exact hk)]
          unfold putRowK putRow mapBlock
          simp only
          rw [Array.getElem?_modify]
          simp only [hkg, if_false]
          rfl
        · have := perm_of_in (d := (m :: t).toArray) (by rw [hs8]; exact hp)
          simpa using this
        · exact sorted_of_in (by rw [hsz, hs8]; exact hsd)
        · have hgw : (sortWorldK Spn.cells 8 w g 0 n d' os).heap[g]? = some (.cells (putCells id 0 (flatK Spn.cells 8 d') cur) 35 (0, 0)) := by
            unfold sortWorldK grow
            simp only
            rw [Array.getElem?_append_left (by unfold putRowK; rw [size_putRow]; exact hblk)]
            unfold putRowK putRow mapBlock
            simp only
            rw [Array.getElem?_modify]
            simp only [if_true]
            have : (Sort.ahead w n).heap[g]? = some (.cells cur 35 (0, 0)) := hg
            rw [this]
            rfl
          have hln : d'.toList.length = (m :: t).length := by simp [hsz]
          have := own_of_reads (d := d'.toList) hb hgw (by rw [hln]; exact hcap) hmax (by simp only [putCells, Array.size_mapIdx]; exact hcur) (fun j u hu => by
            have hj : j < d'.toList.length * 8 := by rw [← cellsS_length]; exact (List.getElem?_eq_some_iff.1 hu).1
            have h3 := flat_at d'.toList j hj
            rw [hu] at h3
            have h4 := (hho j (by rw [size_flatK]; simpa using hj)).1
            rw [Nat.zero_add] at h4
            rw [h4]
            simp at h3
            simp [h3])
          rw [hln] at this ⊢
          exact this
end Go.Proofs.YtelhdbkkigehgaaGreatDoor

/- Printed by port_model.py out of the Model seat. -/
namespace Go.Proofs.YtelhdbkkigehgaaGreatDoor
open Go.RowKit Go.MapKept Go.Instr Go.ChangeMaps

/-- The spans whose numbers are not among these. -/
def leftS (seen : Array Nat) : Nat → List Spn → List Spn
  | _, [] => []
  | n, m :: t => if seen.contains n = true then leftS seen (n + 1) t else m :: leftS seen (n + 1) t
theorem left_push_old (seen : Array Nat) (b : Nat) : ∀ (M : List Spn) (n : Nat), b < n → leftS (seen.push b) n M = leftS seen n M
  | [], n, _ => rfl
  | m :: t, n, h => by
    have e : (seen.push b).contains n = seen.contains n := by
      rw [contains_push]; have : (n == b) = false := by simp; omega
      rw [this, Bool.or_false]
    rw [leftS, leftS, e, left_push_old seen b t (n + 1) (by omega)]
theorem left_perm (seen : Array Nat) : ∀ (M : List Spn) (n i : Nat) (m : Spn), M[i]? = some m → seen.contains (n + i) = false → (m :: leftS (seen.push (n + i)) n M).Perm (leftS seen n M)
  | [], n, i, m, h, _ => by simp at h
  | a :: t, n, 0, m, h, hs => by
    simp at h; subst h
    have e1 : seen.contains n = false := hs
    have e2 : (seen.push n).contains n = true := by rw [contains_push]; simp
    rw [leftS, leftS, Nat.add_zero, e1, e2, if_pos rfl, if_neg (by simp), left_push_old seen n t (n + 1) (by omega)]
  | a :: t, n, i + 1, m, h, hs => by
    have hn : n + (i + 1) = (n + 1) + i := by omega
    rw [hn] at hs ⊢
    have ih := left_perm seen t (n + 1) i m (by simpa using h) hs
    have e : (seen.push (n + 1 + i)).contains n = seen.contains n := by
      rw [contains_push]; have : (n == n + 1 + i) = false := by simp; omega
      rw [this, Bool.or_false]
    rw [leftS, leftS, e]
    cases hc : seen.contains n with
    | true => rw [if_pos rfl, if_pos rfl]; exact ih
    | false =>
      rw [if_neg (by simp), if_neg (by simp)]
      exact (List.Perm.swap a m _).trans (ih.cons a)
theorem left_all (seen : Array Nat) : ∀ (M : List Spn) (n : Nat), (∀ i, i < M.length → seen.contains (n + i) = true) → leftS seen n M = []
  | [], n, _ => rfl
  | m :: t, n, h => by
    have h0 := h 0 (by simp)
    rw [Nat.add_zero] at h0
    rw [leftS, if_pos h0]
    exact left_all seen t (n + 1) (fun i hi => by have := h (i + 1) (by simp; omega); rwa [show n + (i + 1) = n + 1 + i by omega] at this)
theorem left_none : ∀ (M : List Spn) (n : Nat), leftS #[] n M = M
  | [], n => rfl
  | m :: t, n => by rw [leftS, if_neg (by simp), left_none t (n + 1)]
abbrev entM (M : List Spn) : Array MapEntry := (entsL 0 (kvM M)).toArray
theorem entM_at (M : List Spn) (i : Nat) : (entM M)[i]? = (M[i]?).map (fun m => ⟨keyV (keyOf m), aggS m, i⟩) := by
  simp [entM, entsL_at, kvM]
  cases M[i]? <;> simp
theorem mem_entM {M : List Spn} {e : MapEntry} (h : e ∈ (entM M).toList) : ∃ i m, M[i]? = some m ∧ e = ⟨keyV (keyOf m), aggS m, i⟩ := by
  obtain ⟨i, hi⟩ := List.mem_iff_getElem?.1 h
  have : (entM M)[i]? = some e := by simpa using hi
  rw [entM_at] at this
  cases hm : M[i]? with
  | none => simp [hm] at this
  | some m => simp [hm] at this; exact ⟨i, m, hm, this.symm⟩
theorem born_list : ∀ (L : List KV) (n : Nat), (entsL n L).map (·.born) = List.range' n L.length
  | [], n => rfl
  | p :: t, n => by simp [entsL, born_list t (n + 1), List.range'_succ]
theorem born_once (M : List Spn) : ((entM M).toList.map (·.born)).Nodup := by
  simp [born_list]; exact List.nodup_range'
theorem done_left {M : List Spn} {seen : Array Nat} (h : (leftOf (entM M) seen).size = 0) : leftS seen 0 M = [] := by
  refine left_all seen M 0 (fun i hi => ?_)
  have hm : M[i]? = some M[i] := List.getElem?_eq_getElem hi
  have he : (entM M)[i]? = some ⟨keyV (keyOf M[i]), aggS M[i], i⟩ := by rw [entM_at, hm]; rfl
  have := all_seen (entM M) seen h _ (List.mem_iff_getElem?.2 ⟨i, by simpa using he⟩)
  simpa using this
def liveF (now : Int) (L : List Spn) : List Spn := L.filter (fun m => !lateB m.st now)
theorem live_late {now : Int} {V : List Spn} {m : Spn} (h : lateB m.st now = true) : liveF now (V ++ [m]) = liveF now V := by
  unfold liveF; simp [h]
theorem live_live {now : Int} {V : List Spn} {m : Spn} (h : lateB m.st now = false) : liveF now (V ++ [m]) = liveF now V ++ [m] := by
  unfold liveF; simp [h]
theorem own_kept {S : Nat → Prop} {w w' : World} {base e size : Nat} {v : Value} {n : Nat} {xs : List Value} (h : w.ownsRow base e size v n xs) (hK : Kept S w w') (hv : ∀ b, v.ownBlock = some b → ¬ S b) : w'.ownsRow base e size v n xs := by
  obtain ⟨h1, h2⟩ := h
  refine ⟨h1, ?_⟩
  rcases h2 with h2 | ⟨g, cap, cur, rfl, hb, hg, rest⟩
  · exact .inl h2
  · exact .inr ⟨g, cap, cur, rfl, hb, (hK.block g (Array.getElem?_eq_some_iff.1 hg).1 (hv g rfl)).trans hg, rest⟩
theorem own_from {w : World} {base e size : Nat} {v : Value} {n : Nat} {xs : List Value} (h : w.ownsRow base e size v n xs) {q : Nat} (hq : v.ownBlock = some q) : base ≤ q := by
  rcases h.2 with ⟨rfl, _⟩ | ⟨g, cap, cur, rfl, hb, _⟩
  · cases hq
  · cases hq; exact hb
theorem own_slice {w : World} {base e size : Nat} {v : Value} {n : Nat} {xs : List Value} (h : w.ownsRow base e size v n xs) : ∃ a c, v = .slice a n c := by
  rcases row_form h with ⟨h1, h2⟩ | ⟨g, c, h1, _⟩
  · exact ⟨none, 0, by rw [h1, h2]⟩
  · exact ⟨_, _, h1⟩

set_option maxHeartbeats 8000000 in
set_option maxRecDepth 100000 in
theorem spans_all {w : World} {p po b : Nat} {M : List Spn} (now : Int) (h1 : 0 ≤ now) (h2 : now ≤ 4294967296) (h : ModelAt w p po b M) (hM : M.length ≤ 1000000000) :
    Calls Tryz.prog 226 #[.pointer (some ⟨p, po, none⟩), .int .i64 now] w fun e w' => Kept (fun _ => False) w w' ∧ ∃ v R, e = .returned v ∧ w'.ownsRow (w.heap.size + 1) 35 8 v R.length (cellsS R) ∧ R.Perm (liveF now M) ∧ SortedS R := by
  obtain ⟨i0, hi0, hz0, hz1, hz2⟩ := info_parts inf37
  have N := Lib.hid (none_not p po b w h.cell)
  have hmap : w.heap[b]? = some (.map (entM M) M.length) := by
    have := h.map
    have hk : (kvM M).length = M.length := by simp [kvM]
    unfold MapIs at this
    rwa [hk] at this
  have R := run_range_map (P := Tryz.prog) w 436 440 35 b (entM M) M.length u68 hmap
  have hc := h.cell
  have HM := Lib.hid hmap
  have HL := Lib.hid h.map.lt
  have MAY := Lib.hid h.may
  have HS := Lib.hid hM
  obtain ⟨es, hes⟩ : ∃ es, entM M = es := ⟨_, rfl⟩
  have ES := Lib.hid hes
  rw [hes] at HM
  clear h hmap hM hes
  go_enter Tryz.func226, Tryz.ntmps226
  go_wp2_with (go_at_call 337; refine N.out.mono ?_; rintro e w4 ⟨rfl, rfl⟩)
  clear R hc
  go_loopg [5] (leftOf es #[]).size (fun gh s wr => ∃ (seen : Array Nat) (V : List Spn), gh = (leftOf es seen).size ∧ (∃ ao cap, s = .slice ao (liveF now V).length cap) ∧ wr.ownsRow (w.heap.size + 1) 35 8 s (liveF now V).length (cellsS (liveF now V)) ∧ (V ++ leftS seen 0 M).Perm M ∧ wr.heap[w.heap.size]? = some (.mapIter (some b) M.length seen M.length) ∧ Kept (fun _ => False) w wr)
  case atStart =>
    exact ⟨#[], [], rfl, ⟨none, 0, rfl⟩, World.ownsRow_nil _ _ _ _, by rw [left_none]; exact List.Perm.refl _, heap_alloc_new w _, (Kept.refl _ w).alloc _⟩
  case round =>
    obtain ⟨seen, V, hgk, ⟨ao, cap, rfl⟩, ho, hp, hr, kw⟩ := hrel
    have GK := Lib.hid hgk
    have OW := Lib.hid ho
    have PE := Lib.hid hp
    have hb := (kw.block b HL.out (fun f => f)).trans HM.out
    have KW := Lib.hid kw
    have hlen : (liveF now V).length ≤ 1000000000 := by
      have e1 := List.length_filter_le (fun m : Spn => !lateB m.st now) V
      have e2 := hp.length_eq
      rw [List.length_append] at e2
      have := HS.out
      unfold liveF; omega
    clear hgk ho hp
    have hold : ∀ x ∈ es.toList, x.born < M.length := fun x hx => by
      rw [← ES.out] at hx
      obtain ⟨i, m, hm, rfl⟩ := mem_entM hx
      exact (List.getElem?_eq_some_iff.1 hm).1
    rcases run_next_at (P := Tryz.prog) wr 0 w.heap.size b M.length M.length seen es M.length hr hb hold (Nat.le_refl _) with ⟨hl, n1⟩ | ⟨e, he, w1, hw1, n1⟩
    · have hnil : leftS seen 0 M = [] := done_left (by rw [ES.out]; exact hl)
      have SO := Lib.hid (sort_own OW.out (by omega))
      have PV := Lib.hid (show (liveF now V).Perm (liveF now M) from by
        have := PE.out
        rw [hnil, List.append_nil] at this
        exact this.filter _)
      clear hr hb hold hl hnil
      go_wp2_with fail
      refine SO.out.mono ?_
      rintro e w4 ⟨rfl, k4, d', pd, sd, rd⟩
      have K4 := Lib.hid (KW.out.trans k4 (fun _ _ f => f) (fun q hq hs => by have := own_from OW.out hs; omega) : Kept (fun _ => False) w w4)
      have F := Lib.hid (And.intro pd (And.intro sd rd))
      clear k4 pd sd rd
      go_wp2
      go_ret
      exact ⟨K4.out, _, d', rfl, F.out.2.2, F.out.1.trans PV.out, F.out.2.1⟩
    · obtain ⟨hes2, hun⟩ := mem_left he
      have HSH := Lib.hid (left_shrinks es seen e he)
      have hes3 := hes2
      rw [← ES.out] at hes3
      obtain ⟨i, m, hm, hem⟩ := mem_entM hes3
      have eb : e.born = i := by rw [hem]
      have ek : e.key = .agg #[.int .i64 m.tr, .int .i64 m.id] := by rw [hem]; rfl
      have ev : e.val = aggS m := by rw [hem]
      rw [eb] at hun HSH n1
      rw [ek, ev] at n1
      have PE2 := Lib.hid (show ((V ++ [m]) ++ leftS (seen.push i) 0 M).Perm M from by
        have := left_perm seen M 0 i m hm (by rw [Nat.zero_add]; exact hun)
        rw [Nat.zero_add] at this
        rw [List.append_assoc]
        exact (List.Perm.append_left V this).trans PE.out)
      have kr : Kept (fun _ => False) wr w1 := by rcases hw1 with rfl | rfl
                                                  · exact Kept.refl _ _
                                                  · exact (Kept.refl _ _).drew
      have hr1 : w1.heap[w.heap.size]? = some (.mapIter (some b) M.length seen M.length) := (kr.block _ (Array.getElem?_eq_some_iff.1 hr).1 (fun f => f)).trans hr
      obtain ⟨W2, hW2⟩ : ∃ W2, setBlock w1 w.heap.size (.mapIter (some b) M.length (seen.push i) M.length) = W2 := ⟨_, rfl⟩
      rw [hW2] at n1
      have k2 : Kept (fun k => k = w.heap.size) w1 W2 := by rw [← hW2]; exact kept_setBlock (S := fun k => k = _) (Kept.refl _ _) (fun _ => rfl) _
      have hr2 : W2.heap[w.heap.size]? = some (.mapIter (some b) M.length (seen.push i) M.length) := by rw [← hW2]; exact set_same _ (Array.getElem?_eq_some_iff.1 hr1).1
      have OW2 := Lib.hid (own_kept (own_kept OW.out kr (fun _ _ f => f)) k2 (fun q hq hs => by have := own_from OW.out hq; omega))
      have KW2 := Lib.hid ((KW.out.trans kr (fun _ _ f => f) (fun _ _ f => f)).trans k2 (fun _ _ f => f) (fun q hq hs => by omega) : Kept (fun _ => False) w W2)
      have hb2 := (KW2.out.block b HL.out (fun f => f)).trans HM.out
      have n2 := run_entry_at (P := Tryz.prog) W2 w.heap.size b M.length seen es M.length e (by rw [eb]; exact hr2) hb2 hes2 (by rw [← ES.out]; exact born_once M)
      rw [ek, ev] at n2
      unfold aggS at n1 n2
      have R2 := Lib.hid hr2
      have num := (chk_num (MAY.out m (List.mem_of_getElem? hm))).2.2.2.1
      have E := Lib.hid (expired_all m now num.1 num.2 h1 h2)
      obtain ⟨be, hbe⟩ : ∃ c, lateB m.st now = c := ⟨_, rfl⟩
      rw [hbe] at E
      have BE := Lib.hid hbe
      clear hw1 kr hr1 hW2 k2 hr2 hb2 hes2 hes3 hun hm hem eb ek ev hr hb hold num hbe he
      go_wp2_with fail
      refine (E.out _).mono ?_
      rintro e4 w4 ⟨rfl, k4⟩
      have KA := Lib.hid (((Kept.refl (fun _ => False) W2).alloc _).trans k4 (fun _ _ f => f) (fun _ _ f => f) : Kept (fun _ => False) W2 w4)
      have c4 : SpanAt w4 W2.heap.size m := (SpanAt.new (w := W2) (m := m)).keptF k4
      clear k4
      cases be with
      | true =>
        have K5 := Lib.hid (KW2.out.trans KA.out (fun _ _ f => f) (fun _ _ f => f) : Kept (fun _ => False) w w4)
        have R5 := Lib.hid ((KA.out.block _ (Array.getElem?_eq_some_iff.1 R2.out).1 (fun f => f)).trans R2.out)
        have O5 := Lib.hid (own_kept OW2.out KA.out (fun _ _ f => f))
        clear c4
        go_wp2
        go_roundg (leftOf es (seen.push i)).size
        case measure => rw [GK.out]; exact HSH.out
        case rel =>
          have e := live_late (V := V) BE.out
          exact ⟨seen.push i, V ++ [m], rfl, ⟨ao, cap, by rw [e]⟩, by rw [e]; exact O5.out, PE2.out, R5.out, K5.out⟩
      | false =>
        have q0 := c4 0 _ rfl
        have q1 := c4 1 _ rfl
        have q2 := c4 2 _ rfl
        have q3 := c4 3 _ rfl
        have q4 := c4 4 _ rfl
        have q5 := c4 5 _ rfl
        have q6 := c4 6 _ rfl
        have q7 := c4 7 _ rfl
        have O5 := Lib.hid (own_kept OW2.out KA.out (fun _ _ f => f))
        have s5 : w.heap.size + 1 ≤ w4.heap.size := by
          have e1 := (Array.getElem?_eq_some_iff.1 R2.out).1
          have := KA.out.size
          omega
        obtain ⟨n, hn⟩ : ∃ n, (liveF now V).length = n := ⟨_, rfl⟩
        have LN := Lib.hid hn
        rw [hn] at O5 hlen ⊢
        clear c4 hn
        go_wp2_with (at_builtin; refine wpList_append_own _ rfl _ _ 59 rfl (w.heap.size + 1) 35 i0 _ 8 88 Tryz.underlying59 hi0 hz0 hz1 hz2 rfl (by decide) _ _ _ rfl (own_kept O5.out ((Kept.refl (fun _ => False) w4).alloc _) (fun _ _ f => f)) ⟨w4.heap.size, 0, none⟩ 1 1 m.cells rfl rfl (World.news_of_block (heap_alloc_new w4 _)) ?qa ?qb ?qc ?qd ?_)
        case qa => intro u hu; simp [Spn.cells] at hu; rcases hu with rfl | rfl | rfl | rfl | rfl | rfl | rfl | rfl <;> rfl
        case qb => unfold maxLen; omega
        case qc => omega
        case qd => simp; omega
        intro v' w5 hown hgrow hnil
        have K6 := Lib.hid ((((KW2.out.trans KA.out (fun _ _ f => f) (fun _ _ f => f)).alloc (Obj.cells #[.int .i64 m.tr, .int .i64 m.id, .int .i64 m.pa, .string m.se, .string m.ho, .int .i64 m.st, .int .i64 m.du, .string m.no] 35)) : Kept (fun _ => False) w _).grown hgrow (fun k hk hlt => by have := own_from O5.out hk; omega))
        have R6 := Lib.hid (show w5.heap[w.heap.size]? = some (.mapIter (some b) M.length (seen.push i) M.length) from by
          have hl : w.heap.size < w4.heap.size := by omega
          rw [hgrow.block _ (by simp; omega) (fun hk => by have := own_from O5.out hk.symm; omega), ((Kept.refl (fun _ => False) w4).alloc _).block _ hl (fun f => f), KA.out.block _ (Array.getElem?_eq_some_iff.1 R2.out).1 (fun f => f)]
          exact R2.out)
        have O6 := Lib.hid hown
        obtain ⟨ao2, cap2, rfl⟩ := own_slice hown
        clear hown hgrow hnil q0 q1 q2 q3 q4 q5 q6 q7
        go_wp2
        go_roundg (leftOf es (seen.push i)).size
        case measure => rw [GK.out]; exact HSH.out
        case rel =>
          have e := live_live (V := V) BE.out
          have e2 : (liveF now V ++ [m]).length = n + 1 := by rw [List.length_append, LN.out]; rfl
          have e3 : cellsS (liveF now V ++ [m]) = cellsS (liveF now V) ++ m.cells := by rw [cellsS_append]; simp [cellsS]
          exact ⟨seen.push i, V ++ [m], rfl, ⟨ao2, cap2, by rw [e, e2]⟩, by rw [e, e2, e3]; exact O6.out, PE2.out, R6.out, K6.out⟩
end Go.Proofs.YtelhdbkkigehgaaGreatDoor

/- Spans as the evaluator's values. -/
namespace Go.Proofs.YtelhdbkkigehgaaGreatDoor
open Go.RowKit Go.Eng

structure SV where
  tr : Nat
  id : Nat
  pa : Nat
  se : List Nat
  ho : List Nat
  st : Nat
  du : Nat
  no : List Nat
noncomputable section
def SV.spn (s : SV) : Spn := ⟨(s.tr : Int), (s.id : Int), (s.pa : Int), bs s.se, bs s.ho, (s.st : Int), (s.du : Int), bs s.no⟩
def SV.cells (s : SV) : List AV := [.int .i64 (.ofNat s.tr), .int .i64 (.ofNat s.id), .int .i64 (.ofNat s.pa), .str s.se, .str s.ho, .int .i64 (.ofNat s.st), .int .i64 (.ofNat s.du), .str s.no]
def svC (a b c d e f g i : AV) : Option SV := match a, b, c, d, e, f, g, i with
  | .int .i64 (.ofNat tr), .int .i64 (.ofNat id), .int .i64 (.ofNat pa), .str se, .str ho, .int .i64 (.ofNat st), .int .i64 (.ofNat du), .str no => some ⟨tr, id, pa, se, ho, st, du, no⟩
  | _, _, _, _, _, _, _, _ => none
def rowSV : List AV → Option (List SV)
  | [] => some []
  | a :: b :: c :: d :: e :: f :: g :: i :: l => (svC a b c d e f g i).bind fun s => (rowSV l).map (s :: ·)
  | _ => none
def cellsV : List SV → List AV
  | [] => []
  | s :: l => s.cells ++ cellsV l
/-- The spans of a model's map, which were laid into it one by one. -/
def esSV : List (AV × AV × Nat) → Nat → Option (List SV)
  | [], _ => some []
  | (k, v, b) :: es, n => match k, v with
    | .agg [.int .i64 (.ofNat x), .int .i64 (.ofNat y)], .agg l => (rowSV l).bind fun r => match r with
      | [s] => bif Nat.beq b n && (Nat.beq x s.tr && Nat.beq y s.id) then (esSV es (n + 1)).map (s :: ·) else none
      | _ => none
    | _, _ => none
def entV : List SV → Nat → List (AV × AV × Nat)
  | [], _ => []
  | s :: l, n => (.agg [.int .i64 (.ofNat s.tr), .int .i64 (.ofNat s.id)], .agg s.cells, n) :: entV l (n + 1)
def freshV (now : Nat) (s : SV) : Bool := chkB s.spn && !lateB s.spn.st (now : Int)
def allV (p : SV → Bool) : List SV → Bool
  | [] => true
  | s :: l => p s && allV p l
def sameV (s t : SV) : Bool := Nat.beq s.tr t.tr && Nat.beq s.id t.id
def apartV : List SV → Bool
  | [] => true
  | s :: l => allV (fun t => !sameV s t) l && apartV l
/-- s comes ahead of t. -/
def aheadV (s t : SV) : Bool := Nat.blt s.tr t.tr || (Nat.beq s.tr t.tr && Nat.blt s.id t.id)
def insV (s : SV) : List SV → List SV
  | [] => [s]
  | t :: l => bif aheadV s t then s :: t :: l else t :: insV s l
def sortV : List SV → List SV
  | [] => []
  | s :: l => insV s (sortV l)
def pairsV : List SV → Bool
  | [] => true
  | s :: l => allV (fun t => aheadV s t) l && pairsV l
end

theorem allV_iff {p : SV → Bool} : ∀ {l : List SV}, allV p l = true ↔ ∀ s ∈ l, p s = true
  | [] => by simp [allV]
  | s :: l => by simp [allV, allV_iff (l := l)]
theorem svC_some {a b c d e f g i : AV} {s : SV} (h : svC a b c d e f g i = some s) : [a, b, c, d, e, f, g, i] = s.cells := by
  unfold svC at h
  split at h
  · cases h; rfl
  · cases h
theorem rowSV_some : ∀ {l : List AV} {r : List SV}, rowSV l = some r → l = cellsV r
  | [], r, h => by simp [rowSV] at h; subst h; rfl
  | [_], _, h | [_, _], _, h | [_, _, _], _, h | [_, _, _, _], _, h | [_, _, _, _, _], _, h | [_, _, _, _, _, _], _, h | [_, _, _, _, _, _, _], _, h => by simp [rowSV] at h
  | a :: b :: c :: d :: e :: f :: g :: i :: l, r, h => by
    rw [rowSV, Option.bind_eq_some_iff] at h
    obtain ⟨s, h1, h2⟩ := h
    rw [Option.map_eq_some_iff] at h2
    obtain ⟨r', h2, rfl⟩ := h2
    rw [cellsV, ← rowSV_some h2, ← svC_some h1]
    rfl
theorem cells_conc {σ : Sig} {η : Env} {s : SV} {vs : List Value} : concs σ η s.cells = some vs ↔ (allB s.se = true ∧ allB s.ho = true ∧ allB s.no = true) ∧ vs = s.spn.cells := by
  unfold SV.cells Spn.cells SV.spn
  constructor
  · intro h
    obtain ⟨v0, r0, h0, g0, rfl⟩ := concs_cons.1 h
    obtain ⟨v1, r1, h1, g1, rfl⟩ := concs_cons.1 g0
    obtain ⟨v2, r2, h2, g2, rfl⟩ := concs_cons.1 g1
    obtain ⟨v3, r3, h3, g3, rfl⟩ := concs_cons.1 g2
    obtain ⟨v4, r4, h4, g4, rfl⟩ := concs_cons.1 g3
    obtain ⟨v5, r5, h5, g5, rfl⟩ := concs_cons.1 g4
    obtain ⟨v6, r6, h6, g6, rfl⟩ := concs_cons.1 g5
    obtain ⟨v7, r7, h7, g7, rfl⟩ := concs_cons.1 g6
    rw [concs_nil] at g7; cases g7
    rw [conc_int] at h0 h1 h2 h5 h6
    obtain ⟨a3, rfl⟩ := conc_str.1 h3
    obtain ⟨a4, rfl⟩ := conc_str.1 h4
    obtain ⟨a7, rfl⟩ := conc_str.1 h7
    subst h0 h1 h2 h5 h6
    exact ⟨⟨a3, a4, a7⟩, rfl⟩
  · rintro ⟨⟨a3, a4, a7⟩, rfl⟩
    exact concs_cons.2 ⟨_, _, conc_int.2 rfl, concs_cons.2 ⟨_, _, conc_int.2 rfl, concs_cons.2 ⟨_, _, conc_int.2 rfl, concs_cons.2 ⟨_, _, conc_str.2 ⟨a3, rfl⟩, concs_cons.2 ⟨_, _, conc_str.2 ⟨a4, rfl⟩, concs_cons.2 ⟨_, _, conc_int.2 rfl, concs_cons.2 ⟨_, _, conc_int.2 rfl, concs_cons.2 ⟨_, _, conc_str.2 ⟨a7, rfl⟩, concs_nil, rfl⟩, rfl⟩, rfl⟩, rfl⟩, rfl⟩, rfl⟩, rfl⟩, rfl⟩
def textsV (s : SV) : Prop := allB s.se = true ∧ allB s.ho = true ∧ allB s.no = true
theorem concs_split {σ : Sig} {η : Env} : ∀ {a b : List AV} {vs : List Value}, concs σ η (a ++ b) = some vs → ∃ x y, concs σ η a = some x ∧ concs σ η b = some y ∧ vs = x ++ y
  | [], b, vs, h => ⟨[], vs, rfl, h, rfl⟩
  | u :: a, b, vs, h => by
    obtain ⟨v, r, h1, h2, rfl⟩ := concs_cons.1 h
    obtain ⟨x, y, h3, h4, rfl⟩ := concs_split h2
    exact ⟨v :: x, y, concs_cons.2 ⟨v, x, h1, h3, rfl⟩, h4, rfl⟩
theorem rows_conc {σ : Sig} {η : Env} : ∀ {L : List SV} {vs : List Value}, concs σ η (cellsV L) = some vs ↔ (∀ s ∈ L, textsV s) ∧ vs = cellsS (L.map SV.spn)
  | [], vs => by simp [cellsV, cellsS, concs, eq_comm]
  | s :: L, vs => by
    rw [cellsV, List.map_cons, cellsS]
    constructor
    · intro h
      obtain ⟨x, y, h1, h2, rfl⟩ := concs_split h
      obtain ⟨t, rfl⟩ := cells_conc.1 h1
      obtain ⟨ts, rfl⟩ := rows_conc.1 h2
      exact ⟨fun z hz => by rcases List.mem_cons.1 hz with rfl | hz; exact t; exact ts z hz, rfl⟩
    · rintro ⟨t, rfl⟩
      exact concs_append (cells_conc.2 ⟨t s List.mem_cons_self, rfl⟩) (rows_conc.2 ⟨fun z hz => t z (List.mem_cons_of_mem _ hz), rfl⟩)
theorem cells_one : ∀ L : List Spn, allOne (cellsS L) = true
  | [] => rfl
  | m :: t => by
    have : allOne (m.cells ++ cellsS t) = (allOne m.cells && allOne (cellsS t)) := by
      have : ∀ a b : List Value, allOne (a ++ b) = (allOne a && allOne b) := by
        intro a b; induction a with
        | nil => simp [allOne]
        | cons x a ih => simp [allOne, ih, Bool.and_assoc]
      exact this _ _
    rw [cellsS, this, cells_one t]; rfl
theorem aggS_conc {σ : Sig} {η : Env} {s : SV} {v : Value} : conc σ η (.agg s.cells) = some v ↔ textsV s ∧ v = aggS s.spn := by
  rw [conc_agg]
  constructor
  · rintro ⟨vs, h, _, rfl⟩
    obtain ⟨t, rfl⟩ := cells_conc.1 h
    exact ⟨t, rfl⟩
  · rintro ⟨t, rfl⟩
    exact ⟨_, cells_conc.2 ⟨t, rfl⟩, rfl, rfl⟩
theorem key_conc {σ : Sig} {η : Env} {x y : Nat} {v : Value} : conc σ η (.agg [.int .i64 (.ofNat x), .int .i64 (.ofNat y)]) = some v ↔ v = keyV ((x : Int), (y : Int)) := by
  rw [conc_agg]
  constructor
  · rintro ⟨vs, h, _, rfl⟩
    obtain ⟨v0, r0, h0, g0, rfl⟩ := concs_cons.1 h
    obtain ⟨v1, r1, h1, g1, rfl⟩ := concs_cons.1 g0
    rw [concs_nil] at g1; cases g1
    rw [conc_int] at h0 h1
    subst h0 h1
    rfl
  · rintro rfl
    exact ⟨_, concs_cons.2 ⟨_, _, conc_int.2 rfl, concs_cons.2 ⟨_, _, conc_int.2 rfl, concs_nil, rfl⟩, rfl⟩, rfl, rfl⟩
theorem es_ents {σ : Sig} {η : Env} : ∀ {es : List (AV × AV × Nat)} {n : Nat} {M : List SV} {ms : List MapEntry}, esSV es n = some M → EsR σ η es ms → ms = entsL n (kvM (M.map SV.spn)) ∧ (∀ s ∈ M, textsV s) ∧ es = entV M n
  | [], _, _, [], h, _ => by simp [esSV] at h; subst h; exact ⟨rfl, by simp, rfl⟩
  | [], _, _, _ :: _, _, r => r.elim
  | _ :: _, _, _, [], _, r => by obtain ⟨_, _, _⟩ := ‹AV × AV × Nat›; exact r.elim
  | (k, v, b) :: es, n, M, e :: ms, h, ⟨r1, r2, r3, r4⟩ => by
    unfold esSV at h
    split at h
    rotate_left
    · cases h
    rename_i x y l
    rw [Option.bind_eq_some_iff] at h
    obtain ⟨r, hr, h⟩ := h
    split at h
    rotate_left
    · cases h
    rename_i s
    cases q : (Nat.beq b n && (Nat.beq x s.tr && Nat.beq y s.id)) with
    | false => rw [q] at h; cases h
    | true =>
    rw [q, cond_true, Option.map_eq_some_iff] at h
    rw [Bool.and_eq_true, Bool.and_eq_true] at q
    obtain ⟨M', h, rfl⟩ := h
    obtain ⟨i1, i2, i3⟩ := es_ents h r4
    have hl := rowSV_some hr
    rw [cellsV, cellsV, List.append_nil] at hl
    subst hl
    obtain ⟨t, ev⟩ := aggS_conc.1 r2
    have ek := key_conc.1 r1
    have b1 := Nat.eq_of_beq_eq_true q.1
    have b2 := Nat.eq_of_beq_eq_true q.2.1
    have b3 := Nat.eq_of_beq_eq_true q.2.2
    subst b1 b2 b3
    refine ⟨?_, fun z hz => ?_, by rw [entV, i3]⟩
    · have : e = ⟨keyV (keyOf s.spn), aggS s.spn, b⟩ := by cases e; simp only at ek ev r3; subst ek ev r3; rfl
      rw [this, i1]
      rfl
    · rcases List.mem_cons.1 hz with rfl | hz
      · exact t
      · exact i2 z hz
theorem ents_es {σ : Sig} {η : Env} : ∀ {M : List SV} {n : Nat}, (∀ s ∈ M, textsV s) → EsR σ η (entV M n) (entsL n (kvM (M.map SV.spn)))
  | [], _, _ => trivial
  | s :: _, _, h => ⟨key_conc.2 rfl, aggS_conc.2 ⟨h s List.mem_cons_self, rfl⟩, rfl, ents_es (fun z hz => h z (List.mem_cons_of_mem _ hz))⟩
theorem entV_length : ∀ (M : List SV) (n : Nat), (entV M n).length = M.length
  | [], _ => rfl
  | s :: M, n => by simp [entV, entV_length M (n + 1)]
theorem entV_append : ∀ (M L : List SV) (n : Nat), entV (M ++ L) n = entV M n ++ entV L (n + M.length)
  | [], _, _ => rfl
  | s :: M, L, n => by rw [List.cons_append, entV, entV, entV_append M L (n + 1), List.cons_append, List.length_cons, show n + 1 + M.length = n + (M.length + 1) by omega]
theorem apart_nodup : ∀ {M : List SV}, apartV M = true → ((M.map SV.spn).map keyOf).Nodup
  | [], _ => by simp
  | s :: M, h => by
    rw [apartV, Bool.and_eq_true, allV_iff] at h
    rw [List.map_cons, List.map_cons, List.nodup_cons]
    refine ⟨fun hm => ?_, apart_nodup h.2⟩
    rw [List.map_map, List.mem_map] at hm
    obtain ⟨t, ht, e⟩ := hm
    have := h.1 t ht
    have e1 : (t.tr : Int) = s.tr := congrArg Prod.fst e
    have e2 : (t.id : Int) = s.id := congrArg Prod.snd e
    have e1' : s.tr = t.tr := by omega
    have e2' : s.id = t.id := by omega
    unfold sameV at this
    rw [e1', e2', Nat.beq_refl, Nat.beq_refl] at this
    cases this

/-! ### what is taken -/
theorem put_new {s : Spn} : ∀ {M : List Spn}, keyOf s ∉ M.map keyOf → putM s M = M ++ [s]
  | [], _ => rfl
  | m :: t, h => by
    rw [List.map_cons, List.mem_cons, not_or] at h
    rw [putM, if_neg h.1, put_new h.2]; rfl
theorem take_fresh (now : Int) : ∀ (L M : List Spn) (K : List (Int × Int)), (∀ s ∈ L, chkB s = true ∧ lateB s.st now = false) → ((M ++ L).map keyOf).Nodup → (∀ s ∈ L, keyOf s ∉ K) → takeF now L M K = (M ++ L, L.length)
  | [], M, K, _, _, _ => by simp [takeF]
  | s :: t, M, K, h1, h2, h3 => by
    have hs := h1 s List.mem_cons_self
    have hn : keyOf s ∉ M.map keyOf := by
      rw [List.map_append, List.nodup_append] at h2
      intro hm
      exact h2.2.2 _ hm _ (by simp) rfl
    have hb : hasB now (keyOf s) M = false := by
      unfold hasB
      cases e : lookM (keyOf s) M with
      | none => rfl
      | some o =>
        obtain ⟨ho, hk⟩ := look_mem e
        exact absurd (List.mem_map.2 ⟨o, ho, hk⟩) hn
    have hsk : skipB now M K s = false := by
      unfold skipB
      rw [hs.1, hs.2, hb, decide_eq_false (h3 s List.mem_cons_self)]; rfl
    have ht : s ∉ t ∧ ∀ x ∈ t, keyOf x ≠ keyOf s := by
      rw [List.map_append, List.nodup_append, List.map_cons, List.nodup_cons] at h2
      exact ⟨fun hm => h2.2.1.1 (List.mem_map.2 ⟨s, hm, rfl⟩), fun x hx e => h2.2.1.1 (List.mem_map.2 ⟨x, hx, e⟩)⟩
    rw [take_put hsk, put_new hn, take_fresh now t (M ++ [s]) (K ++ [keyOf s]) (fun x hx => h1 x (List.mem_cons_of_mem _ hx)) (by rw [List.append_assoc]; exact h2)
      (fun x hx hm => by rcases List.mem_append.1 hm with hm | hm; exact h3 x (List.mem_cons_of_mem _ hx) hm; exact ht.2 x hx (by simpa using hm))]
    simp
/-! ### what is sorted -/
theorem ins_perm (s : SV) : ∀ l, (insV s l).Perm (s :: l)
  | [] => List.Perm.refl _
  | t :: l => by
    unfold insV
    cases aheadV s t with
    | true => exact List.Perm.refl _
    | false => exact ((ins_perm s l).cons t).trans (List.Perm.swap s t l)
theorem sortV_perm : ∀ l, (sortV l).Perm l
  | [] => List.Perm.refl _
  | s :: l => (ins_perm s (sortV l)).trans ((sortV_perm l).cons s)
theorem pairs_sorted : ∀ {l : List SV}, pairsV l = true → (l.map SV.spn).Pairwise keyLt
  | [], _ => List.Pairwise.nil
  | s :: l, h => by
    rw [pairsV, Bool.and_eq_true, allV_iff] at h
    rw [List.map_cons, List.pairwise_cons]
    refine ⟨fun x hx => ?_, pairs_sorted h.2⟩
    obtain ⟨t, ht, rfl⟩ := List.mem_map.1 hx
    have := h.1 t ht
    unfold aheadV at this
    rw [Bool.or_eq_true, Bool.and_eq_true, Nat.blt_eq, Nat.blt_eq, Nat.beq_eq] at this
    unfold keyLt SV.spn
    simp only
    omega
/-- One sorted row alone: of spans no two of which have the same key. -/
theorem sorted_one : ∀ {a b : List Spn}, a.Perm b → SortedS a → b.Pairwise keyLt → a = b
  | a, [], h, _, _ => List.Perm.eq_nil h
  | [], x :: b, h, _, _ => by have := h.length_eq; simp at this
  | y :: a, x :: b, h, ha, hb => by
    have hx : x = y := by
      have h1 : x ∈ y :: a := h.symm.subset List.mem_cons_self
      have h2 : y ∈ x :: b := h.subset List.mem_cons_self
      rcases List.mem_cons.1 h1 with e | h1
      · exact e
      rcases List.mem_cons.1 h2 with e | h2
      · exact e.symm
      · have := (List.pairwise_cons.1 ha).1 x h1
        exact absurd ((List.pairwise_cons.1 hb).1 y h2) this
    subst hx
    rw [sorted_one ((List.perm_cons x).1 h) (List.pairwise_cons.1 ha).2 (List.pairwise_cons.1 hb).2]
end Go.Proofs.YtelhdbkkigehgaaGreatDoor

/- (*Model).Take and (*Model).Spans, as summaries: spans that are new, none late. -/
namespace Go.Proofs.YtelhdbkkigehgaaGreatDoor
open Go.RowKit Go.Eng

noncomputable section
def slV (h : Heap) : AV → Option (List SV)
  | .nils => some []
  | .slice n o len _ _ => (cells? h n).bind fun tc => (row? tc.2 o (len * 8)).bind fun r => (rowSV r).bind fun L => bif Nat.beq L.length len then some L else none
  | _ => none
def mapV (h : Heap) (n o : Nat) : Option (Nat × Nat × List SV) := (cells? h n).bind fun tc => match nth tc.2 o with
  | some (.map m) => match h.get m with
    | some (.map es cl) => (esSV es 0).bind fun M => bif Nat.beq cl M.length then some (m, cl, M) else none
    | _ => none
  | _ => none
def mtkS (args : List AV) (h : Heap) (c : Nat) : Option CRes := match args with
  | [.ptr n o, sl, .int .i64 (.ofNat now)] => bif Nat.ble now 4294967296 then
      (mapV h n o).bind fun x => (slV h sl).bind fun L =>
        bif Nat.ble L.length 1000000 && (allV (fun s => chkB s.spn) x.2.2 && (allV (freshV now) L && apartV (x.2.2 ++ L))) then
          outC (putMap h x.1 (entV (x.2.2 ++ L) 0) (x.2.1 + L.length) fun h => some (.val (.int .i64 (.ofNat L.length)) h c))
        else none
    else none
  | _ => none
def mspS (args : List AV) (h : Heap) (c : Nat) : Option CRes := match args with
  | [.ptr n o, .int .i64 (.ofNat now)] => bif Nat.ble now 4294967296 then
      (mapV h n o).bind fun x => bif Nat.ble x.2.2.length 1000000 && (allV (freshV now) x.2.2 && pairsV (sortV x.2.2)) then
        match sortV x.2.2 with
        | [] => none
        | s :: l => outC (newCells h c 35 (cellsV (s :: l)) (.slice c 0 (s :: l).length (s :: l).length true))
      else none
    else none
  | _ => none
end

theorem chk_fits {m : Spn} (h : chkB m = true) : Fits m := by
  unfold chkB nameB at h
  simp at h
  unfold Fits
  omega
theorem mapV_ok {σ : Sig} {η : Env} {h : Heap} {c n o m cl : Nat} {M : List SV} {w : World} {l : Eng.Loc} (e : mapV h n o = some (m, cl, M)) (H : HR Tryz.prog σ η h c w) (hl : σ n = some l) (hM : ∀ s ∈ M, chkB s.spn = true) :
    ∃ es lm ms, h.get m = some (.map es cl) ∧ σ m = some lm ∧ w.heap[lm.blk]? = some (.map ms cl) ∧ cl = M.length ∧ ms.toList = entsL 0 (kvM (M.map SV.spn)) ∧ (∀ s ∈ M, textsV s) ∧ ModelAt w l.blk (l.off + o) lm.blk (M.map SV.spn) := by
  unfold mapV at e
  rw [Option.bind_eq_some_iff] at e
  obtain ⟨⟨t, cs⟩, hc, e⟩ := e
  split at e
  rotate_left
  · cases e
  rename_i m' em
  split at e
  rotate_left
  · cases e
  rename_i es cl' hg
  rw [Option.bind_eq_some_iff] at e
  obtain ⟨M', hes, e⟩ := e
  cases q : Nat.beq cl' M'.length with
  | false => rw [q] at e; cases e
  | true =>
  rw [q, cond_true] at e
  cases e
  have q := Nat.eq_of_beq_eq_true q
  obtain ⟨us, u1, u2, u3, _⟩ := H.cells hc hl
  rw [nth_eq] at em
  obtain ⟨u, q1, q2⟩ := (concs_get u1 o).2 _ em
  obtain ⟨lm, hlm, rfl⟩ := conc_map.1 q2
  have hcell := u3 _ _ q1
  obtain ⟨ms, hb, hE⟩ := H.mapAt hg hlm
  obtain ⟨f1, f2, f3⟩ := es_ents hes hE
  refine ⟨es, lm, ms, hg, hlm, hb, q, f1, f2, hcell, ?_, ?_⟩
  · unfold MapIs
    rw [← f1, hb, q]
    simp [kvM]
  · intro s hs
    obtain ⟨z, hz, rfl⟩ := List.mem_map.1 hs
    exact hM z hz
theorem slV_ok {σ : Sig} {η : Env} {h : Heap} {c : Nat} {sl : AV} {L : List SV} {w : World} {v : Value} (e : slV h sl = some L) (H : HR Tryz.prog σ η h c w) (hv : conc σ η sl = some v) : ReadsS w v (L.map SV.spn) ∧ ∀ s ∈ L, textsV s := by
  unfold slV at e
  split at e
  · cases e
    rw [conc_nils] at hv
    subst hv
    exact ⟨⟨none, 0, rfl, .inl rfl⟩, by simp⟩
  · rename_i n o len cap fl
    rw [Option.bind_eq_some_iff] at e
    obtain ⟨⟨t, cs⟩, hc, e⟩ := e
    rw [Option.bind_eq_some_iff] at e
    obtain ⟨r, hr, e⟩ := e
    rw [Option.bind_eq_some_iff] at e
    obtain ⟨L', hL, e⟩ := e
    cases q : Nat.beq L'.length len with
    | false => rw [q] at e; cases e
    | true =>
    rw [q, cond_true] at e
    cases e
    have q := Nat.eq_of_beq_eq_true q
    obtain ⟨l, hl, rfl⟩ := conc_slice.1 hv
    obtain ⟨vs, c1, _, _, c4, _⟩ := H.row hc hl hr
    have hr2 := rowSV_some hL
    subst hr2
    obtain ⟨ts, rfl⟩ := rows_conc.1 c1
    subst q
    exact ⟨⟨some ⟨l.blk, l.off + o, none⟩, cap + (if fl = true then l.slack else 0), by rw [List.length_map], .inr ⟨_, _, rfl, c4⟩⟩, ts⟩
  · cases e

theorem mtk_ok {η : Env} {args : List AV} {h : Heap} {c : Nat} {v : AV} {h' : Heap} {c' : Nat} (he : mtkS args h c = some (.mk v h' c')) {σ : Sig} {w : World} {avs : List Value} (H : HR Tryz.prog σ η h c w) (ha : concs σ η args = some avs) : Calls Tryz.prog 336 avs.toArray w (Done Tryz.prog η σ h c w v h' c') := by
  unfold mtkS at he
  split at he
  rotate_left
  · cases he
  rename_i n o sl now
  obtain ⟨pv, r0, hp, hr0, rfl⟩ := concs_cons.1 ha
  obtain ⟨sv, r1, hs, hr1, rfl⟩ := concs_cons.1 hr0
  obtain ⟨nv, r2, hn, hr2, rfl⟩ := concs_cons.1 hr1
  rw [concs_nil] at hr2; cases hr2
  obtain ⟨l, hl, rfl⟩ := conc_ptr.1 hp
  rw [conc_int] at hn
  subst hn
  cases q : Nat.ble now 4294967296 with
  | false => rw [q] at he; cases he
  | true =>
  rw [q, cond_true, Option.bind_eq_some_iff] at he
  have q := Nat.le_of_ble_eq_true q
  obtain ⟨⟨m, cl, M⟩, hm, he⟩ := he
  rw [Option.bind_eq_some_iff] at he
  obtain ⟨L, hL, he⟩ := he
  cases q2 : (Nat.ble L.length 1000000 && (allV (fun s => chkB s.spn) M && (allV (freshV now) L && apartV (M ++ L)))) with
  | false => simp only [q2, cond_false] at he; cases he
  | true =>
  simp only [q2, cond_true] at he
  rw [Bool.and_eq_true, Bool.and_eq_true, Bool.and_eq_true, allV_iff, allV_iff] at q2
  obtain ⟨q3, q4, q5, q6⟩ := q2
  have q3 := Nat.le_of_ble_eq_true q3
  obtain ⟨es, lm, ms, hg, hlm, hb, rfl, hms, tM, hA⟩ := mapV_ok hm H hl q4
  obtain ⟨hR, tL⟩ := slV_ok hL H hs
  have hnd := apart_nodup q6
  have hF : ∀ s ∈ L.map SV.spn, chkB s = true ∧ lateB s.st (now : Int) = false := fun s hs => by
    obtain ⟨z, hz, rfl⟩ := List.mem_map.1 hs
    have := q5 z hz
    unfold freshV at this
    rw [Bool.and_eq_true, Bool.not_eq_true'] at this
    exact this
  have hT := take_fresh (now : Int) (L.map SV.spn) (M.map SV.spn) [] hF (by rw [← List.map_append]; exact hnd) (by simp)
  have hHeld : Held (M.map SV.spn) := ⟨hA.may, by rw [List.map_append, List.map_append, List.nodup_append] at hnd; exact hnd.1⟩
  have he := outC_some he
  obtain ⟨hbn, he⟩ := putMap_ok he
  cases he
  refine Calls.mono (take_all (now : Int) (by omega) (by omega) hA hHeld hR (by rw [List.length_map]; omega) (fun m hm => chk_fits (hF m hm).1)) ?_
  rintro e w' ⟨rfl, hK, hA'⟩
  rw [hT] at hA' ⊢
  refine ⟨_, σ, rfl, conc_int.2 (by simp), ?_⟩
  have hmap : w'.heap[lm.blk]? = some (.map (entsL 0 (kvM ((M ++ L).map SV.spn))).toArray (M.length + L.length)) := by
    have := hA'.map
    unfold MapIs at this
    rw [this, List.map_append]
    simp [kvM]
  have W1 := map_ok (cl' := M.length + L.length) H hbn hg hlm hb (ms' := (entsL 0 (kvM ((M ++ L).map SV.spn))).toArray) (es' := entV (M ++ L) 0) (by
    rw [List.toList_toArray]
    exact ents_es (fun s hs => by rcases List.mem_append.1 hs with hs | hs; exact tM s hs; exact tL s hs))
  have hlt : lm.blk < w.heap.size := (Array.getElem?_eq_some_iff.1 hb).1
  refine W1.trans (Went.same W1.rel (fun k hk => ?_) ?_ hK.os hK.tape hK.output)
  · simp only [Array.size_setIfInBounds] at hk
    by_cases e : k = lm.blk
    · subst e
      rw [hmap]
      simp [hlt]
    · rw [hK.block k hk e]
      simp [Array.getElem?_setIfInBounds_ne (Ne.symm e)]
  · simp only [Array.size_setIfInBounds]
    exact hK.size

theorem msp_ok {η : Env} {args : List AV} {h : Heap} {c : Nat} {v : AV} {h' : Heap} {c' : Nat} (he : mspS args h c = some (.mk v h' c')) {σ : Sig} {w : World} {avs : List Value} (H : HR Tryz.prog σ η h c w) (ha : concs σ η args = some avs) : Calls Tryz.prog 226 avs.toArray w (Done Tryz.prog η σ h c w v h' c') := by
  unfold mspS at he
  split at he
  rotate_left
  · cases he
  rename_i n o now
  obtain ⟨pv, r0, hp, hr0, rfl⟩ := concs_cons.1 ha
  obtain ⟨nv, r2, hn, hr2, rfl⟩ := concs_cons.1 hr0
  rw [concs_nil] at hr2; cases hr2
  obtain ⟨l, hl, rfl⟩ := conc_ptr.1 hp
  rw [conc_int] at hn
  subst hn
  cases q : Nat.ble now 4294967296 with
  | false => rw [q] at he; cases he
  | true =>
  rw [q, cond_true, Option.bind_eq_some_iff] at he
  have q := Nat.le_of_ble_eq_true q
  obtain ⟨⟨m, cl, M⟩, hm, he⟩ := he
  cases q2 : (Nat.ble M.length 1000000 && (allV (freshV now) M && pairsV (sortV M))) with
  | false => simp only [q2, cond_false] at he; cases he
  | true =>
  simp only [q2, cond_true] at he
  rw [Bool.and_eq_true, Bool.and_eq_true, allV_iff] at q2
  obtain ⟨q3, q5, q6⟩ := q2
  have q3 := Nat.le_of_ble_eq_true q3
  have hF : ∀ s ∈ M, chkB s.spn = true ∧ lateB s.spn.st (now : Int) = false := fun z hz => by
    have := q5 z hz
    unfold freshV at this
    rw [Bool.and_eq_true, Bool.not_eq_true'] at this
    exact this
  obtain ⟨es, lm, ms, hg, hlm, hb, rfl, hms, tM, hA⟩ := mapV_ok hm H hl (fun s hs => (hF s hs).1)
  refine Calls.mono (spans_all (now : Int) (by omega) (by omega) hA (by rw [List.length_map]; exact Nat.le_trans q3 (by decide))) ?_
  rintro e w' ⟨hK, sv, R, rfl, hown, hperm, hsort⟩
  have hlive : liveF (now : Int) (M.map SV.spn) = M.map SV.spn := by
    unfold liveF
    rw [List.filter_eq_self]
    intro s hs
    obtain ⟨z, hz, rfl⟩ := List.mem_map.1 hs
    rw [(hF z hz).2]; rfl
  rw [hlive] at hperm
  have hR : R = (sortV M).map SV.spn := sorted_one (hperm.trans ((sortV_perm M).symm.map _)) hsort (pairs_sorted q6)
  have tS : ∀ s ∈ sortV M, textsV s := fun s hs => tM s ((sortV_perm M).subset hs)
  subst hR
  split at he
  · cases he
  rename_i s0 l0 es0
  rw [es0] at hown tS
  have he := outC_some he
  unfold newCells fCells at he
  rw [fAVs_eq] at he
  obtain ⟨hcb, he⟩ := putObj_ok he
  rw [fNat_eq] at he
  cases he
  obtain ⟨r1, r2⟩ := hown
  rcases r2 with ⟨_, r2⟩ | ⟨g, cap, cur, rfl, g1, g2, g3, g4, g5, g6⟩
  · simp at r2
  rw [List.length_map] at g3 g6 ⊢
  have h8 : Tryz.prog.cellsOf 35 = 8 := by kernel_rfl
  have wt := fresh_ok (P := Tryz.prog) (l := ⟨g, 0, cap - (s0 :: l0).length⟩) (o := .cells 35 (cellsV (s0 :: l0))) (w' := w') H hcb (Nat.le_of_succ_le g1) (fun k hk => hK.block k hk (fun f => f)) hK.size hK.os hK.tape hK.output
    ⟨cur, (0, 0), cellsS ((s0 :: l0).map SV.spn), g2, fun j _ q => by omega, concs_ext (ext_upd (H.new c (Nat.le_refl _))) (rows_conc.2 ⟨tS, rfl⟩), cells_one _, fun j y hj => ?_, ?_⟩
  · refine ⟨_, _, rfl, conc_slice.2 ⟨_, upd_same _ _ _, ?_⟩, wt⟩
    simp only [if_true]
    rw [show (s0 :: l0).length + (cap - (s0 :: l0).length) = cap by omega]
  · rw [← g6] at hj
    rw [List.getElem?_take] at hj
    split at hj
    · simpa using hj
    · cases hj
  · rw [h8, cellsS_length, List.length_map, g5]
    refine ⟨?_, by simp⟩
    show 0 + (s0 :: l0).length * 8 + (cap - (s0 :: l0).length) * 8 ≤ cap * 8
    omega
end Go.Proofs.YtelhdbkkigehgaaGreatDoor

