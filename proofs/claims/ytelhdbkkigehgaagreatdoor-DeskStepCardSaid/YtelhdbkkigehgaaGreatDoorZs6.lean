/- A part of the proof. -/
import Derived.Test.YtelhdbkkigehgaaGreatDoorZs4

/- The desk's step of numbers. (Printed by gen_layd.py.) -/
namespace Go.Proofs.YtelhdbkkigehgaaGreatDoor
open Go.RowKit

theorem cut_1 (g len cap : Nat) (hl : 1 ≤ len) (hc : len ≤ cap) : ∃ q, (1 < len → q = 1) ∧ ∀ w, (Instr.slice 36 (.slice (some ⟨g, 0, none⟩) len cap) (some (.int .i64 1)) none none).run Tryz.prog w = .ok (.slice (some ⟨g, q, none⟩) (len - 1) (cap - 1)) w := by
  have i1 : (1 : Int) ≤ (len : Int) := by omega
  by_cases h : cap = 1
  · have : len = 1 := by omega
    subst this; subst h
    exact ⟨0, fun e => by omega, fun w => by simp [go_sem]⟩
  · exact ⟨1, fun _ => rfl, fun w => by simp [go_sem, h, i1]⟩
theorem cut_2 (g len cap : Nat) (hl : 2 ≤ len) (hc : len ≤ cap) : ∃ q, (2 < len → q = 2) ∧ ∀ w, (Instr.slice 36 (.slice (some ⟨g, 0, none⟩) len cap) (some (.int .i64 2)) none none).run Tryz.prog w = .ok (.slice (some ⟨g, q, none⟩) (len - 2) (cap - 2)) w := by
  have i1 : (2 : Int) ≤ (len : Int) := by omega
  by_cases h : cap = 2
  · have : len = 2 := by omega
    subst this; subst h
    exact ⟨0, fun e => by omega, fun w => by simp [go_sem]⟩
  · exact ⟨2, fun _ => rfl, fun w => by simp [go_sem, h, i1]⟩
/-- Where numbers lie that are some. -/
theorem IntsR.at {w : World} {b : Nat} {v : Value} {ns : List Int} (h : IntsR w b v ns) (hne : ns ≠ []) : ∃ g cap, v = .slice (some ⟨g, 0, none⟩) ns.length cap ∧ b ≤ g ∧ ns.length ≤ cap ∧ ∀ j n, ns[j]? = some n → w.cell? ⟨g, 0 + j, none⟩ = some (.int .i64 n) := by
  obtain ⟨ao, cap, rfl, h2⟩ := keep_of h
  obtain ⟨g, q, rfl, hb, hc⟩ := h2.resolve_left hne
  rcases h.2 with ⟨h3, _⟩ | ⟨g', cap', _, h3, _, _, h4, _⟩
  · cases h3
  · cases h3
    exact ⟨g, cap, rfl, hb, h4, hc⟩
set_option maxHeartbeats 4000000 in
set_option maxRecDepth 100000 in
theorem layd_N {w : World} {b : Nat} {v : Value} {k n : Int} {ns : List Int} (hk : k = 7 ∨ k = 8 ∨ k = 9 ∨ k = 10 ∨ k = 11 ∨ k = 12 ∨ k = 13) (h : IntsR w b v (n :: ns)) :
    Calls Tryz.prog 40 #[.int .i64 k, v] w fun e w' => (∃ u, e = .returned u ∧ StepIs w' b u k 0 n spZ []) ∧ Kept (fun _ => False) w w' := by
  obtain ⟨g, cap, rfl, _, hc, hr⟩ := h.at (by simp)
  have c0 := hr 0 n rfl
  obtain ⟨len, hlen⟩ : ∃ len, (n :: ns).length = len := ⟨_, rfl⟩
  have hl : (0 : Int) < (len : Int) := by rw [← hlen]; simp
  rw [hlen]
  have b1 : g < w.heap.size := World.block_lt_of_cell? _ _ c0
  have b2 : g < w.heap.size + 1 := by omega
  clear h hr hlen hc
  rcases hk with rfl | rfl | rfl | rfl | rfl | rfl | rfl
  all_goals
    go_enter Tryz.func40, Tryz.ntmps40
    go_wp2_with fail
    (try simp only [Exit.inBlock, Exit.then])
    refine bodyPost_ret (v := Stp.val ⟨_, 0, n, spZ, none, 0, 0⟩) ?_ rfl ⟨⟨_, rfl, StepIs.none⟩, ((Kept.refl _ w).alloc _).alloc _⟩
    rw [res_cell1 rfl]
    go_simp
    rfl
set_option maxHeartbeats 4000000 in
set_option maxRecDepth 100000 in
theorem layd_O {w : World} {b : Nat} {v : Value} {k n : Int} {ns : List Int} (hk : k = 2 ∨ k = 3 ∨ k = 5 ∨ k = 6 ∨ k = 17) (h : IntsR w b v (n :: ns)) :
    Calls Tryz.prog 40 #[.int .i64 k, v] w fun e w' => (∃ u, e = .returned u ∧ StepIs w' b u k n 0 spZ []) ∧ Kept (fun _ => False) w w' := by
  obtain ⟨g, cap, rfl, _, hc, hr⟩ := h.at (by simp)
  have c0 := hr 0 n rfl
  obtain ⟨len, hlen⟩ : ∃ len, (n :: ns).length = len := ⟨_, rfl⟩
  have hl : (0 : Int) < (len : Int) := by rw [← hlen]; simp
  rw [hlen]
  have b1 : g < w.heap.size := World.block_lt_of_cell? _ _ c0
  have b2 : g < w.heap.size + 1 := by omega
  clear h hr hlen hc
  rcases hk with rfl | rfl | rfl | rfl | rfl
  all_goals
    go_enter Tryz.func40, Tryz.ntmps40
    go_wp2_with fail
    (try simp only [Exit.inBlock, Exit.then])
    refine bodyPost_ret (v := Stp.val ⟨_, n, 0, spZ, none, 0, 0⟩) ?_ rfl ⟨⟨_, rfl, StepIs.none⟩, ((Kept.refl _ w).alloc _).alloc _⟩
    rw [res_cell1 rfl]
    go_simp
    rfl
set_option maxHeartbeats 4000000 in
set_option maxRecDepth 100000 in
theorem layd_T {w : World} {b : Nat} {v : Value} {ns : List Int} (h : IntsR w b v ns) :
    Calls Tryz.prog 40 #[.int .i64 14, v] w fun e w' => (∃ u, e = .returned u ∧ StepIs w' b u 14 0 0 spZ []) ∧ Kept (fun _ => False) w w' := by
  obtain ⟨ao, cap, rfl, _⟩ := keep_of h
  clear h
  go_enter Tryz.func40, Tryz.ntmps40
  go_wp2_with fail
  (try simp only [Exit.inBlock, Exit.then])
  refine bodyPost_ret (v := Stp.val ⟨_, 0, 0, spZ, none, 0, 0⟩) ?_ rfl ⟨⟨_, rfl, StepIs.none⟩, ((Kept.refl _ w).alloc _).alloc _⟩
  rw [res_cell1 rfl]
  go_simp
  rfl
set_option maxHeartbeats 4000000 in
set_option maxRecDepth 100000 in
theorem layd_R {w : World} {b : Nat} {v : Value} {n m : Int} {ks : List Int} (h : IntsR w b v (n :: m :: ks)) :
    Calls Tryz.prog 40 #[.int .i64 4, v] w fun e w' => (∃ u, e = .returned u ∧ StepIs w' b u 4 n m spZ []) ∧ Kept (fun _ => False) w w' := by
  obtain ⟨g, cap, rfl, hb, hc, hr⟩ := h.at (by simp)
  have c0 := hr 0 n rfl
  have c1 := hr 1 m rfl
  obtain ⟨len, hlen⟩ : ∃ len, (n :: m :: ks).length = len := ⟨_, rfl⟩
  have hlN : 0 < len := by rw [← hlen]; simp
  have hl2 : (1 : Int) < (len : Int) := by rw [← hlen]; simp; omega
  have LL := Lib.hid hlen
  have HR := Lib.hid hr
  have HB := Lib.hid hb
  rw [hlen] at hc ⊢
  have b1 : g < w.heap.size := World.block_lt_of_cell? _ _ c0
  have b2 : g < w.heap.size + 1 := by omega
  have BL := Lib.hid b1
  clear h hr hb hlen hc
  simp only [Nat.zero_add] at c0 c1
  go_enter Tryz.func40, Tryz.ntmps40
  go_wp2_with fail
  go_region_held3 (fun w' => w'.cell? ⟨g, 0, none⟩ = some (.int .i64 n) ∧ w'.cell? ⟨g, 1, none⟩ = some (.int .i64 m)) (first | go_keep | (simp [go_sem, *]; done)) (fail)
  (try simp only [Exit.inBlock, Exit.then])
  go_wp2_with fail
  (try simp only [Exit.inBlock, Exit.then])
  refine bodyPost_ret (v := Stp.val ⟨4, n, m, spZ, none, 0, 0⟩) ?_ rfl ⟨⟨_, rfl, StepIs.none⟩, (((Kept.refl _ w).alloc _).alloc _).drew⟩
  · rw [res_cell1 rfl]
    go_simp
    rfl
set_option maxHeartbeats 4000000 in
set_option maxRecDepth 100000 in
theorem layd_C {w : World} {b : Nat} {v : Value} {n : Int} {ks : List Int} (h : IntsR w b v (n :: ks)) :
    Calls Tryz.prog 40 #[.int .i64 15, v] w fun e w' => (∃ u, e = .returned u ∧ StepIs w' b u 15 n 0 spZ ks) ∧ Kept (fun _ => False) w w' := by
  obtain ⟨g, cap, rfl, hb, hc, hr⟩ := h.at (by simp)
  have c0 := hr 0 n rfl
  obtain ⟨len, hlen⟩ : ∃ len, (n :: ks).length = len := ⟨_, rfl⟩
  have hlN : 0 < len := by rw [← hlen]; simp
  have LL := Lib.hid hlen
  have HR := Lib.hid hr
  have HB := Lib.hid hb
  rw [hlen] at hc ⊢
  obtain ⟨q, hq, hs⟩ := cut_1 g len cap (by omega) hc
  have HQ := Lib.hid hq
  have hz : len - 1 = ks.length := by rw [← hlen]; simp
  rw [hz] at hs
  clear hq hz
  have b1 : g < w.heap.size := World.block_lt_of_cell? _ _ c0
  have b2 : g < w.heap.size + 1 := by omega
  have BL := Lib.hid b1
  clear h hr hb hlen hc
  simp only [Nat.zero_add] at c0
  go_enter Tryz.func40, Tryz.ntmps40
  go_wp2_with fail
  go_region_held3 (fun w' => w'.cell? ⟨g, 0, none⟩ = some (.int .i64 n)) (first | go_keep | (simp [go_sem, *]; done)) (fail)
  (try simp only [Exit.inBlock, Exit.then])
  go_wp2_with fail
  (try simp only [Exit.inBlock, Exit.then])
  refine bodyPost_ret (v := Stp.val ⟨15, n, 0, spZ, some ⟨g, q, none⟩, ks.length, cap - 1⟩) ?_ rfl ⟨⟨_, rfl, some ⟨g, q, none⟩, cap - 1, rfl, ?_⟩, (((Kept.refl _ w).alloc _).alloc _).drew⟩
  · rw [res_cell1 rfl]
    go_simp
    rfl
  · refine KeepR.kept (S := fun _ => False) (w := w) ?_ (((Kept.refl _ w).alloc _).alloc _).drew (fun _ _ f => f)
    refine ⟨_, _, rfl, ?_⟩
    by_cases hk : ks = []
    · exact .inl hk
    · refine .inr ⟨g, q, rfl, HB.out, fun j x hx => ?_⟩
      have h1 := HQ.out (by have e := LL.out; have e2 : 0 < ks.length := List.length_pos_iff.2 hk; simp only [List.length_cons] at e; omega)
      have h2 := HR.out (j + 1) x (by simpa using hx)
      rw [h1]
      rwa [Nat.zero_add, Nat.add_comm] at h2
set_option maxHeartbeats 4000000 in
set_option maxRecDepth 100000 in
theorem layd_F {w : World} {b : Nat} {v : Value} {n m : Int} {ks : List Int} (h : IntsR w b v (n :: m :: ks)) :
    Calls Tryz.prog 40 #[.int .i64 16, v] w fun e w' => (∃ u, e = .returned u ∧ StepIs w' b u 16 n m spZ ks) ∧ Kept (fun _ => False) w w' := by
  obtain ⟨g, cap, rfl, hb, hc, hr⟩ := h.at (by simp)
  have c0 := hr 0 n rfl
  have c1 := hr 1 m rfl
  obtain ⟨len, hlen⟩ : ∃ len, (n :: m :: ks).length = len := ⟨_, rfl⟩
  have hlN : 0 < len := by rw [← hlen]; simp
  have hl2 : (1 : Int) < (len : Int) := by rw [← hlen]; simp; omega
  have LL := Lib.hid hlen
  have HR := Lib.hid hr
  have HB := Lib.hid hb
  rw [hlen] at hc ⊢
  obtain ⟨q, hq, hs⟩ := cut_2 g len cap (by omega) hc
  have HQ := Lib.hid hq
  have hz : len - 2 = ks.length := by rw [← hlen]; simp
  rw [hz] at hs
  clear hq hz
  have b1 : g < w.heap.size := World.block_lt_of_cell? _ _ c0
  have b2 : g < w.heap.size + 1 := by omega
  have BL := Lib.hid b1
  clear h hr hb hlen hc
  simp only [Nat.zero_add] at c0 c1
  go_enter Tryz.func40, Tryz.ntmps40
  go_wp2_with fail
  go_region_held3 (fun w' => w'.cell? ⟨g, 0, none⟩ = some (.int .i64 n) ∧ w'.cell? ⟨g, 1, none⟩ = some (.int .i64 m)) (first | go_keep | (simp [go_sem, *]; done)) (fail)
  (try simp only [Exit.inBlock, Exit.then])
  go_wp2_with fail
  (try simp only [Exit.inBlock, Exit.then])
  refine bodyPost_ret (v := Stp.val ⟨16, n, m, spZ, some ⟨g, q, none⟩, ks.length, cap - 2⟩) ?_ rfl ⟨⟨_, rfl, some ⟨g, q, none⟩, cap - 2, rfl, ?_⟩, (((Kept.refl _ w).alloc _).alloc _).drew⟩
  · rw [res_cell1 rfl]
    go_simp
    rfl
  · refine KeepR.kept (S := fun _ => False) (w := w) ?_ (((Kept.refl _ w).alloc _).alloc _).drew (fun _ _ f => f)
    refine ⟨_, _, rfl, ?_⟩
    by_cases hk : ks = []
    · exact .inl hk
    · refine .inr ⟨g, q, rfl, HB.out, fun j x hx => ?_⟩
      have h1 := HQ.out (by have e := LL.out; have e2 : 0 < ks.length := List.length_pos_iff.2 hk; simp only [List.length_cons] at e; omega)
      have h2 := HR.out (j + 2) x (by simpa using hx)
      rw [h1]
      rwa [Nat.zero_add, Nat.add_comm] at h2
end Go.Proofs.YtelhdbkkigehgaaGreatDoor

